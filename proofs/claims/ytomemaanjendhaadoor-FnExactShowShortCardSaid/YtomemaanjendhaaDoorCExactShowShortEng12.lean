/- What is proved: any operation that the engine knows does to the machine's state what the engine reckons; and what is reckoned hangs on the operation's own operands and on the objects that they name. Each operation bears its own side condition. -/
import Derived.Test.YtomemaanjendhaaDoorCExactShowShortEng11
set_option linter.unusedVariables false
set_option linter.unusedSimpArgs false
namespace Go.Eng
open Go

variable {P : Program} {s : S} {o : Oper} {ev : Ev}

/-! ### small ones -/
def evNilCheck (O : Nat → AO) (x : AV) : Option Ev :=
  match x with
  | .pt k _ => match O k with
    | .box _ => some ⟨x, [], [], none⟩
    | _ => none
  | .pe k _ _ => match O k with
    | .arr .. => some ⟨x, [], [], none⟩
    | _ => none
  | .bp .. | .be .. | .fn .. => some ⟨x, [], [], none⟩
  | _ => none

theorem snd_nilCheck {nin : Nat} {x : Operand} (ho : o.op = .nilCheck x) (he : evNilCheck s.O (evO s x) = some ev) : Sound P nin o s ev := by
  have fin : ∀ {a : Act} {b p : Nat} {w : World}, a.eval x = .pointer (some ⟨b, p, none⟩) → (execOp a.eval o).run P w = .ok (.value (a.eval x)) w := fun e => by
    simp only [execOp, ho, e, Sem.run_pure]
  unfold evNilCheck at he
  split at he
  · rename_i k p hx
    split at he
    · rename_i cs hO
      cases he
      refine .val fun _ X N m a w hr => ?_
      have e1 := hr.eval x
      have e2 := e1
      rw [hx] at e1
      have hsh : s.sh k = .box cs.length := by simp [S.sh, hO, AO.sh]
      simp only [VR, hsh] at e1
      obtain ⟨L, _, e1⟩ := e1
      exact ⟨_, fin e1, e2⟩
    · cases he
  · rename_i k i p hx
    split at he
    · rename_i sz es hO
      cases he
      refine .val fun _ X N m a w hr => ?_
      have e1 := hr.eval x
      have e2 := e1
      rw [hx] at e1
      have hsh : s.sh k = .arr sz es.length := by simp [S.sh, hO, AO.sh]
      simp only [VR, hsh] at e1
      obtain ⟨_, L, _, e1⟩ := e1
      exact ⟨_, fin e1, e2⟩
    · cases he
  · rename_i cs p hx
    cases he
    refine .val fun _ X N m a w hr => ?_
    have e1 := hr.eval x
    have e2 := e1
    rw [hx] at e1
    simp only [VR] at e1
    obtain ⟨b, C, E, fz, e1, _⟩ := e1
    exact ⟨_, fin e1, e2⟩
  · rename_i sz e p hx
    cases he
    refine .val fun _ X N m a w hr => ?_
    have e1 := hr.eval x
    have e2 := e1
    rw [hx] at e1
    simp only [VR] at e1
    obtain ⟨b, q, C, E, fz, e1, _⟩ := e1
    exact ⟨_, fin e1, e2⟩
  · rename_i f caps hx
    cases he
    refine .val fun _ X N m a w hr => ?_
    have e1 := hr.eval x
    have e2 := e1
    rw [hx] at e1
    simp only [VR] at e1
    obtain ⟨C, e1, _⟩ := e1
    exact ⟨_, by simp only [execOp, ho, e1, Sem.run_pure], e2⟩
  · cases he

def evMinMax (b : Builtin) (x y : AV) : Option Ev :=
  match b, x, y with
  | .max, .v (.int k p), .v (.int _ q) => some ⟨.v (.int k (if q > p then q else p)), [], [], none⟩
  | .min, .v (.int k p), .v (.int _ q) => some ⟨.v (.int k (if q < p then q else p)), [], [], none⟩
  | _, _, _ => none

theorem snd_minMax {nin : Nat} {b : Builtin} {x y : Operand} {ts : Array TypeId} (ho : o.op = .call { callee := .builtin b, args := #[x, y], argTypes := ts }) (he : evMinMax b (evO s x) (evO s y) = some ev) : Sound P nin o s ev := by
  unfold evMinMax at he
  split at he
  · rename_i k p k' q hx hy
    cases he
    exact snd_scal2 hx hy fun _ a w e1 e2 => by simp [execOp, ho, e1, e2, resolve, invoke, builtin, Builtin.max_, Builtin.max2]
  · rename_i k p k' q hx hy
    cases he
    exact snd_scal2 hx hy fun _ a w e1 e2 => by simp [execOp, ho, e1, e2, resolve, invoke, builtin, Builtin.min_, Builtin.min2]
  · cases he

def evCap0 (P : Program) (t : TypeId) (x : AV) : Option Ev :=
  match x with
  | .v (.slice none 0 0) => bif isSliceT P t then some ⟨.v (.int .i64 0), [], [], none⟩ else none
  | _ => none

theorem snd_cap0 {nin : Nat} {t : TypeId} {x : Operand} (ho : o.op = .call { callee := .builtin .cap, args := #[x], argTypes := #[t] }) (he : evCap0 P t (evO s x) = some ev) : Sound P nin o s ev := by
  unfold evCap0 at he
  split at he
  · rename_i hx
    cases ht : isSliceT P t with
    | false => simp [ht] at he
    | true =>
      simp only [ht, cond_true] at he
      cases he
      obtain ⟨e, hu⟩ := isSliceT_spec ht
      exact snd_scal hx fun _ a w e1 => by simp [execOp, ho, e1, resolve, invoke, builtin, Builtin.cap_, run_underlying hu, goInt]
  · cases he

/-! ### bytes into a string -/
def byteNums : List (List Value) → Option (List Int)
  | [] => some []
  | [.int .u8 n] :: r => match byteNums r with
    | some ns => some (n :: ns)
    | none => none
  | _ => none

theorem byteNums_spec : ∀ {es : List (List Value)} {ns : List Int}, byteNums es = some ns → es.flatten = ns.map (Value.int .u8)
  | [], ns, h => by simp [byteNums] at h; subst h; rfl
  | e :: r, ns, h => by
    unfold byteNums at h
    split at h
    · rename_i heq; cases heq
    · rename_i n r' heq
      cases heq
      split at h
      · rename_i ns' hn
        cases h
        simp [byteNums_spec hn]
      · cases h
    · cases h

def isBytesStr (P : Program) (src dst : TypeId) : Bool :=
  match P.underlying src, P.underlying dst with
  | some (.slice e), some .string => match P.underlying e, P.info? e with
    | some (.int .u8), some i => Nat.beq i.size 1
    | _, _ => false
  | _, _ => false

def evBytesStr (P : Program) (O : Nat → AO) (els : Option (List (List Value))) (src dst : TypeId) (x : AV) : Option Ev :=
  bif isBytesStr P src dst then
    match srcOf 1 O els x with
    | some (es, c) => match byteNums es with
      | some ns => some ⟨.v (.string (ns.foldl (fun r n => r.push (UInt8.ofNat n.toNat)) ByteArray.empty)), [], [], some c⟩
      | none => none
    | none => none
  else none

theorem snd_bytesStr {nin : Nat} {els : Option (List (List Value))} {src dst : TypeId} {x : Operand} (ho : o.op = .convert src dst x) (he : evBytesStr P s.O els src dst (evO s x) = some ev) : Sound P nin o s ev := by
  unfold evBytesStr at he
  cases hb : isBytesStr P src dst with
  | false => simp [hb] at he
  | true =>
    simp only [hb, cond_true] at he
    split at he
    · rename_i es c hs
      split at he
      · rename_i ns hn
        cases he
        refine .val fun hc X N m a w hr => ?_
        have hsrc := srcOf_spec hs hc hr (hr.eval x)
        unfold isBytesStr at hb
        split at hb
        · rename_i e h1 h2
          split at hb
          · rename_i i h3 h4
            refine ⟨.string (ns.foldl (fun r n => r.push (UInt8.ofNat n.toNat)) ByteArray.empty), ?_, by simp only [VR]⟩
            have hf := hsrc.first (P := P) (w' := w) rfl
            have hfl := flat_length es (fun e he => (hsrc.choose_spec.choose_spec.2.1 e he).1)
            obtain ⟨ad, cap, hv, hok, _⟩ := hsrc
            simp only [execOp, ho, hv, Sem.run_bind, run_convert_bytes_string w src dst e ad es.length cap h1 h3 h2]
            cases ad with
            | none =>
              have hes : es = [] := by
                rcases (srcOf_spec hs hc hr (hr.eval x)) with ⟨ad', cap', hv', _, h0 | ⟨b, off, C, E, fz, had, _⟩⟩
                · exact h0
                · rw [hv] at hv'; cases hv'; cases had
              subst hes
              simp [byteNums] at hn
              subst hn
              simp [Conv.bytesToString]
            | some p =>
              have hl : (loadCells p es.length).run P w = .ok (ns.map (Value.int .u8)).toArray w := by
                have := hf
                rw [hv] at this
                simp only [Builtin.firstCells, Nat.mul_one] at this
                rw [this, byteNums_spec hn]
              rw [run_bytesToString w p es.length cap ns hl]
              rfl
          · cases hb
        · cases hb
      · cases he
    · cases he

/-! ### any operation -/
def nilC : Operand → Bool
  | .const .nilIface => true
  | _ => false

theorem nilC_spec {y : Operand} (h : nilC y = true) : y = .const .nilIface := by
  unfold nilC at h
  split at h
  · rfl
  · cases h

def evalCore (P : Program) (s : S) (h : Hint) (o : Oper) : Option Ev :=
  match o.op with
  | .move x | .assign x => some (evMove (evO s x))
  | .pick c a b => evPick (evO s c) (evO s a) (evO s b)
  | .extract x i => evExtract (evO s x) i
  | .makeFunc (.func f) first caps => bif first.isEmpty then some (evMakeFunc f (caps.toList.map (evO s))) else none
  | .binOp op t x y _ => match nilC y with
    | true => evErr P op t (evO s x)
    | false => evBin P h.raw op t (evO s x) (evO s y)
  | .unOp op _ x => evUn h.raw op (evO s x)
  | .convert src dst x => match evConv P h.raw src dst (evO s x) with
    | some e => some e
    | none => evBytesStr P s.O h.els src dst (evO s x)
  | .index t x i => evIndex P t (evO s x) (evO s i)
  | .indexAddr t x i => match elemOfT P t with
    | some (_, n) => evIndexAddr n s.O (evO s x) (evO s i)
    | none => none
  | .fieldAddr t x f => match fieldOff P t f with
    | some off => evField off s.O (evO s x)
    | none => none
  | .load t x => match aggOf P t with
    | some (g, n) => match gload x with
      | some q => bif g then none else some ⟨.bs false q.1 q.2, [], [], none⟩
      | none => evLoad g n s.O (evO s x)
    | none => none
  | .store t p x => match o.dst, aggOf P t with
    | none, some (_, n) => evStore n s.O h.els (evO s p) (evO s x)
    | _, _ => none
  | .slice t x lo hi mx => match elemOfT P t with
    | some (_, n) => evSlice n s h.nk (evO s x) lo hi mx
    | none => evSliceS P t s (evO s x) lo hi mx
  | .alloc t => match zeroCs P t with
    | some zs => some (evAlloc h.nk zs)
    | none => none
  | .box _ x => evBox h.nk (evO s x)
  | .build t parts => match P.underlying t with
    | some (.struct fs) => match fieldOffs P fs.toList, zeroCs P t with
      | some offs, some zs => evBuild offs zs (parts.toList.map fun p => (p.1, evO s p.2))
      | _, _ => none
    | _ => none
  | .buildSlice t len parts => match elemOfT P t with
    | some (e, n) => match zeroCs P e with
      | some zs => bif h.raw then evBuildSliceX h.nk len zs (parts.toList.map fun p => (p.1, evO s p.2)) else evBuildSlice n h.nk len (parts.toList.map fun p => (p.1, evO s p.2))
      | none => none
    | none => none
  | .makeSlice t l c => match elemOfT P t with
    | some (e, _) => match zeroCs P e with
      | some zs => evMake h.nk (bytesOf P e) zs (evO s l) (evO s c)
      | none => none
    | none => none
  | .nilCheck x => evNilCheck s.O (evO s x)
  | .makeMap t none => bif isMapT P t then some (evMakeMap h.nk) else none
  | .mapUpdate t m k x => match o.dst with
    | none => bif isMapT P t then evMapUpdate s.O (evO s m) (evO s k) (evO s x) else none
    | some _ => none
  | .lookup t m k false => bif isMapT P t then evLookup s.O (evO s m) (evO s k) else none
  | .call { callee := .builtin .len, args := ⟨[x]⟩, argTypes := ⟨[t]⟩ } => bif fitsLen P t (evO s x) && liveSl s.O (evO s x) then evLen (evO s x) else none
  | .call { callee := .builtin .cap, args := ⟨[x]⟩, argTypes := ⟨[t]⟩ } => evCap0 P t (evO s x)
  | .call { callee := .builtin .append, args := ⟨[b, x]⟩, argTypes := ⟨[t, t']⟩ } => match elemOfT P t with
      | some (e, n) => match zeroCs P e with
        | some zs => evAppend P t t' n (bytesOf P e) zs s.O h.nk h.els h.els2 (evO s b) (evO s x)
        | none => none
      | none => none
  | .call { callee := .builtin .clear, args := ⟨[x]⟩, argTypes := ⟨[t]⟩ } => match elemOfT P t with
      | some (e, n) => match zeroCs P e with
        | some zs => evClear n zs s.O (evO s x)
        | none => none
      | none => none
  | .call { callee := .builtin .max, args := ⟨[x, y]⟩, .. } => evMinMax .max (evO s x) (evO s y)
  | .call { callee := .builtin .min, args := ⟨[x, y]⟩, .. } => evMinMax .min (evO s x) (evO s y)
  | _ => none

theorem evalCore_sound {nin : Nat} {h : Hint} (he : evalCore P s h o = some ev) : Sound P nin o s ev := by
  unfold evalCore at he
  split at he
  · rename_i x ho; cases he; exact snd_move (.inl ho)
  · rename_i x ho; cases he; exact snd_move (.inr ho)
  · rename_i c a b ho; exact snd_pick ho he
  · rename_i x i ho; exact snd_extract ho he
  · rename_i f first caps ho
    cases hf : first.isEmpty with
    | false => simp [hf] at he
    | true =>
      simp only [hf, cond_true] at he
      cases he
      have : first = #[] := by simpa using hf
      subst this
      exact snd_makeFunc ho
  · rename_i op t x y yt ho
    split at he
    · rename_i hy; rw [nilC_spec hy] at ho; exact snd_err ho he
    · exact snd_bin ho he
  · rename_i op t x ho; exact snd_un ho he
  · rename_i src dst x ho
    split at he
    · rename_i e hc; cases he; exact snd_conv ho hc
    · exact snd_bytesStr ho he
  · rename_i t x i ho; exact snd_index ho he
  · rename_i t x i ho
    split at he
    · rename_i e n ht; exact snd_indexAddr ho ht he
    · cases he
  · rename_i t x f ho
    split at he
    · rename_i off ht; exact snd_field ho ht he
    · cases he
  · rename_i t x ho
    split at he
    · rename_i g n ht
      split at he
      · rename_i q hq
        cases g with
        | true => simp at he
        | false => simp only [cond_false, Option.some.injEq] at he; subst he; exact snd_gload ho ht hq
      · exact snd_load ho ht he
    · cases he
  · rename_i t p x ho
    split at he
    · rename_i g n hd ht; exact snd_store ho hd ht he
    · cases he
  · rename_i t x lo hi mx ho
    split at he
    · rename_i e n ht; exact snd_slice ho ht he
    · exact snd_sliceS ho he
  · rename_i t ho
    split at he
    · rename_i zs hz; cases he; exact snd_alloc ho hz
    · cases he
  · rename_i t x ho; exact snd_box ho he
  · rename_i t parts ho
    split at he
    · rename_i fs hu
      split at he
      · rename_i offs zs h1 h2; exact snd_build ho hu h1 h2 he
      · cases he
    · cases he
  · rename_i t len parts ho
    split at he
    · rename_i e n ht
      split at he
      · rename_i zs hz
        cases hraw : h.raw with
        | true => simp only [hraw, cond_true] at he; exact snd_buildSliceX ho ht hz he
        | false => simp only [hraw, cond_false] at he; exact snd_buildSlice ho ht hz he
      · cases he
    · cases he
  · rename_i t l c ho
    split at he
    · rename_i e n ht
      split at he
      · rename_i zs hz; exact snd_make ho ht hz he
      · cases he
    · cases he
  · rename_i x ho; exact snd_nilCheck ho he
  · rename_i t ho
    cases ht : isMapT P t with
    | false => simp [ht] at he
    | true => simp only [ht, cond_true] at he; cases he; exact snd_makeMap ho
  · rename_i t m k x ho
    split at he
    · rename_i hd
      cases ht : isMapT P t with
      | false => simp [ht] at he
      | true => simp only [ht, cond_true] at he; exact snd_mapUpdate ho hd ht he
    · cases he
  · rename_i t m k ho
    cases ht : isMapT P t with
    | false => simp [ht] at he
    | true => simp only [ht, cond_true] at he; exact snd_lookup ho ht he
  · rename_i x t ho
    cases hb : (fitsLen P t (evO s x) && liveSl s.O (evO s x)) with
    | false => simp [hb] at he
    | true =>
      simp only [hb, cond_true] at he
      simp only [Bool.and_eq_true] at hb
      exact snd_len ho hb.1 hb.2 he
  · rename_i x t ho; exact snd_cap0 ho he
  · rename_i b x t t' ho
    split at he
    · rename_i e n ht
      split at he
      · rename_i zs hz; exact snd_append ho ht hz he
      · cases he
    · cases he
  · rename_i x t ho
    split at he
    · rename_i e n ht
      split at he
      · rename_i zs hz; exact snd_clear ho ht hz he
      · cases he
    · cases he
  · rename_i x y ts ho; exact snd_minMax ho he
  · rename_i x y ts ho; exact snd_minMax ho he
  · cases he

/-- an operation, with another spelling of its value where one is given -/
def evalOp (P : Program) (s : S) (h : Hint) (o : Oper) : Option Ev :=
  match evalCore P s h o, h.y with
  | some ev, none => some ev
  | some ev, some y => some ⟨y, ev.hw, ev.nw, some (condOf ev.c ∧ ev.x = y)⟩
  | none, _ => none

theorem evalOp_sound {nin : Nat} {h : Hint} (he : evalOp P s h o = some ev) : Sound P nin o s ev := by
  unfold evalOp at he
  split at he
  · rename_i ev' h1 h2; cases he; exact evalCore_sound h1
  · rename_i ev' y h1 h2
    cases he
    intro X N m a w K Q hn hr hd hf hc hK
    obtain ⟨hc1, hc2⟩ := hc
    subst hc2
    exact evalCore_sound (nin := nin) h1 X N m a w K Q hn hr hd hf hc1 hK
  · cases he

end Go.Eng
