/- What is proved: the operations of the engine that look at memory or reckon addresses: lengths, indices, addresses of fields and elements, parts of strings and slices, loads. Each theorem bears the operation's own side condition. -/
import Derived.Test.YtomemaanjendhaaDoorCExactShowShortEng4
set_option linter.unusedVariables false
set_option linter.unusedSimpArgs false
namespace Go.Eng
open Go

variable {P : Program} {s : S} {o : Oper} {ev : Ev}

/-! ### len -/
def evLen (x : AV) : Option Ev :=
  match x with
  | .sl _ _ len => some ⟨.v (.int .i64 len), [], [], none⟩
  | .bs _ _ es => some ⟨.v (.int .i64 es.length), [], [], none⟩
  | .bx cs => some ⟨.v (.int .i64 cs.length), [], [], none⟩
  | .v (.slice none 0 0) => some ⟨.v (.int .i64 0), [], [], none⟩
  | .v (.string b) => some ⟨.v (.int .i64 b.size), [], [], none⟩
  | _ => none

/-- is `t` a slice's type, a string's? -/
def isSliceT (P : Program) (t : TypeId) : Bool := match P.underlying t with | some (.slice _) => true | _ => false
def isStringT (P : Program) (t : TypeId) : Bool := match P.underlying t with | some .string => true | _ => false

theorem isSliceT_spec {t : TypeId} (h : isSliceT P t = true) : ∃ e, P.underlying t = some (.slice e) := by
  unfold isSliceT at h; split at h
  · exact ⟨_, by assumption⟩
  · cases h
theorem isStringT_spec {t : TypeId} (h : isStringT P t = true) : P.underlying t = some .string := by
  unfold isStringT at h; split at h
  · assumption
  · cases h

/-- what kind of operand a value of `len`, `index` is: its type's kind must fit -/
def fitsLen (P : Program) (t : TypeId) (x : AV) : Bool :=
  match x with
  | .v (.string _) => isStringT P t
  | _ => isSliceT P t

theorem run_len {t ty e : TypeId} (h : P.underlying t = some (.slice e)) (a : Option Addr) (n c : Nat) (w : World) : (Builtin.len_ #[t] ty #[.slice a n c]).run P w = .ok (.int .i64 n) w := by
  simp [Builtin.len_, run_underlying h, goInt]

theorem sl_slice {X : Env} {m : Nat → Option Loc} {sh : Nat → Sh} {k lo len : Nat} {v : Value} (h : VR X m sh (.sl k lo len) v) (hd : sh k ≠ .dead) (hk : ∀ n, sh k ≠ .box n) (hm : sh k ≠ .map) : ∃ a cap, v = .slice a len cap := by
  simp only [VR] at h
  split at h
  · obtain ⟨_, a, cap, rfl, _⟩ := h; exact ⟨a, cap, rfl⟩
  · rename_i h1
    cases hs : sh k with
    | dead => exact absurd hs hd
    | box n => exact absurd hs (hk n)
    | map => exact absurd hs hm
    | arr sz n => exact absurd hs (h1 sz n)

def isArr (o : AO) : Bool := match o with | .arr .. => true | _ => false
/-- an own array that a slice names must be living -/
def liveSl (O : Nat → AO) (x : AV) : Bool := match x with | .sl k _ _ => isArr (O k) | _ => true

theorem sl_slice' {X : Env} {m : Nat → Option Loc} {k lo len : Nat} {v : Value} (h : VR X m s.sh (.sl k lo len) v) (hl : isArr (s.O k) = true) : ∃ a cap, v = .slice a len cap := by
  refine sl_slice h ?_ ?_ ?_ <;> intros <;> (unfold S.sh; cases hs : s.O k <;> simp_all [isArr, AO.sh])

theorem snd_len {nin : Nat} {x : Operand} {t : TypeId} (ho : o.op = .call { callee := .builtin .len, args := #[x], argTypes := #[t] }) (ht : fitsLen P t (evO s x) = true) (hl : liveSl s.O (evO s x) = true) (he : evLen (evO s x) = some ev) : Sound P nin o s ev := by
  have hrun : ∀ (a : Act) (w : World) v, (Builtin.len_ #[t] o.type #[a.eval x]).run P w = .ok v w → (execOp a.eval o).run P w = .ok (.value v) w := fun a w v h => by
    simp only [execOp, ho, resolve, invoke, builtin, Sem.run_bind, Sem.run_pure, Result.andThen_ok, List.map_toArray, List.map_cons, List.map_nil, h]
  unfold evLen at he
  split at he
  · rename_i k lo len hx
    cases he
    rw [hx] at ht hl
    obtain ⟨e, hu⟩ := isSliceT_spec (show isSliceT P t = true from ht)
    refine .val fun _ X N m a w hr => ?_
    have e1 := hr.eval x
    rw [hx] at e1
    obtain ⟨ad, cap, e1⟩ := sl_slice' e1 hl
    exact ⟨_, hrun a w _ (by rw [e1]; exact run_len hu ..), by simp only [VR]⟩
  · rename_i sz es hx
    cases he
    rw [hx] at ht
    obtain ⟨e, hu⟩ := isSliceT_spec (show isSliceT P t = true from ht)
    refine .val fun _ X N m a w hr => ?_
    have e1 := hr.eval x
    rw [hx] at e1
    simp only [VR] at e1
    obtain ⟨ad, cap, e1, _⟩ := e1
    exact ⟨_, hrun a w _ (by rw [e1]; exact run_len hu ..), by simp only [VR]⟩
  · rename_i cs hx
    cases he
    rw [hx] at ht
    obtain ⟨e, hu⟩ := isSliceT_spec (show isSliceT P t = true from ht)
    refine .val fun _ X N m a w hr => ?_
    have e1 := hr.eval x
    rw [hx] at e1
    simp only [VR] at e1
    obtain ⟨b, C, E, fz, e1, _⟩ := e1
    exact ⟨_, hrun a w _ (by rw [e1]; exact run_len hu ..), by simp only [VR]⟩
  · rename_i hx
    cases he
    rw [hx] at ht
    obtain ⟨e, hu⟩ := isSliceT_spec (show isSliceT P t = true from ht)
    refine snd_scal hx fun _ a w e1 => hrun a w _ (by rw [e1]; simpa using run_len hu none 0 0 w)
  · rename_i b hx
    cases he
    rw [hx] at ht
    have hu := isStringT_spec (show isStringT P t = true from ht)
    refine snd_scal hx fun _ a w e1 => hrun a w _ (by rw [e1]; simp [Builtin.len_, run_underlying hu, goInt])
  · cases he

/-! ### indices -/
def byteAt (b : ByteArray) (i : Nat) : Int := ((b.data.toList.getD i 0).toNat : Int)

def evIndex (P : Program) (t : TypeId) (x i : AV) : Option Ev :=
  match x, i with
  | .v (.string b), .v (.int _ n) => bif isStringT P t then some ⟨.v (.int .u8 (byteAt b n.toNat)), [], [], some (0 ≤ n ∧ n < b.size)⟩ else none
  | _, _ => none

theorem snd_index {nin : Nat} {t : TypeId} {x i : Operand} (ho : o.op = .index t x i) (he : evIndex P t (evO s x) (evO s i) = some ev) : Sound P nin o s ev := by
  unfold evIndex at he
  split at he
  · rename_i b k n hx hi
    cases ht : isStringT P t with
    | false => simp [ht] at he
    | true =>
      simp only [ht, cond_true] at he
      cases he
      have hu := isStringT_spec ht
      refine snd_scal2 hx hi fun hc a w e1 e2 => ?_
      obtain ⟨h0, h1⟩ := hc
      have hlt : n.toNat < b.size := by omega
      have hb : b[n.toNat]? = some (b.data.toList.getD n.toNat 0) := by
        have h2 : n.toNat < b.data.toList.length := by simpa using hlt
        rw [List.getD_eq_getElem?_getD, List.getElem?_eq_getElem h2, Option.getD_some]
        rw [getElem?_pos b n.toNat hlt]
        rfl
      simp [execOp, ho, e1, e2, Instr.index, asIntOf, run_underlying hu, h0, hb, byteAt]
  · cases he

/-- the element's type of a slice's type, and its cells -/
def elemOfT (P : Program) (t : TypeId) : Option (TypeId × Nat) :=
  match P.underlying t with
  | some (.slice e) => (P.info? e).map fun i => (e, i.size)
  | _ => none

theorem elemOfT_spec {t e : TypeId} {n : Nat} (h : elemOfT P t = some (e, n)) : P.underlying t = some (.slice e) ∧ ∃ i, P.info? e = some i ∧ i.size = n := by
  unfold elemOfT at h
  split at h
  · rename_i e' hu
    cases hi : P.info? e' with
    | none => simp [hi] at h
    | some i => simp [hi] at h; obtain ⟨rfl, rfl⟩ := h; exact ⟨hu, i, hi, rfl⟩
  · cases h

def evIndexAddr (n : Nat) (O : Nat → AO) (x i : AV) : Option Ev :=
  match x, i with
  | .sl k lo len, .v (.int _ q) => match O k with
    | .arr sz es => bif Nat.beq sz n then some ⟨.pe k (lo + q.toNat) 0, [], [], some (0 ≤ q ∧ q < len)⟩ else none
    | _ => none
  | .bs _ sz es, .v (.int _ q) => bif Nat.beq sz n then some ⟨.be sz (es.getD q.toNat []) 0, [], [], some (0 ≤ q ∧ q < es.length)⟩ else none
  | .bx cs, .v (.int _ q) => bif Nat.beq n 1 then some ⟨.bp cs q.toNat, [], [], some (0 ≤ q ∧ q < cs.length)⟩ else none
  | _, _ => none

theorem run_indexAt {t e : TypeId} {n : Nat} (h : elemOfT P t = some (e, n)) (b off len cap : Nat) (k : IntKind) (i : Int) (h0 : 0 ≤ i) (h1 : i < len) (w : World) :
    (Instr.indexAt t (.slice (some ⟨b, off, none⟩) len cap) (.int k i)).run P w = .ok (.pointer (some ⟨b, off + i.toNat * n, none⟩)) w := by
  obtain ⟨hu, inf, hi, hs⟩ := elemOfT_spec h
  simp [Instr.indexAt, asIntOf, run_underlying hu, h0, h1, sizeOf, typeInfo, hi, hs, Addr.add_lit]

theorem snd_indexAddr {nin : Nat} {t e : TypeId} {n : Nat} {x i : Operand} (ho : o.op = .indexAddr t x i) (ht : elemOfT P t = some (e, n)) (he : evIndexAddr n s.O (evO s x) (evO s i) = some ev) : Sound P nin o s ev := by
  unfold evIndexAddr at he
  split at he
  · rename_i k lo len kk q hx hi
    split at he
    · rename_i sz es hO
      cases hb : Nat.beq sz n with
      | false => simp [hb] at he
      | true =>
        have hsz := Nat.eq_of_beq_eq_true hb
        subst hsz
        simp only [hb, cond_true] at he
        cases he
        refine .val fun hc X N m a w hr => ?_
        obtain ⟨h0, h1⟩ := hc
        have e1 := hr.eval x
        have e2 := hr.eval i
        rw [hx] at e1; rw [hi] at e2
        simp only [VR] at e1 e2
        have hsh : s.sh k = .arr sz es.length := by simp [S.sh, hO, AO.sh]
        rw [hsh] at e1
        simp only at e1
        obtain ⟨hlen, ad, cap, e1, hcap, hz | ⟨L, hm, had, _⟩⟩ := e1
        · omega
        · subst had
          refine ⟨.pointer (some ⟨L.b, L.off + lo * sz + q.toNat * sz, none⟩), by simp only [execOp, ho, e1, e2, Sem.run_bind, run_indexAt ht _ _ _ _ _ _ h0 h1, Result.andThen_ok, Sem.run_pure], ?_⟩
          simp only [VR]
          rw [hsh]
          refine ⟨by omega, L, hm, ?_⟩
          rw [Nat.add_mul, Nat.add_zero, Nat.add_assoc]
    · cases he
  · rename_i sz es kk q hx hi
    cases hb : Nat.beq sz n with
    | false => simp [hb] at he
    | true =>
      have hsz := Nat.eq_of_beq_eq_true hb
      subst hsz
      simp only [hb, cond_true] at he
      cases he
      refine .val fun hc X N m a w hr => ?_
      obtain ⟨h0, h1⟩ := hc
      have e1 := hr.eval x
      have e2 := hr.eval i
      rw [hx] at e1; rw [hi] at e2
      simp only [VR] at e1 e2
      obtain ⟨ad, cap, e1, hcap, hok, hz | ⟨b, off, had, hB, C, E, fz, hh, hc⟩⟩ := e1
      · subst hz; simp at h1; omega
      · subst had
        have hlt : q.toNat < es.length := by omega
        have hget : es[q.toNat]? = some (es.getD q.toNat []) := by
          rw [List.getD_eq_getElem?_getD, List.getElem?_eq_getElem hlt, Option.getD_some]
        have hmem : es.getD q.toNat [] ∈ es := List.mem_of_getElem? hget
        refine ⟨.pointer (some ⟨b, off + q.toNat * sz, none⟩), by simp only [execOp, ho, e1, e2, Sem.run_bind, run_indexAt ht _ _ _ _ _ _ h0 h1, Result.andThen_ok, Sem.run_pure], ?_⟩
        simp only [VR]
        refine ⟨b, off + q.toNat * sz, C, E, fz, by rw [Nat.add_zero], Env.Bl_B hB, hh, fun j x' hj => hc _ _ hget j x' hj, (hok _ hmem).1, (hok _ hmem).2⟩
  · rename_i cs kk q hx hi
    cases hb : Nat.beq n 1 with
    | false => simp [hb] at he
    | true =>
      have hsz := Nat.eq_of_beq_eq_true hb
      subst hsz
      simp only [hb, cond_true] at he
      cases he
      refine .val fun hc X N m a w hr => ?_
      obtain ⟨h0, h1⟩ := hc
      have e1 := hr.eval x
      have e2 := hr.eval i
      rw [hx] at e1; rw [hi] at e2
      simp only [VR] at e1 e2
      obtain ⟨b, C, E, fz, e1, hB, hh, hv⟩ := e1
      refine ⟨.pointer (some ⟨b, 0 + q.toNat * 1, none⟩), by simp only [execOp, ho, e1, e2, Sem.run_bind, run_indexAt ht _ _ _ _ _ _ h0 h1, Result.andThen_ok, Sem.run_pure], ?_⟩
      simp only [VR]
      exact ⟨b, C, E, fz, by rw [Nat.mul_one, Nat.zero_add], hB, hh, hv⟩
  · cases he

/-! ### addresses of fields -/
def fieldOff (P : Program) (t : TypeId) (f : Nat) : Option Nat :=
  match P.underlying t with
  | some (.struct fs) => match fs[f]? with
    | some fd => match P.info? fd.type with
      | some i => bif Nat.beq i.size 0 then none else some fd.offset
      | none => none
    | none => none
  | _ => none

theorem run_fieldAt {t : TypeId} {f off : Nat} (h : fieldOff P t f = some off) (b o : Nat) (w : World) : (Instr.fieldAt t (.pointer (some ⟨b, o, none⟩)) f).run P w = .ok (.pointer (some ⟨b, o + off, none⟩)) w := by
  unfold fieldOff at h
  split at h
  · rename_i fs hu
    split at h
    · rename_i fd hf
      split at h
      · rename_i i hi
        cases hz : Nat.beq i.size 0 with
        | true => simp [hz] at h
        | false =>
          simp only [hz, cond_false, Option.some.injEq] at h
          subst h
          have hne : i.size ≠ 0 := fun e => by rw [e] at hz; cases hz
          simp [Instr.fieldAt, run_underlying hu, hf, Instr.sureAddr, fieldPlace, sizeOf, typeInfo, hi, hne, Addr.add_lit]
      · cases h
    · cases h
  · cases h

def evField (off : Nat) (O : Nat → AO) (x : AV) : Option Ev :=
  match x with
  | .pt k p => match O k with
    | .box _ => some ⟨.pt k (p + off), [], [], none⟩
    | _ => none
  | .pe k i p => match O k with
    | .arr .. => some ⟨.pe k i (p + off), [], [], none⟩
    | _ => none
  | .be sz e p => some ⟨.be sz e (p + off), [], [], none⟩
  | .bp cs p => some ⟨.bp cs (p + off), [], [], none⟩
  | _ => none

theorem snd_field {nin : Nat} {t : TypeId} {f off : Nat} {x : Operand} (ho : o.op = .fieldAddr t x f) (ht : fieldOff P t f = some off) (he : evField off s.O (evO s x) = some ev) : Sound P nin o s ev := by
  unfold evField at he
  have fin : ∀ {a : Act} {b p : Nat} {w : World}, a.eval x = .pointer (some ⟨b, p, none⟩) → (execOp a.eval o).run P w = .ok (.value (.pointer (some ⟨b, p + off, none⟩))) w := fun e => by
    simp only [execOp, ho, e, Sem.run_bind, run_fieldAt ht, Result.andThen_ok, Sem.run_pure]
  split at he
  · rename_i k p hx
    split at he
    · rename_i cs hO
      cases he
      refine .val fun _ X N m a w hr => ?_
      have e1 := hr.eval x
      rw [hx] at e1
      have hsh : s.sh k = .box cs.length := by simp [S.sh, hO, AO.sh]
      simp only [VR, hsh] at e1 ⊢
      obtain ⟨L, hm, e1⟩ := e1
      exact ⟨_, fin e1, L, hm, rfl⟩
    · cases he
  · rename_i k i p hx
    split at he
    · rename_i sz es hO
      cases he
      refine .val fun _ X N m a w hr => ?_
      have e1 := hr.eval x
      rw [hx] at e1
      have hsh : s.sh k = .arr sz es.length := by simp [S.sh, hO, AO.sh]
      simp only [VR, hsh] at e1 ⊢
      obtain ⟨hi, L, hm, e1⟩ := e1
      exact ⟨_, fin e1, hi, L, hm, by rw [Nat.add_assoc]⟩
    · cases he
  · rename_i sz e p hx
    cases he
    refine .val fun _ X N m a w hr => ?_
    have e1 := hr.eval x
    rw [hx] at e1
    simp only [VR] at e1 ⊢
    obtain ⟨b, q, C, E, fz, e1, r⟩ := e1
    exact ⟨_, fin e1, b, q, C, E, fz, by rw [Nat.add_assoc], r⟩
  · rename_i cs p hx
    cases he
    refine .val fun _ X N m a w hr => ?_
    have e1 := hr.eval x
    rw [hx] at e1
    simp only [VR] at e1 ⊢
    obtain ⟨b, C, E, fz, e1, r⟩ := e1
    exact ⟨_, fin e1, b, C, E, fz, rfl, r⟩
  · cases he

/-! ### loads -/
def evCells (g : Bool) (n off : Nat) (cs : List AV) : Option Ev :=
  bif g then (bif Nat.ble (off + n) cs.length then some ⟨.agg ((cs.drop off).take n), [], [], none⟩ else none)
  else match cs[off]? with
    | some x => some ⟨x, [], [], none⟩
    | none => none

def evElem (g : Bool) (n off sz : Nat) (e : List Value) : Option Ev :=
  bif g then (bif Nat.ble (off + n) sz then some ⟨.agg (((e.drop off).take n).map .v), [], [], none⟩ else none)
  else bif Nat.blt off sz then some ⟨.v (e.getD off undef), [], [], none⟩ else none

def evLoad (g : Bool) (n : Nat) (O : Nat → AO) (p : AV) : Option Ev :=
  match p with
  | .pt k off => match O k with
    | .box cs => evCells g n off cs
    | _ => none
  | .bp cs off => evCells g n off cs
  | .pe k i off => match O k with
    | .arr sz es => evElem g n off sz (es.getD i [])
    | _ => none
  | .be sz e off => evElem g n off sz e
  | _ => none

theorem VRs_part {X : Env} {m : Nat → Option Loc} {sh : Nat → Sh} {cs : List AV} {C : List Value} (h : VRs X m sh cs C) (off n : Nat) : VRs X m sh ((cs.drop off).take n) ((C.drop off).take n) := by
  have hl := VRs_length h
  refine VRs_of_get (by simp [hl]) (fun i a x ha hx => ?_)
  simp only [List.getElem?_take, List.getElem?_drop] at ha hx
  split at ha
  · rename_i hlt
    rw [if_pos hlt] at hx
    obtain ⟨y, h1, h2⟩ := VRs_get h _ a ha
    rw [hx] at h1; cases h1
    exact h2
  · cases ha

theorem load_cells {g : Bool} {t : TypeId} {n : Nat} (ht : aggOf P t = some (g, n)) {X : Env} {m : Nat → Option Loc} {sh : Nat → Sh} {cs : List AV} {C : Array Value} (h : VRs X m sh cs C.toList) {b off : Nat} {E : TypeId} {fz : Nat × Nat} {w : World}
    (hh : w.heap[b]? = some (.cells C E fz)) (he : evCells g n off cs = some ev) : ev.hw = [] ∧ ∃ v, (loadVar t ⟨b, off, none⟩).run P w = .ok v w ∧ VR X m sh ev.x v := by
  have hl := VRs_length h
  unfold evCells at he
  cases g with
  | true =>
    simp only [cond_true] at he
    cases hb : Nat.ble (off + n) cs.length with
    | false => simp [hb] at he
    | true =>
      simp only [hb, cond_true, Option.some.injEq] at he
      subst he
      have hle := Nat.le_of_ble_eq_true hb
      refine ⟨rfl, _, loadVar_agg ht b off hh ((C.toList.drop off).take n) (by simp at hl ⊢; omega) (fun j x hj => ?_), ?_⟩
      · simp only [List.getElem?_take, List.getElem?_drop] at hj
        split at hj
        · simpa using hj
        · cases hj
      · simp only [VR]
        exact ⟨_, rfl, VRs_part h off n⟩
  | false =>
    simp only [cond_false] at he
    split at he
    · rename_i x hx
      cases he
      obtain ⟨y, h1, h2⟩ := VRs_get h _ _ hx
      exact ⟨rfl, y, loadVar_one ht b off hh y (by simpa using h1), h2⟩
    · cases he

theorem load_elem {g : Bool} {t : TypeId} {n : Nat} (ht : aggOf P t = some (g, n)) {X : Env} {m : Nat → Option Loc} {sh : Nat → Sh} {e : List Value} {C : Array Value} {b q off sz : Nat} {E : TypeId} {fz : Nat × Nat} {w : World}
    (hlen : e.length = sz) (hc : ∀ j x, e[j]? = some x → C[q + j]? = some x) (hh : w.heap[b]? = some (.cells C E fz)) (he : evElem g n off sz e = some ev) :
    ev.hw = [] ∧ ∃ v, (loadVar t ⟨b, q + off, none⟩).run P w = .ok v w ∧ VR X m sh ev.x v := by
  unfold evElem at he
  cases g with
  | true =>
    simp only [cond_true] at he
    cases hb : Nat.ble (off + n) sz with
    | false => simp [hb] at he
    | true =>
      simp only [hb, cond_true, Option.some.injEq] at he
      subst he
      have hle := Nat.le_of_ble_eq_true hb
      refine ⟨rfl, _, loadVar_agg ht b (q + off) hh ((e.drop off).take n) (by simp; omega) (fun j x hj => ?_), ?_⟩
      · simp only [List.getElem?_take, List.getElem?_drop] at hj
        split at hj
        · rw [Nat.add_assoc]; exact hc _ _ hj
        · cases hj
      · simp only [VR]
        refine ⟨_, rfl, VRs_of_get (by simp) (fun i a x ha hx => ?_)⟩
        simp only [List.getElem?_map] at ha
        rw [hx] at ha
        simp at ha; subst ha
        simp only [VR]
  | false =>
    simp only [cond_false] at he
    cases hb : Nat.blt off sz with
    | false => simp [hb] at he
    | true =>
      simp only [hb, cond_true, Option.some.injEq] at he
      subst he
      have hlt : off < e.length := by rw [hlen]; exact Nat.le_of_ble_eq_true hb
      have hget : e[off]? = some (e.getD off undef) := by
        rw [List.getD_eq_getElem?_getD, List.getElem?_eq_getElem hlt, Option.getD_some]
      exact ⟨rfl, _, loadVar_one ht b (q + off) hh _ (hc off _ hget), by simp only [VR]⟩

theorem snd_load {nin : Nat} {t : TypeId} {g : Bool} {n : Nat} {x : Operand} (ho : o.op = .load t x) (ht : aggOf P t = some (g, n)) (he : evLoad g n s.O (evO s x) = some ev) : Sound P nin o s ev := by
  have fin : ∀ {a : Act} {b p : Nat} {w : World} {v : Value}, a.eval x = .pointer (some ⟨b, p, none⟩) → (loadVar t ⟨b, p, none⟩).run P w = .ok v w → (execOp a.eval o).run P w = .ok (.value v) w := fun e h => by
    simp only [execOp, ho, e, Instr.loadAt, Instr.sureAddr, Sem.run_bind, Sem.run_pure, Result.andThen_ok, h]
  have core : ∀ (X : Env) (N : Nat) (m : Nat → Option Loc) (a : Act) (w : World), Rel X N s m a w → ev.hw = [] ∧ ∃ v, (execOp a.eval o).run P w = .ok (.value v) w ∧ VR X m s.sh ev.x v := by
    intro X N m a w hr
    have e1 := hr.eval x
    unfold evLoad at he
    split at he
    · rename_i k off hx
      rw [hx] at e1
      split at he
      · rename_i cs hO
        have hsh : s.sh k = .box cs.length := by simp [S.sh, hO, AO.sh]
        simp only [VR, hsh] at e1
        obtain ⟨L, hm, e1⟩ := e1
        have ob := hr.obj k
        unfold HR at ob
        simp only [hO] at ob
        obtain ⟨L', C, E, hm', hh, hv, _⟩ := ob
        rw [hm] at hm'; cases hm'
        obtain ⟨h0, v, h1, h2⟩ := load_cells ht hv hh he
        exact ⟨h0, v, fin e1 h1, h2⟩
      · cases he
    · rename_i cs off hx
      rw [hx] at e1
      simp only [VR] at e1
      obtain ⟨b, C, E, fz, e1, hB, hh, hv⟩ := e1
      rw [← hr.fr.at_B hB] at hh
      obtain ⟨h0, v, h1, h2⟩ := load_cells ht hv hh he
      exact ⟨h0, v, fin e1 h1, h2⟩
    · rename_i k i off hx
      rw [hx] at e1
      split at he
      · rename_i sz es hO
        have hsh : s.sh k = .arr sz es.length := by simp [S.sh, hO, AO.sh]
        simp only [VR, hsh] at e1
        obtain ⟨hi, L, hm, e1⟩ := e1
        have ob := hr.obj k
        unfold HR at ob
        simp only [hO] at ob
        obtain ⟨hok, ⟨hn, _⟩ | ⟨L', C, E, hm', hh, _, _, hc, _⟩⟩ := ob
        · rw [hm] at hn; cases hn
        · rw [hm] at hm'; cases hm'
          have hget : es[i]? = some (es.getD i []) := by
            rw [List.getD_eq_getElem?_getD, List.getElem?_eq_getElem hi, Option.getD_some]
          have hmem := List.mem_of_getElem? hget
          obtain ⟨h0, v, h1, h2⟩ := load_elem (X := X) (m := m) (sh := s.sh) ht (q := L.off + i * sz) (hok _ hmem).1 (hc i _ hget) hh he
          exact ⟨h0, v, fin e1 h1, h2⟩
      · cases he
    · rename_i sz e off hx
      rw [hx] at e1
      simp only [VR] at e1
      obtain ⟨b, q, C, E, fz, e1, hB, hh, hc, hl, _⟩ := e1
      rw [← hr.fr.at_B hB] at hh
      obtain ⟨h0, v, h1, h2⟩ := load_elem (X := X) (m := m) (sh := s.sh) ht hl hc hh he
      exact ⟨h0, v, fin e1 h1, h2⟩
    · cases he
  intro X N m a w K Q _ hr hd _ hc hK
  obtain ⟨h0, v, h1, h2⟩ := core X N m a w hr
  refine wp_of_value h1 (hK m _ w ?_)
  have hp : ev.hp s = s := by simp [Ev.hp, h0]
  unfold Ev.ap
  cases hdst : o.dst with
  | none => rw [hp]; exact hr
  | some d => rw [hp]; exact hr.putV (hd d hdst) h2

/-! ### loads of a package variable that holds a slice -/
def gfind : List (Nat × Nat × List (List Value)) → Nat → Option (Nat × List (List Value))
  | [], _ => none
  | p :: r, g => bif Nat.beq p.1 g then some p.2 else gfind r g

def gload : Operand → Option (Nat × List (List Value))
  | .global g => gfind gslices g
  | _ => none

theorem gfind_mem : ∀ (l : List (Nat × Nat × List (List Value))) (g : Nat) q, gfind l g = some q → (g, q) ∈ l
  | [], g, q, h => by simp [gfind] at h
  | p :: r, g, q, h => by
    simp only [gfind] at h
    cases hb : Nat.beq p.1 g with
    | true =>
      simp only [hb, cond_true, Option.some.injEq] at h
      have := Nat.eq_of_beq_eq_true hb
      subst this; subst h
      simp
    | false =>
      simp only [hb, cond_false] at h
      exact List.mem_cons_of_mem _ (gfind_mem r g q h)

theorem snd_gload {nin : Nat} {t : TypeId} {n : Nat} {x : Operand} {sz : Nat} {es : List (List Value)} (ho : o.op = .load t x) (ht : aggOf P t = some (false, n)) (hx : gload x = some (sz, es)) : Sound P nin o s ⟨.bs false sz es, [], [], none⟩ := by
  intro X N m a w K Q _ hr hd _ hc hK
  cases x with
  | global g =>
    simp only [gload] at hx
    obtain ⟨b, off, cap, h1, h2, h3, h4, h5⟩ := (X.hG w (fun b hb => hr.fr.at_B hb)).1 _ (gfind_mem _ _ _ hx)
    simp only at h1 h2 h3 h5
    obtain ⟨g1, _⟩ := aggOf_spec ht w
    have hrun : (execOp a.eval o).run P w = .ok (.value (.slice (some ⟨b, off, none⟩) es.length cap)) w := by
      have e : a.eval (.global g) = .pointer (some ⟨g, 0, none⟩) := rfl
      have h6 : (loadVar t ⟨g, 0, none⟩).run P w = .ok (.slice (some ⟨b, off, none⟩) es.length cap) w := by
        simp [loadVar, Sem.run_bind, g1, h1]
      simp only [execOp, ho, e, Instr.loadAt, Instr.sureAddr, Sem.run_bind, Sem.run_pure, Result.andThen_ok, h6]
    have hv : VR X m s.sh (.bs false sz es) (.slice (some ⟨b, off, none⟩) es.length cap) := by
      simp only [VR]
      refine ⟨_, cap, rfl, h2, h3, .inr ⟨b, off, rfl, h4, ?_⟩⟩
      unfold RdE at h5 ⊢
      rw [← hr.fr.at_B h4]; exact h5
    refine wp_of_value hrun (hK m _ w ?_)
    unfold Ev.ap
    cases hdst : o.dst with
    | none => exact hr
    | some d => exact hr.putV (hd d hdst) hv
  | tmp t => simp [gload] at hx
  | const v => simp [gload] at hx
  | func f => simp [gload] at hx

end Go.Eng
