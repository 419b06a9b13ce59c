/- What is proved: the operations of the engine that make or write memory: parts of strings and slices, new boxes and slices, stores, append. Each theorem bears the operation's own side condition. -/
import Derived.Test.YtomemaanjendhaaDoorCExactShowShortEng5
set_option linter.unusedVariables false
set_option linter.unusedSimpArgs false
namespace Go.Eng
open Go

variable {P : Program} {s : S} {o : Oper} {ev : Ev}

/-! ### parts -/
theorem run_bounds (isS : Bool) (len cap : Nat) (lo hi mx : Option Value) (l h m : Nat) (hlo : (lo = none ∧ l = 0) ∨ ∃ k, lo = some (.int k l)) (hhi : (hi = none ∧ h = len ∧ mx = none) ∨ ∃ k, hi = some (.int k h))
    (hmx : (mx = none ∧ m = cap) ∨ ∃ k, mx = some (.int k m)) (h1 : l ≤ h) (h2 : h ≤ m) (h3 : m ≤ cap) (w : World) : (Instr.sliceBounds isS len cap lo hi mx).run P w = .ok (l, h, m) w := by
  have b : ∀ (k : IntKind) (i y : Nat) (c : BoundsCode), i ≤ y → (Instr.sliceBound (.int k (i : Int)) y c).run P w = .ok i w := fun k i y c hi => by
    have := run_sliceBound (P := P) (w := w) k (i : Int) y c (by omega) (by omega)
    simpa using this
  rcases hmx with ⟨rfl, rfl⟩ | ⟨km, rfl⟩
  · rcases hhi with ⟨rfl, rfl, _⟩ | ⟨kh, rfl⟩
    · rcases hlo with ⟨rfl, rfl⟩ | ⟨kl, rfl⟩
      · simp [Instr.sliceBounds]
      · simp [Instr.sliceBounds, b _ _ _ _ h1]
    · rcases hlo with ⟨rfl, rfl⟩ | ⟨kl, rfl⟩
      · simp [Instr.sliceBounds, b _ _ _ _ h2]
      · simp [Instr.sliceBounds, b _ _ _ _ h2, b _ _ _ _ h1]
  · rcases hhi with ⟨_, _, h'⟩ | ⟨kh, rfl⟩
    · cases h'
    · rcases hlo with ⟨rfl, rfl⟩ | ⟨kl, rfl⟩
      · simp [Instr.sliceBounds, b _ _ _ _ h3, b _ _ _ _ h2]
      · simp [Instr.sliceBounds, b _ _ _ _ h3, b _ _ _ _ h2, b _ _ _ _ h1]

theorem run_sliceAt {t e : TypeId} {n : Nat} (ht : elemOfT P t = some (e, n)) (a : Option Addr) (len cap : Nat) (lo hi mx : Option Value) (l h m : Nat) (hlo : (lo = none ∧ l = 0) ∨ ∃ k, lo = some (.int k l)) (hhi : (hi = none ∧ h = len ∧ mx = none) ∨ ∃ k, hi = some (.int k h))
    (hmx : (mx = none ∧ m = cap) ∨ ∃ k, mx = some (.int k m)) (h1 : l ≤ h) (h2 : h ≤ m) (h3 : m ≤ cap) (w : World) :
    (Instr.sliceAt t (.slice a len cap) lo hi mx).run P w = .ok (.slice (if m = l then a else a.map (·.add (l * n))) (h - l) (m - l)) w := by
  obtain ⟨hu, inf, hi', hs⟩ := elemOfT_spec ht
  simp [Instr.sliceAt, run_underlying hu, Instr.slice, run_bounds true len cap lo hi mx l h m hlo hhi hmx h1 h2 h3, sizeOf, typeInfo, hi', hs]

theorem run_sliceStr {t : TypeId} (ht : P.underlying t = some .string) (b : ByteArray) (lo hi : Option Value) (l h : Nat) (hlo : (lo = none ∧ l = 0) ∨ ∃ k, lo = some (.int k l)) (hhi : (hi = none ∧ h = b.size) ∨ ∃ k, hi = some (.int k h))
    (h1 : l ≤ h) (h2 : h ≤ b.size) (w : World) : (Instr.sliceAt t (.string b) lo hi none).run P w = .ok (.string (b.extract l h)) w := by
  have := run_bounds (P := P) false b.size b.size lo hi none l h b.size hlo (hhi.imp (fun h => ⟨h.1, h.2, rfl⟩) id) (.inl ⟨rfl, rfl⟩) h1 h2 (Nat.le_refl _) w
  simp [Instr.sliceAt, run_underlying ht, Instr.slice, this]

/-- a bound of a slice expression: absent, or a number -/
def bnd (s : S) (d : Int) : Option Operand → Option Int
  | none => some d
  | some x => match evO s x with
    | .v (.int _ n) => some n
    | _ => none

def isZero : Option Operand → Bool
  | some (.const (.int _ 0)) => true
  | _ => false

def evSliceS (P : Program) (t : TypeId) (s : S) (x : AV) (lo hi mx : Option Operand) : Option Ev :=
  match x with
  | .v (.string b) => bif isStringT P t && mx.isNone then
      match bnd s 0 lo, bnd s b.size hi with
      | some l, some h => some ⟨.v (.string (b.extract l.toNat h.toNat)), [], [], some (0 ≤ l ∧ l ≤ h ∧ h ≤ b.size)⟩
      | _, _ => none
    else none
  | _ => none

def evSlice (n : Nat) (s : S) (nk : Nat) (x : AV) (lo hi mx : Option Operand) : Option Ev :=
  match x with
  | .v (.slice none 0 0) => match bnd s 0 lo, bnd s 0 hi, bnd s 0 mx with
    | some l, some h, some m => bif hi.isSome || mx.isNone then some ⟨.v (.slice none 0 0), [], [], some (l = 0 ∧ h = 0 ∧ m = 0)⟩ else none
    | _, _, _ => none
  | .sl k L len => match s.O k with
    | .arr sz es => bif Nat.beq sz n then
      (bif isZero mx && isZero hi && lo.isNone then some ⟨.sl nk 0 0, [(nk, .arr sz [])], [nk], none⟩
      else match bnd s 0 lo, bnd s len hi, bnd s len mx with
      | some l, some h, some m => bif hi.isSome || mx.isNone then some ⟨.sl k (L + l.toNat) (h.toNat - l.toNat), [], [], some (0 ≤ l ∧ l ≤ h ∧ h ≤ m ∧ m ≤ len)⟩ else none
      | _, _, _ => none) else none
    | _ => none
  | .bs l' sz es => bif Nat.beq sz n then
    (bif isZero mx && isZero hi && lo.isNone then some ⟨.sl nk 0 0, [(nk, .arr sz [])], [nk], none⟩
    else match bnd s 0 lo, bnd s es.length hi, bnd s es.length mx with
    | some l, some h, some m => bif hi.isSome || mx.isNone then some ⟨.bs l' sz ((es.drop l.toNat).take (h.toNat - l.toNat)), [], [], some (0 ≤ l ∧ l ≤ h ∧ h ≤ m ∧ m ≤ es.length)⟩ else none
    | _, _, _ => none) else none
  | _ => none

theorem bnd_spec {X : Env} {N : Nat} {m : Nat → Option Loc} {a : Act} {w : World} (hr : Rel X N s m a w) {d : Int} {x : Option Operand} {n : Int} (h : bnd s d x = some n) : (x = none ∧ n = d) ∨ ∃ k y, x = some y ∧ a.eval y = .int k n := by
  cases x with
  | none => simp [bnd] at h; exact .inl ⟨rfl, h.symm⟩
  | some y =>
    simp only [bnd] at h
    split at h
    · rename_i k n' hy
      cases h
      have e := hr.eval y
      rw [hy] at e
      simp only [VR] at e
      exact .inr ⟨k, y, rfl, e⟩
    · cases h

theorem isZero_spec {x : Option Operand} (h : isZero x = true) : ∃ k, x = some (.const (.int k 0)) := by
  unfold isZero at h
  split at h
  · exact ⟨_, rfl⟩
  · cases h

theorem HR_empty {X : Env} {m : Nat → Option Loc} {h : Nat → AO} {w : World} {k sz : Nat} (hk : h k = .arr sz []) (hm : m k = none) : HR X m h w k := by
  unfold HR
  rw [hk]
  exact ⟨(fun e he => by cases he), .inl ⟨hm, rfl⟩⟩

/-- a new empty array without a block: the value is a slice without room -/
theorem snd_empty {nin nk sz : Nat} (h : ∀ (X : Env) (N : Nat) (m : Nat → Option Loc) (a : Act) (w : World), Rel X N s m a w → ∃ ad, (execOp a.eval o).run P w = .ok (.value (.slice ad 0 0)) w) :
    Sound P nin o s ⟨.sl nk 0 0, [(nk, .arr sz [])], [nk], none⟩ := by
  intro X N m a w K Q hn hr hd hf _ hK
  obtain ⟨ad, h1⟩ := h X N m a w hr
  obtain ⟨hk, hfr⟩ := hf nk (List.mem_singleton.2 rfl)
  have hr' : Rel X N (s.setO nk (.arr sz [])) (fun i => if i = nk then none else m i) a w :=
    hr.add (.arr sz []) none (by omega) hfr (by rintro L hL; cases hL) (fun _ _ _ => rfl) (by rintro L hL; cases hL) rfl rfl rfl (Nat.le_refl _) (HR_empty (by rw [S.O_setO, if_pos rfl]) (by simp))
  refine wp_of_value h1 (hK (fun i => if i = nk then none else m i) _ w ?_)
  have hv : VR X (fun i => if i = nk then none else m i) (s.setO nk (.arr sz [])).sh (.sl nk 0 0) (.slice ad 0 0) := by
    simp only [VR]
    rw [S.sh_setO, if_pos rfl]
    exact ⟨Nat.le_refl _, ad, 0, rfl, Nat.le_refl _, .inl rfl⟩
  unfold Ev.ap Ev.hp
  cases hdst : o.dst with
  | none => exact hr'
  | some d => exact hr'.putV (hd d hdst) hv

theorem snd_sliceS {nin : Nat} {t : TypeId} {x : Operand} {lo hi mx : Option Operand} (ho : o.op = .slice t x lo hi mx) (he : evSliceS P t s (evO s x) lo hi mx = some ev) : Sound P nin o s ev := by
  have fin : ∀ {a : Act} {w : World} {v : Value}, (Instr.sliceAt t (a.eval x) (lo.map a.eval) (hi.map a.eval) (mx.map a.eval)).run P w = .ok v w → (execOp a.eval o).run P w = .ok (.value v) w := fun h => by
    simp only [execOp, ho, Sem.run_bind, h, Result.andThen_ok, Sem.run_pure]
  unfold evSliceS at he
  split at he
  · rename_i b hx
    cases hc : (isStringT P t && mx.isNone) with
    | false => simp [hc] at he
    | true =>
      simp only [hc, cond_true] at he
      simp only [Bool.and_eq_true, Option.isNone_iff_eq_none] at hc
      obtain ⟨hst, rfl⟩ := hc
      split at he
      · rename_i l h hl hh
        cases he
        refine .val fun hc X N m a w hr => ?_
        obtain ⟨c1, c2, c3⟩ := hc
        have e1 := hr.eval x
        rw [hx] at e1
        simp only [VR] at e1
        refine ⟨.string (b.extract l.toNat h.toNat), fin ?_, by simp only [VR]⟩
        rw [e1]
        refine run_sliceStr (isStringT_spec hst) b _ _ l.toNat h.toNat ?_ ?_ (by omega) (by omega) w
        · rcases bnd_spec hr hl with ⟨rfl, rfl⟩ | ⟨k, y, rfl, hy⟩
          · exact .inl ⟨rfl, rfl⟩
          · exact .inr ⟨k, by simp [hy]; omega⟩
        · rcases bnd_spec hr hh with ⟨rfl, rfl⟩ | ⟨k, y, rfl, hy⟩
          · exact .inl ⟨rfl, by simp⟩
          · exact .inr ⟨k, by simp [hy]; omega⟩
      · cases he
  · cases he

/-- the three bounds of a slice expression as the machine takes them, at a slice of this length and room -/
theorem bounds_of {X : Env} {N : Nat} {m : Nat → Option Loc} {a : Act} {w : World} (hr : Rel X N s m a w) {lo hi mx : Option Operand} {len cap : Nat} {l h mm : Int} (hl : bnd s 0 lo = some l) (hh : bnd s len hi = some h) (hm : bnd s len mx = some mm)
    (hg : (hi.isSome || mx.isNone) = true) (c0 : 0 ≤ l) (c1 : l ≤ h) (c2 : h ≤ mm) (c3 : mm ≤ len) (hcap : len ≤ cap) :
    ∃ q : Nat, (q : Int) = (if mx = none then (cap : Int) else mm) ∧ ((lo.map a.eval = none ∧ l.toNat = 0) ∨ ∃ k, lo.map a.eval = some (.int k l.toNat)) ∧ ((hi.map a.eval = none ∧ h.toNat = len ∧ mx.map a.eval = none) ∨ ∃ k, hi.map a.eval = some (.int k h.toNat)) ∧
      ((mx.map a.eval = none ∧ q = cap) ∨ ∃ k, mx.map a.eval = some (.int k q)) ∧ l.toNat ≤ h.toNat ∧ h.toNat ≤ q ∧ q ≤ cap := by
  have r1 : (lo.map a.eval = none ∧ l.toNat = 0) ∨ ∃ k, lo.map a.eval = some (.int k l.toNat) := by
    rcases bnd_spec hr hl with ⟨rfl, rfl⟩ | ⟨k, y, rfl, hy⟩
    · exact .inl ⟨rfl, rfl⟩
    · exact .inr ⟨k, by simp [hy]; omega⟩
  have r2 : (hi.map a.eval = none ∧ h.toNat = len ∧ mx.map a.eval = none) ∨ ∃ k, hi.map a.eval = some (.int k h.toNat) := by
    rcases bnd_spec hr hh with ⟨rfl, rfl⟩ | ⟨k, y, rfl, hy⟩
    · simp at hg; subst hg; exact .inl ⟨rfl, by simp, rfl⟩
    · exact .inr ⟨k, by simp [hy]; omega⟩
  rcases bnd_spec hr hm with ⟨rfl, rfl⟩ | ⟨k, y, rfl, hy⟩
  · exact ⟨cap, by simp, r1, r2, .inl ⟨rfl, rfl⟩, by omega, by omega, Nat.le_refl _⟩
  · exact ⟨mm.toNat, by simp; omega, r1, r2, .inr ⟨k, by simp [hy]; omega⟩, by omega, by omega, by omega⟩

theorem snd_slice {nin nk : Nat} {t e : TypeId} {n : Nat} {x : Operand} {lo hi mx : Option Operand} (ho : o.op = .slice t x lo hi mx) (ht : elemOfT P t = some (e, n))
    (he : evSlice n s nk (evO s x) lo hi mx = some ev) : Sound P nin o s ev := by
  have fin : ∀ {a : Act} {w : World} {v : Value}, (Instr.sliceAt t (a.eval x) (lo.map a.eval) (hi.map a.eval) (mx.map a.eval)).run P w = .ok v w → (execOp a.eval o).run P w = .ok (.value v) w := fun h => by
    simp only [execOp, ho, Sem.run_bind, h, Result.andThen_ok, Sem.run_pure]
  have zeros : ∀ (ad : Option Addr) (len cap : Nat) (h1 : isZero mx = true) (h2 : isZero hi = true) (h3 : lo = none) (a : Act) (w : World), a.eval x = .slice ad len cap →
      (execOp a.eval o).run P w = .ok (.value (.slice ad 0 0)) w := by
    intro ad len cap h1 h2 h3 a w hx
    obtain ⟨k1, h1⟩ := isZero_spec h1
    obtain ⟨k2, h2⟩ := isZero_spec h2
    refine fin ?_
    rw [hx, h1, h2, h3]
    have := run_sliceAt (P := P) ht ad len cap none (some (.int k2 0)) (some (.int k1 0)) 0 0 0 (.inl ⟨rfl, rfl⟩) (.inr ⟨k2, rfl⟩) (.inr ⟨k1, rfl⟩) (Nat.le_refl _) (Nat.le_refl _) (Nat.zero_le _) w
    simpa [Act.eval] using this
  unfold evSlice at he
  split at he
  · rename_i hx
    split at he
    · rename_i l h mm hl hh hm
      cases hg : (hi.isSome || mx.isNone) with
      | false => simp [hg] at he
      | true =>
        simp only [hg, cond_true] at he
        cases he
        refine .val fun hc X N m' a w hr => ?_
        obtain ⟨rfl, rfl, rfl⟩ := hc
        have e1 := hr.eval x
        rw [hx] at e1
        simp only [VR] at e1
        refine ⟨.slice none 0 0, fin ?_, by simp only [VR]⟩
        obtain ⟨q, q0, q1, q2, q3, q4, q5, q6⟩ := bounds_of (len := 0) (cap := 0) hr hl hh hm hg (Int.le_refl _) (Int.le_refl _) (Int.le_refl _) (Int.le_refl _) (Nat.le_refl _)
        have hq : q = 0 := by omega
        subst hq
        rw [e1, run_sliceAt ht none 0 0 _ _ _ _ _ _ q1 q2 q3 q4 q5 q6]
        simp
    · cases he
  · rename_i k L len hx
    split at he
    · rename_i sz es hO
      cases hsz : Nat.beq sz n with
      | false => simp [hsz] at he
      | true =>
        have hsz' := Nat.eq_of_beq_eq_true hsz
        subst hsz'
        simp only [hsz, cond_true] at he
        have hsh : s.sh k = .arr sz es.length := by simp [S.sh, hO, AO.sh]
        cases hz : (isZero mx && isZero hi && lo.isNone) with
        | true =>
          simp only [hz, cond_true] at he
          cases he
          simp only [Bool.and_eq_true, Option.isNone_iff_eq_none] at hz
          refine snd_empty fun X N m a w hr => ?_
          have e1 := hr.eval x
          rw [hx] at e1
          simp only [VR, hsh] at e1
          obtain ⟨_, ad, cap, e1, _⟩ := e1
          exact ⟨ad, zeros ad len cap hz.1.1 hz.1.2 hz.2 a w e1⟩
        | false =>
          simp only [hz, cond_false] at he
          split at he
          · rename_i l h mm hl hh hm
            cases hg : (hi.isSome || mx.isNone) with
            | false => simp [hg] at he
            | true =>
              simp only [hg, cond_true] at he
              cases he
              refine .val fun hc X N m' a w hr => ?_
              obtain ⟨c0, c1, c2, c3⟩ := hc
              have e1 := hr.eval x
              rw [hx] at e1
              simp only [VR, hsh] at e1 ⊢
              obtain ⟨hlen, ad, cap, e1, hcap, hv⟩ := e1
              obtain ⟨q, q0, q1, q2, q3, q4, q5, q6⟩ := bounds_of hr hl hh hm hg c0 c1 c2 c3 hcap
              refine ⟨_, fin (by rw [e1]; exact run_sliceAt ht ad len cap _ _ _ _ _ _ q1 q2 q3 q4 q5 q6 w), by omega, _, _, rfl, by omega, ?_⟩
              by_cases hql : q - l.toNat = 0
              · exact .inl hql
              · right
                rcases hv with hv | ⟨LL, hm', had, hle⟩
                · omega
                · subst had
                  refine ⟨LL, hm', ?_, ?_⟩
                  · rw [if_neg (by omega)]
                    simp only [Option.map_some, Addr.add_lit]
                    rw [Nat.add_mul, Nat.add_assoc]
                  · have h1 : q * sz ≤ cap * sz := Nat.mul_le_mul_right _ q6
                    have h2 : l.toNat * sz + (q - l.toNat) * sz = q * sz := by rw [← Nat.add_mul]; congr 1; omega
                    rw [Nat.add_mul]
                    omega
          · cases he
    · cases he
  · rename_i sz es hx
    cases hsz : Nat.beq sz n with
    | false => simp [hsz] at he
    | true =>
      have hsz' := Nat.eq_of_beq_eq_true hsz
      subst hsz'
      simp only [hsz, cond_true] at he
      cases hz : (isZero mx && isZero hi && lo.isNone) with
      | true =>
        simp only [hz, cond_true] at he
        cases he
        simp only [Bool.and_eq_true, Option.isNone_iff_eq_none] at hz
        refine snd_empty fun X N m a w hr => ?_
        have e1 := hr.eval x
        rw [hx] at e1
        simp only [VR] at e1
        obtain ⟨ad, cap, e1, _⟩ := e1
        exact ⟨ad, zeros ad es.length cap hz.1.1 hz.1.2 hz.2 a w e1⟩
      | false =>
        simp only [hz, cond_false] at he
        split at he
        · rename_i l h mm hl hh hm
          cases hg : (hi.isSome || mx.isNone) with
          | false => simp [hg] at he
          | true =>
            simp only [hg, cond_true] at he
            cases he
            refine .val fun hc X N m' a w hr => ?_
            obtain ⟨c0, c1, c2, c3⟩ := hc
            have e1 := hr.eval x
            rw [hx] at e1
            simp only [VR] at e1 ⊢
            obtain ⟨ad, cap, e1, hcap, hok, hv⟩ := e1
            obtain ⟨q, q0, q1, q2, q3, q4, q5, q6⟩ := bounds_of hr hl hh hm hg c0 c1 c2 c3 hcap
            have hlen : ((es.drop l.toNat).take (h.toNat - l.toNat)).length = h.toNat - l.toNat := by simp; omega
            refine ⟨.slice (if q = l.toNat then ad else ad.map (·.add (l.toNat * sz))) (h.toNat - l.toNat) (q - l.toNat), fin (by rw [e1]; exact run_sliceAt ht ad es.length cap _ _ _ _ _ _ q1 q2 q3 q4 q5 q6 w), _, _, by rw [hlen], by rw [hlen]; omega, ?_, ?_⟩
            · intro e' he'
              exact hok e' (List.mem_of_mem_drop (List.mem_of_mem_take he'))
            · rcases hv with hv | ⟨b, off, had, hB, C, E, fz, hh', hcell⟩
              · subst hv; simp
              · by_cases hql : h.toNat - l.toNat = 0
                · left; rw [hql, List.take_zero]
                · right
                  subst had
                  refine ⟨b, off + l.toNat * sz, ?_, hB, C, E, fz, hh', ?_⟩
                  · rw [if_neg (by omega)]
                    simp only [Option.map_some, Addr.add_lit]
                  · intro i e' hi' j x' hj
                    simp only [List.getElem?_take, List.getElem?_drop] at hi'
                    split at hi'
                    · have := hcell _ _ hi' j x' hj
                      rw [Nat.add_mul] at this
                      rwa [show off + l.toNat * sz + i * sz + j = off + (l.toNat * sz + i * sz) + j by omega]
                    · cases hi'
        · cases he
  · cases he

end Go.Eng
