/- What is proved: how the relation of the engine is carried over a value put into a slot, a new object, a written object, a dropped object; nothing of the program yet. No conditions. -/
import Derived.Test.YtomemaanjendhaaDoorCExactShowShortEng1
set_option linter.unusedVariables false
namespace Go.Eng
open Go

variable {P : Program} {X : Env} {N : Nat} {s : S} {m : Nat → Option Loc} {a : Act} {w w' : World}

/-- no slot and no object names `k` -/
def S.free (k : Nat) (s : S) : Bool := (s.t.all fun p => !(p.2.names k)) && (s.h.all fun p => !(p.2.names k))

theorem look_all {α : Type} (d : α) (q : α → Prop) : ∀ (l : List (Nat × α)), (∀ p ∈ l, q p.2) → q d → ∀ i, q (look d l i)
  | [], _, hd, i => hd
  | (j, x) :: r, h, hd, i => by
    rw [look_cons]
    split
    · exact h (j, x) (by simp)
    · exact look_all d q r (fun p hp => h p (by simp [hp])) hd i

theorem S.free_spec {k : Nat} (h : s.free k = true) : (∀ t, (s.T t).names k = false) ∧ ∀ i, (s.O i).names k = false := by
  simp only [S.free, Bool.and_eq_true, List.all_eq_true, Bool.not_eq_true'] at h
  exact ⟨fun t => look_all AV.any (fun x => x.names k = false) _ h.1 rfl t, fun t => look_all AO.dead (fun x => x.names k = false) _ h.2 rfl t⟩

def evO (s : S) : Operand → AV
  | .tmp t => s.T t
  | .const v => .v v
  | .func f => .fn f []
  | .global _ => .any

theorem Rel.eval (h : Rel X N s m a w) (x : Operand) : VR X m s.sh (evO s x) (a.eval x) := by
  cases x with
  | tmp t => exact h.slot t
  | const v => simp only [evO, VR, Act.eval]
  | func f => simp only [evO, VR, Act.eval]; exact ⟨[], by simp, by simp [VRs]⟩
  | global g => simp only [evO, VR]

theorem Rel.putV (h : Rel X N s m a w) {d : Nat} (hd : d < N) {x : AV} {v : Value} (hv : VR X m s.sh x v) : Rel X N (s.setT d x) m (a.put (some d) v) w where
  size := by simp [Act.put, h.size]
  defers := h.defers
  slot := fun t => by
    rw [S.T_setT]
    have hsz : d < a.tmps.size := by rw [h.size]; exact hd
    by_cases ht : t = d
    · subst ht
      rw [if_pos rfl]
      have : (a.put (some t) v).tmps.getD t undef = v := by simp [Act.put, hsz]
      rw [this]; exact hv
    · rw [if_neg ht]
      have : (a.put (some d) v).tmps.getD t undef = a.tmps.getD t undef := by simp [Act.put, Array.getElem?_setIfInBounds_ne (Ne.symm ht)]
      rw [this]; exact h.slot t
  obj := h.obj
  dist := h.dist
  keep := h.keep
  fr := h.fr

theorem Rel.put (h : Rel X N s m a w) {dst : Option Nat} (hd : ∀ d, dst = some d → d < N) {x : AV} {v : Value} (hv : VR X m s.sh x v) :
    Rel X N (match dst with | some d => s.setT d x | none => s) m (a.put dst v) w := by
  cases dst with
  | none => exact h
  | some d => exact h.putV (hd d rfl) hv

/-- a draw changes nothing that is told -/
theorem Rel.world (h : Rel X N s m a w) (hh : w'.heap = w.heap) (hos : w'.os = w.os) (ht : w'.tape = w.tape) (ho : w'.output = w.output) : Rel X N s m a w' where
  size := h.size
  defers := h.defers
  slot := h.slot
  obj := fun k => (h.obj k).conv rfl rfl (fun _ _ _ => by rw [hh]) (fun _ _ => .inr ⟨rfl, rfl⟩)
  dist := h.dist
  keep := h.keep
  fr := h.fr.step hos ht ho (by rw [hh]; exact Nat.le_refl _) (fun b _ _ => by rw [hh])

theorem Rel.drew (h : Rel X N s m a w) : Rel X N s m a w.drew := h.world rfl rfl rfl rfl

theorem S.sh_setO (s : S) (k : Nat) (o : AO) (i : Nat) : (s.setO k o).sh i = if i = k then o.sh else s.sh i := by
  simp only [S.sh, S.O_setO]; split <;> rfl

theorem Rel.kill (h : Rel X N s m a w) (k : Nat) : Rel X N (s.setO k .dead) m a w := by
  have hc : ∀ i, (s.setO k .dead).sh i = .dead ∨ ((s.setO k .dead).sh i = s.sh i ∧ m i = m i) := fun i => by
    rw [S.sh_setO]
    by_cases hi : i = k
    · exact .inl (by rw [if_pos hi]; rfl)
    · exact .inr ⟨by rw [if_neg hi], rfl⟩
  refine ⟨h.size, h.defers, fun t => ?_, fun i => ?_, fun i j L L' hij hi hj => ?_, fun i hi hd => ?_, h.fr⟩
  · rw [S.T_setO]; exact VR_conv _ (fun i _ => hc i) _ (h.slot t)
  · by_cases hi : i = k
    · subst hi; unfold HR; rw [S.O_setO, if_pos rfl]; trivial
    · exact (h.obj i).conv (by rw [S.O_setO, if_neg hi]) rfl (fun _ _ _ => rfl) (fun j _ => hc j)
  · rw [S.sh_setO] at hi hj
    split at hi
    · exact absurd rfl hi
    · split at hj
      · exact absurd rfl hj
      · exact h.dist i j L L' hij hi hj
  · rw [S.sh_setO] at hd
    split at hd
    · exact absurd rfl hd
    · exact h.keep i hi hd

/-- a new object under a name that nothing bears; its block is new, or an own one that no living object has -/
theorem Rel.add (h : Rel X N s m a w) {k : Nat} (o : AO) (ol : Option Loc) (hk : X.nin ≤ k) (hf : s.free k = true)
    (hne : ∀ L, ol = some L → ∀ i L', i ≠ k → s.sh i ≠ .dead → m i = some L' → L'.b ≠ L.b)
    (hw : ∀ b, b < w.heap.size → (∀ L, ol = some L → b ≠ L.b) → w'.heap[b]? = w.heap[b]?)
    (how : ∀ L, ol = some L → X.Own L.b)
    (hos : w'.os = w.os) (htp : w'.tape = w.tape) (hou : w'.output = w.output) (hs : w.heap.size ≤ w'.heap.size)
    (hnew : HR X (fun i => if i = k then ol else m i) (s.setO k o).O w' k) : Rel X N (s.setO k o) (fun i => if i = k then ol else m i) a w' := by
  obtain ⟨hfT, hfO⟩ := S.free_spec hf
  have hc : ∀ i, i ≠ k → ((s.setO k o).sh i = s.sh i ∧ (fun i => if i = k then ol else m i) i = m i) := fun i hi => by
    rw [S.sh_setO]; simp [hi]
  have hblk : ∀ i L, i ≠ k → s.sh i ≠ .dead → m i = some L → w'.heap[L.b]? = w.heap[L.b]? := fun i L hi hd hm =>
    hw L.b ((h.obj i).lt hm hd).1 (fun L' hL' => hne L' hL' i L hi hd hm)
  refine ⟨h.size, h.defers, fun t => ?_, fun i => ?_, fun i j L L' hij hi hj hmi hmj => ?_, fun i hi hd => ?_, ?_⟩
  · rw [S.T_setO]
    refine VR_conv _ (fun i hi => .inr (hc i ?_)) _ (h.slot t)
    rintro rfl; rw [hfT t] at hi; cases hi
  · by_cases hi : i = k
    · subst hi; exact hnew
    · refine (h.obj i).conv (by rw [S.O_setO, if_neg hi]) (by simp [hi]) (fun L hm hd => hblk i L hi hd hm) (fun j hj => .inr (hc j ?_))
      rintro rfl; rw [hfO i] at hj; cases hj
  · by_cases hik : i = k
    · subst hik
      have hjk : j ≠ i := Ne.symm hij
      rw [(hc j hjk).1] at hj
      simp only [if_true] at hmi
      simp only [hjk, if_false] at hmj
      exact Ne.symm (hne L hmi j L' hjk hj hmj)
    · by_cases hjk : j = k
      · subst hjk
        rw [(hc i hik).1] at hi
        simp only [if_true] at hmj
        simp only [hik, if_false] at hmi
        exact hne L' hmj i L hik hi hmi
      · rw [(hc i hik).1] at hi
        rw [(hc j hjk).1] at hj
        simp only [hik, if_false] at hmi
        simp only [hjk, if_false] at hmj
        exact h.dist i j L L' hij hi hj hmi hmj
  · have hik : i ≠ k := by omega
    rw [(hc i hik).1] at hd
    simp only [hik, if_false]
    exact h.keep i hi hd
  · refine h.fr.step hos htp hou hs (fun b hb hbm => hw b (Nat.lt_of_lt_of_le hb h.fr.size) (fun L hL e => ?_))
    rcases how L hL with h' | h'
    · omega
    · exact hbm (e ▸ h')

/-- a living object of which only the content turns -/
theorem Rel.modify (h : Rel X N s m a w) {k : Nat} (o : AO) (ho : o.sh = s.sh k) (hd : s.sh k ≠ .dead) {L : Loc} (hm : m k = some L)
    (hw : ∀ b, b ≠ L.b → w'.heap[b]? = w.heap[b]?)
    (hos : w'.os = w.os) (htp : w'.tape = w.tape) (hou : w'.output = w.output) (hs : w.heap.size ≤ w'.heap.size)
    (hnew : HR X m (s.setO k o).O w' k) : Rel X N (s.setO k o) m a w' := by
  have hsh : (s.setO k o).sh = s.sh := by
    funext i; rw [S.sh_setO]; split
    · rename_i e; subst e; exact ho
    · rfl
  refine ⟨h.size, h.defers, fun t => ?_, fun i => ?_, ?_, ?_, ?_⟩
  · rw [S.T_setO, hsh]; exact h.slot t
  · by_cases hi : i = k
    · subst hi; exact hnew
    · refine (h.obj i).conv (by rw [S.O_setO, if_neg hi]) rfl (fun L' hm' hd' => hw _ (h.dist i k L' L hi hd' hd hm' hm)) (fun j _ => .inr ⟨?_, rfl⟩)
      exact congrFun hsh j
  · rw [hsh]; exact h.dist
  · rw [hsh]; exact h.keep
  · refine h.fr.step hos htp hou hs (fun b hb hbm => hw b (fun e => ?_))
    rcases ((h.obj k).lt hm hd).2 with h' | h'
    · omega
    · exact hbm (e ▸ h')

/-- a new block behind all others -/
theorem Rel.fresh (h : Rel X N s m a w) {k : Nat} (o : AO) (b : Obj) (off tot : Nat) (hk : X.nin ≤ k) (hf : s.free k = true)
    (hnew : HR X (fun i => if i = k then some ⟨w.heap.size, off, tot⟩ else m i) (s.setO k o).O (w.alloc b) k) :
    Rel X N (s.setO k o) (fun i => if i = k then some ⟨w.heap.size, off, tot⟩ else m i) a (w.alloc b) := by
  refine h.add o (some ⟨w.heap.size, off, tot⟩) hk hf ?_ ?_ ?_ rfl rfl rfl (by simp) hnew
  · rintro L hL i L' hi hd hm
    cases hL
    exact Nat.ne_of_lt ((h.obj i).lt hm hd).1
  · intro b' hb' _
    exact Go.RowKit.Below.heap_alloc w b _ hb'
  · rintro L hL
    cases hL
    exact .inl h.fr.size

/-- a value read as a slot read it, the new object aside -/
theorem VR_new (h : Rel X N s m a w) {k : Nat} (hf : s.free k = true) (o : AO) (ol : Option Loc) {x : AV} {v : Value} (hx : x.names k = false) (hv : VR X m s.sh x v) :
    VR X (fun i => if i = k then ol else m i) (s.setO k o).sh x v := by
  refine VR_conv _ (fun i hi => .inr ?_) _ hv
  have hik : i ≠ k := by rintro rfl; rw [hx] at hi; cases hi
  rw [S.sh_setO]; simp [hik]

theorem evO_free {k : Nat} (h : s.free k = true) (x : Operand) : (evO s x).names k = false := by
  cases x with
  | tmp t => exact (S.free_spec h).1 t
  | const v => rfl
  | func f => rfl
  | global g => rfl

theorem wp_of_value {o : Oper} {v : Value} {K : Act → World → Prop} {Q : Exit → Act → World → Prop} (h : (execOp a.eval o).run P w = .ok (.value v) w') (hK : K (a.put o.dst v) w') : o.wp P a w K Q := by
  unfold Oper.wp; rw [h]; exact hK

theorem wp_of_skip {o : Oper} {K : Act → World → Prop} {Q : Exit → Act → World → Prop} (h : (execOp a.eval o).run P w = .ok .skip w') (hK : K (a.put o.dst undef) w') : o.wp P a w K Q := by
  unfold Oper.wp; rw [h]; exact hK

/-! ### reading memory -/
theorem Fr.at_B (h : Fr X w) {b : Nat} (hb : X.B b) : w.heap[b]? = X.w0.heap[b]? := let ⟨h1, h2⟩ := X.hB b hb; h.block b h1 h2

def descAgg : TypeDesc → Bool
  | .struct _ | .array _ _ => true
  | _ => false

theorem isAgg_run (t : TypeId) {d : TypeDesc} (hu : P.underlying t = some d) (w : World) : (isAgg t).run P w = .ok (descAgg d) w := by
  unfold isAgg
  rw [Sem.run_bind, run_underlying hu w]
  cases d <;> rfl

/-- is `t` a struct's or an array's type, and how many cells has it? -/
def aggOf (P : Program) (t : TypeId) : Option (Bool × Nat) :=
  match P.underlying t, P.info? t with
  | some d, some i => some (descAgg d, i.size)
  | _, _ => none

theorem aggOf_spec {t : TypeId} {g : Bool} {n : Nat} (h : aggOf P t = some (g, n)) (w : World) : (isAgg t).run P w = .ok g w ∧ (sizeOf t).run P w = .ok n w := by
  unfold aggOf at h
  cases hu : P.underlying t with
  | none => simp [hu] at h
  | some d =>
    cases hi : P.info? t with
    | none => simp [hu, hi] at h
    | some i =>
      simp only [hu, hi, Option.some.injEq, Prod.mk.injEq] at h
      refine ⟨?_, ?_⟩
      · rw [isAgg_run t hu w, h.1]
      · simp [sizeOf, typeInfo, hi, h.2]

theorem loadVar_agg {t : TypeId} {n : Nat} (h : aggOf P t = some (true, n)) (b off : Nat) {C : Array Value} {E : TypeId} {fz : Nat × Nat} (hh : w.heap[b]? = some (.cells C E fz)) (L : List Value) (hL : L.length = n)
    (hc : ∀ j x, L[j]? = some x → C[off + j]? = some x) : (loadVar t ⟨b, off, none⟩).run P w = .ok (.agg L.toArray) w := by
  obtain ⟨h1, h2⟩ := aggOf_spec h w
  have hl : (loadCells ⟨b, off, none⟩ L.length).run P w = .ok L.toArray w := run_loadCells_list (P := P) w ⟨b, off, none⟩ L (fun j v hv => by
    rw [Addr.add_lit, cell_of_row w b _ C E fz hh]; exact hc j v hv)
  simp [loadVar, Sem.run_bind, h1, h2, ← hL, hl]

theorem loadVar_one {t : TypeId} {n : Nat} (h : aggOf P t = some (false, n)) (b off : Nat) {C : Array Value} {E : TypeId} {fz : Nat × Nat} (hh : w.heap[b]? = some (.cells C E fz)) (x : Value)
    (hc : C[off]? = some x) : (loadVar t ⟨b, off, none⟩).run P w = .ok x w := by
  obtain ⟨h1, h2⟩ := aggOf_spec h w
  simp [loadVar, Sem.run_bind, h1, cell_of_row w b off C E fz hh, hc]

end Go.Eng
