/- What is proved: a region of operations, run in whatever order its edges allow, ends in the state that the engine reckons by going through the operations in the order of the text, if operations that no edge orders do not meddle with one another. -/
import Derived.Test.YtomemaanjendhaaDoorCExactShowShortEng13
set_option linter.unusedVariables false
set_option linter.unusedSimpArgs false
namespace Go.Eng
open Go

variable {P : Program} {X : Env} {N : Nat} {m : Nat → Option Loc} {a : Act} {w : World}

/-- what an executed operation has read and written -/
structure StepR where
  ev : Ev
  rt : List Nat
  rh : List Nat
  dst : Option Nat

/-- what the generator tells of an operation: a hint; or, of a call, the function, its arguments, the objects that it looks at, what it does -/
inductive Item where
  | auto (h : Hint)
  | call (f : FuncId) (args : List AV) (objs : List (Nat × AO)) (ev : Ev)

def objsOk (O : Nat → AO) : List (Nat × AO) → Prop
  | [] => True
  | (k, o) :: r => O k = o ∧ objsOk O r

/-- the function and the arguments of a call of a Go function -/
def callOf (s : S) (o : Oper) : Option (FuncId × List AV) :=
  match o.op with
  | .call { callee := .value fo, args, .. } => match evO s fo with
    | .fn f caps => some (f, args.toList.map (evO s) ++ caps)
    | _ => none
  | _ => none

/-- a call does what is told of it -/
def CallV (P : Program) (nin : Nat) (f : FuncId) (args : List AV) (objs : List (Nat × AO)) (ev : Ev) : Prop :=
  ∀ (s : S) (o : Oper), callOf s o = some (f, args) → objsOk s.O objs → Sound P nin o s { ev with c := none }

def guardOf (ops : Array Oper) (s : S) (o : Oper) : Option Bool :=
  match o.guard with
  | none => some true
  | some (j, want) => match (ops[j]?).bind (·.dst) with
    | some d => match s.T d with
      | .v (.bool b) => some (b == want)
      | .v (.tuple ⟨[]⟩) => some false
      | _ => none
    | none => none

def guardReads (ops : Array Oper) (o : Oper) : List Nat :=
  match o.guard with
  | none => []
  | some (j, _) => match (ops[j]?).bind (·.dst) with
    | some d => [d]
    | none => []

def tmpsOf (xs : Array Operand) : List Nat := xs.toList.filterMap fun | .tmp t => some t | _ => none

def readsOf (ops : Array Oper) (o : Oper) : List Nat := tmpsOf o.op.operands ++ guardReads ops o

def idsOf (s : S) (o : Oper) : List Nat :=
  match o.op with
  | .move _ | .assign _ | .pick .. | .extract .. | .makeFunc .. => []
  | _ => o.op.operands.toList.filterMap fun x => (evO s x).id1

def stepOf (P : Program) (ops : Array Oper) (s : S) (o : Oper) (it : Item) : Option StepR :=
  match guardOf ops s o with
  | some false => some ⟨⟨.v undef, [], [], none⟩, readsOf ops o, [], o.dst⟩
  | some true => match it with
    | .auto h => match evalOp P s h o with
      | some ev => some ⟨ev, readsOf ops o, idsOf s o, o.dst⟩
      | none => none
    | .call f args objs ev => match callOf s o with
      | some (f', args') => bif Nat.beq f' f then some ⟨{ ev with c := some (args' = args ∧ objsOk s.O objs) }, readsOf ops o, objs.map (·.1), o.dst⟩ else none
      | none => none
  | none => none

def StepR.ap (r : StepR) (s : S) : S := r.ev.ap r.dst s

def runT (P : Program) (ops : Array Oper) : List Oper → List Item → S → Option (List StepR × S)
  | [], _, s => some ([], s)
  | o :: os, its, s => match stepOf P ops s o (its.headD (.auto {})) with
    | some r => match runT P ops os its.tail (r.ap s) with
      | some (rs, s') => some (r :: rs, s')
      | none => none
    | none => none

/-- what the generator must show for a region: its side conditions, one after the other -/
def allC : List StepR → Prop
  | [] => True
  | r :: rs => match r.ev.c with
    | none => allC rs
    | some p => p ∧ allC rs

def allV (P : Program) (nin : Nat) : List Item → Prop
  | [] => True
  | .auto _ :: r => allV P nin r
  | .call f args objs ev :: r => CallV P nin f args objs ev ∧ allV P nin r

/-! ### states by what they tell -/
structure S.Like (s s' : S) : Prop where
  T : ∀ t, s.T t = s'.T t
  O : ∀ k, s.O k = s'.O k

theorem S.Like.refl (s : S) : s.Like s := ⟨fun _ => rfl, fun _ => rfl⟩

theorem S.Like.sh {s s' : S} (h : s.Like s') : s.sh = s'.sh := by funext k; simp only [S.sh, h.O]
theorem S.Like.Of {s s' : S} (h : s.Like s') : s.O = s'.O := funext h.O

theorem Rel.like {s s' : S} (h : Rel X N s m a w) (hl : s.Like s') : Rel X N s' m a w := by
  refine ⟨h.size, h.defers, fun t => ?_, fun k => ?_, ?_, ?_, h.fr⟩
  · rw [← hl.sh, ← hl.T]; exact h.slot t
  · rw [← hl.Of]; exact h.obj k
  · rw [← hl.sh]; exact h.dist
  · rw [← hl.sh]; exact h.keep

/-! ### what a step writes -/
def StepR.wT (r : StepR) (t : Nat) : Prop := r.dst = some t
def StepR.wO (r : StepR) (k : Nat) : Prop := ∃ p ∈ r.ev.hw, p.1 = k

theorem hp_T (ev : Ev) (s : S) : (ev.hp s).T = s.T := by
  unfold Ev.hp
  generalize ev.hw = l
  induction l generalizing s with
  | nil => rfl
  | cons p l ih => rw [List.foldl_cons, ih, S.T_setO]

theorem hp_O_not (l : List (Nat × AO)) (s : S) (k : Nat) (h : ∀ p ∈ l, p.1 ≠ k) : (l.foldl (fun s p => s.setO p.1 p.2) s).O k = s.O k := by
  induction l generalizing s with
  | nil => rfl
  | cons p l ih =>
    rw [List.foldl_cons, ih _ (fun q hq => h q (by simp [hq])), S.O_setO, if_neg (Ne.symm (h p (by simp)))]

theorem hp_O_eq (l : List (Nat × AO)) (s s' : S) (k : Nat) (h : s.O k = s'.O k ∨ ∃ p ∈ l, p.1 = k) : (l.foldl (fun s p => s.setO p.1 p.2) s).O k = (l.foldl (fun s p => s.setO p.1 p.2) s').O k := by
  induction l generalizing s s' with
  | nil => rcases h with h | ⟨p, hp, _⟩; exact h; cases hp
  | cons p l ih =>
    rw [List.foldl_cons, List.foldl_cons]
    refine ih _ _ ?_
    by_cases hk : k = p.1
    · left; rw [S.O_setO, S.O_setO, if_pos hk, if_pos hk]
    · rcases h with h | ⟨q, hq, hqk⟩
      · left; rw [S.O_setO, S.O_setO, if_neg hk, if_neg hk]; exact h
      · rcases List.mem_cons.1 hq with rfl | hq
        · exact absurd hqk.symm hk
        · exact .inr ⟨q, hq, hqk⟩

theorem ap_T (r : StepR) (s : S) (t : Nat) : (r.ap s).T t = if r.dst = some t then r.ev.x else s.T t := by
  unfold StepR.ap Ev.ap
  cases hd : r.dst with
  | none => simp [hp_T]
  | some d =>
    simp only [S.T_setT, hp_T]
    by_cases h : t = d
    · simp [h]
    · simp [h, Ne.symm h]

theorem ap_T_eq {r : StepR} {t : Nat} (h : r.wT t) (s : S) : (r.ap s).T t = r.ev.x := by rw [ap_T]; exact if_pos h
theorem ap_T_not {r : StepR} {t : Nat} (h : ¬ r.wT t) (s : S) : (r.ap s).T t = s.T t := by rw [ap_T]; exact if_neg h

theorem ap_O (r : StepR) (s : S) : (r.ap s).O = (r.ev.hp s).O := by
  unfold StepR.ap Ev.ap
  cases r.dst <;> rfl

theorem ap_O_not {r : StepR} {s : S} {k : Nat} (h : ¬ r.wO k) : (r.ap s).O k = s.O k := by
  rw [ap_O]; exact hp_O_not _ _ _ fun p hp e => h ⟨p, hp, e⟩

theorem ap_O_eq {r : StepR} {s s' : S} {k : Nat} (h : s.O k = s'.O k ∨ r.wO k) : (r.ap s).O k = (r.ap s').O k := by
  rw [ap_O, ap_O]; exact hp_O_eq _ _ _ _ h

theorem ap_like {r : StepR} {s s' : S} (h : s.Like s') : (r.ap s).Like (r.ap s') :=
  ⟨fun t => by rw [ap_T, ap_T, h.T], fun k => ap_O_eq (.inl (h.O k))⟩

/-! ### the state behind some of the steps -/
def sel : List StepR → Nat → (Nat → Bool) → S → S
  | [], _, _, s => s
  | r :: rs, i, L, s => sel rs (i + 1) L (if L i then r.ap s else s)

theorem sel_T (t : Nat) : ∀ (rs : List StepR) (i : Nat) (L L' : Nat → Bool) (s s' : S), s.T t = s'.T t → (∀ (j : Nat) r, rs[j]? = some r → r.wT t → L (i + j) = L' (i + j)) → (sel rs i L s).T t = (sel rs i L' s').T t
  | [], _, _, _, s, s', h, _ => h
  | r :: rs, i, L, L', s, s', h, hw => by
    simp only [sel]
    refine sel_T t rs (i + 1) L L' _ _ ?_ (fun j r' hr hw' => by have := hw (j + 1) r' (by simpa using hr) hw'; rwa [show i + (j + 1) = i + 1 + j by omega] at this)
    by_cases hwt : r.wT t
    · have := hw 0 r rfl hwt
      simp only [Nat.add_zero] at this
      rw [this]
      split
      · rw [ap_T_eq hwt, ap_T_eq hwt]
      · exact h
    · split <;> split
      · rw [ap_T_not hwt, ap_T_not hwt]; exact h
      · rw [ap_T_not hwt]; exact h
      · rw [ap_T_not hwt]; exact h
      · exact h

theorem sel_O (k : Nat) : ∀ (rs : List StepR) (i : Nat) (L L' : Nat → Bool) (s s' : S), s.O k = s'.O k → (∀ (j : Nat) r, rs[j]? = some r → r.wO k → L (i + j) = L' (i + j)) → (sel rs i L s).O k = (sel rs i L' s').O k
  | [], _, _, _, s, s', h, _ => h
  | r :: rs, i, L, L', s, s', h, hw => by
    simp only [sel]
    refine sel_O k rs (i + 1) L L' _ _ ?_ (fun j r' hr hw' => by have := hw (j + 1) r' (by simpa using hr) hw'; rwa [show i + (j + 1) = i + 1 + j by omega] at this)
    by_cases hwt : r.wO k
    · have := hw 0 r rfl hwt
      simp only [Nat.add_zero] at this
      rw [this]
      split
      · exact ap_O_eq (.inl h)
      · exact h
    · split <;> split
      · rw [ap_O_not hwt, ap_O_not hwt]; exact h
      · rw [ap_O_not hwt]; exact h
      · rw [ap_O_not hwt]; exact h
      · exact h

/-- a step that is put in: if nothing behind it in the text, that is done already, writes what it writes -/
theorem sel_add_T (t : Nat) : ∀ (rs : List StepR) (i0 n : Nat) (r : StepR) (L L' : Nat → Bool) (s : S), rs[n]? = some r → L (i0 + n) = false → L' (i0 + n) = true → (∀ j, j ≠ i0 + n → L' j = L j) →
    (r.wT t → ∀ (j : Nat) r', n < j → rs[j]? = some r' → L (i0 + j) = true → ¬ r'.wT t) → (sel rs i0 L' s).T t = (r.ap (sel rs i0 L s)).T t
  | [], _, n, r, _, _, _, h, _, _, _, _ => by simp at h
  | r0 :: rs, i0, 0, r, L, L', s, h, h1, h2, h3, h4 => by
    simp at h; subst h
    simp only [Nat.add_zero] at h1 h2 h3
    simp only [sel, h1, h2, if_true, Bool.false_eq_true, if_false]
    have hsame : ∀ s s' : S, s.T t = s'.T t → (sel rs (i0 + 1) L' s).T t = (sel rs (i0 + 1) L s').T t := fun s s' hs =>
      sel_T t rs (i0 + 1) L' L s s' hs (fun j _ _ _ => h3 _ (by omega))
    by_cases hwt : r0.wT t
    · rw [ap_T_eq hwt]
      have hconst : ∀ (rs : List StepR) (i : Nat) (s : S), (∀ (j : Nat) r', rs[j]? = some r' → L' (i + j) = true → ¬ r'.wT t) → (sel rs i L' s).T t = s.T t := by
        intro rs
        induction rs with
        | nil => intro i s _; rfl
        | cons q qs ih =>
          intro i s hq
          simp only [sel]
          rw [ih (i + 1) _ (fun j r' hr hl => hq (j + 1) r' (by simpa using hr) (by rwa [show i + (j + 1) = i + 1 + j by omega]))]
          split
          · rename_i hl
            exact ap_T_not (hq 0 q rfl (by simpa using hl)) _
          · rfl
      rw [hconst rs (i0 + 1) _ (fun j r' hr hl => h4 hwt (j + 1) r' (by omega) (by simpa using hr) (by rw [show i0 + (j + 1) = i0 + 1 + j by omega, ← h3 _ (by omega)]; exact hl))]
      rw [ap_T_eq hwt]
    · rw [ap_T_not hwt]
      exact hsame _ _ (ap_T_not hwt _)
  | r0 :: rs, i0, n + 1, r, L, L', s, h, h1, h2, h3, h4 => by
    simp only [sel]
    rw [h3 i0 (by omega)]
    exact sel_add_T t rs (i0 + 1) n r L L' _ (by simpa using h) (by rw [show i0 + 1 + n = i0 + (n + 1) by omega]; exact h1) (by rw [show i0 + 1 + n = i0 + (n + 1) by omega]; exact h2)
      (fun j hj => h3 j (by omega)) (fun hw j r' hj hr hl => h4 hw (j + 1) r' (by omega) (by simpa using hr) (by rw [show i0 + (j + 1) = i0 + 1 + j by omega]; exact hl))

theorem sel_add_O (k : Nat) : ∀ (rs : List StepR) (i0 n : Nat) (r : StepR) (L L' : Nat → Bool) (s : S), rs[n]? = some r → L (i0 + n) = false → L' (i0 + n) = true → (∀ j, j ≠ i0 + n → L' j = L j) →
    (r.wO k → ∀ (j : Nat) r', n < j → rs[j]? = some r' → L (i0 + j) = true → ¬ r'.wO k) → (sel rs i0 L' s).O k = (r.ap (sel rs i0 L s)).O k
  | [], _, n, r, _, _, _, h, _, _, _, _ => by simp at h
  | r0 :: rs, i0, 0, r, L, L', s, h, h1, h2, h3, h4 => by
    simp at h; subst h
    simp only [Nat.add_zero] at h1 h2 h3
    simp only [sel, h1, h2, if_true, Bool.false_eq_true, if_false]
    have hsame : ∀ s s' : S, s.O k = s'.O k → (sel rs (i0 + 1) L' s).O k = (sel rs (i0 + 1) L s').O k := fun s s' hs =>
      sel_O k rs (i0 + 1) L' L s s' hs (fun j _ _ _ => h3 _ (by omega))
    by_cases hwt : r0.wO k
    · have hconst : ∀ (rs : List StepR) (i : Nat) (s : S), (∀ (j : Nat) r', rs[j]? = some r' → L' (i + j) = true → ¬ r'.wO k) → (sel rs i L' s).O k = s.O k := by
        intro rs
        induction rs with
        | nil => intro i s _; rfl
        | cons q qs ih =>
          intro i s hq
          simp only [sel]
          rw [ih (i + 1) _ (fun j r' hr hl => hq (j + 1) r' (by simpa using hr) (by rwa [show i + (j + 1) = i + 1 + j by omega]))]
          split
          · rename_i hl
            exact ap_O_not (hq 0 q rfl (by simpa using hl))
          · rfl
      rw [hconst rs (i0 + 1) _ (fun j r' hr hl => h4 hwt (j + 1) r' (by omega) (by simpa using hr) (by rw [show i0 + (j + 1) = i0 + 1 + j by omega, ← h3 _ (by omega)]; exact hl))]
      exact ap_O_eq (.inr hwt)
    · rw [ap_O_not hwt]
      exact hsame _ _ (ap_O_not hwt)
  | r0 :: rs, i0, n + 1, r, L, L', s, h, h1, h2, h3, h4 => by
    simp only [sel]
    rw [h3 i0 (by omega)]
    exact sel_add_O k rs (i0 + 1) n r L L' _ (by simpa using h) (by rw [show i0 + 1 + n = i0 + (n + 1) by omega]; exact h1) (by rw [show i0 + 1 + n = i0 + (n + 1) by omega]; exact h2)
      (fun j hj => h3 j (by omega)) (fun hw j r' hj hr hl => h4 hw (j + 1) r' (by omega) (by simpa using hr) (by rw [show i0 + (j + 1) = i0 + 1 + j by omega]; exact hl))

/-! ### freshness -/
def StepR.speaks (r : StepR) (k : Nat) : Bool := r.ev.x.names k || r.ev.hw.any fun p => p.2.names k

theorem free_ap {r : StepR} {s : S} {k : Nat} (h : s.free k = true) (hr : r.speaks k = false) : (r.ap s).free k = true := by
  simp only [StepR.speaks, Bool.or_eq_false_iff, List.any_eq_false] at hr
  have hhp : ∀ (l : List (Nat × AO)) (s : S), s.free k = true → (∀ p ∈ l, ¬ (p.2.names k = true)) → (l.foldl (fun s p => s.setO p.1 p.2) s).free k = true := by
    intro l
    induction l with
    | nil => intro s h _; exact h
    | cons p l ih =>
      intro s h hp
      refine ih _ ?_ (fun q hq => hp q (by simp [hq]))
      have := hp p (by simp)
      simp only [S.free, S.setO, List.all_cons, Bool.and_eq_true] at h ⊢
      exact ⟨h.1, by simpa using this, h.2⟩
  have h1 := hhp r.ev.hw s h hr.2
  unfold StepR.ap Ev.ap
  cases r.dst with
  | none => exact h1
  | some d =>
    unfold Ev.hp
    simp only [S.free, S.setT, List.all_cons, Bool.and_eq_true] at h1 ⊢
    exact ⟨⟨by simpa using hr.1, h1.1⟩, h1.2⟩

theorem free_sel {k : Nat} : ∀ (rs : List StepR) (i : Nat) (L : Nat → Bool) (s : S), s.free k = true → (∀ (j : Nat) r, rs[j]? = some r → L (i + j) = true → r.speaks k = false) → (sel rs i L s).free k = true
  | [], _, _, s, h, _ => h
  | r :: rs, i, L, s, h, hs => by
    simp only [sel]
    refine free_sel rs (i + 1) L _ ?_ (fun j r' hr hl => hs (j + 1) r' (by simpa using hr) (by rwa [show i + (j + 1) = i + 1 + j by omega]))
    split
    · rename_i hl
      exact free_ap h (hs 0 r rfl (by simpa using hl))
    · exact h

end Go.Eng
