/- What is proved: the two rules for a region: run in the order of the text, and run in whatever order its edges allow. Conditions: the side conditions of the operations; that what no edge orders is independent. -/
import Derived.Test.YtomemaanjendhaaDoorCExactShowShortEng14
set_option linter.unusedVariables false
set_option linter.unusedSimpArgs false
namespace Go.Eng
open Go

variable {P : Program} {X : Env} {N : Nat} {m : Nat → Option Loc} {a : Act} {w : World} {ops : Array Oper} {nin : Nat}

def itemOk (P : Program) (nin : Nat) : Item → Prop
  | .auto _ => True
  | .call f args objs ev => CallV P nin f args objs ev

theorem mem_tmpsOf {xs : Array Operand} {t : Nat} (h : Operand.tmp t ∈ xs) : t ∈ tmpsOf xs :=
  List.mem_filterMap.2 ⟨.tmp t, by simpa using h, rfl⟩

theorem evO_agree {s σ : S} {o : Oper} (hT : ∀ t ∈ readsOf ops o, σ.T t = s.T t) : ∀ x ∈ o.op.operands, evO s x = evO σ x := by
  intro x hx
  cases x with
  | tmp t => simp only [evO]; exact (hT t (List.mem_append_left _ (mem_tmpsOf hx))).symm
  | _ => rfl

theorem evalOp_congr' {s σ : S} {h : Hint} {o : Oper} (ho : ∀ x ∈ o.op.operands, evO s x = evO σ x) (hO : ∀ k ∈ idsOf s o, s.O k = σ.O k) : evalOp P s h o = evalOp P σ h o := by
  have gen : (∀ x ∈ o.op.operands, ∀ k, (evO s x).id1 = some k → k ∈ idsOf s o) → evalOp P s h o = evalOp P σ h o := fun hg =>
    evalOp_congr ho fun x hx k hk => hO k (hg x hx k hk)
  have gen2 : evalCore P s h o = evalCore P σ h o → evalOp P s h o = evalOp P σ h o := fun e => by unfold evalOp; rw [e]
  have mem : ∀ x ∈ o.op.operands, ∀ k, (evO s x).id1 = some k → k ∈ (o.op.operands.toList.filterMap fun x => (evO s x).id1) := fun x hx k hk => List.mem_filterMap.2 ⟨x, by simpa using hx, hk⟩
  cases hop : o.op with
  | move x => exact gen2 (by simp only [evalCore, hop, ho x (by simp [hop, Op.operands])])
  | assign x => exact gen2 (by simp only [evalCore, hop, ho x (by simp [hop, Op.operands])])
  | pick c x y => exact gen2 (by simp only [evalCore, hop, ho c (by simp [hop, Op.operands]), ho x (by simp [hop, Op.operands]), ho y (by simp [hop, Op.operands])])
  | extract x i => exact gen2 (by simp only [evalCore, hop, ho x (by simp [hop, Op.operands])])
  | makeFunc fn first caps =>
    refine gen2 ?_
    cases fn with
    | func f =>
      simp only [evalCore, hop]
      have : caps.toList.map (evO s) = caps.toList.map (evO σ) := List.map_congr_left fun x hx => ho x (by simp only [hop, Op.operands]; exact Array.mem_append_right _ (by simpa using hx))
      rw [this]
    | _ => simp only [evalCore, hop]
  | _ => exact gen (fun x hx k hk => by simp only [idsOf, hop]; rw [hop] at mem; rw [hop] at hx; exact mem x hx k hk)

theorem guard_wanted {s : S} {o : Oper} {b : Bool} (h : guardOf ops s o = some b) (hr : Rel X N s m a w) : Region.wanted o (yielded ops a.tmps) = b := by
  unfold guardOf at h
  unfold Region.wanted
  cases hg : o.guard with
  | none => simp [hg] at h; simpa using h
  | some p =>
    obtain ⟨j, want⟩ := p
    simp only [hg] at h ⊢
    unfold yielded
    cases hd : (ops[j]?).bind (·.dst) with
    | none => simp [hd] at h
    | some d =>
      simp only [hd] at h
      simp only [Option.bind_some]
      have hs := hr.slot d
      split at h
      · rename_i b' hb
        cases h
        rw [hb] at hs
        simp only [VR] at hs
        have : a.tmps[d]? = some (.bool b') := by
          cases ht : a.tmps[d]? with
          | none => simp [ht, undef] at hs
          | some v => simp [ht] at hs; rw [hs]
        rw [this]
        cases b' <;> cases want <;> rfl
      · rename_i hb
        cases h
        rw [hb] at hs
        simp only [VR] at hs
        cases ht : a.tmps[d]? with
        | none => rfl
        | some v => simp [ht] at hs; subst hs; rfl
      · cases h

theorem guard_agree {s σ : S} {o : Oper} (hT : ∀ t ∈ readsOf ops o, σ.T t = s.T t) : guardOf ops σ o = guardOf ops s o := by
  unfold guardOf
  cases hg : o.guard with
  | none => rfl
  | some p =>
    obtain ⟨j, want⟩ := p
    simp only
    cases hd : (ops[j]?).bind (·.dst) with
    | none => rfl
    | some d =>
      simp only
      rw [hT d (List.mem_append_right _ (by simp [guardReads, hg, hd]))]

theorem callOf_agree {s σ : S} {o : Oper} (ho : ∀ x ∈ o.op.operands, evO s x = evO σ x) : callOf s o = callOf σ o := by
  unfold callOf
  split
  · rename_i fo args ts hop
    rw [hop] at ho
    have h1 : evO s fo = evO σ fo := ho fo (by simp [Op.operands, Call.operands])
    have h2 : args.toList.map (evO s) = args.toList.map (evO σ) := List.map_congr_left fun x hx => ho x (by simp only [Op.operands, Call.operands]; exact Array.mem_append_right _ (by simpa using hx))
    rw [h1, h2]
  · rfl

theorem objsOk_agree {O O' : Nat → AO} : ∀ {objs : List (Nat × AO)}, objsOk O objs → (∀ k ∈ objs.map (·.1), O' k = O k) → objsOk O' objs
  | [], _, _ => trivial
  | (k, o) :: r, h, hk => ⟨(hk k (by simp)).trans h.1, objsOk_agree h.2 fun k' h' => hk k' (by simp at h' ⊢; exact .inr h')⟩

/-- one operation, from any state that agrees on what it reads with the one in which it was reckoned -/
theorem step_sound {s σ : S} {o : Oper} {it : Item} {r : StepR} {i : Nat} {K : Act → World → Prop} {Q : Exit → Act → World → Prop} (hst : stepOf P ops s o it = some r) (hit : itemOk P nin it) (hc : condOf r.ev.c) (hT : ∀ t ∈ r.rt, σ.T t = s.T t) (hO : ∀ k ∈ r.rh, σ.O k = s.O k)
    (hop : ops[i]? = some o) (hr : Rel X N σ m a w) (hn : X.nin = nin) (hd : ∀ d, o.dst = some d → d < N) (hf : ∀ k ∈ r.ev.nw, nin ≤ k ∧ σ.free k = true) (hK : ∀ m' a' w', Rel X N (r.ap σ) m' a' w' → K a' w') : wpOp P ops Q i K a w := by
  unfold wpOp
  rw [hop]
  unfold stepOf at hst
  split at hst
  · rename_i hg
    cases hst
    rw [← guard_agree hT] at hg
    simp only [guard_wanted hg hr, Bool.false_eq_true, if_false]
    refine hK m _ w ?_
    unfold StepR.ap Ev.ap Ev.hp
    simp only [List.foldl_nil]
    cases hdst : o.dst with
    | none => exact hr
    | some d => exact hr.putV (hd d hdst) (by simp only [VR])
  · rename_i hg
    have hw : Region.wanted o (yielded ops a.tmps) = true := by
      refine guard_wanted (ops := ops) (s := σ) ?_ hr
      have hrt : r.rt = readsOf ops o := by
        split at hst
        · split at hst
          · cases hst; rfl
          · cases hst
        · split at hst
          · rename_i f' args' hcl
            revert hst
            cases Nat.beq f' _ <;> simp
            intro h; rw [← h]
          · cases hst
      rw [hrt] at hT
      rw [guard_agree hT]; exact hg
    simp only [hw, if_true]
    left
    split at hst
    · rename_i h
      split at hst
      · rename_i ev hev
        cases hst
        have hev' : evalOp P σ h o = some ev := by rw [← evalOp_congr' (evO_agree hT) (fun k hk => (hO k hk).symm)]; exact hev
        exact evalOp_sound (nin := nin) hev' X N m a w K Q hn hr hd hf hc hK
      · cases hst
    · rename_i f args objs ev
      split at hst
      · rename_i f' args' hcl
        cases hb : Nat.beq f' f with
        | false => simp [hb] at hst
        | true =>
          simp only [hb, cond_true, Option.some.injEq] at hst
          have := Nat.eq_of_beq_eq_true hb
          subst this
          subst hst
          obtain ⟨hargs, hobjs⟩ := hc
          subst hargs
          simp only at hT hO hf
          have hcl' : callOf σ o = some (f', args') := by rw [← callOf_agree (evO_agree hT)]; exact hcl
          exact hit σ o hcl' (objsOk_agree hobjs hO) X N m a w K Q hn hr hd hf trivial hK
      · cases hst
  · cases hst

/-! ### going through the text -/
theorem sel_none : ∀ (rs : List StepR) (i : Nat) (L : Nat → Bool) (s : S), (∀ j, i ≤ j → L j = false) → sel rs i L s = s
  | [], _, _, _, _ => rfl
  | r :: rs, i, L, s, h => by
    simp only [sel]
    rw [h i (Nat.le_refl _)]
    simp only [Bool.false_eq_true, if_false]
    exact sel_none rs (i + 1) L s fun j hj => h j (by omega)

theorem sel_ext : ∀ (rs : List StepR) (i : Nat) (L L' : Nat → Bool) (s : S), (∀ j, i ≤ j → j < i + rs.length → L j = L' j) → sel rs i L s = sel rs i L' s
  | [], _, _, _, _, _ => rfl
  | r :: rs, i, L, L', s, h => by
    simp only [sel]
    rw [h i (Nat.le_refl _) (by simp)]
    exact sel_ext rs (i + 1) L L' _ fun j h1 h2 => h j (by omega) (by simp; omega)

theorem runT_get : ∀ (os : List Oper) (its : List Item) (i0 : Nat) (s : S) (rs : List StepR) (s1 : S), runT P ops os its s = some (rs, s1) → allC rs → allV P nin its →
    rs.length = os.length ∧ s1 = sel rs i0 (fun _ => true) s ∧ ∀ (i : Nat) o, os[i]? = some o → ∃ it r, rs[i]? = some r ∧ stepOf P ops (sel rs i0 (fun j => decide (j < i0 + i)) s) o it = some r ∧ condOf r.ev.c ∧ itemOk P nin it
  | [], its, i0, s, rs, s1, h, _, _ => by
    simp only [runT, Option.some.injEq, Prod.mk.injEq] at h
    obtain ⟨rfl, rfl⟩ := h
    exact ⟨rfl, rfl, by simp⟩
  | o :: os, its, i0, s, rs, s1, h, hC, hV => by
    simp only [runT] at h
    split at h
    · rename_i r hst
      split at h
      · rename_i rs' s' hrest
        simp only [Option.some.injEq, Prod.mk.injEq] at h
        obtain ⟨rfl, rfl⟩ := h
        have hC' : condOf r.ev.c ∧ allC rs' := by
          simp only [allC] at hC
          cases hc : r.ev.c with
          | none => rw [hc] at hC; exact ⟨trivial, hC⟩
          | some p => rw [hc] at hC; exact hC
        have hV' : itemOk P nin (its.headD (.auto {})) ∧ allV P nin its.tail := by
          cases its with
          | nil => exact ⟨trivial, trivial⟩
          | cons it its =>
            cases it with
            | auto h => exact ⟨trivial, hV⟩
            | call f args objs ev => exact hV
        obtain ⟨g1, g2, g3⟩ := runT_get os its.tail (i0 + 1) (r.ap s) rs' s' hrest hC'.2 hV'.2
        refine ⟨by simp [g1], ?_, ?_⟩
        · simp only [sel, if_true]; exact g2
        · intro i o' ho'
          cases i with
          | zero =>
            simp at ho'; subst ho'
            refine ⟨_, r, rfl, ?_, hC'.1, hV'.1⟩
            have : sel (r :: rs') i0 (fun j => decide (j < i0 + 0)) s = s := sel_none _ _ _ _ fun j hj => by simp; omega
            rw [this]; exact hst
          | succ i =>
            obtain ⟨it, r', h1, h2, h3, h4⟩ := g3 i o' (by simpa using ho')
            refine ⟨it, r', by simpa using h1, ?_, h3, h4⟩
            simp only [sel]
            have hlt : i0 < i0 + (i + 1) := by omega
            simp only [hlt, decide_true, if_true]
            rw [show i0 + (i + 1) = i0 + 1 + i by omega]
            exact h2
      · cases h
    · cases h

/-! ### the checks -/
def memB (k : Nat) : List Nat → Bool
  | [] => false
  | j :: r => (Nat.beq k j).or (memB k r)

theorem memB_iff {k : Nat} : ∀ {l : List Nat}, memB k l = true ↔ k ∈ l
  | [] => by simp [memB]
  | j :: r => by
    simp only [memB, Bool.or_eq_true, List.mem_cons]
    rw [memB_iff (l := r)]
    constructor
    · rintro (h | h)
      · exact .inl (Nat.eq_of_beq_eq_true h)
      · exact .inr h
    · rintro (rfl | h)
      · exact .inl (Nat.beq_refl k)
      · exact .inr h

def optMem (d : Option Nat) (l : List Nat) : Bool := match d with | some t => memB t l | none => false
def optEq (d e : Option Nat) : Bool := match d, e with | some t, some u => Nat.beq t u | _, _ => false

def wids (r : StepR) : List Nat := r.ev.hw.map (·.1)

def disj (l l' : List Nat) : Bool := l.all fun k => !(memB k l')

def indepB (a b : StepR) : Bool :=
  !(optEq a.dst b.dst) && !(optMem a.dst b.rt) && !(optMem b.dst a.rt) && disj (wids a) (wids b) && disj (wids a) b.rh && disj (wids b) a.rh

theorem indepB_spec {x y : StepR} (h : indepB x y = true) : (∀ t, x.wT t → ¬ y.wT t ∧ t ∉ y.rt) ∧ (∀ t, y.wT t → t ∉ x.rt) ∧ (∀ k, x.wO k → ¬ y.wO k ∧ k ∉ y.rh) ∧ ∀ k, y.wO k → k ∉ x.rh := by
  simp only [indepB, Bool.and_eq_true, Bool.not_eq_true'] at h
  obtain ⟨⟨⟨⟨⟨h1, h2⟩, h3⟩, h4⟩, h5⟩, h6⟩ := h
  have hw : ∀ (r : StepR) k, r.wO k ↔ k ∈ wids r := fun r k => by
    simp only [StepR.wO, wids, List.mem_map]
  have hdis : ∀ {l l' : List Nat}, disj l l' = true → ∀ k ∈ l, k ∉ l' := fun hd k hk hk' => by
    simp only [disj, List.all_eq_true, Bool.not_eq_true'] at hd
    have := hd k hk
    rw [memB_iff.2 hk'] at this; cases this
  refine ⟨fun t ht => ⟨fun ht' => ?_, fun ht' => ?_⟩, fun t ht ht' => ?_, fun k hk => ⟨fun hk' => ?_, fun hk' => ?_⟩, fun k hk hk' => ?_⟩
  · simp only [StepR.wT] at ht ht'
    rw [ht, ht'] at h1
    simp only [optEq, Nat.beq_refl] at h1; cases h1
  · simp only [StepR.wT] at ht
    rw [ht] at h2
    simp only [optMem, memB_iff.2 ht'] at h2; cases h2
  · simp only [StepR.wT] at ht
    rw [ht] at h3
    simp only [optMem, memB_iff.2 ht'] at h3; cases h3
  · exact hdis h4 k ((hw x k).1 hk) ((hw y k).1 hk')
  · exact hdis h5 k ((hw x k).1 hk) hk'
  · exact hdis h6 k ((hw y k).1 hk) hk'

/-- every step's new objects are new; `pr i j`: step `i` comes ahead of step `j` in every order -/
def freshB (nin : Nat) (s0 : S) (pr : Nat → Nat → Bool) (rs : List StepR) : Bool :=
  rs.zipIdx.all fun p => p.1.ev.nw.all fun k => Nat.ble nin k && s0.free k && rs.zipIdx.all fun q => (Nat.beq p.2 q.2).or ((pr p.2 q.2).or (!(q.1.speaks k)))

theorem zipIdx_get {α : Type} {l : List α} {i : Nat} {x : α} (h : l[i]? = some x) : (x, i) ∈ l.zipIdx := by
  rw [List.mem_zipIdx_iff_getElem?]
  exact h

theorem freshB_spec {s0 : S} {pr : Nat → Nat → Bool} {rs : List StepR} (h : freshB nin s0 pr rs = true) {i : Nat} {r : StepR} (hi : rs[i]? = some r) {k : Nat} (hk : k ∈ r.ev.nw) :
    nin ≤ k ∧ s0.free k = true ∧ ∀ (j : Nat) r', rs[j]? = some r' → j ≠ i → pr i j = false → r'.speaks k = false := by
  simp only [freshB, List.all_eq_true] at h
  have := h (r, i) (zipIdx_get hi) k hk
  simp only [Bool.and_eq_true, List.all_eq_true] at this
  obtain ⟨⟨h1, h2⟩, h3⟩ := this
  refine ⟨Nat.le_of_ble_eq_true h1, h2, fun j r' hj hne hp => ?_⟩
  have := h3 (r', j) (zipIdx_get hj)
  simp only [hp, Bool.or_eq_true, Bool.false_or, Bool.not_eq_true'] at this
  rcases this with h | h
  · exact absurd (Nat.eq_of_beq_eq_true h).symm hne
  · simpa using h

def dstB (N : Nat) (ops : Array Oper) : Bool := ops.toList.all fun o => match o.dst with | some d => Nat.blt d N | none => true

theorem dstB_spec (h : dstB N ops = true) {i : Nat} {o : Oper} (hi : ops[i]? = some o) : ∀ d, o.dst = some d → d < N := by
  intro d hd
  simp only [dstB, List.all_eq_true] at h
  have := h o (by simpa using Array.mem_of_getElem? hi)
  rw [hd] at this
  exact Nat.le_of_ble_eq_true this

/-! ### in the order of the text -/
theorem region_text {its : List Item} {s : S} {rs : List StepR} {s1 : S} (hrun : runT P ops ops.toList its s = some (rs, s1)) (hC : allC rs) (hV : allV P nin its) (hfr : freshB nin s (fun i j => Nat.blt i j) rs = true) (hd : dstB N ops = true) (hn : X.nin = nin)
    {Q : Exit → Act → World → Prop} (hQ : ∀ m a w, Rel X N s1 m a w → Q .normal a w) (hr : Rel X N s m a w) : wpOps P ops Q (List.range ops.size) a w := by
  obtain ⟨g1, g2, g3⟩ := runT_get ops.toList its 0 s rs s1 hrun hC hV
  have key : ∀ (n i : Nat), i + n = ops.size → ∀ m a w, Rel X N (sel rs 0 (fun j => decide (j < i)) s) m a w → wpOps P ops Q (List.range' i n) a w := by
    intro n
    induction n with
    | zero =>
      intro i hi m a w hr
      refine hQ m a w ?_
      have : sel rs 0 (fun j => decide (j < i)) s = s1 := by
        rw [g2]
        exact sel_ext _ _ _ _ _ fun j _ hj => by simp at g1; simp; omega
      rw [← this]; exact hr
    | succ n ih =>
      intro i hi m a w hr
      rw [List.range'_succ, wpOps_cons]
      have hlt : i < ops.size := by omega
      obtain ⟨it, r, h1, h2, h3, h4⟩ := g3 i ops[i] (by simp [hlt])
      rw [Nat.zero_add] at h2
      refine step_sound h2 h4 h3 (fun _ _ => rfl) (fun _ _ => rfl) (Array.getElem?_eq_getElem hlt) hr hn (dstB_spec hd (Array.getElem?_eq_getElem hlt)) (fun k hk => ?_) fun m' a' w' hr' => ih (i + 1) (by omega) m' a' w' ?_
      · obtain ⟨f1, f2, f3⟩ := freshB_spec hfr h1 hk
        refine ⟨f1, free_sel _ _ _ _ f2 fun j r' hj hl => f3 j r' hj (by simp at hl; omega) ?_⟩
        simp at hl
        cases hb : Nat.blt i j with
        | false => rfl
        | true => have := Nat.le_of_ble_eq_true hb; omega
      · refine hr'.like ⟨fun t => ?_, fun k => ?_⟩
        · exact (sel_add_T t rs 0 i r (fun j => decide (j < i)) (fun j => decide (j < i + 1)) s h1 (by simp) (by simp) (fun j hj => by simp; omega) (fun _ j r' hj _ hl => by simp at hl; omega)).symm
        · exact (sel_add_O k rs 0 i r (fun j => decide (j < i)) (fun j => decide (j < i + 1)) s h1 (by simp) (by simp) (fun j hj => by simp; omega) (fun _ j r' hj _ hl => by simp at hl; omega)).symm
  rw [List.range_eq_range']
  refine key ops.size 0 (by omega) m a w ?_
  rw [sel_none _ _ _ _ (fun j _ => by simp)]
  exact hr

end Go.Eng
