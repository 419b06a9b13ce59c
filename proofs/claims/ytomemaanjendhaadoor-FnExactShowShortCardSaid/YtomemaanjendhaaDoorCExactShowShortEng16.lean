/- What is proved: the rule for a region that draws its order. Conditions: the operations' side conditions; that operations which no edge orders are independent. -/
import Derived.Test.YtomemaanjendhaaDoorCExactShowShortEng15
set_option linter.unusedVariables false
set_option linter.unusedSimpArgs false
namespace Go.Eng
open Go

variable {P : Program} {X : Env} {N : Nat} {m : Nat → Option Loc} {a : Act} {w : World} {ops : Array Oper} {nin : Nat}

def edges (o : Oper) : List Nat := (o.after.toList.filter fun e => Region.binds .any e).map (·.on)

def mkPreds : List Oper → List (List Nat) → List (List Nat)
  | [], acc => acc
  | o :: os, acc => mkPreds os (acc ++ [(edges o).foldl (fun r q => (q :: acc.getD q []).foldl (fun r k => bif memB k r then r else k :: r) r) []])

def predsOk (ops : Array Oper) (pr : List (List Nat)) : Bool := ops.toList.zipIdx.all fun p => (pr.getD p.2 []).all fun j => (edges p.1).any fun q => (Nat.beq q j).or (memB j (pr.getD q []))
def backB (ops : Array Oper) : Bool := ops.toList.zipIdx.all fun p => (edges p.1).all fun q => Nat.blt q p.2
def pairsB (pr : List (List Nat)) (rs : List StepR) : Bool := rs.zipIdx.all fun p => rs.zipIdx.all fun q => (Nat.ble q.2 p.2).or ((memB p.2 (pr.getD q.2 [])).or (indepB p.1 q.1))

theorem pairsB_spec {pr : List (List Nat)} {rs : List StepR} (h : pairsB pr rs = true) {i j : Nat} {x y : StepR} (hi : rs[i]? = some x) (hj : rs[j]? = some y) (hij : i < j) (hp : i ∉ pr.getD j []) : indepB x y = true := by
  simp only [pairsB, List.all_eq_true] at h
  have := h (x, i) (zipIdx_get hi) (y, j) (zipIdx_get hj)
  simp only [Bool.or_eq_true] at this
  rcases this with h | h | h
  · have := Nat.le_of_ble_eq_true h; omega
  · exact absurd (memB_iff.1 h) hp
  · exact h

def Closed (pr : List (List Nat)) (L : Nat → Bool) : Prop := ∀ i, L i = true → ∀ j ∈ pr.getD i [], L j = true

theorem ready_preds {pr : List (List Nat)} (hp : predsOk ops pr = true) {listed : Array Bool} (hcl : Closed pr (fun i => listed.getD i false)) {i : Nat} (hi : i ∈ Region.ready .any ops listed) : ∀ j ∈ pr.getD i [], listed.getD j false = true := by
  obtain ⟨_, o, ho, hall⟩ := mem_ready.1 hi
  intro j hj
  simp only [predsOk, List.all_eq_true] at hp
  have := hp (o, i) (zipIdx_get (by simpa using ho)) j hj
  simp only [List.any_eq_true, Bool.or_eq_true] at this
  obtain ⟨q, hq, hqj⟩ := this
  simp only [edges, List.mem_map, List.mem_filter] at hq
  obtain ⟨e, ⟨he, hb⟩, rfl⟩ := hq
  have hl := hall e (by simpa using he) hb
  rcases hqj with h | h
  · rw [← Nat.eq_of_beq_eq_true h]; exact hl
  · exact hcl _ hl j (memB_iff.1 h)

theorem ready_nil (hb : backB ops = true) {listed : Array Bool} (hsz : listed.size = ops.size) (h : Region.ready .any ops listed = []) : ∀ i, i < ops.size → listed.getD i false = true := by
  intro i
  induction i using Nat.strongRecOn with
  | _ i ih =>
    intro hi
    cases hl : listed.getD i false with
    | true => rfl
    | false =>
      exfalso
      have : i ∈ Region.ready .any ops listed := by
        rw [mem_ready]
        refine ⟨?_, ops[i], Array.getElem?_eq_getElem hi, fun e he hbd => ?_⟩
        · have : i < listed.size := by omega
          simp [this] at hl ⊢; exact hl
        · simp only [backB, List.all_eq_true] at hb
          have := hb (ops[i], i) (zipIdx_get (by simp [hi])) e.on (by simp only [edges, List.mem_map, List.mem_filter]; exact ⟨e, ⟨by simpa using he, hbd⟩, rfl⟩)
          have := Nat.le_of_ble_eq_true this
          exact ih e.on this (by simp at this; omega)
      rw [h] at this; cases this

theorem region_draw {its : List Item} {s : S} {rs : List StepR} {s1 : S} (hrun : runT P ops ops.toList its s = some (rs, s1)) (hC : allC rs) (hV : allV P nin its) {pr : List (List Nat)} (hp : predsOk ops pr = true) (hb : backB ops = true) (hpairs : pairsB pr rs = true)
    (hfr : freshB nin s (fun i j => memB i (pr.getD j [])) rs = true) (hd : dstB N ops = true) (hn : X.nin = nin)
    {Q : Exit → Act → World → Prop} (hQ : ∀ m a w, Rel X N s1 m a w → Q .normal a w) (hr : Rel X N s m a w) : wpAny P .any ops Q ops.size (Array.replicate ops.size false) a w := by
  obtain ⟨g1, g2, g3⟩ := runT_get ops.toList its 0 s rs s1 hrun hC hV
  have g1' : rs.length = ops.size := by simpa using g1
  have fin : ∀ (listed : Array Bool), listed.size = ops.size → (∀ i, i < ops.size → listed.getD i false = true) → ∀ m a w, Rel X N (sel rs 0 (fun i => listed.getD i false) s) m a w → Q .normal a w := by
    intro listed hsz hall m a w hr
    refine hQ m a w ?_
    have : sel rs 0 (fun i => listed.getD i false) s = s1 := by
      rw [g2]
      exact sel_ext _ _ _ _ _ fun j _ hj => by rw [hall j (by omega)]
    rw [← this]; exact hr
  have key : ∀ (fuel : Nat) (listed : Array Bool), listed.size = ops.size → (listed.toList.count false ≤ fuel) → Closed pr (fun i => listed.getD i false) → ∀ m a w, Rel X N (sel rs 0 (fun i => listed.getD i false) s) m a w → wpAny P .any ops Q fuel listed a w := by
    intro fuel
    induction fuel with
    | zero =>
      intro listed hsz hcnt hcl m a w hr
      have hall : ∀ i, i < ops.size → listed.getD i false = true := by
        intro i hi
        have hnot : false ∉ listed.toList := List.count_eq_zero.1 (by omega)
        have hlt : i < listed.size := by omega
        cases hl : listed.getD i false with
        | true => rfl
        | false =>
          exfalso; apply hnot
          simp [hlt] at hl
          rw [← hl]; simp
      refine ⟨?_, fin listed hsz hall m a w hr⟩
      rw [List.eq_nil_iff_forall_not_mem]
      intro i hi
      obtain ⟨h1, o, ho, _⟩ := mem_ready.1 hi
      have hlt : i < ops.size := (Array.getElem?_eq_some_iff.1 ho).1
      have := hall i hlt
      have hlt2 : i < listed.size := by omega
      simp [hlt2] at h1 this
      rw [h1] at this; cases this
    | succ fuel ih =>
      intro listed hsz hcnt hcl m a w hr
      refine ⟨fun hnil => fin listed hsz (ready_nil hb hsz hnil) m a w hr, fun i hi => ?_⟩
      have hpre := ready_preds hp hcl hi
      obtain ⟨hun, o, ho, _⟩ := mem_ready.1 hi
      have hlt : i < ops.size := (Array.getElem?_eq_some_iff.1 ho).1
      have hltl : i < listed.size := by omega
      have hfalse : listed.getD i false = false := by simp [hltl] at hun ⊢; exact hun
      obtain ⟨it, r, h1, h2, h3, h4⟩ := g3 i o (by simpa using ho)
      rw [Nat.zero_add] at h2
      -- a step that is done, and that comes behind in the text, is not ordered behind this one
      have hnotafter : ∀ j, listed.getD j false = true → i ∉ pr.getD j [] := fun j hj hmem => by
        have this : listed.getD i false = true := hcl j hj i hmem
        rw [hfalse] at this; cases this
      have agreeT : ∀ t, t ∈ r.rt → (sel rs 0 (fun i => listed.getD i false) s).T t = (sel rs 0 (fun j => decide (j < i)) s).T t := by
        intro t ht
        refine sel_T t rs 0 _ _ s s rfl fun j r' hj hw => ?_
        rw [Nat.zero_add]
        by_cases hji : j < i
        · simp only [hji, decide_true]
          by_cases hmem : j ∈ pr.getD i []
          · exact hpre j hmem
          · exact absurd ht ((indepB_spec (pairsB_spec hpairs hj h1 hji hmem)).1 t hw).2
        · simp only [hji, decide_false]
          by_cases hje : j = i
          · subst hje; exact hfalse
          · cases hl : listed.getD j false with
            | false => rfl
            | true => exact absurd ht ((indepB_spec (pairsB_spec hpairs h1 hj (by omega) (hnotafter j hl))).2.1 t hw)
      have agreeO : ∀ k, k ∈ r.rh → (sel rs 0 (fun i => listed.getD i false) s).O k = (sel rs 0 (fun j => decide (j < i)) s).O k := by
        intro k hk
        refine sel_O k rs 0 _ _ s s rfl fun j r' hj hw => ?_
        rw [Nat.zero_add]
        by_cases hji : j < i
        · simp only [hji, decide_true]
          by_cases hmem : j ∈ pr.getD i []
          · exact hpre j hmem
          · exact absurd hk ((indepB_spec (pairsB_spec hpairs hj h1 hji hmem)).2.2.1 k hw).2
        · simp only [hji, decide_false]
          by_cases hje : j = i
          · subst hje; exact hfalse
          · cases hl : listed.getD j false with
            | false => rfl
            | true => exact absurd hk ((indepB_spec (pairsB_spec hpairs h1 hj (by omega) (hnotafter j hl))).2.2.2 k hw)
      refine step_sound h2 h4 h3 agreeT agreeO ho hr hn (dstB_spec hd ho) (fun k hk => ?_) fun m' a' w' hr' => ?_
      · obtain ⟨f1, f2, f3⟩ := freshB_spec hfr h1 hk
        refine ⟨f1, free_sel _ _ _ _ f2 fun j r' hj hl => f3 j r' hj ?_ ?_⟩
        · rintro rfl
          rw [Nat.zero_add, hfalse] at hl; cases hl
        · rw [Nat.zero_add] at hl
          cases hmb : memB i (pr.getD j []) with
          | false => rfl
          | true => exact absurd (memB_iff.1 hmb) (hnotafter j hl)
      · have hset : ∀ j, (listed.setIfInBounds i true).getD j false = if j = i then true else listed.getD j false := by
          intro j
          by_cases hj : j = i
          · subst hj; simp [hltl]
          · rw [if_neg hj]; simp [Array.getElem?_setIfInBounds_ne (Ne.symm hj)]
        refine ih (listed.setIfInBounds i true) (by simp [hsz]) ?_ ?_ m' a' w' ?_
        · have hcount : (listed.setIfInBounds i true).toList.count false + 1 = listed.toList.count false := by
            rw [Array.toList_setIfInBounds]
            have hlt3 : i < listed.toList.length := by simpa using hltl
            have hget : listed.toList[i] = false := by simp [hltl] at hfalse; simpa using hfalse
            have := List.count_set (a := true) (b := false) hlt3
            rw [this]
            have hpos : 0 < listed.toList.count false := List.count_pos_iff.2 (by rw [← hget]; simp)
            have e1 : (listed.toList[i] == false) = true := by rw [hget]; rfl
            have e2 : ((true : Bool) == false) = false := rfl
            simp only [e1, e2, if_true, Bool.false_eq_true, if_false]
            omega
          omega
        · intro j hj k hk
          have hj : (listed.setIfInBounds i true).getD j false = true := hj
          show (listed.setIfInBounds i true).getD k false = true
          rw [hset] at hj ⊢
          split at hj
          · rename_i he
            subst he
            split
            · rfl
            · exact hpre k hk
          · split
            · rfl
            · exact hcl j hj k hk
        · refine hr'.like ⟨fun t => ?_, fun k => ?_⟩
          · exact (sel_add_T t rs 0 i r (fun j => listed.getD j false) (fun j => (listed.setIfInBounds i true).getD j false) s h1 (by simpa using hfalse) (by rw [Nat.zero_add, hset, if_pos rfl]) (fun j hj => by rw [hset, if_neg (by omega)])
              (fun hw j r' hj hr2 hl => by rw [Nat.zero_add] at hl; exact ((indepB_spec (pairsB_spec hpairs h1 hr2 hj (hnotafter j hl))).1 t hw).1)).symm
          · exact (sel_add_O k rs 0 i r (fun j => listed.getD j false) (fun j => (listed.setIfInBounds i true).getD j false) s h1 (by simpa using hfalse) (by rw [Nat.zero_add, hset, if_pos rfl]) (fun j hj => by rw [hset, if_neg (by omega)])
              (fun hw j r' hj hr2 hl => by rw [Nat.zero_add] at hl; exact ((indepB_spec (pairsB_spec hpairs h1 hr2 hj (hnotafter j hl))).2.2.1 k hw).1)).symm
  refine key ops.size _ (by simp) ?_ ?_ m a w ?_
  · exact Nat.le_trans List.count_le_length (by simp)
  · intro i hi
    exfalso
    simp [Array.getElem?_replicate] at hi
    split at hi <;> simp at hi
  · have : sel rs 0 (fun i => (Array.replicate ops.size false).getD i false) s = s := sel_none _ _ _ _ fun j _ => by
      simp [Array.getElem?_replicate]
      split <;> rfl
    rw [this]; exact hr

end Go.Eng
