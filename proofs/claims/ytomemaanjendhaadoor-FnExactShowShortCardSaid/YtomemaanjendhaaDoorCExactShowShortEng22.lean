/- What is proved: the rules that printed proofs use: a region with what is forgotten behind it, branches by a known truth value, weakening ahead of an exit; and small lemmas on lists read through an encoding. Conditions: each rule's own. -/
import Derived.Test.YtomemaanjendhaaDoorCExactShowShortEng21
set_option linter.unusedVariables false
set_option linter.unusedSimpArgs false
namespace Go.Eng
open Go

variable {P : Program} {N nin : Nat}

theorem AX.reg {id : Nat} {ops : Array Oper} {s s1 : S} {R : Exit → S → Prop} {its : List Item} {C : Prop} (ts ks : List Nat)
    (hrun : (match runT P ops ops.toList its s with | some (rs, s') => bif freshB nin s (fun i j => Nat.blt i j) rs && dstB N ops then some (forget ts ks s', allC rs) else none | none => none) = some (s1, C)) (hC : C) (hV : allV P nin its)
    (hR : R .normal s1) : AX P N nin (.region id ops false) s R := by
  split at hrun
  · rename_i rs s' hr1
    cases hb : (freshB nin s (fun i j => Nat.blt i j) rs && dstB N ops) with
    | false => simp [hb] at hrun
    | true =>
      simp only [hb, Bool.cond_true, Option.some.injEq, Prod.mk.injEq] at hrun
      have hf := hrun.1
      have hC2 := hrun.2
      subst hC2
      simp only [Bool.and_eq_true] at hb
      refine ⟨.normal, s1, hR, fun X m a w hn hr => wp_region ?_⟩
      exact region_text hr1 hC hV hb.1 hb.2 hn (fun m a w hr => ⟨rfl, m, hf ▸ hr.forget ts ks⟩) hr
  · cases hrun

theorem AX.drw {id : Nat} {ops : Array Oper} {s s1 : S} {R : Exit → S → Prop} {its : List Item} {C : Prop} (hm : P.follows .mixedOrders = true) (ts ks : List Nat)
    (hrun : (match runT P ops ops.toList its s with
      | some (rs, s') => bif (let pr := mkPreds ops.toList []; predsOk ops pr && backB ops && pairsB pr rs && freshB nin s (fun i j => memB i (pr.getD j [])) rs) && dstB N ops then some (forget ts ks s', allC rs) else none
      | none => none) = some (s1, C)) (hC : C) (hV : allV P nin its)
    (hR : R .normal s1) : AX P N nin (.region id ops true) s R := by
  split at hrun
  · rename_i rs s' hr1
    cases hb : ((let pr := mkPreds ops.toList []; predsOk ops pr && backB ops && pairsB pr rs && freshB nin s (fun i j => memB i (pr.getD j [])) rs) && dstB N ops) with
    | false => simp only [hb, Bool.cond_false] at hrun; cases hrun
    | true =>
      simp only [hb, Bool.cond_true, Option.some.injEq, Prod.mk.injEq] at hrun
      have hf := hrun.1
      have hC2 := hrun.2
      subst hC2
      simp only [Bool.and_eq_true] at hb
      obtain ⟨⟨⟨⟨h1, h2⟩, h3⟩, h4⟩, h5⟩ := hb
      refine ⟨.normal, s1, hR, fun X m a w hn hr => wp_region_any hm ?_⟩
      exact region_draw hr1 hC hV h1 h2 h3 h4 h5 hn (fun m a w hr => ⟨rfl, m, hf ▸ hr.forget ts ks⟩) hr.drew
  · cases hrun

theorem AX.condT {x : Operand} {c d : Code} {s : S} {R : Exit → S → Prop} (b : Bool) (hx : evO s x = .v (.bool b)) (hb : b = true) (h : AX P N nin c s R) : AX P N nin (.cond x c d) s R := by
  subst hb; exact AX.cond_true hx h
theorem AX.condF {x : Operand} {c d : Code} {s : S} {R : Exit → S → Prop} (b : Bool) (hx : evO s x = .v (.bool b)) (hb : b = false) (h : AX P N nin d s R) : AX P N nin (.cond x c d) s R := by
  subst hb; exact AX.cond_false hx h

theorem bool_cases (b : Bool) : b = true ∨ b = false := by cases b <;> simp

/-- a part of a body -/
def codeAt : List Nat → Code → Code
  | [], c => c
  | 0 :: r, .seq a _ => codeAt r a
  | _ :: r, .seq _ b => codeAt r b
  | 0 :: r, .cond _ a _ => codeAt r a
  | _ :: r, .cond _ _ b => codeAt r b
  | _ :: r, .block _ b => codeAt r b
  | _ :: r, .loop b => codeAt r b
  | _, c => c

def bodyOf (f : Func) : Code := f.body.getD .skip

/-- what comes out may be weakened -/
theorem AX.wkpost {c : Code} {s : S} {Q : Exit → S → Prop} (h : AX P N nin c s (fun ex s' => ∃ s'', Wk N nin s' s'' ∧ Q ex s'')) : AX P N nin c s Q := by
  obtain ⟨ex, s1, ⟨s2, hw, hq⟩, h⟩ := h
  refine ⟨ex, s2, hq, fun X m a w hn hr => wp_mono (h X m a w hn hr) fun e a' w' he => ?_⟩
  obtain ⟨rfl, m', hr'⟩ := he
  exact ⟨rfl, hw X m' a' w' hn hr'⟩

theorem fin_wk {s s' : S} {Q : S → Prop} (h : Wk N nin s s') (hq : ∃ s'', Wk N nin s' s'' ∧ Q s'') : ∃ s'', Wk N nin s s'' ∧ Q s'' :=
  let ⟨s'', h1, h2⟩ := hq
  ⟨s'', h.trans h1, h2⟩

/-- a nil slice in a box told as an own array that is empty -/
theorem Wk.matB (k j k' sz : Nat) {cs : List AV} {s s' : S} (hO : s.O k = .box cs) (hj : cs[j]? = some (.v (.slice none 0 0))) (hk : nin ≤ k') (hf : s.free k' = true) (hne : k ≠ k')
    (h : (s.setO k' (.arr sz [])).setO k (.box (cs.set j (.sl k' 0 0))) = s') : Wk N nin s s' := by
  intro X m a w hn hr
  subst h
  refine ⟨fun i => if i = k' then none else m i, ?_⟩
  have hr' : Rel X N (s.setO k' (.arr sz [])) (fun i => if i = k' then none else m i) a w :=
    hr.add (.arr sz []) none (by omega) hf (by rintro L hL; cases hL) (fun _ _ _ => rfl) (by rintro L hL; cases hL) rfl rfl rfl (Nat.le_refl _) (HR_empty (by rw [S.O_setO, if_pos rfl]) (by simp))
  have hO' : (s.setO k' (.arr sz [])).O k = .box cs := by rw [S.O_setO, if_neg hne, hO]
  have ob := hr'.obj k
  unfold HR at ob
  rw [hO'] at ob
  simp only at ob
  obtain ⟨L, C, E, h1, h2, h3, h4⟩ := ob
  refine hr'.modify (.box (cs.set j (.sl k' 0 0))) (by simp only [S.sh, hO', AO.sh, List.length_set]) (by simp only [S.sh, hO', AO.sh]; simp) h1 (fun _ _ => rfl) rfl rfl rfl (Nat.le_refl _) ?_
  unfold HR
  rw [S.O_setO, if_pos rfl]
  refine ⟨L, C, E, h1, h2, ?_, h4⟩
  have hsh : (fun i => (((s.setO k' (.arr sz [])).setO k (.box (cs.set j (.sl k' 0 0)))).O i).sh) = (s.setO k' (.arr sz [])).sh := by
    funext i
    show ((s.setO k' (.arr sz [])).setO k (.box (cs.set j (.sl k' 0 0)))).sh i = _
    rw [S.sh_setO]
    split
    · rename_i e; subst e; simp only [S.sh, hO', AO.sh, List.length_set]
    · rfl
  rw [hsh]
  have h3' : VRs X (fun i => if i = k' then none else m i) (s.setO k' (.arr sz [])).sh cs C.toList := h3
  refine VRs_of_get (by rw [List.length_set]; exact VRs_length h3') (fun i b x hb hx => ?_)
  rw [List.getElem?_set] at hb
  split at hb
  · rename_i e; subst e
    split at hb
    · cases hb
      obtain ⟨y, hy1, hy2⟩ := VRs_get h3' _ _ hj
      rw [hx] at hy1; cases hy1
      simp only [VR] at hy2
      subst hy2
      have : (s.setO k' (.arr sz [])).sh k' = .arr sz 0 := by rw [S.sh_setO, if_pos rfl]; rfl
      simp only [VR, this]
      exact ⟨Nat.le_refl _, none, 0, rfl, Nat.le_refl _, .inl rfl⟩
    · cases hb
  · obtain ⟨y, hy1, hy2⟩ := VRs_get h3' i b hb
    rw [hx] at hy1; cases hy1
    exact hy2

/-! ### how models are written -/
def gd {α : Type} (p : Prop) [Decidable p] (x : Option α) : Option α := if p then x else none
def bd {α β : Type} (x : Option α) (f : α → Option β) : Option β := match x with | some a => f a | none => none
def nm {α β : Type} (a : α) (f : α → Option β) : Option β := f a
def sm {α β γ : Type} (x : α ⊕ β) (f : α → γ) (g : β → γ) : γ := match x with | .inl a => f a | .inr b => g b
theorem gd_e {α : Type} {p : Prop} [Decidable p] {x : Option α} {r : α} (h : gd p x = some r) : p ∧ x = some r := by
  unfold gd at h; split at h
  · exact ⟨by assumption, h⟩
  · cases h
theorem bd_e {α β : Type} {x : Option α} {f : α → Option β} {r : β} (h : bd x f = some r) : ∃ a, x = some a ∧ f a = some r := by
  unfold bd at h; split at h
  · exact ⟨_, rfl, h⟩
  · cases h
theorem nm_e {α β : Type} {a : α} {f : α → Option β} {r : β} (h : nm a f = some r) : ∃ b, a = b ∧ f b = some r := ⟨a, rfl, h⟩
theorem cd_t {α : Type} {b : Bool} {x y : α} {z : α} (hb : b = true) (h : (bif b then x else y) = z) : x = z := by subst hb; exact h
theorem cd_f {α : Type} {b : Bool} {x y : α} {z : α} (hb : b = false) (h : (bif b then x else y) = z) : y = z := by subst hb; exact h

def gt {α : Type} [Inhabited α] (l : List α) (q : Int) : α := l.getD q.toNat default
def sub {α : Type} (l : List α) (a b : Int) : List α := (l.drop a.toNat).take (b.toNat - a.toNat)

theorem getD_map {α : Type} [Inhabited α] (enc : α → List Value) (e : List α) {q : Int} (h : 0 ≤ q ∧ q < (e.length : Int)) : (e.map enc).getD q.toNat [] = enc (gt e q) := by
  have : q.toNat < e.length := by omega
  simp [gt, List.getD_eq_getElem?_getD, List.getElem?_eq_getElem this]
theorem len_map {α : Type} (enc : α → List Value) (e : List α) : AV.v (.int .i64 ((e.map enc).length : Int)) = AV.v (.int .i64 (e.length : Int)) := by rw [List.length_map]
theorem idx_bs {α : Type} [Inhabited α] (enc : α → List Value) (e : List α) (q : Int) (sz : Nat) (h : 0 ≤ q ∧ q < (e.length : Int)) :
    (0 ≤ q ∧ q < ((e.map enc).length : Int)) ∧ AV.be sz ((e.map enc).getD q.toNat []) 0 = AV.be sz (enc (gt e q)) 0 := by
  rw [List.length_map, getD_map enc e h]; exact ⟨h, rfl⟩
theorem idx_arr {α : Type} [Inhabited α] {enc : α → List Value} {e : List α} {q : Int} {raw : List (List Value)} (hr : raw = e.map enc) (h : 0 ≤ q ∧ q < (e.length : Int)) : raw.getD (0 + q.toNat) [] = enc (gt e q) := by
  rw [hr, Nat.zero_add, getD_map enc e h]
theorem idx_part {α : Type} [Inhabited α] {enc : α → List Value} {e : List α} {a q : Nat} {raw : List (List Value)} (hr : raw = e.map enc) (h : a + q < e.length) : raw.getD (0 + a + q) [] = enc (gt e ((a + q : Nat) : Int)) := by
  rw [hr, Nat.zero_add]
  have := getD_map enc e (q := ((a + q : Nat) : Int)) ⟨by omega, by omega⟩
  rwa [Int.toNat_natCast] at this
theorem app_can {α : Type} {enc : α → List Value} {a b : List α} {ra rb : List (List Value)} (ha : ra = a.map enc) (hb : rb = b.map enc) : ra ++ rb = (a ++ b).map enc := by rw [ha, hb, List.map_append]
theorem app_nil {α : Type} {enc : α → List Value} {b : List α} {rb : List (List Value)} (hb : rb = b.map enc) : [] ++ rb = (([] : List α) ++ b).map enc := by rw [hb]; rfl
theorem dt_all {α : Type} {enc : α → List Value} {a : List α} {ra : List (List Value)} {n : Nat} (ha : ra = a.map enc) (hn : n = a.length) : (ra.drop 0).take n = a.map enc := by
  rw [ha, hn, List.drop_zero, List.take_of_length_le (by simp)]
theorem sl_len {α : Type} {enc : α → List Value} {a : List α} {ra : List (List Value)} {k : Nat} (ha : ra = a.map enc) : AV.sl k 0 ra.length = AV.sl k 0 a.length := by rw [ha, List.length_map]
theorem rep_can {α : Type} {enc : α → List Value} (n : Nat) (x : α) : List.replicate n (enc x) = (List.replicate n x).map enc := by rw [List.map_replicate]
theorem set_can {α : Type} {enc : α → List Value} {a : List α} {ra : List (List Value)} (ha : ra = a.map enc) (i : Nat) (x : α) : ra.set i (enc x) = (a.set i x).map enc := by rw [ha, List.map_set]
theorem set_len {α : Type} {a : List α} {n : Nat} (h : n = a.length) (i : Nat) (x : α) : n = (a.set i x).length := by rw [List.length_set]; exact h
theorem sub_can {α : Type} (enc : α → List Value) (e : List α) (a b : Int) (l : Bool) (sz : Nat) : AV.bs l sz (((e.map enc).drop a.toNat).take (b.toNat - a.toNat)) = AV.bs l sz ((sub e a b).map enc) := by
  rw [sub, List.map_take, List.map_drop]
theorem sub_cond {α : Type} (enc : α → List Value) (e : List α) {a b c : Int} (h : 0 ≤ a ∧ a ≤ b ∧ b ≤ c ∧ c ≤ (e.length : Int)) : 0 ≤ a ∧ a ≤ b ∧ b ≤ c ∧ c ≤ ((e.map enc).length : Int) := by rw [List.length_map]; exact h
theorem arr_eq {sz : Nat} {a b : List (List Value)} (h : a = b) : AO.arr sz a = AO.arr sz b := by rw [h]

/-- the only part that is named of an own array told as an array of its own -/
theorem Wk.trunc (t k k' : Nat) {lo len sz : Nat} {es : List (List Value)} {s s' : S} (hT : s.T t = .sl k lo len) (hO : s.O k = .arr sz es) (hk : nin ≤ k') (hf : s.free k' = true)
    (h : ((s.setO k .dead).setO k' (.arr sz ((es.drop lo).take len))).setT t (.sl k' 0 len) = s') : Wk N nin s s' := by
  intro X m a w hn hr
  subst h
  have hsh : s.sh k = .arr sz es.length := by simp [S.sh, hO, AO.sh]
  have hr1 := hr.kill k
  have hf1 : (s.setO k .dead).free k' = true := S.free_setO_dead hf
  have hv := hr.slot t
  rw [hT] at hv
  simp only [VR, hsh] at hv
  obtain ⟨hle, ad, cap, hv, hcap, hrest⟩ := hv
  have hlen : ((es.drop lo).take len).length = len := by simp; omega
  have ob := hr.obj k
  unfold HR at ob
  simp only [hO] at ob
  obtain ⟨hok, hob⟩ := ob
  have hok' : OkEls sz ((es.drop lo).take len) := fun e he => hok e (List.mem_of_mem_drop (List.mem_of_mem_take he))
  have fin : ∀ (ol : Option Loc), Rel X N ((s.setO k .dead).setO k' (.arr sz ((es.drop lo).take len))) (fun i => if i = k' then ol else m i) a w →
      VR X (fun i => if i = k' then ol else m i) ((s.setO k .dead).setO k' (.arr sz ((es.drop lo).take len))).sh (.sl k' 0 len) (a.tmps.getD t undef) →
      ∃ m', Rel X N (((s.setO k .dead).setO k' (.arr sz ((es.drop lo).take len))).setT t (.sl k' 0 len)) m' a w := fun ol h1 h2 => by
    refine ⟨_, h1.size, h1.defers, fun i => ?_, h1.obj, h1.dist, h1.keep, h1.fr⟩
    rw [S.T_setT]
    split
    · rename_i e; subst e; exact h2
    · exact h1.slot i
  rcases Nat.eq_zero_or_pos cap with hc0 | hc0
  · have hl0 : len = 0 := by omega
    subst hl0
    refine fin none (hr1.add _ none (by omega) hf1 (fun L h => by cases h) (fun _ _ _ => rfl) (fun L h => by cases h) rfl rfl rfl (Nat.le_refl _) (HR_empty (sz := sz) (by rw [S.O_setO, if_pos rfl, List.take_zero]) (by simp))) ?_
    simp only [VR]
    rw [S.sh_setO, if_pos rfl]
    exact ⟨Nat.zero_le _, ad, cap, hv, Nat.zero_le _, .inl hc0⟩
  · obtain ⟨L, hm, had, htot⟩ : ∃ L, m k = some L ∧ ad = some ⟨L.b, L.off + lo * sz, none⟩ ∧ L.off + lo * sz + cap * sz ≤ L.tot := by
      rcases hrest with h | h
      · omega
      · exact h
    obtain ⟨hnone, _⟩ | ⟨L', C, E, hm', hh, hCs, hfit, hcell, hown⟩ := hob
    · rw [hm] at hnone; cases hnone
    · rw [hm] at hm'; cases hm'
      have hd1 : (s.setO k .dead).sh k = .dead := by rw [S.sh_setO, if_pos rfl]; rfl
      have hd2 : ∀ i, i ≠ k → (s.setO k .dead).sh i = s.sh i := fun i hi => by rw [S.sh_setO, if_neg hi]
      have hlc : len * sz ≤ cap * sz := Nat.mul_le_mul_right _ hcap
      refine fin (some ⟨L.b, L.off + lo * sz, L.tot⟩) (hr1.add _ _ (by omega) hf1 ?_ (fun _ _ _ => rfl) (fun L0 h => by cases h; exact hown) rfl rfl rfl (Nat.le_refl _) ?_) ?_
      · intro L0 h i L1 hi hs hm1
        cases h
        have hik : i ≠ k := fun e => by rw [e] at hs; exact hs hd1
        rw [hd2 i hik] at hs
        exact hr.dist i k L1 L hik hs (by rw [hsh]; simp) hm1 hm
      · unfold HR
        rw [S.O_setO, if_pos rfl]
        refine ⟨hok', .inr ⟨⟨L.b, L.off + lo * sz, L.tot⟩, C, E, by simp, hh, hCs, ?_, ?_, hown⟩⟩
        · show L.off + lo * sz + ((es.drop lo).take len).length * sz ≤ L.tot
          rw [hlen]; omega
        · intro i e hi j x' hj
          simp only [List.getElem?_take, List.getElem?_drop] at hi
          split at hi
          · have := hcell _ _ hi j x' hj
            rw [Nat.add_mul] at this
            rwa [show L.off + lo * sz + i * sz + j = L.off + (lo * sz + i * sz) + j by omega]
          · cases hi
      · simp only [VR]
        rw [S.sh_setO, if_pos rfl]
        simp only [AO.sh, hlen]
        exact ⟨by omega, ad, cap, hv, hcap, .inr ⟨⟨L.b, L.off + lo * sz, L.tot⟩, by simp, by simpa using had, by simpa using htot⟩⟩

theorem part_can {α : Type} {enc : α → List Value} {e : List α} {raw : List (List Value)} (hr : raw = e.map enc) (a b : Int) : (raw.drop (0 + a.toNat)).take (b.toNat - a.toNat) = (sub e a b).map enc := by
  rw [hr, sub, List.map_take, List.map_drop, Nat.zero_add]

theorem rep_nat {α : Type} {enc : α → List Value} (n : Nat) (x : α) : List.replicate n (enc x) = (List.replicate n x).map enc := by rw [List.map_replicate]

/-- what is left when a part is cleared -/
def clr {α : Type} (e : List α) (a b : Int) (z : α) : List α := e.take (0 + a.toNat) ++ List.replicate (b.toNat - a.toNat) z ++ e.drop (0 + a.toNat + (b.toNat - a.toNat))

theorem clr_can {α : Type} {enc : α → List Value} {e : List α} {raw : List (List Value)} (hr : raw = e.map enc) (a b : Int) (z : α) : raw.take (0 + a.toNat) ++ List.replicate (b.toNat - a.toNat) (enc z) ++ raw.drop (0 + a.toNat + (b.toNat - a.toNat)) = (clr e a b z).map enc := by
  rw [hr, clr]; simp only [List.map_append, List.map_take, List.map_drop, List.map_replicate]

theorem clr_len {α : Type} {e : List α} {n : Nat} {a b c : Int} (h : n = e.length) (z : α) (hb : 0 ≤ a ∧ a ≤ b ∧ b ≤ c ∧ c ≤ (n : Int)) : n = (clr e a b z).length := by
  simp only [clr, List.length_append, List.length_take, List.length_replicate, List.length_drop]; omega

theorem part_len {α : Type} {e : List α} {n : Nat} {a b c : Int} (h : n = e.length) (hb : 0 ≤ a ∧ a ≤ b ∧ b ≤ c ∧ c ≤ (n : Int)) : b.toNat - a.toNat = (sub e a b).length := by
  simp only [sub, List.length_take, List.length_drop]; omega

/-- a loop's rounds one by one: what stands at the head of a round -/
def AXL (P : Program) (N nin : Nat) (c : Code) (s : S) (R : Exit → S → Prop) : Prop :=
  ∃ ex s', R ex s' ∧ ∀ (X : Env) m a w, X.nin = nin → Rel X N s m a w → ∀ (b : Frame) (k : List Go.Item) (cs : List Frame),
    ∃ e a' w', (e = ex ∧ ∃ m', Rel X N s' m' a' w') ∧ Arrives P (lone (b.at a (.code c :: .inLoop c :: k)) cs w) b k cs e a' w'

theorem AXL.start {c : Code} {s : S} {R : Exit → S → Prop} (h : AXL P N nin c s R) : AX P N nin (.loop c) s R := by
  obtain ⟨ex, s', h1, h2⟩ := h
  refine ⟨ex, s', h1, fun X m a w hn hr b k cs => ?_⟩
  obtain ⟨e, a', w', hq, harr⟩ := h2 X m a w hn hr b k cs
  exact ⟨e, a', w', hq, .of_steps (.one step_loop) harr⟩

theorem AXL.step {c : Code} {s : S} {R : Exit → S → Prop} (h : AX P N nin c s (Then R fun s1 => AXL P N nin c s1 R)) : AXL P N nin c s R := by
  obtain ⟨ex, s1, h1, h2⟩ := h
  have stop : ∀ (hne : ex ≠ .normal), R ex s1 → AXL P N nin c s R := by
    intro hne hR
    refine ⟨ex, s1, hR, fun X m a w hnn hr b k cs => ?_⟩
    obtain ⟨e, a', w', ⟨rfl, m', hr'⟩, harr⟩ := h2 X m a w hnn hr b (.inLoop c :: k) cs
    exact ⟨e, a', w', ⟨rfl, m', hr'⟩, .pass (x := .inLoop c) rfl (fun _ _ => .inl hne) harr⟩
  cases ex with
  | normal =>
    obtain ⟨ex2, s2, h3, h4⟩ := h1
    refine ⟨ex2, s2, h3, fun X m a w hnn hr b k cs => ?_⟩
    obtain ⟨e, a', w', ⟨he, m', hr'⟩, harr⟩ := h2 X m a w hnn hr b (.inLoop c :: k) cs
    subst he
    obtain ⟨e2, a2, w2, hq, harr2⟩ := h4 X m' a' w' hnn hr' b k cs
    exact ⟨e2, a2, w2, hq, .of_steps (Steps.trans harr (.one step_inLoop)) harr2⟩
  | _ => exact stop (by simp) h1

end Go.Eng
