/- What is proved: plain laws of the models, up to the law itself. Conditions: sizes and ranges of what is handed over, as each says. -/
import Derived.Test.YtjihhiadjljofaaCExactBuildFlagModels
set_option linter.unusedVariables false
set_option linter.unusedSimpArgs false
namespace Go.Eng
open Go

theorem w64 {a : Int} (h1 : -9223372036854775808 ≤ a) (h2 : a ≤ 9223372036854775807) : IntKind.wrap .i64 a = a := by
  rw [IntKind.wrap_i64]; omega

def I64 (a : Int) : Prop := -9223372036854775808 ≤ a ∧ a ≤ 9223372036854775807

theorem I64_wrap (a : Int) : I64 (IntKind.wrap .i64 a) := by
  unfold I64; rw [IntKind.wrap_i64]; omega

theorem w64s {i : Nat} (h : i < 4611686018427387904) : IntKind.wrap .i64 ((i : Int) + 1) = ((i + 1 : Nat) : Int) := by
  rw [w64 (by omega) (by omega)]; omega

theorem gd_pos {α : Type} {p : Prop} [Decidable p] (h : p) (x : Option α) : gd p x = x := by unfold gd; rw [if_pos h]

theorem bd_some {α β : Type} (a : α) (f : α → Option β) : bd (some a) f = f a := rfl

theorem nm_eq {α β : Type} (a : α) (f : α → Option β) : nm a f = f a := rfl

theorem sm_inl {α β γ : Type} (a : α) (f : α → γ) (g : β → γ) : sm (.inl a) f g = f a := rfl

theorem sm_inr {α β γ : Type} (b : β) (f : α → γ) (g : β → γ) : sm (.inr b) f g = g b := rfl

/-- it has an answer, and of this it holds -/
def Wp {α : Type} (x : Option α) (Q : α → Prop) : Prop := ∃ r, x = some r ∧ Q r

theorem Wp_some {α : Type} {a : α} {Q : α → Prop} : Wp (some a) Q ↔ Q a := ⟨fun ⟨r, h, q⟩ => by cases h; exact q, fun h => ⟨a, rfl, h⟩⟩

theorem Wp_eq {α : Type} {x : Option α} {r : α} : Wp x (fun a => a = r) ↔ x = some r := ⟨fun ⟨a, h, e⟩ => by rw [h, e], fun h => ⟨r, h, rfl⟩⟩

theorem Wp.eq {α : Type} {x : Option α} {r : α} (h : Wp x (fun a => a = r)) : x = some r := Wp_eq.1 h

theorem Wp.of {α : Type} {x : Option α} {r : α} {Q : α → Prop} (h : x = some r) (q : Q r) : Wp x Q := ⟨r, h, q⟩

/-- a loop by invariant and measure -/
theorem loopW {σ ρ : Type} (L : Nat → σ → Option ρ) (I : σ → Prop) (μ : σ → Nat) (Q : ρ → Prop)
    (hs : ∀ n s, I s → (∀ s', I s' → μ s' < μ s → Wp (L n s') Q) → Wp (L (n + 1) s) Q) : ∀ n s, I s → μ s < n → Wp (L n s) Q
  | 0, s, _, h => absurd h (Nat.not_lt_zero _)
  | n + 1, s, hi, h => hs n s hi fun s' hi' hm => loopW L I μ Q hs n s' hi' (by omega)

/-- a loop over a list -/
theorem listW {α σ ρ : Type} [Inhabited α] (l : List α) (L : Nat → Int → σ → Option ρ) (I : Nat → σ → Prop) (Q : ρ → Prop)
    (h0 : ∀ n s, I l.length s → Wp (L (n + 1) (l.length : Int) s) Q)
    (hs : ∀ n i s d, i < l.length → gt l (i : Int) = d → l.drop i = d :: l.drop (i + 1) → d ∈ l → I i s → (∀ s', I (i + 1) s' → Wp (L n ((i + 1 : Nat) : Int) s') Q) → Wp (L (n + 1) (i : Int) s) Q)
    (N : Nat) (hl : l.length < N) (s : σ) (h : I 0 s) : Wp (L N 0 s) Q := by
  have key : ∀ (k i n : Nat) (s : σ), i + k = l.length → k < n → I i s → Wp (L n (i : Int) s) Q := by
    intro k
    induction k with
    | zero =>
      intro i n s hk hn hi
      cases n with
      | zero => omega
      | succ n =>
        have e : i = l.length := by omega
        subst e
        exact h0 n s hi
    | succ k ih =>
      intro i n s hk hn hi
      cases n with
      | zero => omega
      | succ n =>
        have hlt : i < l.length := by omega
        have e1 : gt l (i : Int) = l[i] := by
          unfold gt
          rw [Int.toNat_natCast, List.getD_eq_getElem?_getD, List.getElem?_eq_getElem hlt, Option.getD_some]
        have e2 : l.drop i = l[i] :: l.drop (i + 1) := List.drop_eq_getElem_cons hlt
        exact hs n i s l[i] hlt e1 e2 (List.getElem_mem hlt) hi fun s' hs' => ih (i + 1) n s' (by omega) (by omega) hs'
  exact key l.length 0 N s (by omega) hl h

theorem gt_nat {α : Type} [Inhabited α] {l : List α} {i : Nat} (h : i < l.length) : gt l (i : Int) = l[i] := by
  unfold gt
  rw [Int.toNat_natCast, List.getD_eq_getElem?_getD, List.getElem?_eq_getElem h, Option.getD_some]

theorem gt_mem {α : Type} [Inhabited α] {l : List α} {q : Int} (h : 0 ≤ q ∧ q < (l.length : Int)) : gt l q ∈ l := by
  obtain ⟨i, rfl⟩ := Int.eq_ofNat_of_zero_le h.1
  have hi : i < l.length := by omega
  have e : gt l (i : Int) = l[i] := gt_nat hi
  rw [e]; exact List.getElem_mem hi

theorem sub_zero {α : Type} (l : List α) (i : Nat) : sub l 0 (i : Int) = l.take i := by simp [sub]

/-- the place of the first element of a kind, -1 if there is none -/
def ix {α : Type} (p : α → Bool) (l : List α) : Int := match l.findIdx? p with | some i => (i : Int) | none => -1

theorem ix_cases {α : Type} [Inhabited α] (p : α → Bool) (l : List α) :
    (ix p l = -1 ∧ l.find? p = none ∧ ∀ d ∈ l, p d = false) ∨
    ∃ (i : Nat) (d : α), ix p l = i ∧ i < l.length ∧ gt l (i : Int) = d ∧ l.find? p = some d ∧ d ∈ l ∧ p d = true := by
  unfold ix
  cases h : l.findIdx? p with
  | none =>
    left
    rw [List.findIdx?_eq_none_iff] at h
    exact ⟨rfl, List.find?_eq_none.2 (fun d hd => by simp [h d hd]), h⟩
  | some i =>
    right
    rw [List.findIdx?_eq_some_iff_getElem] at h
    obtain ⟨hi, h1, h2⟩ := h
    refine ⟨i, l[i], rfl, hi, gt_nat hi, ?_, List.getElem_mem hi, h1⟩
    rw [List.find?_eq_some_iff_getElem]
    exact ⟨h1, i, hi, rfl, fun j hj => by simpa using h2 j hj⟩

theorem bv64 (a : Nat) (ha : a < 9223372036854775808) : (BitVec.ofInt 64 (a : Int)).toNat = a := by
  rw [BitVec.ofInt_natCast, BitVec.toNat_ofNat]; exact Nat.mod_eq_of_lt (by omega)

theorem xor64 {a b : Nat} (ha : a < 9223372036854775808) (hb : b < 9223372036854775808) : Go.bits .xor .i64 (a : Int) (b : Int) = ((a ^^^ b : Nat) : Int) := by
  have hx : a ^^^ b < 2 ^ 63 := Nat.xor_lt_two_pow (by omega) (by omega)
  show IntKind.i64.wrap ((BitVec.ofInt 64 (a : Int) ^^^ BitVec.ofInt 64 (b : Int)).toNat : Int) = _
  rw [BitVec.toNat_xor, bv64 a ha, bv64 b hb, w64 (by omega) (by omega)]

theorem cond_pos {α : Type} {p : Prop} [Decidable p] (h : p) (x y : α) : (bif decide p then x else y) = x := by rw [decide_eq_true h]; rfl

theorem cond_neg {α : Type} {p : Prop} [Decidable p] (h : ¬ p) (x y : α) : (bif decide p then x else y) = y := by rw [decide_eq_false h]; rfl

theorem cond_if {α : Type} {p : Prop} [Decidable p] (x y : α) : (bif decide p then x else y) = if p then x else y := by
  by_cases h : p <;> simp [h]

/-- a search -/
theorem findI {α : Type} [Inhabited α] (l : List α) (L : Nat → Int → Option (Int ⊕ Unit)) (p : α → Bool)
    (hend : ∀ n, L (n + 1) (l.length : Int) = some (.inr ()))
    (hstep : ∀ n i, i < l.length → L (n + 1) (i : Int) = if p (gt l (i : Int)) then some (.inl (i : Int)) else L n ((i + 1 : Nat) : Int))
    (N : Nat) (hl : l.length < N) : L N 0 = some (match l.findIdx? p with | some i => .inl (i : Int) | none => .inr ()) := by
  refine (listW l (fun n i (_ : Unit) => L n i) (fun i _ => ∀ d ∈ l.take i, p d = false)
    (fun r => r = (match l.findIdx? p with | some i => .inl (i : Int) | none => .inr ())) ?_ ?_ N hl () (by simp)).eq
  · intro n _ hI
    rw [List.take_length] at hI
    rw [hend]
    refine Wp_some.2 ?_
    rw [List.findIdx?_eq_none_iff.2 hI]
  · intro n i _ d hi hg hd hm hI ih
    rw [hstep n i hi, hg]
    by_cases h : p d = true
    · rw [if_pos h]
      refine Wp_some.2 ?_
      have : l.findIdx? p = some i := by
        rw [List.findIdx?_eq_some_iff_getElem]
        refine ⟨hi, by rw [← gt_nat hi, hg]; exact h, fun j hj => ?_⟩
        simpa using hI l[j] (List.mem_take_iff_getElem.2 ⟨j, by omega, rfl⟩)
      rw [this]
    · rw [if_neg h]
      refine ih () ?_
      intro e he
      rw [List.take_succ_eq_append_getElem hi, List.mem_append] at he
      rcases he with he | he
      · exact hI e he
      · rw [← gt_nat hi, hg] at he
        simp at he; subst he; simpa using h

/-- a check of all, by place: what comes out where one is of the kind, and where none is -/
theorem anyI {α ρ : Type} [Inhabited α] (l : List α) (L : Nat → Int → Option ρ) (P : Nat → Prop) (x y : ρ)
    (hend : ∀ n, L (n + 1) (l.length : Int) = some y)
    (hstep : ∀ n i, i < l.length → (P i ∧ L (n + 1) (i : Int) = some x) ∨ (¬ P i ∧ L (n + 1) (i : Int) = L n ((i + 1 : Nat) : Int)))
    (N : Nat) (hl : l.length < N) : ((∃ i, i < l.length ∧ P i) ∧ L N 0 = some x) ∨ ((∀ i, i < l.length → ¬ P i) ∧ L N 0 = some y) := by
  have h := listW l (fun n i (_ : Unit) => L n i) (fun i _ => ∀ j, j < i → ¬ P j)
    (fun r => ((∃ i, i < l.length ∧ P i) ∧ r = x) ∨ ((∀ i, i < l.length → ¬ P i) ∧ r = y)) ?_ ?_ N hl () (by intro j hj; omega)
  · obtain ⟨r, e, h⟩ := h
    have e : L N 0 = some r := e
    rw [e]
    rcases h with ⟨h1, rfl⟩ | ⟨h1, rfl⟩
    · exact .inl ⟨h1, rfl⟩
    · exact .inr ⟨h1, rfl⟩
  · intro n _ hI
    rw [hend]
    exact Wp_some.2 (.inr ⟨hI, rfl⟩)
  · intro n i _ d hi hg hd hm hI ih
    rcases hstep n i hi with ⟨h1, h2⟩ | ⟨h1, h2⟩
    · rw [h2]; exact Wp_some.2 (.inl ⟨⟨i, hi, h1⟩, rfl⟩)
    · rw [h2]
      refine ih () fun j hj => ?_
      by_cases e : j = i
      · subst e; exact h1
      · exact hI j (by omega)

/-- a fold -/
theorem foldW {α σ : Type} [Inhabited α] (l : List α) (L : Nat → σ → Int → Option σ) (g : σ → α → σ) (I : Nat → σ → Prop)
    (hend : ∀ n s, L (n + 1) s (l.length : Int) = some s)
    (hstep : ∀ n i s, i < l.length → gt l (i : Int) ∈ l → I i s → I (i + 1) (g s (gt l (i : Int))) ∧ L (n + 1) s (i : Int) = L n (g s (gt l (i : Int))) ((i + 1 : Nat) : Int))
    (N : Nat) (hl : l.length < N) (s : σ) (h0 : I 0 s) : L N s 0 = some (l.foldl g s) ∧ I l.length (l.foldl g s) := by
  have h := listW l (fun n i s => L n s i) (fun i t => I i t ∧ (l.drop i).foldl g t = l.foldl g s)
    (fun r => r = l.foldl g s ∧ I l.length r) ?_ ?_ N hl s ⟨h0, by simp⟩
  · obtain ⟨r, e, rfl, h2⟩ := h
    exact ⟨e, h2⟩
  · intro n t hI
    rw [hend]
    refine Wp_some.2 ?_
    have := hI.2
    rw [List.drop_length] at this
    exact ⟨this, hI.1⟩
  · intro n i t d hi hg hd hm hI ih
    have hs := hstep n i t hi (by rw [hg]; exact hm) hI.1
    rw [hg] at hs
    rw [hs.2]
    refine ih _ ⟨hs.1, ?_⟩
    have := hI.2
    rw [hd, List.foldl_cons] at this
    exact this

/-- a fold that may stop -/
theorem foldE {α β σ : Type} [Inhabited α] (l : List α) (L : Nat → σ → Int → Option (β ⊕ σ)) (bad : α → Bool) (b : β) (g : σ → α → σ) (I : Nat → σ → Prop)
    (hend : ∀ n s, I l.length s → L (n + 1) s (l.length : Int) = some (.inr s))
    (hstep : ∀ n i s, i < l.length → gt l (i : Int) ∈ l → I i s → (bad (gt l (i : Int)) = true ∧ L (n + 1) s (i : Int) = some (.inl b)) ∨
      (bad (gt l (i : Int)) = false ∧ I (i + 1) (g s (gt l (i : Int))) ∧ L (n + 1) s (i : Int) = L n (g s (gt l (i : Int))) ((i + 1 : Nat) : Int)))
    (N : Nat) (hl : l.length < N) (s : σ) (h0 : I 0 s) : (l.any bad = true ∧ L N s 0 = some (.inl b)) ∨ (l.any bad = false ∧ I l.length (l.foldl g s) ∧ L N s 0 = some (.inr (l.foldl g s))) := by
  have h := listW l (fun n i s => L n s i) (fun i t => I i t ∧ (l.drop i).foldl g t = l.foldl g s ∧ l.any bad = (l.drop i).any bad)
    (fun r => (l.any bad = true ∧ r = .inl b) ∨ (l.any bad = false ∧ I l.length (l.foldl g s) ∧ r = .inr (l.foldl g s))) ?_ ?_ N hl s ⟨h0, by simp, by simp⟩
  · obtain ⟨r, e, h⟩ := h
    have e : L N s 0 = some r := e
    rw [e]
    rcases h with ⟨h1, rfl⟩ | ⟨h1, h2, rfl⟩
    · exact .inl ⟨h1, rfl⟩
    · exact .inr ⟨h1, h2, rfl⟩
  · intro n t hI
    rw [hend n t hI.1]
    refine Wp_some.2 (.inr ?_)
    have h2 := hI.2.1
    have h3 := hI.2.2
    rw [List.drop_length] at h2 h3
    simp only [List.foldl_nil] at h2
    rw [← h2]
    exact ⟨h3, hI.1, rfl⟩
  · intro n i t d hi hg hd hm hI ih
    have hs := hstep n i t hi (by rw [hg]; exact hm) hI.1
    rw [hg] at hs
    have h2 := hI.2.1
    have h3 := hI.2.2
    rw [hd, List.foldl_cons] at h2
    rw [hd, List.any_cons] at h3
    rcases hs with ⟨hb, e⟩ | ⟨hb, hi', e⟩
    · rw [e]
      exact Wp_some.2 (.inl ⟨by rw [h3, hb]; rfl, rfl⟩)
    · rw [e]
      exact ih _ ⟨hi', h2, by rw [h3, hb, Bool.false_or]⟩

/-- a copy, element by element -/
theorem copyW {α : Type} [Inhabited α] (l : List α) (L : Nat → List α → Int → Option (List α))
    (hend : ∀ n s, L (n + 1) s (l.length : Int) = some s)
    (hstep : ∀ n i s, i < l.length → s.length = l.length → L (n + 1) s (i : Int) = L n (s.set (0 + i) (gt l (i : Int))) ((i + 1 : Nat) : Int))
    (N : Nat) (hl : l.length < N) (s : List α) (h0 : s.length = l.length) : L N s 0 = some l := by
  refine (listW l (fun n i s => L n s i) (fun i t => t.length = l.length ∧ t.take i = l.take i) (fun r => r = l) ?_ ?_ N hl s ⟨h0, by simp⟩).eq
  · intro n t hI
    rw [hend]
    refine Wp_some.2 ?_
    have h2 := hI.2
    rw [List.take_length, ← hI.1, List.take_length] at h2
    exact h2
  · intro n i t d hi hg hd hm hI ih
    rw [hstep n i t hi hI.1, hg]
    refine ih _ ⟨by rw [List.length_set]; exact hI.1, ?_⟩
    have hi' : i < t.length := by rw [hI.1]; exact hi
    rw [Nat.zero_add, List.take_set, List.take_succ_eq_append_getElem hi, List.take_succ_eq_append_getElem hi', hI.2, List.set_append]
    have : (l.take i).length = i := by rw [List.length_take]; omega
    rw [if_neg (by omega), this, Nat.sub_self, List.set_cons_zero, ← gt_nat hi, hg]

/-- a comparison of two lists -/
theorem eqW {α : Type} [Inhabited α] [DecidableEq α] (a b : List α) (L : Nat → Int → Option (Unit ⊕ Unit)) (hlen : a.length = b.length)
    (hend : ∀ n, L (n + 1) (a.length : Int) = some (.inr ()))
    (hstep : ∀ n i, i < a.length → L (n + 1) (i : Int) = if gt a (i : Int) = gt b (i : Int) then L n ((i + 1 : Nat) : Int) else some (.inl ()))
    (N : Nat) (hl : a.length < N) : L N 0 = some (if a = b then .inr () else .inl ()) := by
  have h := anyI a L (fun i => ¬ gt a (i : Int) = gt b (i : Int)) (.inl ()) (.inr ()) hend (fun n i hi => ?_) N hl
  · rcases h with ⟨⟨i, h1, h2⟩, e⟩ | ⟨h1, e⟩
    · rw [e, if_neg (fun e => h2 (by rw [e]))]
    · rw [e, if_pos]
      refine List.ext_getElem hlen fun i h2 h3 => ?_
      have := Decidable.not_not.1 (h1 i h2)
      rwa [gt_nat h2, gt_nat h3] at this
  · rw [hstep n i hi]
    by_cases h : gt a (i : Int) = gt b (i : Int)
    · rw [if_pos h]; exact .inr ⟨fun h' => h' h, rfl⟩
    · rw [if_neg h]; exact .inl ⟨h, rfl⟩

/-- a check of all numbers below one -/
theorem anyN {ρ : Type} (m : Nat) (L : Nat → Int → Option ρ) (P : Nat → Prop) (x y : ρ)
    (hend : ∀ n, L (n + 1) (m : Int) = some y)
    (hstep : ∀ n i, i < m → (P i ∧ L (n + 1) (i : Int) = some x) ∨ (¬ P i ∧ L (n + 1) (i : Int) = L n ((i + 1 : Nat) : Int)))
    (N : Nat) (hl : m < N) : ((∃ i, i < m ∧ P i) ∧ L N 0 = some x) ∨ ((∀ i, i < m → ¬ P i) ∧ L N 0 = some y) := by
  have h := anyI (List.range m) L P x y (by simpa using hend) (by simpa using hstep) N (by simpa using hl)
  simpa using h

/-- a check where none is of the kind -/
theorem noneN {ρ : Type} (m : Nat) (L : Nat → Int → Option ρ) (y : ρ)
    (hend : ∀ n, L (n + 1) (m : Int) = some y)
    (hstep : ∀ n i, i < m → L (n + 1) (i : Int) = L n ((i + 1 : Nat) : Int))
    (N : Nat) (hl : m < N) : L N 0 = some y := by
  rcases anyN m L (fun _ => False) y y hend (fun n i hi => .inr ⟨id, hstep n i hi⟩) N hl with ⟨_, h⟩ | ⟨_, h⟩ <;> exact h

theorem FU_eq : FU = 4611686018427387904 := rfl

def named (l : List (ByteArray × Int)) (s : ByteArray) : Int := ix (fun d => decide (d.1 = s)) l

theorem spec_indexOf (l : List (ByteArray × Int)) (s : ByteArray) (hl : l.length ≤ 1099511627776) : m_spec_indexOf l s = some (named l s) := by
  rw [m_spec_indexOf, findI l (m_spec_indexOf_L1 l s) (fun d => decide (d.1 = s)) ?_ ?_ FU (by rw [FU_eq]; omega), bd_some, named, ix]
  · cases l.findIdx? (fun d => decide (d.1 = s)) <;> rfl
  · intro n; rw [m_spec_indexOf_L1, cond_neg (by omega)]
  · intro n i hi
    rw [m_spec_indexOf_L1, cond_pos (by omega), gd_pos (by omega), w64s (by omega), cond_if]
    simp

theorem impl_named (l : List (ByteArray × Int)) (s : ByteArray) (hl : l.length ≤ 1099511627776) : m_impl_named l s = some (named l s) := by
  rw [m_impl_named, m_slices_IndexFunc_si_named_1_l, findI l (m_slices_IndexFunc_si_named_1_l_L1 l s) (fun d => decide (d.1 = s)) ?_ ?_ FU (by rw [FU_eq]; omega), bd_some, named, ix]
  · cases l.findIdx? (fun d => decide (d.1 = s)) <;> rfl
  · intro n; rw [m_slices_IndexFunc_si_named_1_l_L1, cond_neg (by omega)]
  · intro n i hi
    rw [m_slices_IndexFunc_si_named_1_l_L1, cond_pos (by omega), gd_pos (by omega), w64s (by omega), m_impl_named_1_l, bd_some, cond_if]
    simp

/-- 1 to 6 letters from a to z -/
def NameOk (s : ByteArray) : Prop := (∀ i, i < s.size → 97 ≤ byteAt s i ∧ byteAt s i ≤ 122) ∧ 1 ≤ s.size ∧ s.size ≤ 6

instance (s : ByteArray) : Decidable (NameOk s) := inferInstanceAs (Decidable (_ ∧ _))

theorem spec_inRange (a b c : Int) : m_spec_inRange a b c = some (decide (b ≤ a ∧ a ≤ c)) := by
  rw [m_spec_inRange, cond_if]
  by_cases h1 : b ≤ a <;> by_cases h2 : a ≤ c <;> simp [h1, h2]

theorem impl_in (a b c : Int) : m_impl_in a b c = some (decide (b ≤ a ∧ a ≤ c)) := spec_inRange a b c

theorem validName_loop (s : ByteArray) (hs : s.size ≤ 1099511627776) : Wp (m_spec_validName_L1 s FU 0) (fun r => (r = .inl () ∧ ∃ i, i < s.size ∧ ¬ (97 ≤ byteAt s i ∧ byteAt s i ≤ 122)) ∨ (r = .inr () ∧ ∀ i, i < s.size → 97 ≤ byteAt s i ∧ byteAt s i ≤ 122)) := by
  refine loopW (m_spec_validName_L1 s) (fun v => ∃ i : Nat, v = i ∧ i ≤ s.size ∧ ∀ j, j < i → 97 ≤ byteAt s j ∧ byteAt s j ≤ 122) (fun v => s.size - v.toNat) _ ?_ FU 0 ⟨0, rfl, by omega, by intro j hj; omega⟩ (by rw [FU_eq]; omega)
  rintro n _ ⟨i, rfl, hi, hI⟩ ih
  rw [m_spec_validName_L1]
  by_cases h : i < s.size
  · rw [cond_pos (by omega), gd_pos (by omega), w64s (by omega), Int.toNat_natCast]
    by_cases h1 : byteAt s i < 97
    · rw [cond_pos h1]; exact Wp_some.2 (.inl ⟨rfl, i, h, by omega⟩)
    · rw [cond_neg h1]
      by_cases h2 : 122 < byteAt s i
      · rw [cond_pos h2]; exact Wp_some.2 (.inl ⟨rfl, i, h, by omega⟩)
      · rw [cond_neg h2]
        refine ih _ ⟨i + 1, rfl, h, fun j hj => ?_⟩ (by omega)
        by_cases e : j = i
        · subst e; omega
        · exact hI j (by omega)
  · rw [cond_neg (by omega)]
    exact Wp_some.2 (.inr ⟨rfl, fun j hj => hI j (by omega)⟩)

theorem spec_validName {s : ByteArray} (hs : s.size ≤ 1099511627776) : m_spec_validName s = some (decide (NameOk s)) := by
  obtain ⟨r, e, h⟩ := validName_loop s hs
  rw [m_spec_validName, e, bd_some]
  rcases h with ⟨rfl, i, hi, h⟩ | ⟨rfl, h⟩
  · have : ¬ NameOk s := fun hn => h (hn.1 i hi)
    rw [decide_eq_false this]; rfl
  · rw [sm_inr, spec_inRange, bd_some]
    have : NameOk s ↔ ((1 : Int) ≤ (s.size : Int) ∧ (s.size : Int) ≤ 6) := ⟨fun hn => by have := hn.2; omega, fun hh => ⟨h, by omega⟩⟩
    rw [decide_eq_decide.2 this]

theorem validName_L1_eq (p : ByteArray) : ∀ (n : Nat) (v : Int), m_impl_ValidName_L1 p n v = m_spec_validName_L1 p n v
  | 0, v => rfl
  | n + 1, v => by rw [m_impl_ValidName_L1, m_spec_validName_L1, validName_L1_eq p n]

theorem impl_ValidName {s : ByteArray} (hs : s.size ≤ 1099511627776) : m_impl_ValidName s = some (decide (NameOk s)) := by
  rw [← spec_validName hs, m_impl_ValidName, m_spec_validName, validName_L1_eq]; rfl

/-- names and lists that can be read -/
def DefsIn (l : List (ByteArray × Int)) : Prop := l.length ≤ 1099511627776 ∧ (∀ d ∈ l, d.1.size ≤ 1099511627776) ∧ ∀ d ∈ l, I64 d.2

def DefsOk (l : List (ByteArray × Int)) (lo hi : Int) : Prop := (∀ i, i < l.length → NameOk (gt l (i : Int)).1 ∧ (lo ≤ (gt l (i : Int)).2 ∧ (gt l (i : Int)).2 ≤ hi) ∧ ¬ 0 ≤ named (l.take i) (gt l (i : Int)).1) ∧ l.length ≤ 12

instance (l : List (ByteArray × Int)) (lo hi : Int) : Decidable (DefsOk l lo hi) := inferInstanceAs (Decidable (_ ∧ _))

theorem spec_validDefs {l : List (ByteArray × Int)} (h : DefsIn l) (lo hi : Int) : m_spec_validDefs l lo hi = some (decide (DefsOk l lo hi)) := by
  obtain ⟨hl, hs, -⟩ := h
  have h := anyI l (m_spec_validDefs_L1 l lo hi) (fun i => ¬ (NameOk (gt l (i : Int)).1 ∧ (lo ≤ (gt l (i : Int)).2 ∧ (gt l (i : Int)).2 ≤ hi) ∧ ¬ 0 ≤ named (l.take i) (gt l (i : Int)).1)) (.inl ()) (.inr ()) ?_ ?_ FU (by rw [FU_eq]; omega)
  · rw [m_spec_validDefs]
    rcases h with ⟨⟨i, h1, h2⟩, e⟩ | ⟨h1, e⟩
    · rw [e, bd_some, sm_inl]
      have : ¬ DefsOk l lo hi := fun h => h2 (h.1 i h1)
      rw [decide_eq_false this]
    · rw [e, bd_some, sm_inr]
      have : DefsOk l lo hi ↔ (l.length : Int) ≤ 12 := ⟨fun h => by have := h.2; omega, fun h => ⟨fun i hi => Decidable.not_not.1 (h1 i hi), by omega⟩⟩
      rw [decide_eq_decide.2 this]
  · intro n; rw [m_spec_validDefs_L1, cond_neg (by omega)]
  · intro n i hi'
    have hm : gt l (i : Int) ∈ l := gt_mem (by omega)
    rw [m_spec_validDefs_L1, cond_pos (by omega), gd_pos (by omega), spec_validName (hs _ hm), bd_some, spec_inRange, bd_some, gd_pos (by omega), sub_zero, spec_indexOf _ _ (by rw [List.length_take]; omega), bd_some, w64s (by omega)]
    by_cases h1 : NameOk (gt l (i : Int)).1 <;> simp only [h1, decide_true, decide_false, Bool.not_true, Bool.not_false, cond_true, cond_false, true_and, false_and, not_false_eq_true, not_true_eq_false, or_false, and_self]
    by_cases h2 : lo ≤ (gt l (i : Int)).2 ∧ (gt l (i : Int)).2 ≤ hi <;> simp only [h2, decide_true, decide_false, Bool.not_true, Bool.not_false, cond_true, cond_false, true_and, false_and, not_false_eq_true, not_true_eq_false, or_false, and_self]
    by_cases h3 : 0 ≤ named (l.take i) (gt l (i : Int)).1 <;> simp only [h3, decide_true, decide_false, Bool.not_true, Bool.not_false, cond_true, cond_false, true_and, false_and, not_false_eq_true, not_true_eq_false, or_false, and_self, false_or]

theorem impl_defsValid {l : List (ByteArray × Int)} (h : DefsIn l) (lo hi : Int) : m_impl_defsValid l lo hi = some (decide (DefsOk l lo hi)) := by
  have e : ∀ (n : Nat) (i : Nat), i ≤ l.length → m_impl_defsValid_L1 l lo hi n (i : Int) = m_spec_validDefs_L1 l lo hi n (i : Int) := by
    intro n
    induction n with
    | zero => intro i _; rfl
    | succ n ih =>
      intro i hi'
      rw [m_impl_defsValid_L1, m_spec_validDefs_L1]
      by_cases hlt : i < l.length
      · have hm : gt l (i : Int) ∈ l := gt_mem (by omega)
        have hl := h.1
        rw [cond_pos (by omega), cond_pos (by omega), w64s (by omega), ih (i + 1) hlt, impl_ValidName (h.2.1 _ hm), spec_validName (h.2.1 _ hm), sub_zero,
          impl_named _ _ (by rw [List.length_take]; omega), spec_indexOf _ _ (by rw [List.length_take]; omega)]
        rfl
      · rw [cond_neg (by omega), cond_neg (by omega)]
  rw [← spec_validDefs h, m_impl_defsValid, m_spec_validDefs, show (0 : Int) = ((0 : Nat) : Int) from rfl, e FU 0 (by omega)]

def FlagOk (l : List (ByteArray × Int)) (b : Int) : Prop := DefsOk l 0 4095 ∧ 0 ≤ b ∧ b ≤ 3

instance (l : List (ByteArray × Int)) (b : Int) : Decidable (FlagOk l b) := inferInstanceAs (Decidable (_ ∧ _))

theorem spec_validFlag {l : List (ByteArray × Int)} (h : DefsIn l) (b : Int) : m_spec_validFlag l b = some (decide (FlagOk l b)) := by
  rw [m_spec_validFlag, spec_validDefs h, bd_some, spec_inRange, bd_some]
  by_cases h1 : DefsOk l 0 4095
  · rw [decide_eq_true h1, cond_true]; congr 1; exact decide_eq_decide.2 ⟨fun h => ⟨h1, h⟩, fun h => h.2⟩
  · rw [decide_eq_false h1, cond_false, decide_eq_false (fun h => h1 h.1)]

theorem impl_ValidFlag {l : List (ByteArray × Int)} (h : DefsIn l) (b : Int) : m_impl_ValidFlag l b = some (decide (FlagOk l b)) := by
  rw [m_impl_ValidFlag, impl_defsValid h, bd_some, impl_in, bd_some]
  by_cases h1 : DefsOk l 0 4095
  · rw [decide_eq_true h1, cond_true]; congr 1; exact decide_eq_decide.2 ⟨fun h => ⟨h1, h⟩, fun h => h.2⟩
  · rw [decide_eq_false h1, cond_false, decide_eq_false (fun h => h1 h.1)]

/-- what a list of definitions that is right tells -/
theorem DefsOk.out {l : List (ByteArray × Int)} {lo hi : Int} (h : DefsOk l lo hi) : (∀ d ∈ l, NameOk d.1 ∧ lo ≤ d.2 ∧ d.2 ≤ hi) ∧ (l.map (·.1)).Nodup ∧ l.length ≤ 12 := by
  refine ⟨fun d hd => ?_, ?_, h.2⟩
  · obtain ⟨i, hi', rfl⟩ := List.mem_iff_getElem.1 hd
    have := h.1 i hi'
    rw [gt_nat hi'] at this
    exact ⟨this.1, this.2.1⟩
  · rw [List.Nodup, List.pairwise_iff_getElem]
    intro i j hi' hj hij e
    simp only [List.length_map] at hi' hj
    have := (h.1 j hj).2.2
    rw [gt_nat hj] at this
    apply this
    simp only [List.getElem_map] at e
    unfold named
    rcases ix_cases (fun d => decide (d.1 = l[j].1)) (l.take j) with ⟨_, _, h3⟩ | ⟨k, d, h1, _⟩
    · have := h3 l[i] (List.mem_take_iff_getElem.2 ⟨i, by omega, rfl⟩)
      simp [e] at this
    · rw [h1]; omega

theorem DefsOk.of {l : List (ByteArray × Int)} {lo hi : Int} (h : (∀ d ∈ l, NameOk d.1 ∧ lo ≤ d.2 ∧ d.2 ≤ hi) ∧ (l.map (·.1)).Nodup ∧ l.length ≤ 12) : DefsOk l lo hi := by
  refine ⟨fun i hi' => ?_, h.2.2⟩
  have hm := h.1 _ (List.getElem_mem hi')
  rw [gt_nat hi']
  refine ⟨hm.1, hm.2, ?_⟩
  unfold named
  rcases ix_cases (fun d => decide (d.1 = l[i].1)) (l.take i) with ⟨h1, _⟩ | ⟨k, d, h1, h2, h3, h4, h5, h6⟩
  · rw [h1]; omega
  · exfalso
    obtain ⟨j, hj, rfl⟩ := List.mem_take_iff_getElem.1 h5
    have hnd := h.2.1
    rw [List.Nodup, List.pairwise_iff_getElem] at hnd
    have := hnd j i (by simp; omega) (by simp; omega) (by omega)
    simp only [List.getElem_map] at this
    exact this (by simpa using h6)

theorem tdiv_nat (a p : Nat) : Int.tdiv (a : Int) (p : Int) = ((a / p : Nat) : Int) := by simp [Int.ofNat_tdiv]

theorem FlagOk.len {l : List (ByteArray × Int)} {b : Int} (h : FlagOk l b) : l.length ≤ 12 := h.1.2

/-- for all numbers below -/
def chk (f : Nat → Bool) : Nat → Bool
  | 0 => true
  | n + 1 => f n && chk f n

theorem chk_out {f : Nat → Bool} : ∀ {n : Nat}, chk f n = true → ∀ i, i < n → f i = true
  | 0, _, i, hi => by omega
  | n + 1, h, i, hi => by
    rw [chk, Bool.and_eq_true] at h
    by_cases e : i = n
    · subst e; exact h.1
    · exact chk_out h.2 i (by omega)

def Bytes (l : List Int) : Prop := ∀ n ∈ l, 0 ≤ n ∧ n < 256

theorem tmod_range {a b : Int} (ha : 0 ≤ a) (hb : 0 < b) : 0 ≤ Int.tmod a b ∧ Int.tmod a b < b := by
  rw [Int.tmod_eq_emod_of_nonneg ha]
  exact ⟨Int.emod_nonneg _ (by omega), Int.emod_lt_of_pos _ hb⟩

theorem tdiv_range {a b : Int} (ha : 0 ≤ a) (hb : 0 < b) : 0 ≤ Int.tdiv a b ∧ Int.tdiv a b ≤ a := by
  rw [Int.tdiv_eq_ediv_of_nonneg ha]
  exact ⟨Int.ediv_nonneg ha (by omega), Int.ediv_le_self _ ha⟩

theorem pick {n : Int} {code : List Int} {p : Int} (hc : Bytes code) (hl : code.length ≤ 9223372036854775807) (hp : 0 ≤ p ∧ p < 1000000) :
    ∃ x, m_spec_reader_pick n code p = some x ∧ 0 ≤ x ∧ (1 ≤ n → x < n) := by
  unfold m_spec_reader_pick
  by_cases h1 : n < 1
  · exact ⟨0, by rw [decide_eq_true h1, cond_true], by omega, fun h => by omega⟩
  rw [decide_eq_false h1, cond_false]
  by_cases h2 : (code.length : Int) = 0
  · exact ⟨0, by rw [decide_eq_true h2, cond_true], by omega, fun h => by omega⟩
  rw [decide_eq_false h2, cond_false]
  have e1 : IntKind.wrap .i64 (IntKind.wrap .i64 (p + 1) - 1) = p := by
    rw [w64 (a := p + 1) (by omega) (by omega), w64 (by omega) (by omega)]; omega
  have hL : 0 < (code.length : Int) := by omega
  simp only [e1, nm_eq]
  by_cases h3 : p < (code.length : Int)
  · have hb := hc _ (gt_mem ⟨hp.1, h3⟩)
    rw [decide_eq_true h3, cond_true, gd_pos ⟨hp.1, h3⟩, gd_pos (by omega), w64 (by omega) (by omega)]
    have := tmod_range (a := gt code p) (b := n) hb.1 (by omega)
    exact ⟨_, rfl, this.1, fun _ => this.2⟩
  rw [decide_eq_false h3, cond_false, gd_pos (by omega)]
  have t1 := tmod_range hp.1 hL
  rw [gd_pos t1, w64 (a := p * 7) (by omega) (by omega), w64 (a := p * 7 + 3) (by omega) (by omega)]
  have t2 := tmod_range (a := p * 7 + 3) (by omega) hL
  rw [gd_pos t2]
  have b1 := hc _ (gt_mem t1)
  have b2 := hc _ (gt_mem t2)
  generalize gt code (Int.tmod p (code.length : Int)) = u at *
  generalize gt code (Int.tmod (p * 7 + 3) (code.length : Int)) = v at *
  have t3 := tdiv_range hp.1 hL
  generalize Int.tdiv p (code.length : Int) = q at *
  rw [gd_pos ⟨by omega, w64 (by omega) (by omega)⟩]
  rw [w64 (a := u) (by omega) (by omega), w64 (a := u * 131) (by omega) (by omega), w64 (a := v) (by omega) (by omega), w64 (a := v * 1117) (by omega) (by omega), w64 (a := u * 131 + v * 1117) (by omega) (by omega),
    w64 (a := p * 29) (by omega) (by omega), w64 (a := u * 131 + v * 1117 + p * 29) (by omega) (by omega), w64 (a := q * 53) (by omega) (by omega), w64 (a := u * 131 + v * 1117 + p * 29 + q * 53) (by omega) (by omega)]
  have hz : 0 ≤ u * 131 + v * 1117 + p * 29 + q * 53 ∧ u * 131 + v * 1117 + p * 29 + q * 53 < 1000000000 := by omega
  generalize u * 131 + v * 1117 + p * 29 + q * 53 = z at *
  have t4 := tdiv_range (a := z) (b := 64) hz.1 (by omega)
  rw [gd_pos ⟨by omega, w64 (by omega) (by omega)⟩, gd_pos (by omega)]
  have hx : ∃ y : Nat, Go.bits .xor .i64 z (Int.tdiv z 64) = (y : Int) := by
    obtain ⟨a, ha⟩ := Int.eq_ofNat_of_zero_le hz.1
    obtain ⟨b, hb⟩ := Int.eq_ofNat_of_zero_le t4.1
    refine ⟨a ^^^ b, ?_⟩
    rw [hb, ha]
    exact xor64 (by omega) (by omega)
  obtain ⟨y, hy⟩ := hx
  rw [hy]
  have := tmod_range (a := (y : Int)) (b := n) (by omega) (by omega)
  exact ⟨_, rfl, this.1, fun _ => this.2⟩

theorem one {code : List Int} {p : Int} (hc : Bytes code) (hl : code.length ≤ 9223372036854775807) (hp : 0 ≤ p ∧ p < 1000000) {xs : List Int} (hx : xs ≠ []) : ∃ x, m_spec_reader_one xs code p = some x ∧ x ∈ xs := by
  have h1 : 1 ≤ (xs.length : Int) := by
    have := List.length_pos_iff.2 hx
    omega
  obtain ⟨x, e, h0, h2⟩ := pick (n := (xs.length : Int)) hc hl hp
  refine ⟨gt xs x, ?_, gt_mem ⟨h0, h2 h1⟩⟩
  rw [m_spec_reader_one, e, bd_some, gd_pos ⟨h0, h2 h1⟩]

/-- the length of a number in bits -/
def blen (n : Nat) : Nat := if n = 0 then 0 else Nat.log2 n + 1

theorem lt_two_blen (n : Nat) : n < 2 ^ blen n := by
  unfold blen
  split
  · omega
  · exact Nat.lt_log2_self

theorem two_blen_le {n : Nat} (h : n ≠ 0) : 2 ^ (blen n - 1) ≤ n := by
  unfold blen
  rw [if_neg h]
  exact Nat.log2_self_le h

theorem blen_unique {n b : Nat} (h1 : n < 2 ^ b) (h2 : b = 0 ∨ 2 ^ (b - 1) ≤ n) : blen n = b := by
  by_cases h : n = 0
  · subst h
    rcases h2 with rfl | h2
    · rfl
    · have := Nat.pos_of_ne_zero (show (2 : Nat) ^ (b - 1) ≠ 0 by simp)
      omega
  · have g1 := lt_two_blen n
    have g2 := two_blen_le h
    have hb : b ≠ 0 := by rintro rfl; simp at h1; omega
    have hc : blen n ≠ 0 := by intro e; rw [e] at g1; simp at g1; omega
    rcases h2 with h2 | h2
    · omega
    · have a1 : b - 1 < blen n := by
        by_cases hh : b - 1 < blen n
        · exact hh
        · have : (2 : Nat) ^ blen n ≤ 2 ^ (b - 1) := Nat.pow_le_pow_right (by omega) (by omega)
          omega
      have a2 : blen n - 1 < b := by
        by_cases hh : blen n - 1 < b
        · exact hh
        · have : (2 : Nat) ^ b ≤ 2 ^ (blen n - 1) := Nat.pow_le_pow_right (by omega) (by omega)
          omega
      omega

theorem blen_shift (n k : Nat) (h : 2 ^ k ≤ n) : blen n = k + blen (n / 2 ^ k) := by
  have hp : 0 < (2 : Nat) ^ k := Nat.pos_of_ne_zero (by simp)
  have h0 : n / 2 ^ k ≠ 0 := by
    have := Nat.div_pos h hp
    omega
  have g1 := lt_two_blen (n / 2 ^ k)
  have g2 := two_blen_le h0
  refine blen_unique ?_ (.inr ?_)
  · rw [Nat.pow_add, Nat.mul_comm]
    exact (Nat.div_lt_iff_lt_mul hp).1 g1
  · have hb : blen (n / 2 ^ k) ≠ 0 := by intro e; rw [e] at g1; simp at g1; omega
    have : k + blen (n / 2 ^ k) - 1 = (blen (n / 2 ^ k) - 1) + k := by omega
    rw [this, Nat.pow_add]
    exact (Nat.le_div_iff_mul_le hp).1 g2

theorem blen_le {n k : Nat} (h : n < 2 ^ k) : blen n ≤ k := by
  by_cases h0 : n = 0
  · subst h0; simp [blen]
  · have g2 := two_blen_le h0
    by_cases hh : blen n ≤ k
    · exact hh
    · have : (2 : Nat) ^ k ≤ 2 ^ (blen n - 1) := Nat.pow_le_pow_right (by omega) (by omega)
      omega

theorem len_tab : chk (fun n => decide (byteAt lstr_c9535661 n = ((blen n : Nat) : Int))) 256 = true := by decide +kernel

theorem len_size : lstr_c9535661.size = 256 := by decide +kernel

theorem impl_Len {n : Nat} (hn : n < 9223372036854775808) : m_math_bits_Len (n : Int) = some ((blen n : Nat) : Int) := by
  have hg : ∀ k : Nat, k ≤ 64 → (0 : Int) ≤ ((k : Nat) : Int) ∧ ((k : Nat) : Int) ≤ (IntKind.bits .u64 : Int) := fun k hk => ⟨by omega, by simp [IntKind.bits]; omega⟩
  have h8 : 0 ≤ (8 : Int) ∧ (8 : Int) ≤ (IntKind.bits .u64 : Int) := hg 8 (by omega)
  have h16 : 0 ≤ (16 : Int) ∧ (16 : Int) ≤ (IntKind.bits .u64 : Int) := hg 16 (by omega)
  have h32 : 0 ≤ (32 : Int) ∧ (32 : Int) ≤ (IntKind.bits .u64 : Int) := hg 32 (by omega)
  have d : ∀ (a k : Nat), (a : Int) / 2 ^ (((k : Nat) : Int)).toNat = ((a / 2 ^ k : Nat) : Int) := fun a k => by rw [Int.toNat_natCast]; simp
  have d8 : ∀ a : Nat, (a : Int) / 2 ^ (8 : Int).toNat = ((a / 256 : Nat) : Int) := fun a => d a 8
  have d16 : ∀ a : Nat, (a : Int) / 2 ^ (16 : Int).toNat = ((a / 65536 : Nat) : Int) := fun a => d a 16
  have d32 : ∀ a : Nat, (a : Int) / 2 ^ (32 : Int).toNat = ((a / 4294967296 : Nat) : Int) := fun a => d a 32
  have u8 : ∀ m : Nat, m < 256 → IntKind.wrap .u8 (m : Int) = m := fun m hm => by rw [IntKind.wrap_u8]; omega
  have tb : ∀ m : Nat, m < 256 → byteAt lstr_c9535661 m = ((blen m : Nat) : Int) := fun m hm => by simpa using chk_out len_tab m hm
  have gs : ∀ m : Nat, m < 256 → (0 ≤ (m : Int) ∧ (m : Int) < (lstr_c9535661.size : Int)) := fun m hm => by rw [len_size]; omega
  have s8 : ∀ m, 256 ≤ m → blen m = 8 + blen (m / 256) := fun m h => blen_shift m 8 h
  have s16 : ∀ m, 65536 ≤ m → blen m = 16 + blen (m / 65536) := fun m h => blen_shift m 16 h
  have s32 : ∀ m, 4294967296 ≤ m → blen m = 32 + blen (m / 4294967296) := fun m h => blen_shift m 32 h
  have hb8 : ∀ m, m < 256 → blen m ≤ 8 := fun m h => blen_le h
  rw [m_math_bits_Len, m_math_bits_Len64]
  simp only [nm_eq, gd_pos h8, gd_pos h16, gd_pos h32]
  by_cases c1 : 4294967296 ≤ n
  · rw [cond_pos (by omega), d32, s32 n c1]
    have hm : n / 4294967296 < 2147483648 := by omega
    generalize n / 4294967296 = m at *
    by_cases c2 : 65536 ≤ m
    · rw [cond_pos (by omega), d16, s16 m c2]
      have hk : m / 65536 < 32768 := by omega
      generalize m / 65536 = k at *
      by_cases c3 : 256 ≤ k
      · have hk' : k / 256 < 256 := by omega
        rw [cond_pos (by omega), d8, s8 k c3, u8 _ hk', gd_pos (gs _ hk'), Int.toNat_natCast, tb _ hk', bd_some]
        have := hb8 _ hk'
        simp only [IntKind.wrap_i64]
        refine congrArg some ?_; omega
      · have hk' : k < 256 := by omega
        rw [cond_neg (by omega), u8 _ hk', gd_pos (gs _ hk'), Int.toNat_natCast, tb _ hk', bd_some]
        have := hb8 _ hk'
        simp only [IntKind.wrap_i64]
        refine congrArg some ?_; omega
    · rw [cond_neg (by omega)]
      by_cases c3 : 256 ≤ m
      · have hk' : m / 256 < 256 := by omega
        rw [cond_pos (by omega), d8, s8 m c3, u8 _ hk', gd_pos (gs _ hk'), Int.toNat_natCast, tb _ hk', bd_some]
        have := hb8 _ hk'
        simp only [IntKind.wrap_i64]
        refine congrArg some ?_; omega
      · have hk' : m < 256 := by omega
        rw [cond_neg (by omega), u8 _ hk', gd_pos (gs _ hk'), Int.toNat_natCast, tb _ hk', bd_some]
        have := hb8 _ hk'
        simp only [IntKind.wrap_i64]
        refine congrArg some ?_; omega
  · rw [cond_neg (by omega)]
    by_cases c2 : 65536 ≤ n
    · rw [cond_pos (by omega), d16, s16 n c2]
      have hk : n / 65536 < 65536 := by omega
      generalize n / 65536 = k at *
      by_cases c3 : 256 ≤ k
      · have hk' : k / 256 < 256 := by omega
        rw [cond_pos (by omega), d8, s8 k c3, u8 _ hk', gd_pos (gs _ hk'), Int.toNat_natCast, tb _ hk', bd_some]
        have := hb8 _ hk'
        simp only [IntKind.wrap_i64]
        refine congrArg some ?_; omega
      · have hk' : k < 256 := by omega
        rw [cond_neg (by omega), u8 _ hk', gd_pos (gs _ hk'), Int.toNat_natCast, tb _ hk', bd_some]
        have := hb8 _ hk'
        simp only [IntKind.wrap_i64]
        refine congrArg some ?_; omega
    · rw [cond_neg (by omega)]
      by_cases c3 : 256 ≤ n
      · have hk' : n / 256 < 256 := by omega
        rw [cond_pos (by omega), d8, s8 n c3, u8 _ hk', gd_pos (gs _ hk'), Int.toNat_natCast, tb _ hk', bd_some]
        have := hb8 _ hk'
        simp only [IntKind.wrap_i64]
        refine congrArg some ?_; omega
      · have hk' : n < 256 := by omega
        rw [cond_neg (by omega), u8 _ hk', gd_pos (gs _ hk'), Int.toNat_natCast, tb _ hk', bd_some]
        have := hb8 _ hk'
        simp only [IntKind.wrap_i64]
        refine congrArg some ?_; omega

/-- the greatest value of definitions, another number if there are none -/
def greatest : List (ByteArray × Int) → Int → Int
  | [], z => z
  | d :: l, _ => l.foldl (fun m e => if m < e.2 then e.2 else m) d.2

theorem foldl_max_cases (l : List (ByteArray × Int)) : ∀ m : Int, (l.foldl (fun m e => if m < e.2 then e.2 else m) m = m ∨ ∃ d ∈ l, l.foldl (fun m e => if m < e.2 then e.2 else m) m = d.2) ∧ m ≤ l.foldl (fun m e => if m < e.2 then e.2 else m) m ∧ ∀ d ∈ l, d.2 ≤ l.foldl (fun m e => if m < e.2 then e.2 else m) m := by
  induction l with
  | nil => intro m; exact ⟨.inl rfl, Int.le_refl _, by simp⟩
  | cons d l ih =>
    intro m
    rw [List.foldl_cons]
    obtain ⟨h1, h2, h3⟩ := ih (if m < d.2 then d.2 else m)
    have hm : m ≤ (if m < d.2 then d.2 else m) ∧ d.2 ≤ (if m < d.2 then d.2 else m) := by split <;> omega
    refine ⟨?_, by omega, fun e he => ?_⟩
    · rcases h1 with h1 | ⟨e, he, h1⟩
      · rw [h1]
        split
        · exact .inr ⟨d, by simp, rfl⟩
        · exact .inl rfl
      · exact .inr ⟨e, by simp [he], h1⟩
    · rcases List.mem_cons.1 he with rfl | he
      · omega
      · exact h3 e he

theorem greatest_mem {l : List (ByteArray × Int)} (h : l ≠ []) (z : Int) : ∃ d ∈ l, greatest l z = d.2 := by
  cases l with
  | nil => exact absurd rfl h
  | cons d l =>
    rcases (foldl_max_cases l d.2).1 with h | ⟨e, he, h⟩
    · exact ⟨d, by simp, h⟩
    · exact ⟨e, by simp [he], h⟩

theorem le_greatest {l : List (ByteArray × Int)} (z : Int) : ∀ d ∈ l, d.2 ≤ greatest l z := by
  cases l with
  | nil => simp
  | cons e l =>
    intro d hd
    have h := foldl_max_cases l e.2
    rcases List.mem_cons.1 hd with rfl | hd
    · exact h.2.1
    · exact h.2.2 d hd

theorem impl_greatest (l : List (ByteArray × Int)) (z : Int) (hl : l.length ≤ 1099511627776) : m_impl_greatest l z = some (greatest l z) := by
  have h := listW l (fun n i s => m_impl_greatest_L1 l n s i) (fun i s => if i = 0 then s = z else (l.drop i).foldl (fun m e => if m < e.2 then e.2 else m) s = greatest l z) (fun r => r = greatest l z) ?_ ?_ FU (by rw [FU_eq]; omega) z (by simp)
  · rw [m_impl_greatest, show m_impl_greatest_L1 l FU z 0 = _ from h.eq, bd_some]
  · intro n s hs
    rw [m_impl_greatest_L1, cond_neg (by omega)]
    refine Wp_some.2 ?_
    by_cases h : l.length = 0
    · rw [if_pos h] at hs
      have : l = [] := List.length_eq_zero_iff.1 h
      rw [this, hs]; rfl
    · rw [if_neg h, List.drop_length] at hs
      exact hs
  · intro n i s d hi hg hd hm hI ih
    rw [m_impl_greatest_L1, cond_pos (by omega), gd_pos (by omega), w64s (by omega), hg]
    by_cases h : i = 0
    · subst h
      rw [cond_pos (by omega)]
      refine ih _ ?_
      rw [if_neg (by omega)]
      rw [List.drop_zero] at hd
      conv => rhs; rw [hd]
      rfl
    · rw [if_neg h, hd, List.foldl_cons] at hI
      rw [cond_neg (by omega)]
      by_cases h2 : s < d.2
      · rw [cond_pos h2]
        refine ih _ ?_
        rw [if_neg (by omega)]
        rwa [if_pos h2] at hI
      · rw [cond_neg h2]
        refine ih _ ?_
        rw [if_neg (by omega)]
        rwa [if_neg h2] at hI

def ItemsIn (l : List (ByteArray × Bool × Int)) : Prop := l.length ≤ 1099511627776 ∧ (∀ d ∈ l, d.1.size ≤ 1099511627776) ∧ ∀ d ∈ l, I64 d.2.2

/-- the definitions of items, `next` telling the automatic values -/
def cbuild (next : List (ByteArray × Int) → Int) (items : List (ByteArray × Bool × Int)) (acc : List (ByteArray × Int)) : List (ByteArray × Int) :=
  items.foldl (fun acc x => acc ++ [(x.1, if x.2.1 then next acc else x.2.2)]) acc

theorem cbuild_length (next : List (ByteArray × Int) → Int) (items : List (ByteArray × Bool × Int)) : ∀ acc, (cbuild next items acc).length = acc.length + items.length := by
  induction items with
  | nil => intro acc; simp [cbuild]
  | cons x items ih => intro acc; rw [cbuild, List.foldl_cons, ← cbuild, ih]; simp; omega

theorem cbuild_append (next : List (ByteArray × Int) → Int) (items more : List (ByteArray × Bool × Int)) (acc) : cbuild next (items ++ more) acc = cbuild next more (cbuild next items acc) := by
  simp [cbuild, List.foldl_append]

theorem cbuild_prefix (next : List (ByteArray × Int) → Int) (items : List (ByteArray × Bool × Int)) : ∀ acc, ∃ r, cbuild next items acc = acc ++ r := by
  induction items with
  | nil => intro acc; exact ⟨[], by simp [cbuild]⟩
  | cons x items ih =>
    intro acc
    rw [cbuild, List.foldl_cons, ← cbuild]
    obtain ⟨r, hr⟩ := ih (acc ++ [(x.1, if x.2.1 then next acc else x.2.2)])
    exact ⟨_, by rw [hr, List.append_assoc]⟩

theorem cbuild_take (next : List (ByteArray × Int) → Int) (items : List (ByteArray × Bool × Int)) (k : Nat) (h : k ≤ items.length) : (cbuild next items []).take k = cbuild next (items.take k) [] := by
  conv => lhs; rw [← List.take_append_drop k items, cbuild_append]
  obtain ⟨r, hr⟩ := cbuild_prefix next (items.drop k) (cbuild next (items.take k) [])
  rw [hr, List.take_append_of_le_length (by rw [cbuild_length]; simp; omega), List.take_of_length_le (by rw [cbuild_length]; simp; omega)]

theorem cbuild_get (next : List (ByteArray × Int) → Int) (items : List (ByteArray × Bool × Int)) (k : Nat) (h : k < items.length) :
    (cbuild next items [])[k]'(by rw [cbuild_length]; simpa using h) = (items[k].1, if items[k].2.1 then next (cbuild next (items.take k) []) else items[k].2.2) := by
  have h1 := cbuild_take next items (k + 1) h
  have hl : k < (cbuild next items []).length := by rw [cbuild_length]; simpa using h
  rw [List.take_succ_eq_append_getElem h, cbuild_append, List.take_succ_eq_append_getElem hl, cbuild_take next items k (by omega)] at h1
  have e : cbuild next [items[k]] (cbuild next (items.take k) []) = cbuild next (items.take k) [] ++ [(items[k].1, if items[k].2.1 then next (cbuild next (items.take k) []) else items[k].2.2)] := rfl
  rw [e] at h1
  have := List.append_cancel_left h1
  simpa using this

theorem cbuild_I64 {next : List (ByteArray × Int) → Int} (hn : ∀ acc, (∀ d ∈ acc, I64 d.2) → I64 (next acc)) : ∀ (items : List (ByteArray × Bool × Int)) (acc : List (ByteArray × Int)), (∀ d ∈ items, I64 d.2.2) → (∀ d ∈ acc, I64 d.2) → ∀ d ∈ cbuild next items acc, I64 d.2
  | [], acc, _, h => h
  | x :: items, acc, hi, h => by
    rw [cbuild, List.foldl_cons, ← cbuild]
    refine cbuild_I64 hn items _ (fun d hd => hi d (by simp [hd])) fun d hd => ?_
    rcases List.mem_append.1 hd with hd | hd
    · exact h d hd
    · simp at hd; subst hd
      simp only
      split
      · exact hn acc h
      · exact hi x (by simp)

theorem cbuild_names (next : List (ByteArray × Int) → Int) : ∀ (items : List (ByteArray × Bool × Int)) (acc : List (ByteArray × Int)), (cbuild next items acc).map (·.1) = acc.map (·.1) ++ items.map (·.1)
  | [], acc => by simp [cbuild]
  | x :: items, acc => by
    rw [cbuild, List.foldl_cons, ← cbuild, cbuild_names next items]
    simp

theorem cbuild_in {next : List (ByteArray × Int) → Int} (hn : ∀ acc, (∀ d ∈ acc, I64 d.2) → I64 (next acc)) {items : List (ByteArray × Bool × Int)} (h : ItemsIn items) : DefsIn (cbuild next items []) := by
  refine ⟨by rw [cbuild_length]; have := h.1; simpa using this, fun d hd => ?_, cbuild_I64 hn items [] h.2.2 (by simp)⟩
  have h1 : d.1 ∈ (cbuild next items []).map (·.1) := List.mem_map.2 ⟨d, hd, rfl⟩
  rw [cbuild_names] at h1
  simp only [List.map_nil, List.nil_append, List.mem_map] at h1
  obtain ⟨x, hx, e⟩ := h1
  rw [← e]; exact h.2.1 x hx

/-- the least power of two above all -/
def inext (l : List (ByteArray × Int)) : Int := IntKind.wrap .i64 ((2 ^ blen (greatest l 0).toNat : Nat) : Int)

theorem inext_I64 (l : List (ByteArray × Int)) (_ : ∀ d ∈ l, I64 d.2) : I64 (inext l) := I64_wrap _

theorem greatest_I64 {l : List (ByteArray × Int)} (h : ∀ d ∈ l, I64 d.2) : I64 (greatest l 0) := by
  by_cases hl : l = []
  · subst hl; unfold I64; simp [greatest]
  · obtain ⟨d, hd, e⟩ := greatest_mem hl 0
    rw [e]; exact h d hd

theorem impl_BuildFlag_1 {l : List (ByteArray × Int)} (hl : l.length ≤ 1099511627776) (h : ∀ d ∈ l, I64 d.2) : m_impl_BuildFlag_1 l = some (inext l) := by
  have hg := greatest_I64 h
  have e : IntKind.wrap .u64 (if greatest l 0 > 0 then greatest l 0 else 0) = (((greatest l 0).toNat : Nat) : Int) := by
    have := hg.2
    rw [IntKind.wrap_u64]; split <;> omega
  have hlt : (greatest l 0).toNat < 9223372036854775808 := by have := hg.2; omega
  have hb : blen (greatest l 0).toNat ≤ 63 := blen_le (k := 63) hlt
  rw [m_impl_BuildFlag_1, impl_greatest l 0 hl, bd_some, e, impl_Len hlt, bd_some, gd_pos ⟨by omega, by simp [IntKind.bits]; omega⟩, inext, Int.toNat_natCast]
  congr 2
  simp

theorem impl_build {items : List (ByteArray × Bool × Int)} (h : ItemsIn items) : m_impl_build_BuildFlag_1 items = some (if items.any (fun x => x.2.1 && !decide (x.2.2 = 0)) then ([], false) else (cbuild inext items [], true)) := by
  have hx := foldE items (fun n s i => m_impl_build_BuildFlag_1_L1 items n s i) (fun x => x.2.1 && !decide (x.2.2 = 0)) () (fun acc x => acc ++ [(x.1, if x.2.1 then inext acc else x.2.2)]) (fun i s => s.length = i ∧ ∀ d ∈ s, I64 d.2) ?_ ?_ FU (by have := h.1; rw [FU_eq]; omega) [] ⟨rfl, by simp⟩
  · rw [m_impl_build_BuildFlag_1]
    rcases hx with ⟨h1, e⟩ | ⟨h1, -, e⟩
    · rw [e, h1]; rfl
    · rw [e, h1]; rfl
  · intro n s _; rw [m_impl_build_BuildFlag_1_L1, cond_neg (by omega)]
  · intro n i s hi hm hI
    have hl := h.1
    have hv := h.2.2 _ hm
    rw [m_impl_build_BuildFlag_1_L1, cond_pos (by omega), gd_pos (by omega), w64s (by omega)]
    have put : ∀ v, I64 v → (∀ d ∈ s ++ [((gt items (i : Int)).1, v)], I64 d.2) := fun v hv d hd => by
      rcases List.mem_append.1 hd with hd | hd
      · exact hI.2 d hd
      · simp at hd; subst hd; exact hv
    cases ha : (gt items (i : Int)).2.1 with
    | true =>
      rw [cond_true]
      by_cases h0 : (gt items (i : Int)).2.2 = 0
      · right
        rw [decide_eq_true h0, Bool.not_true, cond_false, impl_BuildFlag_1 (by have := hI.1; omega) hI.2, bd_some, gd_pos (by have := hI.1; simp; omega)]
        exact ⟨rfl, ⟨by simp [hI.1], put _ (inext_I64 _ hI.2)⟩, rfl⟩
      · left
        rw [decide_eq_false h0, Bool.not_false, cond_true]
        exact ⟨rfl, rfl⟩
    | false =>
      right
      rw [cond_false, gd_pos (by have := hI.1; simp; omega)]
      exact ⟨rfl, ⟨by simp [hI.1], put _ hv⟩, rfl⟩

theorem impl_clone_si {l : List (ByteArray × Int)} (hl : l.length ≤ 1099511627776) : m_impl_clone_si l = some l := by
  rw [m_impl_clone_si, m_slices_Clone_si, gd_pos hl, bd_some, m_slices_Clip_hsi, bd_some]

theorem impl_flagOf {l : List (ByteArray × Int)} (h : DefsIn l) (b : Int) (ok : Bool) : m_impl_flagOf l b ok = some (if ok = true ∧ FlagOk l b then (l, b, true) else ([], 0, false)) := by
  rw [m_impl_flagOf, impl_clone_si h.1, bd_some, impl_ValidFlag h, bd_some]
  cases ok with
  | false => simp
  | true =>
    by_cases hf : FlagOk l b
    · simp [hf]
    · simp [hf]

/-- what BuildFlag answers -/
def bflag (items : List (ByteArray × Bool × Int)) (b : Int) : (List (ByteArray × Int)) × Int × Bool :=
  if (items.any (fun x => x.2.1 && !decide (x.2.2 = 0)) = false) ∧ FlagOk (cbuild inext items []) b then (cbuild inext items [], b, true) else ([], 0, false)

theorem impl_BuildFlag {items : List (ByteArray × Bool × Int)} (h : ItemsIn items) (b : Int) : m_impl_BuildFlag items b = some (bflag items b) := by
  rw [m_impl_BuildFlag, bflag]
  by_cases hl : 12 < (items.length : Int)
  · rw [cond_pos hl, if_neg]
    intro hh
    have := hh.2.len
    rw [cbuild_length] at this
    simp at this; omega
  · rw [cond_neg hl, impl_build h, bd_some]
    cases ha : items.any (fun x => x.2.1 && !decide (x.2.2 = 0)) with
    | true =>
      simp only [if_true]
      rw [impl_flagOf ⟨by simp, by simp, by simp⟩, bd_some]
      simp
    | false =>
      simp only [Bool.false_eq_true, if_false]
      rw [impl_flagOf (cbuild_in inext_I64 h), bd_some]
      by_cases hf : FlagOk (cbuild inext items []) b
      · simp [hf]
      · simp [hf]

def ItemsOk (l : List (ByteArray × Bool × Int)) (lo hi : Int) : Prop := (∀ i, i < l.length → NameOk (gt l (i : Int)).1 ∧ ((gt l (i : Int)).2.1 = true → (gt l (i : Int)).2.2 = 0) ∧ (lo ≤ (gt l (i : Int)).2.2 ∧ (gt l (i : Int)).2.2 ≤ hi) ∧ ∀ k, k < i → ¬ (gt l (k : Int)).1 = (gt l (i : Int)).1) ∧ l.length ≤ 12

theorem validItems_L2 (l : List (ByteArray × Bool × Int)) (lo hi : Int) (i : Nat) (hi' : i < l.length) (hl : l.length ≤ 1099511627776) :
    ((∃ k, k < i ∧ (gt l (k : Int)).1 = (gt l (i : Int)).1) ∧ m_spec_validItems_L2 l lo hi (i : Int) FU 0 = some (.inl ())) ∨ ((∀ k, k < i → ¬ (gt l (k : Int)).1 = (gt l (i : Int)).1) ∧ m_spec_validItems_L2 l lo hi (i : Int) FU 0 = some (.inr ())) := by
  refine anyN i (m_spec_validItems_L2 l lo hi (i : Int)) _ _ _ ?_ ?_ FU (by rw [FU_eq]; omega)
  · intro n; rw [m_spec_validItems_L2, cond_neg (by omega)]
  · intro n k hk
    rw [m_spec_validItems_L2, cond_pos (by omega), gd_pos (by omega), gd_pos (by omega), w64s (by omega)]
    by_cases h : (gt l (k : Int)).1 = (gt l (i : Int)).1
    · rw [cond_pos h]; exact .inl ⟨h, rfl⟩
    · rw [cond_neg h]; exact .inr ⟨h, rfl⟩

theorem validItems_L3_eq (l : List (ByteArray × Bool × Int)) (lo hi v : Int) : ∀ (n : Nat) (k : Int), m_spec_validItems_L3 l lo hi v n k = m_spec_validItems_L2 l lo hi v n k
  | 0, k => rfl
  | n + 1, k => by rw [m_spec_validItems_L3, m_spec_validItems_L2, validItems_L3_eq l lo hi v n]

open Classical in
theorem spec_validItems {l : List (ByteArray × Bool × Int)} (h : ItemsIn l) (lo hi : Int) : m_spec_validItems l lo hi = some (decide (ItemsOk l lo hi)) := by
  obtain ⟨hl, hs, -⟩ := h
  have h := anyI l (m_spec_validItems_L1 l lo hi) (fun i => ¬ (NameOk (gt l (i : Int)).1 ∧ ((gt l (i : Int)).2.1 = true → (gt l (i : Int)).2.2 = 0) ∧ (lo ≤ (gt l (i : Int)).2.2 ∧ (gt l (i : Int)).2.2 ≤ hi) ∧ ∀ k, k < i → ¬ (gt l (k : Int)).1 = (gt l (i : Int)).1)) (.inl ()) (.inr ()) ?_ ?_ FU (by rw [FU_eq]; omega)
  · rw [m_spec_validItems]
    rcases h with ⟨⟨i, h1, h2⟩, e⟩ | ⟨h1, e⟩
    · rw [e, bd_some, sm_inl]
      have : ¬ ItemsOk l lo hi := fun h => h2 (h.1 i h1)
      rw [decide_eq_false this]
    · rw [e, bd_some, sm_inr]
      have : ItemsOk l lo hi ↔ (l.length : Int) ≤ 12 := ⟨fun h => by have := h.2; omega, fun h => ⟨fun i hi => Decidable.not_not.1 (h1 i hi), by omega⟩⟩
      congr 1
      by_cases hc : (l.length : Int) ≤ 12
      · rw [decide_eq_true hc, decide_eq_true (this.2 hc)]
      · rw [decide_eq_false hc, decide_eq_false (fun h => hc (this.1 h))]
  · intro n; rw [m_spec_validItems_L1, cond_neg (by omega)]
  · intro n i hi'
    have hm : gt l (i : Int) ∈ l := gt_mem (by omega)
    rw [m_spec_validItems_L1, cond_pos (by omega), gd_pos (by omega), spec_validName (hs _ hm), bd_some, spec_inRange, bd_some, bd_some, w64s (by omega),
      show m_spec_validItems_L3 l lo hi (i : Int) FU 0 = _ from validItems_L3_eq l lo hi (i : Int) FU 0]
    by_cases h1 : NameOk (gt l (i : Int)).1
    · rw [decide_eq_true h1, Bool.not_true, cond_false]
      have rest : (¬ ((lo ≤ (gt l (i : Int)).2.2 ∧ (gt l (i : Int)).2.2 ≤ hi) ∧ ∀ k, k < i → ¬ (gt l (k : Int)).1 = (gt l (i : Int)).1) ∧
          (bif (!decide (lo ≤ (gt l (i : Int)).2.2 ∧ (gt l (i : Int)).2.2 ≤ hi)) then some (Sum.inl ()) else bd (m_spec_validItems_L2 l lo hi (i : Int) FU 0) fun x8 => sm x8 (fun x9 => some (Sum.inl ())) (fun x10 => m_spec_validItems_L1 l lo hi n ((i + 1 : Nat) : Int))) = some (.inl ())) ∨
          (((lo ≤ (gt l (i : Int)).2.2 ∧ (gt l (i : Int)).2.2 ≤ hi) ∧ ∀ k, k < i → ¬ (gt l (k : Int)).1 = (gt l (i : Int)).1) ∧
          (bif (!decide (lo ≤ (gt l (i : Int)).2.2 ∧ (gt l (i : Int)).2.2 ≤ hi)) then some (Sum.inl ()) else bd (m_spec_validItems_L2 l lo hi (i : Int) FU 0) fun x8 => sm x8 (fun x9 => some (Sum.inl ())) (fun x10 => m_spec_validItems_L1 l lo hi n ((i + 1 : Nat) : Int))) = m_spec_validItems_L1 l lo hi n ((i + 1 : Nat) : Int)) := by
        by_cases h3 : lo ≤ (gt l (i : Int)).2.2 ∧ (gt l (i : Int)).2.2 ≤ hi
        · rw [decide_eq_true h3, Bool.not_true, cond_false]
          rcases validItems_L2 l lo hi i hi' hl with ⟨⟨k, g1, g2⟩, e⟩ | ⟨g1, e⟩
          · rw [e]; exact .inl ⟨fun hh => hh.2 k g1 g2, rfl⟩
          · rw [e]; exact .inr ⟨⟨h3, g1⟩, rfl⟩
        · rw [decide_eq_false h3, Bool.not_false, cond_true]; exact .inl ⟨fun hh => h3 hh.1, rfl⟩
      cases h2 : (gt l (i : Int)).2.1 with
      | true =>
        rw [cond_true]
        by_cases h4 : (gt l (i : Int)).2.2 = 0
        · rw [decide_eq_true h4, Bool.not_true, cond_false]
          rcases rest with ⟨g1, e⟩ | ⟨g1, e⟩
          · exact .inl ⟨fun hh => g1 hh.2.2, e⟩
          · exact .inr ⟨fun hh => hh ⟨h1, fun _ => h4, g1⟩, e⟩
        · rw [decide_eq_false h4, Bool.not_false, cond_true]
          exact .inl ⟨fun hh => h4 (hh.2.1 rfl), rfl⟩
      | false =>
        rw [cond_false]
        rcases rest with ⟨g1, e⟩ | ⟨g1, e⟩
        · exact .inl ⟨fun hh => g1 hh.2.2, e⟩
        · exact .inr ⟨fun hh => hh ⟨h1, fun hh => (by cases hh), g1⟩, e⟩
    · rw [decide_eq_false h1, Bool.not_false, cond_true]; exact .inl ⟨fun hh => h1 hh.1, rfl⟩

theorem blen_mono {a b : Nat} (h : a ≤ b) : blen a ≤ blen b := blen_le (Nat.lt_of_le_of_lt h (lt_two_blen b))

theorem pow_le_iff_lt_blen {k v : Nat} : 2 ^ k ≤ v ↔ k < blen v := by
  constructor
  · intro h
    have h1 := Nat.lt_of_le_of_lt h (lt_two_blen v)
    exact (Nat.pow_lt_pow_iff_right (by omega : 1 < 2)).1 h1
  · intro h
    have h0 : v ≠ 0 := by rintro rfl; simp [blen] at h
    have := two_blen_le h0
    exact Nat.le_trans (Nat.pow_le_pow_right (by omega) (by omega)) this

theorem pow_lt_63 {k : Nat} (h : k ≤ 61) : (2 ^ k : Nat) ≤ 2305843009213693952 := by
  calc 2 ^ k ≤ 2 ^ 61 := Nat.pow_le_pow_right (by omega) h
    _ = 2305843009213693952 := rfl

theorem nextBit_L2 (l : List (ByteArray × Int)) (i : Nat) (hi : i < l.length) (hv : (gt l (i : Int)).2 < 1099511627776) (k : Nat) (hk : k ≤ 40) :
    m_spec_nextBit_L2 l (i : Int) FU ((2 ^ k : Nat) : Int) = some ((2 ^ (max k (blen (gt l (i : Int)).2.toNat)) : Nat) : Int) := by
  have hb : blen (gt l (i : Int)).2.toNat ≤ 40 := blen_le (by omega)
  refine (loopW (fun n s => m_spec_nextBit_L2 l (i : Int) n s) (fun s => ∃ j : Nat, s = ((2 ^ j : Nat) : Int) ∧ j ≤ 40 ∧ max j (blen (gt l (i : Int)).2.toNat) = max k (blen (gt l (i : Int)).2.toNat)) (fun s => 2305843009213693952 - s.toNat) (fun r => r = ((2 ^ (max k (blen (gt l (i : Int)).2.toNat)) : Nat) : Int)) ?_ FU _ ⟨k, rfl, hk, rfl⟩ (by rw [FU_eq]; omega)).eq
  rintro n _ ⟨j, rfl, hj, hm⟩ ih
  have hp := pow_lt_63 (k := j + 1) (by omega)
  have hp0 : 0 < (2 ^ j : Nat) := Nat.pos_of_ne_zero (by simp)
  have ps : (2 ^ (j + 1) : Nat) = 2 ^ j * 2 := Nat.pow_succ ..
  rw [m_spec_nextBit_L2, gd_pos (by omega)]
  have hiff := pow_le_iff_lt_blen (k := j) (v := (gt l (i : Int)).2.toNat)
  by_cases h : ((2 ^ j : Nat) : Int) ≤ (gt l (i : Int)).2
  · rw [cond_pos h, w64 (by omega) (by omega), show ((2 ^ j : Nat) : Int) * 2 = ((2 ^ (j + 1) : Nat) : Int) by omega]
    have := hiff.1 (by omega)
    exact ih _ ⟨j + 1, rfl, by omega, by omega⟩ (by simp only [Int.toNat_natCast]; omega)
  · rw [cond_neg h]
    refine Wp_some.2 ?_
    have : ¬ j < blen (gt l (i : Int)).2.toNat := fun hh => by have := hiff.2 hh; omega
    rw [show j = max k (blen (gt l (i : Int)).2.toNat) by omega]

theorem foldl_max_blen (l : List (ByteArray × Int)) : ∀ k, (l.foldl (fun k d => max k (blen d.2.toNat)) k = k ∨ ∃ d ∈ l, l.foldl (fun k d => max k (blen d.2.toNat)) k = blen d.2.toNat) ∧ k ≤ l.foldl (fun k d => max k (blen d.2.toNat)) k ∧ ∀ d ∈ l, blen d.2.toNat ≤ l.foldl (fun k d => max k (blen d.2.toNat)) k := by
  induction l with
  | nil => intro k; exact ⟨.inl rfl, Nat.le_refl _, by simp⟩
  | cons d l ih =>
    intro k
    rw [List.foldl_cons]
    obtain ⟨h1, h2, h3⟩ := ih (max k (blen d.2.toNat))
    refine ⟨?_, by omega, fun e he => ?_⟩
    · rcases h1 with h1 | ⟨e, he, h1⟩
      · rw [h1]
        by_cases hh : blen d.2.toNat ≤ k
        · exact .inl (by omega)
        · exact .inr ⟨d, by simp, by omega⟩
      · exact .inr ⟨e, by simp [he], h1⟩
    · rcases List.mem_cons.1 he with rfl | he
      · omega
      · exact h3 e he

theorem foldl_blen_greatest (l : List (ByteArray × Int)) : l.foldl (fun k d => max k (blen d.2.toNat)) 0 = blen (greatest l 0).toNat := by
  by_cases hl : l = []
  · subst hl; rfl
  · obtain ⟨d, hd, e⟩ := greatest_mem hl 0
    obtain ⟨h1, h2, h3⟩ := foldl_max_blen l 0
    have h4 := h3 d hd
    rw [e]
    rcases h1 with h1 | ⟨f, hf, h1⟩
    · rw [h1] at h4 ⊢; omega
    · have h5 := le_greatest (l := l) 0 f hf
      rw [e] at h5
      have := blen_mono (show f.2.toNat ≤ d.2.toNat by omega)
      omega

theorem spec_nextBit {l : List (ByteArray × Int)} (hl : l.length ≤ 1099511627776) (hv : ∀ d ∈ l, d.2 < 1099511627776) : m_spec_nextBit l = some ((2 ^ blen (greatest l 0).toNat : Nat) : Int) := by
  have h := listW l (fun n i s => m_spec_nextBit_L1 l n s i) (fun i s => ∃ k : Nat, s = ((2 ^ k : Nat) : Int) ∧ k ≤ 40 ∧ (l.drop i).foldl (fun k d => max k (blen d.2.toNat)) k = l.foldl (fun k d => max k (blen d.2.toNat)) 0)
    (fun r => r = ((2 ^ l.foldl (fun k d => max k (blen d.2.toNat)) 0 : Nat) : Int)) ?_ ?_ FU (by rw [FU_eq]; omega) 1 ⟨0, rfl, by omega, by simp⟩
  · rw [m_spec_nextBit, show m_spec_nextBit_L1 l FU 1 0 = _ from h.eq, bd_some, foldl_blen_greatest]
  · rintro n _ ⟨k, rfl, hk, hf⟩
    rw [m_spec_nextBit_L1, cond_neg (by omega)]
    rw [List.drop_length] at hf
    exact Wp_some.2 (by rw [← hf]; rfl)
  · rintro n i _ d hi hg hd hm ⟨k, rfl, hk, hf⟩ ih
    have hv' := hv _ hm
    have hb : blen d.2.toNat ≤ 40 := blen_le (by omega)
    rw [m_spec_nextBit_L1, cond_pos (by omega), nextBit_L2 l i hi (by rw [hg]; exact hv') k hk, bd_some, w64s (by omega), hg]
    refine ih _ ⟨max k (blen d.2.toNat), rfl, by omega, ?_⟩
    rw [hd, List.foldl_cons] at hf
    exact hf

theorem ItemsOk.of {items : List (ByteArray × Bool × Int)} {b : Int} (h1 : items.any (fun x => x.2.1 && !decide (x.2.2 = 0)) = false) (h2 : FlagOk (cbuild inext items []) b) : ItemsOk items 0 4095 := by
  have hlen : items.length ≤ 12 := by have := h2.len; rw [cbuild_length] at this; simpa using this
  refine ⟨fun i hi => ?_, hlen⟩
  have hd := h2.1.1 i (by rw [cbuild_length]; simpa using hi)
  have hi2 : i < (cbuild inext items []).length := by rw [cbuild_length]; simpa using hi
  rw [gt_nat hi2, cbuild_get inext items i hi] at hd
  rw [gt_nat hi]
  have hm := List.getElem_mem hi
  rw [List.any_eq_false] at h1
  have h3 := h1 _ hm
  refine ⟨hd.1, fun ha => ?_, ?_, fun k hk e => ?_⟩
  · rw [ha] at h3; simpa using h3
  · cases ha : items[i].2.1 with
    | true => rw [ha] at h3; simp at h3; omega
    | false => have := hd.2.1; rw [ha] at this; simpa using this
  · have hnd := h2.1.out.2.1
    rw [cbuild_names] at hnd
    simp only [List.map_nil, List.nil_append] at hnd
    rw [List.Nodup, List.pairwise_iff_getElem] at hnd
    have := hnd k i (by simp; omega) (by simpa using hi) hk
    simp only [List.getElem_map] at this
    rw [gt_nat (by omega)] at e
    exact this e

theorem spec_BuildFlag {items : List (ByteArray × Bool × Int)} (h : ItemsIn items) (b : Int) : m_spec_BuildFlag items b = some (bflag items b) := by
  classical
  rw [m_spec_BuildFlag, spec_validItems h, bd_some, bflag]
  by_cases ho : ItemsOk items 0 4095
  · rw [decide_eq_true ho, Bool.not_true, cond_false]
    have hx := foldW items (m_spec_BuildFlag_L1 items b) (fun acc x => acc ++ [(x.1, if x.2.1 then inext acc else x.2.2)]) (fun i s => s.length = i ∧ ∀ d ∈ s, 0 ≤ d.2 ∧ d.2 < ((2 ^ (13 + i) : Nat) : Int)) ?_ ?_ FU (by have := h.1; rw [FU_eq]; omega) [] ⟨rfl, by simp⟩
    · rw [show m_spec_BuildFlag_L1 items b FU [] 0 = _ from hx.1, bd_some, ← cbuild, spec_validFlag (cbuild_in inext_I64 h), bd_some]
      have hnb : items.any (fun x => x.2.1 && !decide (x.2.2 = 0)) = false := by
        rw [List.any_eq_false]
        intro x hx
        obtain ⟨i, hi, rfl⟩ := List.mem_iff_getElem.1 hx
        have := (ho.1 i hi).2.1
        rw [gt_nat hi] at this
        cases ha : items[i].2.1 with
        | true => simp [this ha]
        | false => simp
      by_cases hf : FlagOk (cbuild inext items []) b
      · rw [decide_eq_true hf, Bool.not_true, cond_false, if_pos ⟨hnb, hf⟩]
      · rw [decide_eq_false hf, Bool.not_false, cond_true, if_neg (fun h => hf h.2)]
    · intro n s; rw [m_spec_BuildFlag_L1, cond_neg (by omega)]
    · intro n i s hi hm hI
      have hl := ho.2
      have hpw : ∀ j, j ≤ 26 → (2 ^ j : Nat) ≤ 67108864 := fun j hj => by
        calc 2 ^ j ≤ 2 ^ 26 := Nat.pow_le_pow_right (by omega) hj
          _ = 67108864 := rfl
      have hpm : (2 ^ (13 + i) : Nat) ≤ 2 ^ (13 + (i + 1)) := Nat.pow_le_pow_right (by omega) (by omega)
      have hp1 := hpw (13 + i) (by omega)
      have hp2 := hpw (13 + (i + 1)) (by omega)
      have hlow : (8192 : Nat) ≤ 2 ^ (13 + i) := by
        calc (8192 : Nat) = 2 ^ 13 := rfl
          _ ≤ 2 ^ (13 + i) := Nat.pow_le_pow_right (by omega) (by omega)
      have put : ∀ v, 0 ≤ v ∧ v < ((2 ^ (13 + (i + 1)) : Nat) : Int) → ∀ d ∈ s ++ [((gt items (i : Int)).1, v)], 0 ≤ d.2 ∧ d.2 < ((2 ^ (13 + (i + 1)) : Nat) : Int) := fun v hv d hd => by
        rcases List.mem_append.1 hd with hd | hd
        · have := hI.2 d hd; omega
        · simp at hd; subst hd; exact hv
      rw [m_spec_BuildFlag_L1, cond_pos (by omega), gd_pos (by omega), w64s (by omega)]
      have hit := ho.1 i hi
      cases ha : (gt items (i : Int)).2.1 with
      | true =>
        have hg : (greatest s 0).toNat < 2 ^ (13 + i) := by
          by_cases hs : s = []
          · subst hs; simp [greatest]; omega
          · obtain ⟨d, hd, e⟩ := greatest_mem hs 0
            have := hI.2 d hd
            rw [e]; omega
        have hbl := blen_le hg
        have hpb : (2 ^ blen (greatest s 0).toNat : Nat) ≤ 2 ^ (13 + i) := Nat.pow_le_pow_right (by omega) hbl
        have hlt : (2 ^ (13 + i) : Nat) < 2 ^ (13 + (i + 1)) := Nat.pow_lt_pow_right (by omega) (by omega)
        have en := spec_nextBit (l := s) (by have := hI.1; omega) (fun d hd => by have := hI.2 d hd; omega)
        have e2 : inext s = IntKind.wrap .i64 ((2 ^ blen (greatest s 0).toNat : Nat) : Int) := rfl
        generalize 2 ^ blen (greatest s 0).toNat = q at *
        rw [w64 (by omega) (by omega)] at e2
        rw [cond_true, en, bd_some, gd_pos (by have := hI.1; simp; omega), ← e2]
        exact ⟨⟨by simp [hI.1], put _ ⟨by rw [e2]; omega, by rw [e2]; omega⟩⟩, rfl⟩
      | false =>
        rw [cond_false, gd_pos (by have := hI.1; simp; omega)]
        exact ⟨⟨by simp [hI.1], put (gt items (i : Int)).2.2 ⟨hit.2.2.1.1, by have := hit.2.2.1.2; omega⟩⟩, rfl⟩
  · rw [decide_eq_false ho, Bool.not_false, cond_true, if_neg]
    rintro ⟨h1, h2⟩
    exact ho (ItemsOk.of h1 h2)

theorem markW {α : Type} [Inhabited α] (n k c : Nat) (f : Nat → α) (L : Nat → Int → Int → List α → Option (Int × List α))
    (hend : ∀ m s, s.length = n → L (m + 1) ((k + c * n : Nat) : Int) (n : Int) s = some (((k + c * n : Nat) : Int), s))
    (hstep : ∀ m i s, i < n → s.length = n → L (m + 1) ((k + c * i : Nat) : Int) (i : Int) s = L m ((k + c * (i + 1) : Nat) : Int) ((i + 1 : Nat) : Int) (s.set i (f i)))
    (N : Nat) (hN : n < N) (s : List α) (hs : s.length = n) : L N (k : Int) 0 s = some (((k + c * n : Nat) : Int), (List.range n).map f) := by
  have h := listW (List.range n) (fun m i (t : List α) => L m ((k + c * i.toNat : Nat) : Int) i t) (fun i t => t.length = n ∧ t.take i = (List.range i).map f) (fun r => r = (((k + c * n : Nat) : Int), (List.range n).map f)) ?_ ?_ N (by simpa using hN) s ⟨hs, by simp⟩
  · simpa using h.eq
  · intro m t ht
    rw [List.length_range] at ht ⊢
    simp only [Int.toNat_natCast]
    rw [hend m t ht.1]
    have := ht.2
    rw [← ht.1, List.take_length, ht.1] at this
    exact Wp_some.2 (by rw [this])
  · intro m i t d hi hg hd hm ht ih
    rw [List.length_range] at hi
    simp only [Int.toNat_natCast]
    rw [hstep m i t hi ht.1]
    have := ih (t.set i (f i)) ⟨by rw [List.length_set]; exact ht.1, ?_⟩
    · simpa only [Int.toNat_natCast] using this
    · obtain ⟨ht1, ht2⟩ := ht
      have hti : i < t.length := by omega
      rw [List.take_set, List.take_succ_eq_append_getElem hti, ht2, List.set_append]
      have e : ((List.range i).map f).length = i := by simp
      rw [if_neg (by omega), e, Nat.sub_self, List.set_cons_zero, List.range_succ, List.map_append]
      rfl

theorem gt_set_eq {α : Type} [Inhabited α] (s : List α) (i : Nat) (x : α) (h : i < s.length) : gt (s.set i x) (i : Int) = x := by
  rw [gt_nat (by simpa using h)]; simp

theorem gt_map_range {α : Type} [Inhabited α] (n : Nat) (f : Nat → α) (i : Nat) (h : i < n) : gt ((List.range n).map f) (i : Int) = f i := by
  rw [gt_nat (by simpa using h)]; simp

theorem bstr_one (x : Int) : (bstr [x]).size = 1 := rfl

theorem markText_loop (k : Nat) (hk : k ≤ 1099511627776) : ∃ s, m_laws_markText_L1 FU (k : Int) ByteArray.empty = some s ∧ s.size ≤ k := by
  have h := loopW (fun n (s : Int × ByteArray) => m_laws_markText_L1 n s.1 s.2) (fun s => ∃ v : Nat, s.1 = (v : Int) ∧ s.2.size + v ≤ k) (fun s => s.1.toNat) (fun r => r.size ≤ k) ?_ FU ((k : Int), ByteArray.empty) ⟨k, rfl, by simp⟩ (by rw [FU_eq]; simp only [Int.toNat_natCast]; omega)
  · exact h
  · rintro n ⟨a, s⟩ ⟨v, hv, hs⟩ ih
    simp only at hv hs
    subst hv
    show Wp (m_laws_markText_L1 (n + 1) (v : Int) s) _
    rw [m_laws_markText_L1]
    by_cases h : v = 0
    · rw [cond_neg (by omega)]; exact Wp_some.2 (by omega)
    · rw [cond_pos (by omega), gd_pos (by omega), nm_eq, gd_pos (by rw [bstr_one]; omega), show (10 : Int) = ((10 : Nat) : Int) from rfl, tdiv_nat, gd_pos ⟨by omega, w64 (by omega) (by omega)⟩]
      refine ih (_, _) ⟨v / 10, rfl, ?_⟩ (by simp only [Int.toNat_natCast]; omega)
      simp only [ByteArray.size_append, bstr_one]; omega

/-- the mark of a number -/
def mtext (k : Int) : ByteArray := (m_laws_markText k).getD ByteArray.empty

theorem laws_markText {k : Int} (h1 : 1 ≤ k) (h2 : k ≤ 1099511627776) : m_laws_markText k = some (mtext k) := by
  obtain ⟨v, rfl⟩ := Int.eq_ofNat_of_zero_le (show 0 ≤ k by omega)
  obtain ⟨s, e, hs⟩ := markText_loop v (by omega)
  have : ∃ t, m_laws_markText (v : Int) = some t := by
    rw [m_laws_markText, cond_neg (by omega), e, bd_some, gd_pos (by simp only [ByteArray.size]; simp; have : s.data.size = s.size := rfl; omega)]
    exact ⟨_, rfl⟩
  obtain ⟨t, ht⟩ := this
  rw [mtext, ht]; rfl

def markDef (k i : Nat) : ByteArray × Int := (mtext ((k + 2 * i : Nat) : Int), ((k + 2 * i + 1 : Nat) : Int))

theorem laws_markDefS {k : Nat} {l : List (ByteArray × Int)} (hk : 1 ≤ k) (hl : k + 2 * l.length ≤ 1000000000) : m_laws_markDefS_h (k : Int) l = some (((k + 2 * l.length : Nat) : Int), (List.range l.length).map (markDef k)) := by
  rw [m_laws_markDefS_h, markW l.length k 2 (markDef k) m_laws_markDefS_h_L1 ?_ ?_ FU (by rw [FU_eq]; omega) l rfl, bd_some]
  · intro m s hs; rw [m_laws_markDefS_h_L1, cond_neg (by omega)]
  · intro m i s hi hs
    rw [m_laws_markDefS_h_L1, cond_pos (by omega), laws_markText (by omega) (by omega), bd_some, gd_pos (by omega), w64s (i := k + 2 * i) (by omega), w64s (i := k + 2 * i + 1) (by omega), w64s (i := i) (by omega),
      Nat.zero_add, Int.toNat_natCast, gt_set_eq _ _ _ (by omega), List.set_set]
    congr 1 <;> first | (simp only [markDef]; congr 2; try omega) | omega

theorem laws_heldDefS {k n : Nat} (hk : 1 ≤ k) (hl : k + 2 * n ≤ 1000000000) : m_laws_heldDefS ((List.range n).map (markDef k)) (k : Int) = some ((k + 2 * n : Nat) : Int) := by
  have h := noneN n (fun m i => m_laws_heldDefS_L1 ((List.range n).map (markDef k)) m ((k + 2 * i.toNat : Nat) : Int) i) (.inr ((k + 2 * n : Nat) : Int)) ?_ ?_ FU (by rw [FU_eq]; omega)
  · rw [m_laws_heldDefS, show m_laws_heldDefS_L1 ((List.range n).map (markDef k)) FU (k : Int) 0 = some (.inr ((k + 2 * n : Nat) : Int)) from h, bd_some, sm_inr]
  · intro m
    simp only [Int.toNat_natCast]
    rw [m_laws_heldDefS_L1, List.length_map, List.length_range, cond_neg (by omega)]
  · intro m i hi
    simp only [Int.toNat_natCast]
    rw [m_laws_heldDefS_L1, List.length_map, List.length_range, cond_pos (by omega), gd_pos (by omega), laws_markText (by omega) (by omega), bd_some, gt_map_range _ _ _ hi, w64s (i := k + 2 * i) (by omega), w64s (i := k + 2 * i + 1) (by omega), w64s (i := i) (by omega)]
    simp only [markDef, decide_true, Bool.not_true, cond_false]
    congr 1

theorem laws_eqDef (a : ByteArray) (b : Int) (c : ByteArray) (d : Int) : m_laws_eqDef a b c d = some (decide ((a, b) = (c, d))) := by
  rw [m_laws_eqDef]
  by_cases h1 : a = c <;> by_cases h2 : b = d <;> simp [h1, h2]

theorem laws_eqDefS {a b : List (ByteArray × Int)} (ha : a.length ≤ 1099511627776) : m_laws_eqDefS a b = some (decide (a = b)) := by
  rw [m_laws_eqDefS]
  by_cases hl : a.length = b.length
  · rw [decide_eq_true (by omega), Bool.not_true, cond_false, eqW a b (m_laws_eqDefS_L1 a b) hl ?_ ?_ FU (by rw [FU_eq]; omega), bd_some]
    · by_cases h : a = b
      · rw [if_pos h, decide_eq_true h]; rfl
      · rw [if_neg h, decide_eq_false h]; rfl
    · intro n; rw [m_laws_eqDefS_L1, cond_neg (by omega)]
    · intro n i hi
      rw [m_laws_eqDefS_L1, cond_pos (by omega), gd_pos (by omega), gd_pos (by omega), laws_eqDef, bd_some, w64s (by omega)]
      by_cases h : gt a (i : Int) = gt b (i : Int) <;> simp [h]
  · rw [decide_eq_false (by omega), Bool.not_false, cond_true, decide_eq_false]
    intro h; exact hl (by rw [h])

theorem laws_eqFlag {a b : List (ByteArray × Int)} (ha : a.length ≤ 1099511627776) (x y : Int) : m_laws_eqFlag a x b y = some (decide (a = b ∧ x = y)) := by
  rw [m_laws_eqFlag, laws_eqDefS ha, bd_some]
  by_cases h1 : a = b <;> by_cases h2 : x = y <;> simp [h1, h2]

theorem laws_heldFlag {k n : Nat} (hk : 1 ≤ k) (hl : k + 2 * n ≤ 1000000000) (b : Int) : m_laws_heldFlag ((List.range n).map (markDef k)) b (k : Int) = some ((k + 2 * n : Nat) : Int) := by
  rw [m_laws_heldFlag, laws_heldDefS hk hl, bd_some, cond_neg (by omega)]

theorem laws_markFlag {k : Nat} {l : List (ByteArray × Int)} (b : Int) (hk : 1 ≤ k) (hl : k + 2 * l.length ≤ 1000000000) : m_laws_markFlag_h b (k : Int) l = some (((k + 2 * l.length : Nat) : Int), (List.range l.length).map (markDef k)) := by
  rw [m_laws_markFlag_h, laws_markDefS hk hl, bd_some, gd_pos (by simp)]

theorem laws_markItemS {k : Nat} {l : List (ByteArray × Bool × Int)} (hk : 1 ≤ k) (hl : k + 3 * l.length ≤ 1000000000) : ∃ r, m_laws_markItemS_h (k : Int) l = some (((k + 3 * l.length : Nat) : Int), r) ∧ r.length = l.length := by
  have h := loopW (fun n (s : Int × Int × List (ByteArray × Bool × Int)) => m_laws_markItemS_h_L1 n s.1 s.2.1 s.2.2) (fun s => ∃ i : Nat, i ≤ l.length ∧ s.1 = ((k + 3 * i : Nat) : Int) ∧ s.2.1 = (i : Int) ∧ s.2.2.length = l.length) (fun s => l.length - s.2.1.toNat)
    (fun r => r.1 = ((k + 3 * l.length : Nat) : Int) ∧ r.2.length = l.length) ?_ FU ((k : Int), 0, l) ⟨0, by omega, rfl, rfl, rfl⟩ (by rw [FU_eq]; omega)
  · obtain ⟨r, e, h1, h2⟩ := h
    refine ⟨r.2, ?_, h2⟩
    rw [m_laws_markItemS_h, show m_laws_markItemS_h_L1 FU (k : Int) 0 l = some r from e, bd_some, h1]
  · rintro n ⟨a, b, s⟩ ⟨i, hi, h1, h2, h3⟩ ih
    simp only at h1 h2 h3
    subst h1; subst h2
    show Wp (m_laws_markItemS_h_L1 (n + 1) ((k + 3 * i : Nat) : Int) (i : Int) s) _
    rw [m_laws_markItemS_h_L1]
    by_cases h : i < l.length
    · rw [cond_pos (by omega), laws_markText (by omega) (by omega), bd_some, gd_pos (by omega), gd_pos (by omega), nm_eq, w64s (i := k + 3 * i) (by omega), w64s (i := k + 3 * i + 1) (by omega), w64s (i := k + 3 * i + 1 + 1) (by omega), w64s (i := i) (by omega)]
      exact ih (_, _, _) ⟨i + 1, h, rfl, rfl, by simp only [List.length_set]; exact h3⟩ (by simp only [Int.toNat_natCast]; omega)
    · rw [cond_neg (by omega)]
      have : i = l.length := by omega
      subst this
      exact Wp_some.2 ⟨rfl, h3⟩

theorem laws_eqItem (a : ByteArray) (x : Bool) (b : Int) (c : ByteArray) (y : Bool) (d : Int) : m_laws_eqItem a x b c y d = some (decide ((a, x, b) = (c, y, d))) := by
  rw [m_laws_eqItem]
  by_cases h1 : a = c <;> by_cases h2 : b = d <;> cases x <;> cases y <;> simp [h1, h2]

theorem laws_eqItemS {a b : List (ByteArray × Bool × Int)} (ha : a.length ≤ 1099511627776) : m_laws_eqItemS a b = some (decide (a = b)) := by
  rw [m_laws_eqItemS]
  by_cases hl : a.length = b.length
  · rw [decide_eq_true (by omega), Bool.not_true, cond_false, eqW a b (m_laws_eqItemS_L1 a b) hl ?_ ?_ FU (by rw [FU_eq]; omega), bd_some]
    · by_cases h : a = b
      · rw [if_pos h, decide_eq_true h]; rfl
      · rw [if_neg h, decide_eq_false h]; rfl
    · intro n; rw [m_laws_eqItemS_L1, cond_neg (by omega)]
    · intro n i hi
      rw [m_laws_eqItemS_L1, cond_pos (by omega), gd_pos (by omega), gd_pos (by omega), laws_eqItem, bd_some, w64s (by omega)]
      by_cases h : gt a (i : Int) = gt b (i : Int) <;> simp [h]
  · rw [decide_eq_false (by omega), Bool.not_false, cond_true, decide_eq_false]
    intro h; exact hl (by rw [h])

theorem laws_toItemS {l : List (ByteArray × Bool × Int)} (hl : l.length ≤ 1000000000) : m_laws_toItemS l = some l := by
  rw [m_laws_toItemS, gd_pos (by omega), copyW l (fun n s i => m_laws_toItemS_L1 l n s i) ?_ ?_ FU (by rw [FU_eq]; omega) _ (by simp), bd_some]
  · intro n s; rw [m_laws_toItemS_L1, cond_neg (by omega)]
  · intro n i s hi hs
    rw [m_laws_toItemS_L1, cond_pos (by omega), gd_pos (by omega), m_laws_toItem, bd_some, gd_pos (by omega), w64s (by omega), Int.toNat_natCast]

theorem laws_szItemS {l : List (ByteArray × Bool × Int)} {q : Int} (hq : 0 ≤ q ∧ q ≤ 1048576) (hl : l.length ≤ 9223372036854775807) (hs : ∀ d ∈ l, d.1.size ≤ 9223372036854775807) :
    ∃ r, m_laws_szItemS l q = some r ∧ (0 ≤ r → r ≤ q ∧ (l.length : Int) ≤ q ∧ ∀ d ∈ l, (d.1.size : Int) ≤ q) := by
  rw [m_laws_szItemS, w64 (by omega) (by omega)]
  by_cases h : q - (l.length : Int) < 0
  · exact ⟨-1, by rw [cond_pos h], fun h => by omega⟩
  · rw [cond_neg h]
    have hx := listW l (fun n i s => m_laws_szItemS_L1 l n s i) (fun i s => 0 ≤ s ∧ s ≤ q ∧ ∀ d ∈ l.take i, (d.1.size : Int) ≤ q) (fun r => ∀ z, r = .inr z → z ≤ q ∧ ∀ d ∈ l, (d.1.size : Int) ≤ q) ?_ ?_ FU (by rw [FU_eq]; omega) (q - (l.length : Int)) ⟨by omega, by omega, by simp⟩
    · obtain ⟨r, e, hr⟩ := hx
      have e : m_laws_szItemS_L1 l FU (q - (l.length : Int)) 0 = some r := e
      rw [e, bd_some]
      cases r with
      | inl u => exact ⟨-1, rfl, fun h => by omega⟩
      | inr z => exact ⟨z, rfl, fun _ => ⟨(hr z rfl).1, by omega, (hr z rfl).2⟩⟩
    · intro n s hI
      rw [m_laws_szItemS_L1, cond_neg (by omega)]
      refine Wp_some.2 fun z hz => ?_
      cases hz
      have := hI.2.2
      rw [List.take_length] at this
      exact ⟨hI.2.1, this⟩
    · intro n i s d hi hg hd hm hI ih
      have h1 := hs d hm
      rw [m_laws_szItemS_L1, cond_pos (by omega), gd_pos (by omega), w64s (by omega), hg, m_laws_szItem, w64 (by omega) (by omega)]
      by_cases h2 : s - (d.1.size : Int) < 0
      · rw [cond_pos h2, bd_some, cond_pos (by omega)]
        exact Wp_some.2 fun z hz => by cases hz
      · rw [cond_neg h2, bd_some, cond_neg h2]
        refine ih _ ⟨by omega, by omega, fun e he => ?_⟩
        rw [List.take_succ_eq_append_getElem hi, List.mem_append] at he
        rcases he with he | he
        · exact hI.2.2 e he
        · rw [← gt_nat hi, hg] at he
          simp at he; subst he; omega

theorem law_FnExactBuildFlag (p1 : List (ByteArray × Bool × Int)) (p2 : Int) (h1 : ∀ x ∈ p1, x.1.size ≤ 9223372036854775807 ∧ In64 x.2.2) (hl : p1.length ≤ 9223372036854775807) (h2 : In64 p2) : m_laws_FnExactBuildFlag p1 p2 = some true := by
  obtain ⟨r, er, hr⟩ := laws_szItemS (l := p1) (q := 1048576) ⟨by omega, by omega⟩ hl (fun d hd => (h1 d hd).1)
  rw [m_laws_FnExactBuildFlag, er, bd_some]
  by_cases h0 : r < 0
  · rw [cond_pos h0]
  obtain ⟨_, g1, g2⟩ := hr (by omega)
  have hin : ItemsIn p1 := ⟨by omega, fun d hd => by have := g2 d hd; omega, fun d hd => (h1 d hd).2⟩
  rw [cond_neg h0, laws_toItemS (by omega), bd_some, spec_BuildFlag hin, bd_some, bd_some, impl_BuildFlag hin, bd_some]
  have hbl : (bflag p1 p2).1.length ≤ 2000000 := by
    unfold bflag
    split
    · simp only [cbuild_length]; simp; omega
    · simp
  have ei := impl_BuildFlag hin p2
  generalize bflag p1 p2 = w at *
  obtain ⟨a, b, c⟩ := w
  simp only at hbl ⊢
  rw [laws_eqFlag (by omega), bd_some, decide_eq_true ⟨rfl, rfl⟩]
  simp only [beq_self_eq_true, Bool.not_true, cond_false]
  obtain ⟨m, em, hm⟩ := laws_markItemS (k := 1) (l := p1) (by omega) (by omega)
  rw [bd_some, laws_eqItemS (by omega), bd_some, decide_eq_true rfl, Bool.not_true, cond_false, show (1 : Int) = ((1 : Nat) : Int) from rfl, em, bd_some, gd_pos hm, cond_neg (by simp only; omega), bd_some]
  simp only [Bool.not_true, cond_false]
  rw [laws_markFlag b (by omega) (by omega), bd_some, gd_pos (by simp), laws_heldFlag (by omega) (by omega), bd_some, cond_neg (by omega), decide_eq_true rfl, Bool.not_true, cond_false, bd_some, ei, bd_some]
  simp only [beq_self_eq_true, Bool.not_true, cond_false]
  rw [laws_eqFlag (by omega), bd_some, decide_eq_true ⟨rfl, rfl⟩]
  simp only [Bool.not_true, cond_false]
  rw [bd_some, cond_neg (by omega)]
  simp

end Go.Eng
