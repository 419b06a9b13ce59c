/- What is proved: plain laws of the models, up to the law itself. Conditions: sizes and ranges of what is handed over, as each says. -/
import Derived.Test.YtjihhiadjljofaaCBuildFlagModels
set_option linter.unusedVariables false
set_option linter.unusedSimpArgs false
namespace Go.Eng
open Go

theorem w64 {a : Int} (h1 : -9223372036854775808 ≤ a) (h2 : a ≤ 9223372036854775807) : IntKind.wrap .i64 a = a := by
  rw [IntKind.wrap_i64]; omega

def I64 (a : Int) : Prop := -9223372036854775808 ≤ a ∧ a ≤ 9223372036854775807

theorem I64_wrap (a : Int) : I64 (IntKind.wrap .i64 a) := by
  unfold I64; rw [IntKind.wrap_i64]; omega

theorem w64s {i : Nat} (h : i < 4611686018427387904) : IntKind.wrap .i64 ((i : Int) + 1) = ((i + 1 : Nat) : Int) := by
  rw [w64 (by omega) (by omega)]; omega

theorem gd_pos {α : Type} {p : Prop} [Decidable p] (h : p) (x : Option α) : gd p x = x := by unfold gd; rw [if_pos h]

theorem bd_some {α β : Type} (a : α) (f : α → Option β) : bd (some a) f = f a := rfl

theorem nm_eq {α β : Type} (a : α) (f : α → Option β) : nm a f = f a := rfl

theorem sm_inl {α β γ : Type} (a : α) (f : α → γ) (g : β → γ) : sm (.inl a) f g = f a := rfl

theorem sm_inr {α β γ : Type} (b : β) (f : α → γ) (g : β → γ) : sm (.inr b) f g = g b := rfl

/-- it has an answer, and of this it holds -/
def Wp {α : Type} (x : Option α) (Q : α → Prop) : Prop := ∃ r, x = some r ∧ Q r

theorem Wp_some {α : Type} {a : α} {Q : α → Prop} : Wp (some a) Q ↔ Q a := ⟨fun ⟨r, h, q⟩ => by cases h; exact q, fun h => ⟨a, rfl, h⟩⟩

theorem Wp_eq {α : Type} {x : Option α} {r : α} : Wp x (fun a => a = r) ↔ x = some r := ⟨fun ⟨a, h, e⟩ => by rw [h, e], fun h => ⟨r, h, rfl⟩⟩

theorem Wp.eq {α : Type} {x : Option α} {r : α} (h : Wp x (fun a => a = r)) : x = some r := Wp_eq.1 h

theorem Wp.of {α : Type} {x : Option α} {r : α} {Q : α → Prop} (h : x = some r) (q : Q r) : Wp x Q := ⟨r, h, q⟩

/-- a loop by invariant and measure -/
theorem loopW {σ ρ : Type} (L : Nat → σ → Option ρ) (I : σ → Prop) (μ : σ → Nat) (Q : ρ → Prop)
    (hs : ∀ n s, I s → (∀ s', I s' → μ s' < μ s → Wp (L n s') Q) → Wp (L (n + 1) s) Q) : ∀ n s, I s → μ s < n → Wp (L n s) Q
  | 0, s, _, h => absurd h (Nat.not_lt_zero _)
  | n + 1, s, hi, h => hs n s hi fun s' hi' hm => loopW L I μ Q hs n s' hi' (by omega)

/-- a loop over a list -/
theorem listW {α σ ρ : Type} [Inhabited α] (l : List α) (L : Nat → Int → σ → Option ρ) (I : Nat → σ → Prop) (Q : ρ → Prop)
    (h0 : ∀ n s, I l.length s → Wp (L (n + 1) (l.length : Int) s) Q)
    (hs : ∀ n i s d, i < l.length → gt l (i : Int) = d → l.drop i = d :: l.drop (i + 1) → d ∈ l → I i s → (∀ s', I (i + 1) s' → Wp (L n ((i + 1 : Nat) : Int) s') Q) → Wp (L (n + 1) (i : Int) s) Q)
    (N : Nat) (hl : l.length < N) (s : σ) (h : I 0 s) : Wp (L N 0 s) Q := by
  have key : ∀ (k i n : Nat) (s : σ), i + k = l.length → k < n → I i s → Wp (L n (i : Int) s) Q := by
    intro k
    induction k with
    | zero =>
      intro i n s hk hn hi
      cases n with
      | zero => omega
      | succ n =>
        have e : i = l.length := by omega
        subst e
        exact h0 n s hi
    | succ k ih =>
      intro i n s hk hn hi
      cases n with
      | zero => omega
      | succ n =>
        have hlt : i < l.length := by omega
        have e1 : gt l (i : Int) = l[i] := by
          unfold gt
          rw [Int.toNat_natCast, List.getD_eq_getElem?_getD, List.getElem?_eq_getElem hlt, Option.getD_some]
        have e2 : l.drop i = l[i] :: l.drop (i + 1) := List.drop_eq_getElem_cons hlt
        exact hs n i s l[i] hlt e1 e2 (List.getElem_mem hlt) hi fun s' hs' => ih (i + 1) n s' (by omega) (by omega) hs'
  exact key l.length 0 N s (by omega) hl h

theorem gt_nat {α : Type} [Inhabited α] {l : List α} {i : Nat} (h : i < l.length) : gt l (i : Int) = l[i] := by
  unfold gt
  rw [Int.toNat_natCast, List.getD_eq_getElem?_getD, List.getElem?_eq_getElem h, Option.getD_some]

theorem gt_mem {α : Type} [Inhabited α] {l : List α} {q : Int} (h : 0 ≤ q ∧ q < (l.length : Int)) : gt l q ∈ l := by
  obtain ⟨i, rfl⟩ := Int.eq_ofNat_of_zero_le h.1
  have hi : i < l.length := by omega
  have e : gt l (i : Int) = l[i] := gt_nat hi
  rw [e]; exact List.getElem_mem hi

theorem sub_zero {α : Type} (l : List α) (i : Nat) : sub l 0 (i : Int) = l.take i := by simp [sub]

/-- the place of the first element of a kind, -1 if there is none -/
def ix {α : Type} (p : α → Bool) (l : List α) : Int := match l.findIdx? p with | some i => (i : Int) | none => -1

theorem ix_cases {α : Type} [Inhabited α] (p : α → Bool) (l : List α) :
    (ix p l = -1 ∧ l.find? p = none ∧ ∀ d ∈ l, p d = false) ∨
    ∃ (i : Nat) (d : α), ix p l = i ∧ i < l.length ∧ gt l (i : Int) = d ∧ l.find? p = some d ∧ d ∈ l ∧ p d = true := by
  unfold ix
  cases h : l.findIdx? p with
  | none =>
    left
    rw [List.findIdx?_eq_none_iff] at h
    exact ⟨rfl, List.find?_eq_none.2 (fun d hd => by simp [h d hd]), h⟩
  | some i =>
    right
    rw [List.findIdx?_eq_some_iff_getElem] at h
    obtain ⟨hi, h1, h2⟩ := h
    refine ⟨i, l[i], rfl, hi, gt_nat hi, ?_, List.getElem_mem hi, h1⟩
    rw [List.find?_eq_some_iff_getElem]
    exact ⟨h1, i, hi, rfl, fun j hj => by simpa using h2 j hj⟩

theorem bv64 (a : Nat) (ha : a < 9223372036854775808) : (BitVec.ofInt 64 (a : Int)).toNat = a := by
  rw [BitVec.ofInt_natCast, BitVec.toNat_ofNat]; exact Nat.mod_eq_of_lt (by omega)

theorem and64 {a b : Nat} (ha : a < 9223372036854775808) (hb : b < 9223372036854775808) : Go.bits .and .i64 (a : Int) (b : Int) = ((a &&& b : Nat) : Int) := by
  have hx : a &&& b ≤ a := Nat.and_le_left
  show IntKind.i64.wrap ((BitVec.ofInt 64 (a : Int) &&& BitVec.ofInt 64 (b : Int)).toNat : Int) = _
  rw [BitVec.toNat_and, bv64 a ha, bv64 b hb, w64 (by omega) (by omega)]

theorem or64 {a b : Nat} (ha : a < 9223372036854775808) (hb : b < 9223372036854775808) : Go.bits .or .i64 (a : Int) (b : Int) = ((a ||| b : Nat) : Int) := by
  have hx : a ||| b < 2 ^ 63 := Nat.or_lt_two_pow (by omega) (by omega)
  show IntKind.i64.wrap ((BitVec.ofInt 64 (a : Int) ||| BitVec.ofInt 64 (b : Int)).toNat : Int) = _
  rw [BitVec.toNat_or, bv64 a ha, bv64 b hb, w64 (by omega) (by omega)]

theorem xor64 {a b : Nat} (ha : a < 9223372036854775808) (hb : b < 9223372036854775808) : Go.bits .xor .i64 (a : Int) (b : Int) = ((a ^^^ b : Nat) : Int) := by
  have hx : a ^^^ b < 2 ^ 63 := Nat.xor_lt_two_pow (by omega) (by omega)
  show IntKind.i64.wrap ((BitVec.ofInt 64 (a : Int) ^^^ BitVec.ofInt 64 (b : Int)).toNat : Int) = _
  rw [BitVec.toNat_xor, bv64 a ha, bv64 b hb, w64 (by omega) (by omega)]

/-- the bits of `a` that `b` does not have -/
def nless (a b : Nat) : Nat := a - (a &&& b)

theorem or_and_add (a b : Nat) : (a ||| b) + (a &&& b) = a + b := by
  induction a using Nat.strongRecOn generalizing b with
  | _ a ih =>
    by_cases h0 : a = 0
    · subst h0; simp
    · have h1 := ih (a / 2) (by omega) (b / 2)
      have o1 : (a ||| b) / 2 = (a / 2) ||| (b / 2) := Nat.or_div_two ..
      have n1 : (a &&& b) / 2 = (a / 2) &&& (b / 2) := Nat.and_div_two ..
      have o2 : (a ||| b) % 2 = if a % 2 = 1 ∨ b % 2 = 1 then 1 else 0 := by
        have := Nat.or_mod_two_pow (a := a) (b := b) (n := 1)
        simp only [Nat.pow_one] at this
        rw [this]
        rcases Nat.mod_two_eq_zero_or_one a with ha | ha <;> rcases Nat.mod_two_eq_zero_or_one b with hb | hb <;> simp [ha, hb]
      have n2 : (a &&& b) % 2 = if a % 2 = 1 ∧ b % 2 = 1 then 1 else 0 := by
        have := Nat.and_mod_two_pow (a := a) (b := b) (n := 1)
        simp only [Nat.pow_one] at this
        rw [this]
        rcases Nat.mod_two_eq_zero_or_one a with ha | ha <;> rcases Nat.mod_two_eq_zero_or_one b with hb | hb <;> simp [ha, hb]
      rw [← o1, ← n1] at h1
      clear o1 n1 ih
      split at o2 <;> split at n2 <;> omega

theorem testBit_nless (a b i : Nat) : (nless a b).testBit i = (a.testBit i && !b.testBit i) := by
  have h : nless a b = a ^^^ (a &&& b) := by
    have hle : a &&& b ≤ a := Nat.and_le_left
    have h1 := or_and_add (a ^^^ (a &&& b)) (a &&& b)
    have h2 : (a ^^^ (a &&& b)) ||| (a &&& b) = a := by
      apply Nat.eq_of_testBit_eq; intro i
      simp only [Nat.testBit_or, Nat.testBit_xor, Nat.testBit_and]
      cases a.testBit i <;> cases b.testBit i <;> rfl
    have h3 : (a ^^^ (a &&& b)) &&& (a &&& b) = 0 := by
      apply Nat.eq_of_testBit_eq; intro i
      simp only [Nat.testBit_xor, Nat.testBit_and, Nat.zero_testBit]
      cases a.testBit i <;> cases b.testBit i <;> rfl
    rw [h2, h3] at h1
    unfold nless; omega
  rw [h]
  simp only [Nat.testBit_xor, Nat.testBit_and]
  cases a.testBit i <;> cases b.testBit i <;> rfl

theorem nless_le (a b : Nat) : nless a b ≤ a := Nat.sub_le ..

theorem andNot64 {a b : Nat} (ha : a < 9223372036854775808) (hb : b < 9223372036854775808) : Go.bits .andNot .i64 (a : Int) (b : Int) = ((nless a b : Nat) : Int) := by
  have hx : nless a b ≤ a := nless_le ..
  show IntKind.i64.wrap ((BitVec.ofInt 64 (a : Int) &&& ~~~ BitVec.ofInt 64 (b : Int)).toNat : Int) = _
  have e : (BitVec.ofInt 64 (a : Int) &&& ~~~ BitVec.ofInt 64 (b : Int)).toNat = nless a b := by
    apply Nat.eq_of_testBit_eq; intro i
    have hA : BitVec.ofInt 64 (a : Int) = BitVec.ofNat 64 a := by simp [BitVec.ofInt_natCast]
    have hB : BitVec.ofInt 64 (b : Int) = BitVec.ofNat 64 b := by simp [BitVec.ofInt_natCast]
    rw [hA, hB, testBit_nless]
    by_cases h64 : i < 64
    · rw [BitVec.testBit_toNat, BitVec.getLsbD_and, BitVec.getLsbD_not, BitVec.getLsbD_ofNat, BitVec.getLsbD_ofNat]
      simp [h64]
    · have h1 : a.testBit i = false := Nat.testBit_lt_two_pow (Nat.lt_of_lt_of_le (by omega : a < 2 ^ 63) (Nat.pow_le_pow_right (by omega) (by omega)))
      rw [h1, Bool.false_and, BitVec.testBit_toNat]
      exact BitVec.getLsbD_of_ge _ _ (by omega)
  rw [e, w64 (by omega) (by omega)]

theorem cond_pos {α : Type} {p : Prop} [Decidable p] (h : p) (x y : α) : (bif decide p then x else y) = x := by rw [decide_eq_true h]; rfl

theorem cond_neg {α : Type} {p : Prop} [Decidable p] (h : ¬ p) (x y : α) : (bif decide p then x else y) = y := by rw [decide_eq_false h]; rfl

theorem cond_if {α : Type} {p : Prop} [Decidable p] (x y : α) : (bif decide p then x else y) = if p then x else y := by
  by_cases h : p <;> simp [h]

/-- a search -/
theorem findI {α : Type} [Inhabited α] (l : List α) (L : Nat → Int → Option (Int ⊕ Unit)) (p : α → Bool)
    (hend : ∀ n, L (n + 1) (l.length : Int) = some (.inr ()))
    (hstep : ∀ n i, i < l.length → L (n + 1) (i : Int) = if p (gt l (i : Int)) then some (.inl (i : Int)) else L n ((i + 1 : Nat) : Int))
    (N : Nat) (hl : l.length < N) : L N 0 = some (match l.findIdx? p with | some i => .inl (i : Int) | none => .inr ()) := by
  refine (listW l (fun n i (_ : Unit) => L n i) (fun i _ => ∀ d ∈ l.take i, p d = false)
    (fun r => r = (match l.findIdx? p with | some i => .inl (i : Int) | none => .inr ())) ?_ ?_ N hl () (by simp)).eq
  · intro n _ hI
    rw [List.take_length] at hI
    rw [hend]
    refine Wp_some.2 ?_
    rw [List.findIdx?_eq_none_iff.2 hI]
  · intro n i _ d hi hg hd hm hI ih
    rw [hstep n i hi, hg]
    by_cases h : p d = true
    · rw [if_pos h]
      refine Wp_some.2 ?_
      have : l.findIdx? p = some i := by
        rw [List.findIdx?_eq_some_iff_getElem]
        refine ⟨hi, by rw [← gt_nat hi, hg]; exact h, fun j hj => ?_⟩
        simpa using hI l[j] (List.mem_take_iff_getElem.2 ⟨j, by omega, rfl⟩)
      rw [this]
    · rw [if_neg h]
      refine ih () ?_
      intro e he
      rw [List.take_succ_eq_append_getElem hi, List.mem_append] at he
      rcases he with he | he
      · exact hI e he
      · rw [← gt_nat hi, hg] at he
        simp at he; subst he; simpa using h

/-- a check of all, by place: what comes out where one is of the kind, and where none is -/
theorem anyI {α ρ : Type} [Inhabited α] (l : List α) (L : Nat → Int → Option ρ) (P : Nat → Prop) (x y : ρ)
    (hend : ∀ n, L (n + 1) (l.length : Int) = some y)
    (hstep : ∀ n i, i < l.length → (P i ∧ L (n + 1) (i : Int) = some x) ∨ (¬ P i ∧ L (n + 1) (i : Int) = L n ((i + 1 : Nat) : Int)))
    (N : Nat) (hl : l.length < N) : ((∃ i, i < l.length ∧ P i) ∧ L N 0 = some x) ∨ ((∀ i, i < l.length → ¬ P i) ∧ L N 0 = some y) := by
  have h := listW l (fun n i (_ : Unit) => L n i) (fun i _ => ∀ j, j < i → ¬ P j)
    (fun r => ((∃ i, i < l.length ∧ P i) ∧ r = x) ∨ ((∀ i, i < l.length → ¬ P i) ∧ r = y)) ?_ ?_ N hl () (by intro j hj; omega)
  · obtain ⟨r, e, h⟩ := h
    have e : L N 0 = some r := e
    rw [e]
    rcases h with ⟨h1, rfl⟩ | ⟨h1, rfl⟩
    · exact .inl ⟨h1, rfl⟩
    · exact .inr ⟨h1, rfl⟩
  · intro n _ hI
    rw [hend]
    exact Wp_some.2 (.inr ⟨hI, rfl⟩)
  · intro n i _ d hi hg hd hm hI ih
    rcases hstep n i hi with ⟨h1, h2⟩ | ⟨h1, h2⟩
    · rw [h2]; exact Wp_some.2 (.inl ⟨⟨i, hi, h1⟩, rfl⟩)
    · rw [h2]
      refine ih () fun j hj => ?_
      by_cases e : j = i
      · subst e; exact h1
      · exact hI j (by omega)

/-- a fold -/
theorem foldW {α σ : Type} [Inhabited α] (l : List α) (L : Nat → σ → Int → Option σ) (g : σ → α → σ) (I : Nat → σ → Prop)
    (hend : ∀ n s, L (n + 1) s (l.length : Int) = some s)
    (hstep : ∀ n i s, i < l.length → gt l (i : Int) ∈ l → I i s → I (i + 1) (g s (gt l (i : Int))) ∧ L (n + 1) s (i : Int) = L n (g s (gt l (i : Int))) ((i + 1 : Nat) : Int))
    (N : Nat) (hl : l.length < N) (s : σ) (h0 : I 0 s) : L N s 0 = some (l.foldl g s) ∧ I l.length (l.foldl g s) := by
  have h := listW l (fun n i s => L n s i) (fun i t => I i t ∧ (l.drop i).foldl g t = l.foldl g s)
    (fun r => r = l.foldl g s ∧ I l.length r) ?_ ?_ N hl s ⟨h0, by simp⟩
  · obtain ⟨r, e, rfl, h2⟩ := h
    exact ⟨e, h2⟩
  · intro n t hI
    rw [hend]
    refine Wp_some.2 ?_
    have := hI.2
    rw [List.drop_length] at this
    exact ⟨this, hI.1⟩
  · intro n i t d hi hg hd hm hI ih
    have hs := hstep n i t hi (by rw [hg]; exact hm) hI.1
    rw [hg] at hs
    rw [hs.2]
    refine ih _ ⟨hs.1, ?_⟩
    have := hI.2
    rw [hd, List.foldl_cons] at this
    exact this

/-- a fold that may stop -/
theorem foldE {α β σ : Type} [Inhabited α] (l : List α) (L : Nat → σ → Int → Option (β ⊕ σ)) (bad : α → Bool) (b : β) (g : σ → α → σ) (I : Nat → σ → Prop)
    (hend : ∀ n s, I l.length s → L (n + 1) s (l.length : Int) = some (.inr s))
    (hstep : ∀ n i s, i < l.length → gt l (i : Int) ∈ l → I i s → (bad (gt l (i : Int)) = true ∧ L (n + 1) s (i : Int) = some (.inl b)) ∨
      (bad (gt l (i : Int)) = false ∧ I (i + 1) (g s (gt l (i : Int))) ∧ L (n + 1) s (i : Int) = L n (g s (gt l (i : Int))) ((i + 1 : Nat) : Int)))
    (N : Nat) (hl : l.length < N) (s : σ) (h0 : I 0 s) : (l.any bad = true ∧ L N s 0 = some (.inl b)) ∨ (l.any bad = false ∧ I l.length (l.foldl g s) ∧ L N s 0 = some (.inr (l.foldl g s))) := by
  have h := listW l (fun n i s => L n s i) (fun i t => I i t ∧ (l.drop i).foldl g t = l.foldl g s ∧ l.any bad = (l.drop i).any bad)
    (fun r => (l.any bad = true ∧ r = .inl b) ∨ (l.any bad = false ∧ I l.length (l.foldl g s) ∧ r = .inr (l.foldl g s))) ?_ ?_ N hl s ⟨h0, by simp, by simp⟩
  · obtain ⟨r, e, h⟩ := h
    have e : L N s 0 = some r := e
    rw [e]
    rcases h with ⟨h1, rfl⟩ | ⟨h1, h2, rfl⟩
    · exact .inl ⟨h1, rfl⟩
    · exact .inr ⟨h1, h2, rfl⟩
  · intro n t hI
    rw [hend n t hI.1]
    refine Wp_some.2 (.inr ?_)
    have h2 := hI.2.1
    have h3 := hI.2.2
    rw [List.drop_length] at h2 h3
    simp only [List.foldl_nil] at h2
    rw [← h2]
    exact ⟨h3, hI.1, rfl⟩
  · intro n i t d hi hg hd hm hI ih
    have hs := hstep n i t hi (by rw [hg]; exact hm) hI.1
    rw [hg] at hs
    have h2 := hI.2.1
    have h3 := hI.2.2
    rw [hd, List.foldl_cons] at h2
    rw [hd, List.any_cons] at h3
    rcases hs with ⟨hb, e⟩ | ⟨hb, hi', e⟩
    · rw [e]
      exact Wp_some.2 (.inl ⟨by rw [h3, hb]; rfl, rfl⟩)
    · rw [e]
      exact ih _ ⟨hi', h2, by rw [h3, hb, Bool.false_or]⟩

/-- a comparison of two lists -/
theorem eqW {α : Type} [Inhabited α] [DecidableEq α] (a b : List α) (L : Nat → Int → Option (Unit ⊕ Unit)) (hlen : a.length = b.length)
    (hend : ∀ n, L (n + 1) (a.length : Int) = some (.inr ()))
    (hstep : ∀ n i, i < a.length → L (n + 1) (i : Int) = if gt a (i : Int) = gt b (i : Int) then L n ((i + 1 : Nat) : Int) else some (.inl ()))
    (N : Nat) (hl : a.length < N) : L N 0 = some (if a = b then .inr () else .inl ()) := by
  have h := anyI a L (fun i => ¬ gt a (i : Int) = gt b (i : Int)) (.inl ()) (.inr ()) hend (fun n i hi => ?_) N hl
  · rcases h with ⟨⟨i, h1, h2⟩, e⟩ | ⟨h1, e⟩
    · rw [e, if_neg (fun e => h2 (by rw [e]))]
    · rw [e, if_pos]
      refine List.ext_getElem hlen fun i h2 h3 => ?_
      have := Decidable.not_not.1 (h1 i h2)
      rwa [gt_nat h2, gt_nat h3] at this
  · rw [hstep n i hi]
    by_cases h : gt a (i : Int) = gt b (i : Int)
    · rw [if_pos h]; exact .inr ⟨fun h' => h' h, rfl⟩
    · rw [if_neg h]; exact .inl ⟨h, rfl⟩

/-- a check of all numbers below one -/
theorem anyN {ρ : Type} (m : Nat) (L : Nat → Int → Option ρ) (P : Nat → Prop) (x y : ρ)
    (hend : ∀ n, L (n + 1) (m : Int) = some y)
    (hstep : ∀ n i, i < m → (P i ∧ L (n + 1) (i : Int) = some x) ∨ (¬ P i ∧ L (n + 1) (i : Int) = L n ((i + 1 : Nat) : Int)))
    (N : Nat) (hl : m < N) : ((∃ i, i < m ∧ P i) ∧ L N 0 = some x) ∨ ((∀ i, i < m → ¬ P i) ∧ L N 0 = some y) := by
  have h := anyI (List.range m) L P x y (by simpa using hend) (by simpa using hstep) N (by simpa using hl)
  simpa using h

/-- a check where none is of the kind -/
theorem noneN {ρ : Type} (m : Nat) (L : Nat → Int → Option ρ) (y : ρ)
    (hend : ∀ n, L (n + 1) (m : Int) = some y)
    (hstep : ∀ n i, i < m → L (n + 1) (i : Int) = L n ((i + 1 : Nat) : Int))
    (N : Nat) (hl : m < N) : L N 0 = some y := by
  rcases anyN m L (fun _ => False) y y hend (fun n i hi => .inr ⟨id, hstep n i hi⟩) N hl with ⟨_, h⟩ | ⟨_, h⟩ <;> exact h

theorem FU_eq : FU = 4611686018427387904 := rfl

def named (l : List (ByteArray × Int)) (s : ByteArray) : Int := ix (fun d => decide (d.1 = s)) l

theorem spec_indexOf (l : List (ByteArray × Int)) (s : ByteArray) (hl : l.length ≤ 1099511627776) : m_spec_indexOf l s = some (named l s) := by
  rw [m_spec_indexOf, findI l (m_spec_indexOf_L1 l s) (fun d => decide (d.1 = s)) ?_ ?_ FU (by rw [FU_eq]; omega), bd_some, named, ix]
  · cases l.findIdx? (fun d => decide (d.1 = s)) <;> rfl
  · intro n; rw [m_spec_indexOf_L1, cond_neg (by omega)]
  · intro n i hi
    rw [m_spec_indexOf_L1, cond_pos (by omega), gd_pos (by omega), w64s (by omega), cond_if]
    simp

theorem impl_named (l : List (ByteArray × Int)) (s : ByteArray) (hl : l.length ≤ 1099511627776) : m_impl_named l s = some (named l s) := by
  rw [m_impl_named, m_slices_IndexFunc_si_named_1_l, findI l (m_slices_IndexFunc_si_named_1_l_L1 l s) (fun d => decide (d.1 = s)) ?_ ?_ FU (by rw [FU_eq]; omega), bd_some, named, ix]
  · cases l.findIdx? (fun d => decide (d.1 = s)) <;> rfl
  · intro n; rw [m_slices_IndexFunc_si_named_1_l_L1, cond_neg (by omega)]
  · intro n i hi
    rw [m_slices_IndexFunc_si_named_1_l_L1, cond_pos (by omega), gd_pos (by omega), w64s (by omega), m_impl_named_1_l, bd_some, cond_if]
    simp

/-- 1 to 6 letters from a to z -/
def NameOk (s : ByteArray) : Prop := (∀ i, i < s.size → 97 ≤ byteAt s i ∧ byteAt s i ≤ 122) ∧ 1 ≤ s.size ∧ s.size ≤ 6

instance (s : ByteArray) : Decidable (NameOk s) := inferInstanceAs (Decidable (_ ∧ _))

theorem spec_inRange (a b c : Int) : m_spec_inRange a b c = some (decide (b ≤ a ∧ a ≤ c)) := by
  rw [m_spec_inRange, cond_if]
  by_cases h1 : b ≤ a <;> by_cases h2 : a ≤ c <;> simp [h1, h2]

theorem impl_in (a b c : Int) : m_impl_in a b c = some (decide (b ≤ a ∧ a ≤ c)) := spec_inRange a b c

theorem validName_loop (s : ByteArray) (hs : s.size ≤ 1099511627776) : Wp (m_spec_validName_L1 s FU 0) (fun r => (r = .inl () ∧ ∃ i, i < s.size ∧ ¬ (97 ≤ byteAt s i ∧ byteAt s i ≤ 122)) ∨ (r = .inr () ∧ ∀ i, i < s.size → 97 ≤ byteAt s i ∧ byteAt s i ≤ 122)) := by
  refine loopW (m_spec_validName_L1 s) (fun v => ∃ i : Nat, v = i ∧ i ≤ s.size ∧ ∀ j, j < i → 97 ≤ byteAt s j ∧ byteAt s j ≤ 122) (fun v => s.size - v.toNat) _ ?_ FU 0 ⟨0, rfl, by omega, by intro j hj; omega⟩ (by rw [FU_eq]; omega)
  rintro n _ ⟨i, rfl, hi, hI⟩ ih
  rw [m_spec_validName_L1]
  by_cases h : i < s.size
  · rw [cond_pos (by omega), gd_pos (by omega), w64s (by omega), Int.toNat_natCast]
    by_cases h1 : byteAt s i < 97
    · rw [cond_pos h1]; exact Wp_some.2 (.inl ⟨rfl, i, h, by omega⟩)
    · rw [cond_neg h1]
      by_cases h2 : 122 < byteAt s i
      · rw [cond_pos h2]; exact Wp_some.2 (.inl ⟨rfl, i, h, by omega⟩)
      · rw [cond_neg h2]
        refine ih _ ⟨i + 1, rfl, h, fun j hj => ?_⟩ (by omega)
        by_cases e : j = i
        · subst e; omega
        · exact hI j (by omega)
  · rw [cond_neg (by omega)]
    exact Wp_some.2 (.inr ⟨rfl, fun j hj => hI j (by omega)⟩)

theorem spec_validName {s : ByteArray} (hs : s.size ≤ 1099511627776) : m_spec_validName s = some (decide (NameOk s)) := by
  obtain ⟨r, e, h⟩ := validName_loop s hs
  rw [m_spec_validName, e, bd_some]
  rcases h with ⟨rfl, i, hi, h⟩ | ⟨rfl, h⟩
  · have : ¬ NameOk s := fun hn => h (hn.1 i hi)
    rw [decide_eq_false this]; rfl
  · rw [sm_inr, spec_inRange, bd_some]
    have : NameOk s ↔ ((1 : Int) ≤ (s.size : Int) ∧ (s.size : Int) ≤ 6) := ⟨fun hn => by have := hn.2; omega, fun hh => ⟨h, by omega⟩⟩
    rw [decide_eq_decide.2 this]

theorem validName_L1_eq (p : ByteArray) : ∀ (n : Nat) (v : Int), m_impl_ValidName_L1 p n v = m_spec_validName_L1 p n v
  | 0, v => rfl
  | n + 1, v => by rw [m_impl_ValidName_L1, m_spec_validName_L1, validName_L1_eq p n]

theorem impl_ValidName {s : ByteArray} (hs : s.size ≤ 1099511627776) : m_impl_ValidName s = some (decide (NameOk s)) := by
  rw [← spec_validName hs, m_impl_ValidName, m_spec_validName, validName_L1_eq]; rfl

/-- names and lists that can be read -/
def DefsIn (l : List (ByteArray × Int)) : Prop := l.length ≤ 1099511627776 ∧ (∀ d ∈ l, d.1.size ≤ 1099511627776) ∧ ∀ d ∈ l, I64 d.2

def DefsOk (l : List (ByteArray × Int)) (lo hi : Int) : Prop := (∀ i, i < l.length → NameOk (gt l (i : Int)).1 ∧ (lo ≤ (gt l (i : Int)).2 ∧ (gt l (i : Int)).2 ≤ hi) ∧ ¬ 0 ≤ named (l.take i) (gt l (i : Int)).1) ∧ l.length ≤ 12

instance (l : List (ByteArray × Int)) (lo hi : Int) : Decidable (DefsOk l lo hi) := inferInstanceAs (Decidable (_ ∧ _))

theorem spec_validDefs {l : List (ByteArray × Int)} (h : DefsIn l) (lo hi : Int) : m_spec_validDefs l lo hi = some (decide (DefsOk l lo hi)) := by
  obtain ⟨hl, hs, -⟩ := h
  have h := anyI l (m_spec_validDefs_L1 l lo hi) (fun i => ¬ (NameOk (gt l (i : Int)).1 ∧ (lo ≤ (gt l (i : Int)).2 ∧ (gt l (i : Int)).2 ≤ hi) ∧ ¬ 0 ≤ named (l.take i) (gt l (i : Int)).1)) (.inl ()) (.inr ()) ?_ ?_ FU (by rw [FU_eq]; omega)
  · rw [m_spec_validDefs]
    rcases h with ⟨⟨i, h1, h2⟩, e⟩ | ⟨h1, e⟩
    · rw [e, bd_some, sm_inl]
      have : ¬ DefsOk l lo hi := fun h => h2 (h.1 i h1)
      rw [decide_eq_false this]
    · rw [e, bd_some, sm_inr]
      have : DefsOk l lo hi ↔ (l.length : Int) ≤ 12 := ⟨fun h => by have := h.2; omega, fun h => ⟨fun i hi => Decidable.not_not.1 (h1 i hi), by omega⟩⟩
      rw [decide_eq_decide.2 this]
  · intro n; rw [m_spec_validDefs_L1, cond_neg (by omega)]
  · intro n i hi'
    have hm : gt l (i : Int) ∈ l := gt_mem (by omega)
    rw [m_spec_validDefs_L1, cond_pos (by omega), gd_pos (by omega), spec_validName (hs _ hm), bd_some, spec_inRange, bd_some, gd_pos (by omega), sub_zero, spec_indexOf _ _ (by rw [List.length_take]; omega), bd_some, w64s (by omega)]
    by_cases h1 : NameOk (gt l (i : Int)).1 <;> simp only [h1, decide_true, decide_false, Bool.not_true, Bool.not_false, cond_true, cond_false, true_and, false_and, not_false_eq_true, not_true_eq_false, or_false, and_self]
    by_cases h2 : lo ≤ (gt l (i : Int)).2 ∧ (gt l (i : Int)).2 ≤ hi <;> simp only [h2, decide_true, decide_false, Bool.not_true, Bool.not_false, cond_true, cond_false, true_and, false_and, not_false_eq_true, not_true_eq_false, or_false, and_self]
    by_cases h3 : 0 ≤ named (l.take i) (gt l (i : Int)).1 <;> simp only [h3, decide_true, decide_false, Bool.not_true, Bool.not_false, cond_true, cond_false, true_and, false_and, not_false_eq_true, not_true_eq_false, or_false, and_self, false_or]

theorem impl_defsValid {l : List (ByteArray × Int)} (h : DefsIn l) (lo hi : Int) : m_impl_defsValid l lo hi = some (decide (DefsOk l lo hi)) := by
  have e : ∀ (n : Nat) (i : Nat), i ≤ l.length → m_impl_defsValid_L1 l lo hi n (i : Int) = m_spec_validDefs_L1 l lo hi n (i : Int) := by
    intro n
    induction n with
    | zero => intro i _; rfl
    | succ n ih =>
      intro i hi'
      rw [m_impl_defsValid_L1, m_spec_validDefs_L1]
      by_cases hlt : i < l.length
      · have hm : gt l (i : Int) ∈ l := gt_mem (by omega)
        have hl := h.1
        rw [cond_pos (by omega), cond_pos (by omega), w64s (by omega), ih (i + 1) hlt, impl_ValidName (h.2.1 _ hm), spec_validName (h.2.1 _ hm), sub_zero,
          impl_named _ _ (by rw [List.length_take]; omega), spec_indexOf _ _ (by rw [List.length_take]; omega)]
        rfl
      · rw [cond_neg (by omega), cond_neg (by omega)]
  rw [← spec_validDefs h, m_impl_defsValid, m_spec_validDefs, show (0 : Int) = ((0 : Nat) : Int) from rfl, e FU 0 (by omega)]

def FlagOk (l : List (ByteArray × Int)) (b : Int) : Prop := DefsOk l 0 4095 ∧ 0 ≤ b ∧ b ≤ 3

instance (l : List (ByteArray × Int)) (b : Int) : Decidable (FlagOk l b) := inferInstanceAs (Decidable (_ ∧ _))

theorem spec_validFlag {l : List (ByteArray × Int)} (h : DefsIn l) (b : Int) : m_spec_validFlag l b = some (decide (FlagOk l b)) := by
  rw [m_spec_validFlag, spec_validDefs h, bd_some, spec_inRange, bd_some]
  by_cases h1 : DefsOk l 0 4095
  · rw [decide_eq_true h1, cond_true]; congr 1; exact decide_eq_decide.2 ⟨fun h => ⟨h1, h⟩, fun h => h.2⟩
  · rw [decide_eq_false h1, cond_false, decide_eq_false (fun h => h1 h.1)]

theorem impl_ValidFlag {l : List (ByteArray × Int)} (h : DefsIn l) (b : Int) : m_impl_ValidFlag l b = some (decide (FlagOk l b)) := by
  rw [m_impl_ValidFlag, impl_defsValid h, bd_some, impl_in, bd_some]
  by_cases h1 : DefsOk l 0 4095
  · rw [decide_eq_true h1, cond_true]; congr 1; exact decide_eq_decide.2 ⟨fun h => ⟨h1, h⟩, fun h => h.2⟩
  · rw [decide_eq_false h1, cond_false, decide_eq_false (fun h => h1 h.1)]

/-- what a list of definitions that is right tells -/
theorem DefsOk.out {l : List (ByteArray × Int)} {lo hi : Int} (h : DefsOk l lo hi) : (∀ d ∈ l, NameOk d.1 ∧ lo ≤ d.2 ∧ d.2 ≤ hi) ∧ (l.map (·.1)).Nodup ∧ l.length ≤ 12 := by
  refine ⟨fun d hd => ?_, ?_, h.2⟩
  · obtain ⟨i, hi', rfl⟩ := List.mem_iff_getElem.1 hd
    have := h.1 i hi'
    rw [gt_nat hi'] at this
    exact ⟨this.1, this.2.1⟩
  · rw [List.Nodup, List.pairwise_iff_getElem]
    intro i j hi' hj hij e
    simp only [List.length_map] at hi' hj
    have := (h.1 j hj).2.2
    rw [gt_nat hj] at this
    apply this
    simp only [List.getElem_map] at e
    unfold named
    rcases ix_cases (fun d => decide (d.1 = l[j].1)) (l.take j) with ⟨_, _, h3⟩ | ⟨k, d, h1, _⟩
    · have := h3 l[i] (List.mem_take_iff_getElem.2 ⟨i, by omega, rfl⟩)
      simp [e] at this
    · rw [h1]; omega

theorem DefsOk.of {l : List (ByteArray × Int)} {lo hi : Int} (h : (∀ d ∈ l, NameOk d.1 ∧ lo ≤ d.2 ∧ d.2 ≤ hi) ∧ (l.map (·.1)).Nodup ∧ l.length ≤ 12) : DefsOk l lo hi := by
  refine ⟨fun i hi' => ?_, h.2.2⟩
  have hm := h.1 _ (List.getElem_mem hi')
  rw [gt_nat hi']
  refine ⟨hm.1, hm.2, ?_⟩
  unfold named
  rcases ix_cases (fun d => decide (d.1 = l[i].1)) (l.take i) with ⟨h1, _⟩ | ⟨k, d, h1, h2, h3, h4, h5, h6⟩
  · rw [h1]; omega
  · exfalso
    obtain ⟨j, hj, rfl⟩ := List.mem_take_iff_getElem.1 h5
    have hnd := h.2.1
    rw [List.Nodup, List.pairwise_iff_getElem] at hnd
    have := hnd j i (by simp; omega) (by simp; omega) (by omega)
    simp only [List.getElem_map] at this
    exact this (by simpa using h6)

theorem or_lt {a b : Nat} (ha : a < 4096) (hb : b < 4096) : a ||| b < 4096 := Nat.or_lt_two_pow (n := 12) ha hb

def V12 (l : List (ByteArray × Int)) : Prop := ∀ d ∈ l, 0 ≤ d.2 ∧ d.2 < 4096

def nmask (l : List (ByteArray × Int)) : Nat := l.foldl (fun m d => m ||| d.2.toNat) 0

theorem FlagOk.v12 {l : List (ByteArray × Int)} {b : Int} (h : FlagOk l b) : V12 l := fun d hd => by
  have := (h.1.out.1 d hd).2; omega

theorem FlagOk.len {l : List (ByteArray × Int)} {b : Int} (h : FlagOk l b) : l.length ≤ 12 := h.1.2

theorem mask_fold_lt : ∀ (l : List (ByteArray × Int)) (m : Nat), V12 l → m < 4096 → l.foldl (fun m d => m ||| d.2.toNat) m < 4096
  | [], m, _, h => h
  | d :: l, m, hv, h => by
    have hd := hv d (by simp)
    exact mask_fold_lt l (m ||| d.2.toNat) (fun x hx => hv x (by simp [hx])) (or_lt h (by omega))

theorem nmask_lt {l : List (ByteArray × Int)} (hv : V12 l) : nmask l < 4096 := mask_fold_lt l 0 hv (by omega)

theorem fold_cast (l : List (ByteArray × Int)) : ∀ m : Nat, l.foldl (fun (s : Int) d => ((s.toNat ||| d.2.toNat : Nat) : Int)) (m : Int) = ((l.foldl (fun m d => m ||| d.2.toNat) m : Nat) : Int) := by
  induction l with
  | nil => intro m; rfl
  | cons d l ih => intro m; rw [List.foldl_cons, List.foldl_cons, Int.toNat_natCast, ih]

theorem impl_mask {l : List (ByteArray × Int)} (b : Int) (hv : V12 l) (hl : l.length ≤ 1099511627776) : m_impl_Flag_mask l b = some ((nmask l : Nat) : Int) := by
  have h := (foldW l (m_impl_Flag_mask_L1 l) (fun (s : Int) d => ((s.toNat ||| d.2.toNat : Nat) : Int)) (fun _ s => 0 ≤ s ∧ s < 4096) ?_ ?_ FU (by rw [FU_eq]; omega) 0 (by omega)).1
  · rw [m_impl_Flag_mask, h, bd_some, nmask, show (0 : Int) = ((0 : Nat) : Int) from rfl, fold_cast]
  · intro n s; rw [m_impl_Flag_mask_L1, cond_neg (by omega)]
  · intro n i s hi hm hI
    have hd := hv _ hm
    obtain ⟨a, rfl⟩ := Int.eq_ofNat_of_zero_le hI.1
    obtain ⟨v, hv2⟩ := Int.eq_ofNat_of_zero_le hd.1
    have h1 := or_lt (a := a) (b := v) (by omega) (by omega)
    rw [m_impl_Flag_mask_L1, cond_pos (by omega), gd_pos (by omega), hv2, or64 (by omega) (by omega), w64s (by omega)]
    refine ⟨?_, rfl⟩
    simp only [Int.toNat_natCast]; omega

/-- the number of bits of a number of twelve bits -/
def pop (n : Nat) : Nat := (List.range 12).countP (fun i => n.testBit i)

theorem pop_step {v : Nat} (h : v < 4096) : pop v = v % 2 + pop (v / 2) := by
  have e1 : ∀ i, (v / 2).testBit i = v.testBit (i + 1) := fun i => by rw [Nat.testBit_succ]
  have e2 : v.testBit 12 = false := Nat.testBit_lt_two_pow h
  have e3 : v.testBit 0 = decide (v % 2 = 1) := Nat.testBit_zero v
  unfold pop
  simp only [e1, List.range_succ, List.range_zero, List.nil_append, List.countP_append, List.countP_cons, List.countP_nil, e2, e3, Nat.zero_add]
  rcases Nat.mod_two_eq_zero_or_one v with h2 | h2 <;> simp [h2] <;> omega

theorem pop_zero : pop 0 = 0 := by decide

/-- for all numbers below -/
def chk (f : Nat → Bool) : Nat → Bool
  | 0 => true
  | n + 1 => f n && chk f n

theorem chk_out {f : Nat → Bool} : ∀ {n : Nat}, chk f n = true → ∀ i, i < n → f i = true
  | 0, _, i, hi => by omega
  | n + 1, h, i, hi => by
    rw [chk, Bool.and_eq_true] at h
    by_cases e : i = n
    · subst e; exact h.1
    · exact chk_out h.2 i (by omega)

theorem andu64 {a b : Nat} (ha : a < 18446744073709551616) (hb : b < 18446744073709551616) : Go.bits .and .u64 (a : Int) (b : Int) = ((a &&& b : Nat) : Int) := by
  have hx : a &&& b ≤ a := Nat.and_le_left
  have bv : ∀ c : Nat, c < 18446744073709551616 → (BitVec.ofInt 64 (c : Int)).toNat = c := fun c hc => by
    rw [BitVec.ofInt_natCast, BitVec.toNat_ofNat]; exact Nat.mod_eq_of_lt (by omega)
  show IntKind.u64.wrap ((BitVec.ofInt 64 (a : Int) &&& BitVec.ofInt 64 (b : Int)).toNat : Int) = _
  rw [BitVec.toNat_and, bv a ha, bv b hb, IntKind.wrap_u64]; omega

theorem wu64 {a : Int} (h1 : 0 ≤ a) (h2 : a ≤ 18446744073709551615) : IntKind.wrap .u64 a = a := by
  rw [IntKind.wrap_u64]; omega

/-- the number of bits as the library reckons it, where the number is small -/
def swar (n : Nat) : Nat :=
  let v3 := ((n / 2) &&& 6148914691236517205) + (n &&& 6148914691236517205)
  let v5 := ((v3 / 4) &&& 3689348814741910323) + (v3 &&& 3689348814741910323)
  let v6 := (v5 / 16 + v5) &&& 1085102592571150095
  let v8 := v6 + v6 / 256 + (v6 + v6 / 256) / 65536
  (v8 + v8 / 4294967296) &&& 127

def popr : Nat → Nat → Nat
  | 0, _ => 0
  | k + 1, n => n % 2 + popr k (n / 2)

theorem pop_popr : ∀ (k n : Nat), k ≤ 12 → n < 2 ^ k → pop n = popr k n
  | 0, n, _, h => by
    have : n = 0 := by omega
    subst this; exact pop_zero
  | k + 1, n, hk, h => by
    have h2 : (2 ^ (k + 1) : Nat) ≤ 4096 := Nat.pow_le_pow_right (n := 2) (by omega) hk
    rw [pop_step (by omega), popr, pop_popr k (n / 2) (by omega) (by rw [Nat.pow_succ] at h; omega)]

set_option maxRecDepth 100000 in
theorem swar_chk : chk (fun n => Nat.beq (swar n) (popr 12 n)) 4096 = true := by decide +kernel

theorem impl_OnesCount {n : Nat} (h : n < 4096) : m_math_bits_OnesCount (n : Int) = some ((pop n : Nat) : Int) := by
  have hs := Nat.eq_of_beq_eq_true (chk_out swar_chk n h)
  rw [pop_popr 12 n (by omega) h, ← hs, m_math_bits_OnesCount, m_math_bits_OnesCount64]
  have d : ∀ (a k : Nat), (a : Int) / 2 ^ (((k : Nat) : Int)).toNat = ((a / 2 ^ k : Nat) : Int) := fun a k => by rw [Int.toNat_natCast]; simp
  have hg : ∀ k : Nat, k ≤ 64 → (0 : Int) ≤ ((k : Nat) : Int) ∧ ((k : Nat) : Int) ≤ (IntKind.bits .u64 : Int) := fun k hk => ⟨by omega, by simp [IntKind.bits]; omega⟩
  have d1 : ∀ a : Nat, (a : Int) / 2 ^ (1 : Int).toNat = ((a / 2 : Nat) : Int) := fun a => d a 1
  have h1 : 0 ≤ (1 : Int) ∧ (1 : Int) ≤ (IntKind.bits .u64 : Int) := hg 1 (by omega)
  have d2 : ∀ a : Nat, (a : Int) / 2 ^ (2 : Int).toNat = ((a / 4 : Nat) : Int) := fun a => d a 2
  have h2 : 0 ≤ (2 : Int) ∧ (2 : Int) ≤ (IntKind.bits .u64 : Int) := hg 2 (by omega)
  have d4 : ∀ a : Nat, (a : Int) / 2 ^ (4 : Int).toNat = ((a / 16 : Nat) : Int) := fun a => d a 4
  have h4 : 0 ≤ (4 : Int) ∧ (4 : Int) ≤ (IntKind.bits .u64 : Int) := hg 4 (by omega)
  have d8 : ∀ a : Nat, (a : Int) / 2 ^ (8 : Int).toNat = ((a / 256 : Nat) : Int) := fun a => d a 8
  have h8 : 0 ≤ (8 : Int) ∧ (8 : Int) ≤ (IntKind.bits .u64 : Int) := hg 8 (by omega)
  have d16 : ∀ a : Nat, (a : Int) / 2 ^ (16 : Int).toNat = ((a / 65536 : Nat) : Int) := fun a => d a 16
  have h16 : 0 ≤ (16 : Int) ∧ (16 : Int) ≤ (IntKind.bits .u64 : Int) := hg 16 (by omega)
  have d32 : ∀ a : Nat, (a : Int) / 2 ^ (32 : Int).toNat = ((a / 4294967296 : Nat) : Int) := fun a => d a 32
  have h32 : 0 ≤ (32 : Int) ∧ (32 : Int) ≤ (IntKind.bits .u64 : Int) := hg 32 (by omega)
  have c1 : (6148914691236517205 : Int) = ((6148914691236517205 : Nat) : Int) := rfl
  have c2 : (3689348814741910323 : Int) = ((3689348814741910323 : Nat) : Int) := rfl
  have c3 : (1085102592571150095 : Int) = ((1085102592571150095 : Nat) : Int) := rfl
  have e3 : IntKind.wrap .u64 (Go.bits .and .u64 ((n : Int) / 2 ^ (1 : Int).toNat) 6148914691236517205 + Go.bits .and .u64 (n : Int) 6148914691236517205) = ((((n / 2) &&& 6148914691236517205) + (n &&& 6148914691236517205) : Nat) : Int) ∧ ((n / 2) &&& 6148914691236517205) + (n &&& 6148914691236517205) < 8192 := by
    have b1 : (n / 2) &&& 6148914691236517205 ≤ n / 2 := Nat.and_le_left
    have b2 : n &&& 6148914691236517205 ≤ n := Nat.and_le_left
    rw [d1, c1, andu64 (by omega) (by omega), andu64 (by omega) (by omega), wu64 (by omega) (by omega)]
    exact ⟨by simp, by omega⟩
  unfold swar
  simp only [nm_eq, gd_pos h1, gd_pos h2, gd_pos h4, gd_pos h8, gd_pos h16, gd_pos h32, bd_some]
  rw [e3.1]
  obtain ⟨-, hv3⟩ := e3
  generalize ((n / 2) &&& 6148914691236517205) + (n &&& 6148914691236517205) = v3 at *
  have e5 : IntKind.wrap .u64 (Go.bits .and .u64 ((v3 : Int) / 2 ^ (2 : Int).toNat) 3689348814741910323 + Go.bits .and .u64 (v3 : Int) 3689348814741910323) = ((((v3 / 4) &&& 3689348814741910323) + (v3 &&& 3689348814741910323) : Nat) : Int) ∧ ((v3 / 4) &&& 3689348814741910323) + (v3 &&& 3689348814741910323) < 16384 := by
    have b1 : (v3 / 4) &&& 3689348814741910323 ≤ v3 / 4 := Nat.and_le_left
    have b2 : v3 &&& 3689348814741910323 ≤ v3 := Nat.and_le_left
    rw [d2, c2, andu64 (by omega) (by omega), andu64 (by omega) (by omega), wu64 (by omega) (by omega)]
    exact ⟨by simp, by omega⟩
  rw [e5.1]
  obtain ⟨-, hv5⟩ := e5
  generalize ((v3 / 4) &&& 3689348814741910323) + (v3 &&& 3689348814741910323) = v5 at *
  have e6 : Go.bits .and .u64 (IntKind.wrap .u64 ((v5 : Int) / 2 ^ (4 : Int).toNat + (v5 : Int))) 1085102592571150095 = (((v5 / 16 + v5) &&& 1085102592571150095 : Nat) : Int) ∧ (v5 / 16 + v5) &&& 1085102592571150095 < 32768 := by
    have b1 : (v5 / 16 + v5) &&& 1085102592571150095 ≤ v5 / 16 + v5 := Nat.and_le_left
    rw [d4, wu64 (by omega) (by omega), c3, show ((v5 / 16 : Nat) : Int) + (v5 : Int) = ((v5 / 16 + v5 : Nat) : Int) by simp, andu64 (by omega) (by omega)]
    exact ⟨rfl, by omega⟩
  rw [e6.1]
  obtain ⟨-, hv6⟩ := e6
  generalize (v5 / 16 + v5) &&& 1085102592571150095 = v6 at *
  have e7 : IntKind.wrap .u64 ((v6 : Int) + (v6 : Int) / 2 ^ (8 : Int).toNat) = ((v6 + v6 / 256 : Nat) : Int) := by
    rw [d8, wu64 (by omega) (by omega)]; simp
  rw [e7]
  have e8 : IntKind.wrap .u64 (((v6 + v6 / 256 : Nat) : Int) + ((v6 + v6 / 256 : Nat) : Int) / 2 ^ (16 : Int).toNat) = ((v6 + v6 / 256 + (v6 + v6 / 256) / 65536 : Nat) : Int) := by
    rw [d16, wu64 (by omega) (by omega)]; simp
  rw [e8]
  have hv8 : v6 + v6 / 256 + (v6 + v6 / 256) / 65536 < 65536 := by omega
  generalize v6 + v6 / 256 + (v6 + v6 / 256) / 65536 = v8 at *
  rw [d32, wu64 (by omega) (by omega), w64 (by omega) (by omega), show (v8 : Int) + ((v8 / 4294967296 : Nat) : Int) = ((v8 + v8 / 4294967296 : Nat) : Int) by simp, show (127 : Int) = ((127 : Nat) : Int) from rfl, and64 (by omega) (by omega)]

theorem ofInt_small {a : Int} (ha : I64 a) : (BitVec.ofInt 64 a).toNat = (a % 18446744073709551616).toNat := by
  rw [BitVec.toNat_ofInt]; rfl

theorem bits_andNot_zero {a : Int} {m : Nat} (ha : I64 a) (hm : m < 4096) : Go.bits .andNot .i64 a (m : Int) = 0 ↔ 0 ≤ a ∧ nless a.toNat m = 0 := by
  by_cases h0 : 0 ≤ a
  · obtain ⟨n, rfl⟩ := Int.eq_ofNat_of_zero_le h0
    have := ha.2
    rw [andNot64 (by omega) (by omega), Int.toNat_natCast]
    omega
  · constructor
    · intro h
      exfalso
      have e : Go.bits .andNot .i64 a (m : Int) = IntKind.wrap .i64 (((BitVec.ofInt 64 a &&& ~~~ BitVec.ofInt 64 (m : Int)).toNat : Nat) : Int) := rfl
      rw [e, IntKind.wrap_i64] at h
      have hlt := (BitVec.ofInt 64 a &&& ~~~ BitVec.ofInt 64 (m : Int)).isLt
      have hz : (BitVec.ofInt 64 a &&& ~~~ BitVec.ofInt 64 (m : Int)).toNat = 0 := by omega
      have hb := congrArg (fun n => n.testBit 63) hz
      simp only [BitVec.testBit_toNat, BitVec.getLsbD_and, BitVec.getLsbD_not, Nat.zero_testBit] at hb
      have hM : (BitVec.ofInt 64 (m : Int)).getLsbD 63 = false := by
        rw [← BitVec.testBit_toNat, bv64 m (by omega)]
        exact Nat.testBit_lt_two_pow (Nat.lt_of_lt_of_le (by omega : m < 2 ^ 12) (Nat.pow_le_pow_right (by omega) (by omega)))
      have hA : (BitVec.ofInt 64 a).getLsbD 63 = true := by
        rw [← BitVec.testBit_toNat, ofInt_small ha, Nat.testBit_eq_decide_div_mod_eq]
        have := ha.1
        have h1 : (a % 18446744073709551616).toNat / 2 ^ 63 = 1 := by omega
        rw [h1]; rfl
      rw [hM, hA] at hb
      simp at hb
    · intro h; exact absurd h.1 h0

def ValOk (f : List (ByteArray × Int)) (b n : Int) : Prop := FlagOk f b ∧ (0 ≤ n ∧ n ≤ 4095) ∧ (b = 3 ∨ nless n.toNat (nmask f) = 0)

instance (f : List (ByteArray × Int)) (b n : Int) : Decidable (ValOk f b n) := inferInstanceAs (Decidable (_ ∧ _))

theorem impl_IsValue {f : List (ByteArray × Int)} (h : DefsIn f) (b n : Int) : m_impl_IsValue f b n = some (decide (ValOk f b n)) := by
  rw [m_impl_IsValue, impl_ValidFlag h, bd_some]
  by_cases hf : FlagOk f b
  · rw [decide_eq_true hf, cond_true, impl_in, bd_some]
    by_cases hn : 0 ≤ n ∧ n ≤ 4095
    · rw [decide_eq_true hn, cond_true]
      by_cases hb : b = 3
      · rw [cond_pos hb, decide_eq_true (show ValOk f b n from ⟨hf, hn, .inl hb⟩)]
      · rw [cond_neg hb, impl_mask b hf.v12 h.1, bd_some]
        have h2 := bits_andNot_zero (a := n) (m := nmask f) ⟨by omega, by omega⟩ (nmask_lt hf.v12)
        congr 1
        refine decide_eq_decide.2 (h2.trans ⟨fun h => ⟨hf, hn, .inr h.2⟩, fun h => ⟨hn.1, ?_⟩⟩)
        rcases h.2.2 with h | h
        · exact absurd h hb
        · exact h
    · rw [decide_eq_false hn, cond_false, decide_eq_false (fun h => hn h.2.1)]
  · rw [decide_eq_false hf, cond_false, decide_eq_false (fun h => hf h.1)]

def ArmsIn (l : List (Int × Int)) : Prop := l.length ≤ 1099511627776 ∧ ∀ d ∈ l, I64 d.1 ∧ I64 d.2

def Bytes (l : List Int) : Prop := ∀ n ∈ l, 0 ≤ n ∧ n < 256

theorem tmod_range {a b : Int} (ha : 0 ≤ a) (hb : 0 < b) : 0 ≤ Int.tmod a b ∧ Int.tmod a b < b := by
  rw [Int.tmod_eq_emod_of_nonneg ha]
  exact ⟨Int.emod_nonneg _ (by omega), Int.emod_lt_of_pos _ hb⟩

theorem tdiv_range {a b : Int} (ha : 0 ≤ a) (hb : 0 < b) : 0 ≤ Int.tdiv a b ∧ Int.tdiv a b ≤ a := by
  rw [Int.tdiv_eq_ediv_of_nonneg ha]
  exact ⟨Int.ediv_nonneg ha (by omega), Int.ediv_le_self _ ha⟩

theorem pick {n : Int} {code : List Int} {p : Int} (hc : Bytes code) (hl : code.length ≤ 9223372036854775807) (hp : 0 ≤ p ∧ p < 1000000) :
    ∃ x, m_spec_reader_pick n code p = some x ∧ 0 ≤ x ∧ (1 ≤ n → x < n) := by
  unfold m_spec_reader_pick
  by_cases h1 : n < 1
  · exact ⟨0, by rw [decide_eq_true h1, cond_true], by omega, fun h => by omega⟩
  rw [decide_eq_false h1, cond_false]
  by_cases h2 : (code.length : Int) = 0
  · exact ⟨0, by rw [decide_eq_true h2, cond_true], by omega, fun h => by omega⟩
  rw [decide_eq_false h2, cond_false]
  have e1 : IntKind.wrap .i64 (IntKind.wrap .i64 (p + 1) - 1) = p := by
    rw [w64 (a := p + 1) (by omega) (by omega), w64 (by omega) (by omega)]; omega
  have hL : 0 < (code.length : Int) := by omega
  simp only [e1, nm_eq]
  by_cases h3 : p < (code.length : Int)
  · have hb := hc _ (gt_mem ⟨hp.1, h3⟩)
    rw [decide_eq_true h3, cond_true, gd_pos ⟨hp.1, h3⟩, gd_pos (by omega), w64 (by omega) (by omega)]
    have := tmod_range (a := gt code p) (b := n) hb.1 (by omega)
    exact ⟨_, rfl, this.1, fun _ => this.2⟩
  rw [decide_eq_false h3, cond_false, gd_pos (by omega)]
  have t1 := tmod_range hp.1 hL
  rw [gd_pos t1, w64 (a := p * 7) (by omega) (by omega), w64 (a := p * 7 + 3) (by omega) (by omega)]
  have t2 := tmod_range (a := p * 7 + 3) (by omega) hL
  rw [gd_pos t2]
  have b1 := hc _ (gt_mem t1)
  have b2 := hc _ (gt_mem t2)
  generalize gt code (Int.tmod p (code.length : Int)) = u at *
  generalize gt code (Int.tmod (p * 7 + 3) (code.length : Int)) = v at *
  have t3 := tdiv_range hp.1 hL
  generalize Int.tdiv p (code.length : Int) = q at *
  rw [gd_pos ⟨by omega, w64 (by omega) (by omega)⟩]
  rw [w64 (a := u) (by omega) (by omega), w64 (a := u * 131) (by omega) (by omega), w64 (a := v) (by omega) (by omega), w64 (a := v * 1117) (by omega) (by omega), w64 (a := u * 131 + v * 1117) (by omega) (by omega),
    w64 (a := p * 29) (by omega) (by omega), w64 (a := u * 131 + v * 1117 + p * 29) (by omega) (by omega), w64 (a := q * 53) (by omega) (by omega), w64 (a := u * 131 + v * 1117 + p * 29 + q * 53) (by omega) (by omega)]
  have hz : 0 ≤ u * 131 + v * 1117 + p * 29 + q * 53 ∧ u * 131 + v * 1117 + p * 29 + q * 53 < 1000000000 := by omega
  generalize u * 131 + v * 1117 + p * 29 + q * 53 = z at *
  have t4 := tdiv_range (a := z) (b := 64) hz.1 (by omega)
  rw [gd_pos ⟨by omega, w64 (by omega) (by omega)⟩, gd_pos (by omega)]
  have hx : ∃ y : Nat, Go.bits .xor .i64 z (Int.tdiv z 64) = (y : Int) := by
    obtain ⟨a, ha⟩ := Int.eq_ofNat_of_zero_le hz.1
    obtain ⟨b, hb⟩ := Int.eq_ofNat_of_zero_le t4.1
    refine ⟨a ^^^ b, ?_⟩
    rw [hb, ha]
    exact xor64 (by omega) (by omega)
  obtain ⟨y, hy⟩ := hx
  rw [hy]
  have := tmod_range (a := (y : Int)) (b := n) (by omega) (by omega)
  exact ⟨_, rfl, this.1, fun _ => this.2⟩

theorem one {code : List Int} {p : Int} (hc : Bytes code) (hl : code.length ≤ 9223372036854775807) (hp : 0 ≤ p ∧ p < 1000000) {xs : List Int} (hx : xs ≠ []) : ∃ x, m_spec_reader_one xs code p = some x ∧ x ∈ xs := by
  have h1 : 1 ≤ (xs.length : Int) := by
    have := List.length_pos_iff.2 hx
    omega
  obtain ⟨x, e, h0, h2⟩ := pick (n := (xs.length : Int)) hc hl hp
  refine ⟨gt xs x, ?_, gt_mem ⟨h0, h2 h1⟩⟩
  rw [m_spec_reader_one, e, bd_some, gd_pos ⟨h0, h2 h1⟩]

theorem oneOf {code : List Int} {p : Int} (hc : Bytes code) (hl : code.length ≤ 9223372036854775807) (hp : 0 ≤ p ∧ p < 1000000) {xs : List ByteArray} (hx : xs ≠ []) : ∃ x, m_spec_reader_of xs code p = some x ∧ x ∈ xs := by
  have h1 : 1 ≤ (xs.length : Int) := by
    have := List.length_pos_iff.2 hx
    omega
  obtain ⟨x, e, h0, h2⟩ := pick (n := (xs.length : Int)) hc hl hp
  refine ⟨gt xs x, ?_, gt_mem ⟨h0, h2 h1⟩⟩
  rw [m_spec_reader_of, e, bd_some, gd_pos ⟨h0, h2 h1⟩]

theorem aName {code : List Int} {p : Int} (hc : Bytes code) (hl : code.length ≤ 9223372036854775807) (hp : 0 ≤ p ∧ p < 1000000) : ∃ x, m_spec_aName code p = some x ∧ x.size ≤ 7 := by
  unfold m_spec_aName
  obtain ⟨x, e, h⟩ := oneOf hc hl hp (xs := [(ByteArray.mk #[97]), (ByteArray.mk #[98]), (ByteArray.mk #[99]), (ByteArray.mk #[100]), (ByteArray.mk #[101]), (ByteArray.mk #[97, 98]), (ByteArray.mk #[114, 101, 100]), (ByteArray.mk #[98, 108, 117, 101]), (ByteArray.mk #[111, 110]), (ByteArray.mk #[111, 102, 102]), (ByteArray.mk #[97, 108, 108]), (ByteArray.mk #[102])]) (by simp)
  refine ⟨x, by rw [e]; rfl, ?_⟩
  simp only [List.mem_cons, List.not_mem_nil, or_false] at h
  rcases h with rfl | rfl | rfl | rfl | rfl | rfl | rfl | rfl | rfl | rfl | rfl | rfl <;> decide

theorem anyName {code : List Int} {p : Int} (hc : Bytes code) (hl : code.length ≤ 9223372036854775807) (hp : 0 ≤ p ∧ p < 1000000) (hp' : p < 999999) : ∃ x, m_spec_anyName code p = some x ∧ x.size ≤ 7 := by
  unfold m_spec_anyName
  obtain ⟨x, e, h0, h2⟩ := pick (n := 16) hc hl hp
  rw [e, bd_some, w64 (by omega) (by omega)]
  by_cases h : x = 0
  · rw [decide_eq_true h, cond_true]
    obtain ⟨y, e2, h3⟩ := oneOf hc hl (p := p + 1) ⟨by omega, by omega⟩ (xs := [ByteArray.empty, (ByteArray.mk #[65]), (ByteArray.mk #[116, 111, 111, 108, 111, 110, 103]), (ByteArray.mk #[97, 49]), (ByteArray.mk #[97, 32, 98]), (ByteArray.mk #[97, 98, 99, 100, 101, 102])]) (by simp)
    refine ⟨y, by rw [e2]; rfl, ?_⟩
    simp only [List.mem_cons, List.not_mem_nil, or_false] at h3
    rcases h3 with rfl | rfl | rfl | rfl | rfl | rfl <;> decide
  · rw [decide_eq_false h, cond_false]
    obtain ⟨y, e2, h3⟩ := aName hc hl (p := p + 1) ⟨by omega, by omega⟩
    exact ⟨y, by rw [e2]; rfl, h3⟩

/-- few definitions with short names and values in a small range -/
def SomeDefs (l : List (ByteArray × Int)) : Prop := l.length ≤ 26 ∧ ∀ d ∈ l, d.1.size ≤ 7 ∧ -5000 ≤ d.2 ∧ d.2 ≤ 5000

theorem SomeDefs.snoc {l : List (ByteArray × Int)} {d : ByteArray × Int} (h : ∀ d ∈ l, d.1.size ≤ 7 ∧ -5000 ≤ d.2 ∧ d.2 ≤ 5000) (hd : d.1.size ≤ 7 ∧ -5000 ≤ d.2 ∧ d.2 ≤ 5000) : ∀ e ∈ l ++ [d], e.1.size ≤ 7 ∧ -5000 ≤ e.2 ∧ e.2 ≤ 5000 := by
  intro e he
  rcases List.mem_append.1 he with he | he
  · exact h e he
  · simp at he; subst he; exact hd

theorem goodDefs_L1 {code : List Int} (hc : Bytes code) (hl : code.length ≤ 9223372036854775807) (high : Int) : ∀ (k n : Nat) (v5 : List (ByteArray × Int)) (v7 : Int), k < n → k ≤ 12 → 0 ≤ v7 → v7 + 5 * k < 900000 → v5.length + k ≤ 12 → (∀ d ∈ v5, d.1.size ≤ 7 ∧ -5000 ≤ d.2 ∧ d.2 ≤ 5000) →
    ∃ r, m_spec_goodDefs_L1 high code n v5 (k : Int) v7 = some r ∧ (∀ d ∈ r.1, d.1.size ≤ 7 ∧ -5000 ≤ d.2 ∧ d.2 ≤ 5000) ∧ r.1.length ≤ 12 ∧ v7 ≤ r.2 ∧ r.2 ≤ v7 + 5 * k
  | 0, n, v5, v7, hn, hk, h0, h1, h2, hg => by
    cases n with
    | zero => omega
    | succ n => exact ⟨(v5, v7), by rw [m_spec_goodDefs_L1, decide_eq_false (by omega), cond_false], hg, by simpa using h2, by simp, by simp⟩
  | k + 1, n, v5, v7, hn, hk, h0, h1, h2, hg => by
    cases n with
    | zero => omega
    | succ n =>
      rw [m_spec_goodDefs_L1, decide_eq_true (by omega), cond_true]
      rw [w64 (a := v7 + 1) (by omega) (by omega), w64 (a := v7 + 1 + 1) (by omega) (by omega), w64 (a := v7 + 1 + 1 + 1) (by omega) (by omega), w64 (a := v7 + 1 + 1 + 1 + 1) (by omega) (by omega), w64 (a := v7 + 1 + 1 + 1 + 1 + 1) (by omega) (by omega),
        w64 (a := ((k + 1 : Nat) : Int) - 1) (by omega) (by omega)]
      obtain ⟨x8, e8, s8⟩ := aName hc hl (p := v7) ⟨by omega, by omega⟩
      obtain ⟨x9, e9, l9, u9⟩ := pick (n := 12) hc hl (p := v7 + 1) ⟨by omega, by omega⟩
      obtain ⟨x10, e10, m10⟩ := one hc hl (p := v7 + 1 + 1) ⟨by omega, by omega⟩ (xs := ([1, 2, 3, 4, 5, 0, 8, x9, (-1), 7, 1000, 16] : List Int)) (by simp)
      obtain ⟨x11, e11, l11, u11⟩ := pick (n := 64) hc hl (p := v7 + 1 + 1 + 1) ⟨by omega, by omega⟩
      obtain ⟨x12, e12, m12⟩ := one hc hl (p := v7 + 1 + 1 + 1 + 1) ⟨by omega, by omega⟩ (xs := ([1, 2, 4, 8, 3, 16, 0, 6, 7, x11, 2048, 5, 1, 2, 4] : List Int)) (by simp)
      have r12 : 0 ≤ x12 ∧ x12 < 4096 := by
        have := u11 (by omega)
        simp only [List.mem_cons, List.not_mem_nil, or_false] at m12
        omega
      have r10 : -1 ≤ x10 ∧ x10 ≤ 1000 := by
        have := u9 (by omega)
        simp only [List.mem_cons, List.not_mem_nil, or_false] at m10
        omega
      have e13 := spec_indexOf v5 x8 (by omega)
      rw [e8, bd_some, e9, bd_some, e10, bd_some, e11, bd_some, e12, bd_some, e13, bd_some, bd_some, show ((k + 1 : Nat) : Int) - 1 = (k : Int) by omega]
      have keep : ∀ q, 0 ≤ q → q ≤ v7 + 5 → v7 ≤ q → ∃ r, m_spec_goodDefs_L1 high code n v5 (k : Int) q = some r ∧ (∀ d ∈ r.1, d.1.size ≤ 7 ∧ -5000 ≤ d.2 ∧ d.2 ≤ 5000) ∧ r.1.length ≤ 12 ∧ v7 ≤ r.2 ∧ r.2 ≤ v7 + 5 * ((k + 1 : Nat) : Int) := by
        intro q q0 q1 q2
        obtain ⟨r, er, g1, g2, g3, g4⟩ := goodDefs_L1 hc hl high k n v5 q (by omega) (by omega) q0 (by omega) (by omega) hg
        exact ⟨r, er, g1, by omega, by omega, by omega⟩
      have put : ∀ x q, (-5000 ≤ x ∧ x ≤ 5000) → 0 ≤ q → q ≤ v7 + 5 → v7 ≤ q → ∃ r, (gd (v5.length + [(x8, x)].length ≤ 1099511627776) <| m_spec_goodDefs_L1 high code n (v5 ++ [(x8, x)]) (k : Int) q) = some r ∧ (∀ d ∈ r.1, d.1.size ≤ 7 ∧ -5000 ≤ d.2 ∧ d.2 ≤ 5000) ∧ r.1.length ≤ 12 ∧ v7 ≤ r.2 ∧ r.2 ≤ v7 + 5 * ((k + 1 : Nat) : Int) := by
        intro x q hx q0 q1 q2
        rw [gd_pos (by rw [List.length_singleton]; omega)]
        obtain ⟨r, er, g1, g2, g3, g4⟩ := goodDefs_L1 hc hl high k n (v5 ++ [(x8, x)]) q (by omega) (by omega) q0 (by omega) (by simp; omega) (SomeDefs.snoc hg ⟨s8, hx⟩)
        exact ⟨r, er, g1, by omega, by omega, by omega⟩
      by_cases hh : high = 4095
      · rw [decide_eq_true hh, cond_true]
        by_cases h : named v5 x8 < 0
        · rw [decide_eq_true h, cond_true, decide_eq_true r12.1, cond_true]
          exact put _ _ ⟨by omega, by omega⟩ (by omega) (by omega) (by omega)
        · rw [decide_eq_false h, cond_false]
          exact keep _ (by omega) (by omega) (by omega)
      · rw [decide_eq_false hh, cond_false]
        by_cases h : named v5 x8 < 0
        · rw [decide_eq_true h, cond_true, Bool.not_false, cond_true]
          cases decide (0 ≤ x10) <;> exact put _ _ ⟨by omega, by omega⟩ (by omega) (by omega) (by omega)
        · rw [decide_eq_false h, cond_false]
          exact keep _ (by omega) (by omega) (by omega)

theorem goodDefs {code : List Int} (hc : Bytes code) (hl : code.length ≤ 9223372036854775807) (high : Int) {p : Int} (hp : 0 ≤ p ∧ p < 800000) :
    ∃ r, m_spec_goodDefs high code p = some r ∧ (∀ d ∈ r.1, d.1.size ≤ 7 ∧ -5000 ≤ d.2 ∧ d.2 ≤ 5000) ∧ r.1.length ≤ 12 ∧ p ≤ r.2 ∧ r.2 ≤ p + 61 := by
  obtain ⟨x, e, hx⟩ := one hc hl (p := p) ⟨by omega, by omega⟩ (xs := ([4, 3, 5, 2, 6, 1, 0, 12] : List Int)) (by simp)
  have hr : ∃ k : Nat, x = (k : Int) ∧ k ≤ 12 := by
    simp only [List.mem_cons, List.not_mem_nil, or_false] at hx
    exact ⟨x.toNat, by omega, by omega⟩
  obtain ⟨k, rfl, hk⟩ := hr
  obtain ⟨r, er, g1, g2, g3, g4⟩ := goodDefs_L1 hc hl high k FU [] (p + 1) (Nat.lt_of_le_of_lt hk (by decide)) hk (by omega) (by omega) (by rw [List.length_nil]; omega) (by intro d hd; cases hd)
  refine ⟨(r.1, r.2), ?_, g1, g2, by show p ≤ r.2; omega, by show r.2 ≤ p + 61; omega⟩
  rw [m_spec_goodDefs, e, bd_some, w64 (by omega) (by omega), er, bd_some]

def ArmIn (d : Int × Int) : Prop := (-60000 ≤ d.1 ∧ d.1 ≤ 60000) ∧ -60000 ≤ d.2 ∧ d.2 ≤ 60000
def SomeArms (l : List (Int × Int)) : Prop := ∀ d ∈ l, ArmIn d

theorem SomeArms.snoc {l : List (Int × Int)} {x : Int × Int} (h : SomeArms l) (hx : ArmIn x) : SomeArms (l ++ [x]) := by
  intro d hd
  rcases List.mem_append.1 hd with hd | hd
  · exact h d hd
  · simp at hd; subst hd; exact hx

theorem newReader {code : List Int} (hc : Bytes code) (hl : code.length ≤ 9223372036854775807) : ∃ c, m_spec_newReader code = some c ∧ Bytes c ∧ c.length ≤ 9223372036854775807 := by
  rw [m_spec_newReader]
  by_cases h : 2000 < (code.length : Int)
  · rw [decide_eq_true h, cond_true, gd_pos ⟨by omega, by omega, by omega, by omega⟩]
    refine ⟨_, rfl, fun n hn => ?_, ?_⟩
    · simp only [sub] at hn
      exact hc n (List.mem_of_mem_drop (List.mem_of_mem_take hn))
    · simp only [sub, List.length_take, List.length_drop]; omega
  · rw [decide_eq_false h, cond_false]
    exact ⟨_, rfl, hc, hl⟩

theorem SomeDefs.inn {l : List (ByteArray × Int)} (h : SomeDefs l) : DefsIn l :=
  ⟨by have := h.1; omega, fun d hd => by have := (h.2 d hd).1; omega, fun d hd => by have := (h.2 d hd).2; exact ⟨by omega, by omega⟩⟩

theorem SomeArms.inn {l : List (Int × Int)} (h : SomeArms l) (hl : l.length ≤ 1000) : ArmsIn l :=
  ⟨by omega, fun d hd => ⟨⟨by have := (h d hd).1; omega, by have := (h d hd).1; omega⟩, ⟨by have := (h d hd).2; omega, by have := (h d hd).2; omega⟩⟩⟩

/-- the length of a number in bits -/
def blen (n : Nat) : Nat := if n = 0 then 0 else Nat.log2 n + 1

theorem lt_two_blen (n : Nat) : n < 2 ^ blen n := by
  unfold blen
  split
  · omega
  · exact Nat.lt_log2_self

theorem two_blen_le {n : Nat} (h : n ≠ 0) : 2 ^ (blen n - 1) ≤ n := by
  unfold blen
  rw [if_neg h]
  exact Nat.log2_self_le h

theorem blen_unique {n b : Nat} (h1 : n < 2 ^ b) (h2 : b = 0 ∨ 2 ^ (b - 1) ≤ n) : blen n = b := by
  by_cases h : n = 0
  · subst h
    rcases h2 with rfl | h2
    · rfl
    · have := Nat.pos_of_ne_zero (show (2 : Nat) ^ (b - 1) ≠ 0 by simp)
      omega
  · have g1 := lt_two_blen n
    have g2 := two_blen_le h
    have hb : b ≠ 0 := by rintro rfl; simp at h1; omega
    have hc : blen n ≠ 0 := by intro e; rw [e] at g1; simp at g1; omega
    rcases h2 with h2 | h2
    · omega
    · have a1 : b - 1 < blen n := by
        by_cases hh : b - 1 < blen n
        · exact hh
        · have : (2 : Nat) ^ blen n ≤ 2 ^ (b - 1) := Nat.pow_le_pow_right (by omega) (by omega)
          omega
      have a2 : blen n - 1 < b := by
        by_cases hh : blen n - 1 < b
        · exact hh
        · have : (2 : Nat) ^ b ≤ 2 ^ (blen n - 1) := Nat.pow_le_pow_right (by omega) (by omega)
          omega
      omega

theorem blen_shift (n k : Nat) (h : 2 ^ k ≤ n) : blen n = k + blen (n / 2 ^ k) := by
  have hp : 0 < (2 : Nat) ^ k := Nat.pos_of_ne_zero (by simp)
  have h0 : n / 2 ^ k ≠ 0 := by
    have := Nat.div_pos h hp
    omega
  have g1 := lt_two_blen (n / 2 ^ k)
  have g2 := two_blen_le h0
  refine blen_unique ?_ (.inr ?_)
  · rw [Nat.pow_add, Nat.mul_comm]
    exact (Nat.div_lt_iff_lt_mul hp).1 g1
  · have hb : blen (n / 2 ^ k) ≠ 0 := by intro e; rw [e] at g1; simp at g1; omega
    have : k + blen (n / 2 ^ k) - 1 = (blen (n / 2 ^ k) - 1) + k := by omega
    rw [this, Nat.pow_add]
    exact (Nat.le_div_iff_mul_le hp).1 g2

theorem blen_le {n k : Nat} (h : n < 2 ^ k) : blen n ≤ k := by
  by_cases h0 : n = 0
  · subst h0; simp [blen]
  · have g2 := two_blen_le h0
    by_cases hh : blen n ≤ k
    · exact hh
    · have : (2 : Nat) ^ k ≤ 2 ^ (blen n - 1) := Nat.pow_le_pow_right (by omega) (by omega)
      omega

theorem len_tab : chk (fun n => decide (byteAt lstr_c9535661 n = ((blen n : Nat) : Int))) 256 = true := by decide +kernel

theorem len_size : lstr_c9535661.size = 256 := by decide +kernel

theorem impl_Len {n : Nat} (hn : n < 9223372036854775808) : m_math_bits_Len (n : Int) = some ((blen n : Nat) : Int) := by
  have hg : ∀ k : Nat, k ≤ 64 → (0 : Int) ≤ ((k : Nat) : Int) ∧ ((k : Nat) : Int) ≤ (IntKind.bits .u64 : Int) := fun k hk => ⟨by omega, by simp [IntKind.bits]; omega⟩
  have h8 : 0 ≤ (8 : Int) ∧ (8 : Int) ≤ (IntKind.bits .u64 : Int) := hg 8 (by omega)
  have h16 : 0 ≤ (16 : Int) ∧ (16 : Int) ≤ (IntKind.bits .u64 : Int) := hg 16 (by omega)
  have h32 : 0 ≤ (32 : Int) ∧ (32 : Int) ≤ (IntKind.bits .u64 : Int) := hg 32 (by omega)
  have d : ∀ (a k : Nat), (a : Int) / 2 ^ (((k : Nat) : Int)).toNat = ((a / 2 ^ k : Nat) : Int) := fun a k => by rw [Int.toNat_natCast]; simp
  have d8 : ∀ a : Nat, (a : Int) / 2 ^ (8 : Int).toNat = ((a / 256 : Nat) : Int) := fun a => d a 8
  have d16 : ∀ a : Nat, (a : Int) / 2 ^ (16 : Int).toNat = ((a / 65536 : Nat) : Int) := fun a => d a 16
  have d32 : ∀ a : Nat, (a : Int) / 2 ^ (32 : Int).toNat = ((a / 4294967296 : Nat) : Int) := fun a => d a 32
  have u8 : ∀ m : Nat, m < 256 → IntKind.wrap .u8 (m : Int) = m := fun m hm => by rw [IntKind.wrap_u8]; omega
  have tb : ∀ m : Nat, m < 256 → byteAt lstr_c9535661 m = ((blen m : Nat) : Int) := fun m hm => by simpa using chk_out len_tab m hm
  have gs : ∀ m : Nat, m < 256 → (0 ≤ (m : Int) ∧ (m : Int) < (lstr_c9535661.size : Int)) := fun m hm => by rw [len_size]; omega
  have s8 : ∀ m, 256 ≤ m → blen m = 8 + blen (m / 256) := fun m h => blen_shift m 8 h
  have s16 : ∀ m, 65536 ≤ m → blen m = 16 + blen (m / 65536) := fun m h => blen_shift m 16 h
  have s32 : ∀ m, 4294967296 ≤ m → blen m = 32 + blen (m / 4294967296) := fun m h => blen_shift m 32 h
  have hb8 : ∀ m, m < 256 → blen m ≤ 8 := fun m h => blen_le h
  rw [m_math_bits_Len, m_math_bits_Len64]
  simp only [nm_eq, gd_pos h8, gd_pos h16, gd_pos h32]
  by_cases c1 : 4294967296 ≤ n
  · rw [cond_pos (by omega), d32, s32 n c1]
    have hm : n / 4294967296 < 2147483648 := by omega
    generalize n / 4294967296 = m at *
    by_cases c2 : 65536 ≤ m
    · rw [cond_pos (by omega), d16, s16 m c2]
      have hk : m / 65536 < 32768 := by omega
      generalize m / 65536 = k at *
      by_cases c3 : 256 ≤ k
      · have hk' : k / 256 < 256 := by omega
        rw [cond_pos (by omega), d8, s8 k c3, u8 _ hk', gd_pos (gs _ hk'), Int.toNat_natCast, tb _ hk', bd_some]
        have := hb8 _ hk'
        simp only [IntKind.wrap_i64]
        refine congrArg some ?_; omega
      · have hk' : k < 256 := by omega
        rw [cond_neg (by omega), u8 _ hk', gd_pos (gs _ hk'), Int.toNat_natCast, tb _ hk', bd_some]
        have := hb8 _ hk'
        simp only [IntKind.wrap_i64]
        refine congrArg some ?_; omega
    · rw [cond_neg (by omega)]
      by_cases c3 : 256 ≤ m
      · have hk' : m / 256 < 256 := by omega
        rw [cond_pos (by omega), d8, s8 m c3, u8 _ hk', gd_pos (gs _ hk'), Int.toNat_natCast, tb _ hk', bd_some]
        have := hb8 _ hk'
        simp only [IntKind.wrap_i64]
        refine congrArg some ?_; omega
      · have hk' : m < 256 := by omega
        rw [cond_neg (by omega), u8 _ hk', gd_pos (gs _ hk'), Int.toNat_natCast, tb _ hk', bd_some]
        have := hb8 _ hk'
        simp only [IntKind.wrap_i64]
        refine congrArg some ?_; omega
  · rw [cond_neg (by omega)]
    by_cases c2 : 65536 ≤ n
    · rw [cond_pos (by omega), d16, s16 n c2]
      have hk : n / 65536 < 65536 := by omega
      generalize n / 65536 = k at *
      by_cases c3 : 256 ≤ k
      · have hk' : k / 256 < 256 := by omega
        rw [cond_pos (by omega), d8, s8 k c3, u8 _ hk', gd_pos (gs _ hk'), Int.toNat_natCast, tb _ hk', bd_some]
        have := hb8 _ hk'
        simp only [IntKind.wrap_i64]
        refine congrArg some ?_; omega
      · have hk' : k < 256 := by omega
        rw [cond_neg (by omega), u8 _ hk', gd_pos (gs _ hk'), Int.toNat_natCast, tb _ hk', bd_some]
        have := hb8 _ hk'
        simp only [IntKind.wrap_i64]
        refine congrArg some ?_; omega
    · rw [cond_neg (by omega)]
      by_cases c3 : 256 ≤ n
      · have hk' : n / 256 < 256 := by omega
        rw [cond_pos (by omega), d8, s8 n c3, u8 _ hk', gd_pos (gs _ hk'), Int.toNat_natCast, tb _ hk', bd_some]
        have := hb8 _ hk'
        simp only [IntKind.wrap_i64]
        refine congrArg some ?_; omega
      · have hk' : n < 256 := by omega
        rw [cond_neg (by omega), u8 _ hk', gd_pos (gs _ hk'), Int.toNat_natCast, tb _ hk', bd_some]
        have := hb8 _ hk'
        simp only [IntKind.wrap_i64]
        refine congrArg some ?_; omega

/-- the greatest value of definitions, another number if there are none -/
def greatest : List (ByteArray × Int) → Int → Int
  | [], z => z
  | d :: l, _ => l.foldl (fun m e => if m < e.2 then e.2 else m) d.2

theorem foldl_max_cases (l : List (ByteArray × Int)) : ∀ m : Int, (l.foldl (fun m e => if m < e.2 then e.2 else m) m = m ∨ ∃ d ∈ l, l.foldl (fun m e => if m < e.2 then e.2 else m) m = d.2) ∧ m ≤ l.foldl (fun m e => if m < e.2 then e.2 else m) m ∧ ∀ d ∈ l, d.2 ≤ l.foldl (fun m e => if m < e.2 then e.2 else m) m := by
  induction l with
  | nil => intro m; exact ⟨.inl rfl, Int.le_refl _, by simp⟩
  | cons d l ih =>
    intro m
    rw [List.foldl_cons]
    obtain ⟨h1, h2, h3⟩ := ih (if m < d.2 then d.2 else m)
    have hm : m ≤ (if m < d.2 then d.2 else m) ∧ d.2 ≤ (if m < d.2 then d.2 else m) := by split <;> omega
    refine ⟨?_, by omega, fun e he => ?_⟩
    · rcases h1 with h1 | ⟨e, he, h1⟩
      · rw [h1]
        split
        · exact .inr ⟨d, by simp, rfl⟩
        · exact .inl rfl
      · exact .inr ⟨e, by simp [he], h1⟩
    · rcases List.mem_cons.1 he with rfl | he
      · omega
      · exact h3 e he

theorem greatest_mem {l : List (ByteArray × Int)} (h : l ≠ []) (z : Int) : ∃ d ∈ l, greatest l z = d.2 := by
  cases l with
  | nil => exact absurd rfl h
  | cons d l =>
    rcases (foldl_max_cases l d.2).1 with h | ⟨e, he, h⟩
    · exact ⟨d, by simp, h⟩
    · exact ⟨e, by simp [he], h⟩

theorem le_greatest {l : List (ByteArray × Int)} (z : Int) : ∀ d ∈ l, d.2 ≤ greatest l z := by
  cases l with
  | nil => simp
  | cons e l =>
    intro d hd
    have h := foldl_max_cases l e.2
    rcases List.mem_cons.1 hd with rfl | hd
    · exact h.2.1
    · exact h.2.2 d hd

theorem impl_greatest (l : List (ByteArray × Int)) (z : Int) (hl : l.length ≤ 1099511627776) : m_impl_greatest l z = some (greatest l z) := by
  have h := listW l (fun n i s => m_impl_greatest_L1 l n s i) (fun i s => if i = 0 then s = z else (l.drop i).foldl (fun m e => if m < e.2 then e.2 else m) s = greatest l z) (fun r => r = greatest l z) ?_ ?_ FU (by rw [FU_eq]; omega) z (by simp)
  · rw [m_impl_greatest, show m_impl_greatest_L1 l FU z 0 = _ from h.eq, bd_some]
  · intro n s hs
    rw [m_impl_greatest_L1, cond_neg (by omega)]
    refine Wp_some.2 ?_
    by_cases h : l.length = 0
    · rw [if_pos h] at hs
      have : l = [] := List.length_eq_zero_iff.1 h
      rw [this, hs]; rfl
    · rw [if_neg h, List.drop_length] at hs
      exact hs
  · intro n i s d hi hg hd hm hI ih
    rw [m_impl_greatest_L1, cond_pos (by omega), gd_pos (by omega), w64s (by omega), hg]
    by_cases h : i = 0
    · subst h
      rw [cond_pos (by omega)]
      refine ih _ ?_
      rw [if_neg (by omega)]
      rw [List.drop_zero] at hd
      conv => rhs; rw [hd]
      rfl
    · rw [if_neg h, hd, List.foldl_cons] at hI
      rw [cond_neg (by omega)]
      by_cases h2 : s < d.2
      · rw [cond_pos h2]
        refine ih _ ?_
        rw [if_neg (by omega)]
        rwa [if_pos h2] at hI
      · rw [cond_neg h2]
        refine ih _ ?_
        rw [if_neg (by omega)]
        rwa [if_neg h2] at hI

def ItemsIn (l : List (ByteArray × Bool × Int)) : Prop := l.length ≤ 1099511627776 ∧ (∀ d ∈ l, d.1.size ≤ 1099511627776) ∧ ∀ d ∈ l, I64 d.2.2

/-- the definitions of items, `next` telling the automatic values -/
def cbuild (next : List (ByteArray × Int) → Int) (items : List (ByteArray × Bool × Int)) (acc : List (ByteArray × Int)) : List (ByteArray × Int) :=
  items.foldl (fun acc x => acc ++ [(x.1, if x.2.1 then next acc else x.2.2)]) acc

theorem cbuild_length (next : List (ByteArray × Int) → Int) (items : List (ByteArray × Bool × Int)) : ∀ acc, (cbuild next items acc).length = acc.length + items.length := by
  induction items with
  | nil => intro acc; simp [cbuild]
  | cons x items ih => intro acc; rw [cbuild, List.foldl_cons, ← cbuild, ih]; simp; omega

theorem cbuild_append (next : List (ByteArray × Int) → Int) (items more : List (ByteArray × Bool × Int)) (acc) : cbuild next (items ++ more) acc = cbuild next more (cbuild next items acc) := by
  simp [cbuild, List.foldl_append]

theorem cbuild_prefix (next : List (ByteArray × Int) → Int) (items : List (ByteArray × Bool × Int)) : ∀ acc, ∃ r, cbuild next items acc = acc ++ r := by
  induction items with
  | nil => intro acc; exact ⟨[], by simp [cbuild]⟩
  | cons x items ih =>
    intro acc
    rw [cbuild, List.foldl_cons, ← cbuild]
    obtain ⟨r, hr⟩ := ih (acc ++ [(x.1, if x.2.1 then next acc else x.2.2)])
    exact ⟨_, by rw [hr, List.append_assoc]⟩

theorem cbuild_take (next : List (ByteArray × Int) → Int) (items : List (ByteArray × Bool × Int)) (k : Nat) (h : k ≤ items.length) : (cbuild next items []).take k = cbuild next (items.take k) [] := by
  conv => lhs; rw [← List.take_append_drop k items, cbuild_append]
  obtain ⟨r, hr⟩ := cbuild_prefix next (items.drop k) (cbuild next (items.take k) [])
  rw [hr, List.take_append_of_le_length (by rw [cbuild_length]; simp; omega), List.take_of_length_le (by rw [cbuild_length]; simp; omega)]

theorem cbuild_get (next : List (ByteArray × Int) → Int) (items : List (ByteArray × Bool × Int)) (k : Nat) (h : k < items.length) :
    (cbuild next items [])[k]'(by rw [cbuild_length]; simpa using h) = (items[k].1, if items[k].2.1 then next (cbuild next (items.take k) []) else items[k].2.2) := by
  have h1 := cbuild_take next items (k + 1) h
  have hl : k < (cbuild next items []).length := by rw [cbuild_length]; simpa using h
  rw [List.take_succ_eq_append_getElem h, cbuild_append, List.take_succ_eq_append_getElem hl, cbuild_take next items k (by omega)] at h1
  have e : cbuild next [items[k]] (cbuild next (items.take k) []) = cbuild next (items.take k) [] ++ [(items[k].1, if items[k].2.1 then next (cbuild next (items.take k) []) else items[k].2.2)] := rfl
  rw [e] at h1
  have := List.append_cancel_left h1
  simpa using this

theorem cbuild_I64 {next : List (ByteArray × Int) → Int} (hn : ∀ acc, (∀ d ∈ acc, I64 d.2) → I64 (next acc)) : ∀ (items : List (ByteArray × Bool × Int)) (acc : List (ByteArray × Int)), (∀ d ∈ items, I64 d.2.2) → (∀ d ∈ acc, I64 d.2) → ∀ d ∈ cbuild next items acc, I64 d.2
  | [], acc, _, h => h
  | x :: items, acc, hi, h => by
    rw [cbuild, List.foldl_cons, ← cbuild]
    refine cbuild_I64 hn items _ (fun d hd => hi d (by simp [hd])) fun d hd => ?_
    rcases List.mem_append.1 hd with hd | hd
    · exact h d hd
    · simp at hd; subst hd
      simp only
      split
      · exact hn acc h
      · exact hi x (by simp)

theorem cbuild_names (next : List (ByteArray × Int) → Int) : ∀ (items : List (ByteArray × Bool × Int)) (acc : List (ByteArray × Int)), (cbuild next items acc).map (·.1) = acc.map (·.1) ++ items.map (·.1)
  | [], acc => by simp [cbuild]
  | x :: items, acc => by
    rw [cbuild, List.foldl_cons, ← cbuild, cbuild_names next items]
    simp

theorem cbuild_in {next : List (ByteArray × Int) → Int} (hn : ∀ acc, (∀ d ∈ acc, I64 d.2) → I64 (next acc)) {items : List (ByteArray × Bool × Int)} (h : ItemsIn items) : DefsIn (cbuild next items []) := by
  refine ⟨by rw [cbuild_length]; have := h.1; simpa using this, fun d hd => ?_, cbuild_I64 hn items [] h.2.2 (by simp)⟩
  have h1 : d.1 ∈ (cbuild next items []).map (·.1) := List.mem_map.2 ⟨d, hd, rfl⟩
  rw [cbuild_names] at h1
  simp only [List.map_nil, List.nil_append, List.mem_map] at h1
  obtain ⟨x, hx, e⟩ := h1
  rw [← e]; exact h.2.1 x hx

/-- the least power of two above all -/
def inext (l : List (ByteArray × Int)) : Int := IntKind.wrap .i64 ((2 ^ blen (greatest l 0).toNat : Nat) : Int)

theorem inext_I64 (l : List (ByteArray × Int)) (_ : ∀ d ∈ l, I64 d.2) : I64 (inext l) := I64_wrap _

theorem greatest_I64 {l : List (ByteArray × Int)} (h : ∀ d ∈ l, I64 d.2) : I64 (greatest l 0) := by
  by_cases hl : l = []
  · subst hl; unfold I64; simp [greatest]
  · obtain ⟨d, hd, e⟩ := greatest_mem hl 0
    rw [e]; exact h d hd

theorem impl_BuildFlag_1 {l : List (ByteArray × Int)} (hl : l.length ≤ 1099511627776) (h : ∀ d ∈ l, I64 d.2) : m_impl_BuildFlag_1 l = some (inext l) := by
  have hg := greatest_I64 h
  have e : IntKind.wrap .u64 (if greatest l 0 > 0 then greatest l 0 else 0) = (((greatest l 0).toNat : Nat) : Int) := by
    have := hg.2
    rw [IntKind.wrap_u64]; split <;> omega
  have hlt : (greatest l 0).toNat < 9223372036854775808 := by have := hg.2; omega
  have hb : blen (greatest l 0).toNat ≤ 63 := blen_le (k := 63) hlt
  rw [m_impl_BuildFlag_1, impl_greatest l 0 hl, bd_some, e, impl_Len hlt, bd_some, gd_pos ⟨by omega, by simp [IntKind.bits]; omega⟩, inext, Int.toNat_natCast]
  congr 2
  simp

theorem impl_build {items : List (ByteArray × Bool × Int)} (h : ItemsIn items) : m_impl_build_BuildFlag_1 items = some (if items.any (fun x => x.2.1 && !decide (x.2.2 = 0)) then ([], false) else (cbuild inext items [], true)) := by
  have hx := foldE items (fun n s i => m_impl_build_BuildFlag_1_L1 items n s i) (fun x => x.2.1 && !decide (x.2.2 = 0)) () (fun acc x => acc ++ [(x.1, if x.2.1 then inext acc else x.2.2)]) (fun i s => s.length = i ∧ ∀ d ∈ s, I64 d.2) ?_ ?_ FU (by have := h.1; rw [FU_eq]; omega) [] ⟨rfl, by simp⟩
  · rw [m_impl_build_BuildFlag_1]
    rcases hx with ⟨h1, e⟩ | ⟨h1, -, e⟩
    · rw [e, h1]; rfl
    · rw [e, h1]; rfl
  · intro n s _; rw [m_impl_build_BuildFlag_1_L1, cond_neg (by omega)]
  · intro n i s hi hm hI
    have hl := h.1
    have hv := h.2.2 _ hm
    rw [m_impl_build_BuildFlag_1_L1, cond_pos (by omega), gd_pos (by omega), w64s (by omega)]
    have put : ∀ v, I64 v → (∀ d ∈ s ++ [((gt items (i : Int)).1, v)], I64 d.2) := fun v hv d hd => by
      rcases List.mem_append.1 hd with hd | hd
      · exact hI.2 d hd
      · simp at hd; subst hd; exact hv
    cases ha : (gt items (i : Int)).2.1 with
    | true =>
      rw [cond_true]
      by_cases h0 : (gt items (i : Int)).2.2 = 0
      · right
        rw [decide_eq_true h0, Bool.not_true, cond_false, impl_BuildFlag_1 (by have := hI.1; omega) hI.2, bd_some, gd_pos (by have := hI.1; simp; omega)]
        exact ⟨rfl, ⟨by simp [hI.1], put _ (inext_I64 _ hI.2)⟩, rfl⟩
      · left
        rw [decide_eq_false h0, Bool.not_false, cond_true]
        exact ⟨rfl, rfl⟩
    | false =>
      right
      rw [cond_false, gd_pos (by have := hI.1; simp; omega)]
      exact ⟨rfl, ⟨by simp [hI.1], put _ hv⟩, rfl⟩

theorem impl_clone_si {l : List (ByteArray × Int)} (hl : l.length ≤ 1099511627776) : m_impl_clone_si l = some l := by
  rw [m_impl_clone_si, m_slices_Clone_si, gd_pos hl, bd_some, m_slices_Clip_hsi, bd_some]

theorem impl_flagOf {l : List (ByteArray × Int)} (h : DefsIn l) (b : Int) (ok : Bool) : m_impl_flagOf l b ok = some (if ok = true ∧ FlagOk l b then (l, b, true) else ([], 0, false)) := by
  rw [m_impl_flagOf, impl_clone_si h.1, bd_some, impl_ValidFlag h, bd_some]
  cases ok with
  | false => simp
  | true =>
    by_cases hf : FlagOk l b
    · simp [hf]
    · simp [hf]

/-- what BuildFlag answers -/
def bflag (items : List (ByteArray × Bool × Int)) (b : Int) : (List (ByteArray × Int)) × Int × Bool :=
  if (items.any (fun x => x.2.1 && !decide (x.2.2 = 0)) = false) ∧ FlagOk (cbuild inext items []) b then (cbuild inext items [], b, true) else ([], 0, false)

theorem impl_BuildFlag {items : List (ByteArray × Bool × Int)} (h : ItemsIn items) (b : Int) : m_impl_BuildFlag items b = some (bflag items b) := by
  rw [m_impl_BuildFlag, bflag]
  by_cases hl : 12 < (items.length : Int)
  · rw [cond_pos hl, if_neg]
    intro hh
    have := hh.2.len
    rw [cbuild_length] at this
    simp at this; omega
  · rw [cond_neg hl, impl_build h, bd_some]
    cases ha : items.any (fun x => x.2.1 && !decide (x.2.2 = 0)) with
    | true =>
      simp only [if_true]
      rw [impl_flagOf ⟨by simp, by simp, by simp⟩, bd_some]
      simp
    | false =>
      simp only [Bool.false_eq_true, if_false]
      rw [impl_flagOf (cbuild_in inext_I64 h), bd_some]
      by_cases hf : FlagOk (cbuild inext items []) b
      · simp [hf]
      · simp [hf]

def ItemsOk (l : List (ByteArray × Bool × Int)) (lo hi : Int) : Prop := (∀ i, i < l.length → NameOk (gt l (i : Int)).1 ∧ ((gt l (i : Int)).2.1 = true → (gt l (i : Int)).2.2 = 0) ∧ (lo ≤ (gt l (i : Int)).2.2 ∧ (gt l (i : Int)).2.2 ≤ hi) ∧ ∀ k, k < i → ¬ (gt l (k : Int)).1 = (gt l (i : Int)).1) ∧ l.length ≤ 12

theorem validItems_L2 (l : List (ByteArray × Bool × Int)) (lo hi : Int) (i : Nat) (hi' : i < l.length) (hl : l.length ≤ 1099511627776) :
    ((∃ k, k < i ∧ (gt l (k : Int)).1 = (gt l (i : Int)).1) ∧ m_spec_validItems_L2 l lo hi (i : Int) FU 0 = some (.inl ())) ∨ ((∀ k, k < i → ¬ (gt l (k : Int)).1 = (gt l (i : Int)).1) ∧ m_spec_validItems_L2 l lo hi (i : Int) FU 0 = some (.inr ())) := by
  refine anyN i (m_spec_validItems_L2 l lo hi (i : Int)) _ _ _ ?_ ?_ FU (by rw [FU_eq]; omega)
  · intro n; rw [m_spec_validItems_L2, cond_neg (by omega)]
  · intro n k hk
    rw [m_spec_validItems_L2, cond_pos (by omega), gd_pos (by omega), gd_pos (by omega), w64s (by omega)]
    by_cases h : (gt l (k : Int)).1 = (gt l (i : Int)).1
    · rw [cond_pos h]; exact .inl ⟨h, rfl⟩
    · rw [cond_neg h]; exact .inr ⟨h, rfl⟩

theorem validItems_L3_eq (l : List (ByteArray × Bool × Int)) (lo hi v : Int) : ∀ (n : Nat) (k : Int), m_spec_validItems_L3 l lo hi v n k = m_spec_validItems_L2 l lo hi v n k
  | 0, k => rfl
  | n + 1, k => by rw [m_spec_validItems_L3, m_spec_validItems_L2, validItems_L3_eq l lo hi v n]

open Classical in
theorem spec_validItems {l : List (ByteArray × Bool × Int)} (h : ItemsIn l) (lo hi : Int) : m_spec_validItems l lo hi = some (decide (ItemsOk l lo hi)) := by
  obtain ⟨hl, hs, -⟩ := h
  have h := anyI l (m_spec_validItems_L1 l lo hi) (fun i => ¬ (NameOk (gt l (i : Int)).1 ∧ ((gt l (i : Int)).2.1 = true → (gt l (i : Int)).2.2 = 0) ∧ (lo ≤ (gt l (i : Int)).2.2 ∧ (gt l (i : Int)).2.2 ≤ hi) ∧ ∀ k, k < i → ¬ (gt l (k : Int)).1 = (gt l (i : Int)).1)) (.inl ()) (.inr ()) ?_ ?_ FU (by rw [FU_eq]; omega)
  · rw [m_spec_validItems]
    rcases h with ⟨⟨i, h1, h2⟩, e⟩ | ⟨h1, e⟩
    · rw [e, bd_some, sm_inl]
      have : ¬ ItemsOk l lo hi := fun h => h2 (h.1 i h1)
      rw [decide_eq_false this]
    · rw [e, bd_some, sm_inr]
      have : ItemsOk l lo hi ↔ (l.length : Int) ≤ 12 := ⟨fun h => by have := h.2; omega, fun h => ⟨fun i hi => Decidable.not_not.1 (h1 i hi), by omega⟩⟩
      congr 1
      by_cases hc : (l.length : Int) ≤ 12
      · rw [decide_eq_true hc, decide_eq_true (this.2 hc)]
      · rw [decide_eq_false hc, decide_eq_false (fun h => hc (this.1 h))]
  · intro n; rw [m_spec_validItems_L1, cond_neg (by omega)]
  · intro n i hi'
    have hm : gt l (i : Int) ∈ l := gt_mem (by omega)
    rw [m_spec_validItems_L1, cond_pos (by omega), gd_pos (by omega), spec_validName (hs _ hm), bd_some, spec_inRange, bd_some, bd_some, w64s (by omega),
      show m_spec_validItems_L3 l lo hi (i : Int) FU 0 = _ from validItems_L3_eq l lo hi (i : Int) FU 0]
    by_cases h1 : NameOk (gt l (i : Int)).1
    · rw [decide_eq_true h1, Bool.not_true, cond_false]
      have rest : (¬ ((lo ≤ (gt l (i : Int)).2.2 ∧ (gt l (i : Int)).2.2 ≤ hi) ∧ ∀ k, k < i → ¬ (gt l (k : Int)).1 = (gt l (i : Int)).1) ∧
          (bif (!decide (lo ≤ (gt l (i : Int)).2.2 ∧ (gt l (i : Int)).2.2 ≤ hi)) then some (Sum.inl ()) else bd (m_spec_validItems_L2 l lo hi (i : Int) FU 0) fun x8 => sm x8 (fun x9 => some (Sum.inl ())) (fun x10 => m_spec_validItems_L1 l lo hi n ((i + 1 : Nat) : Int))) = some (.inl ())) ∨
          (((lo ≤ (gt l (i : Int)).2.2 ∧ (gt l (i : Int)).2.2 ≤ hi) ∧ ∀ k, k < i → ¬ (gt l (k : Int)).1 = (gt l (i : Int)).1) ∧
          (bif (!decide (lo ≤ (gt l (i : Int)).2.2 ∧ (gt l (i : Int)).2.2 ≤ hi)) then some (Sum.inl ()) else bd (m_spec_validItems_L2 l lo hi (i : Int) FU 0) fun x8 => sm x8 (fun x9 => some (Sum.inl ())) (fun x10 => m_spec_validItems_L1 l lo hi n ((i + 1 : Nat) : Int))) = m_spec_validItems_L1 l lo hi n ((i + 1 : Nat) : Int)) := by
        by_cases h3 : lo ≤ (gt l (i : Int)).2.2 ∧ (gt l (i : Int)).2.2 ≤ hi
        · rw [decide_eq_true h3, Bool.not_true, cond_false]
          rcases validItems_L2 l lo hi i hi' hl with ⟨⟨k, g1, g2⟩, e⟩ | ⟨g1, e⟩
          · rw [e]; exact .inl ⟨fun hh => hh.2 k g1 g2, rfl⟩
          · rw [e]; exact .inr ⟨⟨h3, g1⟩, rfl⟩
        · rw [decide_eq_false h3, Bool.not_false, cond_true]; exact .inl ⟨fun hh => h3 hh.1, rfl⟩
      cases h2 : (gt l (i : Int)).2.1 with
      | true =>
        rw [cond_true]
        by_cases h4 : (gt l (i : Int)).2.2 = 0
        · rw [decide_eq_true h4, Bool.not_true, cond_false]
          rcases rest with ⟨g1, e⟩ | ⟨g1, e⟩
          · exact .inl ⟨fun hh => g1 hh.2.2, e⟩
          · exact .inr ⟨fun hh => hh ⟨h1, fun _ => h4, g1⟩, e⟩
        · rw [decide_eq_false h4, Bool.not_false, cond_true]
          exact .inl ⟨fun hh => h4 (hh.2.1 rfl), rfl⟩
      | false =>
        rw [cond_false]
        rcases rest with ⟨g1, e⟩ | ⟨g1, e⟩
        · exact .inl ⟨fun hh => g1 hh.2.2, e⟩
        · exact .inr ⟨fun hh => hh ⟨h1, fun hh => (by cases hh), g1⟩, e⟩
    · rw [decide_eq_false h1, Bool.not_false, cond_true]; exact .inl ⟨fun hh => h1 hh.1, rfl⟩

theorem blen_mono {a b : Nat} (h : a ≤ b) : blen a ≤ blen b := blen_le (Nat.lt_of_le_of_lt h (lt_two_blen b))

theorem pow_le_iff_lt_blen {k v : Nat} : 2 ^ k ≤ v ↔ k < blen v := by
  constructor
  · intro h
    have h1 := Nat.lt_of_le_of_lt h (lt_two_blen v)
    exact (Nat.pow_lt_pow_iff_right (by omega : 1 < 2)).1 h1
  · intro h
    have h0 : v ≠ 0 := by rintro rfl; simp [blen] at h
    have := two_blen_le h0
    exact Nat.le_trans (Nat.pow_le_pow_right (by omega) (by omega)) this

theorem pow_lt_63 {k : Nat} (h : k ≤ 61) : (2 ^ k : Nat) ≤ 2305843009213693952 := by
  calc 2 ^ k ≤ 2 ^ 61 := Nat.pow_le_pow_right (by omega) h
    _ = 2305843009213693952 := rfl

theorem nextBit_L2 (l : List (ByteArray × Int)) (i : Nat) (hi : i < l.length) (hv : (gt l (i : Int)).2 < 1099511627776) (k : Nat) (hk : k ≤ 40) :
    m_spec_nextBit_L2 l (i : Int) FU ((2 ^ k : Nat) : Int) = some ((2 ^ (max k (blen (gt l (i : Int)).2.toNat)) : Nat) : Int) := by
  have hb : blen (gt l (i : Int)).2.toNat ≤ 40 := blen_le (by omega)
  refine (loopW (fun n s => m_spec_nextBit_L2 l (i : Int) n s) (fun s => ∃ j : Nat, s = ((2 ^ j : Nat) : Int) ∧ j ≤ 40 ∧ max j (blen (gt l (i : Int)).2.toNat) = max k (blen (gt l (i : Int)).2.toNat)) (fun s => 2305843009213693952 - s.toNat) (fun r => r = ((2 ^ (max k (blen (gt l (i : Int)).2.toNat)) : Nat) : Int)) ?_ FU _ ⟨k, rfl, hk, rfl⟩ (by rw [FU_eq]; omega)).eq
  rintro n _ ⟨j, rfl, hj, hm⟩ ih
  have hp := pow_lt_63 (k := j + 1) (by omega)
  have hp0 : 0 < (2 ^ j : Nat) := Nat.pos_of_ne_zero (by simp)
  have ps : (2 ^ (j + 1) : Nat) = 2 ^ j * 2 := Nat.pow_succ ..
  rw [m_spec_nextBit_L2, gd_pos (by omega)]
  have hiff := pow_le_iff_lt_blen (k := j) (v := (gt l (i : Int)).2.toNat)
  by_cases h : ((2 ^ j : Nat) : Int) ≤ (gt l (i : Int)).2
  · rw [cond_pos h, w64 (by omega) (by omega), show ((2 ^ j : Nat) : Int) * 2 = ((2 ^ (j + 1) : Nat) : Int) by omega]
    have := hiff.1 (by omega)
    exact ih _ ⟨j + 1, rfl, by omega, by omega⟩ (by simp only [Int.toNat_natCast]; omega)
  · rw [cond_neg h]
    refine Wp_some.2 ?_
    have : ¬ j < blen (gt l (i : Int)).2.toNat := fun hh => by have := hiff.2 hh; omega
    rw [show j = max k (blen (gt l (i : Int)).2.toNat) by omega]

theorem foldl_max_blen (l : List (ByteArray × Int)) : ∀ k, (l.foldl (fun k d => max k (blen d.2.toNat)) k = k ∨ ∃ d ∈ l, l.foldl (fun k d => max k (blen d.2.toNat)) k = blen d.2.toNat) ∧ k ≤ l.foldl (fun k d => max k (blen d.2.toNat)) k ∧ ∀ d ∈ l, blen d.2.toNat ≤ l.foldl (fun k d => max k (blen d.2.toNat)) k := by
  induction l with
  | nil => intro k; exact ⟨.inl rfl, Nat.le_refl _, by simp⟩
  | cons d l ih =>
    intro k
    rw [List.foldl_cons]
    obtain ⟨h1, h2, h3⟩ := ih (max k (blen d.2.toNat))
    refine ⟨?_, by omega, fun e he => ?_⟩
    · rcases h1 with h1 | ⟨e, he, h1⟩
      · rw [h1]
        by_cases hh : blen d.2.toNat ≤ k
        · exact .inl (by omega)
        · exact .inr ⟨d, by simp, by omega⟩
      · exact .inr ⟨e, by simp [he], h1⟩
    · rcases List.mem_cons.1 he with rfl | he
      · omega
      · exact h3 e he

theorem foldl_blen_greatest (l : List (ByteArray × Int)) : l.foldl (fun k d => max k (blen d.2.toNat)) 0 = blen (greatest l 0).toNat := by
  by_cases hl : l = []
  · subst hl; rfl
  · obtain ⟨d, hd, e⟩ := greatest_mem hl 0
    obtain ⟨h1, h2, h3⟩ := foldl_max_blen l 0
    have h4 := h3 d hd
    rw [e]
    rcases h1 with h1 | ⟨f, hf, h1⟩
    · rw [h1] at h4 ⊢; omega
    · have h5 := le_greatest (l := l) 0 f hf
      rw [e] at h5
      have := blen_mono (show f.2.toNat ≤ d.2.toNat by omega)
      omega

theorem spec_nextBit {l : List (ByteArray × Int)} (hl : l.length ≤ 1099511627776) (hv : ∀ d ∈ l, d.2 < 1099511627776) : m_spec_nextBit l = some ((2 ^ blen (greatest l 0).toNat : Nat) : Int) := by
  have h := listW l (fun n i s => m_spec_nextBit_L1 l n s i) (fun i s => ∃ k : Nat, s = ((2 ^ k : Nat) : Int) ∧ k ≤ 40 ∧ (l.drop i).foldl (fun k d => max k (blen d.2.toNat)) k = l.foldl (fun k d => max k (blen d.2.toNat)) 0)
    (fun r => r = ((2 ^ l.foldl (fun k d => max k (blen d.2.toNat)) 0 : Nat) : Int)) ?_ ?_ FU (by rw [FU_eq]; omega) 1 ⟨0, rfl, by omega, by simp⟩
  · rw [m_spec_nextBit, show m_spec_nextBit_L1 l FU 1 0 = _ from h.eq, bd_some, foldl_blen_greatest]
  · rintro n _ ⟨k, rfl, hk, hf⟩
    rw [m_spec_nextBit_L1, cond_neg (by omega)]
    rw [List.drop_length] at hf
    exact Wp_some.2 (by rw [← hf]; rfl)
  · rintro n i _ d hi hg hd hm ⟨k, rfl, hk, hf⟩ ih
    have hv' := hv _ hm
    have hb : blen d.2.toNat ≤ 40 := blen_le (by omega)
    rw [m_spec_nextBit_L1, cond_pos (by omega), nextBit_L2 l i hi (by rw [hg]; exact hv') k hk, bd_some, w64s (by omega), hg]
    refine ih _ ⟨max k (blen d.2.toNat), rfl, by omega, ?_⟩
    rw [hd, List.foldl_cons] at hf
    exact hf

theorem ItemsOk.of {items : List (ByteArray × Bool × Int)} {b : Int} (h1 : items.any (fun x => x.2.1 && !decide (x.2.2 = 0)) = false) (h2 : FlagOk (cbuild inext items []) b) : ItemsOk items 0 4095 := by
  have hlen : items.length ≤ 12 := by have := h2.len; rw [cbuild_length] at this; simpa using this
  refine ⟨fun i hi => ?_, hlen⟩
  have hd := h2.1.1 i (by rw [cbuild_length]; simpa using hi)
  have hi2 : i < (cbuild inext items []).length := by rw [cbuild_length]; simpa using hi
  rw [gt_nat hi2, cbuild_get inext items i hi] at hd
  rw [gt_nat hi]
  have hm := List.getElem_mem hi
  rw [List.any_eq_false] at h1
  have h3 := h1 _ hm
  refine ⟨hd.1, fun ha => ?_, ?_, fun k hk e => ?_⟩
  · rw [ha] at h3; simpa using h3
  · cases ha : items[i].2.1 with
    | true => rw [ha] at h3; simp at h3; omega
    | false => have := hd.2.1; rw [ha] at this; simpa using this
  · have hnd := h2.1.out.2.1
    rw [cbuild_names] at hnd
    simp only [List.map_nil, List.nil_append] at hnd
    rw [List.Nodup, List.pairwise_iff_getElem] at hnd
    have := hnd k i (by simp; omega) (by simpa using hi) hk
    simp only [List.getElem_map] at this
    rw [gt_nat (by omega)] at e
    exact this e

theorem spec_BuildFlag {items : List (ByteArray × Bool × Int)} (h : ItemsIn items) (b : Int) : m_spec_BuildFlag items b = some (bflag items b) := by
  classical
  rw [m_spec_BuildFlag, spec_validItems h, bd_some, bflag]
  by_cases ho : ItemsOk items 0 4095
  · rw [decide_eq_true ho, Bool.not_true, cond_false]
    have hx := foldW items (m_spec_BuildFlag_L1 items b) (fun acc x => acc ++ [(x.1, if x.2.1 then inext acc else x.2.2)]) (fun i s => s.length = i ∧ ∀ d ∈ s, 0 ≤ d.2 ∧ d.2 < ((2 ^ (13 + i) : Nat) : Int)) ?_ ?_ FU (by have := h.1; rw [FU_eq]; omega) [] ⟨rfl, by simp⟩
    · rw [show m_spec_BuildFlag_L1 items b FU [] 0 = _ from hx.1, bd_some, ← cbuild, spec_validFlag (cbuild_in inext_I64 h), bd_some]
      have hnb : items.any (fun x => x.2.1 && !decide (x.2.2 = 0)) = false := by
        rw [List.any_eq_false]
        intro x hx
        obtain ⟨i, hi, rfl⟩ := List.mem_iff_getElem.1 hx
        have := (ho.1 i hi).2.1
        rw [gt_nat hi] at this
        cases ha : items[i].2.1 with
        | true => simp [this ha]
        | false => simp
      by_cases hf : FlagOk (cbuild inext items []) b
      · rw [decide_eq_true hf, Bool.not_true, cond_false, if_pos ⟨hnb, hf⟩]
      · rw [decide_eq_false hf, Bool.not_false, cond_true, if_neg (fun h => hf h.2)]
    · intro n s; rw [m_spec_BuildFlag_L1, cond_neg (by omega)]
    · intro n i s hi hm hI
      have hl := ho.2
      have hpw : ∀ j, j ≤ 26 → (2 ^ j : Nat) ≤ 67108864 := fun j hj => by
        calc 2 ^ j ≤ 2 ^ 26 := Nat.pow_le_pow_right (by omega) hj
          _ = 67108864 := rfl
      have hpm : (2 ^ (13 + i) : Nat) ≤ 2 ^ (13 + (i + 1)) := Nat.pow_le_pow_right (by omega) (by omega)
      have hp1 := hpw (13 + i) (by omega)
      have hp2 := hpw (13 + (i + 1)) (by omega)
      have hlow : (8192 : Nat) ≤ 2 ^ (13 + i) := by
        calc (8192 : Nat) = 2 ^ 13 := rfl
          _ ≤ 2 ^ (13 + i) := Nat.pow_le_pow_right (by omega) (by omega)
      have put : ∀ v, 0 ≤ v ∧ v < ((2 ^ (13 + (i + 1)) : Nat) : Int) → ∀ d ∈ s ++ [((gt items (i : Int)).1, v)], 0 ≤ d.2 ∧ d.2 < ((2 ^ (13 + (i + 1)) : Nat) : Int) := fun v hv d hd => by
        rcases List.mem_append.1 hd with hd | hd
        · have := hI.2 d hd; omega
        · simp at hd; subst hd; exact hv
      rw [m_spec_BuildFlag_L1, cond_pos (by omega), gd_pos (by omega), w64s (by omega)]
      have hit := ho.1 i hi
      cases ha : (gt items (i : Int)).2.1 with
      | true =>
        have hg : (greatest s 0).toNat < 2 ^ (13 + i) := by
          by_cases hs : s = []
          · subst hs; simp [greatest]; omega
          · obtain ⟨d, hd, e⟩ := greatest_mem hs 0
            have := hI.2 d hd
            rw [e]; omega
        have hbl := blen_le hg
        have hpb : (2 ^ blen (greatest s 0).toNat : Nat) ≤ 2 ^ (13 + i) := Nat.pow_le_pow_right (by omega) hbl
        have hlt : (2 ^ (13 + i) : Nat) < 2 ^ (13 + (i + 1)) := Nat.pow_lt_pow_right (by omega) (by omega)
        have en := spec_nextBit (l := s) (by have := hI.1; omega) (fun d hd => by have := hI.2 d hd; omega)
        have e2 : inext s = IntKind.wrap .i64 ((2 ^ blen (greatest s 0).toNat : Nat) : Int) := rfl
        generalize 2 ^ blen (greatest s 0).toNat = q at *
        rw [w64 (by omega) (by omega)] at e2
        rw [cond_true, en, bd_some, gd_pos (by have := hI.1; simp; omega), ← e2]
        exact ⟨⟨by simp [hI.1], put _ ⟨by rw [e2]; omega, by rw [e2]; omega⟩⟩, rfl⟩
      | false =>
        rw [cond_false, gd_pos (by have := hI.1; simp; omega)]
        exact ⟨⟨by simp [hI.1], put (gt items (i : Int)).2.2 ⟨hit.2.2.1.1, by have := hit.2.2.1.2; omega⟩⟩, rfl⟩
  · rw [decide_eq_false ho, Bool.not_false, cond_true, if_neg]
    rintro ⟨h1, h2⟩
    exact ho (ItemsOk.of h1 h2)

theorem laws_equalDefs {a b : List (ByteArray × Int)} (ha : a.length ≤ 1099511627776) : m_laws_equalDefs a b = some (decide (a = b)) := by
  rw [m_laws_equalDefs]
  by_cases hl : a.length = b.length
  · rw [decide_eq_true (by omega), Bool.not_true, cond_false, eqW a b (m_laws_equalDefs_L1 a b) hl ?_ ?_ FU (by rw [FU_eq]; omega), bd_some]
    · by_cases h : a = b
      · rw [if_pos h, decide_eq_true h]; rfl
      · rw [if_neg h, decide_eq_false h]; rfl
    · intro n; rw [m_laws_equalDefs_L1, cond_neg (by omega)]
    · intro n i hi
      rw [m_laws_equalDefs_L1, cond_pos (by omega), gd_pos (by omega), gd_pos (by omega), nm_eq, w64s (by omega)]
      by_cases h : gt a (i : Int) = gt b (i : Int)
      · rw [if_pos h, h]; simp
      · rw [if_neg h]
        have : ¬ ((gt a (i : Int)).1 = (gt b (i : Int)).1 ∧ (gt a (i : Int)).2 = (gt b (i : Int)).2) := fun hh => h (Prod.ext hh.1 hh.2)
        by_cases h1 : (gt a (i : Int)).1 = (gt b (i : Int)).1
        · have h2 : ¬ (gt a (i : Int)).2 = (gt b (i : Int)).2 := fun h2 => this ⟨h1, h2⟩
          simp [h1, h2]
        · simp [h1]
  · rw [decide_eq_false (by omega), Bool.not_false, cond_true, decide_eq_false]
    intro h; exact hl (by rw [h])

theorem laws_equalFlag {a b : List (ByteArray × Int)} (ha : a.length ≤ 1099511627776) (x y : Int) : m_laws_equalFlag a x b y = some (decide (a = b ∧ x = y)) := by
  rw [m_laws_equalFlag, laws_equalDefs ha, bd_some]
  by_cases h : a = b
  · rw [decide_eq_true h, cond_true]; congr 1; exact decide_eq_decide.2 ⟨fun h' => ⟨h, h'⟩, fun h' => h'.2⟩
  · rw [decide_eq_false h, cond_false, decide_eq_false (fun h' => h h'.1)]

theorem impl_WithBound {f : List (ByteArray × Int)} (h : DefsIn f) (b c : Int) : m_impl_WithBound f b c = some (if FlagOk f b ∧ FlagOk f c then (f, c, true) else ([], 0, false)) := by
  rw [m_impl_WithBound, impl_ValidFlag h, bd_some, impl_flagOf h, bd_some]
  simp

theorem laws_kept {f : List (ByteArray × Int)} (h : DefsIn f) {b : Int} (hf : FlagOk f b) : m_laws_kept f b = some (f, 3) := by
  rw [m_laws_kept, impl_WithBound h, bd_some, if_pos ⟨hf, hf.1, by omega, by omega⟩]

theorem FlagOk.keep {f : List (ByteArray × Int)} {b : Int} (hf : FlagOk f b) : FlagOk f 3 := ⟨hf.1, by omega, by omega⟩

theorem impl_CountBits {f : List (ByteArray × Int)} (h : DefsIn f) (b n : Int) : m_impl_CountBits f b n = some (if ValOk f b n then ((pop n.toNat : Nat) : Int) else -1) := by
  rw [m_impl_CountBits, impl_IsValue h, bd_some]
  by_cases hv : ValOk f b n
  · have h1 := hv.2.1
    have e : IntKind.wrap .u64 n = ((n.toNat : Nat) : Int) := by rw [wu64 (by omega) (by omega)]; omega
    rw [decide_eq_true hv, Bool.not_true, cond_false, e, impl_OnesCount (by omega), bd_some, if_pos hv]
  · rw [decide_eq_false hv, Bool.not_false, cond_true, if_neg hv]

theorem pop_pow {j : Nat} (h : j < 12) : pop (2 ^ j) = 1 := by
  have : ∀ j, j < 12 → pop (2 ^ j) = 1 := by decide
  exact this j h

def SomeItems (l : List (ByteArray × Bool × Int)) : Prop := l.length ≤ 12 ∧ ∀ d ∈ l, d.1.size ≤ 7 ∧ -5000 ≤ d.2.2 ∧ d.2.2 ≤ 5000

theorem SomeItems.inn {l : List (ByteArray × Bool × Int)} (h : SomeItems l) : ItemsIn l :=
  ⟨by have := h.1; omega, fun d hd => by have := (h.2 d hd).1; omega, fun d hd => by have := (h.2 d hd).2; exact ⟨by omega, by omega⟩⟩

theorem someItems_L1 {code : List Int} (hc : Bytes code) (hl : code.length ≤ 9223372036854775807) (x : (List (ByteArray × Int)) × Int) (hx : ∀ d ∈ x.1, d.1.size ≤ 7 ∧ -5000 ≤ d.2 ∧ d.2 ≤ 5000) (hxl : x.1.length ≤ 12) (p : Int) (hp : 0 ≤ p ∧ p < 900000) :
    ∃ r, m_spec_someItems_L1 code x FU [] 0 p = some r ∧ SomeItems r.1 ∧ p ≤ r.2 ∧ r.2 ≤ p + 12 := by
  have h := listW x.1 (fun n i (s : List (ByteArray × Bool × Int) × Int) => m_spec_someItems_L1 code x n s.1 i s.2)
    (fun i s => s.1.length = i ∧ (∀ d ∈ s.1, d.1.size ≤ 7 ∧ -5000 ≤ d.2.2 ∧ d.2.2 ≤ 5000) ∧ s.2 = p + i)
    (fun r => SomeItems r.1 ∧ p ≤ r.2 ∧ r.2 ≤ p + 12) ?_ ?_ FU (by rw [FU_eq]; omega) ([], p) ⟨rfl, by simp, by simp⟩
  · exact h
  · rintro n ⟨v, q⟩ ⟨h1, h2, h3⟩
    rw [m_spec_someItems_L1, cond_neg (by omega)]
    simp only at h1 h2 h3
    exact Wp_some.2 ⟨⟨by simp only; omega, h2⟩, by simp only; omega, by simp only; omega⟩
  · rintro n i ⟨v, q⟩ d hi hg hd hm ⟨h1, h2, h3⟩ ih
    simp only at h1 h2 h3
    obtain ⟨y, ey, ly, uy⟩ := pick (n := 2) hc hl (p := q) ⟨by omega, by omega⟩
    have hb := hx d hm
    rw [m_spec_someItems_L1, cond_pos (by omega), gd_pos (by omega), ey, bd_some, w64s (by omega), w64 (a := q + 1) (by omega) (by omega), hg]
    by_cases h : y = 0
    · rw [cond_pos h, gd_pos (by simp; omega)]
      refine ih (_, _) ⟨by simp [h1], fun e he => ?_, by simp only; omega⟩
      rcases List.mem_append.1 he with he | he
      · exact h2 e he
      · simp at he; subst he; exact ⟨hb.1, by simp, by simp⟩
    · rw [cond_neg h, gd_pos (by simp; omega)]
      refine ih (_, _) ⟨by simp [h1], fun e he => ?_, by simp only; omega⟩
      rcases List.mem_append.1 he with he | he
      · exact h2 e he
      · simp at he; subst he; exact ⟨hb.1, hb.2⟩

theorem someItems {code : List Int} (hc : Bytes code) (hl : code.length ≤ 9223372036854775807) (high : Int) {p : Int} (hp : 0 ≤ p ∧ p < 700000) :
    ∃ r, m_spec_someItems high code p = some r ∧ SomeItems r.1 ∧ p ≤ r.2 ∧ r.2 ≤ p + 100 := by
  obtain ⟨d, ed, d1, d2, d3, d4⟩ := goodDefs hc hl high (p := p) ⟨by omega, by omega⟩
  obtain ⟨x, ex, x1, x2, x3⟩ := someItems_L1 hc hl d d1 d2 d.2 ⟨by omega, by omega⟩
  rw [m_spec_someItems, ed, bd_some, ex, bd_some]
  by_cases h : 0 < (x.1.length : Int)
  · obtain ⟨y, ey, ly, uy⟩ := pick (n := 16) hc hl (p := x.2) ⟨by omega, by omega⟩
    rw [cond_pos h, ey, bd_some, w64 (a := x.2 + 1) (by omega) (by omega), w64 (a := x.2 + 1 + 1) (by omega) (by omega), w64 (a := x.2 + 1 + 1 + 1) (by omega) (by omega), w64 (a := x.2 + 1 + 1 + 1 + 1) (by omega) (by omega), w64 (a := x.2 + 1 + 1 + 1 + 1 + 1) (by omega) (by omega), w64 (a := x.2 + 1 + 1 + 1 + 1 + 1 + 1) (by omega) (by omega)]
    by_cases h0 : y = 0
    · obtain ⟨k, ek, lk, uk⟩ := pick (n := (x.1.length : Int)) hc hl (p := x.2 + 1) ⟨by omega, by omega⟩
      obtain ⟨nm1, en, sn⟩ := anyName hc hl (p := x.2 + 1 + 1) ⟨by omega, by omega⟩ (by omega)
      obtain ⟨z, ez, lz, uz⟩ := pick (n := 2) hc hl (p := x.2 + 1 + 1 + 1 + 1) ⟨by omega, by omega⟩
      obtain ⟨w, ew, mw⟩ := one hc hl (p := x.2 + 1 + 1 + 1 + 1 + 1) ⟨by omega, by omega⟩ (xs := ([5, (-1), 4096, 1001] : List Int)) (by simp)
      have uk := uk (by omega)
      rw [cond_pos h0, ek, bd_some, en, bd_some, ez, bd_some, ew, bd_some, gd_pos ⟨lk, uk⟩]
      refine ⟨_, rfl, ⟨by simp only [List.length_set]; exact x1.1, fun e he => ?_⟩, by simp only; omega, by simp only; omega⟩
      rcases List.mem_or_eq_of_mem_set he with he | rfl
      · exact x1.2 e he
      · simp only [List.mem_cons, List.not_mem_nil, or_false] at mw
        exact ⟨sn, by simp only; omega, by simp only; omega⟩
    · rw [cond_neg h0]
      exact ⟨_, rfl, x1, by simp only; omega, by simp only; omega⟩
  · rw [cond_neg h]
    exact ⟨_, rfl, x1, by simp only; omega, by simp only; omega⟩

theorem drawBuildFlag {code : List Int} (hc : Bytes code) (hl : code.length ≤ 9223372036854775807) :
    ∃ r, m_spec_DrawBuildFlag code = some r ∧ SomeItems r.1 ∧ I64 r.2 := by
  obtain ⟨c, ec, hc', hl'⟩ := newReader hc hl
  obtain ⟨f, ef, f1, f2, f3⟩ := someItems hc' hl' 4095 (p := 0) ⟨by omega, by omega⟩
  obtain ⟨w, ew, mw⟩ := one hc' hl' (p := f.2) ⟨by omega, by omega⟩ (xs := ([0, 1, 2, 3, 0, 3, 4, (-1)] : List Int)) (by simp)
  simp only [List.mem_cons, List.not_mem_nil, or_false] at mw
  exact ⟨(f.1, w), by rw [m_spec_DrawBuildFlag, ec, bd_some, ef, bd_some, ew, bd_some], f1, by unfold I64; simp only; omega⟩

theorem inext_valid {items : List (ByteArray × Bool × Int)} {b : Int} (hf : FlagOk (cbuild inext items []) b) {i : Nat} (hi : i < items.length) :
    inext (cbuild inext (items.take i) []) = ((2 ^ blen (greatest (cbuild inext (items.take i) []) 0).toNat : Nat) : Int) := by
  have hg : (greatest (cbuild inext (items.take i) []) 0).toNat < 4096 := by
    by_cases hs : cbuild inext (items.take i) [] = []
    · rw [hs]; simp [greatest]
    · obtain ⟨d, hd, e⟩ := greatest_mem hs 0
      rw [← cbuild_take inext items i (by omega)] at hd
      have := hf.v12 d (List.mem_of_mem_take hd)
      rw [e]; omega
  have hb := blen_le (k := 12) hg
  have : (2 ^ blen (greatest (cbuild inext (items.take i) []) 0).toNat : Nat) ≤ 2 ^ 12 := Nat.pow_le_pow_right (by omega) hb
  rw [inext]
  generalize 2 ^ blen (greatest (cbuild inext (items.take i) []) 0).toNat = q at *
  exact w64 (by omega) (by omega)

theorem buildFlag_get {items : List (ByteArray × Bool × Int)} {i : Nat} (hi : i < items.length) :
    gt (cbuild inext items []) (i : Int) = (items[i].1, if items[i].2.1 then inext (cbuild inext (items.take i) []) else items[i].2.2) := by
  rw [gt_nat (by rw [cbuild_length]; simpa using hi), cbuild_get inext items i hi]

theorem buildFlag_L4 {items : List (ByteArray × Bool × Int)} {b bound : Int} (hf : FlagOk (cbuild inext items []) b) {i : Nat} (hi : i < items.length) (ha : (gt items (i : Int)).2.1 = true) :
    m_laws_FnBuildFlag_L4 (items, bound) (cbuild inext items [], b, true) (i : Int) FU 0 = some (.inr ()) := by
  have hlen : (cbuild inext items []).length = items.length := by rw [cbuild_length]; simp
  have hl := hf.len
  refine noneN i (m_laws_FnBuildFlag_L4 (items, bound) (cbuild inext items [], b, true) (i : Int)) (.inr ()) ?_ ?_ FU (by rw [FU_eq]; omega)
  · intro n; rw [m_laws_FnBuildFlag_L4, cond_neg (by omega)]
  · intro n k hk
    rw [m_laws_FnBuildFlag_L4, cond_pos (by omega), w64s (by omega)]
    simp only [hlen]
    rw [gd_pos (by omega), gd_pos (by omega), ha, cond_true, cond_neg]
    have h2 : gt (cbuild inext items []) (k : Int) ∈ cbuild inext (items.take i) [] := by
      rw [gt_nat (by omega), ← cbuild_take inext items i (by omega)]
      exact List.mem_take_iff_getElem.2 ⟨k, by omega, rfl⟩
    have h3 := le_greatest 0 _ h2
    rw [gt_nat hi] at ha
    rw [buildFlag_get hi, ha, if_pos rfl, inext_valid hf hi]
    have h4 := lt_two_blen (greatest (cbuild inext (items.take i) []) 0).toNat
    generalize 2 ^ blen (greatest (cbuild inext (items.take i) []) 0).toNat = q at *
    simp only
    omega

theorem buildFlag_L1 {items : List (ByteArray × Bool × Int)} {b bound : Int} (h : ItemsIn items) (hf : FlagOk (cbuild inext items []) b) :
    m_laws_FnBuildFlag_L1 (items, bound) (cbuild inext items [], b, true) FU 0 = some (.inr ()) := by
  have hlen : (cbuild inext items []).length = items.length := by rw [cbuild_length]; simp
  have hl := hf.len
  have hin := cbuild_in inext_I64 h
  refine noneN items.length (m_laws_FnBuildFlag_L1 (items, bound) (cbuild inext items [], b, true)) (.inr ()) ?_ ?_ FU (by rw [FU_eq]; omega)
  · intro n; rw [m_laws_FnBuildFlag_L1, cond_neg (by simp only; omega)]
  · intro n i hi
    have hg := buildFlag_get hi
    rw [m_laws_FnBuildFlag_L1, cond_pos (by simp only; omega), w64s (by omega)]
    simp only [hlen]
    rw [gd_pos (by omega), gd_pos (by omega), hg, ← gt_nat hi, decide_eq_true rfl, Bool.not_true, cond_false]
    cases ha : (gt items (i : Int)).2.1 with
    | true =>
      rw [Bool.not_true, cond_false, cond_true, laws_kept hin hf, bd_some]
      simp only [if_true]
      have hv := (hf.1.1 i (by omega)).2.1
      rw [gt_nat hi] at ha
      rw [hg, ha, if_pos rfl] at hv
      simp only at hv
      rw [inext_valid hf hi] at hv ⊢
      have hj : blen (greatest (cbuild inext (items.take i) []) 0).toNat < 12 := by
        by_cases hh : blen (greatest (cbuild inext (items.take i) []) 0).toNat < 12
        · exact hh
        · have : (2 ^ 12 : Nat) ≤ 2 ^ blen (greatest (cbuild inext (items.take i) []) 0).toNat := Nat.pow_le_pow_right (by omega) (by omega)
          generalize 2 ^ blen (greatest (cbuild inext (items.take i) []) 0).toNat = q at *
          omega
      rw [impl_CountBits hin, if_pos ⟨hf.keep, hv, .inl rfl⟩, bd_some, Int.toNat_natCast, pop_pow hj, decide_eq_true (by rfl), Bool.not_true, cond_false, buildFlag_L4 hf hi (by rw [gt_nat hi]; exact ha), bd_some, sm_inr]
    | false =>
      simp only [Bool.false_eq_true, if_false, decide_true, Bool.not_true, Bool.not_false, cond_false, cond_true]
      have e : m_laws_FnBuildFlag_L3 (items, bound) (cbuild inext items [], b, true) (i : Int) FU 0 = some (.inr ()) := by
        rw [show FU = 4611686018427387903 + 1 from rfl, m_laws_FnBuildFlag_L3]
        by_cases h0 : (0 : Int) < (i : Int)
        · rw [cond_pos h0, gd_pos (by simp only; omega), ha, cond_false]
        · rw [cond_neg h0]
      rw [e, bd_some, sm_inr]

theorem law_FnBuildFlag (p1 : List Int) (h : ∀ n ∈ p1, 0 ≤ n ∧ n < 256) (hl : p1.length ≤ 9223372036854775807) : m_laws_FnBuildFlag p1 = some true := by
  rw [m_laws_FnBuildFlag, cond_if]
  by_cases h0 : 1048576 < (p1.length : Int)
  · rw [if_pos h0]
  obtain ⟨⟨items, bound⟩, ed, si, hb⟩ := drawBuildFlag h hl
  have hi : ItemsIn items := SomeItems.inn si
  rw [if_neg h0, ed, bd_some]
  simp only []
  rw [impl_BuildFlag hi, bd_some, spec_BuildFlag hi, bd_some]
  unfold bflag
  by_cases hf : (items.any (fun x => x.2.1 && !decide (x.2.2 = 0)) = false) ∧ FlagOk (cbuild inext items []) bound
  · rw [if_pos hf]
    have hin := cbuild_in inext_I64 hi
    simp only []
    rw [laws_equalFlag hin.1, bd_some, decide_eq_true ⟨rfl, rfl⟩]
    simp only [beq_self_eq_true, Bool.not_true, cond_false]
    rw [buildFlag_L1 hi hf.2, bd_some, sm_inr, impl_ValidFlag hin, bd_some, decide_eq_true hf.2]
    simp
  · rw [if_neg hf]
    simp only []
    rw [laws_equalFlag (by simp), bd_some, decide_eq_true ⟨rfl, rfl⟩]
    rfl

end Go.Eng
