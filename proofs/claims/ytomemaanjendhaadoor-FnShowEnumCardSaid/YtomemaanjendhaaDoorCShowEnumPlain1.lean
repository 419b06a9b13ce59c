/- What is proved: plain laws of the models, up to the law itself. Conditions: sizes and ranges of what is handed over, as each says. -/
import Derived.Test.YtomemaanjendhaaDoorCShowEnumModels
set_option linter.unusedVariables false
set_option linter.unusedSimpArgs false
namespace Go.Eng
open Go

theorem w64 {a : Int} (h1 : -9223372036854775808 ≤ a) (h2 : a ≤ 9223372036854775807) : IntKind.wrap .i64 a = a := by
  rw [IntKind.wrap_i64]; omega

def I64 (a : Int) : Prop := -9223372036854775808 ≤ a ∧ a ≤ 9223372036854775807

theorem w64s {i : Nat} (h : i < 4611686018427387904) : IntKind.wrap .i64 ((i : Int) + 1) = ((i + 1 : Nat) : Int) := by
  rw [w64 (by omega) (by omega)]; omega

theorem gd_pos {α : Type} {p : Prop} [Decidable p] (h : p) (x : Option α) : gd p x = x := by unfold gd; rw [if_pos h]

theorem bd_some {α β : Type} (a : α) (f : α → Option β) : bd (some a) f = f a := rfl

theorem nm_eq {α β : Type} (a : α) (f : α → Option β) : nm a f = f a := rfl

theorem sm_inl {α β γ : Type} (a : α) (f : α → γ) (g : β → γ) : sm (.inl a) f g = f a := rfl

theorem sm_inr {α β γ : Type} (b : β) (f : α → γ) (g : β → γ) : sm (.inr b) f g = g b := rfl

/-- it has an answer, and of this it holds -/
def Wp {α : Type} (x : Option α) (Q : α → Prop) : Prop := ∃ r, x = some r ∧ Q r

theorem Wp_some {α : Type} {a : α} {Q : α → Prop} : Wp (some a) Q ↔ Q a := ⟨fun ⟨r, h, q⟩ => by cases h; exact q, fun h => ⟨a, rfl, h⟩⟩

theorem Wp_eq {α : Type} {x : Option α} {r : α} : Wp x (fun a => a = r) ↔ x = some r := ⟨fun ⟨a, h, e⟩ => by rw [h, e], fun h => ⟨r, h, rfl⟩⟩

theorem Wp.eq {α : Type} {x : Option α} {r : α} (h : Wp x (fun a => a = r)) : x = some r := Wp_eq.1 h

theorem Wp.of {α : Type} {x : Option α} {r : α} {Q : α → Prop} (h : x = some r) (q : Q r) : Wp x Q := ⟨r, h, q⟩

/-- a loop by invariant and measure -/
theorem loopW {σ ρ : Type} (L : Nat → σ → Option ρ) (I : σ → Prop) (μ : σ → Nat) (Q : ρ → Prop)
    (hs : ∀ n s, I s → (∀ s', I s' → μ s' < μ s → Wp (L n s') Q) → Wp (L (n + 1) s) Q) : ∀ n s, I s → μ s < n → Wp (L n s) Q
  | 0, s, _, h => absurd h (Nat.not_lt_zero _)
  | n + 1, s, hi, h => hs n s hi fun s' hi' hm => loopW L I μ Q hs n s' hi' (by omega)

/-- a loop over a list -/
theorem listW {α σ ρ : Type} [Inhabited α] (l : List α) (L : Nat → Int → σ → Option ρ) (I : Nat → σ → Prop) (Q : ρ → Prop)
    (h0 : ∀ n s, I l.length s → Wp (L (n + 1) (l.length : Int) s) Q)
    (hs : ∀ n i s d, i < l.length → gt l (i : Int) = d → l.drop i = d :: l.drop (i + 1) → d ∈ l → I i s → (∀ s', I (i + 1) s' → Wp (L n ((i + 1 : Nat) : Int) s') Q) → Wp (L (n + 1) (i : Int) s) Q)
    (N : Nat) (hl : l.length < N) (s : σ) (h : I 0 s) : Wp (L N 0 s) Q := by
  have key : ∀ (k i n : Nat) (s : σ), i + k = l.length → k < n → I i s → Wp (L n (i : Int) s) Q := by
    intro k
    induction k with
    | zero =>
      intro i n s hk hn hi
      cases n with
      | zero => omega
      | succ n =>
        have e : i = l.length := by omega
        subst e
        exact h0 n s hi
    | succ k ih =>
      intro i n s hk hn hi
      cases n with
      | zero => omega
      | succ n =>
        have hlt : i < l.length := by omega
        have e1 : gt l (i : Int) = l[i] := by
          unfold gt
          rw [Int.toNat_natCast, List.getD_eq_getElem?_getD, List.getElem?_eq_getElem hlt, Option.getD_some]
        have e2 : l.drop i = l[i] :: l.drop (i + 1) := List.drop_eq_getElem_cons hlt
        exact hs n i s l[i] hlt e1 e2 (List.getElem_mem hlt) hi fun s' hs' => ih (i + 1) n s' (by omega) (by omega) hs'
  exact key l.length 0 N s (by omega) hl h

theorem gt_nat {α : Type} [Inhabited α] {l : List α} {i : Nat} (h : i < l.length) : gt l (i : Int) = l[i] := by
  unfold gt
  rw [Int.toNat_natCast, List.getD_eq_getElem?_getD, List.getElem?_eq_getElem h, Option.getD_some]

theorem gt_mem {α : Type} [Inhabited α] {l : List α} {q : Int} (h : 0 ≤ q ∧ q < (l.length : Int)) : gt l q ∈ l := by
  obtain ⟨i, rfl⟩ := Int.eq_ofNat_of_zero_le h.1
  have hi : i < l.length := by omega
  have e : gt l (i : Int) = l[i] := gt_nat hi
  rw [e]; exact List.getElem_mem hi

theorem sub_zero {α : Type} (l : List α) (i : Nat) : sub l 0 (i : Int) = l.take i := by simp [sub]

/-- the place of the first element of a kind, -1 if there is none -/
def ix {α : Type} (p : α → Bool) (l : List α) : Int := match l.findIdx? p with | some i => (i : Int) | none => -1

theorem ix_cases {α : Type} [Inhabited α] (p : α → Bool) (l : List α) :
    (ix p l = -1 ∧ l.find? p = none ∧ ∀ d ∈ l, p d = false) ∨
    ∃ (i : Nat) (d : α), ix p l = i ∧ i < l.length ∧ gt l (i : Int) = d ∧ l.find? p = some d ∧ d ∈ l ∧ p d = true := by
  unfold ix
  cases h : l.findIdx? p with
  | none =>
    left
    rw [List.findIdx?_eq_none_iff] at h
    exact ⟨rfl, List.find?_eq_none.2 (fun d hd => by simp [h d hd]), h⟩
  | some i =>
    right
    rw [List.findIdx?_eq_some_iff_getElem] at h
    obtain ⟨hi, h1, h2⟩ := h
    refine ⟨i, l[i], rfl, hi, gt_nat hi, ?_, List.getElem_mem hi, h1⟩
    rw [List.find?_eq_some_iff_getElem]
    exact ⟨h1, i, hi, rfl, fun j hj => by simpa using h2 j hj⟩

theorem ix_range {α : Type} (p : α → Bool) (l : List α) : -1 ≤ ix p l ∧ ix p l < (l.length : Int) := by
  unfold ix
  cases h : l.findIdx? p with
  | none => simp only; omega
  | some i =>
    rw [List.findIdx?_eq_some_iff_getElem] at h
    obtain ⟨hi, _⟩ := h
    simp only; omega

theorem bv64 (a : Nat) (ha : a < 9223372036854775808) : (BitVec.ofInt 64 (a : Int)).toNat = a := by
  rw [BitVec.ofInt_natCast, BitVec.toNat_ofNat]; exact Nat.mod_eq_of_lt (by omega)

theorem xor64 {a b : Nat} (ha : a < 9223372036854775808) (hb : b < 9223372036854775808) : Go.bits .xor .i64 (a : Int) (b : Int) = ((a ^^^ b : Nat) : Int) := by
  have hx : a ^^^ b < 2 ^ 63 := Nat.xor_lt_two_pow (by omega) (by omega)
  show IntKind.i64.wrap ((BitVec.ofInt 64 (a : Int) ^^^ BitVec.ofInt 64 (b : Int)).toNat : Int) = _
  rw [BitVec.toNat_xor, bv64 a ha, bv64 b hb, w64 (by omega) (by omega)]

theorem cond_pos {α : Type} {p : Prop} [Decidable p] (h : p) (x y : α) : (bif decide p then x else y) = x := by rw [decide_eq_true h]; rfl

theorem cond_neg {α : Type} {p : Prop} [Decidable p] (h : ¬ p) (x y : α) : (bif decide p then x else y) = y := by rw [decide_eq_false h]; rfl

theorem cond_if {α : Type} {p : Prop} [Decidable p] (x y : α) : (bif decide p then x else y) = if p then x else y := by
  by_cases h : p <;> simp [h]

/-- a search -/
theorem findI {α : Type} [Inhabited α] (l : List α) (L : Nat → Int → Option (Int ⊕ Unit)) (p : α → Bool)
    (hend : ∀ n, L (n + 1) (l.length : Int) = some (.inr ()))
    (hstep : ∀ n i, i < l.length → L (n + 1) (i : Int) = if p (gt l (i : Int)) then some (.inl (i : Int)) else L n ((i + 1 : Nat) : Int))
    (N : Nat) (hl : l.length < N) : L N 0 = some (match l.findIdx? p with | some i => .inl (i : Int) | none => .inr ()) := by
  refine (listW l (fun n i (_ : Unit) => L n i) (fun i _ => ∀ d ∈ l.take i, p d = false)
    (fun r => r = (match l.findIdx? p with | some i => .inl (i : Int) | none => .inr ())) ?_ ?_ N hl () (by simp)).eq
  · intro n _ hI
    rw [List.take_length] at hI
    rw [hend]
    refine Wp_some.2 ?_
    rw [List.findIdx?_eq_none_iff.2 hI]
  · intro n i _ d hi hg hd hm hI ih
    rw [hstep n i hi, hg]
    by_cases h : p d = true
    · rw [if_pos h]
      refine Wp_some.2 ?_
      have : l.findIdx? p = some i := by
        rw [List.findIdx?_eq_some_iff_getElem]
        refine ⟨hi, by rw [← gt_nat hi, hg]; exact h, fun j hj => ?_⟩
        simpa using hI l[j] (List.mem_take_iff_getElem.2 ⟨j, by omega, rfl⟩)
      rw [this]
    · rw [if_neg h]
      refine ih () ?_
      intro e he
      rw [List.take_succ_eq_append_getElem hi, List.mem_append] at he
      rcases he with he | he
      · exact hI e he
      · rw [← gt_nat hi, hg] at he
        simp at he; subst he; simpa using h

/-- a check of all, by place: what comes out where one is of the kind, and where none is -/
theorem anyI {α ρ : Type} [Inhabited α] (l : List α) (L : Nat → Int → Option ρ) (P : Nat → Prop) (x y : ρ)
    (hend : ∀ n, L (n + 1) (l.length : Int) = some y)
    (hstep : ∀ n i, i < l.length → (P i ∧ L (n + 1) (i : Int) = some x) ∨ (¬ P i ∧ L (n + 1) (i : Int) = L n ((i + 1 : Nat) : Int)))
    (N : Nat) (hl : l.length < N) : ((∃ i, i < l.length ∧ P i) ∧ L N 0 = some x) ∨ ((∀ i, i < l.length → ¬ P i) ∧ L N 0 = some y) := by
  have h := listW l (fun n i (_ : Unit) => L n i) (fun i _ => ∀ j, j < i → ¬ P j)
    (fun r => ((∃ i, i < l.length ∧ P i) ∧ r = x) ∨ ((∀ i, i < l.length → ¬ P i) ∧ r = y)) ?_ ?_ N hl () (by intro j hj; omega)
  · obtain ⟨r, e, h⟩ := h
    have e : L N 0 = some r := e
    rw [e]
    rcases h with ⟨h1, rfl⟩ | ⟨h1, rfl⟩
    · exact .inl ⟨h1, rfl⟩
    · exact .inr ⟨h1, rfl⟩
  · intro n _ hI
    rw [hend]
    exact Wp_some.2 (.inr ⟨hI, rfl⟩)
  · intro n i _ d hi hg hd hm hI ih
    rcases hstep n i hi with ⟨h1, h2⟩ | ⟨h1, h2⟩
    · rw [h2]; exact Wp_some.2 (.inl ⟨⟨i, hi, h1⟩, rfl⟩)
    · rw [h2]
      refine ih () fun j hj => ?_
      by_cases e : j = i
      · subst e; exact h1
      · exact hI j (by omega)

theorem FU_eq : FU = 4611686018427387904 := rfl

def named (l : List (ByteArray × Int)) (s : ByteArray) : Int := ix (fun d => decide (d.1 = s)) l

def valued (l : List (ByteArray × Int)) (n : Int) : Int := ix (fun d => decide (d.2 = n)) l

theorem spec_indexOf (l : List (ByteArray × Int)) (s : ByteArray) (hl : l.length ≤ 1099511627776) : m_spec_indexOf l s = some (named l s) := by
  rw [m_spec_indexOf, findI l (m_spec_indexOf_L1 l s) (fun d => decide (d.1 = s)) ?_ ?_ FU (by rw [FU_eq]; omega), bd_some, named, ix]
  · cases l.findIdx? (fun d => decide (d.1 = s)) <;> rfl
  · intro n; rw [m_spec_indexOf_L1, cond_neg (by omega)]
  · intro n i hi
    rw [m_spec_indexOf_L1, cond_pos (by omega), gd_pos (by omega), w64s (by omega), cond_if]
    simp

theorem impl_named (l : List (ByteArray × Int)) (s : ByteArray) (hl : l.length ≤ 1099511627776) : m_impl_named l s = some (named l s) := by
  rw [m_impl_named, m_slices_IndexFunc_si_named_1_l, findI l (m_slices_IndexFunc_si_named_1_l_L1 l s) (fun d => decide (d.1 = s)) ?_ ?_ FU (by rw [FU_eq]; omega), bd_some, named, ix]
  · cases l.findIdx? (fun d => decide (d.1 = s)) <;> rfl
  · intro n; rw [m_slices_IndexFunc_si_named_1_l_L1, cond_neg (by omega)]
  · intro n i hi
    rw [m_slices_IndexFunc_si_named_1_l_L1, cond_pos (by omega), gd_pos (by omega), w64s (by omega), m_impl_named_1_l, bd_some, cond_if]
    simp

theorem spec_valueAt (l : List (ByteArray × Int)) (s : Int) (hl : l.length ≤ 1099511627776) : m_spec_valueAt l s = some (valued l s) := by
  rw [m_spec_valueAt, findI l (m_spec_valueAt_L1 l s) (fun d => decide (d.2 = s)) ?_ ?_ FU (by rw [FU_eq]; omega), bd_some, valued, ix]
  · cases l.findIdx? (fun d => decide (d.2 = s)) <;> rfl
  · intro n; rw [m_spec_valueAt_L1, cond_neg (by omega)]
  · intro n i hi
    rw [m_spec_valueAt_L1, cond_pos (by omega), gd_pos (by omega), w64s (by omega), cond_if]
    simp

theorem impl_valued (l : List (ByteArray × Int)) (s : Int) (hl : l.length ≤ 1099511627776) : m_impl_valued l s = some (valued l s) := by
  rw [m_impl_valued, m_slices_IndexFunc_si_valued_1_l, findI l (m_slices_IndexFunc_si_valued_1_l_L1 l s) (fun d => decide (d.2 = s)) ?_ ?_ FU (by rw [FU_eq]; omega), bd_some, valued, ix]
  · cases l.findIdx? (fun d => decide (d.2 = s)) <;> rfl
  · intro n; rw [m_slices_IndexFunc_si_valued_1_l_L1, cond_neg (by omega)]
  · intro n i hi
    rw [m_slices_IndexFunc_si_valued_1_l_L1, cond_pos (by omega), gd_pos (by omega), w64s (by omega), m_impl_valued_1_l, bd_some, cond_if]
    simp

/-- 1 to 6 letters from a to z -/
def NameOk (s : ByteArray) : Prop := (∀ i, i < s.size → 97 ≤ byteAt s i ∧ byteAt s i ≤ 122) ∧ 1 ≤ s.size ∧ s.size ≤ 6

instance (s : ByteArray) : Decidable (NameOk s) := inferInstanceAs (Decidable (_ ∧ _))

theorem spec_inRange (a b c : Int) : m_spec_inRange a b c = some (decide (b ≤ a ∧ a ≤ c)) := by
  rw [m_spec_inRange, cond_if]
  by_cases h1 : b ≤ a <;> by_cases h2 : a ≤ c <;> simp [h1, h2]

theorem impl_in (a b c : Int) : m_impl_in a b c = some (decide (b ≤ a ∧ a ≤ c)) := spec_inRange a b c

theorem validName_loop (s : ByteArray) (hs : s.size ≤ 1099511627776) : Wp (m_spec_validName_L1 s FU 0) (fun r => (r = .inl () ∧ ∃ i, i < s.size ∧ ¬ (97 ≤ byteAt s i ∧ byteAt s i ≤ 122)) ∨ (r = .inr () ∧ ∀ i, i < s.size → 97 ≤ byteAt s i ∧ byteAt s i ≤ 122)) := by
  refine loopW (m_spec_validName_L1 s) (fun v => ∃ i : Nat, v = i ∧ i ≤ s.size ∧ ∀ j, j < i → 97 ≤ byteAt s j ∧ byteAt s j ≤ 122) (fun v => s.size - v.toNat) _ ?_ FU 0 ⟨0, rfl, by omega, by intro j hj; omega⟩ (by rw [FU_eq]; omega)
  rintro n _ ⟨i, rfl, hi, hI⟩ ih
  rw [m_spec_validName_L1]
  by_cases h : i < s.size
  · rw [cond_pos (by omega), gd_pos (by omega), w64s (by omega), Int.toNat_natCast]
    by_cases h1 : byteAt s i < 97
    · rw [cond_pos h1]; exact Wp_some.2 (.inl ⟨rfl, i, h, by omega⟩)
    · rw [cond_neg h1]
      by_cases h2 : 122 < byteAt s i
      · rw [cond_pos h2]; exact Wp_some.2 (.inl ⟨rfl, i, h, by omega⟩)
      · rw [cond_neg h2]
        refine ih _ ⟨i + 1, rfl, h, fun j hj => ?_⟩ (by omega)
        by_cases e : j = i
        · subst e; omega
        · exact hI j (by omega)
  · rw [cond_neg (by omega)]
    exact Wp_some.2 (.inr ⟨rfl, fun j hj => hI j (by omega)⟩)

theorem spec_validName {s : ByteArray} (hs : s.size ≤ 1099511627776) : m_spec_validName s = some (decide (NameOk s)) := by
  obtain ⟨r, e, h⟩ := validName_loop s hs
  rw [m_spec_validName, e, bd_some]
  rcases h with ⟨rfl, i, hi, h⟩ | ⟨rfl, h⟩
  · have : ¬ NameOk s := fun hn => h (hn.1 i hi)
    rw [decide_eq_false this]; rfl
  · rw [sm_inr, spec_inRange, bd_some]
    have : NameOk s ↔ ((1 : Int) ≤ (s.size : Int) ∧ (s.size : Int) ≤ 6) := ⟨fun hn => by have := hn.2; omega, fun hh => ⟨h, by omega⟩⟩
    rw [decide_eq_decide.2 this]

theorem validName_L1_eq (p : ByteArray) : ∀ (n : Nat) (v : Int), m_impl_ValidName_L1 p n v = m_spec_validName_L1 p n v
  | 0, v => rfl
  | n + 1, v => by rw [m_impl_ValidName_L1, m_spec_validName_L1, validName_L1_eq p n]

theorem impl_ValidName {s : ByteArray} (hs : s.size ≤ 1099511627776) : m_impl_ValidName s = some (decide (NameOk s)) := by
  rw [← spec_validName hs, m_impl_ValidName, m_spec_validName, validName_L1_eq]; rfl

/-- names and lists that can be read -/
def DefsIn (l : List (ByteArray × Int)) : Prop := l.length ≤ 1099511627776 ∧ (∀ d ∈ l, d.1.size ≤ 1099511627776) ∧ ∀ d ∈ l, I64 d.2

def DefsOk (l : List (ByteArray × Int)) (lo hi : Int) : Prop := (∀ i, i < l.length → NameOk (gt l (i : Int)).1 ∧ (lo ≤ (gt l (i : Int)).2 ∧ (gt l (i : Int)).2 ≤ hi) ∧ ¬ 0 ≤ named (l.take i) (gt l (i : Int)).1) ∧ l.length ≤ 12

instance (l : List (ByteArray × Int)) (lo hi : Int) : Decidable (DefsOk l lo hi) := inferInstanceAs (Decidable (_ ∧ _))

theorem spec_validDefs {l : List (ByteArray × Int)} (h : DefsIn l) (lo hi : Int) : m_spec_validDefs l lo hi = some (decide (DefsOk l lo hi)) := by
  obtain ⟨hl, hs, -⟩ := h
  have h := anyI l (m_spec_validDefs_L1 l lo hi) (fun i => ¬ (NameOk (gt l (i : Int)).1 ∧ (lo ≤ (gt l (i : Int)).2 ∧ (gt l (i : Int)).2 ≤ hi) ∧ ¬ 0 ≤ named (l.take i) (gt l (i : Int)).1)) (.inl ()) (.inr ()) ?_ ?_ FU (by rw [FU_eq]; omega)
  · rw [m_spec_validDefs]
    rcases h with ⟨⟨i, h1, h2⟩, e⟩ | ⟨h1, e⟩
    · rw [e, bd_some, sm_inl]
      have : ¬ DefsOk l lo hi := fun h => h2 (h.1 i h1)
      rw [decide_eq_false this]
    · rw [e, bd_some, sm_inr]
      have : DefsOk l lo hi ↔ (l.length : Int) ≤ 12 := ⟨fun h => by have := h.2; omega, fun h => ⟨fun i hi => Decidable.not_not.1 (h1 i hi), by omega⟩⟩
      rw [decide_eq_decide.2 this]
  · intro n; rw [m_spec_validDefs_L1, cond_neg (by omega)]
  · intro n i hi'
    have hm : gt l (i : Int) ∈ l := gt_mem (by omega)
    rw [m_spec_validDefs_L1, cond_pos (by omega), gd_pos (by omega), spec_validName (hs _ hm), bd_some, spec_inRange, bd_some, gd_pos (by omega), sub_zero, spec_indexOf _ _ (by rw [List.length_take]; omega), bd_some, w64s (by omega)]
    by_cases h1 : NameOk (gt l (i : Int)).1 <;> simp only [h1, decide_true, decide_false, Bool.not_true, Bool.not_false, cond_true, cond_false, true_and, false_and, not_false_eq_true, not_true_eq_false, or_false, and_self]
    by_cases h2 : lo ≤ (gt l (i : Int)).2 ∧ (gt l (i : Int)).2 ≤ hi <;> simp only [h2, decide_true, decide_false, Bool.not_true, Bool.not_false, cond_true, cond_false, true_and, false_and, not_false_eq_true, not_true_eq_false, or_false, and_self]
    by_cases h3 : 0 ≤ named (l.take i) (gt l (i : Int)).1 <;> simp only [h3, decide_true, decide_false, Bool.not_true, Bool.not_false, cond_true, cond_false, true_and, false_and, not_false_eq_true, not_true_eq_false, or_false, and_self, false_or]

theorem impl_defsValid {l : List (ByteArray × Int)} (h : DefsIn l) (lo hi : Int) : m_impl_defsValid l lo hi = some (decide (DefsOk l lo hi)) := by
  have e : ∀ (n : Nat) (i : Nat), i ≤ l.length → m_impl_defsValid_L1 l lo hi n (i : Int) = m_spec_validDefs_L1 l lo hi n (i : Int) := by
    intro n
    induction n with
    | zero => intro i _; rfl
    | succ n ih =>
      intro i hi'
      rw [m_impl_defsValid_L1, m_spec_validDefs_L1]
      by_cases hlt : i < l.length
      · have hm : gt l (i : Int) ∈ l := gt_mem (by omega)
        have hl := h.1
        rw [cond_pos (by omega), cond_pos (by omega), w64s (by omega), ih (i + 1) hlt, impl_ValidName (h.2.1 _ hm), spec_validName (h.2.1 _ hm), sub_zero,
          impl_named _ _ (by rw [List.length_take]; omega), spec_indexOf _ _ (by rw [List.length_take]; omega)]
        rfl
      · rw [cond_neg (by omega), cond_neg (by omega)]
  rw [← spec_validDefs h, m_impl_defsValid, m_spec_validDefs, show (0 : Int) = ((0 : Nat) : Int) from rfl, e FU 0 (by omega)]

def FlagOk (l : List (ByteArray × Int)) (b : Int) : Prop := DefsOk l 0 4095 ∧ 0 ≤ b ∧ b ≤ 3

instance (l : List (ByteArray × Int)) (b : Int) : Decidable (FlagOk l b) := inferInstanceAs (Decidable (_ ∧ _))

def EnumOk (l : List (ByteArray × Int)) : Prop := DefsOk l (-1000) 1000

instance (l : List (ByteArray × Int)) : Decidable (EnumOk l) := inferInstanceAs (Decidable (DefsOk _ _ _))

theorem spec_validEnum {l : List (ByteArray × Int)} (h : DefsIn l) : m_spec_validEnum l = some (decide (EnumOk l)) := by
  rw [m_spec_validEnum, spec_validDefs h, bd_some]; rfl

theorem impl_ValidEnum {l : List (ByteArray × Int)} (h : DefsIn l) : m_impl_ValidEnum l = some (decide (EnumOk l)) := by
  rw [m_impl_ValidEnum, impl_defsValid h, bd_some]; rfl

/-- what a list of definitions that is right tells -/
theorem DefsOk.out {l : List (ByteArray × Int)} {lo hi : Int} (h : DefsOk l lo hi) : (∀ d ∈ l, NameOk d.1 ∧ lo ≤ d.2 ∧ d.2 ≤ hi) ∧ (l.map (·.1)).Nodup ∧ l.length ≤ 12 := by
  refine ⟨fun d hd => ?_, ?_, h.2⟩
  · obtain ⟨i, hi', rfl⟩ := List.mem_iff_getElem.1 hd
    have := h.1 i hi'
    rw [gt_nat hi'] at this
    exact ⟨this.1, this.2.1⟩
  · rw [List.Nodup, List.pairwise_iff_getElem]
    intro i j hi' hj hij e
    simp only [List.length_map] at hi' hj
    have := (h.1 j hj).2.2
    rw [gt_nat hj] at this
    apply this
    simp only [List.getElem_map] at e
    unfold named
    rcases ix_cases (fun d => decide (d.1 = l[j].1)) (l.take j) with ⟨_, _, h3⟩ | ⟨k, d, h1, _⟩
    · have := h3 l[i] (List.mem_take_iff_getElem.2 ⟨i, by omega, rfl⟩)
      simp [e] at this
    · rw [h1]; omega

theorem DefsOk.of {l : List (ByteArray × Int)} {lo hi : Int} (h : (∀ d ∈ l, NameOk d.1 ∧ lo ≤ d.2 ∧ d.2 ≤ hi) ∧ (l.map (·.1)).Nodup ∧ l.length ≤ 12) : DefsOk l lo hi := by
  refine ⟨fun i hi' => ?_, h.2.2⟩
  have hm := h.1 _ (List.getElem_mem hi')
  rw [gt_nat hi']
  refine ⟨hm.1, hm.2, ?_⟩
  unfold named
  rcases ix_cases (fun d => decide (d.1 = l[i].1)) (l.take i) with ⟨h1, _⟩ | ⟨k, d, h1, h2, h3, h4, h5, h6⟩
  · rw [h1]; omega
  · exfalso
    obtain ⟨j, hj, rfl⟩ := List.mem_take_iff_getElem.1 h5
    have hnd := h.2.1
    rw [List.Nodup, List.pairwise_iff_getElem] at hnd
    have := hnd j i (by simp; omega) (by simp; omega) (by omega)
    simp only [List.getElem_map] at this
    exact this (by simpa using h6)

theorem FlagOk.len {l : List (ByteArray × Int)} {b : Int} (h : FlagOk l b) : l.length ≤ 12 := h.1.2

def ArmsIn (l : List (Int × Int)) : Prop := l.length ≤ 1099511627776 ∧ ∀ d ∈ l, I64 d.1 ∧ I64 d.2

def Bytes (l : List Int) : Prop := ∀ n ∈ l, 0 ≤ n ∧ n < 256

theorem tmod_range {a b : Int} (ha : 0 ≤ a) (hb : 0 < b) : 0 ≤ Int.tmod a b ∧ Int.tmod a b < b := by
  rw [Int.tmod_eq_emod_of_nonneg ha]
  exact ⟨Int.emod_nonneg _ (by omega), Int.emod_lt_of_pos _ hb⟩

theorem tdiv_range {a b : Int} (ha : 0 ≤ a) (hb : 0 < b) : 0 ≤ Int.tdiv a b ∧ Int.tdiv a b ≤ a := by
  rw [Int.tdiv_eq_ediv_of_nonneg ha]
  exact ⟨Int.ediv_nonneg ha (by omega), Int.ediv_le_self _ ha⟩

theorem pick {n : Int} {code : List Int} {p : Int} (hc : Bytes code) (hl : code.length ≤ 9223372036854775807) (hp : 0 ≤ p ∧ p < 1000000) :
    ∃ x, m_spec_reader_pick n code p = some x ∧ 0 ≤ x ∧ (1 ≤ n → x < n) := by
  unfold m_spec_reader_pick
  by_cases h1 : n < 1
  · exact ⟨0, by rw [decide_eq_true h1, cond_true], by omega, fun h => by omega⟩
  rw [decide_eq_false h1, cond_false]
  by_cases h2 : (code.length : Int) = 0
  · exact ⟨0, by rw [decide_eq_true h2, cond_true], by omega, fun h => by omega⟩
  rw [decide_eq_false h2, cond_false]
  have e1 : IntKind.wrap .i64 (IntKind.wrap .i64 (p + 1) - 1) = p := by
    rw [w64 (a := p + 1) (by omega) (by omega), w64 (by omega) (by omega)]; omega
  have hL : 0 < (code.length : Int) := by omega
  simp only [e1, nm_eq]
  by_cases h3 : p < (code.length : Int)
  · have hb := hc _ (gt_mem ⟨hp.1, h3⟩)
    rw [decide_eq_true h3, cond_true, gd_pos ⟨hp.1, h3⟩, gd_pos (by omega), w64 (by omega) (by omega)]
    have := tmod_range (a := gt code p) (b := n) hb.1 (by omega)
    exact ⟨_, rfl, this.1, fun _ => this.2⟩
  rw [decide_eq_false h3, cond_false, gd_pos (by omega)]
  have t1 := tmod_range hp.1 hL
  rw [gd_pos t1, w64 (a := p * 7) (by omega) (by omega), w64 (a := p * 7 + 3) (by omega) (by omega)]
  have t2 := tmod_range (a := p * 7 + 3) (by omega) hL
  rw [gd_pos t2]
  have b1 := hc _ (gt_mem t1)
  have b2 := hc _ (gt_mem t2)
  generalize gt code (Int.tmod p (code.length : Int)) = u at *
  generalize gt code (Int.tmod (p * 7 + 3) (code.length : Int)) = v at *
  have t3 := tdiv_range hp.1 hL
  generalize Int.tdiv p (code.length : Int) = q at *
  rw [gd_pos ⟨by omega, w64 (by omega) (by omega)⟩]
  rw [w64 (a := u) (by omega) (by omega), w64 (a := u * 131) (by omega) (by omega), w64 (a := v) (by omega) (by omega), w64 (a := v * 1117) (by omega) (by omega), w64 (a := u * 131 + v * 1117) (by omega) (by omega),
    w64 (a := p * 29) (by omega) (by omega), w64 (a := u * 131 + v * 1117 + p * 29) (by omega) (by omega), w64 (a := q * 53) (by omega) (by omega), w64 (a := u * 131 + v * 1117 + p * 29 + q * 53) (by omega) (by omega)]
  have hz : 0 ≤ u * 131 + v * 1117 + p * 29 + q * 53 ∧ u * 131 + v * 1117 + p * 29 + q * 53 < 1000000000 := by omega
  generalize u * 131 + v * 1117 + p * 29 + q * 53 = z at *
  have t4 := tdiv_range (a := z) (b := 64) hz.1 (by omega)
  rw [gd_pos ⟨by omega, w64 (by omega) (by omega)⟩, gd_pos (by omega)]
  have hx : ∃ y : Nat, Go.bits .xor .i64 z (Int.tdiv z 64) = (y : Int) := by
    obtain ⟨a, ha⟩ := Int.eq_ofNat_of_zero_le hz.1
    obtain ⟨b, hb⟩ := Int.eq_ofNat_of_zero_le t4.1
    refine ⟨a ^^^ b, ?_⟩
    rw [hb, ha]
    exact xor64 (by omega) (by omega)
  obtain ⟨y, hy⟩ := hx
  rw [hy]
  have := tmod_range (a := (y : Int)) (b := n) (by omega) (by omega)
  exact ⟨_, rfl, this.1, fun _ => this.2⟩

theorem one {code : List Int} {p : Int} (hc : Bytes code) (hl : code.length ≤ 9223372036854775807) (hp : 0 ≤ p ∧ p < 1000000) {xs : List Int} (hx : xs ≠ []) : ∃ x, m_spec_reader_one xs code p = some x ∧ x ∈ xs := by
  have h1 : 1 ≤ (xs.length : Int) := by
    have := List.length_pos_iff.2 hx
    omega
  obtain ⟨x, e, h0, h2⟩ := pick (n := (xs.length : Int)) hc hl hp
  refine ⟨gt xs x, ?_, gt_mem ⟨h0, h2 h1⟩⟩
  rw [m_spec_reader_one, e, bd_some, gd_pos ⟨h0, h2 h1⟩]

theorem oneOf {code : List Int} {p : Int} (hc : Bytes code) (hl : code.length ≤ 9223372036854775807) (hp : 0 ≤ p ∧ p < 1000000) {xs : List ByteArray} (hx : xs ≠ []) : ∃ x, m_spec_reader_of xs code p = some x ∧ x ∈ xs := by
  have h1 : 1 ≤ (xs.length : Int) := by
    have := List.length_pos_iff.2 hx
    omega
  obtain ⟨x, e, h0, h2⟩ := pick (n := (xs.length : Int)) hc hl hp
  refine ⟨gt xs x, ?_, gt_mem ⟨h0, h2 h1⟩⟩
  rw [m_spec_reader_of, e, bd_some, gd_pos ⟨h0, h2 h1⟩]

theorem aName {code : List Int} {p : Int} (hc : Bytes code) (hl : code.length ≤ 9223372036854775807) (hp : 0 ≤ p ∧ p < 1000000) : ∃ x, m_spec_aName code p = some x ∧ x.size ≤ 7 := by
  unfold m_spec_aName
  obtain ⟨x, e, h⟩ := oneOf hc hl hp (xs := [(ByteArray.mk #[97]), (ByteArray.mk #[98]), (ByteArray.mk #[99]), (ByteArray.mk #[100]), (ByteArray.mk #[101]), (ByteArray.mk #[97, 98]), (ByteArray.mk #[114, 101, 100]), (ByteArray.mk #[98, 108, 117, 101]), (ByteArray.mk #[111, 110]), (ByteArray.mk #[111, 102, 102]), (ByteArray.mk #[97, 108, 108]), (ByteArray.mk #[102])]) (by simp)
  refine ⟨x, by rw [e]; rfl, ?_⟩
  simp only [List.mem_cons, List.not_mem_nil, or_false] at h
  rcases h with rfl | rfl | rfl | rfl | rfl | rfl | rfl | rfl | rfl | rfl | rfl | rfl <;> decide

/-- few definitions with short names and values in a small range -/
def SomeDefs (l : List (ByteArray × Int)) : Prop := l.length ≤ 26 ∧ ∀ d ∈ l, d.1.size ≤ 7 ∧ -5000 ≤ d.2 ∧ d.2 ≤ 5000

theorem SomeDefs.snoc {l : List (ByteArray × Int)} {d : ByteArray × Int} (h : ∀ d ∈ l, d.1.size ≤ 7 ∧ -5000 ≤ d.2 ∧ d.2 ≤ 5000) (hd : d.1.size ≤ 7 ∧ -5000 ≤ d.2 ∧ d.2 ≤ 5000) : ∀ e ∈ l ++ [d], e.1.size ≤ 7 ∧ -5000 ≤ e.2 ∧ e.2 ≤ 5000 := by
  intro e he
  rcases List.mem_append.1 he with he | he
  · exact h e he
  · simp at he; subst he; exact hd

theorem goodDefs_L1 {code : List Int} (hc : Bytes code) (hl : code.length ≤ 9223372036854775807) (high : Int) : ∀ (k n : Nat) (v5 : List (ByteArray × Int)) (v7 : Int), k < n → k ≤ 12 → 0 ≤ v7 → v7 + 5 * k < 900000 → v5.length + k ≤ 12 → (∀ d ∈ v5, d.1.size ≤ 7 ∧ -5000 ≤ d.2 ∧ d.2 ≤ 5000) →
    ∃ r, m_spec_goodDefs_L1 high code n v5 (k : Int) v7 = some r ∧ (∀ d ∈ r.1, d.1.size ≤ 7 ∧ -5000 ≤ d.2 ∧ d.2 ≤ 5000) ∧ r.1.length ≤ 12 ∧ v7 ≤ r.2 ∧ r.2 ≤ v7 + 5 * k
  | 0, n, v5, v7, hn, hk, h0, h1, h2, hg => by
    cases n with
    | zero => omega
    | succ n => exact ⟨(v5, v7), by rw [m_spec_goodDefs_L1, decide_eq_false (by omega), cond_false], hg, by simpa using h2, by simp, by simp⟩
  | k + 1, n, v5, v7, hn, hk, h0, h1, h2, hg => by
    cases n with
    | zero => omega
    | succ n =>
      rw [m_spec_goodDefs_L1, decide_eq_true (by omega), cond_true]
      rw [w64 (a := v7 + 1) (by omega) (by omega), w64 (a := v7 + 1 + 1) (by omega) (by omega), w64 (a := v7 + 1 + 1 + 1) (by omega) (by omega), w64 (a := v7 + 1 + 1 + 1 + 1) (by omega) (by omega), w64 (a := v7 + 1 + 1 + 1 + 1 + 1) (by omega) (by omega),
        w64 (a := ((k + 1 : Nat) : Int) - 1) (by omega) (by omega)]
      obtain ⟨x8, e8, s8⟩ := aName hc hl (p := v7) ⟨by omega, by omega⟩
      obtain ⟨x9, e9, l9, u9⟩ := pick (n := 12) hc hl (p := v7 + 1) ⟨by omega, by omega⟩
      obtain ⟨x10, e10, m10⟩ := one hc hl (p := v7 + 1 + 1) ⟨by omega, by omega⟩ (xs := ([1, 2, 3, 4, 5, 0, 8, x9, (-1), 7, 1000, 16] : List Int)) (by simp)
      obtain ⟨x11, e11, l11, u11⟩ := pick (n := 64) hc hl (p := v7 + 1 + 1 + 1) ⟨by omega, by omega⟩
      obtain ⟨x12, e12, m12⟩ := one hc hl (p := v7 + 1 + 1 + 1 + 1) ⟨by omega, by omega⟩ (xs := ([1, 2, 4, 8, 3, 16, 0, 6, 7, x11, 2048, 5, 1, 2, 4] : List Int)) (by simp)
      have r12 : 0 ≤ x12 ∧ x12 < 4096 := by
        have := u11 (by omega)
        simp only [List.mem_cons, List.not_mem_nil, or_false] at m12
        omega
      have r10 : -1 ≤ x10 ∧ x10 ≤ 1000 := by
        have := u9 (by omega)
        simp only [List.mem_cons, List.not_mem_nil, or_false] at m10
        omega
      have e13 := spec_indexOf v5 x8 (by omega)
      rw [e8, bd_some, e9, bd_some, e10, bd_some, e11, bd_some, e12, bd_some, e13, bd_some, bd_some, show ((k + 1 : Nat) : Int) - 1 = (k : Int) by omega]
      have keep : ∀ q, 0 ≤ q → q ≤ v7 + 5 → v7 ≤ q → ∃ r, m_spec_goodDefs_L1 high code n v5 (k : Int) q = some r ∧ (∀ d ∈ r.1, d.1.size ≤ 7 ∧ -5000 ≤ d.2 ∧ d.2 ≤ 5000) ∧ r.1.length ≤ 12 ∧ v7 ≤ r.2 ∧ r.2 ≤ v7 + 5 * ((k + 1 : Nat) : Int) := by
        intro q q0 q1 q2
        obtain ⟨r, er, g1, g2, g3, g4⟩ := goodDefs_L1 hc hl high k n v5 q (by omega) (by omega) q0 (by omega) (by omega) hg
        exact ⟨r, er, g1, by omega, by omega, by omega⟩
      have put : ∀ x q, (-5000 ≤ x ∧ x ≤ 5000) → 0 ≤ q → q ≤ v7 + 5 → v7 ≤ q → ∃ r, (gd (v5.length + [(x8, x)].length ≤ 1099511627776) <| m_spec_goodDefs_L1 high code n (v5 ++ [(x8, x)]) (k : Int) q) = some r ∧ (∀ d ∈ r.1, d.1.size ≤ 7 ∧ -5000 ≤ d.2 ∧ d.2 ≤ 5000) ∧ r.1.length ≤ 12 ∧ v7 ≤ r.2 ∧ r.2 ≤ v7 + 5 * ((k + 1 : Nat) : Int) := by
        intro x q hx q0 q1 q2
        rw [gd_pos (by rw [List.length_singleton]; omega)]
        obtain ⟨r, er, g1, g2, g3, g4⟩ := goodDefs_L1 hc hl high k n (v5 ++ [(x8, x)]) q (by omega) (by omega) q0 (by omega) (by simp; omega) (SomeDefs.snoc hg ⟨s8, hx⟩)
        exact ⟨r, er, g1, by omega, by omega, by omega⟩
      by_cases hh : high = 4095
      · rw [decide_eq_true hh, cond_true]
        by_cases h : named v5 x8 < 0
        · rw [decide_eq_true h, cond_true, decide_eq_true r12.1, cond_true]
          exact put _ _ ⟨by omega, by omega⟩ (by omega) (by omega) (by omega)
        · rw [decide_eq_false h, cond_false]
          exact keep _ (by omega) (by omega) (by omega)
      · rw [decide_eq_false hh, cond_false]
        by_cases h : named v5 x8 < 0
        · rw [decide_eq_true h, cond_true, Bool.not_false, cond_true]
          cases decide (0 ≤ x10) <;> exact put _ _ ⟨by omega, by omega⟩ (by omega) (by omega) (by omega)
        · rw [decide_eq_false h, cond_false]
          exact keep _ (by omega) (by omega) (by omega)

theorem goodDefs {code : List Int} (hc : Bytes code) (hl : code.length ≤ 9223372036854775807) (high : Int) {p : Int} (hp : 0 ≤ p ∧ p < 800000) :
    ∃ r, m_spec_goodDefs high code p = some r ∧ (∀ d ∈ r.1, d.1.size ≤ 7 ∧ -5000 ≤ d.2 ∧ d.2 ≤ 5000) ∧ r.1.length ≤ 12 ∧ p ≤ r.2 ∧ r.2 ≤ p + 61 := by
  obtain ⟨x, e, hx⟩ := one hc hl (p := p) ⟨by omega, by omega⟩ (xs := ([4, 3, 5, 2, 6, 1, 0, 12] : List Int)) (by simp)
  have hr : ∃ k : Nat, x = (k : Int) ∧ k ≤ 12 := by
    simp only [List.mem_cons, List.not_mem_nil, or_false] at hx
    exact ⟨x.toNat, by omega, by omega⟩
  obtain ⟨k, rfl, hk⟩ := hr
  obtain ⟨r, er, g1, g2, g3, g4⟩ := goodDefs_L1 hc hl high k FU [] (p + 1) (Nat.lt_of_le_of_lt hk (by decide)) hk (by omega) (by omega) (by rw [List.length_nil]; omega) (by intro d hd; cases hd)
  refine ⟨(r.1, r.2), ?_, g1, g2, by show p ≤ r.2; omega, by show r.2 ≤ p + 61; omega⟩
  rw [m_spec_goodDefs, e, bd_some, w64 (by omega) (by omega), er, bd_some]

def ArmIn (d : Int × Int) : Prop := (-60000 ≤ d.1 ∧ d.1 ≤ 60000) ∧ -60000 ≤ d.2 ∧ d.2 ≤ 60000

def SomeArms (l : List (Int × Int)) : Prop := ∀ d ∈ l, ArmIn d

theorem SomeArms.snoc {l : List (Int × Int)} {x : Int × Int} (h : SomeArms l) (hx : ArmIn x) : SomeArms (l ++ [x]) := by
  intro d hd
  rcases List.mem_append.1 hd with hd | hd
  · exact h d hd
  · simp at hd; subst hd; exact hx

theorem newReader {code : List Int} (hc : Bytes code) (hl : code.length ≤ 9223372036854775807) : ∃ c, m_spec_newReader code = some c ∧ Bytes c ∧ c.length ≤ 9223372036854775807 := by
  rw [m_spec_newReader]
  by_cases h : 2000 < (code.length : Int)
  · rw [decide_eq_true h, cond_true, gd_pos ⟨by omega, by omega, by omega, by omega⟩]
    refine ⟨_, rfl, fun n hn => ?_, ?_⟩
    · simp only [sub] at hn
      exact hc n (List.mem_of_mem_drop (List.mem_of_mem_take hn))
    · simp only [sub, List.length_take, List.length_drop]; omega
  · rw [decide_eq_false h, cond_false]
    exact ⟨_, rfl, hc, hl⟩

theorem SomeDefs.inn {l : List (ByteArray × Int)} (h : SomeDefs l) : DefsIn l :=
  ⟨by have := h.1; omega, fun d hd => by have := (h.2 d hd).1; omega, fun d hd => by have := (h.2 d hd).2; exact ⟨by omega, by omega⟩⟩

theorem SomeArms.inn {l : List (Int × Int)} (h : SomeArms l) (hl : l.length ≤ 1000) : ArmsIn l :=
  ⟨by omega, fun d hd => ⟨⟨by have := (h d hd).1; omega, by have := (h d hd).1; omega⟩, ⟨by have := (h d hd).2; omega, by have := (h d hd).2; omega⟩⟩⟩

/-- the length of a number in bits -/
def blen (n : Nat) : Nat := if n = 0 then 0 else Nat.log2 n + 1

/-- the greatest value of definitions, another number if there are none -/
def greatest : List (ByteArray × Int) → Int → Int
  | [], z => z
  | d :: l, _ => l.foldl (fun m e => if m < e.2 then e.2 else m) d.2

def ItemsIn (l : List (ByteArray × Bool × Int)) : Prop := l.length ≤ 1099511627776 ∧ (∀ d ∈ l, d.1.size ≤ 1099511627776) ∧ ∀ d ∈ l, I64 d.2.2

/-- the definitions of items, `next` telling the automatic values -/
def cbuild (next : List (ByteArray × Int) → Int) (items : List (ByteArray × Bool × Int)) (acc : List (ByteArray × Int)) : List (ByteArray × Int) :=
  items.foldl (fun acc x => acc ++ [(x.1, if x.2.1 then next acc else x.2.2)]) acc

theorem cbuild_length (next : List (ByteArray × Int) → Int) (items : List (ByteArray × Bool × Int)) : ∀ acc, (cbuild next items acc).length = acc.length + items.length := by
  induction items with
  | nil => intro acc; simp [cbuild]
  | cons x items ih => intro acc; rw [cbuild, List.foldl_cons, ← cbuild, ih]; simp; omega

theorem cbuild_append (next : List (ByteArray × Int) → Int) (items more : List (ByteArray × Bool × Int)) (acc) : cbuild next (items ++ more) acc = cbuild next more (cbuild next items acc) := by
  simp [cbuild, List.foldl_append]

theorem cbuild_prefix (next : List (ByteArray × Int) → Int) (items : List (ByteArray × Bool × Int)) : ∀ acc, ∃ r, cbuild next items acc = acc ++ r := by
  induction items with
  | nil => intro acc; exact ⟨[], by simp [cbuild]⟩
  | cons x items ih =>
    intro acc
    rw [cbuild, List.foldl_cons, ← cbuild]
    obtain ⟨r, hr⟩ := ih (acc ++ [(x.1, if x.2.1 then next acc else x.2.2)])
    exact ⟨_, by rw [hr, List.append_assoc]⟩

theorem cbuild_take (next : List (ByteArray × Int) → Int) (items : List (ByteArray × Bool × Int)) (k : Nat) (h : k ≤ items.length) : (cbuild next items []).take k = cbuild next (items.take k) [] := by
  conv => lhs; rw [← List.take_append_drop k items, cbuild_append]
  obtain ⟨r, hr⟩ := cbuild_prefix next (items.drop k) (cbuild next (items.take k) [])
  rw [hr, List.take_append_of_le_length (by rw [cbuild_length]; simp; omega), List.take_of_length_le (by rw [cbuild_length]; simp; omega)]

theorem cbuild_get (next : List (ByteArray × Int) → Int) (items : List (ByteArray × Bool × Int)) (k : Nat) (h : k < items.length) :
    (cbuild next items [])[k]'(by rw [cbuild_length]; simpa using h) = (items[k].1, if items[k].2.1 then next (cbuild next (items.take k) []) else items[k].2.2) := by
  have h1 := cbuild_take next items (k + 1) h
  have hl : k < (cbuild next items []).length := by rw [cbuild_length]; simpa using h
  rw [List.take_succ_eq_append_getElem h, cbuild_append, List.take_succ_eq_append_getElem hl, cbuild_take next items k (by omega)] at h1
  have e : cbuild next [items[k]] (cbuild next (items.take k) []) = cbuild next (items.take k) [] ++ [(items[k].1, if items[k].2.1 then next (cbuild next (items.take k) []) else items[k].2.2)] := rfl
  rw [e] at h1
  have := List.append_cancel_left h1
  simpa using this

theorem cbuild_names (next : List (ByteArray × Int) → Int) : ∀ (items : List (ByteArray × Bool × Int)) (acc : List (ByteArray × Int)), (cbuild next items acc).map (·.1) = acc.map (·.1) ++ items.map (·.1)
  | [], acc => by simp [cbuild]
  | x :: items, acc => by
    rw [cbuild, List.foldl_cons, ← cbuild, cbuild_names next items]
    simp

/-- the least power of two above all -/
def inext (l : List (ByteArray × Int)) : Int := IntKind.wrap .i64 ((2 ^ blen (greatest l 0).toNat : Nat) : Int)

def ItemsOk (l : List (ByteArray × Bool × Int)) (lo hi : Int) : Prop := (∀ i, i < l.length → NameOk (gt l (i : Int)).1 ∧ ((gt l (i : Int)).2.1 = true → (gt l (i : Int)).2.2 = 0) ∧ (lo ≤ (gt l (i : Int)).2.2 ∧ (gt l (i : Int)).2.2 ≤ hi) ∧ ∀ k, k < i → ¬ (gt l (k : Int)).1 = (gt l (i : Int)).1) ∧ l.length ≤ 12

theorem ItemsOk.of {items : List (ByteArray × Bool × Int)} {b : Int} (h1 : items.any (fun x => x.2.1 && !decide (x.2.2 = 0)) = false) (h2 : FlagOk (cbuild inext items []) b) : ItemsOk items 0 4095 := by
  have hlen : items.length ≤ 12 := by have := h2.len; rw [cbuild_length] at this; simpa using this
  refine ⟨fun i hi => ?_, hlen⟩
  have hd := h2.1.1 i (by rw [cbuild_length]; simpa using hi)
  have hi2 : i < (cbuild inext items []).length := by rw [cbuild_length]; simpa using hi
  rw [gt_nat hi2, cbuild_get inext items i hi] at hd
  rw [gt_nat hi]
  have hm := List.getElem_mem hi
  rw [List.any_eq_false] at h1
  have h3 := h1 _ hm
  refine ⟨hd.1, fun ha => ?_, ?_, fun k hk e => ?_⟩
  · rw [ha] at h3; simpa using h3
  · cases ha : items[i].2.1 with
    | true => rw [ha] at h3; simp at h3; omega
    | false => have := hd.2.1; rw [ha] at this; simpa using this
  · have hnd := h2.1.out.2.1
    rw [cbuild_names] at hnd
    simp only [List.map_nil, List.nil_append] at hnd
    rw [List.Nodup, List.pairwise_iff_getElem] at hnd
    have := hnd k i (by simp; omega) (by simpa using hi) hk
    simp only [List.getElem_map] at this
    rw [gt_nat (by omega)] at e
    exact this e

def SomeItems (l : List (ByteArray × Bool × Int)) : Prop := l.length ≤ 12 ∧ ∀ d ∈ l, d.1.size ≤ 7 ∧ -5000 ≤ d.2.2 ∧ d.2.2 ≤ 5000

theorem SomeItems.inn {l : List (ByteArray × Bool × Int)} (h : SomeItems l) : ItemsIn l :=
  ⟨by have := h.1; omega, fun d hd => by have := (h.2 d hd).1; omega, fun d hd => by have := (h.2 d hd).2; exact ⟨by omega, by omega⟩⟩

theorem named_range (f : List (ByteArray × Int)) (s : ByteArray) : -1 ≤ named f s ∧ named f s < (f.length : Int) := ix_range _ _

theorem valued_range (l : List (ByteArray × Int)) (n : Int) : -1 ≤ valued l n ∧ valued l n < (l.length : Int) := ix_range _ _

theorem goodEnum {code : List Int} (hc : Bytes code) (hl : code.length ≤ 9223372036854775807) {p : Int} (hp : 0 ≤ p ∧ p < 800000) :
    ∃ r, m_spec_goodEnum code p = some r ∧ (∀ d ∈ r.1, d.1.size ≤ 7 ∧ -5000 ≤ d.2 ∧ d.2 ≤ 5000) ∧ r.1.length ≤ 12 ∧ p ≤ r.2 ∧ r.2 ≤ p + 61 := by
  obtain ⟨r, er, h⟩ := goodDefs hc hl 1000 hp
  exact ⟨(r.1, r.2), by rw [m_spec_goodEnum, er, bd_some], h⟩

theorem set_some {l : List (ByteArray × Int)} {i : Nat} {d : ByteArray × Int} (h : ∀ d ∈ l, d.1.size ≤ 7 ∧ -5000 ≤ d.2 ∧ d.2 ≤ 5000) (hd : d.1.size ≤ 7 ∧ -5000 ≤ d.2 ∧ d.2 ≤ 5000) : ∀ e ∈ l.set i d, e.1.size ≤ 7 ∧ -5000 ≤ e.2 ∧ e.2 ≤ 5000 := by
  intro e he
  rcases List.mem_or_eq_of_mem_set he with he | rfl
  · exact h e he
  · exact hd

theorem someEnum {code : List Int} (hc : Bytes code) (hl : code.length ≤ 9223372036854775807) {p : Int} (hp : 0 ≤ p ∧ p < 700000) :
    ∃ r, m_spec_someEnum code p = some r ∧ SomeDefs r.1 ∧ p ≤ r.2 ∧ r.2 ≤ p + 70 := by
  obtain ⟨⟨l, q⟩, eg, g1, g2, g3, g4⟩ := goodEnum hc hl (p := p) ⟨by omega, by omega⟩
  simp only at g1 g2 g3 g4
  have sd : SomeDefs l := ⟨by omega, g1⟩
  rw [m_spec_someEnum, eg, bd_some]
  simp only []
  by_cases h0 : 0 < (l.length : Int)
  · obtain ⟨k, ek, lk, uk⟩ := pick (n := (l.length : Int)) hc hl (p := q) ⟨by omega, by omega⟩
    have uk := uk (by omega)
    obtain ⟨x, ex, lx, ux⟩ := pick (n := 24) hc hl (p := q + 1) ⟨by omega, by omega⟩
    have hk := g1 _ (gt_mem (l := l) (q := k) ⟨lk, uk⟩)
    rw [cond_pos h0, ek, bd_some, w64 (a := q + 1) (by omega) (by omega), ex, bd_some, w64 (a := q + 1 + 1) (by omega) (by omega), w64 (a := q + 1 + 1 + 1) (by omega) (by omega)]
    by_cases x0 : x = 0
    · obtain ⟨s, es, ms⟩ := oneOf hc hl (p := q + 1 + 1) ⟨by omega, by omega⟩ (xs := ([ByteArray.empty, (ByteArray.mk #[65]), (ByteArray.mk #[116, 111, 111, 108, 111, 110, 103])] : List ByteArray)) (by simp)
      have hs : s.size ≤ 7 := by
        simp only [List.mem_cons, List.not_mem_nil, or_false] at ms
        rcases ms with rfl | rfl | rfl <;> decide
      rw [cond_pos x0, es, bd_some, gd_pos ⟨lk, uk⟩]
      exact ⟨_, rfl, ⟨by simp only [List.length_set]; omega, set_some g1 ⟨hs, hk.2⟩⟩, by simp only; omega, by simp only; omega⟩
    · rw [cond_neg x0]
      by_cases x1 : x = 1
      · obtain ⟨y, ey, my⟩ := one hc hl (p := q + 1 + 1) ⟨by omega, by omega⟩ (xs := ([1001, (-1001)] : List Int)) (by simp)
        simp only [List.mem_cons, List.not_mem_nil, or_false] at my
        rw [cond_pos x1, ey, bd_some, gd_pos ⟨lk, uk⟩]
        exact ⟨_, rfl, ⟨by simp only [List.length_set]; omega, set_some g1 ⟨hk.1, by simp only; omega, by simp only; omega⟩⟩, by simp only; omega, by simp only; omega⟩
      · rw [cond_neg x1]
        by_cases x2 : x = 2
        · rw [cond_pos x2, gd_pos ⟨lk, uk⟩, gd_pos (by rw [List.length_singleton]; omega)]
          exact ⟨_, rfl, ⟨by simp only [List.length_append, List.length_singleton]; omega, SomeDefs.snoc g1 hk⟩, by simp only; omega, by simp only; omega⟩
        · rw [cond_neg x2]
          by_cases x3 : x = 3
          · rw [cond_pos x3, gd_pos (by omega), gd_pos (by rw [List.length_replicate]; omega)]
            refine ⟨_, rfl, ⟨by simp only [List.length_append, List.length_replicate]; omega, fun e he => ?_⟩, by simp only; omega, by simp only; omega⟩
            rcases List.mem_append.1 he with he | he
            · exact g1 e he
            · rw [List.eq_of_mem_replicate he]; decide
          · rw [cond_neg x3]
            exact ⟨_, rfl, sd, by simp only; omega, by simp only; omega⟩
  · rw [cond_neg h0]
    exact ⟨_, rfl, sd, by simp only; omega, by simp only; omega⟩

/-- a text of these bytes -/
def bl (l : List UInt8) : ByteArray := ⟨l.toArray⟩

theorem bl_toList (l : List UInt8) : (bl l).data.toList = l := rfl

theorem bl_append (a b : List UInt8) : bl a ++ bl b = bl (a ++ b) := by
  apply ByteArray.ext
  simp [bl]

theorem bl_size (l : List UInt8) : (bl l).size = l.length := by simp [bl, ByteArray.size]

theorem size_list (s : ByteArray) : s.size = s.data.toList.length := by rw [Array.length_toList]; rfl

theorem byteAt_list (s : ByteArray) (i : Nat) : byteAt s i = ((s.data.toList.getD i 0).toNat : Int) := rfl

/-- a number as a text -/
def itoaB (n : Int) : ByteArray := bl (Lib.itoa n)

theorem itoa_eq {n : Int} (h : I64 n) : m_strconv_Itoa n = some (itoaB n) := by
  rw [m_strconv_Itoa, gd_pos ⟨h.1, h.2⟩]; rfl

theorem digit_extract : ∀ k, k < 10 → (ByteArray.mk #[48, 49, 50, 51, 52, 53, 54, 55, 56, 57]).extract k (k + 1) = bl [UInt8.ofNat (48 + k)] := by
  intro k hk
  apply ByteArray.ext
  have : k = 0 ∨ k = 1 ∨ k = 2 ∨ k = 3 ∨ k = 4 ∨ k = 5 ∨ k = 6 ∨ k = 7 ∨ k = 8 ∨ k = 9 := by omega
  rcases this with rfl | rfl | rfl | rfl | rfl | rfl | rfl | rfl | rfl | rfl <;> rfl

theorem decDigits_length_le : ∀ (d u : Nat), u < 10 ^ (d + 1) → (Lib.decDigits u).length ≤ d + 1
  | 0, u, h => by rw [Lib.decDigits_one (by simpa using h)]; simp
  | d + 1, u, h => by
    by_cases h1 : u < 10
    · rw [Lib.decDigits_one h1]; simp
    · rw [Lib.decDigits, dif_neg h1, List.length_append, List.length_singleton]
      have := decDigits_length_le d (u / 10) (by rw [Nat.pow_succ] at h; omega)
      omega

theorem number_eq : ∀ (fu n : Nat), n < fu → n ≤ 1000000 → m_spec_number fu (n : Int) = some (bl (Lib.decDigits n))
  | 0, n, h, _ => absurd h (Nat.not_lt_zero _)
  | fu + 1, n, h, hn => by
    rw [m_spec_number]
    by_cases h1 : n < 10
    · have e : IntKind.wrap .i64 ((n : Int) + 1) = ((n + 1 : Nat) : Int) := w64s (by omega)
      have hs : ((ByteArray.mk #[48, 49, 50, 51, 52, 53, 54, 55, 56, 57]).size : Int) = 10 := rfl
      rw [cond_pos (by omega), e, hs, gd_pos ⟨by omega, by omega, by omega⟩, nm_eq, Int.toNat_natCast, Int.toNat_natCast, digit_extract n h1, Lib.decDigits_one h1]
    · have ed : Int.tdiv (n : Int) 10 = ((n / 10 : Nat) : Int) := by
        rw [Int.tdiv_eq_ediv_of_nonneg (by omega)]; omega
      have em : Int.tmod (n : Int) 10 = ((n % 10 : Nat) : Int) := by
        rw [Int.tmod_eq_emod_of_nonneg (by omega)]; omega
      have l1 := decDigits_length_le 6 (n / 10) (by omega)
      have l2 := decDigits_length_le 6 (n % 10) (by omega)
      rw [cond_neg (by omega), ed, em, gd_pos ⟨by decide, w64 (by omega) (by omega)⟩, number_eq fu (n / 10) (by omega) (by omega), bd_some, gd_pos (by decide), number_eq fu (n % 10) (by omega) (by omega), bd_some,
        gd_pos (by rw [bl_size, bl_size]; omega), bl_append]
      conv => rhs; rw [Lib.decDigits, dif_neg h1]
      rw [Lib.decDigits_one (i := n % 10) (by omega)]

theorem spec_number {n : Int} (h0 : 0 ≤ n) (h1 : n ≤ 1000000) : m_spec_number FU n = some (itoaB n) := by
  obtain ⟨k, rfl⟩ := Int.eq_ofNat_of_zero_le h0
  rw [number_eq FU k (by rw [FU_eq]; omega) (by omega), itoaB, Lib.itoa, if_neg (by omega), Int.toNat_natCast]

theorem itoa_length {n : Int} (h : -1000000 ≤ n ∧ n ≤ 1000000) : (Lib.itoa n).length ≤ 8 := by
  unfold Lib.itoa
  split
  · have := decDigits_length_le 6 n.natAbs (by omega)
    rw [List.length_cons]; omega
  · have := decDigits_length_le 6 n.toNat (by omega)
    omega

theorem itoaB_size {n : Int} (h : -1000000 ≤ n ∧ n ≤ 1000000) : (itoaB n).size ≤ 8 := by
  rw [itoaB, bl_size]; exact itoa_length h

theorem itoa_minus {n : Int} (h : n < 0) : Lib.itoa n = 45 :: Lib.itoa (0 - n) := by
  unfold Lib.itoa
  rw [if_pos h, if_neg (by omega)]
  congr 2; omega

theorem spec_signed {n : Int} (h : -1000000 ≤ n ∧ n ≤ 1000000) : m_spec_signedText n = some (itoaB n) := by
  rw [m_spec_signedText]
  by_cases h0 : n < 0
  · have hl := itoaB_size (n := 0 - n) ⟨by omega, by omega⟩
    have hs : (ByteArray.mk #[45]).size = 1 := rfl
    rw [cond_pos h0, w64 (by omega) (by omega), spec_number (by omega) (by omega), bd_some, gd_pos (by omega)]
    congr 1
    rw [show (ByteArray.mk #[45]) = bl [45] from rfl, itoaB, bl_append, itoaB, itoa_minus h0]
    rfl
  · rw [cond_neg h0, spec_number (by omega) h.2, bd_some]

theorem decDigits_digit : ∀ (u : Nat) (c : UInt8), c ∈ Lib.decDigits u → 48 ≤ c.toNat ∧ c.toNat ≤ 57 := by
  intro u
  induction u using Nat.strongRecOn with
  | _ u ih =>
    intro c hc
    have one : ∀ k, k < 10 → 48 ≤ (UInt8.ofNat (48 + k)).toNat ∧ (UInt8.ofNat (48 + k)).toNat ≤ 57 := fun k hk => by
      rw [UInt8.toNat_ofNat']; omega
    by_cases h1 : u < 10
    · rw [Lib.decDigits_one h1, List.mem_singleton] at hc
      subst hc; exact one u h1
    · rw [Lib.decDigits, dif_neg h1, List.mem_append, List.mem_singleton] at hc
      rcases hc with hc | rfl
      · exact ih (u / 10) (by omega) c hc
      · exact one _ (by omega)

theorem decDigits_ne (u : Nat) : Lib.decDigits u ≠ [] := by
  by_cases h1 : u < 10
  · rw [Lib.decDigits_one h1]; simp
  · rw [Lib.decDigits, dif_neg h1]; simp

/-- a numeral begins with a sign or a digit -/
theorem itoa_head (n : Int) : ∃ c r, Lib.itoa n = c :: r ∧ c.toNat ≤ 57 := by
  unfold Lib.itoa
  split
  · exact ⟨45, _, rfl, by decide⟩
  · obtain ⟨c, r, e⟩ := List.exists_cons_of_ne_nil (decDigits_ne n.toNat)
    exact ⟨c, r, e, (decDigits_digit _ c (by rw [e]; simp)).2⟩

theorem name_head {s : ByteArray} (h : NameOk s) : ∃ c r, s.data.toList = c :: r ∧ 97 ≤ c.toNat ∧ c.toNat ≤ 122 := by
  have h1 := h.2.1
  rw [size_list] at h1
  cases e : s.data.toList with
  | nil => rw [e] at h1; simp at h1
  | cons c r =>
    have := h.1 0 (by rw [size_list]; omega)
    rw [byteAt_list, e] at this
    simp only [List.getD_cons_zero] at this
    exact ⟨c, r, rfl, by omega, by omega⟩

theorem name_not_itoa {s : ByteArray} (h : NameOk s) (n : Int) : s ≠ itoaB n := by
  rintro rfl
  obtain ⟨c, r, e, h1, _⟩ := name_head h
  obtain ⟨c', r', e', h2⟩ := itoa_head n
  rw [itoaB, bl_toList, e'] at e
  injection e with e1 _
  subst e1
  omega

theorem named_neg {l : List (ByteArray × Int)} {s : ByteArray} : named l s < 0 ↔ ∀ d ∈ l, ¬ d.1 = s := by
  unfold named
  rcases ix_cases (fun d : ByteArray × Int => decide (d.1 = s)) l with ⟨h1, _, h2⟩ | ⟨i, d, h1, h2, _, _, h3, h4⟩
  · rw [h1]
    constructor
    · intro _ d hd; exact of_decide_eq_false (h2 d hd)
    · intro _; omega
  · rw [h1]
    constructor
    · intro h; omega
    · intro h; exact absurd (of_decide_eq_true h4) (h d h3)

theorem named_itoa {l : List (ByteArray × Int)} {lo hi : Int} (h : DefsOk l lo hi) (n : Int) : named l (itoaB n) < 0 :=
  named_neg.2 fun d hd => name_not_itoa (h.out.1 d hd).1 n

def showEnumC (e : List (ByteArray × Int)) (n : Int) : ByteArray := if EnumOk e ∧ -1000 ≤ n ∧ n ≤ 1000 then (if valued e n < 0 then itoaB n else (gt e (valued e n)).1) else ByteArray.empty

theorem impl_NameOf {e : List (ByteArray × Int)} (h : DefsIn e) (n : Int) : m_impl_NameOf e n = some (if EnumOk e ∧ 0 ≤ valued e n then ((gt e (valued e n)).1, true) else (ByteArray.empty, false)) := by
  have hr := valued_range e n
  rw [m_impl_NameOf, impl_valued _ _ h.1, bd_some, impl_ValidEnum h, bd_some]
  by_cases hv : EnumOk e
  · rw [decide_eq_true hv, Bool.not_true, cond_false]
    by_cases h0 : valued e n < 0
    · rw [cond_pos h0, if_neg (by omega)]
    · rw [cond_neg h0, gd_pos (by omega), if_pos ⟨hv, by omega⟩]
  · rw [decide_eq_false hv, Bool.not_false, cond_true, if_neg (fun h => hv h.1)]

theorem impl_ValueOf_any {e : List (ByteArray × Int)} (h : DefsIn e) (s : ByteArray) : m_impl_ValueOf e s = some (if EnumOk e ∧ 0 ≤ named e s then ((gt e (named e s)).2, true) else (0, false)) := by
  have hr := named_range e s
  rw [m_impl_ValueOf, impl_named _ _ h.1, bd_some, impl_ValidEnum h, bd_some]
  by_cases hv : EnumOk e
  · rw [decide_eq_true hv, Bool.not_true, cond_false]
    by_cases h0 : named e s < 0
    · rw [cond_pos h0, if_neg (by omega)]
    · rw [cond_neg h0, gd_pos (by omega), if_pos ⟨hv, by omega⟩]
  · rw [decide_eq_false hv, Bool.not_false, cond_true, if_neg (fun h => hv h.1)]

theorem impl_ShowEnum {e : List (ByteArray × Int)} (h : DefsIn e) {n : Int} (hn : I64 n) : m_impl_ShowEnum e n = some (showEnumC e n) := by
  have hr := valued_range e n
  rw [m_impl_ShowEnum, impl_ValidEnum h, bd_some, showEnumC]
  by_cases hv : EnumOk e
  · rw [decide_eq_true hv, Bool.not_true, cond_false, impl_in, bd_some]
    by_cases hb : -1000 ≤ n ∧ n ≤ 1000
    · rw [decide_eq_true hb, Bool.not_true, cond_false, if_pos (show EnumOk e ∧ -1000 ≤ n ∧ n ≤ 1000 from ⟨hv, hb⟩), impl_NameOf h, bd_some]
      by_cases h0 : valued e n < 0
      · rw [if_neg (by omega), if_pos h0]
        simp only [cond_false]
        rw [itoa_eq hn, bd_some]
      · rw [if_pos ⟨hv, by omega⟩, if_neg h0]
        rfl
    · rw [decide_eq_false hb, Bool.not_false, cond_true, if_neg (fun h => hb h.2)]
  · rw [decide_eq_false hv, Bool.not_false, cond_true, if_neg (fun h => hv h.1)]

theorem spec_ShowEnum {e : List (ByteArray × Int)} (h : DefsIn e) {n : Int} (hn : I64 n) : m_spec_ShowEnum e n = some (showEnumC e n) := by
  have hr := valued_range e n
  rw [m_spec_ShowEnum, spec_validEnum h, bd_some, showEnumC]
  by_cases hv : EnumOk e
  · rw [decide_eq_true hv, Bool.not_true, cond_false, spec_inRange, bd_some]
    by_cases hb : -1000 ≤ n ∧ n ≤ 1000
    · rw [decide_eq_true hb, Bool.not_true, cond_false, spec_valueAt _ _ h.1, bd_some, if_pos ⟨hv, hb⟩]
      by_cases h0 : valued e n < 0
      · have hs := spec_signed (n := n) ⟨by omega, by omega⟩
        rw [m_spec_signedText] at hs
        rw [cond_neg (by omega), if_pos h0]
        exact hs
      · rw [cond_pos (by omega), gd_pos (by omega), if_neg h0]
    · rw [decide_eq_false hb, Bool.not_false, cond_true, if_neg (fun h => hb h.2)]
  · rw [decide_eq_false hv, Bool.not_false, cond_true, if_neg (fun h => hv h.1)]

theorem drawShowEnum {code : List Int} (hc : Bytes code) (hl : code.length ≤ 9223372036854775807) : ∃ r, m_spec_DrawShowEnum code = some r ∧ SomeDefs r.1 ∧ I64 r.2 := by
  obtain ⟨c, ec, hc', hl'⟩ := newReader hc hl
  obtain ⟨⟨e, q⟩, ee, sd, q1, q2⟩ := someEnum hc' hl' (p := 0) ⟨by omega, by omega⟩
  simp only at sd q1 q2
  rw [m_spec_DrawShowEnum, ec, bd_some, ee, bd_some]
  simp only []
  have h7 : ∀ x ∈ ([9, (-9), 0, 1000, (-1000), 1001, (-1001)] : List Int), I64 x := by
    intro x hx
    simp only [List.mem_cons, List.not_mem_nil, or_false] at hx
    unfold I64
    omega
  by_cases h0 : 0 < (e.length : Int)
  · obtain ⟨y, ey, ly, uy⟩ := pick (n := 2) hc' hl' (p := q) ⟨by omega, by omega⟩
    rw [cond_pos h0, ey, bd_some]
    by_cases h1 : y = 0
    · obtain ⟨z, ez, lz, uz⟩ := pick (n := (e.length : Int)) hc' hl' (p := q + 1) ⟨by omega, by omega⟩
      have hz := uz (by omega)
      rw [cond_pos h1, w64 (by omega) (by omega), ez, bd_some, gd_pos ⟨lz, hz⟩]
      refine ⟨_, rfl, sd, ?_⟩
      have := (sd.2 _ (gt_mem ⟨lz, hz⟩)).2
      exact ⟨by simp only; omega, by simp only; omega⟩
    · obtain ⟨z, ez, mz⟩ := one hc' hl' (p := q + 1) ⟨by omega, by omega⟩ (xs := ([9, (-9), 0, 1000, (-1000), 1001, (-1001)] : List Int)) (by simp)
      rw [cond_neg h1, w64 (by omega) (by omega), ez, bd_some]
      exact ⟨_, rfl, sd, h7 z mz⟩
  · obtain ⟨z, ez, mz⟩ := one hc' hl' (p := q) ⟨by omega, by omega⟩ (xs := ([9, (-9), 0, 1000, (-1000), 1001, (-1001)] : List Int)) (by simp)
    rw [cond_neg h0, ez, bd_some]
    exact ⟨_, rfl, sd, h7 z mz⟩

theorem law_FnShowEnum (p1 : List Int) (h : ∀ n ∈ p1, 0 ≤ n ∧ n < 256) (hl : p1.length ≤ 9223372036854775807) : m_laws_FnShowEnum p1 = some true := by
  rw [m_laws_FnShowEnum, cond_if]
  by_cases h0 : 1048576 < (p1.length : Int)
  · rw [if_pos h0]
  obtain ⟨⟨e, n⟩, ed, sd, hn⟩ := drawShowEnum h hl
  simp only at sd hn
  have hd : DefsIn e := SomeDefs.inn sd
  have hr := valued_range e n
  rw [if_neg h0, ed, bd_some]
  simp only []
  rw [impl_ShowEnum hd hn, bd_some, spec_ShowEnum hd hn, bd_some, decide_eq_true rfl, Bool.not_true, cond_false, bd_some]
  by_cases he : showEnumC e n = ByteArray.empty
  · rw [cond_pos he, decide_eq_true rfl]
  · rw [cond_neg he, impl_NameOf hd, bd_some, impl_ValueOf_any hd, bd_some]
    rw [showEnumC] at he
    by_cases hv : EnumOk e ∧ -1000 ≤ n ∧ n ≤ 1000
    · rw [showEnumC, if_pos hv]
      by_cases h1 : valued e n < 0
      · have := named_itoa hv.1 n
        rw [if_pos h1, if_neg (by omega), if_neg (by omega)]
        rfl
      · rw [if_neg h1, if_pos ⟨hv.1, by omega⟩]
        simp only [cond_true, decide_true]
    · rw [if_neg hv] at he
      exact absurd rfl he

theorem EnumOk.len {l : List (ByteArray × Int)} (h : EnumOk l) : l.length ≤ 12 := h.2

/-- few definitions with names and small numbers -/
def FewDefs (l : List (ByteArray × Int)) : Prop := l.length ≤ 12 ∧ ∀ d ∈ l, NameOk d.1 ∧ -4096 ≤ d.2 ∧ d.2 ≤ 4096

theorem FewDefs.inn {l : List (ByteArray × Int)} (h : FewDefs l) : DefsIn l :=
  ⟨by have := h.1; omega, fun d hd => by have := (h.2 d hd).1.2.2; omega, fun d hd => by have := (h.2 d hd).2; exact ⟨by omega, by omega⟩⟩

end Go.Eng
