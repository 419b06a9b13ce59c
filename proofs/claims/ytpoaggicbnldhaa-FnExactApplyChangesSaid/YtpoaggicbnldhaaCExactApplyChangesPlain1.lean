/- What is proved: plain laws of the models, up to the law itself. Conditions: sizes and ranges of what is handed over, as each says. -/
import Derived.Test.YtpoaggicbnldhaaCExactApplyChangesModels
set_option linter.unusedVariables false
set_option linter.unusedSimpArgs false
namespace Go.Eng
open Go

theorem w64 {a : Int} (h1 : -9223372036854775808 ≤ a) (h2 : a ≤ 9223372036854775807) : IntKind.wrap .i64 a = a := by
  rw [IntKind.wrap_i64]; omega

def I64 (a : Int) : Prop := -9223372036854775808 ≤ a ∧ a ≤ 9223372036854775807

theorem w64s {i : Nat} (h : i < 4611686018427387904) : IntKind.wrap .i64 ((i : Int) + 1) = ((i + 1 : Nat) : Int) := by
  rw [w64 (by omega) (by omega)]; omega

theorem gd_pos {α : Type} {p : Prop} [Decidable p] (h : p) (x : Option α) : gd p x = x := by unfold gd; rw [if_pos h]

theorem bd_some {α β : Type} (a : α) (f : α → Option β) : bd (some a) f = f a := rfl

theorem nm_eq {α β : Type} (a : α) (f : α → Option β) : nm a f = f a := rfl

theorem sm_inl {α β γ : Type} (a : α) (f : α → γ) (g : β → γ) : sm (.inl a) f g = f a := rfl

theorem sm_inr {α β γ : Type} (b : β) (f : α → γ) (g : β → γ) : sm (.inr b) f g = g b := rfl

/-- it has an answer, and of this it holds -/
def Wp {α : Type} (x : Option α) (Q : α → Prop) : Prop := ∃ r, x = some r ∧ Q r

theorem Wp_some {α : Type} {a : α} {Q : α → Prop} : Wp (some a) Q ↔ Q a := ⟨fun ⟨r, h, q⟩ => by cases h; exact q, fun h => ⟨a, rfl, h⟩⟩

theorem Wp_eq {α : Type} {x : Option α} {r : α} : Wp x (fun a => a = r) ↔ x = some r := ⟨fun ⟨a, h, e⟩ => by rw [h, e], fun h => ⟨r, h, rfl⟩⟩

theorem Wp.eq {α : Type} {x : Option α} {r : α} (h : Wp x (fun a => a = r)) : x = some r := Wp_eq.1 h

/-- a loop by invariant and measure -/
theorem loopW {σ ρ : Type} (L : Nat → σ → Option ρ) (I : σ → Prop) (μ : σ → Nat) (Q : ρ → Prop)
    (hs : ∀ n s, I s → (∀ s', I s' → μ s' < μ s → Wp (L n s') Q) → Wp (L (n + 1) s) Q) : ∀ n s, I s → μ s < n → Wp (L n s) Q
  | 0, s, _, h => absurd h (Nat.not_lt_zero _)
  | n + 1, s, hi, h => hs n s hi fun s' hi' hm => loopW L I μ Q hs n s' hi' (by omega)

/-- a loop over a list -/
theorem listW {α σ ρ : Type} [Inhabited α] (l : List α) (L : Nat → Int → σ → Option ρ) (I : Nat → σ → Prop) (Q : ρ → Prop)
    (h0 : ∀ n s, I l.length s → Wp (L (n + 1) (l.length : Int) s) Q)
    (hs : ∀ n i s d, i < l.length → gt l (i : Int) = d → l.drop i = d :: l.drop (i + 1) → d ∈ l → I i s → (∀ s', I (i + 1) s' → Wp (L n ((i + 1 : Nat) : Int) s') Q) → Wp (L (n + 1) (i : Int) s) Q)
    (N : Nat) (hl : l.length < N) (s : σ) (h : I 0 s) : Wp (L N 0 s) Q := by
  have key : ∀ (k i n : Nat) (s : σ), i + k = l.length → k < n → I i s → Wp (L n (i : Int) s) Q := by
    intro k
    induction k with
    | zero =>
      intro i n s hk hn hi
      cases n with
      | zero => omega
      | succ n =>
        have e : i = l.length := by omega
        subst e
        exact h0 n s hi
    | succ k ih =>
      intro i n s hk hn hi
      cases n with
      | zero => omega
      | succ n =>
        have hlt : i < l.length := by omega
        have e1 : gt l (i : Int) = l[i] := by
          unfold gt
          rw [Int.toNat_natCast, List.getD_eq_getElem?_getD, List.getElem?_eq_getElem hlt, Option.getD_some]
        have e2 : l.drop i = l[i] :: l.drop (i + 1) := List.drop_eq_getElem_cons hlt
        exact hs n i s l[i] hlt e1 e2 (List.getElem_mem hlt) hi fun s' hs' => ih (i + 1) n s' (by omega) (by omega) hs'
  exact key l.length 0 N s (by omega) hl h

theorem gt_nat {α : Type} [Inhabited α] {l : List α} {i : Nat} (h : i < l.length) : gt l (i : Int) = l[i] := by
  unfold gt
  rw [Int.toNat_natCast, List.getD_eq_getElem?_getD, List.getElem?_eq_getElem h, Option.getD_some]

theorem gt_mem {α : Type} [Inhabited α] {l : List α} {q : Int} (h : 0 ≤ q ∧ q < (l.length : Int)) : gt l q ∈ l := by
  obtain ⟨i, rfl⟩ := Int.eq_ofNat_of_zero_le h.1
  have hi : i < l.length := by omega
  have e : gt l (i : Int) = l[i] := gt_nat hi
  rw [e]; exact List.getElem_mem hi

theorem sub_zero {α : Type} (l : List α) (i : Nat) : sub l 0 (i : Int) = l.take i := by simp [sub]

/-- the place of the first element of a kind, -1 if there is none -/
def ix {α : Type} (p : α → Bool) (l : List α) : Int := match l.findIdx? p with | some i => (i : Int) | none => -1

theorem ix_range {α : Type} (p : α → Bool) (l : List α) : -1 ≤ ix p l ∧ ix p l < (l.length : Int) := by
  unfold ix
  cases h : l.findIdx? p with
  | none => simp only; omega
  | some i =>
    rw [List.findIdx?_eq_some_iff_getElem] at h
    obtain ⟨hi, _⟩ := h
    simp only; omega

theorem bv64 (a : Nat) (ha : a < 9223372036854775808) : (BitVec.ofInt 64 (a : Int)).toNat = a := by
  rw [BitVec.ofInt_natCast, BitVec.toNat_ofNat]; exact Nat.mod_eq_of_lt (by omega)

theorem xor64 {a b : Nat} (ha : a < 9223372036854775808) (hb : b < 9223372036854775808) : Go.bits .xor .i64 (a : Int) (b : Int) = ((a ^^^ b : Nat) : Int) := by
  have hx : a ^^^ b < 2 ^ 63 := Nat.xor_lt_two_pow (by omega) (by omega)
  show IntKind.i64.wrap ((BitVec.ofInt 64 (a : Int) ^^^ BitVec.ofInt 64 (b : Int)).toNat : Int) = _
  rw [BitVec.toNat_xor, bv64 a ha, bv64 b hb, w64 (by omega) (by omega)]

theorem cond_pos {α : Type} {p : Prop} [Decidable p] (h : p) (x y : α) : (bif decide p then x else y) = x := by rw [decide_eq_true h]; rfl

theorem cond_neg {α : Type} {p : Prop} [Decidable p] (h : ¬ p) (x y : α) : (bif decide p then x else y) = y := by rw [decide_eq_false h]; rfl

theorem cond_if {α : Type} {p : Prop} [Decidable p] (x y : α) : (bif decide p then x else y) = if p then x else y := by
  by_cases h : p <;> simp [h]

/-- a search -/
theorem findI {α : Type} [Inhabited α] (l : List α) (L : Nat → Int → Option (Int ⊕ Unit)) (p : α → Bool)
    (hend : ∀ n, L (n + 1) (l.length : Int) = some (.inr ()))
    (hstep : ∀ n i, i < l.length → L (n + 1) (i : Int) = if p (gt l (i : Int)) then some (.inl (i : Int)) else L n ((i + 1 : Nat) : Int))
    (N : Nat) (hl : l.length < N) : L N 0 = some (match l.findIdx? p with | some i => .inl (i : Int) | none => .inr ()) := by
  refine (listW l (fun n i (_ : Unit) => L n i) (fun i _ => ∀ d ∈ l.take i, p d = false)
    (fun r => r = (match l.findIdx? p with | some i => .inl (i : Int) | none => .inr ())) ?_ ?_ N hl () (by simp)).eq
  · intro n _ hI
    rw [List.take_length] at hI
    rw [hend]
    refine Wp_some.2 ?_
    rw [List.findIdx?_eq_none_iff.2 hI]
  · intro n i _ d hi hg hd hm hI ih
    rw [hstep n i hi, hg]
    by_cases h : p d = true
    · rw [if_pos h]
      refine Wp_some.2 ?_
      have : l.findIdx? p = some i := by
        rw [List.findIdx?_eq_some_iff_getElem]
        refine ⟨hi, by rw [← gt_nat hi, hg]; exact h, fun j hj => ?_⟩
        simpa using hI l[j] (List.mem_take_iff_getElem.2 ⟨j, by omega, rfl⟩)
      rw [this]
    · rw [if_neg h]
      refine ih () ?_
      intro e he
      rw [List.take_succ_eq_append_getElem hi, List.mem_append] at he
      rcases he with he | he
      · exact hI e he
      · rw [← gt_nat hi, hg] at he
        simp at he; subst he; simpa using h

/-- a check of all, by place: what comes out where one is of the kind, and where none is -/
theorem anyI {α ρ : Type} [Inhabited α] (l : List α) (L : Nat → Int → Option ρ) (P : Nat → Prop) (x y : ρ)
    (hend : ∀ n, L (n + 1) (l.length : Int) = some y)
    (hstep : ∀ n i, i < l.length → (P i ∧ L (n + 1) (i : Int) = some x) ∨ (¬ P i ∧ L (n + 1) (i : Int) = L n ((i + 1 : Nat) : Int)))
    (N : Nat) (hl : l.length < N) : ((∃ i, i < l.length ∧ P i) ∧ L N 0 = some x) ∨ ((∀ i, i < l.length → ¬ P i) ∧ L N 0 = some y) := by
  have h := listW l (fun n i (_ : Unit) => L n i) (fun i _ => ∀ j, j < i → ¬ P j)
    (fun r => ((∃ i, i < l.length ∧ P i) ∧ r = x) ∨ ((∀ i, i < l.length → ¬ P i) ∧ r = y)) ?_ ?_ N hl () (by intro j hj; omega)
  · obtain ⟨r, e, h⟩ := h
    have e : L N 0 = some r := e
    rw [e]
    rcases h with ⟨h1, rfl⟩ | ⟨h1, rfl⟩
    · exact .inl ⟨h1, rfl⟩
    · exact .inr ⟨h1, rfl⟩
  · intro n _ hI
    rw [hend]
    exact Wp_some.2 (.inr ⟨hI, rfl⟩)
  · intro n i _ d hi hg hd hm hI ih
    rcases hstep n i hi with ⟨h1, h2⟩ | ⟨h1, h2⟩
    · rw [h2]; exact Wp_some.2 (.inl ⟨⟨i, hi, h1⟩, rfl⟩)
    · rw [h2]
      refine ih () fun j hj => ?_
      by_cases e : j = i
      · subst e; exact h1
      · exact hI j (by omega)

/-- a copy, element by element -/
theorem copyW {α : Type} [Inhabited α] (l : List α) (L : Nat → List α → Int → Option (List α))
    (hend : ∀ n s, L (n + 1) s (l.length : Int) = some s)
    (hstep : ∀ n i s, i < l.length → s.length = l.length → L (n + 1) s (i : Int) = L n (s.set (0 + i) (gt l (i : Int))) ((i + 1 : Nat) : Int))
    (N : Nat) (hl : l.length < N) (s : List α) (h0 : s.length = l.length) : L N s 0 = some l := by
  refine (listW l (fun n i s => L n s i) (fun i t => t.length = l.length ∧ t.take i = l.take i) (fun r => r = l) ?_ ?_ N hl s ⟨h0, by simp⟩).eq
  · intro n t hI
    rw [hend]
    refine Wp_some.2 ?_
    have h2 := hI.2
    rw [List.take_length, ← hI.1, List.take_length] at h2
    exact h2
  · intro n i t d hi hg hd hm hI ih
    rw [hstep n i t hi hI.1, hg]
    refine ih _ ⟨by rw [List.length_set]; exact hI.1, ?_⟩
    have hi' : i < t.length := by rw [hI.1]; exact hi
    rw [Nat.zero_add, List.take_set, List.take_succ_eq_append_getElem hi, List.take_succ_eq_append_getElem hi', hI.2, List.set_append]
    have : (l.take i).length = i := by rw [List.length_take]; omega
    rw [if_neg (by omega), this, Nat.sub_self, List.set_cons_zero, ← gt_nat hi, hg]

/-- a comparison of two lists -/
theorem eqW {α : Type} [Inhabited α] [DecidableEq α] (a b : List α) (L : Nat → Int → Option (Unit ⊕ Unit)) (hlen : a.length = b.length)
    (hend : ∀ n, L (n + 1) (a.length : Int) = some (.inr ()))
    (hstep : ∀ n i, i < a.length → L (n + 1) (i : Int) = if gt a (i : Int) = gt b (i : Int) then L n ((i + 1 : Nat) : Int) else some (.inl ()))
    (N : Nat) (hl : a.length < N) : L N 0 = some (if a = b then .inr () else .inl ()) := by
  have h := anyI a L (fun i => ¬ gt a (i : Int) = gt b (i : Int)) (.inl ()) (.inr ()) hend (fun n i hi => ?_) N hl
  · rcases h with ⟨⟨i, h1, h2⟩, e⟩ | ⟨h1, e⟩
    · rw [e, if_neg (fun e => h2 (by rw [e]))]
    · rw [e, if_pos]
      refine List.ext_getElem hlen fun i h2 h3 => ?_
      have := Decidable.not_not.1 (h1 i h2)
      rwa [gt_nat h2, gt_nat h3] at this
  · rw [hstep n i hi]
    by_cases h : gt a (i : Int) = gt b (i : Int)
    · rw [if_pos h]; exact .inr ⟨fun h' => h' h, rfl⟩
    · rw [if_neg h]; exact .inl ⟨h, rfl⟩

/-- a check of all numbers below one -/
theorem anyN {ρ : Type} (m : Nat) (L : Nat → Int → Option ρ) (P : Nat → Prop) (x y : ρ)
    (hend : ∀ n, L (n + 1) (m : Int) = some y)
    (hstep : ∀ n i, i < m → (P i ∧ L (n + 1) (i : Int) = some x) ∨ (¬ P i ∧ L (n + 1) (i : Int) = L n ((i + 1 : Nat) : Int)))
    (N : Nat) (hl : m < N) : ((∃ i, i < m ∧ P i) ∧ L N 0 = some x) ∨ ((∀ i, i < m → ¬ P i) ∧ L N 0 = some y) := by
  have h := anyI (List.range m) L P x y (by simpa using hend) (by simpa using hstep) N (by simpa using hl)
  simpa using h

/-- a check where none is of the kind -/
theorem noneN {ρ : Type} (m : Nat) (L : Nat → Int → Option ρ) (y : ρ)
    (hend : ∀ n, L (n + 1) (m : Int) = some y)
    (hstep : ∀ n i, i < m → L (n + 1) (i : Int) = L n ((i + 1 : Nat) : Int))
    (N : Nat) (hl : m < N) : L N 0 = some y := by
  rcases anyN m L (fun _ => False) y y hend (fun n i hi => .inr ⟨id, hstep n i hi⟩) N hl with ⟨_, h⟩ | ⟨_, h⟩ <;> exact h

theorem FU_eq : FU = 4611686018427387904 := rfl

def named (l : List (ByteArray × Int)) (s : ByteArray) : Int := ix (fun d => decide (d.1 = s)) l

theorem spec_indexOf (l : List (ByteArray × Int)) (s : ByteArray) (hl : l.length ≤ 1099511627776) : m_spec_indexOf l s = some (named l s) := by
  rw [m_spec_indexOf, findI l (m_spec_indexOf_L1 l s) (fun d => decide (d.1 = s)) ?_ ?_ FU (by rw [FU_eq]; omega), bd_some, named, ix]
  · cases l.findIdx? (fun d => decide (d.1 = s)) <;> rfl
  · intro n; rw [m_spec_indexOf_L1, cond_neg (by omega)]
  · intro n i hi
    rw [m_spec_indexOf_L1, cond_pos (by omega), gd_pos (by omega), w64s (by omega), cond_if]
    simp

theorem impl_named (l : List (ByteArray × Int)) (s : ByteArray) (hl : l.length ≤ 1099511627776) : m_impl_named l s = some (named l s) := by
  rw [m_impl_named, m_slices_IndexFunc_si_named_1_l, findI l (m_slices_IndexFunc_si_named_1_l_L1 l s) (fun d => decide (d.1 = s)) ?_ ?_ FU (by rw [FU_eq]; omega), bd_some, named, ix]
  · cases l.findIdx? (fun d => decide (d.1 = s)) <;> rfl
  · intro n; rw [m_slices_IndexFunc_si_named_1_l_L1, cond_neg (by omega)]
  · intro n i hi
    rw [m_slices_IndexFunc_si_named_1_l_L1, cond_pos (by omega), gd_pos (by omega), w64s (by omega), m_impl_named_1_l, bd_some, cond_if]
    simp

/-- 1 to 6 letters from a to z -/
def NameOk (s : ByteArray) : Prop := (∀ i, i < s.size → 97 ≤ byteAt s i ∧ byteAt s i ≤ 122) ∧ 1 ≤ s.size ∧ s.size ≤ 6

instance (s : ByteArray) : Decidable (NameOk s) := inferInstanceAs (Decidable (_ ∧ _))

theorem spec_inRange (a b c : Int) : m_spec_inRange a b c = some (decide (b ≤ a ∧ a ≤ c)) := by
  rw [m_spec_inRange, cond_if]
  by_cases h1 : b ≤ a <;> by_cases h2 : a ≤ c <;> simp [h1, h2]

theorem validName_loop (s : ByteArray) (hs : s.size ≤ 1099511627776) : Wp (m_spec_validName_L1 s FU 0) (fun r => (r = .inl () ∧ ∃ i, i < s.size ∧ ¬ (97 ≤ byteAt s i ∧ byteAt s i ≤ 122)) ∨ (r = .inr () ∧ ∀ i, i < s.size → 97 ≤ byteAt s i ∧ byteAt s i ≤ 122)) := by
  refine loopW (m_spec_validName_L1 s) (fun v => ∃ i : Nat, v = i ∧ i ≤ s.size ∧ ∀ j, j < i → 97 ≤ byteAt s j ∧ byteAt s j ≤ 122) (fun v => s.size - v.toNat) _ ?_ FU 0 ⟨0, rfl, by omega, by intro j hj; omega⟩ (by rw [FU_eq]; omega)
  rintro n _ ⟨i, rfl, hi, hI⟩ ih
  rw [m_spec_validName_L1]
  by_cases h : i < s.size
  · rw [cond_pos (by omega), gd_pos (by omega), w64s (by omega), Int.toNat_natCast]
    by_cases h1 : byteAt s i < 97
    · rw [cond_pos h1]; exact Wp_some.2 (.inl ⟨rfl, i, h, by omega⟩)
    · rw [cond_neg h1]
      by_cases h2 : 122 < byteAt s i
      · rw [cond_pos h2]; exact Wp_some.2 (.inl ⟨rfl, i, h, by omega⟩)
      · rw [cond_neg h2]
        refine ih _ ⟨i + 1, rfl, h, fun j hj => ?_⟩ (by omega)
        by_cases e : j = i
        · subst e; omega
        · exact hI j (by omega)
  · rw [cond_neg (by omega)]
    exact Wp_some.2 (.inr ⟨rfl, fun j hj => hI j (by omega)⟩)

theorem spec_validName {s : ByteArray} (hs : s.size ≤ 1099511627776) : m_spec_validName s = some (decide (NameOk s)) := by
  obtain ⟨r, e, h⟩ := validName_loop s hs
  rw [m_spec_validName, e, bd_some]
  rcases h with ⟨rfl, i, hi, h⟩ | ⟨rfl, h⟩
  · have : ¬ NameOk s := fun hn => h (hn.1 i hi)
    rw [decide_eq_false this]; rfl
  · rw [sm_inr, spec_inRange, bd_some]
    have : NameOk s ↔ ((1 : Int) ≤ (s.size : Int) ∧ (s.size : Int) ≤ 6) := ⟨fun hn => by have := hn.2; omega, fun hh => ⟨h, by omega⟩⟩
    rw [decide_eq_decide.2 this]

theorem validName_L1_eq (p : ByteArray) : ∀ (n : Nat) (v : Int), m_impl_ValidName_L1 p n v = m_spec_validName_L1 p n v
  | 0, v => rfl
  | n + 1, v => by rw [m_impl_ValidName_L1, m_spec_validName_L1, validName_L1_eq p n]

theorem impl_ValidName {s : ByteArray} (hs : s.size ≤ 1099511627776) : m_impl_ValidName s = some (decide (NameOk s)) := by
  rw [← spec_validName hs, m_impl_ValidName, m_spec_validName, validName_L1_eq]; rfl

/-- names and lists that can be read -/
def DefsIn (l : List (ByteArray × Int)) : Prop := l.length ≤ 1099511627776 ∧ (∀ d ∈ l, d.1.size ≤ 1099511627776) ∧ ∀ d ∈ l, I64 d.2

def DefsOk (l : List (ByteArray × Int)) (lo hi : Int) : Prop := (∀ i, i < l.length → NameOk (gt l (i : Int)).1 ∧ (lo ≤ (gt l (i : Int)).2 ∧ (gt l (i : Int)).2 ≤ hi) ∧ ¬ 0 ≤ named (l.take i) (gt l (i : Int)).1) ∧ l.length ≤ 12

instance (l : List (ByteArray × Int)) (lo hi : Int) : Decidable (DefsOk l lo hi) := inferInstanceAs (Decidable (_ ∧ _))

theorem spec_validDefs {l : List (ByteArray × Int)} (h : DefsIn l) (lo hi : Int) : m_spec_validDefs l lo hi = some (decide (DefsOk l lo hi)) := by
  obtain ⟨hl, hs, -⟩ := h
  have h := anyI l (m_spec_validDefs_L1 l lo hi) (fun i => ¬ (NameOk (gt l (i : Int)).1 ∧ (lo ≤ (gt l (i : Int)).2 ∧ (gt l (i : Int)).2 ≤ hi) ∧ ¬ 0 ≤ named (l.take i) (gt l (i : Int)).1)) (.inl ()) (.inr ()) ?_ ?_ FU (by rw [FU_eq]; omega)
  · rw [m_spec_validDefs]
    rcases h with ⟨⟨i, h1, h2⟩, e⟩ | ⟨h1, e⟩
    · rw [e, bd_some, sm_inl]
      have : ¬ DefsOk l lo hi := fun h => h2 (h.1 i h1)
      rw [decide_eq_false this]
    · rw [e, bd_some, sm_inr]
      have : DefsOk l lo hi ↔ (l.length : Int) ≤ 12 := ⟨fun h => by have := h.2; omega, fun h => ⟨fun i hi => Decidable.not_not.1 (h1 i hi), by omega⟩⟩
      rw [decide_eq_decide.2 this]
  · intro n; rw [m_spec_validDefs_L1, cond_neg (by omega)]
  · intro n i hi'
    have hm : gt l (i : Int) ∈ l := gt_mem (by omega)
    rw [m_spec_validDefs_L1, cond_pos (by omega), gd_pos (by omega), spec_validName (hs _ hm), bd_some, spec_inRange, bd_some, gd_pos (by omega), sub_zero, spec_indexOf _ _ (by rw [List.length_take]; omega), bd_some, w64s (by omega)]
    by_cases h1 : NameOk (gt l (i : Int)).1 <;> simp only [h1, decide_true, decide_false, Bool.not_true, Bool.not_false, cond_true, cond_false, true_and, false_and, not_false_eq_true, not_true_eq_false, or_false, and_self]
    by_cases h2 : lo ≤ (gt l (i : Int)).2 ∧ (gt l (i : Int)).2 ≤ hi <;> simp only [h2, decide_true, decide_false, Bool.not_true, Bool.not_false, cond_true, cond_false, true_and, false_and, not_false_eq_true, not_true_eq_false, or_false, and_self]
    by_cases h3 : 0 ≤ named (l.take i) (gt l (i : Int)).1 <;> simp only [h3, decide_true, decide_false, Bool.not_true, Bool.not_false, cond_true, cond_false, true_and, false_and, not_false_eq_true, not_true_eq_false, or_false, and_self, false_or]

theorem impl_defsValid {l : List (ByteArray × Int)} (h : DefsIn l) (lo hi : Int) : m_impl_defsValid l lo hi = some (decide (DefsOk l lo hi)) := by
  have e : ∀ (n : Nat) (i : Nat), i ≤ l.length → m_impl_defsValid_L1 l lo hi n (i : Int) = m_spec_validDefs_L1 l lo hi n (i : Int) := by
    intro n
    induction n with
    | zero => intro i _; rfl
    | succ n ih =>
      intro i hi'
      rw [m_impl_defsValid_L1, m_spec_validDefs_L1]
      by_cases hlt : i < l.length
      · have hm : gt l (i : Int) ∈ l := gt_mem (by omega)
        have hl := h.1
        rw [cond_pos (by omega), cond_pos (by omega), w64s (by omega), ih (i + 1) hlt, impl_ValidName (h.2.1 _ hm), spec_validName (h.2.1 _ hm), sub_zero,
          impl_named _ _ (by rw [List.length_take]; omega), spec_indexOf _ _ (by rw [List.length_take]; omega)]
        rfl
      · rw [cond_neg (by omega), cond_neg (by omega)]
  rw [← spec_validDefs h, m_impl_defsValid, m_spec_validDefs, show (0 : Int) = ((0 : Nat) : Int) from rfl, e FU 0 (by omega)]

def EnumOk (l : List (ByteArray × Int)) : Prop := DefsOk l (-1000) 1000

instance (l : List (ByteArray × Int)) : Decidable (EnumOk l) := inferInstanceAs (Decidable (DefsOk _ _ _))

theorem spec_validEnum {l : List (ByteArray × Int)} (h : DefsIn l) : m_spec_validEnum l = some (decide (EnumOk l)) := by
  rw [m_spec_validEnum, spec_validDefs h, bd_some]; rfl

theorem impl_ValidEnum {l : List (ByteArray × Int)} (h : DefsIn l) : m_impl_ValidEnum l = some (decide (EnumOk l)) := by
  rw [m_impl_ValidEnum, impl_defsValid h, bd_some]; rfl

theorem tdiv_nat (a p : Nat) : Int.tdiv (a : Int) (p : Int) = ((a / p : Nat) : Int) := by simp [Int.ofNat_tdiv]

def Bytes (l : List Int) : Prop := ∀ n ∈ l, 0 ≤ n ∧ n < 256

theorem tmod_range {a b : Int} (ha : 0 ≤ a) (hb : 0 < b) : 0 ≤ Int.tmod a b ∧ Int.tmod a b < b := by
  rw [Int.tmod_eq_emod_of_nonneg ha]
  exact ⟨Int.emod_nonneg _ (by omega), Int.emod_lt_of_pos _ hb⟩

theorem tdiv_range {a b : Int} (ha : 0 ≤ a) (hb : 0 < b) : 0 ≤ Int.tdiv a b ∧ Int.tdiv a b ≤ a := by
  rw [Int.tdiv_eq_ediv_of_nonneg ha]
  exact ⟨Int.ediv_nonneg ha (by omega), Int.ediv_le_self _ ha⟩

theorem pick {n : Int} {code : List Int} {p : Int} (hc : Bytes code) (hl : code.length ≤ 9223372036854775807) (hp : 0 ≤ p ∧ p < 1000000) :
    ∃ x, m_spec_reader_pick n code p = some x ∧ 0 ≤ x ∧ (1 ≤ n → x < n) := by
  unfold m_spec_reader_pick
  by_cases h1 : n < 1
  · exact ⟨0, by rw [decide_eq_true h1, cond_true], by omega, fun h => by omega⟩
  rw [decide_eq_false h1, cond_false]
  by_cases h2 : (code.length : Int) = 0
  · exact ⟨0, by rw [decide_eq_true h2, cond_true], by omega, fun h => by omega⟩
  rw [decide_eq_false h2, cond_false]
  have e1 : IntKind.wrap .i64 (IntKind.wrap .i64 (p + 1) - 1) = p := by
    rw [w64 (a := p + 1) (by omega) (by omega), w64 (by omega) (by omega)]; omega
  have hL : 0 < (code.length : Int) := by omega
  simp only [e1, nm_eq]
  by_cases h3 : p < (code.length : Int)
  · have hb := hc _ (gt_mem ⟨hp.1, h3⟩)
    rw [decide_eq_true h3, cond_true, gd_pos ⟨hp.1, h3⟩, gd_pos (by omega), w64 (by omega) (by omega)]
    have := tmod_range (a := gt code p) (b := n) hb.1 (by omega)
    exact ⟨_, rfl, this.1, fun _ => this.2⟩
  rw [decide_eq_false h3, cond_false, gd_pos (by omega)]
  have t1 := tmod_range hp.1 hL
  rw [gd_pos t1, w64 (a := p * 7) (by omega) (by omega), w64 (a := p * 7 + 3) (by omega) (by omega)]
  have t2 := tmod_range (a := p * 7 + 3) (by omega) hL
  rw [gd_pos t2]
  have b1 := hc _ (gt_mem t1)
  have b2 := hc _ (gt_mem t2)
  generalize gt code (Int.tmod p (code.length : Int)) = u at *
  generalize gt code (Int.tmod (p * 7 + 3) (code.length : Int)) = v at *
  have t3 := tdiv_range hp.1 hL
  generalize Int.tdiv p (code.length : Int) = q at *
  rw [gd_pos ⟨by omega, w64 (by omega) (by omega)⟩]
  rw [w64 (a := u) (by omega) (by omega), w64 (a := u * 131) (by omega) (by omega), w64 (a := v) (by omega) (by omega), w64 (a := v * 1117) (by omega) (by omega), w64 (a := u * 131 + v * 1117) (by omega) (by omega),
    w64 (a := p * 29) (by omega) (by omega), w64 (a := u * 131 + v * 1117 + p * 29) (by omega) (by omega), w64 (a := q * 53) (by omega) (by omega), w64 (a := u * 131 + v * 1117 + p * 29 + q * 53) (by omega) (by omega)]
  have hz : 0 ≤ u * 131 + v * 1117 + p * 29 + q * 53 ∧ u * 131 + v * 1117 + p * 29 + q * 53 < 1000000000 := by omega
  generalize u * 131 + v * 1117 + p * 29 + q * 53 = z at *
  have t4 := tdiv_range (a := z) (b := 64) hz.1 (by omega)
  rw [gd_pos ⟨by omega, w64 (by omega) (by omega)⟩, gd_pos (by omega)]
  have hx : ∃ y : Nat, Go.bits .xor .i64 z (Int.tdiv z 64) = (y : Int) := by
    obtain ⟨a, ha⟩ := Int.eq_ofNat_of_zero_le hz.1
    obtain ⟨b, hb⟩ := Int.eq_ofNat_of_zero_le t4.1
    refine ⟨a ^^^ b, ?_⟩
    rw [hb, ha]
    exact xor64 (by omega) (by omega)
  obtain ⟨y, hy⟩ := hx
  rw [hy]
  have := tmod_range (a := (y : Int)) (b := n) (by omega) (by omega)
  exact ⟨_, rfl, this.1, fun _ => this.2⟩

theorem one {code : List Int} {p : Int} (hc : Bytes code) (hl : code.length ≤ 9223372036854775807) (hp : 0 ≤ p ∧ p < 1000000) {xs : List Int} (hx : xs ≠ []) : ∃ x, m_spec_reader_one xs code p = some x ∧ x ∈ xs := by
  have h1 : 1 ≤ (xs.length : Int) := by
    have := List.length_pos_iff.2 hx
    omega
  obtain ⟨x, e, h0, h2⟩ := pick (n := (xs.length : Int)) hc hl hp
  refine ⟨gt xs x, ?_, gt_mem ⟨h0, h2 h1⟩⟩
  rw [m_spec_reader_one, e, bd_some, gd_pos ⟨h0, h2 h1⟩]

theorem markW {α : Type} [Inhabited α] (n k c : Nat) (f : Nat → α) (L : Nat → Int → Int → List α → Option (Int × List α))
    (hend : ∀ m s, s.length = n → L (m + 1) ((k + c * n : Nat) : Int) (n : Int) s = some (((k + c * n : Nat) : Int), s))
    (hstep : ∀ m i s, i < n → s.length = n → L (m + 1) ((k + c * i : Nat) : Int) (i : Int) s = L m ((k + c * (i + 1) : Nat) : Int) ((i + 1 : Nat) : Int) (s.set i (f i)))
    (N : Nat) (hN : n < N) (s : List α) (hs : s.length = n) : L N (k : Int) 0 s = some (((k + c * n : Nat) : Int), (List.range n).map f) := by
  have h := listW (List.range n) (fun m i (t : List α) => L m ((k + c * i.toNat : Nat) : Int) i t) (fun i t => t.length = n ∧ t.take i = (List.range i).map f) (fun r => r = (((k + c * n : Nat) : Int), (List.range n).map f)) ?_ ?_ N (by simpa using hN) s ⟨hs, by simp⟩
  · simpa using h.eq
  · intro m t ht
    rw [List.length_range] at ht ⊢
    simp only [Int.toNat_natCast]
    rw [hend m t ht.1]
    have := ht.2
    rw [← ht.1, List.take_length, ht.1] at this
    exact Wp_some.2 (by rw [this])
  · intro m i t d hi hg hd hm ht ih
    rw [List.length_range] at hi
    simp only [Int.toNat_natCast]
    rw [hstep m i t hi ht.1]
    have := ih (t.set i (f i)) ⟨by rw [List.length_set]; exact ht.1, ?_⟩
    · simpa only [Int.toNat_natCast] using this
    · obtain ⟨ht1, ht2⟩ := ht
      have hti : i < t.length := by omega
      rw [List.take_set, List.take_succ_eq_append_getElem hti, ht2, List.set_append]
      have e : ((List.range i).map f).length = i := by simp
      rw [if_neg (by omega), e, Nat.sub_self, List.set_cons_zero, List.range_succ, List.map_append]
      rfl

theorem gt_set_eq {α : Type} [Inhabited α] (s : List α) (i : Nat) (x : α) (h : i < s.length) : gt (s.set i x) (i : Int) = x := by
  rw [gt_nat (by simpa using h)]; simp

theorem gt_map_range {α : Type} [Inhabited α] (n : Nat) (f : Nat → α) (i : Nat) (h : i < n) : gt ((List.range n).map f) (i : Int) = f i := by
  rw [gt_nat (by simpa using h)]; simp

theorem bstr_one (x : Int) : (bstr [x]).size = 1 := rfl

theorem markText_loop (k : Nat) (hk : k ≤ 1099511627776) : ∃ s, m_laws_markText_L1 FU (k : Int) ByteArray.empty = some s ∧ s.size ≤ k := by
  have h := loopW (fun n (s : Int × ByteArray) => m_laws_markText_L1 n s.1 s.2) (fun s => ∃ v : Nat, s.1 = (v : Int) ∧ s.2.size + v ≤ k) (fun s => s.1.toNat) (fun r => r.size ≤ k) ?_ FU ((k : Int), ByteArray.empty) ⟨k, rfl, by simp⟩ (by rw [FU_eq]; simp only [Int.toNat_natCast]; omega)
  · exact h
  · rintro n ⟨a, s⟩ ⟨v, hv, hs⟩ ih
    simp only at hv hs
    subst hv
    show Wp (m_laws_markText_L1 (n + 1) (v : Int) s) _
    rw [m_laws_markText_L1]
    by_cases h : v = 0
    · rw [cond_neg (by omega)]; exact Wp_some.2 (by omega)
    · rw [cond_pos (by omega), gd_pos (by omega), nm_eq, gd_pos (by rw [bstr_one]; omega), show (10 : Int) = ((10 : Nat) : Int) from rfl, tdiv_nat, gd_pos ⟨by omega, w64 (by omega) (by omega)⟩]
      refine ih (_, _) ⟨v / 10, rfl, ?_⟩ (by simp only [Int.toNat_natCast]; omega)
      simp only [ByteArray.size_append, bstr_one]; omega

/-- the mark of a number -/
def mtext (k : Int) : ByteArray := (m_laws_markText k).getD ByteArray.empty

theorem laws_markText {k : Int} (h1 : 1 ≤ k) (h2 : k ≤ 1099511627776) : m_laws_markText k = some (mtext k) := by
  obtain ⟨v, rfl⟩ := Int.eq_ofNat_of_zero_le (show 0 ≤ k by omega)
  obtain ⟨s, e, hs⟩ := markText_loop v (by omega)
  have : ∃ t, m_laws_markText (v : Int) = some t := by
    rw [m_laws_markText, cond_neg (by omega), e, bd_some, gd_pos (by simp only [ByteArray.size]; simp; have : s.data.size = s.size := rfl; omega)]
    exact ⟨_, rfl⟩
  obtain ⟨t, ht⟩ := this
  rw [mtext, ht]; rfl

def markDef (k i : Nat) : ByteArray × Int := (mtext ((k + 2 * i : Nat) : Int), ((k + 2 * i + 1 : Nat) : Int))

theorem laws_markDefS {k : Nat} {l : List (ByteArray × Int)} (hk : 1 ≤ k) (hl : k + 2 * l.length ≤ 1000000000) : m_laws_markDefS_h (k : Int) l = some (((k + 2 * l.length : Nat) : Int), (List.range l.length).map (markDef k)) := by
  rw [m_laws_markDefS_h, markW l.length k 2 (markDef k) m_laws_markDefS_h_L1 ?_ ?_ FU (by rw [FU_eq]; omega) l rfl, bd_some]
  · intro m s hs; rw [m_laws_markDefS_h_L1, cond_neg (by omega)]
  · intro m i s hi hs
    rw [m_laws_markDefS_h_L1, cond_pos (by omega), laws_markText (by omega) (by omega), bd_some, gd_pos (by omega), w64s (i := k + 2 * i) (by omega), w64s (i := k + 2 * i + 1) (by omega), w64s (i := i) (by omega),
      Nat.zero_add, Int.toNat_natCast, gt_set_eq _ _ _ (by omega), List.set_set]
    congr 1 <;> first | (simp only [markDef]; congr 2; try omega) | omega

theorem laws_heldDefS {k n : Nat} (hk : 1 ≤ k) (hl : k + 2 * n ≤ 1000000000) : m_laws_heldDefS ((List.range n).map (markDef k)) (k : Int) = some ((k + 2 * n : Nat) : Int) := by
  have h := noneN n (fun m i => m_laws_heldDefS_L1 ((List.range n).map (markDef k)) m ((k + 2 * i.toNat : Nat) : Int) i) (.inr ((k + 2 * n : Nat) : Int)) ?_ ?_ FU (by rw [FU_eq]; omega)
  · rw [m_laws_heldDefS, show m_laws_heldDefS_L1 ((List.range n).map (markDef k)) FU (k : Int) 0 = some (.inr ((k + 2 * n : Nat) : Int)) from h, bd_some, sm_inr]
  · intro m
    simp only [Int.toNat_natCast]
    rw [m_laws_heldDefS_L1, List.length_map, List.length_range, cond_neg (by omega)]
  · intro m i hi
    simp only [Int.toNat_natCast]
    rw [m_laws_heldDefS_L1, List.length_map, List.length_range, cond_pos (by omega), gd_pos (by omega), laws_markText (by omega) (by omega), bd_some, gt_map_range _ _ _ hi, w64s (i := k + 2 * i) (by omega), w64s (i := k + 2 * i + 1) (by omega), w64s (i := i) (by omega)]
    simp only [markDef, decide_true, Bool.not_true, cond_false]
    congr 1

theorem laws_eqDef (a : ByteArray) (b : Int) (c : ByteArray) (d : Int) : m_laws_eqDef a b c d = some (decide ((a, b) = (c, d))) := by
  rw [m_laws_eqDef]
  by_cases h1 : a = c <;> by_cases h2 : b = d <;> simp [h1, h2]

theorem laws_eqDefS {a b : List (ByteArray × Int)} (ha : a.length ≤ 1099511627776) : m_laws_eqDefS a b = some (decide (a = b)) := by
  rw [m_laws_eqDefS]
  by_cases hl : a.length = b.length
  · rw [decide_eq_true (by omega), Bool.not_true, cond_false, eqW a b (m_laws_eqDefS_L1 a b) hl ?_ ?_ FU (by rw [FU_eq]; omega), bd_some]
    · by_cases h : a = b
      · rw [if_pos h, decide_eq_true h]; rfl
      · rw [if_neg h, decide_eq_false h]; rfl
    · intro n; rw [m_laws_eqDefS_L1, cond_neg (by omega)]
    · intro n i hi
      rw [m_laws_eqDefS_L1, cond_pos (by omega), gd_pos (by omega), gd_pos (by omega), laws_eqDef, bd_some, w64s (by omega)]
      by_cases h : gt a (i : Int) = gt b (i : Int) <;> simp [h]
  · rw [decide_eq_false (by omega), Bool.not_false, cond_true, decide_eq_false]
    intro h; exact hl (by rw [h])

theorem named_range (f : List (ByteArray × Int)) (s : ByteArray) : -1 ≤ named f s ∧ named f s < (f.length : Int) := ix_range _ _

theorem laws_toDefS {l : List (ByteArray × Int)} (hl : l.length ≤ 1000000000) : m_laws_toDefS l = some l := by
  rw [m_laws_toDefS, gd_pos (by omega), copyW l (fun n s i => m_laws_toDefS_L1 l n s i) ?_ ?_ FU (by rw [FU_eq]; omega) _ (by simp), bd_some]
  · intro n s; rw [m_laws_toDefS_L1, cond_neg (by omega)]
  · intro n i s hi hs
    rw [m_laws_toDefS_L1, cond_pos (by omega), gd_pos (by omega), m_laws_toDef, bd_some, gd_pos (by omega), w64s (by omega), Int.toNat_natCast]

theorem laws_szDefS {l : List (ByteArray × Int)} {q : Int} (hq : 0 ≤ q ∧ q ≤ 1048576) (hl : l.length ≤ 9223372036854775807) (hs : ∀ d ∈ l, d.1.size ≤ 9223372036854775807) :
    ∃ r, m_laws_szDefS l q = some r ∧ (0 ≤ r → r ≤ q ∧ (l.length : Int) ≤ q ∧ ∀ d ∈ l, (d.1.size : Int) ≤ q) := by
  rw [m_laws_szDefS, w64 (by omega) (by omega)]
  by_cases h : q - (l.length : Int) < 0
  · exact ⟨-1, by rw [cond_pos h], fun h => by omega⟩
  · rw [cond_neg h]
    have hx := listW l (fun n i s => m_laws_szDefS_L1 l n s i) (fun i s => 0 ≤ s ∧ s ≤ q ∧ ∀ d ∈ l.take i, (d.1.size : Int) ≤ q) (fun r => ∀ z, r = .inr z → z ≤ q ∧ ∀ d ∈ l, (d.1.size : Int) ≤ q) ?_ ?_ FU (by rw [FU_eq]; omega) (q - (l.length : Int)) ⟨by omega, by omega, by simp⟩
    · obtain ⟨r, e, hr⟩ := hx
      have e : m_laws_szDefS_L1 l FU (q - (l.length : Int)) 0 = some r := e
      rw [e, bd_some]
      cases r with
      | inl u => exact ⟨-1, rfl, fun h => by omega⟩
      | inr z => exact ⟨z, rfl, fun _ => ⟨(hr z rfl).1, by omega, (hr z rfl).2⟩⟩
    · intro n s hI
      rw [m_laws_szDefS_L1, cond_neg (by omega)]
      refine Wp_some.2 fun z hz => ?_
      cases hz
      have := hI.2.2
      rw [List.take_length] at this
      exact ⟨hI.2.1, this⟩
    · intro n i s d hi hg hd hm hI ih
      have h1 := hs d hm
      rw [m_laws_szDefS_L1, cond_pos (by omega), gd_pos (by omega), w64s (by omega), hg, m_laws_szDef, w64 (by omega) (by omega)]
      by_cases h2 : s - (d.1.size : Int) < 0
      · rw [cond_pos h2, bd_some, cond_pos (by omega)]
        exact Wp_some.2 fun z hz => by cases hz
      · rw [cond_neg h2, bd_some, cond_neg h2]
        refine ih _ ⟨by omega, by omega, fun e he => ?_⟩
        rw [List.take_succ_eq_append_getElem hi, List.mem_append] at he
        rcases he with he | he
        · exact hI.2.2 e he
        · rw [← gt_nat hi, hg] at he
          simp at he; subst he; omega

theorem map_range_length {α : Type} (n : Nat) (f : Nat → α) : ((List.range n).map f).length = n := by simp

theorem nat_not_neg (n : Nat) : decide ((n : Int) < 0) = false := decide_eq_false (by omega)

theorem gd_True {α : Type} {i : Decidable True} (x : Option α) : @gd α True i x = x := @gd_pos α True i trivial x

theorem laws_toEnum {l : List (ByteArray × Int)} (hl : l.length ≤ 1000000000) : m_laws_toEnum l = some l := by
  rw [m_laws_toEnum, laws_toDefS hl, bd_some]

theorem laws_szEnum {l : List (ByteArray × Int)} {q : Int} (hq : 0 ≤ q ∧ q ≤ 1048576) (hl : l.length ≤ 9223372036854775807) (hs : ∀ d ∈ l, d.1.size ≤ 9223372036854775807 ∧ In64 d.2) :
    ∃ r, m_laws_szEnum l q = some r ∧ (¬ r < 0 → (0 ≤ r ∧ r ≤ q) ∧ l.length ≤ 1048576 ∧ DefsIn l) := by
  obtain ⟨r, er, hr⟩ := laws_szDefS hq hl (fun d hd => (hs d hd).1)
  rw [m_laws_szEnum, er, bd_some]
  by_cases h : r < 0
  · exact ⟨-1, by rw [cond_pos h], fun h => absurd (by omega) h⟩
  · obtain ⟨g1, g2, g3⟩ := hr (by omega)
    exact ⟨r, by rw [cond_neg h], fun _ => ⟨⟨by omega, g1⟩, by omega, by omega, fun d hd => by have := g3 d hd; omega, fun d hd => (hs d hd).2⟩⟩

theorem laws_eqEnum {a b : List (ByteArray × Int)} (ha : a.length ≤ 1099511627776) : m_laws_eqEnum a b = some (decide (a = b)) := by
  rw [m_laws_eqEnum, laws_eqDefS ha, bd_some]
  cases decide (a = b) <;> rfl

theorem laws_eqEnum_self {l : List (ByteArray × Int)} (hl : l.length ≤ 1000000000) : m_laws_eqEnum l l = some true := by
  rw [laws_eqEnum (by omega), decide_eq_true rfl]

theorem laws_markEnum {k : Nat} {l : List (ByteArray × Int)} (hk : 1 ≤ k) (hl : k + 2 * l.length ≤ 1000000000) : m_laws_markEnum_h (k : Int) l = some (((k + 2 * l.length : Nat) : Int), (List.range l.length).map (markDef k)) := by
  rw [m_laws_markEnum_h, laws_markDefS hk hl, bd_some, gd_pos (by simp)]

theorem markEnum_one {l : List (ByteArray × Int)} (hl : l.length ≤ 2000000) : m_laws_markEnum_h 1 l = some (((1 + 2 * l.length : Nat) : Int), (List.range l.length).map (markDef 1)) := laws_markEnum (k := 1) (by omega) (by omega)

theorem laws_heldEnum {k n : Nat} (hk : 1 ≤ k) (hl : k + 2 * n ≤ 1000000000) : m_laws_heldEnum ((List.range n).map (markDef k)) (k : Int) = some ((k + 2 * n : Nat) : Int) := by
  rw [m_laws_heldEnum, laws_heldDefS hk hl, bd_some, cond_neg (by omega)]

theorem heldEnum_one {n : Nat} (hn : n ≤ 2000000) : m_laws_heldEnum ((List.range n).map (markDef 1)) 1 = some ((1 + 2 * n : Nat) : Int) := laws_heldEnum (k := 1) (by omega) (by omega)

theorem sub_mem {α : Type} {l : List α} {a b : Int} {d : α} (h : d ∈ sub l a b) : d ∈ l := List.mem_of_mem_drop (List.mem_of_mem_take h)

theorem dropped_some {l : List (ByteArray × Int)} {k : Nat} (hk : k < l.length) (hl : l.length ≤ 1000000) : m_spec_dropped l (k : Int) = some () := by
  have h1 : (sub l 0 (k : Int)).length = k := by rw [sub_zero, List.length_take]; omega
  have h2 : (sub l ((k + 1 : Nat) : Int) (l.length : Int)).length ≤ l.length := by unfold sub; rw [List.length_take, List.length_drop]; omega
  rw [m_spec_dropped, gd_pos (by omega), m_spec_copyDefs, gd_pos (by rw [h1, List.length_nil]; omega), bd_some, w64s (by omega), gd_pos (by omega), gd_pos (by rw [List.nil_append, h1]; omega)]

/-- a change made, whatever comes of it -/
def applyRaw (l : List (ByteArray × Int)) (c : Int × ByteArray × Int × Int) : Option (List (ByteArray × Int)) :=
  if c.1 = 0 then (if named l c.2.1 < 0 ∧ c.2.2.1 = 0 then some (l ++ [(c.2.1, c.2.2.2)]) else none)
  else if named l c.2.1 < 0 ∨ ¬ (gt l (named l c.2.1)).2 = c.2.2.1 then none
  else if c.1 = 1 then (if c.2.2.2 = 0 then some (sub l 0 (named l c.2.1) ++ sub l (named l c.2.1 + 1) (l.length : Int)) else none)
  else if c.1 = 2 then some (l.set (named l c.2.1).toNat ((gt l (named l c.2.1)).1, c.2.2.2)) else none

def stepC (l : List (ByteArray × Int)) (c : Int × ByteArray × Int × Int) : Option (List (ByteArray × Int)) :=
  match applyRaw l c with
  | some k => if EnumOk k then some k else none
  | none => none

def ChgIn (c : Int × ByteArray × Int × Int) : Prop := c.2.1.size ≤ 1099511627776 ∧ I64 c.2.2.2

theorem clone_si {l : List (ByteArray × Int)} (h : l.length ≤ 1000000) : m_impl_clone_si l = some l := by
  rw [m_impl_clone_si, m_slices_Clone_si, gd_pos (by omega), bd_some, m_slices_Clip_hsi, bd_some]

theorem enumOf_true {k : List (ByteArray × Int)} (h : DefsIn k) : m_impl_enumOf k true = some (if EnumOk k then (k, true) else ([], false)) := by
  rw [m_impl_enumOf, Bool.not_true, cond_false, impl_ValidEnum h, bd_some]
  by_cases hv : EnumOk k
  · have := hv.2
    rw [decide_eq_true hv, Bool.not_true, cond_false, clone_si (by omega), bd_some, if_pos hv]
  · rw [decide_eq_false hv, Bool.not_false, cond_true, if_neg hv]

theorem grow_nil_si {n : Int} (h0 : 0 ≤ n) (h1 : n ≤ 1000000000) : m_slices_Grow_nsi n = some [] := by
  have e0 : IntKind.wrap .i64 ((0 : Int) - 0) = 0 := w64 (a := (0 : Int) - 0) (by omega) (by omega)
  rw [m_slices_Grow_nsi, cond_neg (by omega), nm_eq, e0, w64 (a := n - 0) (by omega) (by omega)]
  by_cases hn : 0 < n - 0
  · rw [decide_eq_true hn, cond_true, gd_pos ⟨rfl, rfl, rfl⟩, gd_pos (by omega), gd_pos (by rw [List.length_replicate, List.length_nil]; omega), gd_pos (by rw [List.length_replicate]; omega)]
    rfl
  · rw [decide_eq_false hn, cond_false]

theorem concat2 {a b : List (ByteArray × Int)} (ha : a.length ≤ 1000000) (hb : b.length ≤ 1000000) : m_slices_Concat_x2sisi a b = some (a ++ b) := by
  have e1 : IntKind.wrap .i64 ((0 : Int) + (a.length : Int)) = (a.length : Int) := by rw [w64 (by omega) (by omega)]; omega
  rw [m_slices_Concat_x2sisi, e1, cond_neg (by omega), nm_eq, w64 (a := (a.length : Int) + (b.length : Int)) (by omega) (by omega), cond_neg (by omega), grow_nil_si (by omega) (by omega), bd_some, gd_pos (by rw [List.length_nil]; omega), gd_pos (by rw [List.nil_append]; omega), List.nil_append]

theorem sub_length_le {α : Type} (l : List α) (a b : Int) : (sub l a b).length ≤ l.length := by
  unfold sub; rw [List.length_take, List.length_drop]; omega

theorem raw_in {l k : List (ByteArray × Int)} (h : DefsIn l) (hl : l.length ≤ 12) {c : Int × ByteArray × Int × Int} (hc : ChgIn c) (e : applyRaw l c = some k) : DefsIn k := by
  have hset : ∀ (i : Nat) (d : ByteArray × Int), d.1.size ≤ 1099511627776 ∧ I64 d.2 → DefsIn (l.set i d) := fun i d hd => by
    refine ⟨by rw [List.length_set]; omega, fun x hx => ?_, fun x hx => ?_⟩ <;> rcases List.mem_or_eq_of_mem_set hx with hx | rfl
    · exact h.2.1 x hx
    · exact hd.1
    · exact h.2.2 x hx
    · exact hd.2
  unfold applyRaw at e
  split at e
  · split at e
    · cases e
      refine ⟨by rw [List.length_append, List.length_singleton]; omega, fun x hx => ?_, fun x hx => ?_⟩ <;> rcases List.mem_append.1 hx with hx | hx
      · exact h.2.1 x hx
      · rw [List.mem_singleton.1 hx]; exact hc.1
      · exact h.2.2 x hx
      · rw [List.mem_singleton.1 hx]; exact hc.2
    · cases e
  · split at e
    · cases e
    · rename_i hn
      have hr := named_range l c.2.1
      have h0 : ¬ named l c.2.1 < 0 := fun h => hn (.inl h)
      split at e
      · split at e
        · cases e
          have g1 := sub_length_le l 0 (named l c.2.1)
          have g2 := sub_length_le l (named l c.2.1 + 1) (l.length : Int)
          refine ⟨by rw [List.length_append]; omega, fun x hx => ?_, fun x hx => ?_⟩ <;> rcases List.mem_append.1 hx with hx | hx
          · exact h.2.1 x (sub_mem hx)
          · exact h.2.1 x (sub_mem hx)
          · exact h.2.2 x (sub_mem hx)
          · exact h.2.2 x (sub_mem hx)
        · cases e
      · split at e
        · cases e
          exact hset _ _ ⟨h.2.1 (gt l (named l c.2.1)) (gt_mem ⟨by omega, hr.2⟩), hc.2⟩
        · cases e

theorem impl_apply {l : List (ByteArray × Int)} (h : DefsIn l) (hv : EnumOk l) {c : Int × ByteArray × Int × Int} (hc : ChgIn c) :
    m_impl_Enum_apply l c.1 c.2.1 c.2.2.1 c.2.2.2 = some (match stepC l c with | some k => (k, true) | none => ([], false)) := by
  have hlen := hv.2
  have hr := named_range l c.2.1
  have hin : ∀ k, applyRaw l c = some k → DefsIn k := fun k hk => raw_in h hlen hc hk
  rw [m_impl_Enum_apply, impl_named _ _ (by omega), bd_some]
  unfold stepC
  unfold applyRaw at hin ⊢
  by_cases k0 : c.1 = 0
  · rw [cond_pos k0]
    rw [if_pos k0] at hin ⊢
    by_cases hn : named l c.2.1 < 0
    · rw [cond_neg (by omega)]
      by_cases ho : c.2.2.1 = 0
      · rw [if_pos ⟨hn, ho⟩] at hin ⊢
        have hk := hin _ rfl
        rw [decide_eq_true ho, Bool.not_true, cond_false, m_impl_AddDef, clone_si (by omega), bd_some, gd_pos (by rw [List.length_singleton]; omega), impl_ValidEnum h, bd_some, decide_eq_true hv, enumOf_true hk, bd_some, bd_some]
        simp only []
        split <;> rfl
      · rw [if_neg (fun h => ho h.2), decide_eq_false ho]; rfl
    · rw [cond_pos (by omega), if_neg (fun h => hn h.1)]
  · rw [cond_neg k0]
    rw [if_neg k0] at hin ⊢
    by_cases hn : named l c.2.1 < 0
    · rw [cond_pos hn, if_pos (.inl hn)]
    · rw [cond_neg hn, gd_pos (by omega)]
      by_cases ho : (gt l (named l c.2.1)).2 = c.2.2.1
      · have hno : ¬ (named l c.2.1 < 0 ∨ ¬ (gt l (named l c.2.1)).2 = c.2.2.1) := by rintro (h | h); exact hn h; exact h ho
        rw [if_neg hno] at hin ⊢
        rw [decide_eq_true ho, Bool.not_true, cond_false]
        have turn : c.1 = 2 → ∀ k, k = l.set (named l c.2.1).toNat ((gt l (named l c.2.1)).1, c.2.2.2) → DefsIn k → (bd (m_impl_clone_si l) fun x9 => gd (0 ≤ named l c.2.1 ∧ named l c.2.1 < (x9.length : Int)) <| bd (m_impl_enumOf (x9.set (0 + (named l c.2.1).toNat) ((gt x9 (named l c.2.1)).1, c.2.2.2)) true) fun x10 => some (x10.1, x10.2)) = some (match (if EnumOk k then some k else none : Option (List (ByteArray × Int))) with | some k => (k, true) | none => ([], false)) := fun _ k hk hd => by
          rw [clone_si (by omega), bd_some, gd_pos (by omega), Nat.zero_add, ← hk, enumOf_true hd, bd_some]
          split <;> rfl
        by_cases k1 : c.1 = 1
        · rw [cond_pos k1]
          rw [if_pos k1] at hin ⊢
          by_cases hz : c.2.2.2 = 0
          · rw [if_pos hz] at hin ⊢
            have hk := hin _ rfl
            have g1 := sub_length_le l 0 (named l c.2.1)
            have g2 := sub_length_le l (named l c.2.1 + 1) (l.length : Int)
            rw [cond_pos hz, m_impl_DropDef, impl_named _ _ (by omega), bd_some, cond_neg hn, gd_pos (by omega), w64 (a := named l c.2.1 + 1) (by omega) (by omega), gd_pos (by omega), concat2 (by omega) (by omega), bd_some, impl_ValidEnum h, bd_some, decide_eq_true hv, enumOf_true hk, bd_some, bd_some]
            simp only []
            split <;> rfl
          · rw [cond_neg hz, if_neg hz, cond_neg (by omega)]
        · rw [cond_neg k1]
          rw [if_neg k1] at hin ⊢
          by_cases k2 : c.1 = 2
          · rw [if_pos k2] at hin ⊢
            rw [cond_pos k2]
            exact turn k2 _ rfl (hin _ rfl)
          · rw [cond_neg k2, if_neg k2]
      · rw [if_pos (.inr ho), decide_eq_false ho]; rfl

/-- all changes, one after another -/
def runC : List (ByteArray × Int) → List (Int × ByteArray × Int × Int) → Option (List (ByteArray × Int))
  | l, [] => some l
  | l, c :: cs => match stepC l c with
    | some k => runC k cs
    | none => none

theorem stepC_ok {l k : List (ByteArray × Int)} {c : Int × ByteArray × Int × Int} (e : stepC l c = some k) : EnumOk k ∧ applyRaw l c = some k := by
  unfold stepC at e
  split at e
  · rename_i k' h
    split at e
    · rename_i hv; cases e; exact ⟨hv, h⟩
    · cases e
  · cases e

theorem impl_run {e : List (ByteArray × Int)} (h : DefsIn e) (hv : EnumOk e) {cs : List (Int × ByteArray × Int × Int)} (hl : cs.length ≤ 1000000) (hc : ∀ c ∈ cs, ChgIn c) :
    m_impl_ApplyChanges_L1 cs FU e 0 = some (match runC e cs with | some k => .inr k | none => .inl ()) := by
  refine Wp.eq (listW cs (fun n i s => m_impl_ApplyChanges_L1 cs n s i) (fun i s => DefsIn s ∧ EnumOk s ∧ runC s (cs.drop i) = runC e cs) (fun r => r = (match runC e cs with | some k => .inr k | none => .inl ())) ?_ ?_ FU (by rw [FU_eq]; omega) e ⟨h, hv, rfl⟩)
  · intro n s hI
    have h3 := hI.2.2
    rw [List.drop_length] at h3
    rw [m_impl_ApplyChanges_L1, cond_neg (by omega), ← h3]
    exact ⟨_, rfl, rfl⟩
  · intro n i s d hi hg hdr hm hI ih
    have h3 := hI.2.2
    rw [hdr, runC] at h3
    rw [m_impl_ApplyChanges_L1, cond_pos (by omega), gd_pos (by omega), hg, impl_apply hI.1 hI.2.1 (hc d hm), bd_some]
    cases hs : stepC s d with
    | none =>
      rw [hs] at h3
      simp only [] at h3 ⊢
      rw [Bool.not_false, cond_true, ← h3]
      exact ⟨_, rfl, rfl⟩
    | some k =>
      rw [hs] at h3
      simp only [] at h3 ⊢
      rw [Bool.not_true, cond_false, w64s (by omega)]
      obtain ⟨g1, g2⟩ := stepC_ok hs
      exact ih k ⟨raw_in hI.1 hI.2.1.2 (hc d hm) g2, g1, h3⟩

theorem spec_applied {l : List (ByteArray × Int)} (hl : l.length ≤ 12) (c : Int × ByteArray × Int × Int) :
    ∃ x, m_spec_applied l c.1 c.2.1 c.2.2.1 c.2.2.2 = some (x, (applyRaw l c).isSome) ∧ ∀ k, applyRaw l c = some k → x = k := by
  have hr := named_range l c.2.1
  have hcopy : m_spec_copyDefs l = some () := by rw [m_spec_copyDefs, gd_pos (by rw [List.length_nil]; omega)]
  rw [m_spec_applied, spec_indexOf _ _ (by omega), bd_some]
  unfold applyRaw
  by_cases k0 : c.1 = 0
  · rw [cond_pos k0, hcopy, bd_some, gd_pos (by rw [List.nil_append, List.length_singleton]; omega), if_pos k0, List.nil_append]
    by_cases hn : named l c.2.1 < 0
    · rw [cond_pos hn]
      by_cases ho : c.2.2.1 = 0
      · rw [if_pos ⟨hn, ho⟩, decide_eq_true ho]; exact ⟨_, rfl, fun k hk => by cases hk; rfl⟩
      · rw [if_neg (fun h => ho h.2), decide_eq_false ho]; exact ⟨_, rfl, fun k hk => by cases hk⟩
    · rw [cond_neg hn, if_neg (fun h => hn h.1)]; exact ⟨_, rfl, fun k hk => by cases hk⟩
  · rw [cond_neg k0, if_neg k0]
    by_cases hbad : named l c.2.1 < 0 ∨ ¬ (gt l (named l c.2.1)).2 = c.2.2.1
    · rw [if_pos hbad]
      have hk : ∀ (t : Option (List (ByteArray × Int) × Bool)), (bif decide (named l c.2.1 < 0) then some (([] : List (ByteArray × Int)), false) else gd (0 ≤ named l c.2.1 ∧ named l c.2.1 < (l.length : Int)) <| bif (!decide ((gt l (named l c.2.1)).2 = c.2.2.1)) then some (([] : List (ByteArray × Int)), false) else t) = some ([], false) := fun t => by
        by_cases hn : named l c.2.1 < 0
        · rw [cond_pos hn]
        · have ho : ¬ (gt l (named l c.2.1)).2 = c.2.2.1 := by rcases hbad with h | h; exact absurd h hn; exact h
          rw [cond_neg hn, gd_pos (by omega), decide_eq_false ho]; rfl
      by_cases k1 : c.1 = 1
      · rw [cond_pos k1, hk]; exact ⟨_, rfl, fun k hk => by cases hk⟩
      · rw [cond_neg k1]
        by_cases k2 : c.1 = 2
        · rw [cond_pos k2, hk]; exact ⟨_, rfl, fun k hk => by cases hk⟩
        · rw [cond_neg k2]; exact ⟨_, rfl, fun k hk => by cases hk⟩
    · have hn : ¬ named l c.2.1 < 0 := fun h => hbad (.inl h)
      have ho : (gt l (named l c.2.1)).2 = c.2.2.1 := Decidable.not_not.1 fun h => hbad (.inr h)
      obtain ⟨j, hj⟩ := Int.eq_ofNat_of_zero_le (show 0 ≤ named l c.2.1 by omega)
      rw [if_neg hbad]
      by_cases k1 : c.1 = 1
      · rw [cond_pos k1, if_pos k1, cond_neg hn, gd_pos (by omega), decide_eq_true ho, Bool.not_true, cond_false]
        by_cases hz : c.2.2.2 = 0
        · rw [decide_eq_true hz, Bool.not_true, cond_false, if_pos hz, hj, dropped_some (by omega) (by omega), bd_some, w64s (by omega), List.nil_append]
          exact ⟨_, rfl, fun k hk => by cases hk; rfl⟩
        · rw [decide_eq_false hz, Bool.not_false, cond_true, if_neg hz]; exact ⟨_, rfl, fun k hk => by cases hk⟩
      · rw [cond_neg k1, if_neg k1]
        by_cases k2 : c.1 = 2
        · rw [cond_pos k2, if_pos k2, cond_neg hn, gd_pos (by omega), decide_eq_true ho, Bool.not_true, cond_false, hcopy, bd_some, List.nil_append, gd_pos (by omega), Nat.zero_add]
          exact ⟨_, rfl, fun k hk => by cases hk; rfl⟩
        · rw [cond_neg k2, if_neg k2]; exact ⟨_, rfl, fun k hk => by cases hk⟩

theorem spec_run {e : List (ByteArray × Int)} (h : DefsIn e) (hv : EnumOk e) {cs : List (Int × ByteArray × Int × Int)} (hl : cs.length ≤ 1000000) (hc : ∀ c ∈ cs, ChgIn c) :
    m_spec_ApplyChanges_L1 cs FU e 0 = some (match runC e cs with | some k => .inr k | none => .inl ()) := by
  refine Wp.eq (listW cs (fun n i s => m_spec_ApplyChanges_L1 cs n s i) (fun i s => DefsIn s ∧ EnumOk s ∧ runC s (cs.drop i) = runC e cs) (fun r => r = (match runC e cs with | some k => .inr k | none => .inl ())) ?_ ?_ FU (by rw [FU_eq]; omega) e ⟨h, hv, rfl⟩)
  · intro n s hI
    have h3 := hI.2.2
    rw [List.drop_length] at h3
    rw [m_spec_ApplyChanges_L1, cond_neg (by omega), ← h3]
    exact ⟨_, rfl, rfl⟩
  · intro n i s d hi hg hdr hm hI ih
    have h3 := hI.2.2
    rw [hdr, runC] at h3
    obtain ⟨x, ex, hx⟩ := spec_applied hI.2.1.2 d
    rw [m_spec_ApplyChanges_L1, cond_pos (by omega), gd_pos (by omega), hg, ex, bd_some]
    unfold stepC at h3
    cases hs : applyRaw s d with
    | none =>
      rw [hs] at h3
      simp only [] at h3 ⊢
      rw [Option.isSome_none, Bool.not_false, cond_true, ← h3]
      exact ⟨_, rfl, rfl⟩
    | some k =>
      have hxk := hx k hs
      subst hxk
      have hin := raw_in hI.1 hI.2.1.2 (hc d hm) hs
      rw [hs] at h3
      simp only [] at h3 ⊢
      rw [Option.isSome_some, Bool.not_true, cond_false, spec_validEnum hin, bd_some]
      by_cases hk : EnumOk x
      · rw [if_pos hk] at h3
        rw [decide_eq_true hk, Bool.not_true, cond_false, w64s (by omega)]
        exact ih x ⟨hin, hk, h3⟩
      · rw [if_neg hk] at h3
        rw [decide_eq_false hk, Bool.not_false, cond_true]
        simp only [] at h3
        rw [← h3]
        exact ⟨_, rfl, rfl⟩

def appliedC (e : List (ByteArray × Int)) (cs : List (Int × ByteArray × Int × Int)) : List (ByteArray × Int) × Bool :=
  if EnumOk e ∧ cs.length ≤ 30 then (match runC e cs with | some k => (k, true) | none => ([], false)) else ([], false)

theorem impl_ApplyChanges {e : List (ByteArray × Int)} (h : DefsIn e) {cs : List (Int × ByteArray × Int × Int)} (hc : ∀ c ∈ cs, ChgIn c) : m_impl_ApplyChanges e cs = some (appliedC e cs) := by
  rw [m_impl_ApplyChanges, impl_ValidEnum h, bd_some, appliedC]
  by_cases hv : EnumOk e
  · have hlen := hv.2
    rw [decide_eq_true hv, Bool.not_true, cond_false]
    by_cases hl : cs.length ≤ 30
    · rw [cond_neg (by omega), clone_si (by omega), bd_some, impl_run h hv (by omega) hc, bd_some, if_pos ⟨hv, hl⟩]
      cases runC e cs <;> rfl
    · rw [cond_pos (by omega), if_neg (fun h => hl h.2)]
  · rw [decide_eq_false hv, Bool.not_false, cond_true, if_neg (fun h => hv h.1)]

theorem spec_ApplyChanges {e : List (ByteArray × Int)} (h : DefsIn e) {cs : List (Int × ByteArray × Int × Int)} (hc : ∀ c ∈ cs, ChgIn c) : m_spec_ApplyChanges e cs = some (appliedC e cs) := by
  rw [m_spec_ApplyChanges, spec_validEnum h, bd_some, appliedC]
  by_cases hv : EnumOk e
  · have hlen := hv.2
    rw [decide_eq_true hv, Bool.not_true, cond_false]
    by_cases hl : cs.length ≤ 30
    · rw [cond_neg (by omega), m_spec_copyDefs, gd_pos (by rw [List.length_nil]; omega), bd_some, List.nil_append, spec_run h hv (by omega) hc, bd_some, if_pos ⟨hv, hl⟩]
      cases runC e cs <;> rfl
    · rw [cond_pos (by omega), if_neg (fun h => hl h.2)]
  · rw [decide_eq_false hv, Bool.not_false, cond_true, if_neg (fun h => hv h.1)]

theorem runC_ok : ∀ (cs : List (Int × ByteArray × Int × Int)) {e k : List (ByteArray × Int)}, EnumOk e → runC e cs = some k → EnumOk k
  | [], e, k, hv, h => by rw [runC] at h; cases h; exact hv
  | c :: cs, e, k, hv, h => by
    rw [runC] at h
    cases hs : stepC e c with
    | none => rw [hs] at h; cases h
    | some k' => rw [hs] at h; exact runC_ok cs (stepC_ok hs).1 h

theorem appliedC_length (e : List (ByteArray × Int)) (cs : List (Int × ByteArray × Int × Int)) : (appliedC e cs).1.length ≤ 12 := by
  unfold appliedC
  split
  · rename_i h
    cases hr : runC e cs with
    | none => simp
    | some k => exact (runC_ok cs h.1 hr).2
  · simp

theorem laws_toChangeS {l : List (Int × ByteArray × Int × Int)} (hl : l.length ≤ 1000000000) : m_laws_toChangeS l = some l := by
  rw [m_laws_toChangeS, gd_pos (by omega), copyW l (fun n s i => m_laws_toChangeS_L1 l n s i) ?_ ?_ FU (by rw [FU_eq]; omega) _ (by simp), bd_some]
  · intro n s; rw [m_laws_toChangeS_L1, cond_neg (by omega)]
  · intro n i s hi hs
    rw [m_laws_toChangeS_L1, cond_pos (by omega), gd_pos (by omega), m_laws_toChange, bd_some, gd_pos (by omega), w64s (by omega), Int.toNat_natCast]

theorem laws_eqChangeS_self {a : List (Int × ByteArray × Int × Int)} (ha : a.length ≤ 1000000000) : m_laws_eqChangeS a a = some true := by
  rw [m_laws_eqChangeS, decide_eq_true rfl, Bool.not_true, cond_false, noneN a.length (m_laws_eqChangeS_L1 a a) (.inr ()) ?_ ?_ FU (by rw [FU_eq]; omega), bd_some, sm_inr]
  · intro n; rw [m_laws_eqChangeS_L1, cond_neg (by omega)]
  · intro n i hi
    have e : ∀ (x : Int) (s : ByteArray) (y z : Int), m_laws_eqChange x s y z x s y z = some true := fun x s y z => by
      rw [m_laws_eqChange, decide_eq_true rfl, decide_eq_true rfl, decide_eq_true rfl, decide_eq_true rfl]; rfl
    rw [m_laws_eqChangeS_L1, cond_pos (by omega), gd_pos (by omega), gd_pos (by omega), e, bd_some, w64s (i := i) (by omega)]; rfl

theorem laws_szChangeS {l : List (Int × ByteArray × Int × Int)} {q : Int} (hq : 0 ≤ q ∧ q ≤ 1048576) (hl : l.length ≤ 9223372036854775807) (hs : ∀ d ∈ l, d.2.1.size ≤ 9223372036854775807) :
    ∃ r, m_laws_szChangeS l q = some r ∧ (0 ≤ r → r ≤ q ∧ (l.length : Int) ≤ q ∧ ∀ d ∈ l, (d.2.1.size : Int) ≤ q) := by
  rw [m_laws_szChangeS, w64 (by omega) (by omega)]
  by_cases h : q - (l.length : Int) < 0
  · exact ⟨-1, by rw [cond_pos h], fun h => by omega⟩
  · rw [cond_neg h]
    have hx := listW l (fun n i s => m_laws_szChangeS_L1 l n s i) (fun i s => 0 ≤ s ∧ s ≤ q ∧ ∀ d ∈ l.take i, (d.2.1.size : Int) ≤ q) (fun r => ∀ z, r = .inr z → z ≤ q ∧ ∀ d ∈ l, (d.2.1.size : Int) ≤ q) ?_ ?_ FU (by rw [FU_eq]; omega) (q - (l.length : Int)) ⟨by omega, by omega, by simp⟩
    · obtain ⟨r, e, hr⟩ := hx
      have e : m_laws_szChangeS_L1 l FU (q - (l.length : Int)) 0 = some r := e
      rw [e, bd_some]
      cases r with
      | inl u => exact ⟨-1, rfl, fun h => by omega⟩
      | inr z => exact ⟨z, rfl, fun _ => ⟨(hr z rfl).1, by omega, (hr z rfl).2⟩⟩
    · intro n s hI
      rw [m_laws_szChangeS_L1, cond_neg (by omega)]
      refine Wp_some.2 fun z hz => ?_
      cases hz
      have := hI.2.2
      rw [List.take_length] at this
      exact ⟨hI.2.1, this⟩
    · intro n i s d hi hg hd hm hI ih
      have h1 := hs d hm
      rw [m_laws_szChangeS_L1, cond_pos (by omega), gd_pos (by omega), w64s (by omega), hg, m_laws_szChange, w64 (by omega) (by omega)]
      by_cases h2 : s - (d.2.1.size : Int) < 0
      · rw [cond_pos h2, bd_some, cond_pos (by omega)]
        exact Wp_some.2 fun z hz => by cases hz
      · rw [cond_neg h2, bd_some, cond_neg h2]
        refine ih _ ⟨by omega, by omega, fun e he => ?_⟩
        rw [List.take_succ_eq_append_getElem hi, List.mem_append] at he
        rcases he with he | he
        · exact hI.2.2 e he
        · rw [← gt_nat hi, hg] at he
          simp at he; subst he; omega

theorem laws_markChangeS {k : Nat} {l : List (Int × ByteArray × Int × Int)} (hk : 1 ≤ k) (hl : k + 4 * l.length ≤ 1000000000) : ∃ r, m_laws_markChangeS_h (k : Int) l = some (((k + 4 * l.length : Nat) : Int), r) ∧ r.length = l.length := by
  have h := listW (List.range l.length) (fun m i (t : List (Int × ByteArray × Int × Int)) => m_laws_markChangeS_h_L1 m ((k + 4 * i.toNat : Nat) : Int) i t) (fun i t => t.length = l.length) (fun r => r.1 = ((k + 4 * l.length : Nat) : Int) ∧ r.2.length = l.length) ?_ ?_ FU (by rw [FU_eq, List.length_range]; omega) l rfl
  · obtain ⟨r, e, r1, r2⟩ := h
    have e : m_laws_markChangeS_h_L1 FU (k : Int) 0 l = some r := e
    refine ⟨r.2, ?_, r2⟩
    rw [m_laws_markChangeS_h, e, bd_some, r1]
  · intro m t ht
    rw [List.length_range]
    simp only [Int.toNat_natCast]
    rw [m_laws_markChangeS_h_L1, cond_neg (by omega)]
    exact Wp_some.2 ⟨rfl, ht⟩
  · intro m i t d hi hg hd hm ht ih
    rw [List.length_range] at hi
    simp only [Int.toNat_natCast]
    rw [m_laws_markChangeS_h_L1, cond_pos (by omega), gd_pos (by omega), w64s (i := k + 4 * i) (by omega), laws_markText (by omega) (by omega), bd_some, w64s (i := k + 4 * i + 1) (by omega), w64s (i := k + 4 * i + 1 + 1) (by omega), nm_eq, w64s (i := k + 4 * i + 1 + 1 + 1) (by omega), w64s (i := i) (by omega)]
    have e : (k + 4 * i + 1 + 1 + 1 + 1 : Nat) = k + 4 * (i + 1) := by omega
    rw [e]
    refine ih _ ?_
    simp only [List.length_set]
    exact ht

theorem law_FnExactApplyChanges (p1 : List (ByteArray × Int)) (p2 : List (Int × ByteArray × Int × Int)) (h1 : ∀ d ∈ p1, d.1.size ≤ 9223372036854775807 ∧ In64 d.2) (hl : p1.length ≤ 9223372036854775807) (h2 : ∀ c ∈ p2, In64 c.1 ∧ c.2.1.size ≤ 9223372036854775807 ∧ In64 c.2.2.1 ∧ In64 c.2.2.2) (hl2 : p2.length ≤ 9223372036854775807) : m_laws_FnExactApplyChanges p1 p2 = some true := by
  obtain ⟨r, er, hr⟩ := laws_szEnum (q := 1048576) ⟨by omega, by omega⟩ hl h1
  rw [m_laws_FnExactApplyChanges, er, bd_some]
  by_cases h0 : r < 0
  · rw [cond_pos h0]
  obtain ⟨hrr, hlen, hin⟩ := hr h0
  obtain ⟨t, et, ht⟩ := laws_szChangeS (l := p2) hrr hl2 (fun d hd => (h2 d hd).2.1)
  rw [cond_neg h0, et, bd_some]
  by_cases h00 : t < 0
  · rw [cond_pos h00]
  obtain ⟨t1, t2, t3⟩ := ht (by omega)
  rw [cond_neg h00]
  have hlen2 : p2.length ≤ 1048576 := by omega
  have hc : ∀ c ∈ p2, ChgIn c := fun c hc => ⟨by have := t3 c hc; omega, (h2 c hc).2.2.2⟩
  have hx := impl_ApplyChanges hin hc
  have hy := spec_ApplyChanges hin hc
  have hxl := appliedC_length p1 p2
  generalize appliedC p1 p2 = x at *
  have hxl : x.1.length ≤ 2000000 := by omega
  obtain ⟨m, em, hm⟩ := laws_markChangeS (k := 1 + 2 * p1.length) (l := p2) (by omega) (by omega)
  simp (disch := first | assumption | omega) only [laws_toEnum, laws_toChangeS, bd_some, hx, hy, laws_eqEnum_self, laws_eqChangeS_self, markEnum_one, heldEnum_one, em, hm, map_range_length, nat_not_neg, gd_True, decide_true, Bool.not_true, cond_false, beq_self_eq_true]

end Go.Eng
