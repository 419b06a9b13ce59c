/- What is proved: plain laws of the models, up to the law itself. Conditions: sizes and ranges of what is handed over, as each says. -/
import Derived.Test.YtomemaanjendhaaDoorCExactShowEnumModels
set_option linter.unusedVariables false
set_option linter.unusedSimpArgs false
namespace Go.Eng
open Go

theorem w64 {a : Int} (h1 : -9223372036854775808 ≤ a) (h2 : a ≤ 9223372036854775807) : IntKind.wrap .i64 a = a := by
  rw [IntKind.wrap_i64]; omega

def I64 (a : Int) : Prop := -9223372036854775808 ≤ a ∧ a ≤ 9223372036854775807

theorem w64s {i : Nat} (h : i < 4611686018427387904) : IntKind.wrap .i64 ((i : Int) + 1) = ((i + 1 : Nat) : Int) := by
  rw [w64 (by omega) (by omega)]; omega

theorem gd_pos {α : Type} {p : Prop} [Decidable p] (h : p) (x : Option α) : gd p x = x := by unfold gd; rw [if_pos h]

theorem bd_some {α β : Type} (a : α) (f : α → Option β) : bd (some a) f = f a := rfl

theorem nm_eq {α β : Type} (a : α) (f : α → Option β) : nm a f = f a := rfl

theorem sm_inl {α β γ : Type} (a : α) (f : α → γ) (g : β → γ) : sm (.inl a) f g = f a := rfl

theorem sm_inr {α β γ : Type} (b : β) (f : α → γ) (g : β → γ) : sm (.inr b) f g = g b := rfl

/-- it has an answer, and of this it holds -/
def Wp {α : Type} (x : Option α) (Q : α → Prop) : Prop := ∃ r, x = some r ∧ Q r

theorem Wp_some {α : Type} {a : α} {Q : α → Prop} : Wp (some a) Q ↔ Q a := ⟨fun ⟨r, h, q⟩ => by cases h; exact q, fun h => ⟨a, rfl, h⟩⟩

theorem Wp_eq {α : Type} {x : Option α} {r : α} : Wp x (fun a => a = r) ↔ x = some r := ⟨fun ⟨a, h, e⟩ => by rw [h, e], fun h => ⟨r, h, rfl⟩⟩

theorem Wp.eq {α : Type} {x : Option α} {r : α} (h : Wp x (fun a => a = r)) : x = some r := Wp_eq.1 h

/-- a loop by invariant and measure -/
theorem loopW {σ ρ : Type} (L : Nat → σ → Option ρ) (I : σ → Prop) (μ : σ → Nat) (Q : ρ → Prop)
    (hs : ∀ n s, I s → (∀ s', I s' → μ s' < μ s → Wp (L n s') Q) → Wp (L (n + 1) s) Q) : ∀ n s, I s → μ s < n → Wp (L n s) Q
  | 0, s, _, h => absurd h (Nat.not_lt_zero _)
  | n + 1, s, hi, h => hs n s hi fun s' hi' hm => loopW L I μ Q hs n s' hi' (by omega)

/-- a loop over a list -/
theorem listW {α σ ρ : Type} [Inhabited α] (l : List α) (L : Nat → Int → σ → Option ρ) (I : Nat → σ → Prop) (Q : ρ → Prop)
    (h0 : ∀ n s, I l.length s → Wp (L (n + 1) (l.length : Int) s) Q)
    (hs : ∀ n i s d, i < l.length → gt l (i : Int) = d → l.drop i = d :: l.drop (i + 1) → d ∈ l → I i s → (∀ s', I (i + 1) s' → Wp (L n ((i + 1 : Nat) : Int) s') Q) → Wp (L (n + 1) (i : Int) s) Q)
    (N : Nat) (hl : l.length < N) (s : σ) (h : I 0 s) : Wp (L N 0 s) Q := by
  have key : ∀ (k i n : Nat) (s : σ), i + k = l.length → k < n → I i s → Wp (L n (i : Int) s) Q := by
    intro k
    induction k with
    | zero =>
      intro i n s hk hn hi
      cases n with
      | zero => omega
      | succ n =>
        have e : i = l.length := by omega
        subst e
        exact h0 n s hi
    | succ k ih =>
      intro i n s hk hn hi
      cases n with
      | zero => omega
      | succ n =>
        have hlt : i < l.length := by omega
        have e1 : gt l (i : Int) = l[i] := by
          unfold gt
          rw [Int.toNat_natCast, List.getD_eq_getElem?_getD, List.getElem?_eq_getElem hlt, Option.getD_some]
        have e2 : l.drop i = l[i] :: l.drop (i + 1) := List.drop_eq_getElem_cons hlt
        exact hs n i s l[i] hlt e1 e2 (List.getElem_mem hlt) hi fun s' hs' => ih (i + 1) n s' (by omega) (by omega) hs'
  exact key l.length 0 N s (by omega) hl h

theorem gt_nat {α : Type} [Inhabited α] {l : List α} {i : Nat} (h : i < l.length) : gt l (i : Int) = l[i] := by
  unfold gt
  rw [Int.toNat_natCast, List.getD_eq_getElem?_getD, List.getElem?_eq_getElem h, Option.getD_some]

theorem gt_mem {α : Type} [Inhabited α] {l : List α} {q : Int} (h : 0 ≤ q ∧ q < (l.length : Int)) : gt l q ∈ l := by
  obtain ⟨i, rfl⟩ := Int.eq_ofNat_of_zero_le h.1
  have hi : i < l.length := by omega
  have e : gt l (i : Int) = l[i] := gt_nat hi
  rw [e]; exact List.getElem_mem hi

theorem sub_zero {α : Type} (l : List α) (i : Nat) : sub l 0 (i : Int) = l.take i := by simp [sub]

/-- the place of the first element of a kind, -1 if there is none -/
def ix {α : Type} (p : α → Bool) (l : List α) : Int := match l.findIdx? p with | some i => (i : Int) | none => -1

theorem ix_range {α : Type} (p : α → Bool) (l : List α) : -1 ≤ ix p l ∧ ix p l < (l.length : Int) := by
  unfold ix
  cases h : l.findIdx? p with
  | none => simp only; omega
  | some i =>
    rw [List.findIdx?_eq_some_iff_getElem] at h
    obtain ⟨hi, _⟩ := h
    simp only; omega

theorem bv64 (a : Nat) (ha : a < 9223372036854775808) : (BitVec.ofInt 64 (a : Int)).toNat = a := by
  rw [BitVec.ofInt_natCast, BitVec.toNat_ofNat]; exact Nat.mod_eq_of_lt (by omega)

theorem xor64 {a b : Nat} (ha : a < 9223372036854775808) (hb : b < 9223372036854775808) : Go.bits .xor .i64 (a : Int) (b : Int) = ((a ^^^ b : Nat) : Int) := by
  have hx : a ^^^ b < 2 ^ 63 := Nat.xor_lt_two_pow (by omega) (by omega)
  show IntKind.i64.wrap ((BitVec.ofInt 64 (a : Int) ^^^ BitVec.ofInt 64 (b : Int)).toNat : Int) = _
  rw [BitVec.toNat_xor, bv64 a ha, bv64 b hb, w64 (by omega) (by omega)]

theorem cond_pos {α : Type} {p : Prop} [Decidable p] (h : p) (x y : α) : (bif decide p then x else y) = x := by rw [decide_eq_true h]; rfl

theorem cond_neg {α : Type} {p : Prop} [Decidable p] (h : ¬ p) (x y : α) : (bif decide p then x else y) = y := by rw [decide_eq_false h]; rfl

theorem cond_if {α : Type} {p : Prop} [Decidable p] (x y : α) : (bif decide p then x else y) = if p then x else y := by
  by_cases h : p <;> simp [h]

/-- a search -/
theorem findI {α : Type} [Inhabited α] (l : List α) (L : Nat → Int → Option (Int ⊕ Unit)) (p : α → Bool)
    (hend : ∀ n, L (n + 1) (l.length : Int) = some (.inr ()))
    (hstep : ∀ n i, i < l.length → L (n + 1) (i : Int) = if p (gt l (i : Int)) then some (.inl (i : Int)) else L n ((i + 1 : Nat) : Int))
    (N : Nat) (hl : l.length < N) : L N 0 = some (match l.findIdx? p with | some i => .inl (i : Int) | none => .inr ()) := by
  refine (listW l (fun n i (_ : Unit) => L n i) (fun i _ => ∀ d ∈ l.take i, p d = false)
    (fun r => r = (match l.findIdx? p with | some i => .inl (i : Int) | none => .inr ())) ?_ ?_ N hl () (by simp)).eq
  · intro n _ hI
    rw [List.take_length] at hI
    rw [hend]
    refine Wp_some.2 ?_
    rw [List.findIdx?_eq_none_iff.2 hI]
  · intro n i _ d hi hg hd hm hI ih
    rw [hstep n i hi, hg]
    by_cases h : p d = true
    · rw [if_pos h]
      refine Wp_some.2 ?_
      have : l.findIdx? p = some i := by
        rw [List.findIdx?_eq_some_iff_getElem]
        refine ⟨hi, by rw [← gt_nat hi, hg]; exact h, fun j hj => ?_⟩
        simpa using hI l[j] (List.mem_take_iff_getElem.2 ⟨j, by omega, rfl⟩)
      rw [this]
    · rw [if_neg h]
      refine ih () ?_
      intro e he
      rw [List.take_succ_eq_append_getElem hi, List.mem_append] at he
      rcases he with he | he
      · exact hI e he
      · rw [← gt_nat hi, hg] at he
        simp at he; subst he; simpa using h

/-- a check of all, by place: what comes out where one is of the kind, and where none is -/
theorem anyI {α ρ : Type} [Inhabited α] (l : List α) (L : Nat → Int → Option ρ) (P : Nat → Prop) (x y : ρ)
    (hend : ∀ n, L (n + 1) (l.length : Int) = some y)
    (hstep : ∀ n i, i < l.length → (P i ∧ L (n + 1) (i : Int) = some x) ∨ (¬ P i ∧ L (n + 1) (i : Int) = L n ((i + 1 : Nat) : Int)))
    (N : Nat) (hl : l.length < N) : ((∃ i, i < l.length ∧ P i) ∧ L N 0 = some x) ∨ ((∀ i, i < l.length → ¬ P i) ∧ L N 0 = some y) := by
  have h := listW l (fun n i (_ : Unit) => L n i) (fun i _ => ∀ j, j < i → ¬ P j)
    (fun r => ((∃ i, i < l.length ∧ P i) ∧ r = x) ∨ ((∀ i, i < l.length → ¬ P i) ∧ r = y)) ?_ ?_ N hl () (by intro j hj; omega)
  · obtain ⟨r, e, h⟩ := h
    have e : L N 0 = some r := e
    rw [e]
    rcases h with ⟨h1, rfl⟩ | ⟨h1, rfl⟩
    · exact .inl ⟨h1, rfl⟩
    · exact .inr ⟨h1, rfl⟩
  · intro n _ hI
    rw [hend]
    exact Wp_some.2 (.inr ⟨hI, rfl⟩)
  · intro n i _ d hi hg hd hm hI ih
    rcases hstep n i hi with ⟨h1, h2⟩ | ⟨h1, h2⟩
    · rw [h2]; exact Wp_some.2 (.inl ⟨⟨i, hi, h1⟩, rfl⟩)
    · rw [h2]
      refine ih () fun j hj => ?_
      by_cases e : j = i
      · subst e; exact h1
      · exact hI j (by omega)

/-- a copy, element by element -/
theorem copyW {α : Type} [Inhabited α] (l : List α) (L : Nat → List α → Int → Option (List α))
    (hend : ∀ n s, L (n + 1) s (l.length : Int) = some s)
    (hstep : ∀ n i s, i < l.length → s.length = l.length → L (n + 1) s (i : Int) = L n (s.set (0 + i) (gt l (i : Int))) ((i + 1 : Nat) : Int))
    (N : Nat) (hl : l.length < N) (s : List α) (h0 : s.length = l.length) : L N s 0 = some l := by
  refine (listW l (fun n i s => L n s i) (fun i t => t.length = l.length ∧ t.take i = l.take i) (fun r => r = l) ?_ ?_ N hl s ⟨h0, by simp⟩).eq
  · intro n t hI
    rw [hend]
    refine Wp_some.2 ?_
    have h2 := hI.2
    rw [List.take_length, ← hI.1, List.take_length] at h2
    exact h2
  · intro n i t d hi hg hd hm hI ih
    rw [hstep n i t hi hI.1, hg]
    refine ih _ ⟨by rw [List.length_set]; exact hI.1, ?_⟩
    have hi' : i < t.length := by rw [hI.1]; exact hi
    rw [Nat.zero_add, List.take_set, List.take_succ_eq_append_getElem hi, List.take_succ_eq_append_getElem hi', hI.2, List.set_append]
    have : (l.take i).length = i := by rw [List.length_take]; omega
    rw [if_neg (by omega), this, Nat.sub_self, List.set_cons_zero, ← gt_nat hi, hg]

/-- a comparison of two lists -/
theorem eqW {α : Type} [Inhabited α] [DecidableEq α] (a b : List α) (L : Nat → Int → Option (Unit ⊕ Unit)) (hlen : a.length = b.length)
    (hend : ∀ n, L (n + 1) (a.length : Int) = some (.inr ()))
    (hstep : ∀ n i, i < a.length → L (n + 1) (i : Int) = if gt a (i : Int) = gt b (i : Int) then L n ((i + 1 : Nat) : Int) else some (.inl ()))
    (N : Nat) (hl : a.length < N) : L N 0 = some (if a = b then .inr () else .inl ()) := by
  have h := anyI a L (fun i => ¬ gt a (i : Int) = gt b (i : Int)) (.inl ()) (.inr ()) hend (fun n i hi => ?_) N hl
  · rcases h with ⟨⟨i, h1, h2⟩, e⟩ | ⟨h1, e⟩
    · rw [e, if_neg (fun e => h2 (by rw [e]))]
    · rw [e, if_pos]
      refine List.ext_getElem hlen fun i h2 h3 => ?_
      have := Decidable.not_not.1 (h1 i h2)
      rwa [gt_nat h2, gt_nat h3] at this
  · rw [hstep n i hi]
    by_cases h : gt a (i : Int) = gt b (i : Int)
    · rw [if_pos h]; exact .inr ⟨fun h' => h' h, rfl⟩
    · rw [if_neg h]; exact .inl ⟨h, rfl⟩

theorem FU_eq : FU = 4611686018427387904 := rfl

def named (l : List (ByteArray × Int)) (s : ByteArray) : Int := ix (fun d => decide (d.1 = s)) l

def valued (l : List (ByteArray × Int)) (n : Int) : Int := ix (fun d => decide (d.2 = n)) l

theorem spec_indexOf (l : List (ByteArray × Int)) (s : ByteArray) (hl : l.length ≤ 1099511627776) : m_spec_indexOf l s = some (named l s) := by
  rw [m_spec_indexOf, findI l (m_spec_indexOf_L1 l s) (fun d => decide (d.1 = s)) ?_ ?_ FU (by rw [FU_eq]; omega), bd_some, named, ix]
  · cases l.findIdx? (fun d => decide (d.1 = s)) <;> rfl
  · intro n; rw [m_spec_indexOf_L1, cond_neg (by omega)]
  · intro n i hi
    rw [m_spec_indexOf_L1, cond_pos (by omega), gd_pos (by omega), w64s (by omega), cond_if]
    simp

theorem impl_named (l : List (ByteArray × Int)) (s : ByteArray) (hl : l.length ≤ 1099511627776) : m_impl_named l s = some (named l s) := by
  rw [m_impl_named, m_slices_IndexFunc_si_named_1_l, findI l (m_slices_IndexFunc_si_named_1_l_L1 l s) (fun d => decide (d.1 = s)) ?_ ?_ FU (by rw [FU_eq]; omega), bd_some, named, ix]
  · cases l.findIdx? (fun d => decide (d.1 = s)) <;> rfl
  · intro n; rw [m_slices_IndexFunc_si_named_1_l_L1, cond_neg (by omega)]
  · intro n i hi
    rw [m_slices_IndexFunc_si_named_1_l_L1, cond_pos (by omega), gd_pos (by omega), w64s (by omega), m_impl_named_1_l, bd_some, cond_if]
    simp

theorem spec_valueAt (l : List (ByteArray × Int)) (s : Int) (hl : l.length ≤ 1099511627776) : m_spec_valueAt l s = some (valued l s) := by
  rw [m_spec_valueAt, findI l (m_spec_valueAt_L1 l s) (fun d => decide (d.2 = s)) ?_ ?_ FU (by rw [FU_eq]; omega), bd_some, valued, ix]
  · cases l.findIdx? (fun d => decide (d.2 = s)) <;> rfl
  · intro n; rw [m_spec_valueAt_L1, cond_neg (by omega)]
  · intro n i hi
    rw [m_spec_valueAt_L1, cond_pos (by omega), gd_pos (by omega), w64s (by omega), cond_if]
    simp

theorem impl_valued (l : List (ByteArray × Int)) (s : Int) (hl : l.length ≤ 1099511627776) : m_impl_valued l s = some (valued l s) := by
  rw [m_impl_valued, m_slices_IndexFunc_si_valued_1_l, findI l (m_slices_IndexFunc_si_valued_1_l_L1 l s) (fun d => decide (d.2 = s)) ?_ ?_ FU (by rw [FU_eq]; omega), bd_some, valued, ix]
  · cases l.findIdx? (fun d => decide (d.2 = s)) <;> rfl
  · intro n; rw [m_slices_IndexFunc_si_valued_1_l_L1, cond_neg (by omega)]
  · intro n i hi
    rw [m_slices_IndexFunc_si_valued_1_l_L1, cond_pos (by omega), gd_pos (by omega), w64s (by omega), m_impl_valued_1_l, bd_some, cond_if]
    simp

/-- 1 to 6 letters from a to z -/
def NameOk (s : ByteArray) : Prop := (∀ i, i < s.size → 97 ≤ byteAt s i ∧ byteAt s i ≤ 122) ∧ 1 ≤ s.size ∧ s.size ≤ 6

instance (s : ByteArray) : Decidable (NameOk s) := inferInstanceAs (Decidable (_ ∧ _))

theorem spec_inRange (a b c : Int) : m_spec_inRange a b c = some (decide (b ≤ a ∧ a ≤ c)) := by
  rw [m_spec_inRange, cond_if]
  by_cases h1 : b ≤ a <;> by_cases h2 : a ≤ c <;> simp [h1, h2]

theorem impl_in (a b c : Int) : m_impl_in a b c = some (decide (b ≤ a ∧ a ≤ c)) := spec_inRange a b c

theorem validName_loop (s : ByteArray) (hs : s.size ≤ 1099511627776) : Wp (m_spec_validName_L1 s FU 0) (fun r => (r = .inl () ∧ ∃ i, i < s.size ∧ ¬ (97 ≤ byteAt s i ∧ byteAt s i ≤ 122)) ∨ (r = .inr () ∧ ∀ i, i < s.size → 97 ≤ byteAt s i ∧ byteAt s i ≤ 122)) := by
  refine loopW (m_spec_validName_L1 s) (fun v => ∃ i : Nat, v = i ∧ i ≤ s.size ∧ ∀ j, j < i → 97 ≤ byteAt s j ∧ byteAt s j ≤ 122) (fun v => s.size - v.toNat) _ ?_ FU 0 ⟨0, rfl, by omega, by intro j hj; omega⟩ (by rw [FU_eq]; omega)
  rintro n _ ⟨i, rfl, hi, hI⟩ ih
  rw [m_spec_validName_L1]
  by_cases h : i < s.size
  · rw [cond_pos (by omega), gd_pos (by omega), w64s (by omega), Int.toNat_natCast]
    by_cases h1 : byteAt s i < 97
    · rw [cond_pos h1]; exact Wp_some.2 (.inl ⟨rfl, i, h, by omega⟩)
    · rw [cond_neg h1]
      by_cases h2 : 122 < byteAt s i
      · rw [cond_pos h2]; exact Wp_some.2 (.inl ⟨rfl, i, h, by omega⟩)
      · rw [cond_neg h2]
        refine ih _ ⟨i + 1, rfl, h, fun j hj => ?_⟩ (by omega)
        by_cases e : j = i
        · subst e; omega
        · exact hI j (by omega)
  · rw [cond_neg (by omega)]
    exact Wp_some.2 (.inr ⟨rfl, fun j hj => hI j (by omega)⟩)

theorem spec_validName {s : ByteArray} (hs : s.size ≤ 1099511627776) : m_spec_validName s = some (decide (NameOk s)) := by
  obtain ⟨r, e, h⟩ := validName_loop s hs
  rw [m_spec_validName, e, bd_some]
  rcases h with ⟨rfl, i, hi, h⟩ | ⟨rfl, h⟩
  · have : ¬ NameOk s := fun hn => h (hn.1 i hi)
    rw [decide_eq_false this]; rfl
  · rw [sm_inr, spec_inRange, bd_some]
    have : NameOk s ↔ ((1 : Int) ≤ (s.size : Int) ∧ (s.size : Int) ≤ 6) := ⟨fun hn => by have := hn.2; omega, fun hh => ⟨h, by omega⟩⟩
    rw [decide_eq_decide.2 this]

theorem validName_L1_eq (p : ByteArray) : ∀ (n : Nat) (v : Int), m_impl_ValidName_L1 p n v = m_spec_validName_L1 p n v
  | 0, v => rfl
  | n + 1, v => by rw [m_impl_ValidName_L1, m_spec_validName_L1, validName_L1_eq p n]

theorem impl_ValidName {s : ByteArray} (hs : s.size ≤ 1099511627776) : m_impl_ValidName s = some (decide (NameOk s)) := by
  rw [← spec_validName hs, m_impl_ValidName, m_spec_validName, validName_L1_eq]; rfl

/-- names and lists that can be read -/
def DefsIn (l : List (ByteArray × Int)) : Prop := l.length ≤ 1099511627776 ∧ (∀ d ∈ l, d.1.size ≤ 1099511627776) ∧ ∀ d ∈ l, I64 d.2

def DefsOk (l : List (ByteArray × Int)) (lo hi : Int) : Prop := (∀ i, i < l.length → NameOk (gt l (i : Int)).1 ∧ (lo ≤ (gt l (i : Int)).2 ∧ (gt l (i : Int)).2 ≤ hi) ∧ ¬ 0 ≤ named (l.take i) (gt l (i : Int)).1) ∧ l.length ≤ 12

instance (l : List (ByteArray × Int)) (lo hi : Int) : Decidable (DefsOk l lo hi) := inferInstanceAs (Decidable (_ ∧ _))

theorem spec_validDefs {l : List (ByteArray × Int)} (h : DefsIn l) (lo hi : Int) : m_spec_validDefs l lo hi = some (decide (DefsOk l lo hi)) := by
  obtain ⟨hl, hs, -⟩ := h
  have h := anyI l (m_spec_validDefs_L1 l lo hi) (fun i => ¬ (NameOk (gt l (i : Int)).1 ∧ (lo ≤ (gt l (i : Int)).2 ∧ (gt l (i : Int)).2 ≤ hi) ∧ ¬ 0 ≤ named (l.take i) (gt l (i : Int)).1)) (.inl ()) (.inr ()) ?_ ?_ FU (by rw [FU_eq]; omega)
  · rw [m_spec_validDefs]
    rcases h with ⟨⟨i, h1, h2⟩, e⟩ | ⟨h1, e⟩
    · rw [e, bd_some, sm_inl]
      have : ¬ DefsOk l lo hi := fun h => h2 (h.1 i h1)
      rw [decide_eq_false this]
    · rw [e, bd_some, sm_inr]
      have : DefsOk l lo hi ↔ (l.length : Int) ≤ 12 := ⟨fun h => by have := h.2; omega, fun h => ⟨fun i hi => Decidable.not_not.1 (h1 i hi), by omega⟩⟩
      rw [decide_eq_decide.2 this]
  · intro n; rw [m_spec_validDefs_L1, cond_neg (by omega)]
  · intro n i hi'
    have hm : gt l (i : Int) ∈ l := gt_mem (by omega)
    rw [m_spec_validDefs_L1, cond_pos (by omega), gd_pos (by omega), spec_validName (hs _ hm), bd_some, spec_inRange, bd_some, gd_pos (by omega), sub_zero, spec_indexOf _ _ (by rw [List.length_take]; omega), bd_some, w64s (by omega)]
    by_cases h1 : NameOk (gt l (i : Int)).1 <;> simp only [h1, decide_true, decide_false, Bool.not_true, Bool.not_false, cond_true, cond_false, true_and, false_and, not_false_eq_true, not_true_eq_false, or_false, and_self]
    by_cases h2 : lo ≤ (gt l (i : Int)).2 ∧ (gt l (i : Int)).2 ≤ hi <;> simp only [h2, decide_true, decide_false, Bool.not_true, Bool.not_false, cond_true, cond_false, true_and, false_and, not_false_eq_true, not_true_eq_false, or_false, and_self]
    by_cases h3 : 0 ≤ named (l.take i) (gt l (i : Int)).1 <;> simp only [h3, decide_true, decide_false, Bool.not_true, Bool.not_false, cond_true, cond_false, true_and, false_and, not_false_eq_true, not_true_eq_false, or_false, and_self, false_or]

theorem impl_defsValid {l : List (ByteArray × Int)} (h : DefsIn l) (lo hi : Int) : m_impl_defsValid l lo hi = some (decide (DefsOk l lo hi)) := by
  have e : ∀ (n : Nat) (i : Nat), i ≤ l.length → m_impl_defsValid_L1 l lo hi n (i : Int) = m_spec_validDefs_L1 l lo hi n (i : Int) := by
    intro n
    induction n with
    | zero => intro i _; rfl
    | succ n ih =>
      intro i hi'
      rw [m_impl_defsValid_L1, m_spec_validDefs_L1]
      by_cases hlt : i < l.length
      · have hm : gt l (i : Int) ∈ l := gt_mem (by omega)
        have hl := h.1
        rw [cond_pos (by omega), cond_pos (by omega), w64s (by omega), ih (i + 1) hlt, impl_ValidName (h.2.1 _ hm), spec_validName (h.2.1 _ hm), sub_zero,
          impl_named _ _ (by rw [List.length_take]; omega), spec_indexOf _ _ (by rw [List.length_take]; omega)]
        rfl
      · rw [cond_neg (by omega), cond_neg (by omega)]
  rw [← spec_validDefs h, m_impl_defsValid, m_spec_validDefs, show (0 : Int) = ((0 : Nat) : Int) from rfl, e FU 0 (by omega)]

def EnumOk (l : List (ByteArray × Int)) : Prop := DefsOk l (-1000) 1000

instance (l : List (ByteArray × Int)) : Decidable (EnumOk l) := inferInstanceAs (Decidable (DefsOk _ _ _))

theorem spec_validEnum {l : List (ByteArray × Int)} (h : DefsIn l) : m_spec_validEnum l = some (decide (EnumOk l)) := by
  rw [m_spec_validEnum, spec_validDefs h, bd_some]; rfl

theorem impl_ValidEnum {l : List (ByteArray × Int)} (h : DefsIn l) : m_impl_ValidEnum l = some (decide (EnumOk l)) := by
  rw [m_impl_ValidEnum, impl_defsValid h, bd_some]; rfl

def Bytes (l : List Int) : Prop := ∀ n ∈ l, 0 ≤ n ∧ n < 256

theorem tmod_range {a b : Int} (ha : 0 ≤ a) (hb : 0 < b) : 0 ≤ Int.tmod a b ∧ Int.tmod a b < b := by
  rw [Int.tmod_eq_emod_of_nonneg ha]
  exact ⟨Int.emod_nonneg _ (by omega), Int.emod_lt_of_pos _ hb⟩

theorem tdiv_range {a b : Int} (ha : 0 ≤ a) (hb : 0 < b) : 0 ≤ Int.tdiv a b ∧ Int.tdiv a b ≤ a := by
  rw [Int.tdiv_eq_ediv_of_nonneg ha]
  exact ⟨Int.ediv_nonneg ha (by omega), Int.ediv_le_self _ ha⟩

theorem pick {n : Int} {code : List Int} {p : Int} (hc : Bytes code) (hl : code.length ≤ 9223372036854775807) (hp : 0 ≤ p ∧ p < 1000000) :
    ∃ x, m_spec_reader_pick n code p = some x ∧ 0 ≤ x ∧ (1 ≤ n → x < n) := by
  unfold m_spec_reader_pick
  by_cases h1 : n < 1
  · exact ⟨0, by rw [decide_eq_true h1, cond_true], by omega, fun h => by omega⟩
  rw [decide_eq_false h1, cond_false]
  by_cases h2 : (code.length : Int) = 0
  · exact ⟨0, by rw [decide_eq_true h2, cond_true], by omega, fun h => by omega⟩
  rw [decide_eq_false h2, cond_false]
  have e1 : IntKind.wrap .i64 (IntKind.wrap .i64 (p + 1) - 1) = p := by
    rw [w64 (a := p + 1) (by omega) (by omega), w64 (by omega) (by omega)]; omega
  have hL : 0 < (code.length : Int) := by omega
  simp only [e1, nm_eq]
  by_cases h3 : p < (code.length : Int)
  · have hb := hc _ (gt_mem ⟨hp.1, h3⟩)
    rw [decide_eq_true h3, cond_true, gd_pos ⟨hp.1, h3⟩, gd_pos (by omega), w64 (by omega) (by omega)]
    have := tmod_range (a := gt code p) (b := n) hb.1 (by omega)
    exact ⟨_, rfl, this.1, fun _ => this.2⟩
  rw [decide_eq_false h3, cond_false, gd_pos (by omega)]
  have t1 := tmod_range hp.1 hL
  rw [gd_pos t1, w64 (a := p * 7) (by omega) (by omega), w64 (a := p * 7 + 3) (by omega) (by omega)]
  have t2 := tmod_range (a := p * 7 + 3) (by omega) hL
  rw [gd_pos t2]
  have b1 := hc _ (gt_mem t1)
  have b2 := hc _ (gt_mem t2)
  generalize gt code (Int.tmod p (code.length : Int)) = u at *
  generalize gt code (Int.tmod (p * 7 + 3) (code.length : Int)) = v at *
  have t3 := tdiv_range hp.1 hL
  generalize Int.tdiv p (code.length : Int) = q at *
  rw [gd_pos ⟨by omega, w64 (by omega) (by omega)⟩]
  rw [w64 (a := u) (by omega) (by omega), w64 (a := u * 131) (by omega) (by omega), w64 (a := v) (by omega) (by omega), w64 (a := v * 1117) (by omega) (by omega), w64 (a := u * 131 + v * 1117) (by omega) (by omega),
    w64 (a := p * 29) (by omega) (by omega), w64 (a := u * 131 + v * 1117 + p * 29) (by omega) (by omega), w64 (a := q * 53) (by omega) (by omega), w64 (a := u * 131 + v * 1117 + p * 29 + q * 53) (by omega) (by omega)]
  have hz : 0 ≤ u * 131 + v * 1117 + p * 29 + q * 53 ∧ u * 131 + v * 1117 + p * 29 + q * 53 < 1000000000 := by omega
  generalize u * 131 + v * 1117 + p * 29 + q * 53 = z at *
  have t4 := tdiv_range (a := z) (b := 64) hz.1 (by omega)
  rw [gd_pos ⟨by omega, w64 (by omega) (by omega)⟩, gd_pos (by omega)]
  have hx : ∃ y : Nat, Go.bits .xor .i64 z (Int.tdiv z 64) = (y : Int) := by
    obtain ⟨a, ha⟩ := Int.eq_ofNat_of_zero_le hz.1
    obtain ⟨b, hb⟩ := Int.eq_ofNat_of_zero_le t4.1
    refine ⟨a ^^^ b, ?_⟩
    rw [hb, ha]
    exact xor64 (by omega) (by omega)
  obtain ⟨y, hy⟩ := hx
  rw [hy]
  have := tmod_range (a := (y : Int)) (b := n) (by omega) (by omega)
  exact ⟨_, rfl, this.1, fun _ => this.2⟩

theorem one {code : List Int} {p : Int} (hc : Bytes code) (hl : code.length ≤ 9223372036854775807) (hp : 0 ≤ p ∧ p < 1000000) {xs : List Int} (hx : xs ≠ []) : ∃ x, m_spec_reader_one xs code p = some x ∧ x ∈ xs := by
  have h1 : 1 ≤ (xs.length : Int) := by
    have := List.length_pos_iff.2 hx
    omega
  obtain ⟨x, e, h0, h2⟩ := pick (n := (xs.length : Int)) hc hl hp
  refine ⟨gt xs x, ?_, gt_mem ⟨h0, h2 h1⟩⟩
  rw [m_spec_reader_one, e, bd_some, gd_pos ⟨h0, h2 h1⟩]

theorem laws_eqDef (a : ByteArray) (b : Int) (c : ByteArray) (d : Int) : m_laws_eqDef a b c d = some (decide ((a, b) = (c, d))) := by
  rw [m_laws_eqDef]
  by_cases h1 : a = c <;> by_cases h2 : b = d <;> simp [h1, h2]

theorem laws_eqDefS {a b : List (ByteArray × Int)} (ha : a.length ≤ 1099511627776) : m_laws_eqDefS a b = some (decide (a = b)) := by
  rw [m_laws_eqDefS]
  by_cases hl : a.length = b.length
  · rw [decide_eq_true (by omega), Bool.not_true, cond_false, eqW a b (m_laws_eqDefS_L1 a b) hl ?_ ?_ FU (by rw [FU_eq]; omega), bd_some]
    · by_cases h : a = b
      · rw [if_pos h, decide_eq_true h]; rfl
      · rw [if_neg h, decide_eq_false h]; rfl
    · intro n; rw [m_laws_eqDefS_L1, cond_neg (by omega)]
    · intro n i hi
      rw [m_laws_eqDefS_L1, cond_pos (by omega), gd_pos (by omega), gd_pos (by omega), laws_eqDef, bd_some, w64s (by omega)]
      by_cases h : gt a (i : Int) = gt b (i : Int) <;> simp [h]
  · rw [decide_eq_false (by omega), Bool.not_false, cond_true, decide_eq_false]
    intro h; exact hl (by rw [h])

theorem laws_toDefS {l : List (ByteArray × Int)} (hl : l.length ≤ 1000000000) : m_laws_toDefS l = some l := by
  rw [m_laws_toDefS, gd_pos (by omega), copyW l (fun n s i => m_laws_toDefS_L1 l n s i) ?_ ?_ FU (by rw [FU_eq]; omega) _ (by simp), bd_some]
  · intro n s; rw [m_laws_toDefS_L1, cond_neg (by omega)]
  · intro n i s hi hs
    rw [m_laws_toDefS_L1, cond_pos (by omega), gd_pos (by omega), m_laws_toDef, bd_some, gd_pos (by omega), w64s (by omega), Int.toNat_natCast]

theorem laws_szDefS {l : List (ByteArray × Int)} {q : Int} (hq : 0 ≤ q ∧ q ≤ 1048576) (hl : l.length ≤ 9223372036854775807) (hs : ∀ d ∈ l, d.1.size ≤ 9223372036854775807) :
    ∃ r, m_laws_szDefS l q = some r ∧ (0 ≤ r → r ≤ q ∧ (l.length : Int) ≤ q ∧ ∀ d ∈ l, (d.1.size : Int) ≤ q) := by
  rw [m_laws_szDefS, w64 (by omega) (by omega)]
  by_cases h : q - (l.length : Int) < 0
  · exact ⟨-1, by rw [cond_pos h], fun h => by omega⟩
  · rw [cond_neg h]
    have hx := listW l (fun n i s => m_laws_szDefS_L1 l n s i) (fun i s => 0 ≤ s ∧ s ≤ q ∧ ∀ d ∈ l.take i, (d.1.size : Int) ≤ q) (fun r => ∀ z, r = .inr z → z ≤ q ∧ ∀ d ∈ l, (d.1.size : Int) ≤ q) ?_ ?_ FU (by rw [FU_eq]; omega) (q - (l.length : Int)) ⟨by omega, by omega, by simp⟩
    · obtain ⟨r, e, hr⟩ := hx
      have e : m_laws_szDefS_L1 l FU (q - (l.length : Int)) 0 = some r := e
      rw [e, bd_some]
      cases r with
      | inl u => exact ⟨-1, rfl, fun h => by omega⟩
      | inr z => exact ⟨z, rfl, fun _ => ⟨(hr z rfl).1, by omega, (hr z rfl).2⟩⟩
    · intro n s hI
      rw [m_laws_szDefS_L1, cond_neg (by omega)]
      refine Wp_some.2 fun z hz => ?_
      cases hz
      have := hI.2.2
      rw [List.take_length] at this
      exact ⟨hI.2.1, this⟩
    · intro n i s d hi hg hd hm hI ih
      have h1 := hs d hm
      rw [m_laws_szDefS_L1, cond_pos (by omega), gd_pos (by omega), w64s (by omega), hg, m_laws_szDef, w64 (by omega) (by omega)]
      by_cases h2 : s - (d.1.size : Int) < 0
      · rw [cond_pos h2, bd_some, cond_pos (by omega)]
        exact Wp_some.2 fun z hz => by cases hz
      · rw [cond_neg h2, bd_some, cond_neg h2]
        refine ih _ ⟨by omega, by omega, fun e he => ?_⟩
        rw [List.take_succ_eq_append_getElem hi, List.mem_append] at he
        rcases he with he | he
        · exact hI.2.2 e he
        · rw [← gt_nat hi, hg] at he
          simp at he; subst he; omega

theorem valued_range (l : List (ByteArray × Int)) (n : Int) : -1 ≤ valued l n ∧ valued l n < (l.length : Int) := ix_range _ _

theorem laws_toEnum {l : List (ByteArray × Int)} (hl : l.length ≤ 1000000000) : m_laws_toEnum l = some l := by
  rw [m_laws_toEnum, laws_toDefS hl, bd_some]

theorem laws_szEnum {l : List (ByteArray × Int)} {q : Int} (hq : 0 ≤ q ∧ q ≤ 1048576) (hl : l.length ≤ 9223372036854775807) (hs : ∀ d ∈ l, d.1.size ≤ 9223372036854775807 ∧ In64 d.2) :
    ∃ r, m_laws_szEnum l q = some r ∧ (¬ r < 0 → (0 ≤ r ∧ r ≤ q) ∧ l.length ≤ 1048576 ∧ DefsIn l) := by
  obtain ⟨r, er, hr⟩ := laws_szDefS hq hl (fun d hd => (hs d hd).1)
  rw [m_laws_szEnum, er, bd_some]
  by_cases h : r < 0
  · exact ⟨-1, by rw [cond_pos h], fun h => absurd (by omega) h⟩
  · obtain ⟨g1, g2, g3⟩ := hr (by omega)
    exact ⟨r, by rw [cond_neg h], fun _ => ⟨⟨by omega, g1⟩, by omega, by omega, fun d hd => by have := g3 d hd; omega, fun d hd => (hs d hd).2⟩⟩

theorem laws_eqEnum {a b : List (ByteArray × Int)} (ha : a.length ≤ 1099511627776) : m_laws_eqEnum a b = some (decide (a = b)) := by
  rw [m_laws_eqEnum, laws_eqDefS ha, bd_some]
  cases decide (a = b) <;> rfl

theorem laws_eqEnum_self {l : List (ByteArray × Int)} (hl : l.length ≤ 1000000000) : m_laws_eqEnum l l = some true := by
  rw [laws_eqEnum (by omega), decide_eq_true rfl]

/-- a text of these bytes -/
def bl (l : List UInt8) : ByteArray := ⟨l.toArray⟩

theorem bl_append (a b : List UInt8) : bl a ++ bl b = bl (a ++ b) := by
  apply ByteArray.ext
  simp [bl]

theorem bl_size (l : List UInt8) : (bl l).size = l.length := by simp [bl, ByteArray.size]

/-- a number as a text -/
def itoaB (n : Int) : ByteArray := bl (Lib.itoa n)

theorem itoa_eq {n : Int} (h : I64 n) : m_strconv_Itoa n = some (itoaB n) := by
  rw [m_strconv_Itoa, gd_pos ⟨h.1, h.2⟩]; rfl

theorem digit_extract : ∀ k, k < 10 → (ByteArray.mk #[48, 49, 50, 51, 52, 53, 54, 55, 56, 57]).extract k (k + 1) = bl [UInt8.ofNat (48 + k)] := by
  intro k hk
  apply ByteArray.ext
  have : k = 0 ∨ k = 1 ∨ k = 2 ∨ k = 3 ∨ k = 4 ∨ k = 5 ∨ k = 6 ∨ k = 7 ∨ k = 8 ∨ k = 9 := by omega
  rcases this with rfl | rfl | rfl | rfl | rfl | rfl | rfl | rfl | rfl | rfl <;> rfl

theorem decDigits_length_le : ∀ (d u : Nat), u < 10 ^ (d + 1) → (Lib.decDigits u).length ≤ d + 1
  | 0, u, h => by rw [Lib.decDigits_one (by simpa using h)]; simp
  | d + 1, u, h => by
    by_cases h1 : u < 10
    · rw [Lib.decDigits_one h1]; simp
    · rw [Lib.decDigits, dif_neg h1, List.length_append, List.length_singleton]
      have := decDigits_length_le d (u / 10) (by rw [Nat.pow_succ] at h; omega)
      omega

theorem number_eq : ∀ (fu n : Nat), n < fu → n ≤ 1000000 → m_spec_number fu (n : Int) = some (bl (Lib.decDigits n))
  | 0, n, h, _ => absurd h (Nat.not_lt_zero _)
  | fu + 1, n, h, hn => by
    rw [m_spec_number]
    by_cases h1 : n < 10
    · have e : IntKind.wrap .i64 ((n : Int) + 1) = ((n + 1 : Nat) : Int) := w64s (by omega)
      have hs : ((ByteArray.mk #[48, 49, 50, 51, 52, 53, 54, 55, 56, 57]).size : Int) = 10 := rfl
      rw [cond_pos (by omega), e, hs, gd_pos ⟨by omega, by omega, by omega⟩, nm_eq, Int.toNat_natCast, Int.toNat_natCast, digit_extract n h1, Lib.decDigits_one h1]
    · have ed : Int.tdiv (n : Int) 10 = ((n / 10 : Nat) : Int) := by
        rw [Int.tdiv_eq_ediv_of_nonneg (by omega)]; omega
      have em : Int.tmod (n : Int) 10 = ((n % 10 : Nat) : Int) := by
        rw [Int.tmod_eq_emod_of_nonneg (by omega)]; omega
      have l1 := decDigits_length_le 6 (n / 10) (by omega)
      have l2 := decDigits_length_le 6 (n % 10) (by omega)
      rw [cond_neg (by omega), ed, em, gd_pos ⟨by decide, w64 (by omega) (by omega)⟩, number_eq fu (n / 10) (by omega) (by omega), bd_some, gd_pos (by decide), number_eq fu (n % 10) (by omega) (by omega), bd_some,
        gd_pos (by rw [bl_size, bl_size]; omega), bl_append]
      conv => rhs; rw [Lib.decDigits, dif_neg h1]
      rw [Lib.decDigits_one (i := n % 10) (by omega)]

theorem spec_number {n : Int} (h0 : 0 ≤ n) (h1 : n ≤ 1000000) : m_spec_number FU n = some (itoaB n) := by
  obtain ⟨k, rfl⟩ := Int.eq_ofNat_of_zero_le h0
  rw [number_eq FU k (by rw [FU_eq]; omega) (by omega), itoaB, Lib.itoa, if_neg (by omega), Int.toNat_natCast]

theorem itoa_length {n : Int} (h : -1000000 ≤ n ∧ n ≤ 1000000) : (Lib.itoa n).length ≤ 8 := by
  unfold Lib.itoa
  split
  · have := decDigits_length_le 6 n.natAbs (by omega)
    rw [List.length_cons]; omega
  · have := decDigits_length_le 6 n.toNat (by omega)
    omega

theorem itoaB_size {n : Int} (h : -1000000 ≤ n ∧ n ≤ 1000000) : (itoaB n).size ≤ 8 := by
  rw [itoaB, bl_size]; exact itoa_length h

theorem itoa_minus {n : Int} (h : n < 0) : Lib.itoa n = 45 :: Lib.itoa (0 - n) := by
  unfold Lib.itoa
  rw [if_pos h, if_neg (by omega)]
  congr 2; omega

theorem spec_signed {n : Int} (h : -1000000 ≤ n ∧ n ≤ 1000000) : m_spec_signedText n = some (itoaB n) := by
  rw [m_spec_signedText]
  by_cases h0 : n < 0
  · have hl := itoaB_size (n := 0 - n) ⟨by omega, by omega⟩
    have hs : (ByteArray.mk #[45]).size = 1 := rfl
    rw [cond_pos h0, w64 (by omega) (by omega), spec_number (by omega) (by omega), bd_some, gd_pos (by omega)]
    congr 1
    rw [show (ByteArray.mk #[45]) = bl [45] from rfl, itoaB, bl_append, itoaB, itoa_minus h0]
    rfl
  · rw [cond_neg h0, spec_number (by omega) h.2, bd_some]

def showEnumC (e : List (ByteArray × Int)) (n : Int) : ByteArray := if EnumOk e ∧ -1000 ≤ n ∧ n ≤ 1000 then (if valued e n < 0 then itoaB n else (gt e (valued e n)).1) else ByteArray.empty

theorem impl_NameOf {e : List (ByteArray × Int)} (h : DefsIn e) (n : Int) : m_impl_NameOf e n = some (if EnumOk e ∧ 0 ≤ valued e n then ((gt e (valued e n)).1, true) else (ByteArray.empty, false)) := by
  have hr := valued_range e n
  rw [m_impl_NameOf, impl_valued _ _ h.1, bd_some, impl_ValidEnum h, bd_some]
  by_cases hv : EnumOk e
  · rw [decide_eq_true hv, Bool.not_true, cond_false]
    by_cases h0 : valued e n < 0
    · rw [cond_pos h0, if_neg (by omega)]
    · rw [cond_neg h0, gd_pos (by omega), if_pos ⟨hv, by omega⟩]
  · rw [decide_eq_false hv, Bool.not_false, cond_true, if_neg (fun h => hv h.1)]

theorem impl_ShowEnum {e : List (ByteArray × Int)} (h : DefsIn e) {n : Int} (hn : I64 n) : m_impl_ShowEnum e n = some (showEnumC e n) := by
  have hr := valued_range e n
  rw [m_impl_ShowEnum, impl_ValidEnum h, bd_some, showEnumC]
  by_cases hv : EnumOk e
  · rw [decide_eq_true hv, Bool.not_true, cond_false, impl_in, bd_some]
    by_cases hb : -1000 ≤ n ∧ n ≤ 1000
    · rw [decide_eq_true hb, Bool.not_true, cond_false, if_pos (show EnumOk e ∧ -1000 ≤ n ∧ n ≤ 1000 from ⟨hv, hb⟩), impl_NameOf h, bd_some]
      by_cases h0 : valued e n < 0
      · rw [if_neg (by omega), if_pos h0]
        simp only [cond_false]
        rw [itoa_eq hn, bd_some]
      · rw [if_pos ⟨hv, by omega⟩, if_neg h0]
        rfl
    · rw [decide_eq_false hb, Bool.not_false, cond_true, if_neg (fun h => hb h.2)]
  · rw [decide_eq_false hv, Bool.not_false, cond_true, if_neg (fun h => hv h.1)]

theorem spec_ShowEnum {e : List (ByteArray × Int)} (h : DefsIn e) {n : Int} (hn : I64 n) : m_spec_ShowEnum e n = some (showEnumC e n) := by
  have hr := valued_range e n
  rw [m_spec_ShowEnum, spec_validEnum h, bd_some, showEnumC]
  by_cases hv : EnumOk e
  · rw [decide_eq_true hv, Bool.not_true, cond_false, spec_inRange, bd_some]
    by_cases hb : -1000 ≤ n ∧ n ≤ 1000
    · rw [decide_eq_true hb, Bool.not_true, cond_false, spec_valueAt _ _ h.1, bd_some, if_pos ⟨hv, hb⟩]
      by_cases h0 : valued e n < 0
      · have hs := spec_signed (n := n) ⟨by omega, by omega⟩
        rw [m_spec_signedText] at hs
        rw [cond_neg (by omega), if_pos h0]
        exact hs
      · rw [cond_pos (by omega), gd_pos (by omega), if_neg h0]
    · rw [decide_eq_false hb, Bool.not_false, cond_true, if_neg (fun h => hb h.2)]
  · rw [decide_eq_false hv, Bool.not_false, cond_true, if_neg (fun h => hv h.1)]

theorem law_FnExactShowEnum (p1 : List (ByteArray × Int)) (p2 : Int) (h1 : ∀ d ∈ p1, d.1.size ≤ 9223372036854775807 ∧ In64 d.2) (hl : p1.length ≤ 9223372036854775807) (h2 : In64 p2) : m_laws_FnExactShowEnum p1 p2 = some true := by
  obtain ⟨r, er, hr⟩ := laws_szEnum (q := 1048576) ⟨by omega, by omega⟩ hl h1
  rw [m_laws_FnExactShowEnum, er, bd_some]
  by_cases h : r < 0
  · rw [cond_pos h]
  · obtain ⟨_, hlen, hd⟩ := hr h
    rw [cond_neg h, laws_toEnum (by omega), bd_some, spec_ShowEnum hd h2, bd_some, bd_some, impl_ShowEnum hd h2, bd_some, decide_eq_true rfl, Bool.not_true, cond_false, bd_some, laws_eqEnum_self (by omega), bd_some]
    rfl

end Go.Eng
