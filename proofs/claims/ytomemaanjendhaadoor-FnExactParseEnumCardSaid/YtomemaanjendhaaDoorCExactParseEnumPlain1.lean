/- What is proved: plain laws of the models, up to the law itself. Conditions: sizes and ranges of what is handed over, as each says. -/
import Derived.Test.YtomemaanjendhaaDoorCExactParseEnumModels
set_option linter.unusedVariables false
set_option linter.unusedSimpArgs false
namespace Go.Eng
open Go

theorem w64 {a : Int} (h1 : -9223372036854775808 ≤ a) (h2 : a ≤ 9223372036854775807) : IntKind.wrap .i64 a = a := by
  rw [IntKind.wrap_i64]; omega

def I64 (a : Int) : Prop := -9223372036854775808 ≤ a ∧ a ≤ 9223372036854775807

theorem I64_wrap (a : Int) : I64 (IntKind.wrap .i64 a) := by
  unfold I64; rw [IntKind.wrap_i64]; omega

theorem w64s {i : Nat} (h : i < 4611686018427387904) : IntKind.wrap .i64 ((i : Int) + 1) = ((i + 1 : Nat) : Int) := by
  rw [w64 (by omega) (by omega)]; omega

theorem gd_pos {α : Type} {p : Prop} [Decidable p] (h : p) (x : Option α) : gd p x = x := by unfold gd; rw [if_pos h]

theorem bd_some {α β : Type} (a : α) (f : α → Option β) : bd (some a) f = f a := rfl

theorem nm_eq {α β : Type} (a : α) (f : α → Option β) : nm a f = f a := rfl

theorem sm_inl {α β γ : Type} (a : α) (f : α → γ) (g : β → γ) : sm (.inl a) f g = f a := rfl

theorem sm_inr {α β γ : Type} (b : β) (f : α → γ) (g : β → γ) : sm (.inr b) f g = g b := rfl

/-- it has an answer, and of this it holds -/
def Wp {α : Type} (x : Option α) (Q : α → Prop) : Prop := ∃ r, x = some r ∧ Q r

theorem Wp_some {α : Type} {a : α} {Q : α → Prop} : Wp (some a) Q ↔ Q a := ⟨fun ⟨r, h, q⟩ => by cases h; exact q, fun h => ⟨a, rfl, h⟩⟩

theorem Wp_eq {α : Type} {x : Option α} {r : α} : Wp x (fun a => a = r) ↔ x = some r := ⟨fun ⟨a, h, e⟩ => by rw [h, e], fun h => ⟨r, h, rfl⟩⟩

theorem Wp.eq {α : Type} {x : Option α} {r : α} (h : Wp x (fun a => a = r)) : x = some r := Wp_eq.1 h

/-- a loop by invariant and measure -/
theorem loopW {σ ρ : Type} (L : Nat → σ → Option ρ) (I : σ → Prop) (μ : σ → Nat) (Q : ρ → Prop)
    (hs : ∀ n s, I s → (∀ s', I s' → μ s' < μ s → Wp (L n s') Q) → Wp (L (n + 1) s) Q) : ∀ n s, I s → μ s < n → Wp (L n s) Q
  | 0, s, _, h => absurd h (Nat.not_lt_zero _)
  | n + 1, s, hi, h => hs n s hi fun s' hi' hm => loopW L I μ Q hs n s' hi' (by omega)

/-- a loop over a list -/
theorem listW {α σ ρ : Type} [Inhabited α] (l : List α) (L : Nat → Int → σ → Option ρ) (I : Nat → σ → Prop) (Q : ρ → Prop)
    (h0 : ∀ n s, I l.length s → Wp (L (n + 1) (l.length : Int) s) Q)
    (hs : ∀ n i s d, i < l.length → gt l (i : Int) = d → l.drop i = d :: l.drop (i + 1) → d ∈ l → I i s → (∀ s', I (i + 1) s' → Wp (L n ((i + 1 : Nat) : Int) s') Q) → Wp (L (n + 1) (i : Int) s) Q)
    (N : Nat) (hl : l.length < N) (s : σ) (h : I 0 s) : Wp (L N 0 s) Q := by
  have key : ∀ (k i n : Nat) (s : σ), i + k = l.length → k < n → I i s → Wp (L n (i : Int) s) Q := by
    intro k
    induction k with
    | zero =>
      intro i n s hk hn hi
      cases n with
      | zero => omega
      | succ n =>
        have e : i = l.length := by omega
        subst e
        exact h0 n s hi
    | succ k ih =>
      intro i n s hk hn hi
      cases n with
      | zero => omega
      | succ n =>
        have hlt : i < l.length := by omega
        have e1 : gt l (i : Int) = l[i] := by
          unfold gt
          rw [Int.toNat_natCast, List.getD_eq_getElem?_getD, List.getElem?_eq_getElem hlt, Option.getD_some]
        have e2 : l.drop i = l[i] :: l.drop (i + 1) := List.drop_eq_getElem_cons hlt
        exact hs n i s l[i] hlt e1 e2 (List.getElem_mem hlt) hi fun s' hs' => ih (i + 1) n s' (by omega) (by omega) hs'
  exact key l.length 0 N s (by omega) hl h

theorem gt_nat {α : Type} [Inhabited α] {l : List α} {i : Nat} (h : i < l.length) : gt l (i : Int) = l[i] := by
  unfold gt
  rw [Int.toNat_natCast, List.getD_eq_getElem?_getD, List.getElem?_eq_getElem h, Option.getD_some]

theorem gt_mem {α : Type} [Inhabited α] {l : List α} {q : Int} (h : 0 ≤ q ∧ q < (l.length : Int)) : gt l q ∈ l := by
  obtain ⟨i, rfl⟩ := Int.eq_ofNat_of_zero_le h.1
  have hi : i < l.length := by omega
  have e : gt l (i : Int) = l[i] := gt_nat hi
  rw [e]; exact List.getElem_mem hi

theorem sub_zero {α : Type} (l : List α) (i : Nat) : sub l 0 (i : Int) = l.take i := by simp [sub]

/-- the place of the first element of a kind, -1 if there is none -/
def ix {α : Type} (p : α → Bool) (l : List α) : Int := match l.findIdx? p with | some i => (i : Int) | none => -1

theorem ix_cases {α : Type} [Inhabited α] (p : α → Bool) (l : List α) :
    (ix p l = -1 ∧ l.find? p = none ∧ ∀ d ∈ l, p d = false) ∨
    ∃ (i : Nat) (d : α), ix p l = i ∧ i < l.length ∧ gt l (i : Int) = d ∧ l.find? p = some d ∧ d ∈ l ∧ p d = true := by
  unfold ix
  cases h : l.findIdx? p with
  | none =>
    left
    rw [List.findIdx?_eq_none_iff] at h
    exact ⟨rfl, List.find?_eq_none.2 (fun d hd => by simp [h d hd]), h⟩
  | some i =>
    right
    rw [List.findIdx?_eq_some_iff_getElem] at h
    obtain ⟨hi, h1, h2⟩ := h
    refine ⟨i, l[i], rfl, hi, gt_nat hi, ?_, List.getElem_mem hi, h1⟩
    rw [List.find?_eq_some_iff_getElem]
    exact ⟨h1, i, hi, rfl, fun j hj => by simpa using h2 j hj⟩

theorem bv64 (a : Nat) (ha : a < 9223372036854775808) : (BitVec.ofInt 64 (a : Int)).toNat = a := by
  rw [BitVec.ofInt_natCast, BitVec.toNat_ofNat]; exact Nat.mod_eq_of_lt (by omega)

theorem xor64 {a b : Nat} (ha : a < 9223372036854775808) (hb : b < 9223372036854775808) : Go.bits .xor .i64 (a : Int) (b : Int) = ((a ^^^ b : Nat) : Int) := by
  have hx : a ^^^ b < 2 ^ 63 := Nat.xor_lt_two_pow (by omega) (by omega)
  show IntKind.i64.wrap ((BitVec.ofInt 64 (a : Int) ^^^ BitVec.ofInt 64 (b : Int)).toNat : Int) = _
  rw [BitVec.toNat_xor, bv64 a ha, bv64 b hb, w64 (by omega) (by omega)]

/-- the bits of `a` that `b` does not have -/
def nless (a b : Nat) : Nat := a - (a &&& b)

theorem cond_pos {α : Type} {p : Prop} [Decidable p] (h : p) (x y : α) : (bif decide p then x else y) = x := by rw [decide_eq_true h]; rfl

theorem cond_neg {α : Type} {p : Prop} [Decidable p] (h : ¬ p) (x y : α) : (bif decide p then x else y) = y := by rw [decide_eq_false h]; rfl

theorem cond_if {α : Type} {p : Prop} [Decidable p] (x y : α) : (bif decide p then x else y) = if p then x else y := by
  by_cases h : p <;> simp [h]

/-- a search -/
theorem findI {α : Type} [Inhabited α] (l : List α) (L : Nat → Int → Option (Int ⊕ Unit)) (p : α → Bool)
    (hend : ∀ n, L (n + 1) (l.length : Int) = some (.inr ()))
    (hstep : ∀ n i, i < l.length → L (n + 1) (i : Int) = if p (gt l (i : Int)) then some (.inl (i : Int)) else L n ((i + 1 : Nat) : Int))
    (N : Nat) (hl : l.length < N) : L N 0 = some (match l.findIdx? p with | some i => .inl (i : Int) | none => .inr ()) := by
  refine (listW l (fun n i (_ : Unit) => L n i) (fun i _ => ∀ d ∈ l.take i, p d = false)
    (fun r => r = (match l.findIdx? p with | some i => .inl (i : Int) | none => .inr ())) ?_ ?_ N hl () (by simp)).eq
  · intro n _ hI
    rw [List.take_length] at hI
    rw [hend]
    refine Wp_some.2 ?_
    rw [List.findIdx?_eq_none_iff.2 hI]
  · intro n i _ d hi hg hd hm hI ih
    rw [hstep n i hi, hg]
    by_cases h : p d = true
    · rw [if_pos h]
      refine Wp_some.2 ?_
      have : l.findIdx? p = some i := by
        rw [List.findIdx?_eq_some_iff_getElem]
        refine ⟨hi, by rw [← gt_nat hi, hg]; exact h, fun j hj => ?_⟩
        simpa using hI l[j] (List.mem_take_iff_getElem.2 ⟨j, by omega, rfl⟩)
      rw [this]
    · rw [if_neg h]
      refine ih () ?_
      intro e he
      rw [List.take_succ_eq_append_getElem hi, List.mem_append] at he
      rcases he with he | he
      · exact hI e he
      · rw [← gt_nat hi, hg] at he
        simp at he; subst he; simpa using h

/-- a check of all, by place: what comes out where one is of the kind, and where none is -/
theorem anyI {α ρ : Type} [Inhabited α] (l : List α) (L : Nat → Int → Option ρ) (P : Nat → Prop) (x y : ρ)
    (hend : ∀ n, L (n + 1) (l.length : Int) = some y)
    (hstep : ∀ n i, i < l.length → (P i ∧ L (n + 1) (i : Int) = some x) ∨ (¬ P i ∧ L (n + 1) (i : Int) = L n ((i + 1 : Nat) : Int)))
    (N : Nat) (hl : l.length < N) : ((∃ i, i < l.length ∧ P i) ∧ L N 0 = some x) ∨ ((∀ i, i < l.length → ¬ P i) ∧ L N 0 = some y) := by
  have h := listW l (fun n i (_ : Unit) => L n i) (fun i _ => ∀ j, j < i → ¬ P j)
    (fun r => ((∃ i, i < l.length ∧ P i) ∧ r = x) ∨ ((∀ i, i < l.length → ¬ P i) ∧ r = y)) ?_ ?_ N hl () (by intro j hj; omega)
  · obtain ⟨r, e, h⟩ := h
    have e : L N 0 = some r := e
    rw [e]
    rcases h with ⟨h1, rfl⟩ | ⟨h1, rfl⟩
    · exact .inl ⟨h1, rfl⟩
    · exact .inr ⟨h1, rfl⟩
  · intro n _ hI
    rw [hend]
    exact Wp_some.2 (.inr ⟨hI, rfl⟩)
  · intro n i _ d hi hg hd hm hI ih
    rcases hstep n i hi with ⟨h1, h2⟩ | ⟨h1, h2⟩
    · rw [h2]; exact Wp_some.2 (.inl ⟨⟨i, hi, h1⟩, rfl⟩)
    · rw [h2]
      refine ih () fun j hj => ?_
      by_cases e : j = i
      · subst e; exact h1
      · exact hI j (by omega)

/-- a fold -/
theorem foldW {α σ : Type} [Inhabited α] (l : List α) (L : Nat → σ → Int → Option σ) (g : σ → α → σ) (I : Nat → σ → Prop)
    (hend : ∀ n s, L (n + 1) s (l.length : Int) = some s)
    (hstep : ∀ n i s, i < l.length → gt l (i : Int) ∈ l → I i s → I (i + 1) (g s (gt l (i : Int))) ∧ L (n + 1) s (i : Int) = L n (g s (gt l (i : Int))) ((i + 1 : Nat) : Int))
    (N : Nat) (hl : l.length < N) (s : σ) (h0 : I 0 s) : L N s 0 = some (l.foldl g s) ∧ I l.length (l.foldl g s) := by
  have h := listW l (fun n i s => L n s i) (fun i t => I i t ∧ (l.drop i).foldl g t = l.foldl g s)
    (fun r => r = l.foldl g s ∧ I l.length r) ?_ ?_ N hl s ⟨h0, by simp⟩
  · obtain ⟨r, e, rfl, h2⟩ := h
    exact ⟨e, h2⟩
  · intro n t hI
    rw [hend]
    refine Wp_some.2 ?_
    have := hI.2
    rw [List.drop_length] at this
    exact ⟨this, hI.1⟩
  · intro n i t d hi hg hd hm hI ih
    have hs := hstep n i t hi (by rw [hg]; exact hm) hI.1
    rw [hg] at hs
    rw [hs.2]
    refine ih _ ⟨hs.1, ?_⟩
    have := hI.2
    rw [hd, List.foldl_cons] at this
    exact this

/-- a fold that may stop -/
theorem foldE {α β σ : Type} [Inhabited α] (l : List α) (L : Nat → σ → Int → Option (β ⊕ σ)) (bad : α → Bool) (b : β) (g : σ → α → σ) (I : Nat → σ → Prop)
    (hend : ∀ n s, I l.length s → L (n + 1) s (l.length : Int) = some (.inr s))
    (hstep : ∀ n i s, i < l.length → gt l (i : Int) ∈ l → I i s → (bad (gt l (i : Int)) = true ∧ L (n + 1) s (i : Int) = some (.inl b)) ∨
      (bad (gt l (i : Int)) = false ∧ I (i + 1) (g s (gt l (i : Int))) ∧ L (n + 1) s (i : Int) = L n (g s (gt l (i : Int))) ((i + 1 : Nat) : Int)))
    (N : Nat) (hl : l.length < N) (s : σ) (h0 : I 0 s) : (l.any bad = true ∧ L N s 0 = some (.inl b)) ∨ (l.any bad = false ∧ I l.length (l.foldl g s) ∧ L N s 0 = some (.inr (l.foldl g s))) := by
  have h := listW l (fun n i s => L n s i) (fun i t => I i t ∧ (l.drop i).foldl g t = l.foldl g s ∧ l.any bad = (l.drop i).any bad)
    (fun r => (l.any bad = true ∧ r = .inl b) ∨ (l.any bad = false ∧ I l.length (l.foldl g s) ∧ r = .inr (l.foldl g s))) ?_ ?_ N hl s ⟨h0, by simp, by simp⟩
  · obtain ⟨r, e, h⟩ := h
    have e : L N s 0 = some r := e
    rw [e]
    rcases h with ⟨h1, rfl⟩ | ⟨h1, h2, rfl⟩
    · exact .inl ⟨h1, rfl⟩
    · exact .inr ⟨h1, h2, rfl⟩
  · intro n t hI
    rw [hend n t hI.1]
    refine Wp_some.2 (.inr ?_)
    have h2 := hI.2.1
    have h3 := hI.2.2
    rw [List.drop_length] at h2 h3
    simp only [List.foldl_nil] at h2
    rw [← h2]
    exact ⟨h3, hI.1, rfl⟩
  · intro n i t d hi hg hd hm hI ih
    have hs := hstep n i t hi (by rw [hg]; exact hm) hI.1
    rw [hg] at hs
    have h2 := hI.2.1
    have h3 := hI.2.2
    rw [hd, List.foldl_cons] at h2
    rw [hd, List.any_cons] at h3
    rcases hs with ⟨hb, e⟩ | ⟨hb, hi', e⟩
    · rw [e]
      exact Wp_some.2 (.inl ⟨by rw [h3, hb]; rfl, rfl⟩)
    · rw [e]
      exact ih _ ⟨hi', h2, by rw [h3, hb, Bool.false_or]⟩

/-- a comparison of two lists -/
theorem eqW {α : Type} [Inhabited α] [DecidableEq α] (a b : List α) (L : Nat → Int → Option (Unit ⊕ Unit)) (hlen : a.length = b.length)
    (hend : ∀ n, L (n + 1) (a.length : Int) = some (.inr ()))
    (hstep : ∀ n i, i < a.length → L (n + 1) (i : Int) = if gt a (i : Int) = gt b (i : Int) then L n ((i + 1 : Nat) : Int) else some (.inl ()))
    (N : Nat) (hl : a.length < N) : L N 0 = some (if a = b then .inr () else .inl ()) := by
  have h := anyI a L (fun i => ¬ gt a (i : Int) = gt b (i : Int)) (.inl ()) (.inr ()) hend (fun n i hi => ?_) N hl
  · rcases h with ⟨⟨i, h1, h2⟩, e⟩ | ⟨h1, e⟩
    · rw [e, if_neg (fun e => h2 (by rw [e]))]
    · rw [e, if_pos]
      refine List.ext_getElem hlen fun i h2 h3 => ?_
      have := Decidable.not_not.1 (h1 i h2)
      rwa [gt_nat h2, gt_nat h3] at this
  · rw [hstep n i hi]
    by_cases h : gt a (i : Int) = gt b (i : Int)
    · rw [if_pos h]; exact .inr ⟨fun h' => h' h, rfl⟩
    · rw [if_neg h]; exact .inl ⟨h, rfl⟩

/-- a check of all numbers below one -/
theorem anyN {ρ : Type} (m : Nat) (L : Nat → Int → Option ρ) (P : Nat → Prop) (x y : ρ)
    (hend : ∀ n, L (n + 1) (m : Int) = some y)
    (hstep : ∀ n i, i < m → (P i ∧ L (n + 1) (i : Int) = some x) ∨ (¬ P i ∧ L (n + 1) (i : Int) = L n ((i + 1 : Nat) : Int)))
    (N : Nat) (hl : m < N) : ((∃ i, i < m ∧ P i) ∧ L N 0 = some x) ∨ ((∀ i, i < m → ¬ P i) ∧ L N 0 = some y) := by
  have h := anyI (List.range m) L P x y (by simpa using hend) (by simpa using hstep) N (by simpa using hl)
  simpa using h

/-- a check where none is of the kind -/
theorem noneN {ρ : Type} (m : Nat) (L : Nat → Int → Option ρ) (y : ρ)
    (hend : ∀ n, L (n + 1) (m : Int) = some y)
    (hstep : ∀ n i, i < m → L (n + 1) (i : Int) = L n ((i + 1 : Nat) : Int))
    (N : Nat) (hl : m < N) : L N 0 = some y := by
  rcases anyN m L (fun _ => False) y y hend (fun n i hi => .inr ⟨id, hstep n i hi⟩) N hl with ⟨_, h⟩ | ⟨_, h⟩ <;> exact h

theorem FU_eq : FU = 4611686018427387904 := rfl

def named (l : List (ByteArray × Int)) (s : ByteArray) : Int := ix (fun d => decide (d.1 = s)) l

theorem spec_indexOf (l : List (ByteArray × Int)) (s : ByteArray) (hl : l.length ≤ 1099511627776) : m_spec_indexOf l s = some (named l s) := by
  rw [m_spec_indexOf, findI l (m_spec_indexOf_L1 l s) (fun d => decide (d.1 = s)) ?_ ?_ FU (by rw [FU_eq]; omega), bd_some, named, ix]
  · cases l.findIdx? (fun d => decide (d.1 = s)) <;> rfl
  · intro n; rw [m_spec_indexOf_L1, cond_neg (by omega)]
  · intro n i hi
    rw [m_spec_indexOf_L1, cond_pos (by omega), gd_pos (by omega), w64s (by omega), cond_if]
    simp

theorem impl_named (l : List (ByteArray × Int)) (s : ByteArray) (hl : l.length ≤ 1099511627776) : m_impl_named l s = some (named l s) := by
  rw [m_impl_named, m_slices_IndexFunc_si_named_1_l, findI l (m_slices_IndexFunc_si_named_1_l_L1 l s) (fun d => decide (d.1 = s)) ?_ ?_ FU (by rw [FU_eq]; omega), bd_some, named, ix]
  · cases l.findIdx? (fun d => decide (d.1 = s)) <;> rfl
  · intro n; rw [m_slices_IndexFunc_si_named_1_l_L1, cond_neg (by omega)]
  · intro n i hi
    rw [m_slices_IndexFunc_si_named_1_l_L1, cond_pos (by omega), gd_pos (by omega), w64s (by omega), m_impl_named_1_l, bd_some, cond_if]
    simp

/-- 1 to 6 letters from a to z -/
def NameOk (s : ByteArray) : Prop := (∀ i, i < s.size → 97 ≤ byteAt s i ∧ byteAt s i ≤ 122) ∧ 1 ≤ s.size ∧ s.size ≤ 6

instance (s : ByteArray) : Decidable (NameOk s) := inferInstanceAs (Decidable (_ ∧ _))

theorem spec_inRange (a b c : Int) : m_spec_inRange a b c = some (decide (b ≤ a ∧ a ≤ c)) := by
  rw [m_spec_inRange, cond_if]
  by_cases h1 : b ≤ a <;> by_cases h2 : a ≤ c <;> simp [h1, h2]

theorem validName_loop (s : ByteArray) (hs : s.size ≤ 1099511627776) : Wp (m_spec_validName_L1 s FU 0) (fun r => (r = .inl () ∧ ∃ i, i < s.size ∧ ¬ (97 ≤ byteAt s i ∧ byteAt s i ≤ 122)) ∨ (r = .inr () ∧ ∀ i, i < s.size → 97 ≤ byteAt s i ∧ byteAt s i ≤ 122)) := by
  refine loopW (m_spec_validName_L1 s) (fun v => ∃ i : Nat, v = i ∧ i ≤ s.size ∧ ∀ j, j < i → 97 ≤ byteAt s j ∧ byteAt s j ≤ 122) (fun v => s.size - v.toNat) _ ?_ FU 0 ⟨0, rfl, by omega, by intro j hj; omega⟩ (by rw [FU_eq]; omega)
  rintro n _ ⟨i, rfl, hi, hI⟩ ih
  rw [m_spec_validName_L1]
  by_cases h : i < s.size
  · rw [cond_pos (by omega), gd_pos (by omega), w64s (by omega), Int.toNat_natCast]
    by_cases h1 : byteAt s i < 97
    · rw [cond_pos h1]; exact Wp_some.2 (.inl ⟨rfl, i, h, by omega⟩)
    · rw [cond_neg h1]
      by_cases h2 : 122 < byteAt s i
      · rw [cond_pos h2]; exact Wp_some.2 (.inl ⟨rfl, i, h, by omega⟩)
      · rw [cond_neg h2]
        refine ih _ ⟨i + 1, rfl, h, fun j hj => ?_⟩ (by omega)
        by_cases e : j = i
        · subst e; omega
        · exact hI j (by omega)
  · rw [cond_neg (by omega)]
    exact Wp_some.2 (.inr ⟨rfl, fun j hj => hI j (by omega)⟩)

theorem spec_validName {s : ByteArray} (hs : s.size ≤ 1099511627776) : m_spec_validName s = some (decide (NameOk s)) := by
  obtain ⟨r, e, h⟩ := validName_loop s hs
  rw [m_spec_validName, e, bd_some]
  rcases h with ⟨rfl, i, hi, h⟩ | ⟨rfl, h⟩
  · have : ¬ NameOk s := fun hn => h (hn.1 i hi)
    rw [decide_eq_false this]; rfl
  · rw [sm_inr, spec_inRange, bd_some]
    have : NameOk s ↔ ((1 : Int) ≤ (s.size : Int) ∧ (s.size : Int) ≤ 6) := ⟨fun hn => by have := hn.2; omega, fun hh => ⟨h, by omega⟩⟩
    rw [decide_eq_decide.2 this]

theorem validName_L1_eq (p : ByteArray) : ∀ (n : Nat) (v : Int), m_impl_ValidName_L1 p n v = m_spec_validName_L1 p n v
  | 0, v => rfl
  | n + 1, v => by rw [m_impl_ValidName_L1, m_spec_validName_L1, validName_L1_eq p n]

theorem impl_ValidName {s : ByteArray} (hs : s.size ≤ 1099511627776) : m_impl_ValidName s = some (decide (NameOk s)) := by
  rw [← spec_validName hs, m_impl_ValidName, m_spec_validName, validName_L1_eq]; rfl

/-- names and lists that can be read -/
def DefsIn (l : List (ByteArray × Int)) : Prop := l.length ≤ 1099511627776 ∧ (∀ d ∈ l, d.1.size ≤ 1099511627776) ∧ ∀ d ∈ l, I64 d.2

def DefsOk (l : List (ByteArray × Int)) (lo hi : Int) : Prop := (∀ i, i < l.length → NameOk (gt l (i : Int)).1 ∧ (lo ≤ (gt l (i : Int)).2 ∧ (gt l (i : Int)).2 ≤ hi) ∧ ¬ 0 ≤ named (l.take i) (gt l (i : Int)).1) ∧ l.length ≤ 12

instance (l : List (ByteArray × Int)) (lo hi : Int) : Decidable (DefsOk l lo hi) := inferInstanceAs (Decidable (_ ∧ _))

theorem spec_validDefs {l : List (ByteArray × Int)} (h : DefsIn l) (lo hi : Int) : m_spec_validDefs l lo hi = some (decide (DefsOk l lo hi)) := by
  obtain ⟨hl, hs, -⟩ := h
  have h := anyI l (m_spec_validDefs_L1 l lo hi) (fun i => ¬ (NameOk (gt l (i : Int)).1 ∧ (lo ≤ (gt l (i : Int)).2 ∧ (gt l (i : Int)).2 ≤ hi) ∧ ¬ 0 ≤ named (l.take i) (gt l (i : Int)).1)) (.inl ()) (.inr ()) ?_ ?_ FU (by rw [FU_eq]; omega)
  · rw [m_spec_validDefs]
    rcases h with ⟨⟨i, h1, h2⟩, e⟩ | ⟨h1, e⟩
    · rw [e, bd_some, sm_inl]
      have : ¬ DefsOk l lo hi := fun h => h2 (h.1 i h1)
      rw [decide_eq_false this]
    · rw [e, bd_some, sm_inr]
      have : DefsOk l lo hi ↔ (l.length : Int) ≤ 12 := ⟨fun h => by have := h.2; omega, fun h => ⟨fun i hi => Decidable.not_not.1 (h1 i hi), by omega⟩⟩
      rw [decide_eq_decide.2 this]
  · intro n; rw [m_spec_validDefs_L1, cond_neg (by omega)]
  · intro n i hi'
    have hm : gt l (i : Int) ∈ l := gt_mem (by omega)
    rw [m_spec_validDefs_L1, cond_pos (by omega), gd_pos (by omega), spec_validName (hs _ hm), bd_some, spec_inRange, bd_some, gd_pos (by omega), sub_zero, spec_indexOf _ _ (by rw [List.length_take]; omega), bd_some, w64s (by omega)]
    by_cases h1 : NameOk (gt l (i : Int)).1 <;> simp only [h1, decide_true, decide_false, Bool.not_true, Bool.not_false, cond_true, cond_false, true_and, false_and, not_false_eq_true, not_true_eq_false, or_false, and_self]
    by_cases h2 : lo ≤ (gt l (i : Int)).2 ∧ (gt l (i : Int)).2 ≤ hi <;> simp only [h2, decide_true, decide_false, Bool.not_true, Bool.not_false, cond_true, cond_false, true_and, false_and, not_false_eq_true, not_true_eq_false, or_false, and_self]
    by_cases h3 : 0 ≤ named (l.take i) (gt l (i : Int)).1 <;> simp only [h3, decide_true, decide_false, Bool.not_true, Bool.not_false, cond_true, cond_false, true_and, false_and, not_false_eq_true, not_true_eq_false, or_false, and_self, false_or]

theorem impl_defsValid {l : List (ByteArray × Int)} (h : DefsIn l) (lo hi : Int) : m_impl_defsValid l lo hi = some (decide (DefsOk l lo hi)) := by
  have e : ∀ (n : Nat) (i : Nat), i ≤ l.length → m_impl_defsValid_L1 l lo hi n (i : Int) = m_spec_validDefs_L1 l lo hi n (i : Int) := by
    intro n
    induction n with
    | zero => intro i _; rfl
    | succ n ih =>
      intro i hi'
      rw [m_impl_defsValid_L1, m_spec_validDefs_L1]
      by_cases hlt : i < l.length
      · have hm : gt l (i : Int) ∈ l := gt_mem (by omega)
        have hl := h.1
        rw [cond_pos (by omega), cond_pos (by omega), w64s (by omega), ih (i + 1) hlt, impl_ValidName (h.2.1 _ hm), spec_validName (h.2.1 _ hm), sub_zero,
          impl_named _ _ (by rw [List.length_take]; omega), spec_indexOf _ _ (by rw [List.length_take]; omega)]
        rfl
      · rw [cond_neg (by omega), cond_neg (by omega)]
  rw [← spec_validDefs h, m_impl_defsValid, m_spec_validDefs, show (0 : Int) = ((0 : Nat) : Int) from rfl, e FU 0 (by omega)]

def FlagOk (l : List (ByteArray × Int)) (b : Int) : Prop := DefsOk l 0 4095 ∧ 0 ≤ b ∧ b ≤ 3

instance (l : List (ByteArray × Int)) (b : Int) : Decidable (FlagOk l b) := inferInstanceAs (Decidable (_ ∧ _))

def EnumOk (l : List (ByteArray × Int)) : Prop := DefsOk l (-1000) 1000

instance (l : List (ByteArray × Int)) : Decidable (EnumOk l) := inferInstanceAs (Decidable (DefsOk _ _ _))

theorem spec_validEnum {l : List (ByteArray × Int)} (h : DefsIn l) : m_spec_validEnum l = some (decide (EnumOk l)) := by
  rw [m_spec_validEnum, spec_validDefs h, bd_some]; rfl

theorem impl_ValidEnum {l : List (ByteArray × Int)} (h : DefsIn l) : m_impl_ValidEnum l = some (decide (EnumOk l)) := by
  rw [m_impl_ValidEnum, impl_defsValid h, bd_some]; rfl

/-- what a list of definitions that is right tells -/
theorem DefsOk.out {l : List (ByteArray × Int)} {lo hi : Int} (h : DefsOk l lo hi) : (∀ d ∈ l, NameOk d.1 ∧ lo ≤ d.2 ∧ d.2 ≤ hi) ∧ (l.map (·.1)).Nodup ∧ l.length ≤ 12 := by
  refine ⟨fun d hd => ?_, ?_, h.2⟩
  · obtain ⟨i, hi', rfl⟩ := List.mem_iff_getElem.1 hd
    have := h.1 i hi'
    rw [gt_nat hi'] at this
    exact ⟨this.1, this.2.1⟩
  · rw [List.Nodup, List.pairwise_iff_getElem]
    intro i j hi' hj hij e
    simp only [List.length_map] at hi' hj
    have := (h.1 j hj).2.2
    rw [gt_nat hj] at this
    apply this
    simp only [List.getElem_map] at e
    unfold named
    rcases ix_cases (fun d => decide (d.1 = l[j].1)) (l.take j) with ⟨_, _, h3⟩ | ⟨k, d, h1, _⟩
    · have := h3 l[i] (List.mem_take_iff_getElem.2 ⟨i, by omega, rfl⟩)
      simp [e] at this
    · rw [h1]; omega

theorem tdiv_nat (a p : Nat) : Int.tdiv (a : Int) (p : Int) = ((a / p : Nat) : Int) := by simp [Int.ofNat_tdiv]

theorem FlagOk.len {l : List (ByteArray × Int)} {b : Int} (h : FlagOk l b) : l.length ≤ 12 := h.1.2

def parts (m : Nat) : List Int := ((List.range (m + 1)).filter (fun n => decide (nless n m = 0))).map Int.ofNat

def Bytes (l : List Int) : Prop := ∀ n ∈ l, 0 ≤ n ∧ n < 256

theorem tmod_range {a b : Int} (ha : 0 ≤ a) (hb : 0 < b) : 0 ≤ Int.tmod a b ∧ Int.tmod a b < b := by
  rw [Int.tmod_eq_emod_of_nonneg ha]
  exact ⟨Int.emod_nonneg _ (by omega), Int.emod_lt_of_pos _ hb⟩

theorem tdiv_range {a b : Int} (ha : 0 ≤ a) (hb : 0 < b) : 0 ≤ Int.tdiv a b ∧ Int.tdiv a b ≤ a := by
  rw [Int.tdiv_eq_ediv_of_nonneg ha]
  exact ⟨Int.ediv_nonneg ha (by omega), Int.ediv_le_self _ ha⟩

theorem pick {n : Int} {code : List Int} {p : Int} (hc : Bytes code) (hl : code.length ≤ 9223372036854775807) (hp : 0 ≤ p ∧ p < 1000000) :
    ∃ x, m_spec_reader_pick n code p = some x ∧ 0 ≤ x ∧ (1 ≤ n → x < n) := by
  unfold m_spec_reader_pick
  by_cases h1 : n < 1
  · exact ⟨0, by rw [decide_eq_true h1, cond_true], by omega, fun h => by omega⟩
  rw [decide_eq_false h1, cond_false]
  by_cases h2 : (code.length : Int) = 0
  · exact ⟨0, by rw [decide_eq_true h2, cond_true], by omega, fun h => by omega⟩
  rw [decide_eq_false h2, cond_false]
  have e1 : IntKind.wrap .i64 (IntKind.wrap .i64 (p + 1) - 1) = p := by
    rw [w64 (a := p + 1) (by omega) (by omega), w64 (by omega) (by omega)]; omega
  have hL : 0 < (code.length : Int) := by omega
  simp only [e1, nm_eq]
  by_cases h3 : p < (code.length : Int)
  · have hb := hc _ (gt_mem ⟨hp.1, h3⟩)
    rw [decide_eq_true h3, cond_true, gd_pos ⟨hp.1, h3⟩, gd_pos (by omega), w64 (by omega) (by omega)]
    have := tmod_range (a := gt code p) (b := n) hb.1 (by omega)
    exact ⟨_, rfl, this.1, fun _ => this.2⟩
  rw [decide_eq_false h3, cond_false, gd_pos (by omega)]
  have t1 := tmod_range hp.1 hL
  rw [gd_pos t1, w64 (a := p * 7) (by omega) (by omega), w64 (a := p * 7 + 3) (by omega) (by omega)]
  have t2 := tmod_range (a := p * 7 + 3) (by omega) hL
  rw [gd_pos t2]
  have b1 := hc _ (gt_mem t1)
  have b2 := hc _ (gt_mem t2)
  generalize gt code (Int.tmod p (code.length : Int)) = u at *
  generalize gt code (Int.tmod (p * 7 + 3) (code.length : Int)) = v at *
  have t3 := tdiv_range hp.1 hL
  generalize Int.tdiv p (code.length : Int) = q at *
  rw [gd_pos ⟨by omega, w64 (by omega) (by omega)⟩]
  rw [w64 (a := u) (by omega) (by omega), w64 (a := u * 131) (by omega) (by omega), w64 (a := v) (by omega) (by omega), w64 (a := v * 1117) (by omega) (by omega), w64 (a := u * 131 + v * 1117) (by omega) (by omega),
    w64 (a := p * 29) (by omega) (by omega), w64 (a := u * 131 + v * 1117 + p * 29) (by omega) (by omega), w64 (a := q * 53) (by omega) (by omega), w64 (a := u * 131 + v * 1117 + p * 29 + q * 53) (by omega) (by omega)]
  have hz : 0 ≤ u * 131 + v * 1117 + p * 29 + q * 53 ∧ u * 131 + v * 1117 + p * 29 + q * 53 < 1000000000 := by omega
  generalize u * 131 + v * 1117 + p * 29 + q * 53 = z at *
  have t4 := tdiv_range (a := z) (b := 64) hz.1 (by omega)
  rw [gd_pos ⟨by omega, w64 (by omega) (by omega)⟩, gd_pos (by omega)]
  have hx : ∃ y : Nat, Go.bits .xor .i64 z (Int.tdiv z 64) = (y : Int) := by
    obtain ⟨a, ha⟩ := Int.eq_ofNat_of_zero_le hz.1
    obtain ⟨b, hb⟩ := Int.eq_ofNat_of_zero_le t4.1
    refine ⟨a ^^^ b, ?_⟩
    rw [hb, ha]
    exact xor64 (by omega) (by omega)
  obtain ⟨y, hy⟩ := hx
  rw [hy]
  have := tmod_range (a := (y : Int)) (b := n) (by omega) (by omega)
  exact ⟨_, rfl, this.1, fun _ => this.2⟩

theorem one {code : List Int} {p : Int} (hc : Bytes code) (hl : code.length ≤ 9223372036854775807) (hp : 0 ≤ p ∧ p < 1000000) {xs : List Int} (hx : xs ≠ []) : ∃ x, m_spec_reader_one xs code p = some x ∧ x ∈ xs := by
  have h1 : 1 ≤ (xs.length : Int) := by
    have := List.length_pos_iff.2 hx
    omega
  obtain ⟨x, e, h0, h2⟩ := pick (n := (xs.length : Int)) hc hl hp
  refine ⟨gt xs x, ?_, gt_mem ⟨h0, h2 h1⟩⟩
  rw [m_spec_reader_one, e, bd_some, gd_pos ⟨h0, h2 h1⟩]

/-- the greatest value of definitions, another number if there are none -/
def greatest : List (ByteArray × Int) → Int → Int
  | [], z => z
  | d :: l, _ => l.foldl (fun m e => if m < e.2 then e.2 else m) d.2

theorem impl_greatest (l : List (ByteArray × Int)) (z : Int) (hl : l.length ≤ 1099511627776) : m_impl_greatest l z = some (greatest l z) := by
  have h := listW l (fun n i s => m_impl_greatest_L1 l n s i) (fun i s => if i = 0 then s = z else (l.drop i).foldl (fun m e => if m < e.2 then e.2 else m) s = greatest l z) (fun r => r = greatest l z) ?_ ?_ FU (by rw [FU_eq]; omega) z (by simp)
  · rw [m_impl_greatest, show m_impl_greatest_L1 l FU z 0 = _ from h.eq, bd_some]
  · intro n s hs
    rw [m_impl_greatest_L1, cond_neg (by omega)]
    refine Wp_some.2 ?_
    by_cases h : l.length = 0
    · rw [if_pos h] at hs
      have : l = [] := List.length_eq_zero_iff.1 h
      rw [this, hs]; rfl
    · rw [if_neg h, List.drop_length] at hs
      exact hs
  · intro n i s d hi hg hd hm hI ih
    rw [m_impl_greatest_L1, cond_pos (by omega), gd_pos (by omega), w64s (by omega), hg]
    by_cases h : i = 0
    · subst h
      rw [cond_pos (by omega)]
      refine ih _ ?_
      rw [if_neg (by omega)]
      rw [List.drop_zero] at hd
      conv => rhs; rw [hd]
      rfl
    · rw [if_neg h, hd, List.foldl_cons] at hI
      rw [cond_neg (by omega)]
      by_cases h2 : s < d.2
      · rw [cond_pos h2]
        refine ih _ ?_
        rw [if_neg (by omega)]
        rwa [if_pos h2] at hI
      · rw [cond_neg h2]
        refine ih _ ?_
        rw [if_neg (by omega)]
        rwa [if_neg h2] at hI

def ItemsIn (l : List (ByteArray × Bool × Int)) : Prop := l.length ≤ 1099511627776 ∧ (∀ d ∈ l, d.1.size ≤ 1099511627776) ∧ ∀ d ∈ l, I64 d.2.2

/-- the definitions of items, `next` telling the automatic values -/
def cbuild (next : List (ByteArray × Int) → Int) (items : List (ByteArray × Bool × Int)) (acc : List (ByteArray × Int)) : List (ByteArray × Int) :=
  items.foldl (fun acc x => acc ++ [(x.1, if x.2.1 then next acc else x.2.2)]) acc

theorem cbuild_length (next : List (ByteArray × Int) → Int) (items : List (ByteArray × Bool × Int)) : ∀ acc, (cbuild next items acc).length = acc.length + items.length := by
  induction items with
  | nil => intro acc; simp [cbuild]
  | cons x items ih => intro acc; rw [cbuild, List.foldl_cons, ← cbuild, ih]; simp; omega

theorem cbuild_append (next : List (ByteArray × Int) → Int) (items more : List (ByteArray × Bool × Int)) (acc) : cbuild next (items ++ more) acc = cbuild next more (cbuild next items acc) := by
  simp [cbuild, List.foldl_append]

theorem cbuild_prefix (next : List (ByteArray × Int) → Int) (items : List (ByteArray × Bool × Int)) : ∀ acc, ∃ r, cbuild next items acc = acc ++ r := by
  induction items with
  | nil => intro acc; exact ⟨[], by simp [cbuild]⟩
  | cons x items ih =>
    intro acc
    rw [cbuild, List.foldl_cons, ← cbuild]
    obtain ⟨r, hr⟩ := ih (acc ++ [(x.1, if x.2.1 then next acc else x.2.2)])
    exact ⟨_, by rw [hr, List.append_assoc]⟩

theorem cbuild_take (next : List (ByteArray × Int) → Int) (items : List (ByteArray × Bool × Int)) (k : Nat) (h : k ≤ items.length) : (cbuild next items []).take k = cbuild next (items.take k) [] := by
  conv => lhs; rw [← List.take_append_drop k items, cbuild_append]
  obtain ⟨r, hr⟩ := cbuild_prefix next (items.drop k) (cbuild next (items.take k) [])
  rw [hr, List.take_append_of_le_length (by rw [cbuild_length]; simp; omega), List.take_of_length_le (by rw [cbuild_length]; simp; omega)]

theorem cbuild_get (next : List (ByteArray × Int) → Int) (items : List (ByteArray × Bool × Int)) (k : Nat) (h : k < items.length) :
    (cbuild next items [])[k]'(by rw [cbuild_length]; simpa using h) = (items[k].1, if items[k].2.1 then next (cbuild next (items.take k) []) else items[k].2.2) := by
  have h1 := cbuild_take next items (k + 1) h
  have hl : k < (cbuild next items []).length := by rw [cbuild_length]; simpa using h
  rw [List.take_succ_eq_append_getElem h, cbuild_append, List.take_succ_eq_append_getElem hl, cbuild_take next items k (by omega)] at h1
  have e : cbuild next [items[k]] (cbuild next (items.take k) []) = cbuild next (items.take k) [] ++ [(items[k].1, if items[k].2.1 then next (cbuild next (items.take k) []) else items[k].2.2)] := rfl
  rw [e] at h1
  have := List.append_cancel_left h1
  simpa using this

theorem cbuild_I64 {next : List (ByteArray × Int) → Int} (hn : ∀ acc, (∀ d ∈ acc, I64 d.2) → I64 (next acc)) : ∀ (items : List (ByteArray × Bool × Int)) (acc : List (ByteArray × Int)), (∀ d ∈ items, I64 d.2.2) → (∀ d ∈ acc, I64 d.2) → ∀ d ∈ cbuild next items acc, I64 d.2
  | [], acc, _, h => h
  | x :: items, acc, hi, h => by
    rw [cbuild, List.foldl_cons, ← cbuild]
    refine cbuild_I64 hn items _ (fun d hd => hi d (by simp [hd])) fun d hd => ?_
    rcases List.mem_append.1 hd with hd | hd
    · exact h d hd
    · simp at hd; subst hd
      simp only
      split
      · exact hn acc h
      · exact hi x (by simp)

theorem cbuild_names (next : List (ByteArray × Int) → Int) : ∀ (items : List (ByteArray × Bool × Int)) (acc : List (ByteArray × Int)), (cbuild next items acc).map (·.1) = acc.map (·.1) ++ items.map (·.1)
  | [], acc => by simp [cbuild]
  | x :: items, acc => by
    rw [cbuild, List.foldl_cons, ← cbuild, cbuild_names next items]
    simp

theorem cbuild_in {next : List (ByteArray × Int) → Int} (hn : ∀ acc, (∀ d ∈ acc, I64 d.2) → I64 (next acc)) {items : List (ByteArray × Bool × Int)} (h : ItemsIn items) : DefsIn (cbuild next items []) := by
  refine ⟨by rw [cbuild_length]; have := h.1; simpa using this, fun d hd => ?_, cbuild_I64 hn items [] h.2.2 (by simp)⟩
  have h1 : d.1 ∈ (cbuild next items []).map (·.1) := List.mem_map.2 ⟨d, hd, rfl⟩
  rw [cbuild_names] at h1
  simp only [List.map_nil, List.nil_append, List.mem_map] at h1
  obtain ⟨x, hx, e⟩ := h1
  rw [← e]; exact h.2.1 x hx

def ItemsOk (l : List (ByteArray × Bool × Int)) (lo hi : Int) : Prop := (∀ i, i < l.length → NameOk (gt l (i : Int)).1 ∧ ((gt l (i : Int)).2.1 = true → (gt l (i : Int)).2.2 = 0) ∧ (lo ≤ (gt l (i : Int)).2.2 ∧ (gt l (i : Int)).2.2 ≤ hi) ∧ ∀ k, k < i → ¬ (gt l (k : Int)).1 = (gt l (i : Int)).1) ∧ l.length ≤ 12

theorem validItems_L2 (l : List (ByteArray × Bool × Int)) (lo hi : Int) (i : Nat) (hi' : i < l.length) (hl : l.length ≤ 1099511627776) :
    ((∃ k, k < i ∧ (gt l (k : Int)).1 = (gt l (i : Int)).1) ∧ m_spec_validItems_L2 l lo hi (i : Int) FU 0 = some (.inl ())) ∨ ((∀ k, k < i → ¬ (gt l (k : Int)).1 = (gt l (i : Int)).1) ∧ m_spec_validItems_L2 l lo hi (i : Int) FU 0 = some (.inr ())) := by
  refine anyN i (m_spec_validItems_L2 l lo hi (i : Int)) _ _ _ ?_ ?_ FU (by rw [FU_eq]; omega)
  · intro n; rw [m_spec_validItems_L2, cond_neg (by omega)]
  · intro n k hk
    rw [m_spec_validItems_L2, cond_pos (by omega), gd_pos (by omega), gd_pos (by omega), w64s (by omega)]
    by_cases h : (gt l (k : Int)).1 = (gt l (i : Int)).1
    · rw [cond_pos h]; exact .inl ⟨h, rfl⟩
    · rw [cond_neg h]; exact .inr ⟨h, rfl⟩

theorem validItems_L3_eq (l : List (ByteArray × Bool × Int)) (lo hi v : Int) : ∀ (n : Nat) (k : Int), m_spec_validItems_L3 l lo hi v n k = m_spec_validItems_L2 l lo hi v n k
  | 0, k => rfl
  | n + 1, k => by rw [m_spec_validItems_L3, m_spec_validItems_L2, validItems_L3_eq l lo hi v n]

open Classical in
theorem spec_validItems {l : List (ByteArray × Bool × Int)} (h : ItemsIn l) (lo hi : Int) : m_spec_validItems l lo hi = some (decide (ItemsOk l lo hi)) := by
  obtain ⟨hl, hs, -⟩ := h
  have h := anyI l (m_spec_validItems_L1 l lo hi) (fun i => ¬ (NameOk (gt l (i : Int)).1 ∧ ((gt l (i : Int)).2.1 = true → (gt l (i : Int)).2.2 = 0) ∧ (lo ≤ (gt l (i : Int)).2.2 ∧ (gt l (i : Int)).2.2 ≤ hi) ∧ ∀ k, k < i → ¬ (gt l (k : Int)).1 = (gt l (i : Int)).1)) (.inl ()) (.inr ()) ?_ ?_ FU (by rw [FU_eq]; omega)
  · rw [m_spec_validItems]
    rcases h with ⟨⟨i, h1, h2⟩, e⟩ | ⟨h1, e⟩
    · rw [e, bd_some, sm_inl]
      have : ¬ ItemsOk l lo hi := fun h => h2 (h.1 i h1)
      rw [decide_eq_false this]
    · rw [e, bd_some, sm_inr]
      have : ItemsOk l lo hi ↔ (l.length : Int) ≤ 12 := ⟨fun h => by have := h.2; omega, fun h => ⟨fun i hi => Decidable.not_not.1 (h1 i hi), by omega⟩⟩
      congr 1
      by_cases hc : (l.length : Int) ≤ 12
      · rw [decide_eq_true hc, decide_eq_true (this.2 hc)]
      · rw [decide_eq_false hc, decide_eq_false (fun h => hc (this.1 h))]
  · intro n; rw [m_spec_validItems_L1, cond_neg (by omega)]
  · intro n i hi'
    have hm : gt l (i : Int) ∈ l := gt_mem (by omega)
    rw [m_spec_validItems_L1, cond_pos (by omega), gd_pos (by omega), spec_validName (hs _ hm), bd_some, spec_inRange, bd_some, bd_some, w64s (by omega),
      show m_spec_validItems_L3 l lo hi (i : Int) FU 0 = _ from validItems_L3_eq l lo hi (i : Int) FU 0]
    by_cases h1 : NameOk (gt l (i : Int)).1
    · rw [decide_eq_true h1, Bool.not_true, cond_false]
      have rest : (¬ ((lo ≤ (gt l (i : Int)).2.2 ∧ (gt l (i : Int)).2.2 ≤ hi) ∧ ∀ k, k < i → ¬ (gt l (k : Int)).1 = (gt l (i : Int)).1) ∧
          (bif (!decide (lo ≤ (gt l (i : Int)).2.2 ∧ (gt l (i : Int)).2.2 ≤ hi)) then some (Sum.inl ()) else bd (m_spec_validItems_L2 l lo hi (i : Int) FU 0) fun x8 => sm x8 (fun x9 => some (Sum.inl ())) (fun x10 => m_spec_validItems_L1 l lo hi n ((i + 1 : Nat) : Int))) = some (.inl ())) ∨
          (((lo ≤ (gt l (i : Int)).2.2 ∧ (gt l (i : Int)).2.2 ≤ hi) ∧ ∀ k, k < i → ¬ (gt l (k : Int)).1 = (gt l (i : Int)).1) ∧
          (bif (!decide (lo ≤ (gt l (i : Int)).2.2 ∧ (gt l (i : Int)).2.2 ≤ hi)) then some (Sum.inl ()) else bd (m_spec_validItems_L2 l lo hi (i : Int) FU 0) fun x8 => sm x8 (fun x9 => some (Sum.inl ())) (fun x10 => m_spec_validItems_L1 l lo hi n ((i + 1 : Nat) : Int))) = m_spec_validItems_L1 l lo hi n ((i + 1 : Nat) : Int)) := by
        by_cases h3 : lo ≤ (gt l (i : Int)).2.2 ∧ (gt l (i : Int)).2.2 ≤ hi
        · rw [decide_eq_true h3, Bool.not_true, cond_false]
          rcases validItems_L2 l lo hi i hi' hl with ⟨⟨k, g1, g2⟩, e⟩ | ⟨g1, e⟩
          · rw [e]; exact .inl ⟨fun hh => hh.2 k g1 g2, rfl⟩
          · rw [e]; exact .inr ⟨⟨h3, g1⟩, rfl⟩
        · rw [decide_eq_false h3, Bool.not_false, cond_true]; exact .inl ⟨fun hh => h3 hh.1, rfl⟩
      cases h2 : (gt l (i : Int)).2.1 with
      | true =>
        rw [cond_true]
        by_cases h4 : (gt l (i : Int)).2.2 = 0
        · rw [decide_eq_true h4, Bool.not_true, cond_false]
          rcases rest with ⟨g1, e⟩ | ⟨g1, e⟩
          · exact .inl ⟨fun hh => g1 hh.2.2, e⟩
          · exact .inr ⟨fun hh => hh ⟨h1, fun _ => h4, g1⟩, e⟩
        · rw [decide_eq_false h4, Bool.not_false, cond_true]
          exact .inl ⟨fun hh => h4 (hh.2.1 rfl), rfl⟩
      | false =>
        rw [cond_false]
        rcases rest with ⟨g1, e⟩ | ⟨g1, e⟩
        · exact .inl ⟨fun hh => g1 hh.2.2, e⟩
        · exact .inr ⟨fun hh => hh ⟨h1, fun hh => (by cases hh), g1⟩, e⟩
    · rw [decide_eq_false h1, Bool.not_false, cond_true]; exact .inl ⟨fun hh => h1 hh.1, rfl⟩

theorem markW {α : Type} [Inhabited α] (n k c : Nat) (f : Nat → α) (L : Nat → Int → Int → List α → Option (Int × List α))
    (hend : ∀ m s, s.length = n → L (m + 1) ((k + c * n : Nat) : Int) (n : Int) s = some (((k + c * n : Nat) : Int), s))
    (hstep : ∀ m i s, i < n → s.length = n → L (m + 1) ((k + c * i : Nat) : Int) (i : Int) s = L m ((k + c * (i + 1) : Nat) : Int) ((i + 1 : Nat) : Int) (s.set i (f i)))
    (N : Nat) (hN : n < N) (s : List α) (hs : s.length = n) : L N (k : Int) 0 s = some (((k + c * n : Nat) : Int), (List.range n).map f) := by
  have h := listW (List.range n) (fun m i (t : List α) => L m ((k + c * i.toNat : Nat) : Int) i t) (fun i t => t.length = n ∧ t.take i = (List.range i).map f) (fun r => r = (((k + c * n : Nat) : Int), (List.range n).map f)) ?_ ?_ N (by simpa using hN) s ⟨hs, by simp⟩
  · simpa using h.eq
  · intro m t ht
    rw [List.length_range] at ht ⊢
    simp only [Int.toNat_natCast]
    rw [hend m t ht.1]
    have := ht.2
    rw [← ht.1, List.take_length, ht.1] at this
    exact Wp_some.2 (by rw [this])
  · intro m i t d hi hg hd hm ht ih
    rw [List.length_range] at hi
    simp only [Int.toNat_natCast]
    rw [hstep m i t hi ht.1]
    have := ih (t.set i (f i)) ⟨by rw [List.length_set]; exact ht.1, ?_⟩
    · simpa only [Int.toNat_natCast] using this
    · obtain ⟨ht1, ht2⟩ := ht
      have hti : i < t.length := by omega
      rw [List.take_set, List.take_succ_eq_append_getElem hti, ht2, List.set_append]
      have e : ((List.range i).map f).length = i := by simp
      rw [if_neg (by omega), e, Nat.sub_self, List.set_cons_zero, List.range_succ, List.map_append]
      rfl

theorem gt_set_eq {α : Type} [Inhabited α] (s : List α) (i : Nat) (x : α) (h : i < s.length) : gt (s.set i x) (i : Int) = x := by
  rw [gt_nat (by simpa using h)]; simp

theorem gt_map_range {α : Type} [Inhabited α] (n : Nat) (f : Nat → α) (i : Nat) (h : i < n) : gt ((List.range n).map f) (i : Int) = f i := by
  rw [gt_nat (by simpa using h)]; simp

theorem bstr_one (x : Int) : (bstr [x]).size = 1 := rfl

theorem markText_loop (k : Nat) (hk : k ≤ 1099511627776) : ∃ s, m_laws_markText_L1 FU (k : Int) ByteArray.empty = some s ∧ s.size ≤ k := by
  have h := loopW (fun n (s : Int × ByteArray) => m_laws_markText_L1 n s.1 s.2) (fun s => ∃ v : Nat, s.1 = (v : Int) ∧ s.2.size + v ≤ k) (fun s => s.1.toNat) (fun r => r.size ≤ k) ?_ FU ((k : Int), ByteArray.empty) ⟨k, rfl, by simp⟩ (by rw [FU_eq]; simp only [Int.toNat_natCast]; omega)
  · exact h
  · rintro n ⟨a, s⟩ ⟨v, hv, hs⟩ ih
    simp only at hv hs
    subst hv
    show Wp (m_laws_markText_L1 (n + 1) (v : Int) s) _
    rw [m_laws_markText_L1]
    by_cases h : v = 0
    · rw [cond_neg (by omega)]; exact Wp_some.2 (by omega)
    · rw [cond_pos (by omega), gd_pos (by omega), nm_eq, gd_pos (by rw [bstr_one]; omega), show (10 : Int) = ((10 : Nat) : Int) from rfl, tdiv_nat, gd_pos ⟨by omega, w64 (by omega) (by omega)⟩]
      refine ih (_, _) ⟨v / 10, rfl, ?_⟩ (by simp only [Int.toNat_natCast]; omega)
      simp only [ByteArray.size_append, bstr_one]; omega

/-- the mark of a number -/
def mtext (k : Int) : ByteArray := (m_laws_markText k).getD ByteArray.empty

theorem laws_markText {k : Int} (h1 : 1 ≤ k) (h2 : k ≤ 1099511627776) : m_laws_markText k = some (mtext k) := by
  obtain ⟨v, rfl⟩ := Int.eq_ofNat_of_zero_le (show 0 ≤ k by omega)
  obtain ⟨s, e, hs⟩ := markText_loop v (by omega)
  have : ∃ t, m_laws_markText (v : Int) = some t := by
    rw [m_laws_markText, cond_neg (by omega), e, bd_some, gd_pos (by simp only [ByteArray.size]; simp; have : s.data.size = s.size := rfl; omega)]
    exact ⟨_, rfl⟩
  obtain ⟨t, ht⟩ := this
  rw [mtext, ht]; rfl

def markDef (k i : Nat) : ByteArray × Int := (mtext ((k + 2 * i : Nat) : Int), ((k + 2 * i + 1 : Nat) : Int))

theorem laws_markDefS {k : Nat} {l : List (ByteArray × Int)} (hk : 1 ≤ k) (hl : k + 2 * l.length ≤ 1000000000) : m_laws_markDefS_h (k : Int) l = some (((k + 2 * l.length : Nat) : Int), (List.range l.length).map (markDef k)) := by
  rw [m_laws_markDefS_h, markW l.length k 2 (markDef k) m_laws_markDefS_h_L1 ?_ ?_ FU (by rw [FU_eq]; omega) l rfl, bd_some]
  · intro m s hs; rw [m_laws_markDefS_h_L1, cond_neg (by omega)]
  · intro m i s hi hs
    rw [m_laws_markDefS_h_L1, cond_pos (by omega), laws_markText (by omega) (by omega), bd_some, gd_pos (by omega), w64s (i := k + 2 * i) (by omega), w64s (i := k + 2 * i + 1) (by omega), w64s (i := i) (by omega),
      Nat.zero_add, Int.toNat_natCast, gt_set_eq _ _ _ (by omega), List.set_set]
    congr 1 <;> first | (simp only [markDef]; congr 2; try omega) | omega

theorem laws_heldDefS {k n : Nat} (hk : 1 ≤ k) (hl : k + 2 * n ≤ 1000000000) : m_laws_heldDefS ((List.range n).map (markDef k)) (k : Int) = some ((k + 2 * n : Nat) : Int) := by
  have h := noneN n (fun m i => m_laws_heldDefS_L1 ((List.range n).map (markDef k)) m ((k + 2 * i.toNat : Nat) : Int) i) (.inr ((k + 2 * n : Nat) : Int)) ?_ ?_ FU (by rw [FU_eq]; omega)
  · rw [m_laws_heldDefS, show m_laws_heldDefS_L1 ((List.range n).map (markDef k)) FU (k : Int) 0 = some (.inr ((k + 2 * n : Nat) : Int)) from h, bd_some, sm_inr]
  · intro m
    simp only [Int.toNat_natCast]
    rw [m_laws_heldDefS_L1, List.length_map, List.length_range, cond_neg (by omega)]
  · intro m i hi
    simp only [Int.toNat_natCast]
    rw [m_laws_heldDefS_L1, List.length_map, List.length_range, cond_pos (by omega), gd_pos (by omega), laws_markText (by omega) (by omega), bd_some, gt_map_range _ _ _ hi, w64s (i := k + 2 * i) (by omega), w64s (i := k + 2 * i + 1) (by omega), w64s (i := i) (by omega)]
    simp only [markDef, decide_true, Bool.not_true, cond_false]
    congr 1

theorem laws_eqDef (a : ByteArray) (b : Int) (c : ByteArray) (d : Int) : m_laws_eqDef a b c d = some (decide ((a, b) = (c, d))) := by
  rw [m_laws_eqDef]
  by_cases h1 : a = c <;> by_cases h2 : b = d <;> simp [h1, h2]

theorem laws_eqDefS {a b : List (ByteArray × Int)} (ha : a.length ≤ 1099511627776) : m_laws_eqDefS a b = some (decide (a = b)) := by
  rw [m_laws_eqDefS]
  by_cases hl : a.length = b.length
  · rw [decide_eq_true (by omega), Bool.not_true, cond_false, eqW a b (m_laws_eqDefS_L1 a b) hl ?_ ?_ FU (by rw [FU_eq]; omega), bd_some]
    · by_cases h : a = b
      · rw [if_pos h, decide_eq_true h]; rfl
      · rw [if_neg h, decide_eq_false h]; rfl
    · intro n; rw [m_laws_eqDefS_L1, cond_neg (by omega)]
    · intro n i hi
      rw [m_laws_eqDefS_L1, cond_pos (by omega), gd_pos (by omega), gd_pos (by omega), laws_eqDef, bd_some, w64s (by omega)]
      by_cases h : gt a (i : Int) = gt b (i : Int) <;> simp [h]
  · rw [decide_eq_false (by omega), Bool.not_false, cond_true, decide_eq_false]
    intro h; exact hl (by rw [h])

theorem laws_eqEnum {a b : List (ByteArray × Int)} (ha : a.length ≤ 1099511627776) : m_laws_eqEnum a b = some (decide (a = b)) := by
  rw [m_laws_eqEnum, laws_eqDefS ha, bd_some]
  cases decide (a = b) <;> rfl

theorem laws_eqEnum_self {l : List (ByteArray × Int)} (hl : l.length ≤ 1000000000) : m_laws_eqEnum l l = some true := by
  rw [laws_eqEnum (by omega), decide_eq_true rfl]

theorem laws_markEnum {k : Nat} {l : List (ByteArray × Int)} (hk : 1 ≤ k) (hl : k + 2 * l.length ≤ 1000000000) : m_laws_markEnum_h (k : Int) l = some (((k + 2 * l.length : Nat) : Int), (List.range l.length).map (markDef k)) := by
  rw [m_laws_markEnum_h, laws_markDefS hk hl, bd_some, gd_pos (by simp)]

theorem markEnum_one {l : List (ByteArray × Int)} (hl : l.length ≤ 2000000) : m_laws_markEnum_h 1 l = some (((1 + 2 * l.length : Nat) : Int), (List.range l.length).map (markDef 1)) := laws_markEnum (k := 1) (by omega) (by omega)

theorem laws_heldEnum {k n : Nat} (hk : 1 ≤ k) (hl : k + 2 * n ≤ 1000000000) : m_laws_heldEnum ((List.range n).map (markDef k)) (k : Int) = some ((k + 2 * n : Nat) : Int) := by
  rw [m_laws_heldEnum, laws_heldDefS hk hl, bd_some, cond_neg (by omega)]

theorem clone_si {l : List (ByteArray × Int)} (h : l.length ≤ 1000000) : m_impl_clone_si l = some l := by
  rw [m_impl_clone_si, m_slices_Clone_si, gd_pos (by omega), bd_some, m_slices_Clip_hsi, bd_some]

theorem enumOf_true {k : List (ByteArray × Int)} (h : DefsIn k) : m_impl_enumOf k true = some (if EnumOk k then (k, true) else ([], false)) := by
  rw [m_impl_enumOf, Bool.not_true, cond_false, impl_ValidEnum h, bd_some]
  by_cases hv : EnumOk k
  · have := hv.2
    rw [decide_eq_true hv, Bool.not_true, cond_false, clone_si (by omega), bd_some, if_pos hv]
  · rw [decide_eq_false hv, Bool.not_false, cond_true, if_neg hv]

/-- a text of these bytes -/
def bl (l : List UInt8) : ByteArray := ⟨l.toArray⟩

theorem bl_data (s : ByteArray) : bl s.data.toList = s := by
  obtain ⟨⟨l⟩⟩ := s; rfl

theorem bl_toList (l : List UInt8) : (bl l).data.toList = l := rfl

theorem bl_append (a b : List UInt8) : bl a ++ bl b = bl (a ++ b) := by
  apply ByteArray.ext
  simp [bl]

theorem bl_size (l : List UInt8) : (bl l).size = l.length := by simp [bl, ByteArray.size]

theorem bl_inj {a b : List UInt8} : bl a = bl b ↔ a = b := by
  constructor
  · intro h
    have := congrArg (fun s : ByteArray => s.data.toList) h
    simpa [bl] using this
  · rintro rfl; rfl

theorem size_list (s : ByteArray) : s.size = s.data.toList.length := by rw [Array.length_toList]; rfl

theorem empty_bl : ByteArray.empty = bl [] := rfl

theorem byteAt_list (s : ByteArray) (i : Nat) : byteAt s i = ((s.data.toList.getD i 0).toNat : Int) := rfl

/-- a number as a text -/
def itoaB (n : Int) : ByteArray := bl (Lib.itoa n)

theorem itoa_eq {n : Int} (h : I64 n) : m_strconv_Itoa n = some (itoaB n) := by
  rw [m_strconv_Itoa, gd_pos ⟨h.1, h.2⟩]; rfl

theorem digit_extract : ∀ k, k < 10 → (ByteArray.mk #[48, 49, 50, 51, 52, 53, 54, 55, 56, 57]).extract k (k + 1) = bl [UInt8.ofNat (48 + k)] := by
  intro k hk
  apply ByteArray.ext
  have : k = 0 ∨ k = 1 ∨ k = 2 ∨ k = 3 ∨ k = 4 ∨ k = 5 ∨ k = 6 ∨ k = 7 ∨ k = 8 ∨ k = 9 := by omega
  rcases this with rfl | rfl | rfl | rfl | rfl | rfl | rfl | rfl | rfl | rfl <;> rfl

theorem decDigits_length_le : ∀ (d u : Nat), u < 10 ^ (d + 1) → (Lib.decDigits u).length ≤ d + 1
  | 0, u, h => by rw [Lib.decDigits_one (by simpa using h)]; simp
  | d + 1, u, h => by
    by_cases h1 : u < 10
    · rw [Lib.decDigits_one h1]; simp
    · rw [Lib.decDigits, dif_neg h1, List.length_append, List.length_singleton]
      have := decDigits_length_le d (u / 10) (by rw [Nat.pow_succ] at h; omega)
      omega

theorem number_eq : ∀ (fu n : Nat), n < fu → n ≤ 1000000 → m_spec_number fu (n : Int) = some (bl (Lib.decDigits n))
  | 0, n, h, _ => absurd h (Nat.not_lt_zero _)
  | fu + 1, n, h, hn => by
    rw [m_spec_number]
    by_cases h1 : n < 10
    · have e : IntKind.wrap .i64 ((n : Int) + 1) = ((n + 1 : Nat) : Int) := w64s (by omega)
      have hs : ((ByteArray.mk #[48, 49, 50, 51, 52, 53, 54, 55, 56, 57]).size : Int) = 10 := rfl
      rw [cond_pos (by omega), e, hs, gd_pos ⟨by omega, by omega, by omega⟩, nm_eq, Int.toNat_natCast, Int.toNat_natCast, digit_extract n h1, Lib.decDigits_one h1]
    · have ed : Int.tdiv (n : Int) 10 = ((n / 10 : Nat) : Int) := by
        rw [Int.tdiv_eq_ediv_of_nonneg (by omega)]; omega
      have em : Int.tmod (n : Int) 10 = ((n % 10 : Nat) : Int) := by
        rw [Int.tmod_eq_emod_of_nonneg (by omega)]; omega
      have l1 := decDigits_length_le 6 (n / 10) (by omega)
      have l2 := decDigits_length_le 6 (n % 10) (by omega)
      rw [cond_neg (by omega), ed, em, gd_pos ⟨by decide, w64 (by omega) (by omega)⟩, number_eq fu (n / 10) (by omega) (by omega), bd_some, gd_pos (by decide), number_eq fu (n % 10) (by omega) (by omega), bd_some,
        gd_pos (by rw [bl_size, bl_size]; omega), bl_append]
      conv => rhs; rw [Lib.decDigits, dif_neg h1]
      rw [Lib.decDigits_one (i := n % 10) (by omega)]

theorem spec_number {n : Int} (h0 : 0 ≤ n) (h1 : n ≤ 1000000) : m_spec_number FU n = some (itoaB n) := by
  obtain ⟨k, rfl⟩ := Int.eq_ofNat_of_zero_le h0
  rw [number_eq FU k (by rw [FU_eq]; omega) (by omega), itoaB, Lib.itoa, if_neg (by omega), Int.toNat_natCast]

theorem itoa_minus {n : Int} (h : n < 0) : Lib.itoa n = 45 :: Lib.itoa (0 - n) := by
  unfold Lib.itoa
  rw [if_pos h, if_neg (by omega)]
  congr 2; omega

theorem decDigits_digit : ∀ (u : Nat) (c : UInt8), c ∈ Lib.decDigits u → 48 ≤ c.toNat ∧ c.toNat ≤ 57 := by
  intro u
  induction u using Nat.strongRecOn with
  | _ u ih =>
    intro c hc
    have one : ∀ k, k < 10 → 48 ≤ (UInt8.ofNat (48 + k)).toNat ∧ (UInt8.ofNat (48 + k)).toNat ≤ 57 := fun k hk => by
      rw [UInt8.toNat_ofNat']; omega
    by_cases h1 : u < 10
    · rw [Lib.decDigits_one h1, List.mem_singleton] at hc
      subst hc; exact one u h1
    · rw [Lib.decDigits, dif_neg h1, List.mem_append, List.mem_singleton] at hc
      rcases hc with hc | rfl
      · exact ih (u / 10) (by omega) c hc
      · exact one _ (by omega)

theorem decDigits_ne (u : Nat) : Lib.decDigits u ≠ [] := by
  by_cases h1 : u < 10
  · rw [Lib.decDigits_one h1]; simp
  · rw [Lib.decDigits, dif_neg h1]; simp

/-- a numeral begins with a sign or a digit -/
theorem itoa_head (n : Int) : ∃ c r, Lib.itoa n = c :: r ∧ c.toNat ≤ 57 := by
  unfold Lib.itoa
  split
  · exact ⟨45, _, rfl, by decide⟩
  · obtain ⟨c, r, e⟩ := List.exists_cons_of_ne_nil (decDigits_ne n.toNat)
    exact ⟨c, r, e, (decDigits_digit _ c (by rw [e]; simp)).2⟩

theorem itoaB_ne (n : Int) : itoaB n ≠ ByteArray.empty := by
  obtain ⟨c, r, e, _⟩ := itoa_head n
  rw [itoaB, e, empty_bl, Ne, bl_inj]
  simp

/-- the parts of a text between the bytes of a kind -/
def splitL (c : UInt8) : List UInt8 → List (List UInt8)
  | [] => [[]]
  | x :: r => if x = c then [] :: splitL c r else match splitL c r with
    | [] => [[x]]
    | p :: ps => (x :: p) :: ps

theorem splitL_ne (c : UInt8) : ∀ l, splitL c l ≠ []
  | [] => by simp [splitL]
  | x :: r => by
    unfold splitL
    split
    · simp
    · split <;> simp

theorem index_one_nil (c : UInt8) : Lib.index [] [c] = -1 := rfl

theorem index_one_cons (x c : UInt8) (r : List UInt8) : Lib.index (x :: r) [c] = if x = c then 0 else if Lib.index r [c] = -1 then -1 else Lib.index r [c] + 1 := by
  rw [Lib.index]
  by_cases h : x = c
  · subst h; simp [List.isPrefixOf]
  · have : (c == x) = false := by simpa using fun e => h e.symm
    simp only [List.isPrefixOf, this, Bool.false_and, if_neg h, Bool.false_eq_true, if_false]
    by_cases h2 : Lib.index r [c] = -1
    · simp [h2]
    · rw [if_neg (by simpa using h2), if_neg h2]

theorem splitL_index (c : UInt8) : ∀ l : List UInt8, (Lib.index l [c] = -1 → splitL c l = [l]) ∧ ∀ i : Nat, Lib.index l [c] = i → splitL c l = l.take i :: splitL c (l.drop (i + 1))
  | [] => ⟨fun _ => rfl, fun i h => by rw [index_one_nil] at h; omega⟩
  | x :: r => by
    obtain ⟨h1, h2⟩ := splitL_index c r
    have hge := Lib.index_ge r [c]
    rw [index_one_cons]
    by_cases hx : x = c
    · refine ⟨fun h => ?_, fun i h => ?_⟩
      · rw [if_pos hx] at h; omega
      · rw [if_pos hx] at h
        have : i = 0 := by omega
        subst this
        rw [splitL, if_pos hx]; simp
    · refine ⟨fun h => ?_, fun i h => ?_⟩
      · rw [if_neg hx] at h
        by_cases h3 : Lib.index r [c] = -1
        · rw [splitL, if_neg hx, h1 h3]
        · rw [if_neg h3] at h; omega
      · rw [if_neg hx] at h
        by_cases h3 : Lib.index r [c] = -1
        · rw [if_pos h3] at h; omega
        · rw [if_neg h3] at h
          obtain ⟨j, rfl⟩ : ∃ j, i = j + 1 := ⟨i - 1, by omega⟩
          rw [splitL, if_neg hx, h2 j (by omega)]
          simp

theorem splitK_one (c : UInt8) : ∀ (n : Nat) (l : List UInt8), l.length ≤ n → Lib.splitK [c] 0 (Lib.count l [c]) l = splitL c l := by
  intro n
  induction n with
  | zero =>
    intro l hl
    have : l = [] := List.eq_nil_of_length_eq_zero (by omega)
    subst this
    rw [Lib.count_miss (index_one_nil c)]; rfl
  | succ n ih =>
    intro l hl
    obtain ⟨h1, h2⟩ := splitL_index c l
    rcases Lib.index_spec l [c] with ⟨h, _⟩ | ⟨i, h, hi, ho, _⟩
    · rw [Lib.count_miss h, h1 h]; rfl
    · have hroom := Lib.index_room l [c] (by omega)
      have hlen : ([c] : List UInt8).length = 1 := rfl
      rw [h, hlen] at hroom
      rw [Lib.count_hit (by simp) h, h2 i h, Nat.add_comm, Lib.splitK, if_neg (by intro e; rw [h] at e; have := eq_of_beq e; omega), h, hlen]
      simp only [Int.toNat_natCast, Nat.add_zero]
      rw [ih (l.drop (i + 1)) (by rw [List.length_drop]; omega)]

theorem map_bl_data (l : List ByteArray) : (l.map (·.data.toList)).map bl = l := by
  rw [List.map_map]
  conv => rhs; rw [← List.map_id l]
  exact List.map_congr_left fun s _ => bl_data s

theorem strings_Split {s : ByteArray} {c : UInt8} (hs : s.size < 4294967281) : m_strings_Split s (bl [c]) = some ((splitL c s.data.toList).map bl) := by
  rw [m_strings_Split, gd_pos hs, gd_pos (by rw [bl_size]; exact Nat.le_refl 1)]
  congr 1
  rw [← map_bl_data (Lib.splitB _ _ _ _), Lib.splitB_data]
  congr 1
  exact splitK_one c _ s.data.toList (Nat.le_refl _)

theorem splitL_length (c : UInt8) : ∀ l : List UInt8, (splitL c l).length ≤ l.length + 1
  | [] => by simp [splitL]
  | x :: r => by
    have ih := splitL_length c r
    unfold splitL
    split
    · simp; omega
    · split
      · simp
      · rename_i p ps e
        rw [e] at ih
        simp at ih ⊢; omega

/-- a beginning set ahead of the first part -/
def preL (p : List UInt8) : List (List UInt8) → List (List UInt8)
  | [] => [p]
  | q :: qs => (p ++ q) :: qs

theorem splitL_eq (c : UInt8) (r : List UInt8) : splitL c (c :: r) = [] :: splitL c r := by rw [splitL, if_pos rfl]

theorem splitL_neq {c x : UInt8} (h : x ≠ c) (r : List UInt8) : splitL c (x :: r) = preL [x] (splitL c r) := by
  rw [splitL, if_neg h]
  cases splitL c r <;> rfl

theorem preL_preL (p q : List UInt8) (l : List (List UInt8)) : preL p (preL q l) = preL (p ++ q) l := by
  cases l <;> simp [preL]

theorem preL_nil {l : List (List UInt8)} (h : l ≠ []) : preL [] l = l := by
  cases l with
  | nil => exact absurd rfl h
  | cons a l => rfl

theorem extract_list (s : ByteArray) (a b : Nat) : s.extract a b = bl ((s.data.toList.drop a).take (b - a)) := by
  apply ByteArray.ext
  apply Array.toList_inj.1
  simp [bl, List.extract_eq_take_drop]

theorem byteAt_eq {s : ByteArray} {i : Nat} (hi : i < s.data.toList.length) (c : UInt8) : byteAt s i = (c.toNat : Int) ↔ s.data.toList[i] = c := by
  rw [byteAt_list, List.getD_eq_getElem?_getD, List.getElem?_eq_getElem hi, Option.getD_some]
  constructor
  · intro h; exact UInt8.toNat_inj.1 (by omega)
  · intro h; rw [h]

theorem spec_splitAt {s : ByteArray} {c : UInt8} (hs : s.size ≤ 1000000000) : m_spec_splitAt s (c.toNat : Int) = some ((splitL c s.data.toList).map bl) := by
  have hsz := size_list s
  obtain ⟨l, hl⟩ : ∃ l, l = s.data.toList := ⟨_, rfl⟩
  have hs' := hs
  rw [hsz, ← hl] at hs'
  have key : ∀ (k i n : Nat) (V : List (List UInt8)) (fr : Nat), i + k = l.length → k < n → V.length ≤ i → fr ≤ i → splitL c l = V ++ preL ((l.drop fr).take (i - fr)) (splitL c (l.drop i)) →
      ∃ (V' : List (List UInt8)) (fr' : Nat), m_spec_splitAt_L1 s (c.toNat : Int) n (V.map bl) (fr : Int) (i : Int) = some (V'.map bl, (fr' : Int)) ∧ fr' ≤ l.length ∧ V'.length ≤ l.length ∧ splitL c l = V' ++ [l.drop fr'] := by
    intro k
    induction k with
    | zero =>
      intro i n V fr hik hn hV hfr hI
      obtain ⟨n, rfl⟩ : ∃ m, n = m + 1 := ⟨n - 1, by omega⟩
      have e : i = l.length := by omega
      subst e
      refine ⟨V, fr, by rw [m_spec_splitAt_L1, hsz, ← hl, cond_neg (by omega)], hfr, hV, ?_⟩
      rw [hI, List.drop_length, splitL, List.take_of_length_le (by rw [List.length_drop]; omega)]
      simp [preL]
    | succ k ih =>
      intro i n V fr hik hn hV hfr hI
      obtain ⟨n, rfl⟩ : ∃ m, n = m + 1 := ⟨n - 1, by omega⟩
      have hi : i < l.length := by omega
      have hd : l.drop i = l[i] :: l.drop (i + 1) := List.drop_eq_getElem_cons hi
      have hb := byteAt_eq (s := s) (i := i) (by rw [← hl]; exact hi) c
      have ht : (l.drop fr).take (i + 1 - fr) = (l.drop fr).take (i - fr) ++ [l[i]] := by
        rw [show i + 1 - fr = (i - fr) + 1 by omega, List.take_succ_eq_append_getElem (by rw [List.length_drop]; omega), List.getElem_drop]
        congr 3; omega
      rw [m_spec_splitAt_L1, hsz, ← hl, cond_pos (by omega), gd_pos (by omega), Int.toNat_natCast]
      by_cases hc : byteAt s i = (c.toNat : Int)
      · have hc' : l[i] = c := by
          have := hb.1 hc
          simpa [hl] using this
        rw [cond_pos hc, gd_pos (by omega), gd_pos (by rw [List.length_map, List.length_singleton]; omega), w64s (i := i) (by omega), Int.toNat_natCast, extract_list, ← hl]
        have := ih (i + 1) n (V ++ [(l.drop fr).take (i - fr)]) (i + 1) (by omega) (by omega) (by rw [List.length_append, List.length_singleton]; omega) (Nat.le_refl _) (by
          rw [hI, hd, hc', splitL_eq, Nat.sub_self, List.take_zero, preL_nil (splitL_ne _ _)]
          simp [preL])
        rwa [List.map_append, List.map_cons, List.map_nil] at this
      · have hc' : l[i] ≠ c := fun e => hc (hb.2 (by simpa [hl] using e))
        rw [cond_neg hc, w64s (i := i) (by omega)]
        exact ih (i + 1) n V fr (by omega) (by omega) (by omega) (by omega) (by rw [hI, hd, splitL_neq hc', preL_preL, ht])
  obtain ⟨V, fr, e, h1, h2, h3⟩ := key l.length 0 FU [] 0 (by omega) (by rw [FU_eq]; rw [hsz, ← hl] at hs; omega) (by simp) (Nat.le_refl _) (by rw [List.drop_zero, List.take_zero, preL_nil (splitL_ne _ _)]; rfl)
  have e' : m_spec_splitAt_L1 s (c.toNat : Int) FU [] 0 0 = some (V.map bl, (fr : Int)) := e
  rw [hsz, ← hl] at hs
  rw [m_spec_splitAt, e', bd_some]
  simp only []
  rw [hsz, ← hl, gd_pos (by omega), gd_pos (by rw [List.length_map, List.length_singleton]; omega), Int.toNat_natCast, Int.toNat_natCast, extract_list, ← hl, List.take_of_length_le (by rw [List.length_drop]; omega), h3, List.map_append, List.map_cons, List.map_nil]

/-- the parts of a text between spaces -/
def wordsC (s : ByteArray) (c : UInt8) : List ByteArray := (splitL c s.data.toList).map bl

theorem wordsC_length (s : ByteArray) (c : UInt8) : (wordsC s c).length ≤ s.size + 1 := by
  rw [wordsC, List.length_map, size_list]; exact splitL_length c _

/-- the reference's reader: digits, while the number stays small -/
def rd : Nat → List UInt8 → Option Nat
  | acc, [] => some acc
  | acc, c :: r => if c.toNat < 48 ∨ 57 < c.toNat ∨ 4095 < acc then none else rd (10 * acc + (c.toNat - 48)) r

theorem rd_snoc : ∀ (l : List UInt8) (c : UInt8) (acc : Nat), rd acc (l ++ [c]) = (rd acc l).bind fun a => if c.toNat < 48 ∨ 57 < c.toNat ∨ 4095 < a then none else some (10 * a + (c.toNat - 48))
  | [], c, acc => by
    simp only [List.nil_append, rd, Option.bind_some]
  | x :: l, c, acc => by
    simp only [List.cons_append, rd]
    by_cases h : x.toNat < 48 ∨ 57 < x.toNat ∨ 4095 < acc
    · rw [if_pos h, if_pos h, Option.bind_none]
    · rw [if_neg h, if_neg h]; exact rd_snoc l c _

theorem digit_toNat {k : Nat} (h : k < 10) : (UInt8.ofNat (48 + k)).toNat = 48 + k := by
  rw [UInt8.toNat_ofNat']; omega

theorem rd_dec : ∀ u : Nat, u ≤ 40959 → rd 0 (Lib.decDigits u) = some u := by
  intro u
  induction u using Nat.strongRecOn with
  | ind u ih =>
    intro h
    by_cases h1 : u < 10
    · rw [Lib.decDigits_one h1]
      simp only [rd]
      rw [digit_toNat h1, if_neg (by omega)]
      congr 1; omega
    · rw [Lib.decDigits, dif_neg h1, rd_snoc, ih (u / 10) (by omega) (by omega), Option.bind_some, digit_toNat (by omega), if_neg (by omega)]
      congr 1; omega

def readC (s : ByteArray) : Int := match rd 0 s.data.toList with
  | some n => if s ≠ ByteArray.empty ∧ n ≤ 4096 ∧ itoaB n = s then (n : Int) else -1
  | none => -1

theorem itoaB_nat (n : Nat) : itoaB (n : Int) = bl (Lib.decDigits n) := by
  rw [itoaB, Lib.itoa, if_neg (by omega), Int.toNat_natCast]

theorem readC_cases (s : ByteArray) : (readC s = -1 ∧ ∀ n : Nat, n ≤ 4096 → s ≠ itoaB n) ∨ (∃ n : Nat, n ≤ 4096 ∧ s = itoaB n ∧ readC s = n) := by
  by_cases h : ∃ n : Nat, n ≤ 4096 ∧ s = itoaB n
  · obtain ⟨n, hn, rfl⟩ := h
    right
    refine ⟨n, hn, rfl, ?_⟩
    have e : rd 0 (itoaB (n : Int)).data.toList = some n := by rw [itoaB_nat, bl_toList, rd_dec n (by omega)]
    rw [readC, e]
    simp only []
    rw [if_pos ⟨itoaB_ne _, hn, trivial⟩]
  · left
    refine ⟨?_, fun n hn e => h ⟨n, hn, e⟩⟩
    rw [readC]
    cases e : rd 0 s.data.toList with
    | none => rfl
    | some n =>
      simp only []
      rw [if_neg (fun hh => h ⟨n, hh.2.1, hh.2.2.symm⟩)]

theorem u8_sub (c : UInt8) (h1 : 48 ≤ c.toNat) : IntKind.wrap .u8 ((c.toNat : Int) - 48) = ((c.toNat - 48 : Nat) : Int) := by
  have := c.toNat_lt
  rw [IntKind.wrap_u8]; omega

theorem readNumber_L1 (s : ByteArray) (hs : s.size ≤ 1000000000) : ∀ (k i n acc : Nat), s.size = i + k → k < n → acc ≤ 50000 →
    m_spec_readNumber_L1 s n (acc : Int) (i : Int) = some (match rd acc (s.data.toList.drop i) with | some x => .inr (x : Int) | none => .inl ())
  | 0, i, n, acc, hk, hn, ha => by
    obtain ⟨n, rfl⟩ : ∃ m, n = m + 1 := ⟨n - 1, by omega⟩
    have := size_list s
    rw [m_spec_readNumber_L1, cond_neg (by omega), List.drop_of_length_le (by omega)]
    rfl
  | k + 1, i, n, acc, hk, hn, ha => by
    obtain ⟨n, rfl⟩ : ∃ m, n = m + 1 := ⟨n - 1, by omega⟩
    have hz := size_list s
    have hi : i < s.data.toList.length := by omega
    have hd : s.data.toList.drop i = s.data.toList[i] :: s.data.toList.drop (i + 1) := List.drop_eq_getElem_cons hi
    have hb : byteAt s ((i : Int).toNat) = ((s.data.toList[i]).toNat : Int) := by
      rw [Int.toNat_natCast, byteAt_list, List.getD, List.getElem?_eq_getElem hi]; rfl
    rw [m_spec_readNumber_L1, cond_pos (by omega), gd_pos (by omega), hb, hd]
    simp only [rd]
    generalize s.data.toList[i] = c
    by_cases c1 : c.toNat < 48
    · rw [cond_pos (by omega), if_pos (.inl c1)]
    · by_cases c2 : 57 < c.toNat
      · rw [cond_neg (by omega), cond_pos (by omega), if_pos (.inr (.inl c2))]
      · by_cases c3 : 4095 < acc
        · rw [cond_neg (by omega), cond_neg (by omega), cond_pos (by omega), if_pos (.inr (.inr c3))]
        · rw [cond_neg (by omega), cond_neg (by omega), cond_neg (by omega), if_neg (by omega), u8_sub c (by omega), nm_eq]
          have e1 : IntKind.wrap .i64 (((c.toNat - 48 : Nat) : Int)) = ((c.toNat - 48 : Nat) : Int) := w64 (by omega) (by omega)
          have e2 : IntKind.wrap .i64 (10 * (acc : Int)) = ((10 * acc : Nat) : Int) := by rw [w64 (by omega) (by omega)]; omega
          have e3 : IntKind.wrap .i64 (((10 * acc : Nat) : Int) + ((c.toNat - 48 : Nat) : Int)) = ((10 * acc + (c.toNat - 48) : Nat) : Int) := by rw [w64 (by omega) (by omega)]; omega
          rw [e1, e2, e3, w64s (i := i) (by omega)]
          exact readNumber_L1 s hs k (i + 1) n _ (by omega) (by omega) (by omega)

theorem spec_readNumber {s : ByteArray} (hs : s.size ≤ 1000000000) : m_spec_readNumber s = some (readC s) := by
  have e := readNumber_L1 s hs s.size 0 FU 0 (by omega) (by rw [FU_eq]; omega) (by omega)
  have e' : m_spec_readNumber_L1 s FU 0 0 = some (match rd 0 s.data.toList with | some x => .inr (x : Int) | none => .inl ()) := e
  rw [m_spec_readNumber, e', bd_some, readC]
  cases hr : rd 0 s.data.toList with
  | none => rfl
  | some x =>
    simp only [sm]
    by_cases h1 : s = ByteArray.empty
    · rw [cond_pos h1, if_neg (fun h => h.1 h1)]
    · by_cases h2 : x ≤ 4096
      · rw [cond_neg h1, cond_neg (by omega), spec_number (by omega) (by omega), bd_some]
        by_cases h3 : itoaB (x : Int) = s
        · rw [decide_eq_true h3, Bool.not_true, cond_false, if_pos ⟨h1, h2, h3⟩]
        · rw [decide_eq_false h3, Bool.not_false, cond_true, if_neg (fun h => h3 h.2.2)]
      · rw [cond_neg h1, cond_pos (by omega), if_neg (fun h => h2 h.2.1)]

theorem parse_snoc : ∀ (l : List UInt8) (c : UInt8) (acc a : Nat), Lib.parseUint10 acc l = .ok a → Lib.parseUint10 acc (l ++ [c]) = Lib.parseUint10 a [c]
  | [], c, acc, a, h => by
    simp only [Lib.parseUint10] at h
    cases h; rfl
  | x :: l, c, acc, a, h => by
    rw [Lib.parseUint10] at h
    rw [List.cons_append, Lib.parseUint10]
    split at h
    · rename_i h1
      rw [if_pos h1]
      split at h
      · cases h
      · rename_i h2
        rw [if_neg h2]
        split at h
        · cases h
        · rename_i h3
          rw [if_neg h3]
          exact parse_snoc l c _ a h
    · cases h

theorem parse_dec : ∀ u : Nat, u < 18446744073709551616 → Lib.parseUint10 0 (Lib.decDigits u) = .ok u := by
  intro u
  induction u using Nat.strongRecOn with
  | ind u ih =>
    intro h
    have one : ∀ k a : Nat, k < 10 → a * 10 + k = u → Lib.parseUint10 a [UInt8.ofNat (48 + k)] = .ok u := fun k a hk e => by
      rw [Lib.parseUint10, digit_toNat hk, if_pos (by omega), if_neg (by omega), if_neg (by omega), Lib.parseUint10]
      congr 1; omega
    by_cases h1 : u < 10
    · rw [Lib.decDigits_one h1]; exact one u 0 h1 (by omega)
    · rw [Lib.decDigits, dif_neg h1, parse_snoc _ _ _ _ (ih (u / 10) (by omega) (by omega))]
      exact one _ _ (by omega) (by omega)

theorem parseMag_dec {u : Nat} (h : u < 18446744073709551616) : Lib.parseMag (Lib.decDigits u) = .ok u := by
  rw [Lib.parseMag, if_neg (decDigits_ne u), parse_dec u h]

theorem atoiAll_itoa {n : Int} (h : I64 n) : Lib.atoiAll (Lib.itoa n) = .ok n := by
  have h1 := h.1
  have h2 := h.2
  rw [Lib.itoa]
  by_cases hn : n < 0
  · rw [if_pos hn]
    have e : Lib.parseMag (Lib.decDigits n.natAbs) = .ok n.natAbs := parseMag_dec (by omega)
    simp only [Lib.atoiAll]
    rw [if_pos (by decide), e]
    simp only []
    rw [if_neg (by simp), if_neg (by omega)]
    simp only [show (45 : UInt8).toNat = 45 from rfl, if_true]
    congr 1; omega
  · rw [if_neg hn]
    have e : Lib.parseMag (Lib.decDigits n.toNat) = .ok n.toNat := parseMag_dec (by omega)
    obtain ⟨c, r, ec⟩ := List.exists_cons_of_ne_nil (decDigits_ne n.toNat)
    have hc := decDigits_digit n.toNat c (by rw [ec]; simp)
    rw [ec] at e ⊢
    simp only [Lib.atoiAll]
    rw [if_neg (by omega), e]
    simp only []
    rw [if_neg (by omega), if_neg (by omega), if_neg (by omega)]
    congr 1; omega

/-- what impl.decimal answers -/
def decC (s : ByteArray) : Int × Bool := match Lib.atoiAll s.data.toList with
  | .ok v => (v, decide (itoaB v = s))
  | .range => (Lib.atoiSat s.data.toList, false)
  | _ => (0, false)

theorem decC_itoa {n : Int} (h : I64 n) : decC (itoaB n) = (n, true) := by
  rw [decC, show (itoaB n).data.toList = Lib.itoa n from bl_toList _, atoiAll_itoa h]
  simp

theorem decC_ok {s : ByteArray} (h : (decC s).2 = true) : s = itoaB (decC s).1 ∧ I64 (decC s).1 := by
  rw [decC] at *
  rcases e : Lib.atoiAll s.data.toList with v | _ | _
  · rw [e] at h; exact ⟨(of_decide_eq_true h).symm, Lib.atoiAll_bounds e⟩
  · rw [e] at h; cases h
  · rw [e] at h; cases h

theorem impl_decimal {s : ByteArray} (hs : s.size ≤ 1000000000) : m_impl_decimal s = some (decC s) := by
  rw [m_impl_decimal, m_strconv_Atoi, gd_pos (by omega), bd_some, atoiAns, decC]
  rcases e : Lib.atoiAll s.data.toList with v | _ | _
  · simp only [cond_true]
    rw [itoa_eq (Lib.atoiAll_bounds e), bd_some]
  · rfl
  · rfl

theorem wordsC_size (s : ByteArray) (c : UInt8) : ∀ w ∈ wordsC s c, w.size ≤ s.size := fun w hw => by
  obtain ⟨p, hp, rfl⟩ := List.mem_map.1 hw
  have key : ∀ (l : List UInt8), ∀ q ∈ splitL c l, q.length ≤ l.length := by
    intro l
    induction l with
    | nil => intro q hq; simp [splitL] at hq; subst hq; simp
    | cons x r ih =>
      intro q hq
      unfold splitL at hq
      split at hq
      · rcases List.mem_cons.1 hq with rfl | hq
        · simp
        · have := ih q hq; rw [List.length_cons]; omega
      · split at hq
        · rename_i e0; exact absurd e0 (splitL_ne _ _)
        · rename_i p0 ps e0
          rcases List.mem_cons.1 hq with rfl | hq
          · have := ih p0 (by rw [e0]; simp); simp only [List.length_cons]; omega
          · have := ih q (by rw [e0]; simp [hq]); rw [List.length_cons]; omega
  rw [bl_size, size_list]
  exact key _ p hp

theorem splitL_none (c : UInt8) : ∀ l : List UInt8, c ∉ l → splitL c l = [l]
  | [], _ => rfl
  | x :: r, h => by
    have h1 : x ≠ c := fun e => h (by rw [e]; simp)
    have h2 : c ∉ r := fun e => h (by simp [e])
    rw [splitL_neq h1, splitL_none c r h2]; rfl

theorem splitL_app (c : UInt8) (b : List UInt8) : ∀ a : List UInt8, splitL c (a ++ c :: b) = splitL c a ++ splitL c b
  | [] => by rw [List.nil_append, splitL_eq]; rfl
  | x :: a => by
    rw [List.cons_append]
    by_cases h : x = c
    · subst h; rw [splitL_eq, splitL_eq, splitL_app x b a]; rfl
    · rw [splitL_neq h, splitL_neq h, splitL_app c b a]
      cases e : splitL c a with
      | nil => exact absurd e (splitL_ne c a)
      | cons p ps => rfl

theorem wordsC_one {c : UInt8} {w : ByteArray} (h : c ∉ w.data.toList) : wordsC w c = [w] := by
  rw [wordsC, splitL_none c _ h, List.map_singleton, bl_data]

theorem name_chars {s : ByteArray} (h : NameOk s) {c : UInt8} (hc : c ∈ s.data.toList) : 97 ≤ c.toNat ∧ c.toNat ≤ 122 := by
  obtain ⟨i, hi, rfl⟩ := List.mem_iff_getElem.1 hc
  have := h.1 i (by rw [size_list]; exact hi)
  rw [byteAt_list, List.getD, List.getElem?_eq_getElem hi, Option.getD_some] at this
  omega

theorem name_not {s : ByteArray} (h : NameOk s) {c : UInt8} (hc : c.toNat < 97 ∨ 122 < c.toNat) : c ∉ s.data.toList := fun hm => by
  have := name_chars h hm; omega

def enext (l : List (ByteArray × Int)) : Int := IntKind.wrap .i64 (greatest l 0 + 1)

theorem enext_I64 (l : List (ByteArray × Int)) (_ : ∀ d ∈ l, I64 d.2) : I64 (enext l) := I64_wrap _

theorem impl_BuildEnum_1 {l : List (ByteArray × Int)} (hl : l.length ≤ 1099511627776) : m_impl_BuildEnum_1 l = some (enext l) := by
  rw [m_impl_BuildEnum_1, impl_greatest l 0 hl, bd_some]; rfl

theorem spec_highest {l : List (ByteArray × Int)} (hl : l.length ≤ 1099511627776) : m_spec_highest l = some (enext l) := by
  rw [m_spec_highest]
  cases l with
  | nil => rw [cond_pos (by rfl)]; rfl
  | cons d l =>
    rw [cond_neg (by rw [List.length_cons]; omega), gd_pos (by rw [List.length_cons]; omega)]
    have hx := foldW (d :: l) (m_spec_highest_L1 (d :: l)) (fun m e => if m < e.2 then e.2 else m) (fun _ _ => True) ?_ ?_ FU (by rw [FU_eq]; omega) d.2 trivial
    · have hg : gt (d :: l) (0 : Int) = d := rfl
      rw [hg, hx.1, bd_some, List.foldl_cons, if_neg (by omega)]; rfl
    · intro n s; rw [m_spec_highest_L1, cond_neg (by omega)]
    · intro n i s hi hm _
      refine ⟨trivial, ?_⟩
      rw [m_spec_highest_L1, cond_pos (by omega), gd_pos (by omega), w64s (i := i) (by omega)]

theorem impl_build_enum {items : List (ByteArray × Bool × Int)} (h : ItemsIn items) : m_impl_build_BuildEnum_1 items = some (if items.any (fun x => x.2.1 && !decide (x.2.2 = 0)) then ([], false) else (cbuild enext items [], true)) := by
  have hx := foldE items (fun n s i => m_impl_build_BuildEnum_1_L1 items n s i) (fun x => x.2.1 && !decide (x.2.2 = 0)) () (fun acc x => acc ++ [(x.1, if x.2.1 then enext acc else x.2.2)]) (fun i s => s.length = i ∧ ∀ d ∈ s, I64 d.2) ?_ ?_ FU (by have := h.1; rw [FU_eq]; omega) [] ⟨rfl, by simp⟩
  · rw [m_impl_build_BuildEnum_1]
    rcases hx with ⟨h1, e⟩ | ⟨h1, -, e⟩
    · rw [e, h1]; rfl
    · rw [e, h1]; rfl
  · intro n s _; rw [m_impl_build_BuildEnum_1_L1, cond_neg (by omega)]
  · intro n i s hi hm hI
    have hl := h.1
    have hv := h.2.2 _ hm
    rw [m_impl_build_BuildEnum_1_L1, cond_pos (by omega), gd_pos (by omega), w64s (by omega)]
    have put : ∀ v, I64 v → (∀ d ∈ s ++ [((gt items (i : Int)).1, v)], I64 d.2) := fun v hv d hd => by
      rcases List.mem_append.1 hd with hd | hd
      · exact hI.2 d hd
      · simp at hd; subst hd; exact hv
    cases ha : (gt items (i : Int)).2.1 with
    | true =>
      rw [cond_true]
      by_cases h0 : (gt items (i : Int)).2.2 = 0
      · right
        rw [decide_eq_true h0, Bool.not_true, cond_false, impl_BuildEnum_1 (by have := hI.1; omega), bd_some, gd_pos (by have := hI.1; simp; omega)]
        exact ⟨rfl, ⟨by simp [hI.1], put _ (enext_I64 _ hI.2)⟩, rfl⟩
      · left
        rw [decide_eq_false h0, Bool.not_false, cond_true]
        exact ⟨rfl, rfl⟩
    | false =>
      right
      rw [cond_false, gd_pos (by have := hI.1; simp; omega)]
      exact ⟨rfl, ⟨by simp [hI.1], put _ hv⟩, rfl⟩

/-- what BuildEnum answers -/
def benum (items : List (ByteArray × Bool × Int)) : (List (ByteArray × Int)) × Bool :=
  if (items.any (fun x => x.2.1 && !decide (x.2.2 = 0)) = false) ∧ EnumOk (cbuild enext items []) then (cbuild enext items [], true) else ([], false)

theorem EnumOk.len {l : List (ByteArray × Int)} (h : EnumOk l) : l.length ≤ 12 := h.2

theorem impl_BuildEnum {items : List (ByteArray × Bool × Int)} (h : ItemsIn items) : m_impl_BuildEnum items = some (benum items) := by
  rw [m_impl_BuildEnum, benum]
  by_cases hl : 12 < (items.length : Int)
  · rw [cond_pos hl, if_neg]
    intro hh
    have := hh.2.len
    rw [cbuild_length] at this
    simp at this; omega
  · rw [cond_neg hl, impl_build_enum h, bd_some]
    cases ha : items.any (fun x => x.2.1 && !decide (x.2.2 = 0)) with
    | true =>
      simp only [if_true]
      rw [m_impl_enumOf, Bool.not_false, cond_true, bd_some]
      simp
    | false =>
      simp only [Bool.false_eq_true, if_false]
      rw [enumOf_true (cbuild_in enext_I64 h), bd_some]
      by_cases hf : EnumOk (cbuild enext items [])
      · simp [hf]
      · simp [hf]

theorem ItemsOk.ofE {items : List (ByteArray × Bool × Int)} (h1 : items.any (fun x => x.2.1 && !decide (x.2.2 = 0)) = false) (h2 : EnumOk (cbuild enext items [])) : ItemsOk items (-1000) 1000 := by
  have hlen : items.length ≤ 12 := by have := h2.len; rw [cbuild_length] at this; simpa using this
  refine ⟨fun i hi => ?_, hlen⟩
  have hd := h2.1 i (by rw [cbuild_length]; simpa using hi)
  have hi2 : i < (cbuild enext items []).length := by rw [cbuild_length]; simpa using hi
  rw [gt_nat hi2, cbuild_get enext items i hi] at hd
  rw [gt_nat hi]
  have hm := List.getElem_mem hi
  rw [List.any_eq_false] at h1
  have h3 := h1 _ hm
  refine ⟨hd.1, fun ha => ?_, ?_, fun k hk e => ?_⟩
  · rw [ha] at h3; simpa using h3
  · cases ha : items[i].2.1 with
    | true => rw [ha] at h3; simp at h3; omega
    | false => have := hd.2.1; rw [ha] at this; simpa using this
  · have hnd := h2.out.2.1
    rw [cbuild_names] at hnd
    simp only [List.map_nil, List.nil_append] at hnd
    rw [List.Nodup, List.pairwise_iff_getElem] at hnd
    have := hnd k i (by simp; omega) (by simpa using hi) hk
    simp only [List.getElem_map] at this
    rw [gt_nat (by omega)] at e
    exact this e

theorem spec_BuildEnum {items : List (ByteArray × Bool × Int)} (h : ItemsIn items) : m_spec_BuildEnum items = some (benum items) := by
  classical
  rw [m_spec_BuildEnum, spec_validItems h, bd_some, benum]
  by_cases ho : ItemsOk items (-1000) 1000
  · rw [decide_eq_true ho, Bool.not_true, cond_false]
    have hx := foldW items (m_spec_BuildEnum_L1 items) (fun acc x => acc ++ [(x.1, if x.2.1 then enext acc else x.2.2)]) (fun i s => s.length = i) ?_ ?_ FU (by have := h.1; rw [FU_eq]; omega) [] rfl
    · rw [show m_spec_BuildEnum_L1 items FU [] 0 = _ from hx.1, bd_some, ← cbuild, spec_validEnum (cbuild_in enext_I64 h), bd_some]
      have hnb : items.any (fun x => x.2.1 && !decide (x.2.2 = 0)) = false := by
        rw [List.any_eq_false]
        intro x hx
        obtain ⟨i, hi, rfl⟩ := List.mem_iff_getElem.1 hx
        have := (ho.1 i hi).2.1
        rw [gt_nat hi] at this
        cases ha : items[i].2.1 with
        | true => simp [this ha]
        | false => simp
      by_cases hf : EnumOk (cbuild enext items [])
      · rw [decide_eq_true hf, Bool.not_true, cond_false, if_pos ⟨hnb, hf⟩]
      · rw [decide_eq_false hf, Bool.not_false, cond_true, if_neg (fun h => hf h.2)]
    · intro n s; rw [m_spec_BuildEnum_L1, cond_neg (by omega)]
    · intro n i s hi hm hI
      have hl := ho.2
      rw [m_spec_BuildEnum_L1, cond_pos (by omega), gd_pos (by omega), w64s (by omega)]
      cases ha : (gt items (i : Int)).2.1 with
      | true =>
        rw [cond_true, spec_highest (by omega), bd_some, gd_pos (by simp; omega)]
        exact ⟨by simp [hI], rfl⟩
      | false =>
        rw [cond_false, gd_pos (by simp; omega)]
        exact ⟨by simp [hI], rfl⟩
  · rw [decide_eq_false ho, Bool.not_false, cond_true, if_neg]
    rintro ⟨h1, h2⟩
    exact ho (ItemsOk.ofE h1 h2)

/-- the reference's signed number -/
def sgnC (s : ByteArray) : Int × Bool :=
  if s ≠ ByteArray.empty ∧ byteAt s 0 = 45 then (if readC (s.extract 1 s.size) ≤ 0 then (0, false) else (0 - readC (s.extract 1 s.size), true)) else (if readC s < 0 then (0, false) else (readC s, true))

theorem readC_range (s : ByteArray) : -1 ≤ readC s ∧ readC s ≤ 4096 := by
  rcases readC_cases s with ⟨e, _⟩ | ⟨n, hn, _, e⟩ <;> rw [e] <;> omega

theorem spec_readSigned {s : ByteArray} (hs : s.size ≤ 1000000000) : m_spec_readSigned s = some (sgnC s) := by
  rw [m_spec_readSigned, sgnC]
  have fin : ∀ h : ¬ (s ≠ ByteArray.empty ∧ byteAt s 0 = 45), (bd (m_spec_readNumber s) fun x3 => bif decide (x3 < 0) then some ((0 : Int), false) else some (x3, true)) = some (if s ≠ ByteArray.empty ∧ byteAt s 0 = 45 then (if readC (s.extract 1 s.size) ≤ 0 then (0, false) else (0 - readC (s.extract 1 s.size), true)) else (if readC s < 0 then (0, false) else (readC s, true))) := fun h => by
    rw [spec_readNumber hs, bd_some, if_neg h]
    by_cases h1 : readC s < 0
    · rw [cond_pos h1, if_pos h1]
    · rw [cond_neg h1, if_neg h1]
  by_cases h0 : s = ByteArray.empty
  · rw [decide_eq_true h0, Bool.not_true, cond_false]
    exact fin (fun h => h.1 h0)
  · have hpos : 0 < s.size := by
      rcases Nat.eq_zero_or_pos s.size with h' | h'
      · exfalso; apply h0
        have e0 : s.data.toList = [] := List.eq_nil_of_length_eq_zero (by rw [← size_list]; exact h')
        rw [← bl_data s, e0]; rfl
      · exact h'
    rw [decide_eq_false h0, Bool.not_false, cond_true, gd_pos (by omega)]
    have e0 : (0 : Int).toNat = 0 := rfl
    have e1 : (1 : Int).toNat = 1 := rfl
    rw [e0, e1, Int.toNat_natCast]
    by_cases hm : byteAt s 0 = 45
    · have hr := readC_range (s.extract 1 s.size)
      rw [cond_pos hm, gd_pos (by omega), spec_readNumber (by rw [ByteArray.size_extract]; omega), bd_some, if_pos ⟨h0, hm⟩]
      by_cases h1 : readC (s.extract 1 s.size) < 0
      · rw [cond_pos h1, if_pos (by omega)]
      · by_cases h2 : readC (s.extract 1 s.size) = 0
        · rw [cond_neg h1, cond_pos h2, if_pos (by omega)]
        · rw [cond_neg h1, cond_neg h2, if_neg (by omega), w64 (by omega) (by omega)]
    · rw [cond_neg hm]
      exact fin (fun h => hm h.2)

theorem readC_itoa {n : Nat} (hn : n ≤ 4096) : readC (itoaB (n : Int)) = n := by
  rcases readC_cases (itoaB (n : Int)) with ⟨_, h⟩ | ⟨m, hm, e, er⟩
  · exact absurd rfl (h n hn)
  · rw [er]
    have e1 := decC_itoa (n := (n : Int)) ⟨by omega, by omega⟩
    have e2 := decC_itoa (n := (m : Int)) ⟨by omega, by omega⟩
    rw [e, e2] at e1
    exact congrArg Prod.fst e1

theorem minus_itoa {n : Nat} (h : 0 < n) : itoaB (0 - (n : Int)) = bl (45 :: (itoaB (n : Int)).data.toList) := by
  rw [itoaB, itoaB, bl_toList, itoa_minus (by omega)]
  rw [show (0 : Int) - (0 - (n : Int)) = n by omega]

theorem nat_itoa_head {n : Nat} : ∃ c r, (itoaB (n : Int)).data.toList = c :: r ∧ 48 ≤ c.toNat := by
  rw [itoaB_nat, bl_toList]
  obtain ⟨c, r, e⟩ := List.exists_cons_of_ne_nil (decDigits_ne n)
  exact ⟨c, r, e, (decDigits_digit n c (by rw [e]; simp)).1⟩

theorem sgnC_itoa {v : Int} (h : -4096 ≤ v ∧ v ≤ 4096) : sgnC (itoaB v) = (v, true) := by
  by_cases hv : v < 0
  · obtain ⟨n, hn⟩ := Int.eq_ofNat_of_zero_le (show 0 ≤ 0 - v by omega)
    have ev : v = 0 - (n : Int) := by omega
    have ex : (itoaB v).extract 1 (itoaB v).size = itoaB (n : Int) := by
      rw [ev, minus_itoa (by omega), extract_list, bl_toList]
      rw [bl_size]
      simp [bl_data]
      rw [size_list, List.take_length, bl_data]
    have hh : itoaB v ≠ ByteArray.empty ∧ byteAt (itoaB v) 0 = 45 := by
      refine ⟨itoaB_ne v, ?_⟩
      rw [ev, minus_itoa (by omega), byteAt_list, bl_toList]; rfl
    rw [sgnC, if_pos hh, ex, readC_itoa (by omega), if_neg (by omega)]
    rw [ev]
  · obtain ⟨n, rfl⟩ := Int.eq_ofNat_of_zero_le (show 0 ≤ v by omega)
    obtain ⟨c, r, e, hc⟩ := nat_itoa_head (n := n)
    rw [sgnC, if_neg, readC_itoa (by omega), if_neg (by omega)]
    rintro ⟨_, hb⟩
    rw [byteAt_list, e] at hb
    simp at hb; omega

theorem sgnC_ok {s : ByteArray} (h : (sgnC s).2 = true) : s = itoaB (sgnC s).1 ∧ -4096 ≤ (sgnC s).1 ∧ (sgnC s).1 ≤ 4096 := by
  by_cases hm : s ≠ ByteArray.empty ∧ byteAt s 0 = 45
  · by_cases h1 : readC (s.extract 1 s.size) ≤ 0
    · rw [sgnC, if_pos hm, if_pos h1] at h; cases h
    · have e : sgnC s = (0 - readC (s.extract 1 s.size), true) := by rw [sgnC, if_pos hm, if_neg h1]
      rcases readC_cases (s.extract 1 s.size) with ⟨e1, _⟩ | ⟨n, hn, e2, e1⟩
      · omega
      · rw [e]
        simp only []
        rw [e1]
        refine ⟨?_, by omega, by omega⟩
        rw [minus_itoa (by omega), ← e2]
        cases es : s.data.toList with
        | nil => exact absurd (by rw [← bl_data s, es]; rfl) hm.1
        | cons c r =>
          have hc : c = 45 := by
            have := hm.2
            rw [byteAt_list, es] at this
            apply UInt8.toNat_inj.1
            simp at this
            show c.toNat = 45
            omega
          rw [extract_list, bl_toList, size_list, es, hc]
          conv => lhs; rw [← bl_data s, es, hc]
          simp
  · by_cases h1 : readC s < 0
    · rw [sgnC, if_neg hm, if_pos h1] at h; cases h
    · have e : sgnC s = (readC s, true) := by rw [sgnC, if_neg hm, if_neg h1]
      rcases readC_cases s with ⟨e1, _⟩ | ⟨n, hn, e2, e1⟩
      · omega
      · rw [e]
        simp only []
        rw [e1]
        exact ⟨e2, by omega, by omega⟩

def eq3 : List UInt8 := [32, 61, 32]

theorem cut_hit {a b : List UInt8} (h : (32 : UInt8) ∉ a) : Lib.cut (a ++ (eq3 ++ b)) eq3 = (a, b, true) := by
  have hi : Lib.index (a ++ (eq3 ++ b)) eq3 = (a.length : Int) := by
    refine Lib.index_first (by simp) ?_ (fun j hj => ?_)
    · rw [Lib.occAt, List.drop_left]
      simp [eq3, List.isPrefixOf]
    · rw [Lib.occAt, List.drop_append_of_le_length (by omega), List.drop_eq_getElem_cons hj, List.cons_append]
      have hne : a[j] ≠ 32 := fun e => h (by rw [← e]; exact List.getElem_mem hj)
      have : ((32 : UInt8) == a[j]) = false := by simpa using fun e => hne e.symm
      simp only [eq3, List.isPrefixOf, this, Bool.false_and]
  rw [Lib.cut, hi, if_pos (by omega), Int.toNat_natCast, List.take_left]
  congr 2
  rw [← List.drop_drop, List.drop_left, List.drop_left]

theorem cut_found {l sep : List UInt8} (h : (Lib.cut l sep).2.2 = true) : l = (Lib.cut l sep).1 ++ (sep ++ (Lib.cut l sep).2.1) := by
  rw [Lib.cut] at *
  by_cases h0 : 0 ≤ Lib.index l sep
  · rw [if_pos h0]
    simp only []
    rcases Lib.index_spec l sep with ⟨e, _⟩ | ⟨i, e, hi, ho, _⟩
    · omega
    · rw [e, Int.toNat_natCast]
      rw [Lib.occAt, List.isPrefixOf_iff_prefix] at ho
      obtain ⟨t, ht⟩ := ho
      have e2 : l.drop (i + sep.length) = t := by rw [← List.drop_drop, ← ht, List.drop_left]
      rw [e2, ht, List.take_append_drop]
  · rw [if_neg h0] at h; cases h

theorem cut_not {l : List UInt8} (h : (Lib.cut l eq3).2.2 = false) : Lib.cut l eq3 = (l, [], false) := by
  rw [Lib.cut] at *
  split at h
  · cases h
  · rename_i h0; rw [if_neg h0]

abbrev LItem := ByteArray × Bool × Int

def itemI (w : ByteArray) : Option LItem := if (Lib.cut w.data.toList eq3).2.2 then (if (decC (bl (Lib.cut w.data.toList eq3).2.1)).2 then some (bl (Lib.cut w.data.toList eq3).1, false, (decC (bl (Lib.cut w.data.toList eq3).2.1)).1) else none) else some (bl (Lib.cut w.data.toList eq3).1, true, 0)

def itemS (w : ByteArray) : Option LItem := if (wordsC w 32).length = 1 then some (w, true, 0) else if (wordsC w 32).length = 3 ∧ gt (wordsC w 32) 1 = bl [61] then (if (sgnC (gt (wordsC w 32) 2)).2 then some (gt (wordsC w 32) 0, false, (sgnC (gt (wordsC w 32) 2)).1) else none) else none

def Good (x : LItem) : Prop := NameOk x.1 ∧ -1000 ≤ x.2.2 ∧ x.2.2 ≤ 4095

/-- joining what was split -/
theorem join_split (c : UInt8) : ∀ l : List UInt8, Lib.join (splitL c l) [c] = l
  | [] => by rw [splitL, Lib.join_one]
  | x :: r => by
    have ih := join_split c r
    have two : ∀ (p : List UInt8) (q : List UInt8) (t : List (List UInt8)), Lib.join (p :: q :: t) [c] = p ++ c :: Lib.join (q :: t) [c] := fun p q t => by
      rw [Lib.join_cons, Lib.join_cons, Lib.joinTail, Lib.joinTail]; simp
    by_cases h : x = c
    · subst h
      rw [splitL_eq]
      cases e : splitL x r with
      | nil => exact absurd e (splitL_ne _ _)
      | cons p ps => rw [two, ← e, ih]; rfl
    · rw [splitL_neq h]
      cases e : splitL c r with
      | nil => exact absurd e (splitL_ne _ _)
      | cons p ps =>
        rw [e] at ih
        cases ps with
        | nil =>
          rw [Lib.join_one] at ih
          rw [ih]
          exact Lib.join_one _ _
        | cons q t =>
          rw [two] at ih
          show Lib.join ((x :: p) :: q :: t) [c] = _
          rw [two, List.cons_append, ih]

theorem split_no (c : UInt8) : ∀ l : List UInt8, ∀ p ∈ splitL c l, c ∉ p
  | [], p, hp => by simp [splitL] at hp; subst hp; simp
  | x :: r, p, hp => by
    by_cases h : x = c
    · subst h
      rw [splitL_eq] at hp
      rcases List.mem_cons.1 hp with rfl | hp
      · simp
      · exact split_no x r p hp
    · rw [splitL_neq h] at hp
      cases e : splitL c r with
      | nil => exact absurd e (splitL_ne _ _)
      | cons q t =>
        have ih := split_no c r
        rw [e] at hp ih
        rcases List.mem_cons.1 hp with rfl | hp
        · intro hm
          rcases List.mem_cons.1 hm with hm | hm
          · exact h hm.symm
          · exact ih q (by simp) hm
        · exact ih p (by simp [hp])

theorem words_one {w : ByteArray} {c : UInt8} (h : (wordsC w c).length = 1) : c ∉ w.data.toList := by
  rw [wordsC, List.length_map] at h
  have e := join_split c w.data.toList
  have hn := split_no c w.data.toList
  cases hs : splitL c w.data.toList with
  | nil => rw [hs] at h; cases h
  | cons p t =>
    rw [hs] at h e hn
    have : t = [] := List.eq_nil_of_length_eq_zero (by rw [List.length_cons] at h; omega)
    subst this
    rw [Lib.join_one] at e
    rw [← e]; exact hn p (by simp)

theorem words_three {w : ByteArray} {c : UInt8} (h : (wordsC w c).length = 3) : ∃ p q r, wordsC w c = [bl p, bl q, bl r] ∧ w.data.toList = p ++ c :: (q ++ c :: r) ∧ c ∉ p ∧ c ∉ q ∧ c ∉ r := by
  rw [wordsC, List.length_map] at h
  have e := join_split c w.data.toList
  have hn := split_no c w.data.toList
  rw [wordsC]
  match hs : splitL c w.data.toList, h with
  | [p, q, r], _ =>
    rw [hs] at e hn
    refine ⟨p, q, r, rfl, ?_, hn p (by simp), hn q (by simp), hn r (by simp)⟩
    rw [← e]
    rw [Lib.join_cons, Lib.joinTail]; simp

theorem item_SI {w : ByteArray} {x : LItem} (hx : itemS w = some x) (hg : Good x) : itemI w = some x := by
  rw [itemS] at hx
  by_cases h1 : (wordsC w 32).length = 1
  · rw [if_pos h1] at hx
    cases hx
    have hn := words_one h1
    have hc : (Lib.cut w.data.toList eq3).2.2 = false := by
      cases hc : (Lib.cut w.data.toList eq3).2.2 with
      | false => rfl
      | true =>
        exfalso
        have := cut_found hc
        apply hn
        rw [this]; simp [eq3]
    have e := cut_not hc
    rw [itemI, e]
    simp only [Bool.false_eq_true, if_false]
    rw [bl_data]
  · rw [if_neg h1] at hx
    by_cases h3 : (wordsC w 32).length = 3 ∧ gt (wordsC w 32) 1 = bl [61]
    · rw [if_pos h3] at hx
      obtain ⟨p, q, r, ew, el, np, nq, nr⟩ := words_three h3.1
      have g0 : gt (wordsC w 32) 0 = bl p := by rw [ew]; rfl
      have g1 : gt (wordsC w 32) 1 = bl q := by rw [ew]; rfl
      have g2 : gt (wordsC w 32) 2 = bl r := by rw [ew]; rfl
      have hq : q = [61] := by have := h3.2; rw [g1, bl_inj] at this; exact this
      rw [g0, g2] at hx
      cases hs : (sgnC (bl r)).2 with
      | false => rw [hs] at hx; cases hx
      | true =>
        rw [hs] at hx
        simp only [if_true, Option.some.injEq] at hx
        subst hx
        obtain ⟨e1, e2, e3⟩ := sgnC_ok hs
        have hl : w.data.toList = p ++ (eq3 ++ r) := by rw [el, hq]; simp [eq3]
        have hd : decC (bl r) = ((sgnC (bl r)).1, true) := by
          have := decC_itoa (n := (sgnC (bl r)).1) ⟨by omega, by omega⟩
          rwa [← e1] at this
        rw [itemI, hl, cut_hit np]
        simp only [if_true]
        rw [hd]
        simp
    · rw [if_neg h3] at hx; cases hx

theorem item_IS {w : ByteArray} {x : LItem} (hx : itemI w = some x) (hg : Good x) : itemS w = some x := by
  rw [itemI] at hx
  cases hc : (Lib.cut w.data.toList eq3).2.2 with
  | false =>
    rw [cut_not hc] at hx
    simp only [Bool.false_eq_true, if_false, Option.some.injEq] at hx
    rw [bl_data] at hx
    subst hx
    have hn := name_not hg.1 (c := 32) (.inl (by decide))
    rw [itemS, wordsC_one hn, if_pos (by rfl)]
  | true =>
    rw [hc] at hx
    simp only [if_true] at hx
    have hl := cut_found hc
    cases hd : (decC (bl (Lib.cut w.data.toList eq3).2.1)).2 with
    | false => rw [hd] at hx; cases hx
    | true =>
      rw [hd] at hx
      simp only [if_true, Option.some.injEq] at hx
      generalize (Lib.cut w.data.toList eq3).1 = p at hl hx
      generalize (Lib.cut w.data.toList eq3).2.1 = r at hl hx hd
      obtain ⟨e1, e2⟩ := decC_ok hd
      subst hx
      have hr := hg.2
      simp only at hr
      have np : (32 : UInt8) ∉ p := by
        have := name_not hg.1 (c := 32) (.inl (by decide))
        rwa [bl_toList] at this
      have nr : (32 : UInt8) ∉ r := by
        intro hm
        have hm' : (32 : UInt8) ∈ (bl r).data.toList := by rw [bl_toList]; exact hm
        rw [e1, itoaB, bl_toList, Lib.itoa] at hm'
        split at hm'
        · rcases List.mem_cons.1 hm' with h | h
          · cases h
          · have := decDigits_digit _ _ h; have e32 : (32 : UInt8).toNat = 32 := rfl; omega
        · have := decDigits_digit _ _ hm'; have e32 : (32 : UInt8).toNat = 32 := rfl; omega
      have ew : wordsC w 32 = [bl p, bl [61], bl r] := by
        have e3 : w.data.toList = p ++ 32 :: ([61] ++ 32 :: r) := by rw [hl]; simp [eq3]
        rw [wordsC, e3, splitL_app, splitL_app, splitL_none 32 p np, splitL_none 32 r nr, splitL_none 32 [61] (by decide)]
        rfl
      have hs : sgnC (bl r) = ((decC (bl r)).1, true) := by
        have := sgnC_itoa (v := (decC (bl r)).1) ⟨by omega, by omega⟩
        rwa [← e1] at this
      have g0 : gt [bl p, bl [61], bl r] 0 = bl p := rfl
      have g1 : gt [bl p, bl [61], bl r] 1 = bl [61] := rfl
      have g2 : gt [bl p, bl [61], bl r] 2 = bl r := rfl
      rw [itemS, ew, if_neg (by simp), g0, g1, g2, if_pos ⟨by simp, rfl⟩, hs]
      simp

def mapO (f : ByteArray → Option LItem) : List ByteArray → Option (List LItem)
  | [] => some []
  | w :: r => match f w with
    | none => none
    | some x => (mapO f r).map (x :: ·)

theorem mapO_mem {f : ByteArray → Option LItem} : ∀ {l : List ByteArray} {r : List LItem}, mapO f l = some r → r.length = l.length ∧ (∀ x ∈ r, ∃ w ∈ l, f w = some x) ∧ ∀ w ∈ l, ∃ x ∈ r, f w = some x
  | [], r, h => by simp only [mapO] at h; cases h; simp
  | w :: l, r, h => by
    simp only [mapO] at h
    cases e : f w with
    | none => rw [e] at h; cases h
    | some x =>
      rw [e] at h
      cases e2 : mapO f l with
      | none => rw [e2] at h; cases h
      | some t =>
        rw [e2] at h
        simp only [Option.map_some, Option.some.injEq] at h
        subst h
        obtain ⟨h1, h2, h3⟩ := mapO_mem e2
        refine ⟨by simp [h1], fun y hy => ?_, fun y hy => ?_⟩
        · rcases List.mem_cons.1 hy with rfl | hy
          · exact ⟨w, by simp, e⟩
          · obtain ⟨v, hv, ev⟩ := h2 y hy; exact ⟨v, by simp [hv], ev⟩
        · rcases List.mem_cons.1 hy with rfl | hy
          · exact ⟨x, by simp, e⟩
          · obtain ⟨v, hv, ev⟩ := h3 y hy; exact ⟨v, by simp [hv], ev⟩

theorem same_items (T : List ByteArray) : mapO itemI T = mapO itemS T ∨ ((∀ r, mapO itemI T = some r → ∃ x ∈ r, ¬ Good x) ∧ (∀ r, mapO itemS T = some r → ∃ x ∈ r, ¬ Good x)) := by
  classical
  by_cases h : ∀ w ∈ T, itemI w = itemS w
  · left
    induction T with
    | nil => rfl
    | cons w r ih =>
      simp only [mapO]
      rw [h w (by simp), ih (fun v hv => h v (by simp [hv]))]
  · right
    obtain ⟨w, hw⟩ := Classical.not_forall.1 h
    obtain ⟨hw, hne⟩ := Classical.not_imp.1 hw
    refine ⟨fun r hr => ?_, fun r hr => ?_⟩
    · obtain ⟨x, hx, ex⟩ := (mapO_mem hr).2.2 w hw
      exact ⟨x, hx, fun hg => hne (by rw [ex, item_IS ex hg])⟩
    · obtain ⟨x, hx, ex⟩ := (mapO_mem hr).2.2 w hw
      exact ⟨x, hx, fun hg => hne (by rw [ex, item_SI ex hg])⟩

theorem trim_nl (l : List UInt8) : (Lib.hasSuffix l [10] = true → l = Lib.trimSuffix l [10] ++ [10]) ∧ (Lib.hasSuffix l [10] = false → (10 : UInt8) ∉ l ∨ ∃ a b, l = a ++ 10 :: b ∧ (10 : UInt8) ∉ b ∧ b ≠ []) := by
  constructor
  · intro h
    have h2 := h
    rw [Lib.hasSuffix, List.isSuffixOf_iff_suffix] at h2
    obtain ⟨t, ht⟩ := h2
    have e : Lib.trimSuffix l [10] = t := by
      rw [Lib.trimSuffix, if_pos h, ← ht]
      simp
    rw [e, ht]
  · intro h
    have key : ∀ m : List UInt8, (10 : UInt8) ∉ m ∨ ∃ a b, m = a ++ 10 :: b ∧ (10 : UInt8) ∉ b := by
      intro m
      induction m with
      | nil => left; simp
      | cons x r ih =>
        rcases ih with ih | ⟨a, b, e, hb⟩
        · by_cases hx : x = 10
          · right; exact ⟨[], r, by rw [hx]; rfl, ih⟩
          · left; intro hm
            rcases List.mem_cons.1 hm with hm | hm
            · exact hx hm.symm
            · exact ih hm
        · right; exact ⟨x :: a, b, by rw [e]; rfl, hb⟩
    rcases key l with h' | ⟨a, b, e, hb⟩
    · exact .inl h'
    · right
      refine ⟨a, b, e, hb, fun hn => ?_⟩
      subst hn
      have : Lib.hasSuffix l [10] = true := by rw [Lib.hasSuffix, List.isSuffixOf_iff_suffix, e]; exact ⟨a, rfl⟩
      rw [h] at this; cases this

/-- the lines of a text that ends with a line's end -/
def linesC (s : ByteArray) : List ByteArray := wordsC (bl (Lib.trimSuffix s.data.toList [10])) 10

def endsC (s : ByteArray) : Bool := Lib.hasSuffix s.data.toList [10]

theorem lines_ends {s : ByteArray} (h : endsC s = true) : wordsC s 10 = linesC s ++ [ByteArray.empty] := by
  have e := (trim_nl s.data.toList).1 h
  rw [linesC, wordsC, wordsC, bl_toList]
  conv => lhs; rw [e]
  rw [splitL_app, List.map_append]
  rfl

theorem lines_not {s : ByteArray} (h : endsC s = false) : (wordsC s 10).length = 1 ∨ ∃ a b, wordsC s 10 = a ++ [b] ∧ a ≠ [] ∧ b ≠ ByteArray.empty := by
  rcases (trim_nl s.data.toList).2 h with h1 | ⟨a, b, e, hb, hne⟩
  · left; rw [wordsC_one h1]; rfl
  · right
    refine ⟨(splitL 10 a).map bl, bl b, ?_, by simpa using splitL_ne 10 a, by rw [empty_bl, Ne, bl_inj]; exact hne⟩
    rw [wordsC, e, splitL_app, splitL_none 10 b hb, List.map_append]; rfl

theorem linesC_ne (s : ByteArray) : linesC s ≠ [] := by rw [linesC, wordsC]; simpa using splitL_ne _ _

theorem trim_size (s : ByteArray) : (bl (Lib.trimSuffix s.data.toList [10])).size ≤ s.size := by
  rw [bl_size, size_list, Lib.trimSuffix]
  split
  · rw [List.length_take]; omega
  · omega

theorem linesC_size (s : ByteArray) : (linesC s).length ≤ s.size + 1 ∧ ∀ w ∈ linesC s, w.size ≤ s.size := by
  have h1 := trim_size s
  have h2 := wordsC_length (bl (Lib.trimSuffix s.data.toList [10])) 10
  have h3 := wordsC_size (bl (Lib.trimSuffix s.data.toList [10])) 10
  exact ⟨by rw [linesC]; omega, fun w hw => by have := h3 w hw; omega⟩

def itemsC (f : ByteArray → Option LItem) (s : ByteArray) : ByteArray × List LItem × Bool :=
  if endsC s then (match mapO f (linesC s).tail with
    | none => (ByteArray.empty, [], false)
    | some r => (gt (linesC s) 0, r, true)) else (ByteArray.empty, [], false)

theorem mapO_cons {f : ByteArray → Option LItem} {w : ByteArray} {r : List ByteArray} : mapO f (w :: r) = match f w with | none => none | some x => (mapO f r).map (x :: ·) := rfl

theorem impl_items_L1 (L : List ByteArray) (hL : L.length ≤ 1000000000) (hne : L ≠ []) (hw : ∀ w ∈ L, w.size ≤ 1000000000) : ∀ (k i n : Nat) (acc : List LItem), i + k = L.tail.length → k < n → acc.length = i →
    m_impl_readItems_L1 L n acc (i : Int) = some (match mapO itemI (L.tail.drop i) with | none => .inl () | some r => .inr (acc ++ r))
  | 0, i, n, acc, hik, hn, ha => by
    obtain ⟨n, rfl⟩ : ∃ m, n = m + 1 := ⟨n - 1, by omega⟩
    have ht := List.length_tail (l := L)
    rw [m_impl_readItems_L1, nm_eq, decide_eq_false (by simp only [Int.toNat_natCast]; have e1 : (1 : Int).toNat = 1 := rfl; omega), cond_false, List.drop_of_length_le (by omega)]
    simp [mapO]
  | k + 1, i, n, acc, hik, hn, ha => by
    obtain ⟨n, rfl⟩ : ∃ m, n = m + 1 := ⟨n - 1, by omega⟩
    have ht := List.length_tail (l := L)
    have e1 : (1 : Int).toNat = 1 := rfl
    have hi : i < L.tail.length := by omega
    have hi' : i + 1 < L.length := by omega
    have hd : L.tail.drop i = L[i + 1] :: L.tail.drop (i + 1) := by
      rw [List.drop_eq_getElem_cons hi, List.getElem_tail]
    have hws := hw _ (List.getElem_mem hi')
    have hg : gt L (((1 : Int).toNat + (i : Int).toNat : Nat) : Int) = L[i + 1] := by
      rw [e1, Int.toNat_natCast, Nat.add_comm 1 i]; exact gt_nat hi'
    have ih : ∀ acc' : List LItem, acc'.length = i + 1 → _ := fun acc' h => impl_items_L1 L hL hne hw k (i + 1) n acc' (by omega) (by omega) h
    rw [m_impl_readItems_L1, nm_eq, decide_eq_true (by rw [Int.toNat_natCast, e1]; omega), cond_true, gd_pos (by rw [Int.toNat_natCast, Int.toNat_natCast, e1]; omega), hg, m_strings_Cut, gd_pos (by omega), bd_some, hd, mapO_cons]
    have e3 : (ByteArray.mk #[32, 61, 32]).data.toList = eq3 := rfl
    rw [e3, w64s (i := i) (by omega), itemI]
    generalize hc : Lib.cut L[i + 1].data.toList eq3 = c at *
    obtain ⟨p, q, b⟩ := c
    have hq : q.length ≤ 1000000000 := by
      have : q.length ≤ L[i + 1].data.toList.length := by
        cases hb : b with
        | true =>
          have h0 : (Lib.cut L[i + 1].data.toList eq3).2.2 = true := by rw [hc]; exact hb
          have := congrArg List.length (cut_found h0)
          rw [hc] at this
          simp only [List.length_append] at this
          omega
        | false =>
          have h0 : (Lib.cut L[i + 1].data.toList eq3).2.2 = false := by rw [hc]; exact hb
          have := cut_not h0
          rw [hc] at this
          simp only [Prod.mk.injEq] at this
          rw [this.2.1]; simp
      rw [← size_list] at this
      omega
    simp only []
    cases b with
    | false =>
      rw [cond_false, gd_pos (by rw [List.length_singleton]; omega), ih _ (by rw [List.length_append, List.length_singleton]; omega)]
      simp only [Bool.false_eq_true, if_false, Bool.not_false]
      cases mapO itemI (L.tail.drop (i + 1)) with
      | none => rfl
      | some r => simp only [Option.map_some, List.append_assoc, List.singleton_append]; rfl
    | true =>
      rw [cond_true, show (⟨q.toArray⟩ : ByteArray) = bl q from rfl, impl_decimal (by rw [bl_size]; exact hq), bd_some]
      simp only [if_true]
      cases hd2 : (decC (bl q)).2 with
      | false => rw [Bool.not_false, cond_true]; rfl
      | true =>
        rw [Bool.not_true, cond_false, gd_pos (by rw [List.length_singleton]; omega), ih _ (by rw [List.length_append, List.length_singleton]; omega)]
        simp only [if_true, Bool.not_true]
        cases mapO itemI (L.tail.drop (i + 1)) with
        | none => rfl
        | some r => simp only [Option.map_some, List.append_assoc, List.singleton_append]; rfl

theorem impl_readItems {s : ByteArray} (hs : s.size ≤ 100000000) : m_impl_readItems s = some (if (linesC s).length ≤ 13 then itemsC itemI s else (ByteArray.empty, [], false)) := by
  obtain ⟨hl, hz⟩ := linesC_size s
  have hne := linesC_ne s
  have hlen : 0 < (linesC s).length := List.length_pos_iff.2 hne
  have e10 : (ByteArray.mk #[10]).data.toList = [10] := rfl
  have es : m_strings_Split (bl (Lib.trimSuffix s.data.toList [10])) (bl [10]) = some (linesC s) := by
    have := trim_size s
    exact strings_Split (by omega)
  rw [m_impl_readItems, m_strings_CutSuffix, gd_pos (by omega), bd_some, e10]
  show bd (m_strings_Split (bl (Lib.trimSuffix s.data.toList [10])) (bl [10])) _ = _
  rw [es, bd_some, itemsC]
  show (bif (!endsC s) then _ else _) = _
  cases he : endsC s with
  | false =>
    rw [Bool.not_false, cond_true]
    simp
  | true =>
    rw [Bool.not_true, cond_false]
    by_cases h13 : 13 < ((linesC s).length : Int)
    · rw [cond_pos h13, if_neg (by omega)]
    · have el := impl_items_L1 (linesC s) (by omega) hne (fun w hw => by have := hz w hw; omega) (linesC s).tail.length 0 FU [] (by omega) (by rw [FU_eq, List.length_tail]; omega) rfl
      have el' : m_impl_readItems_L1 (linesC s) FU [] 0 = some (match mapO itemI (linesC s).tail with | none => .inl () | some r => .inr ([] ++ r)) := el
      rw [cond_neg h13, if_pos (by omega), gd_pos (by omega)]
      show bd (m_impl_readItems_L1 (linesC s) FU [] 0) _ = _
      rw [el', bd_some]
      simp only [if_true]
      cases mapO itemI (linesC s).tail with
      | none => rfl
      | some r =>
        simp only [sm, List.nil_append]
        rw [gd_pos (by omega)]

theorem spec_parseItem {w : ByteArray} (hw : w.size ≤ 100000000) : ∃ x, m_spec_parseItem w = some x ∧ (itemS w = if x.2.2.2 then some (x.1, x.2.1, x.2.2.1) else none) := by
  have es : m_spec_splitAt w 32 = some (wordsC w 32) := spec_splitAt (s := w) (c := 32) (by omega)
  have hz := wordsC_size w 32
  rw [m_spec_parseItem, es, bd_some, itemS]
  by_cases h1 : (wordsC w 32).length = 1
  · rw [cond_pos (by omega), if_pos h1]; exact ⟨_, rfl, rfl⟩
  · rw [cond_neg (by omega), if_neg h1]
    by_cases h3 : (wordsC w 32).length = 3
    · have m2 : gt (wordsC w 32) 2 ∈ wordsC w 32 := gt_mem (by omega)
      rw [decide_eq_true (by omega), Bool.not_true, cond_false, gd_pos (by omega), show (ByteArray.mk #[61]) = bl [61] from rfl]
      by_cases h4 : gt (wordsC w 32) 1 = bl [61]
      · rw [decide_eq_true h4, Bool.not_true, cond_false, gd_pos (by omega), spec_readSigned (by have := hz _ m2; omega), bd_some, gd_pos (by omega), if_pos ⟨h3, h4⟩]
        exact ⟨_, rfl, rfl⟩
      · rw [decide_eq_false h4, Bool.not_false, cond_true, if_neg (fun h => h4 h.2)]
        exact ⟨_, rfl, rfl⟩
    · rw [decide_eq_false (by omega), Bool.not_false, cond_true, if_neg (fun h => h3 h.1)]
      exact ⟨_, rfl, rfl⟩

theorem spec_items_L1 (L : List ByteArray) (e : ByteArray) (hL : L.length ≤ 1000000000) (hne : L ≠ []) (hw : ∀ w ∈ L, w.size ≤ 100000000) : ∀ (k i n : Nat) (acc : List LItem), i + k = L.tail.length → k < n → acc.length = i →
    m_spec_parseItems_L1 (L ++ [e]) n acc ((i + 1 : Nat) : Int) = some (match mapO itemS (L.tail.drop i) with | none => .inl () | some r => .inr (acc ++ r))
  | 0, i, n, acc, hik, hn, ha => by
    obtain ⟨n, rfl⟩ : ∃ m, n = m + 1 := ⟨n - 1, by omega⟩
    have ht := List.length_tail (l := L)
    have hp : 0 < L.length := List.length_pos_iff.2 hne
    have hl : (L ++ [e]).length = L.length + 1 := by simp
    rw [m_spec_parseItems_L1, w64s (i := i + 1) (by omega), cond_neg (by rw [hl]; omega), List.drop_of_length_le (by omega)]
    simp [mapO]
  | k + 1, i, n, acc, hik, hn, ha => by
    obtain ⟨n, rfl⟩ : ∃ m, n = m + 1 := ⟨n - 1, by omega⟩
    have ht := List.length_tail (l := L)
    have hl : (L ++ [e]).length = L.length + 1 := by simp
    have hi : i < L.tail.length := by omega
    have hi' : i + 1 < L.length := by omega
    have hd : L.tail.drop i = L[i + 1] :: L.tail.drop (i + 1) := by
      rw [List.drop_eq_getElem_cons hi, List.getElem_tail]
    have hg : gt (L ++ [e]) ((i + 1 : Nat) : Int) = L[i + 1] := by
      rw [gt_nat (by rw [hl]; omega), List.getElem_append_left hi']
    obtain ⟨x, ex, hx⟩ := spec_parseItem (hw _ (List.getElem_mem hi'))
    rw [m_spec_parseItems_L1, w64s (i := i + 1) (by omega), cond_pos (by rw [hl]; omega), gd_pos (by rw [hl]; omega), hg, ex, bd_some, hd, mapO_cons, hx]
    cases hb : x.2.2.2 with
    | false => rw [Bool.not_false, cond_true]; rfl
    | true =>
      rw [Bool.not_true, cond_false, gd_pos (by rw [List.length_singleton]; omega), spec_items_L1 L e hL hne hw k (i + 1) n _ (by omega) (by omega) (by rw [List.length_append, List.length_singleton]; omega)]
      simp only [if_true]
      cases mapO itemS (L.tail.drop (i + 1)) with
      | none => rfl
      | some r => simp only [Option.map_some, List.append_assoc, List.singleton_append]

theorem spec_parseItems {s : ByteArray} (hs : s.size ≤ 100000000) : m_spec_parseItems s = some (itemsC itemS s) := by
  obtain ⟨hl, hz⟩ := linesC_size s
  have hne := linesC_ne s
  have hlen : 0 < (linesC s).length := List.length_pos_iff.2 hne
  have hwl := wordsC_length s 10
  have es : m_spec_splitAt s 10 = some (wordsC s 10) := spec_splitAt (s := s) (c := 10) (by omega)
  rw [m_spec_parseItems, es, bd_some, itemsC]
  cases he : endsC s with
  | true =>
    have hw : (linesC s ++ [ByteArray.empty]).length = (linesC s).length + 1 := by simp
    have hg : gt (linesC s ++ [ByteArray.empty]) (((linesC s).length : Nat) : Int) = ByteArray.empty := by
      rw [gt_nat (by rw [hw]; omega)]; simp
    have ew : IntKind.wrap .i64 (((linesC s ++ [ByteArray.empty]).length : Int) - 1) = (((linesC s).length : Nat) : Int) := by
      rw [hw, w64 (by omega) (by omega)]; omega
    have el := spec_items_L1 (linesC s) ByteArray.empty (by omega) hne (fun w hw => by have := hz w hw; omega) (linesC s).tail.length 0 FU [] (by omega) (by rw [FU_eq, List.length_tail]; omega) rfl
    have el' : m_spec_parseItems_L1 (linesC s ++ [ByteArray.empty]) FU [] 1 = some (match mapO itemS (linesC s).tail with | none => .inl () | some r => .inr ([] ++ r)) := el
    have g0 : gt (linesC s ++ [ByteArray.empty]) (0 : Int) = gt (linesC s) (0 : Int) := by
      have a1 := gt_nat (l := linesC s ++ [ByteArray.empty]) (i := 0) (by rw [hw]; omega)
      have a2 := gt_nat (l := linesC s) (i := 0) hlen
      rw [List.getElem_append_left hlen] at a1
      exact a1.trans a2.symm
    rw [lines_ends he, cond_neg (by rw [hw]; omega), ew, gd_pos (by rw [hw]; omega), nm_eq, hg, decide_eq_true rfl, Bool.not_true, cond_false]
    show bd (m_spec_parseItems_L1 (linesC s ++ [ByteArray.empty]) FU [] 1) _ = _
    rw [el', bd_some]
    simp only [if_true]
    cases mapO itemS (linesC s).tail with
    | none => rfl
    | some r =>
      simp only [sm, List.nil_append]
      rw [gd_pos (by rw [hw]; omega), g0]
  | false =>
    rcases lines_not he with h1 | ⟨a, b, e, ha, hb⟩
    · rw [cond_pos (by omega)]; simp
    · have hw : (a ++ [b]).length = a.length + 1 := by simp
      have hp : 0 < a.length := List.length_pos_iff.2 ha
      have hle : a.length ≤ s.size + 1 := by rw [e, hw] at hwl; omega
      have hg : gt (a ++ [b]) ((a.length : Nat) : Int) = b := by
        rw [gt_nat (by rw [hw]; omega)]; simp
      have ew : IntKind.wrap .i64 (((a ++ [b]).length : Int) - 1) = ((a.length : Nat) : Int) := by
        rw [hw, w64 (by omega) (by omega)]; omega
      rw [e, cond_neg (by rw [hw]; omega), ew, gd_pos (by rw [hw]; omega), nm_eq, hg, decide_eq_false hb, Bool.not_false, cond_true]
      simp

/-- what ParseEnum answers -/
def parseEnumC (s : ByteArray) : List (ByteArray × Int) × Bool :=
  if (itemsC itemS s).2.2 = true ∧ (itemsC itemS s).1 = bl [101, 110, 117, 109] then benum (itemsC itemS s).2.1 else ([], false)

theorem items_in {f : ByteArray → Option LItem} (hf : ∀ w x, w.size ≤ 100000000 → f w = some x → x.1.size ≤ 100000000 ∧ I64 x.2.2) {s : ByteArray} (hs : s.size ≤ 100000000) : ItemsIn (itemsC f s).2.1 := by
  rw [itemsC]
  split
  · obtain ⟨hl, hz⟩ := linesC_size s
    split
    · exact ⟨by simp, by simp, by simp⟩
    · rename_i r hr
      obtain ⟨h1, h2, _⟩ := mapO_mem hr
      have ht := List.length_tail (l := linesC s)
      refine ⟨by simp only; omega, fun x hx => ?_, fun x hx => ?_⟩
      · obtain ⟨w, hw, e⟩ := h2 x hx
        have := (hf w x (by have := hz w (List.mem_of_mem_tail hw); omega) e).1
        omega
      · obtain ⟨w, hw, e⟩ := h2 x hx
        exact (hf w x (by have := hz w (List.mem_of_mem_tail hw); omega) e).2
  · exact ⟨by simp, by simp, by simp⟩

theorem itemS_in (w : ByteArray) (x : LItem) (hw : w.size ≤ 100000000) (h : itemS w = some x) : x.1.size ≤ 100000000 ∧ I64 x.2.2 := by
  rw [itemS] at h
  split at h
  · cases h; exact ⟨hw, by simp only; omega, by simp only; omega⟩
  · split at h
    · rename_i h3
      split at h
      · rename_i h4
        cases h
        have m0 : gt (wordsC w 32) 0 ∈ wordsC w 32 := gt_mem (by omega)
        have := wordsC_size w 32 _ m0
        obtain ⟨_, h5, h6⟩ := sgnC_ok h4
        exact ⟨by simp only; omega, by simp only; omega, by simp only; omega⟩
      · cases h
    · cases h

theorem itemI_in (w : ByteArray) (x : LItem) (hw : w.size ≤ 100000000) (h : itemI w = some x) : x.1.size ≤ 100000000 ∧ I64 x.2.2 := by
  have hp : (bl (Lib.cut w.data.toList eq3).1).size ≤ 100000000 := by
    rw [bl_size]
    cases hb : (Lib.cut w.data.toList eq3).2.2 with
    | true =>
      have := congrArg List.length (cut_found hb)
      rw [← size_list, List.length_append] at this
      omega
    | false => rw [cut_not hb]; simp only; rw [← size_list]; exact hw
  rw [itemI] at h
  split at h
  · split at h
    · rename_i h4
      cases h
      exact ⟨hp, (decC_ok h4).2⟩
    · cases h
  · cases h
    exact ⟨hp, by simp only; omega, by simp only; omega⟩

theorem benum_bad {r : List LItem} (h : ∃ x ∈ r, ¬ Good x) : benum r = ([], false) := by
  rw [benum, if_neg]
  rintro ⟨h1, h2⟩
  obtain ⟨x, hx, hg⟩ := h
  have := ItemsOk.ofE h1 h2
  obtain ⟨i, hi, rfl⟩ := List.mem_iff_getElem.1 hx
  have h3 := this.1 i hi
  rw [gt_nat hi] at h3
  exact hg ⟨h3.1, h3.2.2.1.1, by have := h3.2.2.1.2; omega⟩

theorem benum_long {r : List LItem} (h : 12 < r.length) : benum r = ([], false) := by
  rw [benum, if_neg]
  rintro ⟨h1, h2⟩
  have := h2.len
  rw [cbuild_length] at this
  simp at this; omega

theorem spec_ParseEnum {s : ByteArray} (hs : s.size ≤ 100000000) : m_spec_ParseEnum s = some (parseEnumC s) := by
  rw [m_spec_ParseEnum, spec_parseItems hs, bd_some, parseEnumC, show (ByteArray.mk #[101, 110, 117, 109]) = bl [101, 110, 117, 109] from rfl]
  have hin := items_in itemS_in hs
  cases h1 : (itemsC itemS s).2.2 with
  | false => rw [Bool.not_false, cond_true, if_neg (by simp)]
  | true =>
    rw [Bool.not_true, cond_false]
    by_cases h2 : (itemsC itemS s).1 = bl [101, 110, 117, 109]
    · rw [decide_eq_true h2, Bool.not_true, cond_false, spec_BuildEnum hin, bd_some, if_pos ⟨rfl, h2⟩]
    · rw [decide_eq_false h2, Bool.not_false, cond_true, if_neg (fun h => h2 h.2)]

/-- the two readings build the same, whatever is built, if bad items and too many of them build nothing -/
theorem readings {R : Type} (bld : List LItem → R) (bad : R) (hb : ∀ r, (∃ x ∈ r, ¬ Good x) → bld r = bad) (hlong : ∀ r : List LItem, 12 < r.length → bld r = bad) (hdr : ByteArray → Prop) [∀ w, Decidable (hdr w)] (s : ByteArray) :
    (if (if (linesC s).length ≤ 13 then itemsC itemI s else (ByteArray.empty, [], false)).2.2 = true ∧ hdr (if (linesC s).length ≤ 13 then itemsC itemI s else (ByteArray.empty, [], false)).1 then bld (if (linesC s).length ≤ 13 then itemsC itemI s else (ByteArray.empty, [], false)).2.1 else bad) =
    (if (itemsC itemS s).2.2 = true ∧ hdr (itemsC itemS s).1 then bld (itemsC itemS s).2.1 else bad) := by
  by_cases he : endsC s = true
  · have ht := List.length_tail (l := linesC s)
    have es : itemsC itemS s = match mapO itemS (linesC s).tail with | none => (ByteArray.empty, [], false) | some r => (gt (linesC s) 0, r, true) := by rw [itemsC, if_pos he]
    have ei : itemsC itemI s = match mapO itemI (linesC s).tail with | none => (ByteArray.empty, [], false) | some r => (gt (linesC s) 0, r, true) := by rw [itemsC, if_pos he]
    have spec_bad : (∀ r, mapO itemS (linesC s).tail = some r → bld r = bad) → (if (itemsC itemS s).2.2 = true ∧ hdr (itemsC itemS s).1 then bld (itemsC itemS s).2.1 else bad) = bad := fun h => by
      rw [es]
      cases hr : mapO itemS (linesC s).tail with
      | none => simp
      | some r => simp only []; rw [h r hr]; simp
    by_cases h13 : (linesC s).length ≤ 13
    · simp only [if_pos h13]
      rcases same_items (linesC s).tail with h | ⟨h1, h2⟩
      · rw [ei, es, h]
      · rw [spec_bad (fun r hr => hb r (h2 r hr)), ei]
        cases hr : mapO itemI (linesC s).tail with
        | none => simp
        | some r => simp only []; rw [hb r (h1 r hr)]; simp
    · simp only [if_neg h13]
      rw [spec_bad (fun r hr => hlong r (by have := (mapO_mem hr).1; omega))]
      simp
  · have e1 : ∀ f, itemsC f s = (ByteArray.empty, [], false) := fun f => by rw [itemsC, if_neg he]
    rw [e1, e1]
    simp

theorem impl_ParseEnum {s : ByteArray} (hs : s.size ≤ 100000000) : m_impl_ParseEnum s = some (parseEnumC s) := by
  have key := readings benum ([], false) (fun r h => benum_bad h) (fun r h => benum_long h) (fun w => w = bl [101, 110, 117, 109]) s
  rw [m_impl_ParseEnum, impl_readItems hs, bd_some, parseEnumC, ← key, show (ByteArray.mk #[101, 110, 117, 109]) = bl [101, 110, 117, 109] from rfl]
  have hin : ItemsIn (if (linesC s).length ≤ 13 then itemsC itemI s else (ByteArray.empty, [], false)).2.1 := by
    split
    · exact items_in itemI_in hs
    · exact ⟨by simp, by simp, by simp⟩
  generalize (if (linesC s).length ≤ 13 then itemsC itemI s else (ByteArray.empty, [], false)) = q at hin
  cases h1 : q.2.2 with
  | false => rw [Bool.not_false, cond_true, if_neg (by simp)]
  | true =>
    rw [Bool.not_true, cond_false]
    by_cases h2 : q.1 = bl [101, 110, 117, 109]
    · rw [decide_eq_true h2, Bool.not_true, cond_false, impl_BuildEnum hin, bd_some, if_pos ⟨rfl, h2⟩]
    · rw [decide_eq_false h2, Bool.not_false, cond_true, if_neg (fun h => h2 h.2)]

theorem parseEnumC_len (s : ByteArray) : (parseEnumC s).1.length ≤ 12 := by
  rw [parseEnumC]
  split
  · rw [benum]
    split
    · rename_i h; exact h.2.len
    · simp
  · simp

theorem law_FnExactParseEnum (p1 : ByteArray) (h1 : p1.size ≤ 9223372036854775807) : m_laws_FnExactParseEnum p1 = some true := by
  rw [m_laws_FnExactParseEnum]
  by_cases hz : 1048576 < (p1.size : Int)
  · rw [cond_pos hz]
  · have hl := parseEnumC_len p1
    rw [cond_neg hz, spec_ParseEnum (by omega), bd_some, impl_ParseEnum (by omega), bd_some]
    have hh := laws_heldEnum (k := 1) (n := (parseEnumC p1).1.length) (by omega) (by omega)
    have hh' : m_laws_heldEnum ((List.range (parseEnumC p1).1.length).map (markDef 1)) 1 = some ((1 + 2 * (parseEnumC p1).1.length : Nat) : Int) := hh
    rw [laws_eqEnum_self (by omega), bd_some, Bool.not_true, cond_false, beq_self_eq_true, Bool.not_true, cond_false, markEnum_one (by omega), bd_some, gd_pos (by simp)]
    simp only []
    rw [hh', bd_some, cond_neg (by omega), decide_eq_true rfl, Bool.not_true, cond_false, bd_some, bd_some, cond_neg (by omega)]
    simp [laws_eqEnum_self (l := (parseEnumC p1).1) (by omega), bd_some]

end Go.Eng
