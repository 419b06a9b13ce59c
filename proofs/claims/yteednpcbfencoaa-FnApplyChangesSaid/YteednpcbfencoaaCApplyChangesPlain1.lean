/- What is proved: plain laws of the models, up to the law itself. Conditions: sizes and ranges of what is handed over, as each says. -/
import Derived.Test.YteednpcbfencoaaCApplyChangesModels
set_option linter.unusedVariables false
set_option linter.unusedSimpArgs false
namespace Go.Eng
open Go

theorem w64 {a : Int} (h1 : -9223372036854775808 ≤ a) (h2 : a ≤ 9223372036854775807) : IntKind.wrap .i64 a = a := by
  rw [IntKind.wrap_i64]; omega

def I64 (a : Int) : Prop := -9223372036854775808 ≤ a ∧ a ≤ 9223372036854775807

theorem w64s {i : Nat} (h : i < 4611686018427387904) : IntKind.wrap .i64 ((i : Int) + 1) = ((i + 1 : Nat) : Int) := by
  rw [w64 (by omega) (by omega)]; omega

theorem gd_pos {α : Type} {p : Prop} [Decidable p] (h : p) (x : Option α) : gd p x = x := by unfold gd; rw [if_pos h]

theorem bd_some {α β : Type} (a : α) (f : α → Option β) : bd (some a) f = f a := rfl

theorem nm_eq {α β : Type} (a : α) (f : α → Option β) : nm a f = f a := rfl

theorem sm_inl {α β γ : Type} (a : α) (f : α → γ) (g : β → γ) : sm (.inl a) f g = f a := rfl

theorem sm_inr {α β γ : Type} (b : β) (f : α → γ) (g : β → γ) : sm (.inr b) f g = g b := rfl

/-- it has an answer, and of this it holds -/
def Wp {α : Type} (x : Option α) (Q : α → Prop) : Prop := ∃ r, x = some r ∧ Q r

theorem Wp_some {α : Type} {a : α} {Q : α → Prop} : Wp (some a) Q ↔ Q a := ⟨fun ⟨r, h, q⟩ => by cases h; exact q, fun h => ⟨a, rfl, h⟩⟩

theorem Wp_eq {α : Type} {x : Option α} {r : α} : Wp x (fun a => a = r) ↔ x = some r := ⟨fun ⟨a, h, e⟩ => by rw [h, e], fun h => ⟨r, h, rfl⟩⟩

theorem Wp.eq {α : Type} {x : Option α} {r : α} (h : Wp x (fun a => a = r)) : x = some r := Wp_eq.1 h

theorem Wp.of {α : Type} {x : Option α} {r : α} {Q : α → Prop} (h : x = some r) (q : Q r) : Wp x Q := ⟨r, h, q⟩

/-- a loop by invariant and measure -/
theorem loopW {σ ρ : Type} (L : Nat → σ → Option ρ) (I : σ → Prop) (μ : σ → Nat) (Q : ρ → Prop)
    (hs : ∀ n s, I s → (∀ s', I s' → μ s' < μ s → Wp (L n s') Q) → Wp (L (n + 1) s) Q) : ∀ n s, I s → μ s < n → Wp (L n s) Q
  | 0, s, _, h => absurd h (Nat.not_lt_zero _)
  | n + 1, s, hi, h => hs n s hi fun s' hi' hm => loopW L I μ Q hs n s' hi' (by omega)

/-- a loop over a list -/
theorem listW {α σ ρ : Type} [Inhabited α] (l : List α) (L : Nat → Int → σ → Option ρ) (I : Nat → σ → Prop) (Q : ρ → Prop)
    (h0 : ∀ n s, I l.length s → Wp (L (n + 1) (l.length : Int) s) Q)
    (hs : ∀ n i s d, i < l.length → gt l (i : Int) = d → l.drop i = d :: l.drop (i + 1) → d ∈ l → I i s → (∀ s', I (i + 1) s' → Wp (L n ((i + 1 : Nat) : Int) s') Q) → Wp (L (n + 1) (i : Int) s) Q)
    (N : Nat) (hl : l.length < N) (s : σ) (h : I 0 s) : Wp (L N 0 s) Q := by
  have key : ∀ (k i n : Nat) (s : σ), i + k = l.length → k < n → I i s → Wp (L n (i : Int) s) Q := by
    intro k
    induction k with
    | zero =>
      intro i n s hk hn hi
      cases n with
      | zero => omega
      | succ n =>
        have e : i = l.length := by omega
        subst e
        exact h0 n s hi
    | succ k ih =>
      intro i n s hk hn hi
      cases n with
      | zero => omega
      | succ n =>
        have hlt : i < l.length := by omega
        have e1 : gt l (i : Int) = l[i] := by
          unfold gt
          rw [Int.toNat_natCast, List.getD_eq_getElem?_getD, List.getElem?_eq_getElem hlt, Option.getD_some]
        have e2 : l.drop i = l[i] :: l.drop (i + 1) := List.drop_eq_getElem_cons hlt
        exact hs n i s l[i] hlt e1 e2 (List.getElem_mem hlt) hi fun s' hs' => ih (i + 1) n s' (by omega) (by omega) hs'
  exact key l.length 0 N s (by omega) hl h

theorem gt_nat {α : Type} [Inhabited α] {l : List α} {i : Nat} (h : i < l.length) : gt l (i : Int) = l[i] := by
  unfold gt
  rw [Int.toNat_natCast, List.getD_eq_getElem?_getD, List.getElem?_eq_getElem h, Option.getD_some]

theorem gt_mem {α : Type} [Inhabited α] {l : List α} {q : Int} (h : 0 ≤ q ∧ q < (l.length : Int)) : gt l q ∈ l := by
  obtain ⟨i, rfl⟩ := Int.eq_ofNat_of_zero_le h.1
  have hi : i < l.length := by omega
  have e : gt l (i : Int) = l[i] := gt_nat hi
  rw [e]; exact List.getElem_mem hi

theorem sub_zero {α : Type} (l : List α) (i : Nat) : sub l 0 (i : Int) = l.take i := by simp [sub]

/-- the place of the first element of a kind, -1 if there is none -/
def ix {α : Type} (p : α → Bool) (l : List α) : Int := match l.findIdx? p with | some i => (i : Int) | none => -1

theorem ix_cases {α : Type} [Inhabited α] (p : α → Bool) (l : List α) :
    (ix p l = -1 ∧ l.find? p = none ∧ ∀ d ∈ l, p d = false) ∨
    ∃ (i : Nat) (d : α), ix p l = i ∧ i < l.length ∧ gt l (i : Int) = d ∧ l.find? p = some d ∧ d ∈ l ∧ p d = true := by
  unfold ix
  cases h : l.findIdx? p with
  | none =>
    left
    rw [List.findIdx?_eq_none_iff] at h
    exact ⟨rfl, List.find?_eq_none.2 (fun d hd => by simp [h d hd]), h⟩
  | some i =>
    right
    rw [List.findIdx?_eq_some_iff_getElem] at h
    obtain ⟨hi, h1, h2⟩ := h
    refine ⟨i, l[i], rfl, hi, gt_nat hi, ?_, List.getElem_mem hi, h1⟩
    rw [List.find?_eq_some_iff_getElem]
    exact ⟨h1, i, hi, rfl, fun j hj => by simpa using h2 j hj⟩

theorem ix_range {α : Type} (p : α → Bool) (l : List α) : -1 ≤ ix p l ∧ ix p l < (l.length : Int) := by
  unfold ix
  cases h : l.findIdx? p with
  | none => simp only; omega
  | some i =>
    rw [List.findIdx?_eq_some_iff_getElem] at h
    obtain ⟨hi, _⟩ := h
    simp only; omega

theorem bv64 (a : Nat) (ha : a < 9223372036854775808) : (BitVec.ofInt 64 (a : Int)).toNat = a := by
  rw [BitVec.ofInt_natCast, BitVec.toNat_ofNat]; exact Nat.mod_eq_of_lt (by omega)

theorem xor64 {a b : Nat} (ha : a < 9223372036854775808) (hb : b < 9223372036854775808) : Go.bits .xor .i64 (a : Int) (b : Int) = ((a ^^^ b : Nat) : Int) := by
  have hx : a ^^^ b < 2 ^ 63 := Nat.xor_lt_two_pow (by omega) (by omega)
  show IntKind.i64.wrap ((BitVec.ofInt 64 (a : Int) ^^^ BitVec.ofInt 64 (b : Int)).toNat : Int) = _
  rw [BitVec.toNat_xor, bv64 a ha, bv64 b hb, w64 (by omega) (by omega)]

theorem cond_pos {α : Type} {p : Prop} [Decidable p] (h : p) (x y : α) : (bif decide p then x else y) = x := by rw [decide_eq_true h]; rfl

theorem cond_neg {α : Type} {p : Prop} [Decidable p] (h : ¬ p) (x y : α) : (bif decide p then x else y) = y := by rw [decide_eq_false h]; rfl

theorem cond_if {α : Type} {p : Prop} [Decidable p] (x y : α) : (bif decide p then x else y) = if p then x else y := by
  by_cases h : p <;> simp [h]

/-- a search -/
theorem findI {α : Type} [Inhabited α] (l : List α) (L : Nat → Int → Option (Int ⊕ Unit)) (p : α → Bool)
    (hend : ∀ n, L (n + 1) (l.length : Int) = some (.inr ()))
    (hstep : ∀ n i, i < l.length → L (n + 1) (i : Int) = if p (gt l (i : Int)) then some (.inl (i : Int)) else L n ((i + 1 : Nat) : Int))
    (N : Nat) (hl : l.length < N) : L N 0 = some (match l.findIdx? p with | some i => .inl (i : Int) | none => .inr ()) := by
  refine (listW l (fun n i (_ : Unit) => L n i) (fun i _ => ∀ d ∈ l.take i, p d = false)
    (fun r => r = (match l.findIdx? p with | some i => .inl (i : Int) | none => .inr ())) ?_ ?_ N hl () (by simp)).eq
  · intro n _ hI
    rw [List.take_length] at hI
    rw [hend]
    refine Wp_some.2 ?_
    rw [List.findIdx?_eq_none_iff.2 hI]
  · intro n i _ d hi hg hd hm hI ih
    rw [hstep n i hi, hg]
    by_cases h : p d = true
    · rw [if_pos h]
      refine Wp_some.2 ?_
      have : l.findIdx? p = some i := by
        rw [List.findIdx?_eq_some_iff_getElem]
        refine ⟨hi, by rw [← gt_nat hi, hg]; exact h, fun j hj => ?_⟩
        simpa using hI l[j] (List.mem_take_iff_getElem.2 ⟨j, by omega, rfl⟩)
      rw [this]
    · rw [if_neg h]
      refine ih () ?_
      intro e he
      rw [List.take_succ_eq_append_getElem hi, List.mem_append] at he
      rcases he with he | he
      · exact hI e he
      · rw [← gt_nat hi, hg] at he
        simp at he; subst he; simpa using h

/-- a check of all, by place: what comes out where one is of the kind, and where none is -/
theorem anyI {α ρ : Type} [Inhabited α] (l : List α) (L : Nat → Int → Option ρ) (P : Nat → Prop) (x y : ρ)
    (hend : ∀ n, L (n + 1) (l.length : Int) = some y)
    (hstep : ∀ n i, i < l.length → (P i ∧ L (n + 1) (i : Int) = some x) ∨ (¬ P i ∧ L (n + 1) (i : Int) = L n ((i + 1 : Nat) : Int)))
    (N : Nat) (hl : l.length < N) : ((∃ i, i < l.length ∧ P i) ∧ L N 0 = some x) ∨ ((∀ i, i < l.length → ¬ P i) ∧ L N 0 = some y) := by
  have h := listW l (fun n i (_ : Unit) => L n i) (fun i _ => ∀ j, j < i → ¬ P j)
    (fun r => ((∃ i, i < l.length ∧ P i) ∧ r = x) ∨ ((∀ i, i < l.length → ¬ P i) ∧ r = y)) ?_ ?_ N hl () (by intro j hj; omega)
  · obtain ⟨r, e, h⟩ := h
    have e : L N 0 = some r := e
    rw [e]
    rcases h with ⟨h1, rfl⟩ | ⟨h1, rfl⟩
    · exact .inl ⟨h1, rfl⟩
    · exact .inr ⟨h1, rfl⟩
  · intro n _ hI
    rw [hend]
    exact Wp_some.2 (.inr ⟨hI, rfl⟩)
  · intro n i _ d hi hg hd hm hI ih
    rcases hstep n i hi with ⟨h1, h2⟩ | ⟨h1, h2⟩
    · rw [h2]; exact Wp_some.2 (.inl ⟨⟨i, hi, h1⟩, rfl⟩)
    · rw [h2]
      refine ih () fun j hj => ?_
      by_cases e : j = i
      · subst e; exact h1
      · exact hI j (by omega)

/-- a gathering: each element gives a list -/
theorem accW {α β : Type} [Inhabited α] (l : List α) (L : Nat → List β → Int → Option (List β)) (g : α → List β) (c : Nat) (hc : ∀ d ∈ l, (g d).length ≤ c)
    (hend : ∀ n acc, L (n + 1) acc (l.length : Int) = some acc)
    (hstep : ∀ n i acc, i < l.length → gt l (i : Int) ∈ l → acc.length ≤ c * i → L (n + 1) acc (i : Int) = L n (acc ++ g (gt l (i : Int))) ((i + 1 : Nat) : Int))
    (N : Nat) (hl : l.length < N) : L N [] 0 = some (l.flatMap g) := by
  refine (listW l (fun n i acc => L n acc i) (fun i acc => acc.length ≤ c * i ∧ acc ++ (l.drop i).flatMap g = l.flatMap g)
    (fun r => r = l.flatMap g) ?_ ?_ N hl [] ⟨by simp, by simp⟩).eq
  · intro n acc hI
    rw [hend]
    refine Wp_some.2 ?_
    have := hI.2
    rw [List.drop_length] at this
    simpa using this
  · intro n i acc d hi hg hd hm hI ih
    rw [hstep n i acc hi (by rw [hg]; exact hm) hI.1, hg]
    refine ih _ ⟨?_, ?_⟩
    · have := hc d hm
      rw [List.length_append, Nat.mul_succ]; have := hI.1; omega
    · have := hI.2
      rw [hd, List.flatMap_cons, ← List.append_assoc] at this
      exact this

/-- a fold -/
theorem foldW {α σ : Type} [Inhabited α] (l : List α) (L : Nat → σ → Int → Option σ) (g : σ → α → σ) (I : Nat → σ → Prop)
    (hend : ∀ n s, L (n + 1) s (l.length : Int) = some s)
    (hstep : ∀ n i s, i < l.length → gt l (i : Int) ∈ l → I i s → I (i + 1) (g s (gt l (i : Int))) ∧ L (n + 1) s (i : Int) = L n (g s (gt l (i : Int))) ((i + 1 : Nat) : Int))
    (N : Nat) (hl : l.length < N) (s : σ) (h0 : I 0 s) : L N s 0 = some (l.foldl g s) ∧ I l.length (l.foldl g s) := by
  have h := listW l (fun n i s => L n s i) (fun i t => I i t ∧ (l.drop i).foldl g t = l.foldl g s)
    (fun r => r = l.foldl g s ∧ I l.length r) ?_ ?_ N hl s ⟨h0, by simp⟩
  · obtain ⟨r, e, rfl, h2⟩ := h
    exact ⟨e, h2⟩
  · intro n t hI
    rw [hend]
    refine Wp_some.2 ?_
    have := hI.2
    rw [List.drop_length] at this
    exact ⟨this, hI.1⟩
  · intro n i t d hi hg hd hm hI ih
    have hs := hstep n i t hi (by rw [hg]; exact hm) hI.1
    rw [hg] at hs
    rw [hs.2]
    refine ih _ ⟨hs.1, ?_⟩
    have := hI.2
    rw [hd, List.foldl_cons] at this
    exact this

/-- a comparison of two lists -/
theorem eqW {α : Type} [Inhabited α] [DecidableEq α] (a b : List α) (L : Nat → Int → Option (Unit ⊕ Unit)) (hlen : a.length = b.length)
    (hend : ∀ n, L (n + 1) (a.length : Int) = some (.inr ()))
    (hstep : ∀ n i, i < a.length → L (n + 1) (i : Int) = if gt a (i : Int) = gt b (i : Int) then L n ((i + 1 : Nat) : Int) else some (.inl ()))
    (N : Nat) (hl : a.length < N) : L N 0 = some (if a = b then .inr () else .inl ()) := by
  have h := anyI a L (fun i => ¬ gt a (i : Int) = gt b (i : Int)) (.inl ()) (.inr ()) hend (fun n i hi => ?_) N hl
  · rcases h with ⟨⟨i, h1, h2⟩, e⟩ | ⟨h1, e⟩
    · rw [e, if_neg (fun e => h2 (by rw [e]))]
    · rw [e, if_pos]
      refine List.ext_getElem hlen fun i h2 h3 => ?_
      have := Decidable.not_not.1 (h1 i h2)
      rwa [gt_nat h2, gt_nat h3] at this
  · rw [hstep n i hi]
    by_cases h : gt a (i : Int) = gt b (i : Int)
    · rw [if_pos h]; exact .inr ⟨fun h' => h' h, rfl⟩
    · rw [if_neg h]; exact .inl ⟨h, rfl⟩

/-- a gathering behind what is there -/
theorem accW2 {α β : Type} [Inhabited α] (l : List α) (L : Nat → List β → Int → Option (List β)) (g : α → List β) (c : Nat) (hc : ∀ d ∈ l, (g d).length ≤ c) (a0 : List β)
    (hend : ∀ n acc, L (n + 1) acc (l.length : Int) = some acc)
    (hstep : ∀ n i acc, i < l.length → gt l (i : Int) ∈ l → acc.length ≤ a0.length + c * i → L (n + 1) acc (i : Int) = L n (acc ++ g (gt l (i : Int))) ((i + 1 : Nat) : Int))
    (N : Nat) (hl : l.length < N) : L N a0 0 = some (a0 ++ l.flatMap g) := by
  refine (listW l (fun n i acc => L n acc i) (fun i acc => acc.length ≤ a0.length + c * i ∧ acc ++ (l.drop i).flatMap g = a0 ++ l.flatMap g)
    (fun r => r = a0 ++ l.flatMap g) ?_ ?_ N hl a0 ⟨by simp, by simp⟩).eq
  · intro n acc hI
    rw [hend]
    refine Wp_some.2 ?_
    have := hI.2
    rw [List.drop_length] at this
    simpa using this
  · intro n i acc d hi hg hd hm hI ih
    rw [hstep n i acc hi (by rw [hg]; exact hm) hI.1, hg]
    refine ih _ ⟨?_, ?_⟩
    · have := hc d hm
      rw [List.length_append, Nat.mul_succ]; have := hI.1; omega
    · have := hI.2
      rw [hd, List.flatMap_cons, ← List.append_assoc] at this
      exact this

theorem FU_eq : FU = 4611686018427387904 := rfl

def named (l : List (ByteArray × Int)) (s : ByteArray) : Int := ix (fun d => decide (d.1 = s)) l

theorem spec_indexOf (l : List (ByteArray × Int)) (s : ByteArray) (hl : l.length ≤ 1099511627776) : m_spec_indexOf l s = some (named l s) := by
  rw [m_spec_indexOf, findI l (m_spec_indexOf_L1 l s) (fun d => decide (d.1 = s)) ?_ ?_ FU (by rw [FU_eq]; omega), bd_some, named, ix]
  · cases l.findIdx? (fun d => decide (d.1 = s)) <;> rfl
  · intro n; rw [m_spec_indexOf_L1, cond_neg (by omega)]
  · intro n i hi
    rw [m_spec_indexOf_L1, cond_pos (by omega), gd_pos (by omega), w64s (by omega), cond_if]
    simp

theorem impl_named (l : List (ByteArray × Int)) (s : ByteArray) (hl : l.length ≤ 1099511627776) : m_impl_named l s = some (named l s) := by
  rw [m_impl_named, m_slices_IndexFunc_si_named_1_l, findI l (m_slices_IndexFunc_si_named_1_l_L1 l s) (fun d => decide (d.1 = s)) ?_ ?_ FU (by rw [FU_eq]; omega), bd_some, named, ix]
  · cases l.findIdx? (fun d => decide (d.1 = s)) <;> rfl
  · intro n; rw [m_slices_IndexFunc_si_named_1_l_L1, cond_neg (by omega)]
  · intro n i hi
    rw [m_slices_IndexFunc_si_named_1_l_L1, cond_pos (by omega), gd_pos (by omega), w64s (by omega), m_impl_named_1_l, bd_some, cond_if]
    simp

/-- 1 to 6 letters from a to z -/
def NameOk (s : ByteArray) : Prop := (∀ i, i < s.size → 97 ≤ byteAt s i ∧ byteAt s i ≤ 122) ∧ 1 ≤ s.size ∧ s.size ≤ 6

instance (s : ByteArray) : Decidable (NameOk s) := inferInstanceAs (Decidable (_ ∧ _))

theorem spec_inRange (a b c : Int) : m_spec_inRange a b c = some (decide (b ≤ a ∧ a ≤ c)) := by
  rw [m_spec_inRange, cond_if]
  by_cases h1 : b ≤ a <;> by_cases h2 : a ≤ c <;> simp [h1, h2]

theorem validName_loop (s : ByteArray) (hs : s.size ≤ 1099511627776) : Wp (m_spec_validName_L1 s FU 0) (fun r => (r = .inl () ∧ ∃ i, i < s.size ∧ ¬ (97 ≤ byteAt s i ∧ byteAt s i ≤ 122)) ∨ (r = .inr () ∧ ∀ i, i < s.size → 97 ≤ byteAt s i ∧ byteAt s i ≤ 122)) := by
  refine loopW (m_spec_validName_L1 s) (fun v => ∃ i : Nat, v = i ∧ i ≤ s.size ∧ ∀ j, j < i → 97 ≤ byteAt s j ∧ byteAt s j ≤ 122) (fun v => s.size - v.toNat) _ ?_ FU 0 ⟨0, rfl, by omega, by intro j hj; omega⟩ (by rw [FU_eq]; omega)
  rintro n _ ⟨i, rfl, hi, hI⟩ ih
  rw [m_spec_validName_L1]
  by_cases h : i < s.size
  · rw [cond_pos (by omega), gd_pos (by omega), w64s (by omega), Int.toNat_natCast]
    by_cases h1 : byteAt s i < 97
    · rw [cond_pos h1]; exact Wp_some.2 (.inl ⟨rfl, i, h, by omega⟩)
    · rw [cond_neg h1]
      by_cases h2 : 122 < byteAt s i
      · rw [cond_pos h2]; exact Wp_some.2 (.inl ⟨rfl, i, h, by omega⟩)
      · rw [cond_neg h2]
        refine ih _ ⟨i + 1, rfl, h, fun j hj => ?_⟩ (by omega)
        by_cases e : j = i
        · subst e; omega
        · exact hI j (by omega)
  · rw [cond_neg (by omega)]
    exact Wp_some.2 (.inr ⟨rfl, fun j hj => hI j (by omega)⟩)

theorem spec_validName {s : ByteArray} (hs : s.size ≤ 1099511627776) : m_spec_validName s = some (decide (NameOk s)) := by
  obtain ⟨r, e, h⟩ := validName_loop s hs
  rw [m_spec_validName, e, bd_some]
  rcases h with ⟨rfl, i, hi, h⟩ | ⟨rfl, h⟩
  · have : ¬ NameOk s := fun hn => h (hn.1 i hi)
    rw [decide_eq_false this]; rfl
  · rw [sm_inr, spec_inRange, bd_some]
    have : NameOk s ↔ ((1 : Int) ≤ (s.size : Int) ∧ (s.size : Int) ≤ 6) := ⟨fun hn => by have := hn.2; omega, fun hh => ⟨h, by omega⟩⟩
    rw [decide_eq_decide.2 this]

theorem validName_L1_eq (p : ByteArray) : ∀ (n : Nat) (v : Int), m_impl_ValidName_L1 p n v = m_spec_validName_L1 p n v
  | 0, v => rfl
  | n + 1, v => by rw [m_impl_ValidName_L1, m_spec_validName_L1, validName_L1_eq p n]

theorem impl_ValidName {s : ByteArray} (hs : s.size ≤ 1099511627776) : m_impl_ValidName s = some (decide (NameOk s)) := by
  rw [← spec_validName hs, m_impl_ValidName, m_spec_validName, validName_L1_eq]; rfl

/-- names and lists that can be read -/
def DefsIn (l : List (ByteArray × Int)) : Prop := l.length ≤ 1099511627776 ∧ (∀ d ∈ l, d.1.size ≤ 1099511627776) ∧ ∀ d ∈ l, I64 d.2

def DefsOk (l : List (ByteArray × Int)) (lo hi : Int) : Prop := (∀ i, i < l.length → NameOk (gt l (i : Int)).1 ∧ (lo ≤ (gt l (i : Int)).2 ∧ (gt l (i : Int)).2 ≤ hi) ∧ ¬ 0 ≤ named (l.take i) (gt l (i : Int)).1) ∧ l.length ≤ 12

instance (l : List (ByteArray × Int)) (lo hi : Int) : Decidable (DefsOk l lo hi) := inferInstanceAs (Decidable (_ ∧ _))

theorem spec_validDefs {l : List (ByteArray × Int)} (h : DefsIn l) (lo hi : Int) : m_spec_validDefs l lo hi = some (decide (DefsOk l lo hi)) := by
  obtain ⟨hl, hs, -⟩ := h
  have h := anyI l (m_spec_validDefs_L1 l lo hi) (fun i => ¬ (NameOk (gt l (i : Int)).1 ∧ (lo ≤ (gt l (i : Int)).2 ∧ (gt l (i : Int)).2 ≤ hi) ∧ ¬ 0 ≤ named (l.take i) (gt l (i : Int)).1)) (.inl ()) (.inr ()) ?_ ?_ FU (by rw [FU_eq]; omega)
  · rw [m_spec_validDefs]
    rcases h with ⟨⟨i, h1, h2⟩, e⟩ | ⟨h1, e⟩
    · rw [e, bd_some, sm_inl]
      have : ¬ DefsOk l lo hi := fun h => h2 (h.1 i h1)
      rw [decide_eq_false this]
    · rw [e, bd_some, sm_inr]
      have : DefsOk l lo hi ↔ (l.length : Int) ≤ 12 := ⟨fun h => by have := h.2; omega, fun h => ⟨fun i hi => Decidable.not_not.1 (h1 i hi), by omega⟩⟩
      rw [decide_eq_decide.2 this]
  · intro n; rw [m_spec_validDefs_L1, cond_neg (by omega)]
  · intro n i hi'
    have hm : gt l (i : Int) ∈ l := gt_mem (by omega)
    rw [m_spec_validDefs_L1, cond_pos (by omega), gd_pos (by omega), spec_validName (hs _ hm), bd_some, spec_inRange, bd_some, gd_pos (by omega), sub_zero, spec_indexOf _ _ (by rw [List.length_take]; omega), bd_some, w64s (by omega)]
    by_cases h1 : NameOk (gt l (i : Int)).1 <;> simp only [h1, decide_true, decide_false, Bool.not_true, Bool.not_false, cond_true, cond_false, true_and, false_and, not_false_eq_true, not_true_eq_false, or_false, and_self]
    by_cases h2 : lo ≤ (gt l (i : Int)).2 ∧ (gt l (i : Int)).2 ≤ hi <;> simp only [h2, decide_true, decide_false, Bool.not_true, Bool.not_false, cond_true, cond_false, true_and, false_and, not_false_eq_true, not_true_eq_false, or_false, and_self]
    by_cases h3 : 0 ≤ named (l.take i) (gt l (i : Int)).1 <;> simp only [h3, decide_true, decide_false, Bool.not_true, Bool.not_false, cond_true, cond_false, true_and, false_and, not_false_eq_true, not_true_eq_false, or_false, and_self, false_or]

theorem impl_defsValid {l : List (ByteArray × Int)} (h : DefsIn l) (lo hi : Int) : m_impl_defsValid l lo hi = some (decide (DefsOk l lo hi)) := by
  have e : ∀ (n : Nat) (i : Nat), i ≤ l.length → m_impl_defsValid_L1 l lo hi n (i : Int) = m_spec_validDefs_L1 l lo hi n (i : Int) := by
    intro n
    induction n with
    | zero => intro i _; rfl
    | succ n ih =>
      intro i hi'
      rw [m_impl_defsValid_L1, m_spec_validDefs_L1]
      by_cases hlt : i < l.length
      · have hm : gt l (i : Int) ∈ l := gt_mem (by omega)
        have hl := h.1
        rw [cond_pos (by omega), cond_pos (by omega), w64s (by omega), ih (i + 1) hlt, impl_ValidName (h.2.1 _ hm), spec_validName (h.2.1 _ hm), sub_zero,
          impl_named _ _ (by rw [List.length_take]; omega), spec_indexOf _ _ (by rw [List.length_take]; omega)]
        rfl
      · rw [cond_neg (by omega), cond_neg (by omega)]
  rw [← spec_validDefs h, m_impl_defsValid, m_spec_validDefs, show (0 : Int) = ((0 : Nat) : Int) from rfl, e FU 0 (by omega)]

def FlagOk (l : List (ByteArray × Int)) (b : Int) : Prop := DefsOk l 0 4095 ∧ 0 ≤ b ∧ b ≤ 3

instance (l : List (ByteArray × Int)) (b : Int) : Decidable (FlagOk l b) := inferInstanceAs (Decidable (_ ∧ _))

def EnumOk (l : List (ByteArray × Int)) : Prop := DefsOk l (-1000) 1000

instance (l : List (ByteArray × Int)) : Decidable (EnumOk l) := inferInstanceAs (Decidable (DefsOk _ _ _))

theorem spec_validEnum {l : List (ByteArray × Int)} (h : DefsIn l) : m_spec_validEnum l = some (decide (EnumOk l)) := by
  rw [m_spec_validEnum, spec_validDefs h, bd_some]; rfl

theorem impl_ValidEnum {l : List (ByteArray × Int)} (h : DefsIn l) : m_impl_ValidEnum l = some (decide (EnumOk l)) := by
  rw [m_impl_ValidEnum, impl_defsValid h, bd_some]; rfl

/-- what a list of definitions that is right tells -/
theorem DefsOk.out {l : List (ByteArray × Int)} {lo hi : Int} (h : DefsOk l lo hi) : (∀ d ∈ l, NameOk d.1 ∧ lo ≤ d.2 ∧ d.2 ≤ hi) ∧ (l.map (·.1)).Nodup ∧ l.length ≤ 12 := by
  refine ⟨fun d hd => ?_, ?_, h.2⟩
  · obtain ⟨i, hi', rfl⟩ := List.mem_iff_getElem.1 hd
    have := h.1 i hi'
    rw [gt_nat hi'] at this
    exact ⟨this.1, this.2.1⟩
  · rw [List.Nodup, List.pairwise_iff_getElem]
    intro i j hi' hj hij e
    simp only [List.length_map] at hi' hj
    have := (h.1 j hj).2.2
    rw [gt_nat hj] at this
    apply this
    simp only [List.getElem_map] at e
    unfold named
    rcases ix_cases (fun d => decide (d.1 = l[j].1)) (l.take j) with ⟨_, _, h3⟩ | ⟨k, d, h1, _⟩
    · have := h3 l[i] (List.mem_take_iff_getElem.2 ⟨i, by omega, rfl⟩)
      simp [e] at this
    · rw [h1]; omega

theorem DefsOk.of {l : List (ByteArray × Int)} {lo hi : Int} (h : (∀ d ∈ l, NameOk d.1 ∧ lo ≤ d.2 ∧ d.2 ≤ hi) ∧ (l.map (·.1)).Nodup ∧ l.length ≤ 12) : DefsOk l lo hi := by
  refine ⟨fun i hi' => ?_, h.2.2⟩
  have hm := h.1 _ (List.getElem_mem hi')
  rw [gt_nat hi']
  refine ⟨hm.1, hm.2, ?_⟩
  unfold named
  rcases ix_cases (fun d => decide (d.1 = l[i].1)) (l.take i) with ⟨h1, _⟩ | ⟨k, d, h1, h2, h3, h4, h5, h6⟩
  · rw [h1]; omega
  · exfalso
    obtain ⟨j, hj, rfl⟩ := List.mem_take_iff_getElem.1 h5
    have hnd := h.2.1
    rw [List.Nodup, List.pairwise_iff_getElem] at hnd
    have := hnd j i (by simp; omega) (by simp; omega) (by omega)
    simp only [List.getElem_map] at this
    exact this (by simpa using h6)

theorem FlagOk.len {l : List (ByteArray × Int)} {b : Int} (h : FlagOk l b) : l.length ≤ 12 := h.1.2

def ArmsIn (l : List (Int × Int)) : Prop := l.length ≤ 1099511627776 ∧ ∀ d ∈ l, I64 d.1 ∧ I64 d.2

def Bytes (l : List Int) : Prop := ∀ n ∈ l, 0 ≤ n ∧ n < 256

theorem tmod_range {a b : Int} (ha : 0 ≤ a) (hb : 0 < b) : 0 ≤ Int.tmod a b ∧ Int.tmod a b < b := by
  rw [Int.tmod_eq_emod_of_nonneg ha]
  exact ⟨Int.emod_nonneg _ (by omega), Int.emod_lt_of_pos _ hb⟩

theorem tdiv_range {a b : Int} (ha : 0 ≤ a) (hb : 0 < b) : 0 ≤ Int.tdiv a b ∧ Int.tdiv a b ≤ a := by
  rw [Int.tdiv_eq_ediv_of_nonneg ha]
  exact ⟨Int.ediv_nonneg ha (by omega), Int.ediv_le_self _ ha⟩

theorem pick {n : Int} {code : List Int} {p : Int} (hc : Bytes code) (hl : code.length ≤ 9223372036854775807) (hp : 0 ≤ p ∧ p < 1000000) :
    ∃ x, m_spec_reader_pick n code p = some x ∧ 0 ≤ x ∧ (1 ≤ n → x < n) := by
  unfold m_spec_reader_pick
  by_cases h1 : n < 1
  · exact ⟨0, by rw [decide_eq_true h1, cond_true], by omega, fun h => by omega⟩
  rw [decide_eq_false h1, cond_false]
  by_cases h2 : (code.length : Int) = 0
  · exact ⟨0, by rw [decide_eq_true h2, cond_true], by omega, fun h => by omega⟩
  rw [decide_eq_false h2, cond_false]
  have e1 : IntKind.wrap .i64 (IntKind.wrap .i64 (p + 1) - 1) = p := by
    rw [w64 (a := p + 1) (by omega) (by omega), w64 (by omega) (by omega)]; omega
  have hL : 0 < (code.length : Int) := by omega
  simp only [e1, nm_eq]
  by_cases h3 : p < (code.length : Int)
  · have hb := hc _ (gt_mem ⟨hp.1, h3⟩)
    rw [decide_eq_true h3, cond_true, gd_pos ⟨hp.1, h3⟩, gd_pos (by omega), w64 (by omega) (by omega)]
    have := tmod_range (a := gt code p) (b := n) hb.1 (by omega)
    exact ⟨_, rfl, this.1, fun _ => this.2⟩
  rw [decide_eq_false h3, cond_false, gd_pos (by omega)]
  have t1 := tmod_range hp.1 hL
  rw [gd_pos t1, w64 (a := p * 7) (by omega) (by omega), w64 (a := p * 7 + 3) (by omega) (by omega)]
  have t2 := tmod_range (a := p * 7 + 3) (by omega) hL
  rw [gd_pos t2]
  have b1 := hc _ (gt_mem t1)
  have b2 := hc _ (gt_mem t2)
  generalize gt code (Int.tmod p (code.length : Int)) = u at *
  generalize gt code (Int.tmod (p * 7 + 3) (code.length : Int)) = v at *
  have t3 := tdiv_range hp.1 hL
  generalize Int.tdiv p (code.length : Int) = q at *
  rw [gd_pos ⟨by omega, w64 (by omega) (by omega)⟩]
  rw [w64 (a := u) (by omega) (by omega), w64 (a := u * 131) (by omega) (by omega), w64 (a := v) (by omega) (by omega), w64 (a := v * 1117) (by omega) (by omega), w64 (a := u * 131 + v * 1117) (by omega) (by omega),
    w64 (a := p * 29) (by omega) (by omega), w64 (a := u * 131 + v * 1117 + p * 29) (by omega) (by omega), w64 (a := q * 53) (by omega) (by omega), w64 (a := u * 131 + v * 1117 + p * 29 + q * 53) (by omega) (by omega)]
  have hz : 0 ≤ u * 131 + v * 1117 + p * 29 + q * 53 ∧ u * 131 + v * 1117 + p * 29 + q * 53 < 1000000000 := by omega
  generalize u * 131 + v * 1117 + p * 29 + q * 53 = z at *
  have t4 := tdiv_range (a := z) (b := 64) hz.1 (by omega)
  rw [gd_pos ⟨by omega, w64 (by omega) (by omega)⟩, gd_pos (by omega)]
  have hx : ∃ y : Nat, Go.bits .xor .i64 z (Int.tdiv z 64) = (y : Int) := by
    obtain ⟨a, ha⟩ := Int.eq_ofNat_of_zero_le hz.1
    obtain ⟨b, hb⟩ := Int.eq_ofNat_of_zero_le t4.1
    refine ⟨a ^^^ b, ?_⟩
    rw [hb, ha]
    exact xor64 (by omega) (by omega)
  obtain ⟨y, hy⟩ := hx
  rw [hy]
  have := tmod_range (a := (y : Int)) (b := n) (by omega) (by omega)
  exact ⟨_, rfl, this.1, fun _ => this.2⟩

theorem one {code : List Int} {p : Int} (hc : Bytes code) (hl : code.length ≤ 9223372036854775807) (hp : 0 ≤ p ∧ p < 1000000) {xs : List Int} (hx : xs ≠ []) : ∃ x, m_spec_reader_one xs code p = some x ∧ x ∈ xs := by
  have h1 : 1 ≤ (xs.length : Int) := by
    have := List.length_pos_iff.2 hx
    omega
  obtain ⟨x, e, h0, h2⟩ := pick (n := (xs.length : Int)) hc hl hp
  refine ⟨gt xs x, ?_, gt_mem ⟨h0, h2 h1⟩⟩
  rw [m_spec_reader_one, e, bd_some, gd_pos ⟨h0, h2 h1⟩]

theorem oneOf {code : List Int} {p : Int} (hc : Bytes code) (hl : code.length ≤ 9223372036854775807) (hp : 0 ≤ p ∧ p < 1000000) {xs : List ByteArray} (hx : xs ≠ []) : ∃ x, m_spec_reader_of xs code p = some x ∧ x ∈ xs := by
  have h1 : 1 ≤ (xs.length : Int) := by
    have := List.length_pos_iff.2 hx
    omega
  obtain ⟨x, e, h0, h2⟩ := pick (n := (xs.length : Int)) hc hl hp
  refine ⟨gt xs x, ?_, gt_mem ⟨h0, h2 h1⟩⟩
  rw [m_spec_reader_of, e, bd_some, gd_pos ⟨h0, h2 h1⟩]

theorem aName {code : List Int} {p : Int} (hc : Bytes code) (hl : code.length ≤ 9223372036854775807) (hp : 0 ≤ p ∧ p < 1000000) : ∃ x, m_spec_aName code p = some x ∧ x.size ≤ 7 := by
  unfold m_spec_aName
  obtain ⟨x, e, h⟩ := oneOf hc hl hp (xs := [(ByteArray.mk #[97]), (ByteArray.mk #[98]), (ByteArray.mk #[99]), (ByteArray.mk #[100]), (ByteArray.mk #[101]), (ByteArray.mk #[97, 98]), (ByteArray.mk #[114, 101, 100]), (ByteArray.mk #[98, 108, 117, 101]), (ByteArray.mk #[111, 110]), (ByteArray.mk #[111, 102, 102]), (ByteArray.mk #[97, 108, 108]), (ByteArray.mk #[102])]) (by simp)
  refine ⟨x, by rw [e]; rfl, ?_⟩
  simp only [List.mem_cons, List.not_mem_nil, or_false] at h
  rcases h with rfl | rfl | rfl | rfl | rfl | rfl | rfl | rfl | rfl | rfl | rfl | rfl <;> decide

/-- few definitions with short names and values in a small range -/
def SomeDefs (l : List (ByteArray × Int)) : Prop := l.length ≤ 26 ∧ ∀ d ∈ l, d.1.size ≤ 7 ∧ -5000 ≤ d.2 ∧ d.2 ≤ 5000

theorem SomeDefs.snoc {l : List (ByteArray × Int)} {d : ByteArray × Int} (h : ∀ d ∈ l, d.1.size ≤ 7 ∧ -5000 ≤ d.2 ∧ d.2 ≤ 5000) (hd : d.1.size ≤ 7 ∧ -5000 ≤ d.2 ∧ d.2 ≤ 5000) : ∀ e ∈ l ++ [d], e.1.size ≤ 7 ∧ -5000 ≤ e.2 ∧ e.2 ≤ 5000 := by
  intro e he
  rcases List.mem_append.1 he with he | he
  · exact h e he
  · simp at he; subst he; exact hd

theorem goodDefs_L1 {code : List Int} (hc : Bytes code) (hl : code.length ≤ 9223372036854775807) (high : Int) : ∀ (k n : Nat) (v5 : List (ByteArray × Int)) (v7 : Int), k < n → k ≤ 12 → 0 ≤ v7 → v7 + 5 * k < 900000 → v5.length + k ≤ 12 → (∀ d ∈ v5, d.1.size ≤ 7 ∧ -5000 ≤ d.2 ∧ d.2 ≤ 5000) →
    ∃ r, m_spec_goodDefs_L1 high code n v5 (k : Int) v7 = some r ∧ (∀ d ∈ r.1, d.1.size ≤ 7 ∧ -5000 ≤ d.2 ∧ d.2 ≤ 5000) ∧ r.1.length ≤ 12 ∧ v7 ≤ r.2 ∧ r.2 ≤ v7 + 5 * k
  | 0, n, v5, v7, hn, hk, h0, h1, h2, hg => by
    cases n with
    | zero => omega
    | succ n => exact ⟨(v5, v7), by rw [m_spec_goodDefs_L1, decide_eq_false (by omega), cond_false], hg, by simpa using h2, by simp, by simp⟩
  | k + 1, n, v5, v7, hn, hk, h0, h1, h2, hg => by
    cases n with
    | zero => omega
    | succ n =>
      rw [m_spec_goodDefs_L1, decide_eq_true (by omega), cond_true]
      rw [w64 (a := v7 + 1) (by omega) (by omega), w64 (a := v7 + 1 + 1) (by omega) (by omega), w64 (a := v7 + 1 + 1 + 1) (by omega) (by omega), w64 (a := v7 + 1 + 1 + 1 + 1) (by omega) (by omega), w64 (a := v7 + 1 + 1 + 1 + 1 + 1) (by omega) (by omega),
        w64 (a := ((k + 1 : Nat) : Int) - 1) (by omega) (by omega)]
      obtain ⟨x8, e8, s8⟩ := aName hc hl (p := v7) ⟨by omega, by omega⟩
      obtain ⟨x9, e9, l9, u9⟩ := pick (n := 12) hc hl (p := v7 + 1) ⟨by omega, by omega⟩
      obtain ⟨x10, e10, m10⟩ := one hc hl (p := v7 + 1 + 1) ⟨by omega, by omega⟩ (xs := ([1, 2, 3, 4, 5, 0, 8, x9, (-1), 7, 1000, 16] : List Int)) (by simp)
      obtain ⟨x11, e11, l11, u11⟩ := pick (n := 64) hc hl (p := v7 + 1 + 1 + 1) ⟨by omega, by omega⟩
      obtain ⟨x12, e12, m12⟩ := one hc hl (p := v7 + 1 + 1 + 1 + 1) ⟨by omega, by omega⟩ (xs := ([1, 2, 4, 8, 3, 16, 0, 6, 7, x11, 2048, 5, 1, 2, 4] : List Int)) (by simp)
      have r12 : 0 ≤ x12 ∧ x12 < 4096 := by
        have := u11 (by omega)
        simp only [List.mem_cons, List.not_mem_nil, or_false] at m12
        omega
      have r10 : -1 ≤ x10 ∧ x10 ≤ 1000 := by
        have := u9 (by omega)
        simp only [List.mem_cons, List.not_mem_nil, or_false] at m10
        omega
      have e13 := spec_indexOf v5 x8 (by omega)
      rw [e8, bd_some, e9, bd_some, e10, bd_some, e11, bd_some, e12, bd_some, e13, bd_some, bd_some, show ((k + 1 : Nat) : Int) - 1 = (k : Int) by omega]
      have keep : ∀ q, 0 ≤ q → q ≤ v7 + 5 → v7 ≤ q → ∃ r, m_spec_goodDefs_L1 high code n v5 (k : Int) q = some r ∧ (∀ d ∈ r.1, d.1.size ≤ 7 ∧ -5000 ≤ d.2 ∧ d.2 ≤ 5000) ∧ r.1.length ≤ 12 ∧ v7 ≤ r.2 ∧ r.2 ≤ v7 + 5 * ((k + 1 : Nat) : Int) := by
        intro q q0 q1 q2
        obtain ⟨r, er, g1, g2, g3, g4⟩ := goodDefs_L1 hc hl high k n v5 q (by omega) (by omega) q0 (by omega) (by omega) hg
        exact ⟨r, er, g1, by omega, by omega, by omega⟩
      have put : ∀ x q, (-5000 ≤ x ∧ x ≤ 5000) → 0 ≤ q → q ≤ v7 + 5 → v7 ≤ q → ∃ r, (gd (v5.length + [(x8, x)].length ≤ 1099511627776) <| m_spec_goodDefs_L1 high code n (v5 ++ [(x8, x)]) (k : Int) q) = some r ∧ (∀ d ∈ r.1, d.1.size ≤ 7 ∧ -5000 ≤ d.2 ∧ d.2 ≤ 5000) ∧ r.1.length ≤ 12 ∧ v7 ≤ r.2 ∧ r.2 ≤ v7 + 5 * ((k + 1 : Nat) : Int) := by
        intro x q hx q0 q1 q2
        rw [gd_pos (by rw [List.length_singleton]; omega)]
        obtain ⟨r, er, g1, g2, g3, g4⟩ := goodDefs_L1 hc hl high k n (v5 ++ [(x8, x)]) q (by omega) (by omega) q0 (by omega) (by simp; omega) (SomeDefs.snoc hg ⟨s8, hx⟩)
        exact ⟨r, er, g1, by omega, by omega, by omega⟩
      by_cases hh : high = 4095
      · rw [decide_eq_true hh, cond_true]
        by_cases h : named v5 x8 < 0
        · rw [decide_eq_true h, cond_true, decide_eq_true r12.1, cond_true]
          exact put _ _ ⟨by omega, by omega⟩ (by omega) (by omega) (by omega)
        · rw [decide_eq_false h, cond_false]
          exact keep _ (by omega) (by omega) (by omega)
      · rw [decide_eq_false hh, cond_false]
        by_cases h : named v5 x8 < 0
        · rw [decide_eq_true h, cond_true, Bool.not_false, cond_true]
          cases decide (0 ≤ x10) <;> exact put _ _ ⟨by omega, by omega⟩ (by omega) (by omega) (by omega)
        · rw [decide_eq_false h, cond_false]
          exact keep _ (by omega) (by omega) (by omega)

theorem goodDefs {code : List Int} (hc : Bytes code) (hl : code.length ≤ 9223372036854775807) (high : Int) {p : Int} (hp : 0 ≤ p ∧ p < 800000) :
    ∃ r, m_spec_goodDefs high code p = some r ∧ (∀ d ∈ r.1, d.1.size ≤ 7 ∧ -5000 ≤ d.2 ∧ d.2 ≤ 5000) ∧ r.1.length ≤ 12 ∧ p ≤ r.2 ∧ r.2 ≤ p + 61 := by
  obtain ⟨x, e, hx⟩ := one hc hl (p := p) ⟨by omega, by omega⟩ (xs := ([4, 3, 5, 2, 6, 1, 0, 12] : List Int)) (by simp)
  have hr : ∃ k : Nat, x = (k : Int) ∧ k ≤ 12 := by
    simp only [List.mem_cons, List.not_mem_nil, or_false] at hx
    exact ⟨x.toNat, by omega, by omega⟩
  obtain ⟨k, rfl, hk⟩ := hr
  obtain ⟨r, er, g1, g2, g3, g4⟩ := goodDefs_L1 hc hl high k FU [] (p + 1) (Nat.lt_of_le_of_lt hk (by decide)) hk (by omega) (by omega) (by rw [List.length_nil]; omega) (by intro d hd; cases hd)
  refine ⟨(r.1, r.2), ?_, g1, g2, by show p ≤ r.2; omega, by show r.2 ≤ p + 61; omega⟩
  rw [m_spec_goodDefs, e, bd_some, w64 (by omega) (by omega), er, bd_some]

def ArmIn (d : Int × Int) : Prop := (-60000 ≤ d.1 ∧ d.1 ≤ 60000) ∧ -60000 ≤ d.2 ∧ d.2 ≤ 60000

def SomeArms (l : List (Int × Int)) : Prop := ∀ d ∈ l, ArmIn d

theorem SomeArms.snoc {l : List (Int × Int)} {x : Int × Int} (h : SomeArms l) (hx : ArmIn x) : SomeArms (l ++ [x]) := by
  intro d hd
  rcases List.mem_append.1 hd with hd | hd
  · exact h d hd
  · simp at hd; subst hd; exact hx

theorem newReader {code : List Int} (hc : Bytes code) (hl : code.length ≤ 9223372036854775807) : ∃ c, m_spec_newReader code = some c ∧ Bytes c ∧ c.length ≤ 9223372036854775807 := by
  rw [m_spec_newReader]
  by_cases h : 2000 < (code.length : Int)
  · rw [decide_eq_true h, cond_true, gd_pos ⟨by omega, by omega, by omega, by omega⟩]
    refine ⟨_, rfl, fun n hn => ?_, ?_⟩
    · simp only [sub] at hn
      exact hc n (List.mem_of_mem_drop (List.mem_of_mem_take hn))
    · simp only [sub, List.length_take, List.length_drop]; omega
  · rw [decide_eq_false h, cond_false]
    exact ⟨_, rfl, hc, hl⟩

theorem SomeDefs.inn {l : List (ByteArray × Int)} (h : SomeDefs l) : DefsIn l :=
  ⟨by have := h.1; omega, fun d hd => by have := (h.2 d hd).1; omega, fun d hd => by have := (h.2 d hd).2; exact ⟨by omega, by omega⟩⟩

theorem SomeArms.inn {l : List (Int × Int)} (h : SomeArms l) (hl : l.length ≤ 1000) : ArmsIn l :=
  ⟨by omega, fun d hd => ⟨⟨by have := (h d hd).1; omega, by have := (h d hd).1; omega⟩, ⟨by have := (h d hd).2; omega, by have := (h d hd).2; omega⟩⟩⟩

/-- the length of a number in bits -/
def blen (n : Nat) : Nat := if n = 0 then 0 else Nat.log2 n + 1

/-- the greatest value of definitions, another number if there are none -/
def greatest : List (ByteArray × Int) → Int → Int
  | [], z => z
  | d :: l, _ => l.foldl (fun m e => if m < e.2 then e.2 else m) d.2

def ItemsIn (l : List (ByteArray × Bool × Int)) : Prop := l.length ≤ 1099511627776 ∧ (∀ d ∈ l, d.1.size ≤ 1099511627776) ∧ ∀ d ∈ l, I64 d.2.2

/-- the definitions of items, `next` telling the automatic values -/
def cbuild (next : List (ByteArray × Int) → Int) (items : List (ByteArray × Bool × Int)) (acc : List (ByteArray × Int)) : List (ByteArray × Int) :=
  items.foldl (fun acc x => acc ++ [(x.1, if x.2.1 then next acc else x.2.2)]) acc

theorem cbuild_length (next : List (ByteArray × Int) → Int) (items : List (ByteArray × Bool × Int)) : ∀ acc, (cbuild next items acc).length = acc.length + items.length := by
  induction items with
  | nil => intro acc; simp [cbuild]
  | cons x items ih => intro acc; rw [cbuild, List.foldl_cons, ← cbuild, ih]; simp; omega

theorem cbuild_append (next : List (ByteArray × Int) → Int) (items more : List (ByteArray × Bool × Int)) (acc) : cbuild next (items ++ more) acc = cbuild next more (cbuild next items acc) := by
  simp [cbuild, List.foldl_append]

theorem cbuild_prefix (next : List (ByteArray × Int) → Int) (items : List (ByteArray × Bool × Int)) : ∀ acc, ∃ r, cbuild next items acc = acc ++ r := by
  induction items with
  | nil => intro acc; exact ⟨[], by simp [cbuild]⟩
  | cons x items ih =>
    intro acc
    rw [cbuild, List.foldl_cons, ← cbuild]
    obtain ⟨r, hr⟩ := ih (acc ++ [(x.1, if x.2.1 then next acc else x.2.2)])
    exact ⟨_, by rw [hr, List.append_assoc]⟩

theorem cbuild_take (next : List (ByteArray × Int) → Int) (items : List (ByteArray × Bool × Int)) (k : Nat) (h : k ≤ items.length) : (cbuild next items []).take k = cbuild next (items.take k) [] := by
  conv => lhs; rw [← List.take_append_drop k items, cbuild_append]
  obtain ⟨r, hr⟩ := cbuild_prefix next (items.drop k) (cbuild next (items.take k) [])
  rw [hr, List.take_append_of_le_length (by rw [cbuild_length]; simp; omega), List.take_of_length_le (by rw [cbuild_length]; simp; omega)]

theorem cbuild_get (next : List (ByteArray × Int) → Int) (items : List (ByteArray × Bool × Int)) (k : Nat) (h : k < items.length) :
    (cbuild next items [])[k]'(by rw [cbuild_length]; simpa using h) = (items[k].1, if items[k].2.1 then next (cbuild next (items.take k) []) else items[k].2.2) := by
  have h1 := cbuild_take next items (k + 1) h
  have hl : k < (cbuild next items []).length := by rw [cbuild_length]; simpa using h
  rw [List.take_succ_eq_append_getElem h, cbuild_append, List.take_succ_eq_append_getElem hl, cbuild_take next items k (by omega)] at h1
  have e : cbuild next [items[k]] (cbuild next (items.take k) []) = cbuild next (items.take k) [] ++ [(items[k].1, if items[k].2.1 then next (cbuild next (items.take k) []) else items[k].2.2)] := rfl
  rw [e] at h1
  have := List.append_cancel_left h1
  simpa using this

theorem cbuild_names (next : List (ByteArray × Int) → Int) : ∀ (items : List (ByteArray × Bool × Int)) (acc : List (ByteArray × Int)), (cbuild next items acc).map (·.1) = acc.map (·.1) ++ items.map (·.1)
  | [], acc => by simp [cbuild]
  | x :: items, acc => by
    rw [cbuild, List.foldl_cons, ← cbuild, cbuild_names next items]
    simp

/-- the least power of two above all -/
def inext (l : List (ByteArray × Int)) : Int := IntKind.wrap .i64 ((2 ^ blen (greatest l 0).toNat : Nat) : Int)

def ItemsOk (l : List (ByteArray × Bool × Int)) (lo hi : Int) : Prop := (∀ i, i < l.length → NameOk (gt l (i : Int)).1 ∧ ((gt l (i : Int)).2.1 = true → (gt l (i : Int)).2.2 = 0) ∧ (lo ≤ (gt l (i : Int)).2.2 ∧ (gt l (i : Int)).2.2 ≤ hi) ∧ ∀ k, k < i → ¬ (gt l (k : Int)).1 = (gt l (i : Int)).1) ∧ l.length ≤ 12

theorem ItemsOk.of {items : List (ByteArray × Bool × Int)} {b : Int} (h1 : items.any (fun x => x.2.1 && !decide (x.2.2 = 0)) = false) (h2 : FlagOk (cbuild inext items []) b) : ItemsOk items 0 4095 := by
  have hlen : items.length ≤ 12 := by have := h2.len; rw [cbuild_length] at this; simpa using this
  refine ⟨fun i hi => ?_, hlen⟩
  have hd := h2.1.1 i (by rw [cbuild_length]; simpa using hi)
  have hi2 : i < (cbuild inext items []).length := by rw [cbuild_length]; simpa using hi
  rw [gt_nat hi2, cbuild_get inext items i hi] at hd
  rw [gt_nat hi]
  have hm := List.getElem_mem hi
  rw [List.any_eq_false] at h1
  have h3 := h1 _ hm
  refine ⟨hd.1, fun ha => ?_, ?_, fun k hk e => ?_⟩
  · rw [ha] at h3; simpa using h3
  · cases ha : items[i].2.1 with
    | true => rw [ha] at h3; simp at h3; omega
    | false => have := hd.2.1; rw [ha] at this; simpa using this
  · have hnd := h2.1.out.2.1
    rw [cbuild_names] at hnd
    simp only [List.map_nil, List.nil_append] at hnd
    rw [List.Nodup, List.pairwise_iff_getElem] at hnd
    have := hnd k i (by simp; omega) (by simpa using hi) hk
    simp only [List.getElem_map] at this
    rw [gt_nat (by omega)] at e
    exact this e

theorem laws_equalDefs {a b : List (ByteArray × Int)} (ha : a.length ≤ 1099511627776) : m_laws_equalDefs a b = some (decide (a = b)) := by
  rw [m_laws_equalDefs]
  by_cases hl : a.length = b.length
  · rw [decide_eq_true (by omega), Bool.not_true, cond_false, eqW a b (m_laws_equalDefs_L1 a b) hl ?_ ?_ FU (by rw [FU_eq]; omega), bd_some]
    · by_cases h : a = b
      · rw [if_pos h, decide_eq_true h]; rfl
      · rw [if_neg h, decide_eq_false h]; rfl
    · intro n; rw [m_laws_equalDefs_L1, cond_neg (by omega)]
    · intro n i hi
      rw [m_laws_equalDefs_L1, cond_pos (by omega), gd_pos (by omega), gd_pos (by omega), nm_eq, w64s (by omega)]
      by_cases h : gt a (i : Int) = gt b (i : Int)
      · rw [if_pos h, h]; simp
      · rw [if_neg h]
        have : ¬ ((gt a (i : Int)).1 = (gt b (i : Int)).1 ∧ (gt a (i : Int)).2 = (gt b (i : Int)).2) := fun hh => h (Prod.ext hh.1 hh.2)
        by_cases h1 : (gt a (i : Int)).1 = (gt b (i : Int)).1
        · have h2 : ¬ (gt a (i : Int)).2 = (gt b (i : Int)).2 := fun h2 => this ⟨h1, h2⟩
          simp [h1, h2]
        · simp [h1]
  · rw [decide_eq_false (by omega), Bool.not_false, cond_true, decide_eq_false]
    intro h; exact hl (by rw [h])

def SomeItems (l : List (ByteArray × Bool × Int)) : Prop := l.length ≤ 12 ∧ ∀ d ∈ l, d.1.size ≤ 7 ∧ -5000 ≤ d.2.2 ∧ d.2.2 ≤ 5000

theorem SomeItems.inn {l : List (ByteArray × Bool × Int)} (h : SomeItems l) : ItemsIn l :=
  ⟨by have := h.1; omega, fun d hd => by have := (h.2 d hd).1; omega, fun d hd => by have := (h.2 d hd).2; exact ⟨by omega, by omega⟩⟩

theorem named_range (f : List (ByteArray × Int)) (s : ByteArray) : -1 ≤ named f s ∧ named f s < (f.length : Int) := ix_range _ _

/-- a name of a definition leads to it -/
theorem named_self {f : List (ByteArray × Int)} (hn : (f.map (·.1)).Nodup) {d : ByteArray × Int} (hd : d ∈ f) : 0 ≤ named f d.1 ∧ gt f (named f d.1) = d := by
  unfold named
  rcases ix_cases (fun e => decide (e.1 = d.1)) f with ⟨h1, _, h3⟩ | ⟨i, e, h1, h2, h3, h4, h5, h6⟩
  · have := h3 d hd; simp at this
  · rw [h1]
    refine ⟨by omega, ?_⟩
    rw [h3]
    obtain ⟨j, hj, rfl⟩ := List.mem_iff_getElem.1 hd
    rw [gt_nat h2] at h3
    subst h3
    have h7 : f[i].1 = f[j].1 := by simpa using h6
    rw [List.Nodup, List.pairwise_iff_getElem] at hn
    rcases Nat.lt_trichotomy i j with hij | rfl | hij
    · exact absurd (by rw [List.getElem_map, List.getElem_map]; exact h7) (hn i j (by simpa using h2) (by simpa using hj) hij)
    · rfl
    · exact absurd (by rw [List.getElem_map, List.getElem_map]; exact h7.symm) (hn j i (by simpa using hj) (by simpa using h2) hij)

theorem nodup_sub_length {α : Type} : ∀ (a b : List α), a.Nodup → (∀ x ∈ a, x ∈ b) → a.length ≤ b.length
  | [], b, _, _ => Nat.zero_le _
  | x :: a, b, hn, h => by
    obtain ⟨s, t, rfl⟩ := List.append_of_mem (h x (List.mem_cons_self ..))
    rw [List.nodup_cons] at hn
    have ih := nodup_sub_length a (s ++ t) hn.2 (fun y hy => by
      have h1 := h y (List.mem_cons_of_mem _ hy)
      simp only [List.mem_append, List.mem_cons] at h1 ⊢
      rcases h1 with h1 | rfl | h1
      · exact .inl h1
      · exact absurd hy hn.1
      · exact .inr h1)
    simp only [List.length_append, List.length_cons] at ih ⊢
    omega

theorem goodEnum {code : List Int} (hc : Bytes code) (hl : code.length ≤ 9223372036854775807) {p : Int} (hp : 0 ≤ p ∧ p < 800000) :
    ∃ r, m_spec_goodEnum code p = some r ∧ (∀ d ∈ r.1, d.1.size ≤ 7 ∧ -5000 ≤ d.2 ∧ d.2 ≤ 5000) ∧ r.1.length ≤ 12 ∧ p ≤ r.2 ∧ r.2 ≤ p + 61 := by
  obtain ⟨r, er, h⟩ := goodDefs hc hl 1000 hp
  exact ⟨(r.1, r.2), by rw [m_spec_goodEnum, er, bd_some], h⟩

theorem set_some {l : List (ByteArray × Int)} {i : Nat} {d : ByteArray × Int} (h : ∀ d ∈ l, d.1.size ≤ 7 ∧ -5000 ≤ d.2 ∧ d.2 ≤ 5000) (hd : d.1.size ≤ 7 ∧ -5000 ≤ d.2 ∧ d.2 ≤ 5000) : ∀ e ∈ l.set i d, e.1.size ≤ 7 ∧ -5000 ≤ e.2 ∧ e.2 ≤ 5000 := by
  intro e he
  rcases List.mem_or_eq_of_mem_set he with he | rfl
  · exact h e he
  · exact hd

theorem someEnum {code : List Int} (hc : Bytes code) (hl : code.length ≤ 9223372036854775807) {p : Int} (hp : 0 ≤ p ∧ p < 700000) :
    ∃ r, m_spec_someEnum code p = some r ∧ SomeDefs r.1 ∧ p ≤ r.2 ∧ r.2 ≤ p + 70 := by
  obtain ⟨⟨l, q⟩, eg, g1, g2, g3, g4⟩ := goodEnum hc hl (p := p) ⟨by omega, by omega⟩
  simp only at g1 g2 g3 g4
  have sd : SomeDefs l := ⟨by omega, g1⟩
  rw [m_spec_someEnum, eg, bd_some]
  simp only []
  by_cases h0 : 0 < (l.length : Int)
  · obtain ⟨k, ek, lk, uk⟩ := pick (n := (l.length : Int)) hc hl (p := q) ⟨by omega, by omega⟩
    have uk := uk (by omega)
    obtain ⟨x, ex, lx, ux⟩ := pick (n := 24) hc hl (p := q + 1) ⟨by omega, by omega⟩
    have hk := g1 _ (gt_mem (l := l) (q := k) ⟨lk, uk⟩)
    rw [cond_pos h0, ek, bd_some, w64 (a := q + 1) (by omega) (by omega), ex, bd_some, w64 (a := q + 1 + 1) (by omega) (by omega), w64 (a := q + 1 + 1 + 1) (by omega) (by omega)]
    by_cases x0 : x = 0
    · obtain ⟨s, es, ms⟩ := oneOf hc hl (p := q + 1 + 1) ⟨by omega, by omega⟩ (xs := ([ByteArray.empty, (ByteArray.mk #[65]), (ByteArray.mk #[116, 111, 111, 108, 111, 110, 103])] : List ByteArray)) (by simp)
      have hs : s.size ≤ 7 := by
        simp only [List.mem_cons, List.not_mem_nil, or_false] at ms
        rcases ms with rfl | rfl | rfl <;> decide
      rw [cond_pos x0, es, bd_some, gd_pos ⟨lk, uk⟩]
      exact ⟨_, rfl, ⟨by simp only [List.length_set]; omega, set_some g1 ⟨hs, hk.2⟩⟩, by simp only; omega, by simp only; omega⟩
    · rw [cond_neg x0]
      by_cases x1 : x = 1
      · obtain ⟨y, ey, my⟩ := one hc hl (p := q + 1 + 1) ⟨by omega, by omega⟩ (xs := ([1001, (-1001)] : List Int)) (by simp)
        simp only [List.mem_cons, List.not_mem_nil, or_false] at my
        rw [cond_pos x1, ey, bd_some, gd_pos ⟨lk, uk⟩]
        exact ⟨_, rfl, ⟨by simp only [List.length_set]; omega, set_some g1 ⟨hk.1, by simp only; omega, by simp only; omega⟩⟩, by simp only; omega, by simp only; omega⟩
      · rw [cond_neg x1]
        by_cases x2 : x = 2
        · rw [cond_pos x2, gd_pos ⟨lk, uk⟩, gd_pos (by rw [List.length_singleton]; omega)]
          exact ⟨_, rfl, ⟨by simp only [List.length_append, List.length_singleton]; omega, SomeDefs.snoc g1 hk⟩, by simp only; omega, by simp only; omega⟩
        · rw [cond_neg x2]
          by_cases x3 : x = 3
          · rw [cond_pos x3, gd_pos (by omega), gd_pos (by rw [List.length_replicate]; omega)]
            refine ⟨_, rfl, ⟨by simp only [List.length_append, List.length_replicate]; omega, fun e he => ?_⟩, by simp only; omega, by simp only; omega⟩
            rcases List.mem_append.1 he with he | he
            · exact g1 e he
            · rw [List.eq_of_mem_replicate he]; decide
          · rw [cond_neg x3]
            exact ⟨_, rfl, sd, by simp only; omega, by simp only; omega⟩
  · rw [cond_neg h0]
    exact ⟨_, rfl, sd, by simp only; omega, by simp only; omega⟩

theorem grow_nil {n : Int} (h0 : 0 ≤ n) (h1 : n ≤ 1000000000) : m_slices_Grow_nisii n = some [] := by
  have e0 : IntKind.wrap .i64 ((0 : Int) - 0) = 0 := w64 (a := (0 : Int) - 0) (by omega) (by omega)
  rw [m_slices_Grow_nisii, cond_neg (by omega), nm_eq, e0, w64 (a := n - 0) (by omega) (by omega)]
  by_cases hn : 0 < n - 0
  · rw [decide_eq_true hn, cond_true, gd_pos ⟨rfl, rfl, rfl⟩, gd_pos (by omega), gd_pos (by rw [List.length_replicate, List.length_nil]; omega), gd_pos (by rw [List.length_replicate]; omega)]
    rfl
  · rw [decide_eq_false hn, cond_false]

theorem concat3 {a b c : List (Int × ByteArray × Int × Int)} (ha : a.length ≤ 1000000) (hb : b.length ≤ 1000000) (hc : c.length ≤ 1000000) : m_slices_Concat_x3isiiisiiisii a b c = some (a ++ b ++ c) := by
  have e1 : IntKind.wrap .i64 ((0 : Int) + (a.length : Int)) = (a.length : Int) := by rw [w64 (by omega) (by omega)]; omega
  rw [m_slices_Concat_x3isiiisiiisii, e1, cond_neg (by omega), nm_eq, w64 (a := (a.length : Int) + (b.length : Int)) (by omega) (by omega), cond_neg (by omega), w64 (a := (a.length : Int) + (b.length : Int) + (c.length : Int)) (by omega) (by omega), cond_neg (by omega),
    grow_nil (by omega) (by omega), bd_some, gd_pos (by rw [List.length_nil]; omega), gd_pos (by rw [List.nil_append]; omega), gd_pos (by rw [List.nil_append, List.length_append]; omega), List.nil_append]

def drops (a b : List (ByteArray × Int)) : List (Int × ByteArray × Int × Int) := a.flatMap (fun d => if named b d.1 < 0 then [(1, d.1, d.2, 0)] else [])

def turns (a b : List (ByteArray × Int)) : List (Int × ByteArray × Int × Int) := a.flatMap (fun d => if named b d.1 < 0 ∨ (gt b (named b d.1)).2 = d.2 then [] else [(2, d.1, d.2, (gt b (named b d.1)).2)])

def adds (a b : List (ByteArray × Int)) : List (Int × ByteArray × Int × Int) := b.flatMap (fun d => if named a d.1 < 0 then [(0, d.1, 0, d.2)] else [])

def diffC (a b : List (ByteArray × Int)) : List (Int × ByteArray × Int × Int) := drops a b ++ turns a b ++ adds a b

theorem flatMap_le_one {α β : Type} (g : α → List β) (h : ∀ d, (g d).length ≤ 1) : ∀ l : List α, (l.flatMap g).length ≤ l.length
  | [] => Nat.le_refl _
  | d :: l => by
    have ih := flatMap_le_one g h l
    have := h d
    rw [List.flatMap_cons, List.length_append, List.length_cons]; omega

theorem drops_length (a b : List (ByteArray × Int)) : (drops a b).length ≤ a.length := flatMap_le_one _ (fun d => by split <;> simp) a

theorem turns_length (a b : List (ByteArray × Int)) : (turns a b).length ≤ a.length := flatMap_le_one _ (fun d => by split <;> simp) a

theorem adds_length (a b : List (ByteArray × Int)) : (adds a b).length ≤ b.length := flatMap_le_one _ (fun d => by split <;> simp) b

theorem diffC_length (a b : List (ByteArray × Int)) : (diffC a b).length ≤ 2 * a.length + b.length := by
  have h1 := drops_length a b
  have h2 := turns_length a b
  have h3 := adds_length a b
  unfold diffC
  rw [List.length_append, List.length_append]; omega

def splitD (b : List (ByteArray × Int)) (s : List (Int × ByteArray × Int × Int) × List (Int × ByteArray × Int × Int)) (d : ByteArray × Int) : List (Int × ByteArray × Int × Int) × List (Int × ByteArray × Int × Int) :=
  if named b d.1 < 0 then (s.1 ++ [(1, d.1, d.2, 0)], s.2) else if (gt b (named b d.1)).2 = d.2 then s else (s.1, s.2 ++ [(2, d.1, d.2, (gt b (named b d.1)).2)])

theorem splitD_fold (b : List (ByteArray × Int)) : ∀ (l : List (ByteArray × Int)) (s : List (Int × ByteArray × Int × Int) × List (Int × ByteArray × Int × Int)), l.foldl (splitD b) s = (s.1 ++ drops l b, s.2 ++ turns l b)
  | [], s => by simp [drops, turns]
  | d :: l, s => by
    rw [List.foldl_cons, splitD_fold b l]
    unfold drops turns splitD
    rw [List.flatMap_cons, List.flatMap_cons]
    by_cases h1 : named b d.1 < 0
    · rw [if_pos h1, if_pos h1, if_pos (.inl h1), List.append_assoc, List.nil_append]
    · rw [if_neg h1, if_neg h1]
      by_cases h2 : (gt b (named b d.1)).2 = d.2
      · rw [if_pos h2, if_pos (.inr h2), List.nil_append, List.nil_append]
      · rw [if_neg h2, if_neg (by rintro (h | h); exact h1 h; exact h2 h), List.append_assoc, List.nil_append]

theorem impl_DiffEnums {a b : List (ByteArray × Int)} (ha : DefsIn a) (hb : DefsIn b) (va : EnumOk a) (vb : EnumOk b) : m_impl_DiffEnums a b = some (diffC a b) := by
  have la := va.2
  have lb := vb.2
  have e1 := foldW a (fun n s i => m_impl_DiffEnums_L1 a b n s.1 s.2 i) (splitD b) (fun i s => s.1.length ≤ i ∧ s.2.length ≤ i) ?_ ?_ FU (by rw [FU_eq]; omega) ([], []) ⟨by simp, by simp⟩
  · have h1 : m_impl_DiffEnums_L1 a b FU [] [] 0 = some (drops a b, turns a b) := by
      rw [show m_impl_DiffEnums_L1 a b FU [] [] 0 = _ from e1.1, splitD_fold, List.nil_append, List.nil_append]
    have h2 := accW b (m_impl_DiffEnums_L2 a b (drops a b, turns a b)) (fun d => if named a d.1 < 0 then [(0, d.1, 0, d.2)] else []) 1 (fun d _ => by split <;> simp) ?_ ?_ FU (by rw [FU_eq]; omega)
    · have k1 := drops_length a b
      have k2 := turns_length a b
      have k3 := adds_length a b
      rw [m_impl_DiffEnums, impl_ValidEnum ha, bd_some, decide_eq_true va, Bool.not_true, cond_false, impl_ValidEnum hb, bd_some, decide_eq_true vb, Bool.not_true, cond_false, h1, bd_some, h2, bd_some]
      rw [show b.flatMap (fun d => if named a d.1 < 0 then [((0 : Int), d.1, (0 : Int), d.2)] else []) = adds a b from rfl, concat3 (by simp only; omega) (by simp only; omega) (by omega), bd_some, m_slices_Clip_hisii, bd_some]
      rfl
    · intro n acc; rw [m_impl_DiffEnums_L2, cond_neg (by omega)]
    · intro n i acc hi hm hacc
      rw [m_impl_DiffEnums_L2, cond_pos (by omega), gd_pos (by omega), impl_named _ _ (by omega), bd_some, w64s (by omega)]
      by_cases h : named a (gt b (i : Int)).1 < 0
      · rw [cond_pos h, gd_pos (by rw [List.length_singleton]; omega), if_pos h]
      · rw [cond_neg h, if_neg h, List.append_nil]
  · intro n s
    show m_impl_DiffEnums_L1 a b (n + 1) s.1 s.2 _ = _
    rw [m_impl_DiffEnums_L1, cond_neg (by omega)]
  · intro n i s hi hm hI
    show _ ∧ m_impl_DiffEnums_L1 a b (n + 1) s.1 s.2 _ = m_impl_DiffEnums_L1 a b n _ _ _
    have hr := named_range b (gt a (i : Int)).1
    rw [m_impl_DiffEnums_L1, cond_pos (by omega), gd_pos (by omega), impl_named _ _ (by omega), bd_some, w64s (by omega), splitD]
    by_cases h1 : named b (gt a (i : Int)).1 < 0
    · rw [cond_pos h1, if_pos h1, gd_pos (by rw [List.length_singleton]; omega)]
      exact ⟨⟨by simp only [List.length_append, List.length_singleton]; omega, by simp only; omega⟩, rfl⟩
    · rw [cond_neg h1, if_neg h1, gd_pos (by omega)]
      by_cases h2 : (gt b (named b (gt a (i : Int)).1)).2 = (gt a (i : Int)).2
      · rw [decide_eq_true h2, Bool.not_true, cond_false, if_pos h2]
        exact ⟨⟨by omega, by omega⟩, rfl⟩
      · rw [decide_eq_false h2, Bool.not_false, cond_true, if_neg h2, gd_pos (by rw [List.length_singleton]; omega)]
        exact ⟨⟨by simp only; omega, by simp only [List.length_append, List.length_singleton]; omega⟩, rfl⟩

theorem spec_differ {a b : List (ByteArray × Int)} (la : a.length ≤ 1000000) (lb : b.length ≤ 1000000) : m_spec_differ a b = some (diffC a b) := by
  have k1 := drops_length a b
  have k2 := turns_length a b
  have h1 := accW a (m_spec_differ_L1 a b) (fun d => if named b d.1 < 0 then [(1, d.1, d.2, 0)] else []) 1 (fun d _ => by split <;> simp) ?_ ?_ FU (by rw [FU_eq]; omega)
  · have h2 := accW2 a (m_spec_differ_L2 a b) (fun d => if named b d.1 < 0 ∨ (gt b (named b d.1)).2 = d.2 then [] else [(2, d.1, d.2, (gt b (named b d.1)).2)]) 1 (fun d _ => by split <;> simp) (drops a b) ?_ ?_ FU (by rw [FU_eq]; omega)
    · have h3 := accW2 b (m_spec_differ_L3 a b) (fun d => if named a d.1 < 0 then [(0, d.1, 0, d.2)] else []) 1 (fun d _ => by split <;> simp) (drops a b ++ turns a b) ?_ ?_ FU (by rw [FU_eq]; omega)
      · have h1 : m_spec_differ_L1 a b FU [] 0 = some (drops a b) := h1
        have h2 : m_spec_differ_L2 a b FU (drops a b) 0 = some (drops a b ++ turns a b) := h2
        rw [m_spec_differ, h1, bd_some, h2, bd_some, h3, bd_some]
        rfl
      · intro n acc; rw [m_spec_differ_L3, cond_neg (by omega)]
      · intro n i acc hi hm hacc
        rw [List.length_append] at hacc
        rw [m_spec_differ_L3, cond_pos (by omega), gd_pos (by omega), spec_indexOf _ _ (by omega), bd_some, w64s (by omega)]
        by_cases h : named a (gt b (i : Int)).1 < 0
        · rw [cond_pos h, gd_pos (by rw [List.length_singleton]; omega), if_pos h]
        · rw [cond_neg h, if_neg h, List.append_nil]
    · intro n acc; rw [m_spec_differ_L2, cond_neg (by omega)]
    · intro n i acc hi hm hacc
      have hr := named_range b (gt a (i : Int)).1
      rw [m_spec_differ_L2, cond_pos (by omega), gd_pos (by omega), spec_indexOf _ _ (by omega), bd_some, w64s (by omega)]
      by_cases h1 : named b (gt a (i : Int)).1 < 0
      · rw [cond_neg (by omega), if_pos (.inl h1), List.append_nil]
      · rw [cond_pos (by omega), gd_pos (by omega)]
        by_cases h2 : (gt b (named b (gt a (i : Int)).1)).2 = (gt a (i : Int)).2
        · rw [decide_eq_true h2, Bool.not_true, cond_false, if_pos (.inr h2), List.append_nil]
        · rw [decide_eq_false h2, Bool.not_false, cond_true, if_neg (by rintro (h | h); exact h1 h; exact h2 h), gd_pos (by rw [List.length_singleton]; omega)]
  · intro n acc; rw [m_spec_differ_L1, cond_neg (by omega)]
  · intro n i acc hi hm hacc
    rw [m_spec_differ_L1, cond_pos (by omega), gd_pos (by omega), spec_indexOf _ _ (by omega), bd_some, w64s (by omega)]
    by_cases h : named b (gt a (i : Int)).1 < 0
    · rw [cond_pos h, gd_pos (by rw [List.length_singleton]; omega), if_pos h]
    · rw [cond_neg h, if_neg h, List.append_nil]

theorem named_at {l : List (ByteArray × Int)} {s : ByteArray} (h : ¬ named l s < 0) : gt l (named l s) ∈ l ∧ (gt l (named l s)).1 = s := by
  unfold named at *
  rcases ix_cases (fun d : ByteArray × Int => decide (d.1 = s)) l with ⟨h1, _⟩ | ⟨i, d, h1, h2, h3, h4, h5, h6⟩
  · omega
  · rw [h1, h3]; exact ⟨h5, of_decide_eq_true h6⟩

theorem diff_nil {a b : List (ByteArray × Int)} (na : (a.map (·.1)).Nodup) (nb : (b.map (·.1)).Nodup) : diffC a b = [] ↔ ∀ d, d ∈ a ↔ d ∈ b := by
  unfold diffC drops turns adds
  rw [List.append_eq_nil_iff, List.append_eq_nil_iff, List.flatMap_eq_nil_iff, List.flatMap_eq_nil_iff, List.flatMap_eq_nil_iff]
  constructor
  · rintro ⟨⟨h1, h2⟩, h3⟩
    have fwd : ∀ d, d ∈ a → d ∈ b := fun d hd => by
      have g1 := h1 d hd
      have g2 := h2 d hd
      have n1 : ¬ named b d.1 < 0 := fun h => by rw [if_pos h] at g1; cases g1
      have n2 : (gt b (named b d.1)).2 = d.2 := by
        by_cases h : (gt b (named b d.1)).2 = d.2
        · exact h
        · rw [if_neg (by rintro (h' | h'); exact n1 h'; exact h h')] at g2; cases g2
      obtain ⟨k1, k2⟩ := named_at n1
      have : gt b (named b d.1) = d := Prod.ext k2 n2
      rwa [this] at k1
    refine fun d => ⟨fwd d, fun hd => ?_⟩
    have g3 := h3 d hd
    have n3 : ¬ named a d.1 < 0 := fun h => by rw [if_pos h] at g3; cases g3
    obtain ⟨k1, k2⟩ := named_at n3
    have k3 := fwd _ k1
    have e1 := (named_self nb hd).2
    have e2 := (named_self nb k3).2
    rw [k2, e1] at e2
    rw [e2]; exact k1
  · intro h
    refine ⟨⟨fun d hd => ?_, fun d hd => ?_⟩, fun d hd => ?_⟩
    · have := (named_self nb ((h d).1 hd)).1
      rw [if_neg (by omega)]
    · have := (named_self nb ((h d).1 hd)).2
      rw [if_pos (.inr (by rw [this]))]
    · have := (named_self na ((h d).2 hd)).1
      rw [if_neg (by omega)]

theorem impl_SameMeaning {a b : List (ByteArray × Int)} (ha : DefsIn a) (hb : DefsIn b) : m_impl_SameMeaning a b = some (decide ((EnumOk a ∧ EnumOk b) ∧ diffC a b = [])) := by
  rw [m_impl_SameMeaning, impl_ValidEnum ha, bd_some]
  by_cases va : EnumOk a
  · rw [decide_eq_true va, cond_true, impl_ValidEnum hb, bd_some]
    by_cases vb : EnumOk b
    · rw [decide_eq_true vb, cond_true, impl_DiffEnums ha hb va vb, bd_some]
      refine congrArg some (decide_eq_decide.2 ⟨fun h => ⟨⟨va, vb⟩, List.eq_nil_of_length_eq_zero (by omega)⟩, fun h => by rw [h.2]; rfl⟩)
    · rw [decide_eq_false vb, cond_false, decide_eq_false (fun h => vb h.1.2)]
  · rw [decide_eq_false va, cond_false, decide_eq_false (fun h => va h.1.1)]

theorem laws_equalEnum {a b : List (ByteArray × Int)} (ha : a.length ≤ 1099511627776) : m_laws_equalEnum a b = some (decide (a = b)) := by
  rw [m_laws_equalEnum, laws_equalDefs ha, bd_some]

theorem sub_mem {α : Type} {l : List α} {a b : Int} {d : α} (h : d ∈ sub l a b) : d ∈ l := List.mem_of_mem_drop (List.mem_of_mem_take h)

theorem dropped_some {l : List (ByteArray × Int)} {k : Nat} (hk : k < l.length) (hl : l.length ≤ 1000000) : m_spec_dropped l (k : Int) = some () := by
  have h1 : (sub l 0 (k : Int)).length = k := by rw [sub_zero, List.length_take]; omega
  have h2 : (sub l ((k + 1 : Nat) : Int) (l.length : Int)).length ≤ l.length := by unfold sub; rw [List.length_take, List.length_drop]; omega
  rw [m_spec_dropped, gd_pos (by omega), m_spec_copyDefs, gd_pos (by rw [h1, List.length_nil]; omega), bd_some, w64s (by omega), gd_pos (by omega), gd_pos (by rw [List.nil_append, h1]; omega)]

/-- a change made, whatever comes of it -/
def applyRaw (l : List (ByteArray × Int)) (c : Int × ByteArray × Int × Int) : Option (List (ByteArray × Int)) :=
  if c.1 = 0 then (if named l c.2.1 < 0 ∧ c.2.2.1 = 0 then some (l ++ [(c.2.1, c.2.2.2)]) else none)
  else if named l c.2.1 < 0 ∨ ¬ (gt l (named l c.2.1)).2 = c.2.2.1 then none
  else if c.1 = 1 then (if c.2.2.2 = 0 then some (sub l 0 (named l c.2.1) ++ sub l (named l c.2.1 + 1) (l.length : Int)) else none)
  else if c.1 = 2 then some (l.set (named l c.2.1).toNat ((gt l (named l c.2.1)).1, c.2.2.2)) else none

def stepC (l : List (ByteArray × Int)) (c : Int × ByteArray × Int × Int) : Option (List (ByteArray × Int)) :=
  match applyRaw l c with
  | some k => if EnumOk k then some k else none
  | none => none

def ChgIn (c : Int × ByteArray × Int × Int) : Prop := c.2.1.size ≤ 1099511627776 ∧ I64 c.2.2.2

theorem clone_si {l : List (ByteArray × Int)} (h : l.length ≤ 1000000) : m_impl_clone_si l = some l := by
  rw [m_impl_clone_si, m_slices_Clone_si, gd_pos (by omega), bd_some, m_slices_Clip_hsi, bd_some]

theorem enumOf_true {k : List (ByteArray × Int)} (h : DefsIn k) : m_impl_enumOf k true = some (if EnumOk k then (k, true) else ([], false)) := by
  rw [m_impl_enumOf, Bool.not_true, cond_false, impl_ValidEnum h, bd_some]
  by_cases hv : EnumOk k
  · have := hv.2
    rw [decide_eq_true hv, Bool.not_true, cond_false, clone_si (by omega), bd_some, if_pos hv]
  · rw [decide_eq_false hv, Bool.not_false, cond_true, if_neg hv]

theorem grow_nil_si {n : Int} (h0 : 0 ≤ n) (h1 : n ≤ 1000000000) : m_slices_Grow_nsi n = some [] := by
  have e0 : IntKind.wrap .i64 ((0 : Int) - 0) = 0 := w64 (a := (0 : Int) - 0) (by omega) (by omega)
  rw [m_slices_Grow_nsi, cond_neg (by omega), nm_eq, e0, w64 (a := n - 0) (by omega) (by omega)]
  by_cases hn : 0 < n - 0
  · rw [decide_eq_true hn, cond_true, gd_pos ⟨rfl, rfl, rfl⟩, gd_pos (by omega), gd_pos (by rw [List.length_replicate, List.length_nil]; omega), gd_pos (by rw [List.length_replicate]; omega)]
    rfl
  · rw [decide_eq_false hn, cond_false]

theorem concat2 {a b : List (ByteArray × Int)} (ha : a.length ≤ 1000000) (hb : b.length ≤ 1000000) : m_slices_Concat_x2sisi a b = some (a ++ b) := by
  have e1 : IntKind.wrap .i64 ((0 : Int) + (a.length : Int)) = (a.length : Int) := by rw [w64 (by omega) (by omega)]; omega
  rw [m_slices_Concat_x2sisi, e1, cond_neg (by omega), nm_eq, w64 (a := (a.length : Int) + (b.length : Int)) (by omega) (by omega), cond_neg (by omega), grow_nil_si (by omega) (by omega), bd_some, gd_pos (by rw [List.length_nil]; omega), gd_pos (by rw [List.nil_append]; omega), List.nil_append]

theorem sub_length_le {α : Type} (l : List α) (a b : Int) : (sub l a b).length ≤ l.length := by
  unfold sub; rw [List.length_take, List.length_drop]; omega

theorem raw_in {l k : List (ByteArray × Int)} (h : DefsIn l) (hl : l.length ≤ 12) {c : Int × ByteArray × Int × Int} (hc : ChgIn c) (e : applyRaw l c = some k) : DefsIn k := by
  have hset : ∀ (i : Nat) (d : ByteArray × Int), d.1.size ≤ 1099511627776 ∧ I64 d.2 → DefsIn (l.set i d) := fun i d hd => by
    refine ⟨by rw [List.length_set]; omega, fun x hx => ?_, fun x hx => ?_⟩ <;> rcases List.mem_or_eq_of_mem_set hx with hx | rfl
    · exact h.2.1 x hx
    · exact hd.1
    · exact h.2.2 x hx
    · exact hd.2
  unfold applyRaw at e
  split at e
  · split at e
    · cases e
      refine ⟨by rw [List.length_append, List.length_singleton]; omega, fun x hx => ?_, fun x hx => ?_⟩ <;> rcases List.mem_append.1 hx with hx | hx
      · exact h.2.1 x hx
      · rw [List.mem_singleton.1 hx]; exact hc.1
      · exact h.2.2 x hx
      · rw [List.mem_singleton.1 hx]; exact hc.2
    · cases e
  · split at e
    · cases e
    · rename_i hn
      have hr := named_range l c.2.1
      have h0 : ¬ named l c.2.1 < 0 := fun h => hn (.inl h)
      split at e
      · split at e
        · cases e
          have g1 := sub_length_le l 0 (named l c.2.1)
          have g2 := sub_length_le l (named l c.2.1 + 1) (l.length : Int)
          refine ⟨by rw [List.length_append]; omega, fun x hx => ?_, fun x hx => ?_⟩ <;> rcases List.mem_append.1 hx with hx | hx
          · exact h.2.1 x (sub_mem hx)
          · exact h.2.1 x (sub_mem hx)
          · exact h.2.2 x (sub_mem hx)
          · exact h.2.2 x (sub_mem hx)
        · cases e
      · split at e
        · cases e
          exact hset _ _ ⟨h.2.1 (gt l (named l c.2.1)) (gt_mem ⟨by omega, hr.2⟩), hc.2⟩
        · cases e

theorem impl_apply {l : List (ByteArray × Int)} (h : DefsIn l) (hv : EnumOk l) {c : Int × ByteArray × Int × Int} (hc : ChgIn c) :
    m_impl_Enum_apply l c.1 c.2.1 c.2.2.1 c.2.2.2 = some (match stepC l c with | some k => (k, true) | none => ([], false)) := by
  have hlen := hv.2
  have hr := named_range l c.2.1
  have hin : ∀ k, applyRaw l c = some k → DefsIn k := fun k hk => raw_in h hlen hc hk
  rw [m_impl_Enum_apply, impl_named _ _ (by omega), bd_some]
  unfold stepC
  unfold applyRaw at hin ⊢
  by_cases k0 : c.1 = 0
  · rw [cond_pos k0]
    rw [if_pos k0] at hin ⊢
    by_cases hn : named l c.2.1 < 0
    · rw [cond_neg (by omega)]
      by_cases ho : c.2.2.1 = 0
      · rw [if_pos ⟨hn, ho⟩] at hin ⊢
        have hk := hin _ rfl
        rw [decide_eq_true ho, Bool.not_true, cond_false, m_impl_AddDef, clone_si (by omega), bd_some, gd_pos (by rw [List.length_singleton]; omega), impl_ValidEnum h, bd_some, decide_eq_true hv, enumOf_true hk, bd_some, bd_some]
        simp only []
        split <;> rfl
      · rw [if_neg (fun h => ho h.2), decide_eq_false ho]; rfl
    · rw [cond_pos (by omega), if_neg (fun h => hn h.1)]
  · rw [cond_neg k0]
    rw [if_neg k0] at hin ⊢
    by_cases hn : named l c.2.1 < 0
    · rw [cond_pos hn, if_pos (.inl hn)]
    · rw [cond_neg hn, gd_pos (by omega)]
      by_cases ho : (gt l (named l c.2.1)).2 = c.2.2.1
      · have hno : ¬ (named l c.2.1 < 0 ∨ ¬ (gt l (named l c.2.1)).2 = c.2.2.1) := by rintro (h | h); exact hn h; exact h ho
        rw [if_neg hno] at hin ⊢
        rw [decide_eq_true ho, Bool.not_true, cond_false]
        have turn : c.1 = 2 → ∀ k, k = l.set (named l c.2.1).toNat ((gt l (named l c.2.1)).1, c.2.2.2) → DefsIn k → (bd (m_impl_clone_si l) fun x9 => gd (0 ≤ named l c.2.1 ∧ named l c.2.1 < (x9.length : Int)) <| bd (m_impl_enumOf (x9.set (0 + (named l c.2.1).toNat) ((gt x9 (named l c.2.1)).1, c.2.2.2)) true) fun x10 => some (x10.1, x10.2)) = some (match (if EnumOk k then some k else none : Option (List (ByteArray × Int))) with | some k => (k, true) | none => ([], false)) := fun _ k hk hd => by
          rw [clone_si (by omega), bd_some, gd_pos (by omega), Nat.zero_add, ← hk, enumOf_true hd, bd_some]
          split <;> rfl
        by_cases k1 : c.1 = 1
        · rw [cond_pos k1]
          rw [if_pos k1] at hin ⊢
          by_cases hz : c.2.2.2 = 0
          · rw [if_pos hz] at hin ⊢
            have hk := hin _ rfl
            have g1 := sub_length_le l 0 (named l c.2.1)
            have g2 := sub_length_le l (named l c.2.1 + 1) (l.length : Int)
            rw [cond_pos hz, m_impl_DropDef, impl_named _ _ (by omega), bd_some, cond_neg hn, gd_pos (by omega), w64 (a := named l c.2.1 + 1) (by omega) (by omega), gd_pos (by omega), concat2 (by omega) (by omega), bd_some, impl_ValidEnum h, bd_some, decide_eq_true hv, enumOf_true hk, bd_some, bd_some]
            simp only []
            split <;> rfl
          · rw [cond_neg hz, if_neg hz, cond_neg (by omega)]
        · rw [cond_neg k1]
          rw [if_neg k1] at hin ⊢
          by_cases k2 : c.1 = 2
          · rw [if_pos k2] at hin ⊢
            rw [cond_pos k2]
            exact turn k2 _ rfl (hin _ rfl)
          · rw [cond_neg k2, if_neg k2]
      · rw [if_pos (.inr ho), decide_eq_false ho]; rfl

/-- all changes, one after another -/
def runC : List (ByteArray × Int) → List (Int × ByteArray × Int × Int) → Option (List (ByteArray × Int))
  | l, [] => some l
  | l, c :: cs => match stepC l c with
    | some k => runC k cs
    | none => none

theorem stepC_ok {l k : List (ByteArray × Int)} {c : Int × ByteArray × Int × Int} (e : stepC l c = some k) : EnumOk k ∧ applyRaw l c = some k := by
  unfold stepC at e
  split at e
  · rename_i k' h
    split at e
    · rename_i hv; cases e; exact ⟨hv, h⟩
    · cases e
  · cases e

theorem impl_run {e : List (ByteArray × Int)} (h : DefsIn e) (hv : EnumOk e) {cs : List (Int × ByteArray × Int × Int)} (hl : cs.length ≤ 1000000) (hc : ∀ c ∈ cs, ChgIn c) :
    m_impl_ApplyChanges_L1 cs FU e 0 = some (match runC e cs with | some k => .inr k | none => .inl ()) := by
  refine Wp.eq (listW cs (fun n i s => m_impl_ApplyChanges_L1 cs n s i) (fun i s => DefsIn s ∧ EnumOk s ∧ runC s (cs.drop i) = runC e cs) (fun r => r = (match runC e cs with | some k => .inr k | none => .inl ())) ?_ ?_ FU (by rw [FU_eq]; omega) e ⟨h, hv, rfl⟩)
  · intro n s hI
    have h3 := hI.2.2
    rw [List.drop_length] at h3
    rw [m_impl_ApplyChanges_L1, cond_neg (by omega), ← h3]
    exact ⟨_, rfl, rfl⟩
  · intro n i s d hi hg hdr hm hI ih
    have h3 := hI.2.2
    rw [hdr, runC] at h3
    rw [m_impl_ApplyChanges_L1, cond_pos (by omega), gd_pos (by omega), hg, impl_apply hI.1 hI.2.1 (hc d hm), bd_some]
    cases hs : stepC s d with
    | none =>
      rw [hs] at h3
      simp only [] at h3 ⊢
      rw [Bool.not_false, cond_true, ← h3]
      exact ⟨_, rfl, rfl⟩
    | some k =>
      rw [hs] at h3
      simp only [] at h3 ⊢
      rw [Bool.not_true, cond_false, w64s (by omega)]
      obtain ⟨g1, g2⟩ := stepC_ok hs
      exact ih k ⟨raw_in hI.1 hI.2.1.2 (hc d hm) g2, g1, h3⟩

theorem spec_applied {l : List (ByteArray × Int)} (hl : l.length ≤ 12) (c : Int × ByteArray × Int × Int) :
    ∃ x, m_spec_applied l c.1 c.2.1 c.2.2.1 c.2.2.2 = some (x, (applyRaw l c).isSome) ∧ ∀ k, applyRaw l c = some k → x = k := by
  have hr := named_range l c.2.1
  have hcopy : m_spec_copyDefs l = some () := by rw [m_spec_copyDefs, gd_pos (by rw [List.length_nil]; omega)]
  rw [m_spec_applied, spec_indexOf _ _ (by omega), bd_some]
  unfold applyRaw
  by_cases k0 : c.1 = 0
  · rw [cond_pos k0, hcopy, bd_some, gd_pos (by rw [List.nil_append, List.length_singleton]; omega), if_pos k0, List.nil_append]
    by_cases hn : named l c.2.1 < 0
    · rw [cond_pos hn]
      by_cases ho : c.2.2.1 = 0
      · rw [if_pos ⟨hn, ho⟩, decide_eq_true ho]; exact ⟨_, rfl, fun k hk => by cases hk; rfl⟩
      · rw [if_neg (fun h => ho h.2), decide_eq_false ho]; exact ⟨_, rfl, fun k hk => by cases hk⟩
    · rw [cond_neg hn, if_neg (fun h => hn h.1)]; exact ⟨_, rfl, fun k hk => by cases hk⟩
  · rw [cond_neg k0, if_neg k0]
    by_cases hbad : named l c.2.1 < 0 ∨ ¬ (gt l (named l c.2.1)).2 = c.2.2.1
    · rw [if_pos hbad]
      have hk : ∀ (t : Option (List (ByteArray × Int) × Bool)), (bif decide (named l c.2.1 < 0) then some (([] : List (ByteArray × Int)), false) else gd (0 ≤ named l c.2.1 ∧ named l c.2.1 < (l.length : Int)) <| bif (!decide ((gt l (named l c.2.1)).2 = c.2.2.1)) then some (([] : List (ByteArray × Int)), false) else t) = some ([], false) := fun t => by
        by_cases hn : named l c.2.1 < 0
        · rw [cond_pos hn]
        · have ho : ¬ (gt l (named l c.2.1)).2 = c.2.2.1 := by rcases hbad with h | h; exact absurd h hn; exact h
          rw [cond_neg hn, gd_pos (by omega), decide_eq_false ho]; rfl
      by_cases k1 : c.1 = 1
      · rw [cond_pos k1, hk]; exact ⟨_, rfl, fun k hk => by cases hk⟩
      · rw [cond_neg k1]
        by_cases k2 : c.1 = 2
        · rw [cond_pos k2, hk]; exact ⟨_, rfl, fun k hk => by cases hk⟩
        · rw [cond_neg k2]; exact ⟨_, rfl, fun k hk => by cases hk⟩
    · have hn : ¬ named l c.2.1 < 0 := fun h => hbad (.inl h)
      have ho : (gt l (named l c.2.1)).2 = c.2.2.1 := Decidable.not_not.1 fun h => hbad (.inr h)
      obtain ⟨j, hj⟩ := Int.eq_ofNat_of_zero_le (show 0 ≤ named l c.2.1 by omega)
      rw [if_neg hbad]
      by_cases k1 : c.1 = 1
      · rw [cond_pos k1, if_pos k1, cond_neg hn, gd_pos (by omega), decide_eq_true ho, Bool.not_true, cond_false]
        by_cases hz : c.2.2.2 = 0
        · rw [decide_eq_true hz, Bool.not_true, cond_false, if_pos hz, hj, dropped_some (by omega) (by omega), bd_some, w64s (by omega), List.nil_append]
          exact ⟨_, rfl, fun k hk => by cases hk; rfl⟩
        · rw [decide_eq_false hz, Bool.not_false, cond_true, if_neg hz]; exact ⟨_, rfl, fun k hk => by cases hk⟩
      · rw [cond_neg k1, if_neg k1]
        by_cases k2 : c.1 = 2
        · rw [cond_pos k2, if_pos k2, cond_neg hn, gd_pos (by omega), decide_eq_true ho, Bool.not_true, cond_false, hcopy, bd_some, List.nil_append, gd_pos (by omega), Nat.zero_add]
          exact ⟨_, rfl, fun k hk => by cases hk; rfl⟩
        · rw [cond_neg k2, if_neg k2]; exact ⟨_, rfl, fun k hk => by cases hk⟩

theorem spec_run {e : List (ByteArray × Int)} (h : DefsIn e) (hv : EnumOk e) {cs : List (Int × ByteArray × Int × Int)} (hl : cs.length ≤ 1000000) (hc : ∀ c ∈ cs, ChgIn c) :
    m_spec_ApplyChanges_L1 cs FU e 0 = some (match runC e cs with | some k => .inr k | none => .inl ()) := by
  refine Wp.eq (listW cs (fun n i s => m_spec_ApplyChanges_L1 cs n s i) (fun i s => DefsIn s ∧ EnumOk s ∧ runC s (cs.drop i) = runC e cs) (fun r => r = (match runC e cs with | some k => .inr k | none => .inl ())) ?_ ?_ FU (by rw [FU_eq]; omega) e ⟨h, hv, rfl⟩)
  · intro n s hI
    have h3 := hI.2.2
    rw [List.drop_length] at h3
    rw [m_spec_ApplyChanges_L1, cond_neg (by omega), ← h3]
    exact ⟨_, rfl, rfl⟩
  · intro n i s d hi hg hdr hm hI ih
    have h3 := hI.2.2
    rw [hdr, runC] at h3
    obtain ⟨x, ex, hx⟩ := spec_applied hI.2.1.2 d
    rw [m_spec_ApplyChanges_L1, cond_pos (by omega), gd_pos (by omega), hg, ex, bd_some]
    unfold stepC at h3
    cases hs : applyRaw s d with
    | none =>
      rw [hs] at h3
      simp only [] at h3 ⊢
      rw [Option.isSome_none, Bool.not_false, cond_true, ← h3]
      exact ⟨_, rfl, rfl⟩
    | some k =>
      have hxk := hx k hs
      subst hxk
      have hin := raw_in hI.1 hI.2.1.2 (hc d hm) hs
      rw [hs] at h3
      simp only [] at h3 ⊢
      rw [Option.isSome_some, Bool.not_true, cond_false, spec_validEnum hin, bd_some]
      by_cases hk : EnumOk x
      · rw [if_pos hk] at h3
        rw [decide_eq_true hk, Bool.not_true, cond_false, w64s (by omega)]
        exact ih x ⟨hin, hk, h3⟩
      · rw [if_neg hk] at h3
        rw [decide_eq_false hk, Bool.not_false, cond_true]
        simp only [] at h3
        rw [← h3]
        exact ⟨_, rfl, rfl⟩

def appliedC (e : List (ByteArray × Int)) (cs : List (Int × ByteArray × Int × Int)) : List (ByteArray × Int) × Bool :=
  if EnumOk e ∧ cs.length ≤ 30 then (match runC e cs with | some k => (k, true) | none => ([], false)) else ([], false)

theorem impl_ApplyChanges {e : List (ByteArray × Int)} (h : DefsIn e) {cs : List (Int × ByteArray × Int × Int)} (hc : ∀ c ∈ cs, ChgIn c) : m_impl_ApplyChanges e cs = some (appliedC e cs) := by
  rw [m_impl_ApplyChanges, impl_ValidEnum h, bd_some, appliedC]
  by_cases hv : EnumOk e
  · have hlen := hv.2
    rw [decide_eq_true hv, Bool.not_true, cond_false]
    by_cases hl : cs.length ≤ 30
    · rw [cond_neg (by omega), clone_si (by omega), bd_some, impl_run h hv (by omega) hc, bd_some, if_pos ⟨hv, hl⟩]
      cases runC e cs <;> rfl
    · rw [cond_pos (by omega), if_neg (fun h => hl h.2)]
  · rw [decide_eq_false hv, Bool.not_false, cond_true, if_neg (fun h => hv h.1)]

theorem spec_ApplyChanges {e : List (ByteArray × Int)} (h : DefsIn e) {cs : List (Int × ByteArray × Int × Int)} (hc : ∀ c ∈ cs, ChgIn c) : m_spec_ApplyChanges e cs = some (appliedC e cs) := by
  rw [m_spec_ApplyChanges, spec_validEnum h, bd_some, appliedC]
  by_cases hv : EnumOk e
  · have hlen := hv.2
    rw [decide_eq_true hv, Bool.not_true, cond_false]
    by_cases hl : cs.length ≤ 30
    · rw [cond_neg (by omega), m_spec_copyDefs, gd_pos (by rw [List.length_nil]; omega), bd_some, List.nil_append, spec_run h hv (by omega) hc, bd_some, if_pos ⟨hv, hl⟩]
      cases runC e cs <;> rfl
    · rw [cond_pos (by omega), if_neg (fun h => hl h.2)]
  · rw [decide_eq_false hv, Bool.not_false, cond_true, if_neg (fun h => hv h.1)]

theorem runC_ok : ∀ (cs : List (Int × ByteArray × Int × Int)) {e k : List (ByteArray × Int)}, EnumOk e → runC e cs = some k → EnumOk k
  | [], e, k, hv, h => by rw [runC] at h; cases h; exact hv
  | c :: cs, e, k, hv, h => by
    rw [runC] at h
    cases hs : stepC e c with
    | none => rw [hs] at h; cases h
    | some k' => rw [hs] at h; exact runC_ok cs (stepC_ok hs).1 h

theorem appliedC_length (e : List (ByteArray × Int)) (cs : List (Int × ByteArray × Int × Int)) : (appliedC e cs).1.length ≤ 12 := by
  unfold appliedC
  split
  · rename_i h
    cases hr : runC e cs with
    | none => simp
    | some k => exact (runC_ok cs h.1 hr).2
  · simp

theorem sub_drop {α : Type} (l : List α) (i : Nat) : sub l (i : Int) (l.length : Int) = l.drop i := by
  unfold sub
  rw [Int.toNat_natCast, Int.toNat_natCast, List.take_of_length_le (by rw [List.length_drop]; omega)]

theorem named_neg {l : List (ByteArray × Int)} {s : ByteArray} : named l s < 0 ↔ ∀ d ∈ l, ¬ d.1 = s := by
  unfold named
  rcases ix_cases (fun d : ByteArray × Int => decide (d.1 = s)) l with ⟨h1, _, h2⟩ | ⟨i, d, h1, h2, _, _, h3, h4⟩
  · rw [h1]
    constructor
    · intro _ d hd; exact of_decide_eq_false (h2 d hd)
    · intro _; omega
  · rw [h1]
    constructor
    · intro h; omega
    · intro h; exact absurd (of_decide_eq_true h4) (h d h3)

theorem EnumOk.len {l : List (ByteArray × Int)} (h : EnumOk l) : l.length ≤ 12 := h.2

/-- few definitions with names and small numbers -/
def FewDefs (l : List (ByteArray × Int)) : Prop := l.length ≤ 12 ∧ ∀ d ∈ l, NameOk d.1 ∧ -4096 ≤ d.2 ∧ d.2 ≤ 4096

theorem FewDefs.inn {l : List (ByteArray × Int)} (h : FewDefs l) : DefsIn l :=
  ⟨by have := h.1; omega, fun d hd => by have := (h.2 d hd).1.2.2; omega, fun d hd => by have := (h.2 d hd).2; exact ⟨by omega, by omega⟩⟩

theorem split_at {l : List (ByteArray × Int)} {n : ByteArray} {v : Int} (nd : (l.map (·.1)).Nodup) (hm : (n, v) ∈ l) :
    ∃ a b, l = a ++ (n, v) :: b ∧ named l n = (a.length : Int) ∧ (∀ d ∈ a, d.1 ≠ n) ∧ (∀ d ∈ b, d.1 ≠ n) ∧ (∀ x : Int, ((a ++ (n, x) :: b).map (·.1)).Nodup) ∧ ((a ++ b).map (·.1)).Nodup := by
  obtain ⟨h0, h1⟩ := named_self nd hm
  have hr := named_range l n
  simp only at h0 h1
  obtain ⟨j, hj⟩ := Int.eq_ofNat_of_zero_le h0
  have hlt : j < l.length := by omega
  rw [hj, gt_nat hlt] at h1
  have e : l = l.take j ++ (n, v) :: l.drop (j + 1) := by
    rw [← h1, ← List.drop_eq_getElem_cons hlt, List.take_append_drop]
  have hn : named l n = ((l.take j).length : Int) := by rw [hj, List.length_take]; omega
  generalize l.take j = a at e hn
  generalize l.drop (j + 1) = b at e
  refine ⟨a, b, e, hn, ?_⟩
  rw [e, List.map_append, List.map_cons, List.nodup_append, List.nodup_cons] at nd
  obtain ⟨n1, ⟨n2, n3⟩, n4⟩ := nd
  refine ⟨fun d hd h => n4 d.1 (List.mem_map.2 ⟨d, hd, rfl⟩) n (List.mem_cons_self ..) h, fun d hd h => n2 (List.mem_map.2 ⟨d, hd, h⟩), fun x => ?_, ?_⟩
  · rw [List.map_append, List.map_cons, List.nodup_append, List.nodup_cons]
    exact ⟨n1, ⟨n2, n3⟩, n4⟩
  · rw [List.map_append, List.nodup_append]
    exact ⟨n1, n3, fun x hx y hy => n4 x hx y (List.mem_cons_of_mem _ hy)⟩

theorem raw_add {l : List (ByteArray × Int)} {n : ByteArray} {v : Int} (h : named l n < 0) : applyRaw l (0, n, 0, v) = some (l ++ [(n, v)]) := by
  unfold applyRaw; simp [h]

theorem raw_drop {l : List (ByteArray × Int)} {n : ByteArray} {v : Int} (nd : (l.map (·.1)).Nodup) (hm : (n, v) ∈ l) :
    ∃ k, applyRaw l (1, n, v, 0) = some k ∧ (∀ d, d ∈ k ↔ d ∈ l ∧ d.1 ≠ n) ∧ (k.map (·.1)).Nodup := by
  obtain ⟨a, b, e, hn, ha, hb, -, hk⟩ := split_at nd hm
  have hg : gt l (named l n) = (n, v) := (named_self nd hm).2
  refine ⟨a ++ b, ?_, fun d => ?_, hk⟩
  · unfold applyRaw
    simp only [hg]
    rw [if_neg (by omega), if_neg (by rintro (h | h); omega; exact h trivial), if_pos trivial, if_pos trivial, hn, sub_zero, e]
    congr 2
    · rw [List.take_left]
    · rw [show ((a.length : Int) + 1) = ((a.length + 1 : Nat) : Int) by omega, sub_drop, show a.length + 1 = (a ++ [(n, v)]).length by simp, show a ++ (n, v) :: b = (a ++ [(n, v)]) ++ b by simp, List.drop_left]
  · rw [e]
    simp only [List.mem_append, List.mem_cons]
    constructor
    · rintro (h | h)
      · exact ⟨.inl h, ha d h⟩
      · exact ⟨.inr (.inr h), hb d h⟩
    · rintro ⟨h | rfl | h, h2⟩
      · exact .inl h
      · exact absurd rfl h2
      · exact .inr h

theorem raw_turn {l : List (ByteArray × Int)} {n : ByteArray} {v : Int} (nd : (l.map (·.1)).Nodup) (hm : (n, v) ∈ l) (w : Int) :
    ∃ k, applyRaw l (2, n, v, w) = some k ∧ (∀ d, d ∈ k ↔ (d ∈ l ∧ d.1 ≠ n) ∨ d = (n, w)) ∧ (k.map (·.1)).Nodup := by
  obtain ⟨a, b, e, hn, ha, hb, hk, -⟩ := split_at nd hm
  have hg : gt l (named l n) = (n, v) := (named_self nd hm).2
  refine ⟨a ++ (n, w) :: b, ?_, fun d => ?_, hk w⟩
  · unfold applyRaw
    simp only [hg]
    rw [if_neg (by omega), if_neg (by rintro (h | h); omega; exact h trivial), if_neg (by omega), if_pos trivial, hn, Int.toNat_natCast, e]
    simp
  · rw [e]
    simp only [List.mem_append, List.mem_cons]
    constructor
    · rintro (h | rfl | h)
      · exact .inl ⟨.inl h, ha d h⟩
      · exact .inr rfl
      · exact .inl ⟨.inr (.inr h), hb d h⟩
    · rintro (⟨h | rfl | h, h2⟩ | rfl)
      · exact .inl h
      · exact absurd rfl h2
      · exact .inr (.inr h)
      · exact .inr (.inl rfl)

theorem raw_mem {l k : List (ByteArray × Int)} {c : Int × ByteArray × Int × Int} (nd : (l.map (·.1)).Nodup) (e : applyRaw l c = some k) :
    (∃ n v, c = (0, n, 0, v) ∧ named l n < 0 ∧ ∀ d, d ∈ k ↔ d ∈ l ∨ d = (n, v)) ∨
    (∃ n v, c = (1, n, v, 0) ∧ (n, v) ∈ l ∧ ∀ d, d ∈ k ↔ d ∈ l ∧ d.1 ≠ n) ∨
    (∃ n v w, c = (2, n, v, w) ∧ (n, v) ∈ l ∧ ∀ d, d ∈ k ↔ (d ∈ l ∧ d.1 ≠ n) ∨ d = (n, w)) := by
  obtain ⟨c1, n, v, w⟩ := c
  have e0 := e
  unfold applyRaw at e
  simp only at e
  split at e
  · rename_i h0
    subst h0
    split at e
    · rename_i h
      obtain ⟨h1, rfl⟩ := h
      cases e
      exact .inl ⟨n, w, rfl, h1, fun d => by simp⟩
    · cases e
  · split at e
    · cases e
    · rename_i hb
      have h1 : ¬ named l n < 0 := fun h => hb (.inl h)
      have h2 : (gt l (named l n)).2 = v := Decidable.not_not.1 fun h => hb (.inr h)
      obtain ⟨g1, g2⟩ := named_at h1
      have hm : (n, v) ∈ l := by
        have : gt l (named l n) = (n, v) := Prod.ext g2 h2
        rwa [this] at g1
      split at e
      · rename_i hc
        subst hc
        split at e
        · rename_i hz
          subst hz
          obtain ⟨k', e', hk, -⟩ := raw_drop nd hm
          rw [e0] at e'
          cases e'
          exact .inr (.inl ⟨n, v, rfl, hm, hk⟩)
        · cases e
      · split at e
        · rename_i hc
          subst hc
          obtain ⟨k', e', hk, -⟩ := raw_turn nd hm w
          rw [e0] at e'
          cases e'
          exact .inr (.inr ⟨n, v, w, rfl, hm, hk⟩)
        · cases e

theorem ok_same {l m : List (ByteArray × Int)} (hv : EnumOk l) (nd : (m.map (·.1)).Nodup) (h : ∀ d, d ∈ m ↔ d ∈ l) : EnumOk m := by
  obtain ⟨h1, h2, h3⟩ := hv.out
  have hn : m.Nodup := List.Pairwise.of_map _ (fun a b h e => h (by rw [e])) nd
  have := nodup_sub_length m l hn (fun d hd => (h d).1 hd)
  exact DefsOk.of ⟨fun d hd => h1 d ((h d).1 hd), nd, by omega⟩

theorem step_back {l k l' : List (ByteArray × Int)} {c : Int × ByteArray × Int × Int} (hl : EnumOk l) (hl' : EnumOk l') (e : stepC l c = some k) (hs : ∀ d, d ∈ l' ↔ d ∈ k) :
    ∃ m, stepC l' (turnChg c) = some m ∧ EnumOk m ∧ ∀ d, d ∈ m ↔ d ∈ l := by
  have key : ∀ m, applyRaw l' (turnChg c) = some m → (m.map (·.1)).Nodup → (∀ d, d ∈ m ↔ d ∈ l) → ∃ m, stepC l' (turnChg c) = some m ∧ EnumOk m ∧ ∀ d, d ∈ m ↔ d ∈ l := fun m h1 h2 h3 => by
    have hm := ok_same hl h2 h3
    refine ⟨m, ?_, hm, h3⟩
    unfold stepC
    rw [h1]
    exact if_pos hm
  have nd := hl.out.2.1
  have nd' := hl'.out.2.1
  have uq : ∀ {n v w}, (n, v) ∈ l → (n, w) ∈ l → v = w := fun {n v w} h1 h2 => by
    have e1 := (named_self nd h1).2
    have e2 := (named_self nd h2).2
    simp only at e1 e2
    rw [e1] at e2
    cases e2; rfl
  obtain ⟨hk, er⟩ := stepC_ok e
  rcases raw_mem nd er with ⟨n, v, rfl, h1, h2⟩ | ⟨n, v, rfl, h1, h2⟩ | ⟨n, v, w, rfl, h1, h2⟩
  · obtain ⟨m, em, h3, h4⟩ := raw_drop nd' (n := n) (v := v) ((hs _).2 ((h2 _).2 (.inr rfl)))
    refine key m em h4 fun d => ?_
    rw [h3, hs, h2]
    constructor
    · rintro ⟨h | rfl, h5⟩
      · exact h
      · exact absurd rfl h5
    · exact fun h => ⟨.inl h, named_neg.1 h1 d h⟩
  · have hn : named l' n < 0 := named_neg.2 fun d hd => ((h2 d).1 ((hs d).1 hd)).2
    have hm : ∀ d, d ∈ l' ++ [(n, v)] ↔ d ∈ l := fun d => by
      rw [List.mem_append, List.mem_singleton, hs, h2]
      constructor
      · rintro (h | rfl)
        · exact h.1
        · exact h1
      · intro h
        by_cases hd : d.1 = n
        · obtain ⟨s, x⟩ := d
          simp only at hd
          subst hd
          rw [uq h h1]; exact .inr rfl
        · exact .inl ⟨h, hd⟩
    refine key _ (raw_add hn) ?_ hm
    rw [List.map_append, List.nodup_append]
    refine ⟨nd', by simp, fun x hx y hy h => ?_⟩
    obtain ⟨d, hd, rfl⟩ := List.mem_map.1 hx
    simp only [List.map_cons, List.map_nil, List.mem_singleton] at hy
    exact named_neg.1 hn d hd (h.trans hy)
  · obtain ⟨m, em, h3, h4⟩ := raw_turn nd' (n := n) (v := w) ((hs _).2 ((h2 _).2 (.inr rfl))) v
    refine key m em h4 fun d => ?_
    rw [h3, hs, h2]
    constructor
    · rintro (⟨h | rfl, h5⟩ | rfl)
      · exact h.1
      · exact absurd rfl h5
      · exact h1
    · intro h
      by_cases hd : d.1 = n
      · obtain ⟨s, x⟩ := d
        simp only at hd
        subst hd
        rw [uq h h1]; exact .inr rfl
      · exact .inl ⟨.inl ⟨h, hd⟩, hd⟩

theorem runC_append : ∀ (a b : List (Int × ByteArray × Int × Int)) (l : List (ByteArray × Int)), runC l (a ++ b) = (runC l a).bind (fun k => runC k b)
  | [], b, l => by rw [List.nil_append, runC]; rfl
  | c :: a, b, l => by
    rw [List.cons_append, runC, runC]
    cases stepC l c with
    | none => rfl
    | some k => exact runC_append a b k

theorem run_back : ∀ (cs : List (Int × ByteArray × Int × Int)) {l k l' : List (ByteArray × Int)}, EnumOk l → EnumOk l' → runC l cs = some k → (∀ d, d ∈ l' ↔ d ∈ k) → ∃ m, runC l' (cs.reverse.map turnChg) = some m ∧ EnumOk m ∧ ∀ d, d ∈ m ↔ d ∈ l
  | [], l, k, l', hl, hl', e, hs => by
    rw [runC] at e
    cases e
    exact ⟨l', by rw [List.reverse_nil, List.map_nil, runC], hl', hs⟩
  | c :: cs, l, k, l', hl, hl', e, hs => by
    rw [runC] at e
    cases h : stepC l c with
    | none => rw [h] at e; cases e
    | some g =>
      rw [h] at e
      obtain ⟨m, e1, h1, h2⟩ := run_back cs (stepC_ok h).1 hl' e hs
      obtain ⟨m', e2, h3, h4⟩ := step_back hl h1 h h2
      refine ⟨m', ?_, h3, h4⟩
      rw [List.reverse_cons, List.map_append, runC_append, e1]
      show runC m [turnChg c] = _
      rw [runC, e2]
      show runC m' [] = _
      rw [runC]

theorem diff_in {a b : List (ByteArray × Int)} (ha : SomeDefs a) (hb : SomeDefs b) : ∀ c ∈ diffC a b, c.2.1.size ≤ 7 ∧ (-5000 ≤ c.2.2.1 ∧ c.2.2.1 ≤ 5000) ∧ -5000 ≤ c.2.2.2 ∧ c.2.2.2 ≤ 5000 := by
  intro c hc
  unfold diffC drops turns adds at hc
  rw [List.mem_append, List.mem_append, List.mem_flatMap, List.mem_flatMap, List.mem_flatMap] at hc
  rcases hc with (⟨d, hd, h⟩ | ⟨d, hd, h⟩) | ⟨d, hd, h⟩
  · split at h
    · rw [List.mem_singleton.1 h]; exact ⟨(ha.2 d hd).1, (ha.2 d hd).2, by simp only; omega, by simp only; omega⟩
    · cases h
  · split at h
    · cases h
    · rename_i hn
      have hg := (named_at (l := b) (s := d.1) (fun h => hn (.inl h))).1
      rw [List.mem_singleton.1 h]; exact ⟨(ha.2 d hd).1, (ha.2 d hd).2, (hb.2 _ hg).2⟩
  · split at h
    · rw [List.mem_singleton.1 h]; exact ⟨(hb.2 d hd).1, ⟨by simp only; omega, by simp only; omega⟩, (hb.2 d hd).2⟩
    · cases h

def SmallChgs (cs : List (Int × ByteArray × Int × Int)) : Prop := cs.length ≤ 1000 ∧ ∀ c ∈ cs, c.2.1.size ≤ 7 ∧ (-5000 ≤ c.2.2.1 ∧ c.2.2.1 ≤ 5000) ∧ -5000 ≤ c.2.2.2 ∧ c.2.2.2 ≤ 5000

theorem someChanges {code : List Int} (hc : Bytes code) (hl : code.length ≤ 9223372036854775807) {e : List (ByteArray × Int)} (he : SomeDefs e) {p : Int} (hp : 0 ≤ p ∧ p < 600000) :
    ∃ r, m_spec_someChanges e code p = some r ∧ SmallChgs r.1 := by
  obtain ⟨⟨b, q⟩, eb, b1, b2, b3, b4⟩ := goodEnum hc hl (p := p) ⟨by omega, by omega⟩
  simp only at b1 b2 b3 b4
  have sb : SomeDefs b := ⟨by omega, b1⟩
  have hd : DefsIn e := SomeDefs.inn he
  have hel := he.1
  obtain ⟨x, ex, lx, ux⟩ := pick (n := 4) hc hl (p := q) ⟨by omega, by omega⟩
  obtain ⟨k1, ek1, mk1⟩ := one hc hl (p := q + 1) ⟨by omega, by omega⟩ (xs := ([0, 1, 2, 3] : List Int)) (by simp)
  obtain ⟨k2, ek2, mk2⟩ := aName hc hl (p := q + 1 + 1) ⟨by omega, by omega⟩
  obtain ⟨k3, ek3, lk3, uk3⟩ := pick (n := 3) hc hl (p := q + 1 + 1 + 1) ⟨by omega, by omega⟩
  have uk3 := uk3 (by omega)
  obtain ⟨k4, ek4, mk4⟩ := one hc hl (p := q + 1 + 1 + 1 + 1) ⟨by omega, by omega⟩ (xs := ([0, 1, 1001] : List Int)) (by simp)
  have mk4 : 0 ≤ k4 ∧ k4 ≤ 1001 := by
    simp only [List.mem_cons, List.not_mem_nil, or_false] at mk4
    omega
  have hone : ∀ xs : List (Int × ByteArray × Int × Int), SmallChgs xs → xs.length ≤ 100 → SmallChgs (xs ++ [(k1, k2, k3, k4)]) := fun xs h h' => by
    refine ⟨by rw [List.length_append, List.length_singleton]; omega, fun c hc => ?_⟩
    rcases List.mem_append.1 hc with h1 | h1
    · exact h.2 c h1
    · rw [List.mem_singleton.1 h1]
      exact ⟨mk2, ⟨by simp only; omega, by simp only; omega⟩, by simp only; omega, by simp only; omega⟩
  have w1 : IntKind.wrap .i64 (q + 1) = q + 1 := w64 (by omega) (by omega)
  have w2 : IntKind.wrap .i64 (q + 1 + 1) = q + 1 + 1 := w64 (by omega) (by omega)
  have w3 : IntKind.wrap .i64 (q + 1 + 1 + 1) = q + 1 + 1 + 1 := w64 (by omega) (by omega)
  have w4 : IntKind.wrap .i64 (q + 1 + 1 + 1 + 1) = q + 1 + 1 + 1 + 1 := w64 (by omega) (by omega)
  have hdl := diffC_length e b
  rw [m_spec_someChanges, eb, bd_some]
  simp only [w1, w2, w3, w4]
  rw [spec_validEnum hd, bd_some]
  by_cases hv : EnumOk e
  · have hs : SmallChgs (diffC e b) := ⟨by omega, diff_in he sb⟩
    rw [decide_eq_true hv, cond_true, spec_differ (by omega) (by omega), bd_some, ex, bd_some]
    by_cases x0 : x = 0
    · rw [cond_pos x0, ek1, bd_some, ek2, bd_some, ek3, bd_some, ek4, bd_some, gd_pos (by rw [List.length_singleton]; omega)]
      exact ⟨_, rfl, hone _ hs (by omega)⟩
    · rw [cond_neg x0]
      exact ⟨_, rfl, hs⟩
  · have hs : SmallChgs [] := ⟨by simp, fun c hc => by cases hc⟩
    rw [decide_eq_false hv, cond_false, ex, bd_some]
    by_cases x0 : x = 0
    · rw [cond_pos x0, ek1, bd_some, ek2, bd_some, ek3, bd_some, ek4, bd_some, gd_pos (by simp)]
      exact ⟨_, rfl, hone _ hs (by simp)⟩
    · rw [cond_neg x0]
      exact ⟨_, rfl, hs⟩

theorem law_FnApplyChanges (p1 : List Int) (h : ∀ n ∈ p1, 0 ≤ n ∧ n < 256) (hl : p1.length ≤ 9223372036854775807) : m_laws_FnApplyChanges p1 = some true := by
  rw [m_laws_FnApplyChanges, cond_if]
  by_cases h0 : 1048576 < (p1.length : Int)
  · rw [if_pos h0]
  obtain ⟨c, ec, hc', hl'⟩ := newReader h hl
  obtain ⟨⟨e, q⟩, ee, sd, q1, q2⟩ := someEnum hc' hl' (p := 0) ⟨by omega, by omega⟩
  simp only at sd q1 q2
  obtain ⟨⟨cs, q'⟩, es, hs⟩ := someChanges hc' hl' sd (p := q) ⟨by omega, by omega⟩
  simp only at hs
  have hd : DefsIn e := SomeDefs.inn sd
  have hcs : ∀ c ∈ cs, ChgIn c := fun c hc => by
    have := hs.2 c hc
    exact ⟨by omega, by unfold I64; omega⟩
  have hct : ∀ c ∈ cs.reverse.map turnChg, ChgIn c := fun c hc => by
    obtain ⟨d, hd, rfl⟩ := List.mem_map.1 hc
    have := hs.2 d (List.mem_reverse.1 hd)
    exact ⟨by show d.2.1.size ≤ _; omega, by show I64 d.2.2.1; unfold I64; omega⟩
  have hlen := hs.1
  have hxl := appliedC_length e cs
  rw [if_neg h0, m_spec_DrawApplyChanges, ec, bd_some, ee, bd_some]
  simp only []
  rw [es, bd_some, bd_some]
  simp only []
  rw [impl_ApplyChanges hd hcs, bd_some, spec_ApplyChanges hd hcs, bd_some, laws_equalEnum (by omega), bd_some, decide_eq_true rfl, Bool.not_true, cond_false, beq_self_eq_true, Bool.not_true, cond_false]
  by_cases hok : EnumOk e ∧ cs.length ≤ 30
  · cases hr : runC e cs with
    | none =>
      have : appliedC e cs = ([], false) := by rw [appliedC, if_pos hok, hr]
      rw [this]
      simp only [Bool.not_false, cond_true, bd_some]
    | some k =>
      have : appliedC e cs = (k, true) := by rw [appliedC, if_pos hok, hr]
      have hk := runC_ok cs hok.1 hr
      have hki : DefsIn k := by
        obtain ⟨g1, g2, g3⟩ := hk.out
        exact ⟨by omega, fun d hd => by have := (g1 d hd).1.2.2; omega, fun d hd => by have := g1 d hd; unfold I64; omega⟩
      obtain ⟨m, em, hm, hmm⟩ := run_back cs hok.1 hk hr (fun d => Iff.rfl)
      have hmi : DefsIn m := by
        obtain ⟨g1, g2, g3⟩ := hm.out
        exact ⟨by omega, fun d hd => by have := (g1 d hd).1.2.2; omega, fun d hd => by have := g1 d hd; unfold I64; omega⟩
      rw [this]
      simp only [Bool.not_true, cond_false]
      rw [m_impl_TurnChanges, gd_pos (by omega), bd_some, impl_ApplyChanges hki hct, bd_some, impl_ValidEnum hki, bd_some, decide_eq_true hk, cond_true]
      have : appliedC k (cs.reverse.map turnChg) = (m, true) := by
        rw [appliedC, if_pos ⟨hk, by rw [List.length_map, List.length_reverse]; exact hok.2⟩, em]
      rw [this]
      simp only [cond_true]
      rw [impl_SameMeaning hmi hd, bd_some, decide_eq_true ⟨⟨hm, hok.1⟩, (diff_nil hm.out.2.1 hok.1.out.2.1).2 hmm⟩]
  · have : appliedC e cs = ([], false) := by rw [appliedC, if_neg hok]
    rw [this]
    simp only [Bool.not_false, cond_true, bd_some]

end Go.Eng
