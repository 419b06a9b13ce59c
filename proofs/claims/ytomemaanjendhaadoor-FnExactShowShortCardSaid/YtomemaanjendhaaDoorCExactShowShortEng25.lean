/- What is proved: arguments of a law (numbers, texts, slices of numbers, of texts and of structs of these, structs with such a slice) are data that the engine reads. Conditions: the row's own reading of the argument. -/
import Derived.Test.YtomemaanjendhaaDoorCExactShowShortEng24
import Derived.Lib.SmallJoins
import Derived.Deep.Strs
set_option linter.unusedVariables false
set_option linter.unusedSimpArgs false
namespace Go.Eng
open Go Go.RowKit Go.ChangeShapes Go.WideShapes

section
variable {H : Type} {enc : TypeId × Value → H} {P : Program} {W : World} {sp : Nat → Bool}

def In64 (n : Int) : Prop := -9223372036854775808 ≤ n ∧ n ≤ 9223372036854775807

theorem el_int {t : TypeId} (ht : P.underlying t = some (.int .i64)) {fuel : Nat} {cs : List Value} {y : DataW H × List MemPlace} (h : DataW.trod enc P W 0 sp true fuel t cs = some y) : ∃ n : Int, cs = [.int .i64 n] ∧ In64 n := by
  obtain ⟨n, rfl, _, hw⟩ := DataW.trod_int ht h
  refine ⟨n, rfl, ?_⟩
  simp only [Lit.wf, IntKind.min, IntKind.max, Bool.and_eq_true, decide_eq_true_eq] at hw
  simp [IntKind.signed, IntKind.bits] at hw
  unfold In64; omega

theorem el_byte {t : TypeId} (ht : P.underlying t = some (.int .u8)) {fuel : Nat} {cs : List Value} {y : DataW H × List MemPlace} (h : DataW.trod enc P W 0 sp true fuel t cs = some y) : ∃ n : Int, cs = [.int .u8 n] ∧ 0 ≤ n ∧ n < 256 := by
  obtain ⟨n, rfl, _, hw⟩ := DataW.trod_int ht h
  refine ⟨n, rfl, ?_⟩
  simp only [Lit.wf, IntKind.min, IntKind.max, Bool.and_eq_true, decide_eq_true_eq] at hw
  simp [IntKind.signed, IntKind.bits] at hw
  omega

theorem el_str {t : TypeId} (ht : P.underlying t = some .string) {fuel : Nat} {cs : List Value} {y : DataW H × List MemPlace} (h : DataW.trod enc P W 0 sp true fuel t cs = some y) : ∃ s : ByteArray, cs = [.string s] ∧ s.size ≤ 9223372036854775807 := by
  obtain ⟨s, rfl, _, hw⟩ := DataW.trod_string ht h
  exact ⟨s, rfl, Nat.le_trans hw (by decide)⟩

theorem el_bool {t : TypeId} (ht : P.underlying t = some .bool) {fuel : Nat} {cs : List Value} {y : DataW H × List MemPlace} (h : DataW.trod enc P W 0 sp true fuel t cs = some y) : ∃ b : Bool, cs = [.bool b] := by
  obtain ⟨b, rfl, _⟩ := DataW.trod_bool ht h
  exact ⟨b, rfl⟩

theorem el_si {t : TypeId} {f0 f1 : Field} (ht : P.underlying t = some (.struct #[f0, f1])) (hn : P.cellsOf t = 2) (h0 : P.underlying f0.type = some .string) (h1 : P.underlying f1.type = some (.int .i64)) (c0 : P.cellsOf f0.type = 1) (c1 : P.cellsOf f1.type = 1)
    (o0 : f0.offset = 0) (o1 : f1.offset = 1) {fuel : Nat} {cs : List Value} {y : DataW H × List MemPlace} (h : DataW.trod enc P W 0 sp true fuel t cs = some y) :
    ∃ x : ByteArray × Int, cs = [.string x.1, .int .i64 x.2] ∧ x.1.size ≤ 9223372036854775807 ∧ In64 x.2 := by
  obtain ⟨y0, y1, n, _, hl, a0, a1⟩ := trod_struct2 ht h
  rw [hn] at hl
  rw [c0, o0] at a0
  rw [c1, o1] at a1
  match cs, hl with
  | [u, v], _ =>
    obtain ⟨s, e, hs⟩ := el_str h0 a0
    obtain ⟨z, e1, hz⟩ := el_int h1 a1
    simp at e e1
    subst e; subst e1
    exact ⟨(s, z), rfl, hs, hz⟩

theorem el_ii {t : TypeId} {f0 f1 : Field} (ht : P.underlying t = some (.struct #[f0, f1])) (hn : P.cellsOf t = 2) (h0 : P.underlying f0.type = some (.int .i64)) (h1 : P.underlying f1.type = some (.int .i64)) (c0 : P.cellsOf f0.type = 1) (c1 : P.cellsOf f1.type = 1)
    (o0 : f0.offset = 0) (o1 : f1.offset = 1) {fuel : Nat} {cs : List Value} {y : DataW H × List MemPlace} (h : DataW.trod enc P W 0 sp true fuel t cs = some y) :
    ∃ x : Int × Int, cs = [.int .i64 x.1, .int .i64 x.2] ∧ In64 x.1 ∧ In64 x.2 := by
  obtain ⟨y0, y1, n, _, hl, a0, a1⟩ := trod_struct2 ht h
  rw [hn] at hl
  rw [c0, o0] at a0
  rw [c1, o1] at a1
  match cs, hl with
  | [u, v], _ =>
    obtain ⟨s, e, hs⟩ := el_int h0 a0
    obtain ⟨z, e1, hz⟩ := el_int h1 a1
    simp at e e1
    subst e; subst e1
    exact ⟨(s, z), rfl, hs, hz⟩

theorem el_sbi {t : TypeId} {f0 f1 f2 : Field} (ht : P.underlying t = some (.struct #[f0, f1, f2])) (hn : P.cellsOf t = 3) (h0 : P.underlying f0.type = some .string) (h1 : P.underlying f1.type = some .bool) (h2 : P.underlying f2.type = some (.int .i64))
    (c0 : P.cellsOf f0.type = 1) (c1 : P.cellsOf f1.type = 1) (c2 : P.cellsOf f2.type = 1) (o0 : f0.offset = 0) (o1 : f1.offset = 1) (o2 : f2.offset = 2) {fuel : Nat} {cs : List Value} {y : DataW H × List MemPlace} (h : DataW.trod enc P W 0 sp true fuel t cs = some y) :
    ∃ x : ByteArray × Bool × Int, cs = [.string x.1, .bool x.2.1, .int .i64 x.2.2] ∧ x.1.size ≤ 9223372036854775807 ∧ In64 x.2.2 := by
  obtain ⟨y0, y1, y2, n, _, hl, a0, a1, a2⟩ := Go.Deep.trod_struct3 ht h
  rw [hn] at hl
  rw [c0, o0] at a0
  rw [c1, o1] at a1
  rw [c2, o2] at a2
  match cs, hl with
  | [u, v, w], _ =>
    obtain ⟨s, e, hs⟩ := el_str h0 a0
    obtain ⟨b, e1⟩ := el_bool h1 a1
    obtain ⟨z, e2, hz⟩ := el_int h2 a2
    simp at e e1 e2
    subst e; subst e1; subst e2
    exact ⟨(s, b, z), rfl, hs, hz⟩

theorem el_isii {t : TypeId} {f0 f1 f2 f3 : Field} (ht : P.underlying t = some (.struct #[f0, f1, f2, f3])) (hn : P.cellsOf t = 4) (h0 : P.underlying f0.type = some (.int .i64)) (h1 : P.underlying f1.type = some .string) (h2 : P.underlying f2.type = some (.int .i64)) (h3 : P.underlying f3.type = some (.int .i64))
    (c0 : P.cellsOf f0.type = 1) (c1 : P.cellsOf f1.type = 1) (c2 : P.cellsOf f2.type = 1) (c3 : P.cellsOf f3.type = 1) (o0 : f0.offset = 0) (o1 : f1.offset = 1) (o2 : f2.offset = 2) (o3 : f3.offset = 3) {fuel : Nat} {cs : List Value} {y : DataW H × List MemPlace} (h : DataW.trod enc P W 0 sp true fuel t cs = some y) :
    ∃ x : Int × ByteArray × Int × Int, cs = [.int .i64 x.1, .string x.2.1, .int .i64 x.2.2.1, .int .i64 x.2.2.2] ∧ In64 x.1 ∧ x.2.1.size ≤ 9223372036854775807 ∧ In64 x.2.2.1 ∧ In64 x.2.2.2 := by
  obtain ⟨y0, y1, y2, y3, n, _, hl, a0, a1, a2, a3⟩ := Go.Joins.trod_struct4 ht h
  rw [hn] at hl
  rw [c0, o0] at a0
  rw [c1, o1] at a1
  rw [c2, o2] at a2
  rw [c3, o3] at a3
  match cs, hl with
  | [u, v, w, z], _ =>
    obtain ⟨k, e, hk⟩ := el_int h0 a0
    obtain ⟨s, e1, hs⟩ := el_str h1 a1
    obtain ⟨p, e2, hp⟩ := el_int h2 a2
    obtain ⟨q, e3, hq⟩ := el_int h3 a3
    simp at e e1 e2 e3
    subst e; subst e1; subst e2; subst e3
    exact ⟨(k, s, p, q), rfl, hk, hs, hp, hq⟩

/-- a slice whose elements are read cell by cell -/
theorem slice_VR [GOK W] {α : Type} (encα : α → List Value) (ok : α → Prop) (n : Nat) {t e : TypeId} (ht : P.underlying t = some (.slice e)) (hc : P.cellsOf e = n) (hn : 0 < n)
    (hone : ∀ x, (encα x).length = n ∧ ∀ v ∈ encα x, v.oneCell' = true)
    (hel : ∀ (fuel : Nat) (cs : List Value) (y : DataW H × List MemPlace), DataW.trod enc P W 0 sp true fuel e cs = some y → ∃ x, cs = encα x ∧ ok x)
    {fuel : Nat} {cs : List Value} {d : DataW H} {p : List MemPlace} (h : DataW.trod enc P W 0 sp true fuel t cs = some (d, p)) (hlt : ∀ x ∈ p, x.block < W.heap.size) :
    ∃ (xs : List α) (v : Value), cs = [v] ∧ (∀ x ∈ xs, ok x) ∧ xs.length ≤ 9223372036854775807 ∧ ∀ m sh, VR (topX W) m sh (.bs true n (xs.map encα)) v := by
  rcases DataW.trod_slice ht h with ⟨rfl, hx⟩ | ⟨a, len, cap, elems, rest, k, _, rfl, hx, hb, hl, hm, hlen, hels, _, _⟩
  · refine ⟨[], _, rfl, by simp, by simp, fun m sh => ?_⟩
    simp only [VR]
    exact ⟨none, 0, rfl, Nat.le_refl _, (fun e he => by cases he), .inl rfl⟩
  · have each : ∀ i, i < len → ∃ x : α, ok x ∧ W.cells? 0 (a.add (i * n)) n = some (encα x) := by
      intro i hi
      have h1 := hels i hi
      rw [List.getElem?_eq_getElem (by omega), hc, Option.bind_eq_some_iff] at h1
      obtain ⟨cs', h2, h3⟩ := h1
      obtain ⟨x, rfl, hx⟩ := hel _ _ _ h3
      exact ⟨x, hx, h2⟩
    have hlist : ∀ k, k ≤ len → ∃ xs : List α, xs.length = k ∧ (∀ x ∈ xs, ok x) ∧ ∀ i x, xs[i]? = some x → W.cells? 0 (a.add (i * n)) n = some (encα x) := by
      intro k
      induction k with
      | zero => intro _; exact ⟨[], rfl, by simp, by simp⟩
      | succ k ih =>
        intro hk
        obtain ⟨xs, h1, h2, h3⟩ := ih (by omega)
        obtain ⟨x, hx1, hx2⟩ := each k (by omega)
        refine ⟨xs ++ [x], by simp [h1], fun y hy => ?_, fun i y hi => ?_⟩
        · rcases List.mem_append.1 hy with hy | hy
          · exact h2 y hy
          · simp at hy; subst hy; exact hx1
        · by_cases hik : i < k
          · rw [List.getElem?_append_left (by omega)] at hi
            exact h3 i y hi
          · rw [List.getElem?_append_right (by omega)] at hi
            have hi0 : i - xs.length = 0 := by
              by_cases e : i - xs.length = 0
              · exact e
              · rw [List.getElem?_eq_none (by simp; omega)] at hi; cases hi
            rw [hi0] at hi
            simp at hi
            subst hi
            have : i = k := by omega
            subst this
            exact hx2
    obtain ⟨xs, h1, h2, h3⟩ := hlist len (Nat.le_refl _)
    have hml : maxLen ≤ 9223372036854775807 := by decide
    refine ⟨xs, _, rfl, h2, by omega, fun m sh => ?_⟩
    simp only [VR]
    refine ⟨some a, cap, by rw [List.length_map, h1], by rw [List.length_map, h1]; exact hl, fun e he => ?_, ?_⟩
    · obtain ⟨x, _, rfl⟩ := List.mem_map.1 he
      exact hone x
    · by_cases h0 : len = 0
      · left
        have : xs = [] := List.length_eq_zero_iff.1 (by omega)
        rw [this]; rfl
      · right
        obtain ⟨b, off, spot⟩ := a
        have hx0 : ∃ x0, xs[0]? = some x0 := ⟨xs[0], List.getElem?_eq_getElem (by omega)⟩
        obtain ⟨x0, hx0⟩ := hx0
        obtain ⟨_, g1, g2⟩ := World.cells?_some (h3 0 x0 hx0)
        have c0 := g2 0 hn
        have hspot : spot = none := by
          have e1 : ∃ v, (encα x0)[0]? = some v := ⟨(encα x0)[0]'(by rw [(hone x0).1]; exact hn), List.getElem?_eq_getElem _⟩
          obtain ⟨v, e1⟩ := e1
          rw [e1] at c0
          simpa [Addr.add] using World.cell?_spot c0
        subst hspot
        have hC : ∃ C E fz, W.heap[b]? = some (.cells C E fz) := by
          have e1 : ∃ v, (encα x0)[0]? = some v := ⟨(encα x0)[0]'(by rw [(hone x0).1]; exact hn), List.getElem?_eq_getElem _⟩
          obtain ⟨v, e1⟩ := e1
          rw [e1] at c0
          simp only [World.cell?, Addr.add_lit] at c0
          split at c0
          · rename_i C E fz hh; exact ⟨C, E, fz, hh⟩
          · cases c0
        obtain ⟨C, E, fz, hh⟩ := hC
        refine ⟨b, off, rfl, ?_, C, E, fz, hh, fun i e hi j x hj => ?_⟩
        · show b < W.heap.size
          have : MemPlace.cell b off ∈ p := by
            simp only [Prod.mk.injEq] at hx
            rw [hx.2]
            refine List.mem_append_left _ (MemPlace.mem_row.2 ⟨0, ?_, by simp⟩)
            rw [hlen, hc]
            exact Nat.mul_pos (by omega) hn
          exact hlt _ this
        · simp only [List.getElem?_map, Option.map_eq_some_iff] at hi
          obtain ⟨z, hz, rfl⟩ := hi
          obtain ⟨_, g1, g2⟩ := World.cells?_some (h3 i z hz)
          have hj' : j < n := by
            have := (List.getElem?_eq_some_iff.1 hj).1
            rw [(hone z).1] at this; exact this
          have := g2 j hj'
          rw [hj] at this
          rw [Addr.add_lit, Addr.add_lit, cell_of_row W b _ C E fz hh] at this
          exact this

/-- a struct of a slice -/
theorem struct1_VR [GOK W] {α : Type} (encα : α → List Value) (ok : α → Prop) (n : Nat) {t : TypeId} {f0 : Field} (ht : P.underlying t = some (.struct #[f0])) (hn : P.cellsOf t = 1) (c0 : P.cellsOf f0.type = 1) (o0 : f0.offset = 0)
    (hel : ∀ (fuel : Nat) (cs : List Value) (d : DataW H) (p : List MemPlace), DataW.trod enc P W 0 sp true fuel f0.type cs = some (d, p) → (∀ x ∈ p, x.block < W.heap.size) → ∃ (xs : List α) (v : Value), cs = [v] ∧ (∀ x ∈ xs, ok x) ∧ xs.length ≤ 9223372036854775807 ∧ ∀ m sh, VR (topX W) m sh (.bs true n (xs.map encα)) v)
    {fuel : Nat} {C : Array Value} {d : DataW H} {p : List MemPlace} (h : DataW.trod enc P W 0 sp true fuel t C.toList = some (d, p)) (hlt : ∀ x ∈ p, x.block < W.heap.size) :
    ∃ xs : List α, (∀ x ∈ xs, ok x) ∧ xs.length ≤ 9223372036854775807 ∧ ∀ m sh, VR (topX W) m sh (.agg [.bs true n (xs.map encα)]) (.agg C) := by
  obtain ⟨y0, k, hx, hl, a0⟩ := trod_struct1 ht h
  rw [hn] at hl
  rw [c0, o0] at a0
  have hp : p = y0.2 := by simpa using (Prod.ext_iff.1 hx).2
  obtain ⟨xs, v, e, h1, h2, h3⟩ := hel _ _ y0.1 y0.2 a0 (fun x hx => hlt x (by rw [hp]; exact hx))
  refine ⟨xs, h1, h2, fun m sh => ?_⟩
  have hC : C = #[v] := by
    obtain ⟨L⟩ := C
    match L, hl with
    | [u], _ => simp at e; subst e; rfl
  simp only [VR]
  exact ⟨[v], by rw [hC], v, [], rfl, h3 m sh, rfl⟩

/-- a struct of a slice and a number -/
theorem struct2_VR [GOK W] {α : Type} (encα : α → List Value) (ok : α → Prop) (n : Nat) {t : TypeId} {f0 f1 : Field} (ht : P.underlying t = some (.struct #[f0, f1])) (hn : P.cellsOf t = 2) (c0 : P.cellsOf f0.type = 1) (c1 : P.cellsOf f1.type = 1) (o0 : f0.offset = 0) (o1 : f1.offset = 1) (t1 : P.underlying f1.type = some (.int .i64))
    (hel : ∀ (fuel : Nat) (cs : List Value) (d : DataW H) (p : List MemPlace), DataW.trod enc P W 0 sp true fuel f0.type cs = some (d, p) → (∀ x ∈ p, x.block < W.heap.size) → ∃ (xs : List α) (v : Value), cs = [v] ∧ (∀ x ∈ xs, ok x) ∧ xs.length ≤ 9223372036854775807 ∧ ∀ m sh, VR (topX W) m sh (.bs true n (xs.map encα)) v)
    {fuel : Nat} {C : Array Value} {d : DataW H} {p : List MemPlace} (h : DataW.trod enc P W 0 sp true fuel t C.toList = some (d, p)) (hlt : ∀ x ∈ p, x.block < W.heap.size) :
    ∃ (xs : List α) (z : Int), (∀ x ∈ xs, ok x) ∧ xs.length ≤ 9223372036854775807 ∧ In64 z ∧ ∀ m sh, VR (topX W) m sh (.agg [.bs true n (xs.map encα), .v (.int .i64 z)]) (.agg C) := by
  obtain ⟨y0, y1, k, hx, hl, a0, a1⟩ := trod_struct2 ht h
  rw [hn] at hl
  rw [c0, o0] at a0
  rw [c1, o1] at a1
  have hp : p = y0.2 ++ y1.2 := by simpa using (Prod.ext_iff.1 hx).2
  obtain ⟨xs, v, e, h1, h2, h3⟩ := hel _ _ y0.1 y0.2 a0 (fun x hx => hlt x (by rw [hp]; exact List.mem_append_left _ hx))
  obtain ⟨z, e1, hz⟩ := el_int t1 a1
  refine ⟨xs, z, h1, h2, hz, fun m sh => ?_⟩
  have hC : C = #[v, .int .i64 z] := by
    obtain ⟨L⟩ := C
    match L, hl with
    | [u, w], _ => simp at e e1; subst e; subst e1; rfl
  simp only [VR]
  exact ⟨[v, .int .i64 z], by rw [hC], v, [.int .i64 z], rfl, h3 m sh, .int .i64 z, [], rfl, by simp only [VR], rfl⟩

end
end Go.Eng
