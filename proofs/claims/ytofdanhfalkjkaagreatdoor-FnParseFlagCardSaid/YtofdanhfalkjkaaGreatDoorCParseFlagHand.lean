/- What is proved: contracts of strings.Builder's methods, of a builder that the call itself has made, and of a function that uses them, at this program. Conditions: what is held and written fits; each its own. -/
import Derived.Test.YtofdanhfalkjkaaGreatDoorProg
import Derived.Lib.Walk
import Derived.Lib.Builder
import Derived.Lib.AppendStr
import Derived.Lib.UnsafeStr
import Derived.WalkKit
import Derived.Laws.Externs
import Derived.Laws.IdiomCopy
import Derived.Laws.BitsLemmas
import Derived.LoopTactic
import Derived.Deep.RegionWith
import Derived.Lib.ItoaNum
set_option linter.unusedVariables false
namespace Go.Proofs
open Go.RowKit

theorem Tryz.bldSize : (Tryz.prog.info? 94).map (·.size) = some 2 := by kernel_rfl
theorem Tryz.bldLies : liesAt Tryz.prog Tryz.prog.depth 94 (2 / Tryz.prog.cellsOf 94) 0 94 1 = true := by kernel_rfl
theorem Tryz.infoByte : (Tryz.prog.info? 5).map (fun i => (i.zero, i.size, i.bytes)) = some (some (.int .u8 0), 1, 1) := by kernel_rfl

set_option maxHeartbeats 1000000 in
set_option maxRecDepth 100000 in
theorem Tryz.bld_used (b : Nat) (w : World) (h0 : w.cell? ⟨b, 0, none⟩ = some (.pointer (some ⟨b, 0, none⟩))) :
    Calls Tryz.prog 118 #[.pointer (some ⟨b, 0, none⟩)] w fun e w' => e = .returned (.tuple #[]) ∧ w' = w := by
  obtain ⟨j, hj, _⟩ := Option.map_eq_some_iff.1 Tryz.bldSize
  go_enter Tryz.func118, Tryz.ntmps118
  go_wp2
  rw [Lib.run_neq_ptr_same w _ Tryz.underlying92 hj]
  go_wp2
  go_end0
  exact ⟨rfl, rfl⟩

set_option maxHeartbeats 1000000 in
set_option maxRecDepth 100000 in
theorem Tryz.bld_fresh (b : Nat) (w : World) (h0 : w.cell? ⟨b, 0, none⟩ = some (.pointer none)) (hsh : w.shape? b = some (94, 2)) (hfz : w.frozen? ⟨b, 0, none⟩ = false) :
    Calls Tryz.prog 118 #[.pointer (some ⟨b, 0, none⟩)] w fun e w' => e = .returned (.tuple #[]) ∧ w' = w.setCell ⟨b, 0, none⟩ (.pointer (some ⟨b, 0, none⟩)) := by
  obtain ⟨j, hj, hjs⟩ := Option.map_eq_some_iff.1 Tryz.bldSize
  go_enter Tryz.func118, Tryz.ntmps118
  go_wp2
  rw [Lib.run_to_unsafe w ⟨b, 0, none⟩ Tryz.underlying92 Tryz.underlying143 hj (by rw [hjs]; decide) hsh (Nat.zero_lt_succ 1)]
  simp only [Result.andThen]
  rw [Oper.upon_value]
  go_wp2
  rw [run_callFunc_extern Tryz.func145 (by kernel_rfl) (by kernel_rfl) (by kernel_rfl) (e := Extern.AbiNoEscape.same) (by kernel_rfl)]
  rw [Lib.run_noEscape]
  simp only [Result.andThen]
  rw [Oper.upon_value]
  go_wp2
  rw [Lib.run_from_unsafe w ⟨b, 0, none⟩ Tryz.underlying143 Tryz.underlying92 hj hsh Tryz.bldLies]
  simp only [Result.andThen]
  rw [Oper.upon_value]
  go_wp2
  go_end0
  exact ⟨rfl, rfl⟩

theorem Tryz.bld_check (B b : Nat) (bs : List Value) (w : World) (h : Lib.IsBuilder 94 5 B b bs w) :
    Calls Tryz.prog 118 #[.pointer (some ⟨b, 0, none⟩)] w fun e w' => e = .returned (.tuple #[]) ∧ (Lib.BuilderAt 94 5 B b (.pointer (some ⟨b, 0, none⟩)) bs w' ∧ Below B w w') := by
  rcases h with h | h
  · refine (Tryz.bld_fresh b w h.cell0 h.shape h.frozen0).mono ?_
    rintro e w' ⟨rfl, rfl⟩
    exact ⟨rfl, h.used _, (Below.refl B w).setCell (p := ⟨b, 0, none⟩) h.1 _⟩
  · refine (Tryz.bld_used b w h.cell0).mono ?_
    rintro e w' ⟨rfl, rfl⟩
    exact ⟨rfl, h, Below.refl B _⟩

set_option maxHeartbeats 2000000 in
set_option maxRecDepth 100000 in
theorem Tryz.bld_write (B b : Nat) (bs : List Value) (s : ByteArray) (w : World) (h : Lib.IsBuilder 94 5 B b bs w) (hlen : bs.length + s.size ≤ 140737488355328) (hBw : B ≤ w.heap.size) :
    Calls Tryz.prog 81 #[.pointer (some ⟨b, 0, none⟩), .string s] w fun e w' => e = .returned (.tuple #[.int .i64 s.size, .nilIface]) ∧
      (Lib.BuilderAt 94 5 B b (.pointer (some ⟨b, 0, none⟩)) (bs ++ Lib.strCells s) w' ∧ Below B w w') := by
  obtain ⟨i0, hi, hz0, hz1, hz2⟩ := info_parts Tryz.infoByte
  go_enter Tryz.func81, Tryz.ntmps81
  go_wp2_with (go_at_call 118; refine (Tryz.bld_check B b bs _ h).mono ?_)
  rintro e w1 ⟨rfl, h1, hb1⟩
  obtain ⟨hB, v, hbk, hown, hne⟩ := h1
  have c0 : w1.cell? ⟨b, 0, none⟩ = some (.pointer (some ⟨b, 0, none⟩)) := by rw [Lib.cell_of_heap hbk]; rfl
  have c1 : w1.cell? ⟨b, 1, none⟩ = some v := by rw [Lib.cell_of_heap hbk]; rfl
  go_wp2_with (at_builtin; refine Lib.wpList_append_own_string _ rfl _ _ 22 9 rfl B 5 i0 Tryz.underlying22 Tryz.underlying9 hi hz0 hz1 hz2 _ _ _ rfl hown s rfl ?c3 ?c4 ?c5 ?_)
  case c3 => unfold maxLen; omega
  case c4 => omega
  case c5 => have := hb1.size; omega
  intro v' w2 hown' hgrow _
  have hlt : b < w1.heap.size := by
    rcases Nat.lt_or_ge b w1.heap.size with h' | h'
    · exact h'
    · simp [Array.getElem?_eq_none h'] at hbk
  have hb2 : w2.heap[b]? = some (.cells #[.pointer (some ⟨b, 0, none⟩), v] 94 (0, 0)) := by
    rw [hgrow.block b hlt (fun e => hne e.symm)]
    exact hbk
  have d0 : w2.cell? ⟨b, 0, none⟩ = some (.pointer (some ⟨b, 0, none⟩)) := by rw [Lib.cell_of_heap hb2]; rfl
  have d1 : w2.cell? ⟨b, 1, none⟩ = some v := by rw [Lib.cell_of_heap hb2]; rfl
  have f1 : w2.frozen? ⟨b, 1, none⟩ = false := Lib.frozen_of_heap hb2 1
  obtain ⟨ao, n', cap, rfl⟩ : ∃ ao n' cap, v' = .slice ao n' cap := by
    rcases hown'.2 with ⟨hv, _⟩ | ⟨g, cap, cur, hv, _⟩
    · exact ⟨_, _, _, hv⟩
    · exact ⟨_, _, _, hv⟩
  go_wp2
  go_ret2
  refine ⟨rfl, ?_, ?_⟩
  · exact Lib.BuilderAt.put (T := 94) (e := 5) hB hb2 (bs' := bs ++ Lib.strCells s) (by simpa [Lib.strCells_length] using hown') (by decide)
  · exact (hb1.grown hgrow (by have := hb1.size; omega) (fun k hk => (hown.lt k hk).1)).setCell (p := ⟨b, 1, none⟩) hB _

theorem bld_keep {T e : TypeId} {B b : Nat} {bs : List Value} {w w' : World} (h : Lib.IsBuilder T e B b bs w) (hk : ∀ k, k < w.heap.size → w'.heap[k]? = w.heap[k]?) : Lib.IsBuilder T e B b bs w' := by
  have lt : ∀ {k : Nat} {o : Obj}, w.heap[k]? = some o → k < w.heap.size := fun {k o} h => by
    rcases Nat.lt_or_ge k w.heap.size with h' | h'
    · exact h'
    · simp [Array.getElem?_eq_none h'] at h
  have key : ∀ p, Lib.BuilderAt T e B b p bs w → Lib.BuilderAt T e B b p bs w' := fun p ⟨hB, v, hb, hown, hne⟩ => by
    refine ⟨hB, v, (hk b (lt hb)).trans hb, ?_, hne⟩
    obtain ⟨hl, hv⟩ := hown
    refine ⟨hl, ?_⟩
    rcases hv with hv | ⟨g, cap, cur, hv, hg, hh, h1, h2, h3, h4⟩
    · exact .inl hv
    · exact .inr ⟨g, cap, cur, hv, hg, (hk g (lt hh)).trans hh, h1, h2, h3, h4⟩
  rcases h with h | h
  · exact .inl (key _ h)
  · exact .inr (key _ h)

/-- a definition's line -/
def defLine (d : ByteArray × Int) : List UInt8 := d.1.data.toList ++ [32, 61, 32] ++ Lib.itoa d.2 ++ [10]
def defsLines (l : List (ByteArray × Int)) : List UInt8 := l.flatMap defLine

theorem decDigits_le : ∀ (d u : Nat), u < 10 ^ (d + 1) → (Lib.decDigits u).length ≤ d + 1
  | 0, u, h => by rw [Lib.decDigits_one (by simpa using h)]; simp
  | d + 1, u, h => by
    by_cases h1 : u < 10
    · rw [Lib.decDigits_one h1]; simp
    · rw [Lib.decDigits, dif_neg h1, List.length_append, List.length_singleton]
      have := decDigits_le d (u / 10) (by rw [Nat.pow_succ] at h; omega)
      omega

theorem itoa_le {n : Int} (h1 : -9223372036854775808 ≤ n) (h2 : n ≤ 9223372036854775807) : (Lib.itoa n).length ≤ 21 := by
  rw [Lib.itoa]
  split
  · have := decDigits_le 19 n.natAbs (by omega)
    rw [List.length_cons]; omega
  · have := decDigits_le 19 n.toNat (by omega)
    omega

theorem defsLines_le : ∀ l : List (ByteArray × Int), (∀ x ∈ l, x.1.size ≤ 1000 ∧ -9223372036854775808 ≤ x.2 ∧ x.2 ≤ 9223372036854775807) → (defsLines l).length ≤ 1100 * l.length
  | [], _ => by simp [defsLines]
  | d :: l, h => by
    have h1 := h d (by simp)
    have h2 := itoa_le h1.2.1 h1.2.2
    have h3 := defsLines_le l (fun x hx => h x (by simp [hx]))
    have h4 : d.1.data.toList.length = d.1.size := by simp only [Array.length_toList]; rfl
    rw [defsLines] at h3 ⊢
    rw [List.flatMap_cons, List.length_append, defLine]
    simp only [List.length_append, List.length_cons, List.length_nil]
    omega

theorem defs_room {xs : List (ByteArray × Int)} {k : Nat} {s : ByteArray} {n : Int} (hl : xs.length ≤ 100000) (hz : ∀ x ∈ xs, x.1.size ≤ 1000 ∧ -9223372036854775808 ≤ x.2 ∧ x.2 ≤ 9223372036854775807) (ex : xs[k]? = some (s, n)) :
    (Lib.byteCells (defsLines (xs.take k))).length + ((s ++ ByteArray.mk #[32, 61, 32]) ++ (ByteArray.mk (Lib.itoa n).toArray) ++ ByteArray.mk #[10]).size ≤ 140737488355328 := by
  have h1 := defsLines_le (xs.take k) (fun x hx => hz x (List.mem_of_mem_take hx))
  have h2 := hz _ (List.mem_of_getElem? ex)
  have h3 : (Lib.itoa n).length ≤ 21 := itoa_le h2.2.1 h2.2.2
  have h4 : (xs.take k).length ≤ 100000 := by rw [List.length_take]; omega
  have h5 : (ByteArray.mk (Lib.itoa n).toArray).size = (Lib.itoa n).length := by show (Lib.itoa n).toArray.size = _; simp
  have e1 : (ByteArray.mk #[32, 61, 32]).size = 3 := rfl
  have e2 : (ByteArray.mk #[10]).size = 1 := rfl
  have h6 : (Lib.byteCells (defsLines (xs.take k))).length = (defsLines (xs.take k)).length := by simp [Lib.byteCells]
  rw [ByteArray.size_append, ByteArray.size_append, ByteArray.size_append, h5, h6]
  have h7 : s.size ≤ 1000 := h2.1
  omega

theorem defs_step {xs : List (ByteArray × Int)} {k : Nat} {s : ByteArray} {n : Int} (ex : xs[k]? = some (s, n)) :
    Lib.byteCells (defsLines (xs.take k)) ++ Lib.strCells (((s ++ ByteArray.mk #[32, 61, 32]) ++ (ByteArray.mk (Lib.itoa n).toArray)) ++ ByteArray.mk #[10]) = Lib.byteCells (defsLines (xs.take (k + 1))) := by
  have hk : k < xs.length := by
    rcases Nat.lt_or_ge k xs.length with h | h
    · exact h
    · rw [List.getElem?_eq_none h] at ex; cases ex
  have e : xs.take (k + 1) = xs.take k ++ [(s, n)] := by
    rw [List.take_succ_eq_append_getElem hk]
    rw [List.getElem?_eq_getElem hk] at ex
    rw [Option.some.inj ex]
  rw [e, defsLines, defsLines, List.flatMap_append, Lib.strCells_eq]
  simp [Lib.byteCells, defLine, List.flatMap]

set_option maxHeartbeats 1000000 in
set_option maxRecDepth 100000 in
theorem Tryz.defs_text_nil (a : Option Addr) (c : Nat) (w : World)
    (hStr : ∀ (B b : Nat) (l : List UInt8) (w1 : World), Lib.IsBuilder 94 5 B b (Lib.byteCells l) w1 → B ≤ w1.heap.size → Calls Tryz.prog 82 #[.pointer (some ⟨b, 0, none⟩)] w1 fun e w' => e = .returned (.string ⟨l.toArray⟩) ∧ Below B w1 w') :
    Calls Tryz.prog 51 #[.slice a 0 c] w fun e w' => e = .returned (.string ⟨#[]⟩) ∧ Below w.heap.size w w' := by
  have h0 : Lib.IsBuilder 94 5 w.heap.size w.heap.size (Lib.byteCells []) (w.alloc (.cells #[.pointer none, .slice none 0 0] 94)) := Lib.fresh_isBuilder _ _ w
  have b0 : Below w.heap.size w (w.alloc (.cells #[.pointer none, .slice none 0 0] 94)) := (Below.refl _ w).alloc (Nat.le_refl _) _
  go_enter Tryz.func51, Tryz.ntmps51
  go_wp2
  refine wp_loop_rounds 1 ?_
  rw [rounds_succ]
  go_wp2_with (go_at_call 82; refine (hStr w.heap.size w.heap.size [] _ h0 b0.size).mono ?_)
  rintro e w1 ⟨rfl, h1⟩
  go_wp2
  go_ret
  exact ⟨rfl, b0.trans h1⟩

set_option maxHeartbeats 1000000 in
set_option maxRecDepth 100000 in
theorem Tryz.defs_text (xs : List (ByteArray × Int)) (v : Value) (w : World)
    (hv : ∃ b off c, v = .slice (some ⟨b, off, none⟩) xs.length c ∧ b < w.heap.size ∧ ∀ (j : Nat) x, xs[j]? = some x → w.cell? ⟨b, off + j * 2, none⟩ = some (.string x.1) ∧ w.cell? ⟨b, off + j * 2 + 1, none⟩ = some (.int .i64 x.2))
    (hl : xs.length ≤ 100000) (hz : ∀ x ∈ xs, x.1.size ≤ 1000 ∧ -9223372036854775808 ≤ x.2 ∧ x.2 ≤ 9223372036854775807)
    (hItoa : ∀ (n : Int) (w1 : World), -9223372036854775808 ≤ n → n ≤ 9223372036854775807 → Below w.heap.size w w1 → Calls Tryz.prog 99 #[.int .i64 n] w1 fun e w' => e = .returned (.string ⟨(Lib.itoa n).toArray⟩) ∧ Below w1.heap.size w1 w')
    (hStr : ∀ (B b : Nat) (l : List UInt8) (w1 : World), Lib.IsBuilder 94 5 B b (Lib.byteCells l) w1 → B ≤ w1.heap.size → Calls Tryz.prog 82 #[.pointer (some ⟨b, 0, none⟩)] w1 fun e w' => e = .returned (.string ⟨l.toArray⟩) ∧ Below B w1 w') :
    Calls Tryz.prog 51 #[v] w fun e w' => e = .returned (.string ⟨(defsLines xs).toArray⟩) ∧ Below w.heap.size w w' := by
  obtain ⟨b, off, c, rfl, hb, hc⟩ := hv
  have h0 : Lib.IsBuilder 94 5 w.heap.size w.heap.size [] (w.alloc (.cells #[.pointer none, .slice none 0 0] 94)) := Lib.fresh_isBuilder _ _ w
  have b0 : Below w.heap.size w (w.alloc (.cells #[.pointer none, .slice none 0 0] 94)) := (Below.refl _ w).alloc (Nat.le_refl _) _
  go_enter Tryz.func51, Tryz.ntmps51
  go_wp2
  go_loopw [8] (fun i wr => ∃ k : Nat, k ≤ xs.length ∧ i = .int .i64 k ∧ Lib.IsBuilder 94 5 w.heap.size w.heap.size (Lib.byteCells (defsLines (xs.take k))) wr ∧ Below w.heap.size w wr) (fun i _ => xs.length - (intOf i).toNat)
  case atStart => exact ⟨0, Nat.zero_le _, rfl, h0, b0⟩
  case round =>
    obtain ⟨k, hk, rfl, hI, hBl⟩ := hrel
    have hx : k < xs.length → ∃ s n, xs[k]? = some (s, n) ∧ wr.cell? ⟨b, off + k * 2, none⟩ = some (.string s) ∧ wr.cell? ⟨b, off + k * 2 + 1, none⟩ = some (.int .i64 n) ∧ s.size ≤ 1000 ∧ -9223372036854775808 ≤ n ∧ n ≤ 9223372036854775807 := fun h => by
      have e := List.getElem?_eq_getElem h
      have h1 := hc k _ e
      have h2 := hz _ (List.getElem_mem h)
      exact ⟨_, _, e, (hBl.cell (hb)).trans h1.1, (hBl.cell (hb)).trans h1.2, h2⟩
    by_cases hlt : k < xs.length
    · obtain ⟨s, n, ex, c0, c1, hs, hn1, hn2⟩ := hx hlt
      have hz2 := hz
      clear hx hc hz
      go_wp2
      obtain ⟨wd, hwd⟩ : ∃ wd, wd = wr.alloc (.cells #[.string s, .int .i64 n] 62) := ⟨_, rfl⟩
      rw [← hwd]
      have hbd : Below wr.heap.size wr wd := by rw [hwd]; exact (Below.refl _ wr).alloc (Nat.le_refl _) _
      have hd : wd.heap[wr.heap.size]? = some (.cells #[.string s, .int .i64 n] 62 (0, 0)) := by rw [hwd]; show (wr.heap.push _)[wr.heap.size]? = _; simp
      have hlt2 : wr.heap.size < wd.heap.size := by rw [hwd]; show _ < (wr.heap.push _).size; simp
      have hI2 := bld_keep hI hbd.block
      have hBl2 : Below w.heap.size w wd := hBl.trans (hbd.mono hBl.size)
      clear hwd hI hBl c0 c1
      generalize hD : wr.heap.size = D at *
      have d0 : wd.cell? ⟨D, 0, none⟩ = some (.string s) := by rw [Lib.cell_of_heap hd]; rfl
      have d1 : wd.cell? ⟨D, 1, none⟩ = some (.int .i64 n) := by rw [Lib.cell_of_heap hd]; rfl
      clear hbd
      have hit : (ByteArray.mk (Lib.itoa n).toArray).size ≤ 21 := by have := itoa_le hn1 hn2; show (Lib.itoa n).toArray.size ≤ 21; simpa using this
      have hit2 := itoa_le hn1 hn2
      have e3 : (ByteArray.mk #[32, 61, 32]).size = 3 := rfl
      have e1 : (ByteArray.mk #[10]).size = 1 := rfl
      have k1 : (s ++ ByteArray.mk #[32, 61, 32]).size + (ByteArray.mk (Lib.itoa n).toArray).size ≤ 9223372036854775807 := by rw [ByteArray.size_append]; omega
      have k2 : ((s ++ ByteArray.mk #[32, 61, 32]) ++ ByteArray.mk (Lib.itoa n).toArray).size + (ByteArray.mk #[10]).size ≤ 9223372036854775807 := by rw [ByteArray.size_append, ByteArray.size_append]; omega
      have k3 : s.size + 3 + (Lib.itoa n).length ≤ 9223372036854775807 := by omega
      have k4 : s.size + 3 + (Lib.itoa n).length + 1 ≤ 9223372036854775807 := by omega
      go_region_with (first
        | (go_at_call 99; refine (hItoa n _ hn1 hn2 ?_).mono ?_; exact hBl2.drew; rintro e w1 ⟨rfl, hb1⟩; have f0 := (hb1.cell (p := ⟨D, 0, none⟩) hlt2).trans d0; have f1 := (hb1.cell (p := ⟨D, 1, none⟩) hlt2).trans d1; have hI3 := bld_keep hI2 hb1.block; have hBl3 := hBl2.drew.trans (hb1.mono hBl2.size))
        | (go_at_call 81; refine (Tryz.bld_write w.heap.size w.heap.size _ _ _ hI3 ?_ hBl3.size).mono ?_; exact defs_room hl hz2 ex; rintro e w2 ⟨rfl, hI4, hb4⟩))
      all_goals (rw [defs_step ex] at hI4)
      all_goals (have hBl4 := hBl3.trans hb4)
      all_goals go_wp2
      all_goals go_roundw
      case rel => exact ⟨k + 1, by omega, by go_num, .inr hI4, hBl4⟩
      all_goals (first | (exact ⟨k + 1, by omega, by go_num, .inr hI4, hBl4⟩) | (simp [intOf]; omega))
    · have : k = xs.length := by omega
      subst this
      clear hx hc hz
      go_wp2_with (go_at_call 82; refine (hStr w.heap.size w.heap.size (defsLines xs) wr (by rw [List.take_length] at hI; exact hI) hBl.size).mono ?_)
      rintro e w1 ⟨rfl, h1⟩
      go_wp2
      go_ret
      exact ⟨rfl, hBl.trans h1⟩

end Go.Proofs
