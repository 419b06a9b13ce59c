/- What is proved: contracts of strings.Builder's methods, of a builder that the call itself has made, and of a function that uses them, at this program. Conditions: what is held and written fits; each its own. -/
import Derived.Test.YtdnlgpmmkchopaaGreatDoorProg
import Derived.Lib.Walk
import Derived.Lib.Builder
import Derived.Lib.AppendStr
import Derived.Lib.UnsafeStr
import Derived.WalkKit
import Derived.Laws.Externs
import Derived.Laws.IdiomCopy
import Derived.Laws.BitsLemmas
import Derived.LoopTactic
import Derived.Deep.RegionWith
set_option linter.unusedVariables false
namespace Go.Proofs
open Go.RowKit

theorem Tryz.bldSize : (Tryz.prog.info? 49).map (·.size) = some 2 := by kernel_rfl
theorem Tryz.bldLies : liesAt Tryz.prog Tryz.prog.depth 49 (2 / Tryz.prog.cellsOf 49) 0 49 1 = true := by kernel_rfl
theorem Tryz.infoByte : (Tryz.prog.info? 5).map (fun i => (i.zero, i.size, i.bytes)) = some (some (.int .u8 0), 1, 1) := by kernel_rfl

set_option maxHeartbeats 1000000 in
set_option maxRecDepth 100000 in
theorem Tryz.bld_used (b : Nat) (w : World) (h0 : w.cell? ⟨b, 0, none⟩ = some (.pointer (some ⟨b, 0, none⟩))) :
    Calls Tryz.prog 37 #[.pointer (some ⟨b, 0, none⟩)] w fun e w' => e = .returned (.tuple #[]) ∧ w' = w := by
  obtain ⟨j, hj, _⟩ := Option.map_eq_some_iff.1 Tryz.bldSize
  go_enter Tryz.func37, Tryz.ntmps37
  go_wp2
  rw [Lib.run_neq_ptr_same w _ Tryz.underlying47 hj]
  go_wp2
  go_end0
  exact ⟨rfl, rfl⟩

set_option maxHeartbeats 1000000 in
set_option maxRecDepth 100000 in
theorem Tryz.bld_fresh (b : Nat) (w : World) (h0 : w.cell? ⟨b, 0, none⟩ = some (.pointer none)) (hsh : w.shape? b = some (49, 2)) (hfz : w.frozen? ⟨b, 0, none⟩ = false) :
    Calls Tryz.prog 37 #[.pointer (some ⟨b, 0, none⟩)] w fun e w' => e = .returned (.tuple #[]) ∧ w' = w.setCell ⟨b, 0, none⟩ (.pointer (some ⟨b, 0, none⟩)) := by
  obtain ⟨j, hj, hjs⟩ := Option.map_eq_some_iff.1 Tryz.bldSize
  go_enter Tryz.func37, Tryz.ntmps37
  go_wp2
  rw [Lib.run_to_unsafe w ⟨b, 0, none⟩ Tryz.underlying47 Tryz.underlying101 hj (by rw [hjs]; decide) hsh (Nat.zero_lt_succ 1)]
  simp only [Result.andThen]
  rw [Oper.upon_value]
  go_wp2
  rw [run_callFunc_extern Tryz.func76 (by kernel_rfl) (by kernel_rfl) (by kernel_rfl) (e := Extern.AbiNoEscape.same) (by kernel_rfl)]
  rw [Lib.run_noEscape]
  simp only [Result.andThen]
  rw [Oper.upon_value]
  go_wp2
  rw [Lib.run_from_unsafe w ⟨b, 0, none⟩ Tryz.underlying101 Tryz.underlying47 hj hsh Tryz.bldLies]
  simp only [Result.andThen]
  rw [Oper.upon_value]
  go_wp2
  go_end0
  exact ⟨rfl, rfl⟩

theorem Tryz.bld_check (B b : Nat) (bs : List Value) (w : World) (h : Lib.IsBuilder 49 5 B b bs w) :
    Calls Tryz.prog 37 #[.pointer (some ⟨b, 0, none⟩)] w fun e w' => e = .returned (.tuple #[]) ∧ (Lib.BuilderAt 49 5 B b (.pointer (some ⟨b, 0, none⟩)) bs w' ∧ Below B w w') := by
  rcases h with h | h
  · refine (Tryz.bld_fresh b w h.cell0 h.shape h.frozen0).mono ?_
    rintro e w' ⟨rfl, rfl⟩
    exact ⟨rfl, h.used _, (Below.refl B w).setCell (p := ⟨b, 0, none⟩) h.1 _⟩
  · refine (Tryz.bld_used b w h.cell0).mono ?_
    rintro e w' ⟨rfl, rfl⟩
    exact ⟨rfl, h, Below.refl B _⟩

set_option maxHeartbeats 2000000 in
set_option maxRecDepth 100000 in
theorem Tryz.bld_write (B b : Nat) (bs : List Value) (s : ByteArray) (w : World) (h : Lib.IsBuilder 49 5 B b bs w) (hlen : bs.length + s.size ≤ 140737488355328) (hBw : B ≤ w.heap.size) :
    Calls Tryz.prog 21 #[.pointer (some ⟨b, 0, none⟩), .string s] w fun e w' => e = .returned (.tuple #[.int .i64 s.size, .nilIface]) ∧
      (Lib.BuilderAt 49 5 B b (.pointer (some ⟨b, 0, none⟩)) (bs ++ Lib.strCells s) w' ∧ Below B w w') := by
  obtain ⟨i0, hi, hz0, hz1, hz2⟩ := info_parts Tryz.infoByte
  go_enter Tryz.func21, Tryz.ntmps21
  go_wp2_with (go_at_call 37; refine (Tryz.bld_check B b bs _ h).mono ?_)
  rintro e w1 ⟨rfl, h1, hb1⟩
  obtain ⟨hB, v, hbk, hown, hne⟩ := h1
  have c0 : w1.cell? ⟨b, 0, none⟩ = some (.pointer (some ⟨b, 0, none⟩)) := by rw [Lib.cell_of_heap hbk]; rfl
  have c1 : w1.cell? ⟨b, 1, none⟩ = some v := by rw [Lib.cell_of_heap hbk]; rfl
  go_wp2_with (at_builtin; refine Lib.wpList_append_own_string _ rfl _ _ 22 9 rfl B 5 i0 Tryz.underlying22 Tryz.underlying9 hi hz0 hz1 hz2 _ _ _ rfl hown s rfl ?c3 ?c4 ?c5 ?_)
  case c3 => unfold maxLen; omega
  case c4 => omega
  case c5 => have := hb1.size; omega
  intro v' w2 hown' hgrow _
  have hlt : b < w1.heap.size := by
    rcases Nat.lt_or_ge b w1.heap.size with h' | h'
    · exact h'
    · simp [Array.getElem?_eq_none h'] at hbk
  have hb2 : w2.heap[b]? = some (.cells #[.pointer (some ⟨b, 0, none⟩), v] 49 (0, 0)) := by
    rw [hgrow.block b hlt (fun e => hne e.symm)]
    exact hbk
  have d0 : w2.cell? ⟨b, 0, none⟩ = some (.pointer (some ⟨b, 0, none⟩)) := by rw [Lib.cell_of_heap hb2]; rfl
  have d1 : w2.cell? ⟨b, 1, none⟩ = some v := by rw [Lib.cell_of_heap hb2]; rfl
  have f1 : w2.frozen? ⟨b, 1, none⟩ = false := Lib.frozen_of_heap hb2 1
  obtain ⟨ao, n', cap, rfl⟩ : ∃ ao n' cap, v' = .slice ao n' cap := by
    rcases hown'.2 with ⟨hv, _⟩ | ⟨g, cap, cur, hv, _⟩
    · exact ⟨_, _, _, hv⟩
    · exact ⟨_, _, _, hv⟩
  go_wp2
  go_ret2
  refine ⟨rfl, ?_, ?_⟩
  · exact Lib.BuilderAt.put (T := 49) (e := 5) hB hb2 (bs' := bs ++ Lib.strCells s) (by simpa [Lib.strCells_length] using hown') (by decide)
  · exact (hb1.grown hgrow (by have := hb1.size; omega) (fun k hk => (hown.lt k hk).1)).setCell (p := ⟨b, 1, none⟩) hB _

theorem bld_keep {T e : TypeId} {B b : Nat} {bs : List Value} {w w' : World} (h : Lib.IsBuilder T e B b bs w) (hk : ∀ k, k < w.heap.size → w'.heap[k]? = w.heap[k]?) : Lib.IsBuilder T e B b bs w' := by
  have lt : ∀ {k : Nat} {o : Obj}, w.heap[k]? = some o → k < w.heap.size := fun {k o} h => by
    rcases Nat.lt_or_ge k w.heap.size with h' | h'
    · exact h'
    · simp [Array.getElem?_eq_none h'] at h
  have key : ∀ p, Lib.BuilderAt T e B b p bs w → Lib.BuilderAt T e B b p bs w' := fun p ⟨hB, v, hb, hown, hne⟩ => by
    refine ⟨hB, v, (hk b (lt hb)).trans hb, ?_, hne⟩
    obtain ⟨hl, hv⟩ := hown
    refine ⟨hl, ?_⟩
    rcases hv with hv | ⟨g, cap, cur, hv, hg, hh, h1, h2, h3, h4⟩
    · exact .inl hv
    · exact .inr ⟨g, cap, cur, hv, hg, (hk g (lt hh)).trans hh, h1, h2, h3, h4⟩
  rcases h with h | h
  · exact .inl (key _ h)
  · exact .inr (key _ h)

/-- the answers to lines -/
def deskText (ok : Bool) (ans : ByteArray → ByteArray) (xs : List ByteArray) : List UInt8 := xs.flatMap fun x => bif ok then (ans x).data.toList ++ [10] else [119, 114, 111, 110, 103, 10]

theorem deskText_le (ok : Bool) (ans : ByteArray → ByteArray) : ∀ xs : List ByteArray, (ok = true → ∀ x ∈ xs, (ans x).size ≤ 1000000000) → (deskText ok ans xs).length ≤ 1000000010 * xs.length
  | [], _ => by simp [deskText]
  | x :: l, h => by
    have h3 := deskText_le ok ans l (fun hk y hy => h hk y (by simp [hy]))
    rw [deskText] at h3 ⊢
    rw [List.flatMap_cons, List.length_append]
    cases ok with
    | true =>
      have h1 := h rfl x (by simp)
      have h4 : (ans x).data.toList.length = (ans x).size := by simp only [Array.length_toList]; rfl
      simp only [cond_true, List.length_append, List.length_cons, List.length_nil] at h3 ⊢
      omega
    | false =>
      simp only [cond_false, List.length_cons, List.length_nil] at h3 ⊢
      omega

theorem deskText_take {ok : Bool} {ans : ByteArray → ByteArray} {xs : List ByteArray} {k : Nat} {x : ByteArray} (ex : xs[k]? = some x) : deskText ok ans (xs.take (k + 1)) = deskText ok ans (xs.take k) ++ (bif ok then (ans x).data.toList ++ [10] else [119, 114, 111, 110, 103, 10]) := by
  have hk : k < xs.length := by
    rcases Nat.lt_or_ge k xs.length with h | h
    · exact h
    · rw [List.getElem?_eq_none h] at ex; cases ex
  have e : xs.take (k + 1) = xs.take k ++ [x] := by
    rw [List.take_succ_eq_append_getElem hk]
    rw [List.getElem?_eq_getElem hk] at ex
    rw [Option.some.inj ex]
  rw [e, deskText, deskText, List.flatMap_append]
  simp [List.flatMap]

theorem desk_step1 {ans : ByteArray → ByteArray} {xs : List ByteArray} {k : Nat} {x : ByteArray} (ex : xs[k]? = some x) :
    Lib.byteCells (deskText true ans (xs.take k)) ++ Lib.strCells (ans x ++ ByteArray.mk #[10]) = Lib.byteCells (deskText true ans (xs.take (k + 1))) := by
  rw [deskText_take ex, Lib.strCells_eq]
  simp [Lib.byteCells]

theorem desk_step2 {ans : ByteArray → ByteArray} {xs : List ByteArray} {k : Nat} {x : ByteArray} (ex : xs[k]? = some x) :
    Lib.byteCells (deskText false ans (xs.take k)) ++ Lib.strCells (ByteArray.mk #[119, 114, 111, 110, 103, 10]) = Lib.byteCells (deskText false ans (xs.take (k + 1))) := by
  rw [deskText_take ex, Lib.strCells_eq]
  simp [Lib.byteCells]

theorem desk_room (ok : Bool) {ans : ByteArray → ByteArray} {xs : List ByteArray} (k : Nat) (hl : xs.length ≤ 20) (hz : ok = true → ∀ x ∈ xs, (ans x).size ≤ 1000000000) : (Lib.byteCells (deskText ok ans (xs.take k))).length ≤ 21000000000 := by
  have h1 := deskText_le ok ans (xs.take k) (fun hk x hx => hz hk x (List.mem_of_mem_take hx))
  have h2 : (xs.take k).length ≤ 20 := by rw [List.length_take]; omega
  have h3 : (Lib.byteCells (deskText ok ans (xs.take k))).length = (deskText ok ans (xs.take k)).length := by simp [Lib.byteCells]
  omega

set_option maxHeartbeats 2000000 in
set_option maxRecDepth 100000 in
theorem Tryz.run_desk_long (s : ByteArray) (n : Nat) (a : Option Addr) (c : Nat) (w : World) (hn : 20 < n) :
    Calls Tryz.prog 6 #[.string s, .slice a n c] w fun e w' => e = .returned (.string ByteArray.empty) ∧ Below w.heap.size w w' := by
  have hn' : (20 : Int) < (n : Int) := by omega
  go_enter Tryz.func6, Tryz.ntmps6
  go_wp2
  go_ret
  exact ⟨rfl, Below.refl _ _⟩

set_option maxHeartbeats 1000000 in
set_option maxRecDepth 100000 in
theorem Tryz.run_desk (s : ByteArray) (xs : List ByteArray) (a : Option Addr) (c : Nat) (w : World) (fn : Nat) (b : Int) (ok : Bool) (ans : ByteArray → ByteArray)
    (hc : ∀ (j : Nat) x, xs[j]? = some x → ∃ b off, a = some ⟨b, off, none⟩ ∧ b < w.heap.size ∧ w.cell? ⟨b, off + j, none⟩ = some (.string x))
    (hl : xs.length ≤ 20) (hz : ok = true → ∀ x ∈ xs, (ans x).size ≤ 1000000000)
    (hParse : Calls Tryz.prog 20 #[.string s] w fun e w1 => ∃ fa cap, e = .returned (.tuple #[.agg #[.slice fa fn cap, .int .i64 b], .bool ok]) ∧ Below w.heap.size w w1 ∧
      ∀ w2, Below w1.heap.size w1 w2 → ok = true → ∀ x ∈ xs, Calls Tryz.prog 22 #[.agg #[.slice fa fn cap, .int .i64 b], .string x] w2 fun e w3 => e = .returned (.string (ans x)) ∧ Below w2.heap.size w2 w3)
    (hStr : ∀ (B b : Nat) (l : List UInt8) (w1 : World), Lib.IsBuilder 49 5 B b (Lib.byteCells l) w1 → B ≤ w1.heap.size → Calls Tryz.prog 23 #[.pointer (some ⟨b, 0, none⟩)] w1 fun e w' => e = .returned (.string ⟨l.toArray⟩) ∧ Below B w1 w') :
    Calls Tryz.prog 6 #[.string s, .slice a xs.length c] w fun e w' => e = .returned (.string ⟨(deskText ok ans xs).toArray⟩) ∧ Below w.heap.size w w' := by
  have hl' : ((xs.length : Nat) : Int) ≤ 20 := by omega
  go_enter Tryz.func6, Tryz.ntmps6
  go_wp2_with (go_at_call 20; refine hParse.mono ?_; rintro e w1 ⟨fa, cap, rfl, hb1, hD⟩)
  obtain ⟨wf, hwf⟩ : ∃ wf, wf = w1.alloc (.cells #[.slice fa fn cap, .int .i64 b] 38) := ⟨_, rfl⟩
  have sf : wf.heap.size = w1.heap.size + 1 := by rw [hwf]; simp
  have hf : wf.heap[w1.heap.size]? = some (.cells #[.slice fa fn cap, .int .i64 b] 38 (0, 0)) := by rw [hwf]; show (w1.heap.push _)[w1.heap.size]? = _; simp
  have bf : Below w1.heap.size w1 wf := by rw [hwf]; exact (Below.refl _ w1).alloc (Nat.le_refl _) _
  have h0 : Lib.IsBuilder 49 5 wf.heap.size wf.heap.size [] (wf.alloc (.cells #[.pointer none, .slice none 0 0] 49)) := Lib.fresh_isBuilder _ _ wf
  have b0 : Below wf.heap.size wf (wf.alloc (.cells #[.pointer none, .slice none 0 0] 49)) := (Below.refl _ wf).alloc (Nat.le_refl _) _
  rw [← hwf]
  have sw := hb1.size
  rw [sf] at h0 b0
  clear hwf
  go_loopw [20] (fun i wr => ∃ k : Nat, k ≤ xs.length ∧ i = .int .i64 k ∧ Lib.IsBuilder 49 5 (w1.heap.size + 1) (w1.heap.size + 1) (Lib.byteCells (deskText ok ans (xs.take k))) wr ∧ Below (w1.heap.size + 1) wf wr) (fun i _ => xs.length - (intOf i).toNat)
  case atStart => exact ⟨0, Nat.zero_le _, rfl, h0, b0⟩
  case round =>
    obtain ⟨k, hk, rfl, hI, hBl⟩ := hrel
    have hAll : Below w.heap.size w wr := hb1.trans ((bf.mono sw).trans (hBl.mono (by omega)))
    have hD' : Below w1.heap.size w1 wr := bf.trans (hBl.mono (by omega))
    have cf0 : wr.cell? ⟨w1.heap.size, 0, none⟩ = some (.slice fa fn cap) := (hBl.cell (p := ⟨w1.heap.size, 0, none⟩) (by show w1.heap.size < _; omega)).trans (by rw [Lib.cell_of_heap hf]; rfl)
    have cf1 : wr.cell? ⟨w1.heap.size, 1, none⟩ = some (.int .i64 b) := (hBl.cell (p := ⟨w1.heap.size, 1, none⟩) (by show w1.heap.size < _; omega)).trans (by rw [Lib.cell_of_heap hf]; rfl)
    by_cases hlt : k < xs.length
    · obtain ⟨x, ex⟩ : ∃ x, xs[k]? = some x := ⟨_, List.getElem?_eq_getElem hlt⟩
      have hm : x ∈ xs := List.mem_of_getElem? ex
      obtain ⟨bb, off, rfl, hbb, cx⟩ := hc k x ex
      have cx1 : wr.cell? ⟨bb, off + k, none⟩ = some (.string x) := (hAll.cell (p := ⟨bb, off + k, none⟩) hbb).trans cx
      have hr := desk_room ok k hl hz
      cases ok with
      | true =>
        have hz1 := hz rfl x hm
        have e1 : (ByteArray.mk #[10]).size = 1 := rfl
        have k1 : (ans x).size + (ByteArray.mk #[10]).size ≤ 9223372036854775807 := by omega
        have k2 : (ans x).size + 1 ≤ 9223372036854775807 := by omega
        have hDx := hD wr hD' rfl x hm
        clear hc hz hD hParse cx
        go_wp2_with (first
          | (go_at_call 22; refine hDx.mono ?_; rintro e w3 ⟨rfl, hb3⟩; have hI3 := bld_keep hI hb3.block; have hBl3 := hBl.trans (hb3.mono (by have := hBl.size; omega)))
          | (go_at_call 21; refine (Tryz.bld_write (w1.heap.size + 1) (w1.heap.size + 1) _ _ _ hI3 ?_ (by have := hBl3.size; omega)).mono ?_; (rw [ByteArray.size_append]; omega); rintro e w4 ⟨rfl, hI4, hb4⟩))
        rw [desk_step1 ex] at hI4
        have hBl4 := hBl3.trans hb4
        go_roundw
        case rel => exact ⟨k + 1, by omega, by go_num, .inr hI4, hBl4⟩
        all_goals (simp [intOf]; omega)
      | false =>
        have e1 : (ByteArray.mk #[119, 114, 111, 110, 103, 10]).size = 6 := rfl
        clear hc hz hD hParse cx
        go_wp2_with (go_at_call 21; refine (Tryz.bld_write (w1.heap.size + 1) (w1.heap.size + 1) _ _ _ hI ?_ (by have := hBl.size; omega)).mono ?_; omega; rintro e w4 ⟨rfl, hI4, hb4⟩)
        rw [desk_step2 ex] at hI4
        have hBl4 := hBl.trans hb4
        go_roundw
        case rel => exact ⟨k + 1, by omega, by go_num, .inr hI4, hBl4⟩
        all_goals (simp [intOf]; omega)
    · have : k = xs.length := by omega
      subst this
      clear hc hz hD hParse
      go_wp2_with (go_at_call 23; refine (hStr (w1.heap.size + 1) (w1.heap.size + 1) (deskText ok ans xs) wr (by rw [List.take_length] at hI; exact hI) (by have := hBl.size; omega)).mono ?_; rintro e w5 ⟨rfl, h5⟩)
      go_ret
      exact ⟨rfl, hAll.trans (h5.mono (by omega))⟩

end Go.Proofs
