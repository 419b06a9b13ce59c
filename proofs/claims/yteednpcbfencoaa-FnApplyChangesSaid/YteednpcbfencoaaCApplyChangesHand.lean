/- What is proved: contracts of strings.Builder's methods, of a builder that the call itself has made, and of a function that uses them, at this program. Conditions: what is held and written fits; each its own. -/
import Derived.Test.YteednpcbfencoaaProg
import Derived.RangeFuncNested
import Derived.RangeFuncBound
import Derived.RangeFuncCalls
import Derived.RangeFuncLeaves
import Derived.Shelf.Abstract
import Derived.WalkKit
import Derived.OwnWalkIn
import Derived.TacticsInMore
import Derived.LoopNIn
import Derived.LoopIn
import Derived.Maps.AppendAt
set_option linter.unusedVariables false
namespace Go.Proofs
open Go.RowKit Go.Shelf

attribute [local go_sem] Oper.semAt_some

/-- a change: kind, name, old number, new number -/
abbrev Chg := Int × ByteArray × Int × Int

def chgL (c : Chg) : List Value := [.int .i64 c.1, .string c.2.1, .int .i64 c.2.2.1, .int .i64 c.2.2.2]

def chgTurn (c : Chg) : Chg := (if c.1 = 0 then 1 else if c.1 = 1 then 0 else c.1, c.2.1, c.2.2.2, c.2.2.1)

/-- what comes: places and changes, the last one first -/
def backF (zs : List Chg) (k : Nat) : Nat × Chg := (zs.length - 1 - k, (zs[zs.length - 1 - k]?).getD (0, ByteArray.empty, 0, 0))

def backUpto (zs : List Chg) (k : Nat) : List (Nat × Chg) := (List.range k).map (backF zs)

theorem back_succ (zs : List Chg) (k : Nat) : backUpto zs (k + 1) = backUpto zs k ++ [backF zs k] := by simp [backUpto, List.range_succ]

theorem back_length (zs : List Chg) (k : Nat) : (backUpto zs k).length = k := by simp [backUpto]

theorem back_all (zs : List Chg) : (backUpto zs zs.length).map (·.2) = zs.reverse := by
  apply List.ext_getElem
  · simp [backUpto]
  · intro i h1 h2
    simp only [List.length_map, back_length] at h1
    simp only [List.getElem_map, backUpto, List.getElem_range, backF, List.getElem_reverse]
    rw [List.getElem?_eq_getElem (by omega)]
    rfl

/-- what a round keeps: what lay below, and the box of the slice that is walked -/
def KpB (n₀ Bs : Nat) (t : TypeId) (sv : Value) (W W' : World) : Prop := Below n₀ W W' ∧ (Boxed W Bs t sv → Boxed W' Bs t sv)

theorem KpB_t {n₀ Bs : Nat} {t : TypeId} {sv : Value} {A B C : World} (h : KpB n₀ Bs t sv A B) (k : KpB n₀ Bs t sv B C) : KpB n₀ Bs t sv A C := ⟨h.1.trans k.1, fun x => k.2 (h.2 x)⟩

theorem KpB_b {n₀ Bs : Nat} {t : TypeId} {sv : Value} {w : World} (hn : n₀ ≤ w.heap.size) (hB : Bs < w.heap.size) (W : World) (l : Nat) (o o' : Obj) (hl : w.heap.size ≤ l) (h : W.heap[l]? = some o) (h1 : o.isCells = false) (h2 : o.isWalk = false) : KpB n₀ Bs t sv W (W.putObj l o') :=
  ⟨belowK_b hn W l o o' hl h h1 h2, fun hb => hb.kept (grownBy_putObj' W l o') (fun e => by cases e; omega)⟩

/-- from cell off of block b on lie the changes -/
def ChgAt (W : World) (b off : Nat) (zs : List Chg) : Prop := ∀ (j : Nat) x, zs[j]? = some x → W.cell? ⟨b, off + j * 4, none⟩ = some (.int .i64 x.1) ∧ W.cell? ⟨b, off + j * 4 + 1, none⟩ = some (.string x.2.1) ∧ W.cell? ⟨b, off + j * 4 + 2, none⟩ = some (.int .i64 x.2.2.1) ∧ W.cell? ⟨b, off + j * 4 + 3, none⟩ = some (.int .i64 x.2.2.2)

set_option maxRecDepth 100000 in
set_option maxHeartbeats 2000000 in
theorem Try.bwd1_in (F : Fence) (n : Nat) (h8 : F.fn 39) (hro : F.round = none) (hn : 1 ≤ n) (l Bs n₀ b off cap : Nat) (zs : List Chg) (hreach : zs.length ≤ 1000000) (hb : b < n₀) (J Jx : List (Nat × Chg) → World → Prop)
    (hY : ∀ pre x W, J pre W → pre.length < zs.length → YieldAt F (n - 1) Try.prog l #[.int .i64 (x.1 : Int), .agg #[.int .i64 x.2.1, .string x.2.2.1, .int .i64 x.2.2.2.1, .int .i64 x.2.2.2.2]] W fun e W' =>
      (e = .returned (.bool true) ∧ J (pre ++ [x]) W' ∧ KpB n₀ Bs 26 (.slice (some ⟨b, off, none⟩) zs.length cap) W W') ∨ (e = .returned (.bool false) ∧ Jx (pre ++ [x]) W'))
    (W : World) (hBs : Boxed W Bs 26 (.slice (some ⟨b, off, none⟩) zs.length cap)) (hc : ChgAt W b off zs) (h0 : J [] W) :
    CallsIn F n Try.prog 39 #[.func (.yield l) #[] #[], .pointer (some ⟨Bs, 0, none⟩)] W fun e W' => (∃ v, e = .returned v) ∧
      ((∃ ys, ys = backUpto zs zs.length ∧ J ys W') ∨ (∃ pre, (∃ k, k ≤ zs.length ∧ pre = backUpto zs k) ∧ Jx pre W')) := by
  refine callsIn_of_wp Try.func39 rfl h8 ?_ hro
  simp only [Try.ntmps39, List.size_toArray, List.length_cons, List.length_nil, Nat.reduceAdd, Nat.reduceSub, Array.replicate_succ, Array.replicate_zero, List.push_toArray, List.append_toArray, List.nil_append, List.cons_append]
  have hbc := hBs.cell
  have hr1 : ((zs.length : Nat) : Int) ≤ 1000000 := by omega
  gi_wp2
  gi_loopw [3] (fun i wr => ∃ (k : Nat) (z : Int), k ≤ zs.length ∧ i = .int .i64 z ∧ z + 1 + k = zs.length ∧ J (backUpto zs k) wr ∧ Below n₀ W wr ∧ Boxed wr Bs 26 (.slice (some ⟨b, off, none⟩) zs.length cap)) (fun i _ => (intOf i + 1).toNat)
  case atStart => exact ⟨0, _, Nat.zero_le _, rfl, by omega, h0, Below.refl _ _, hBs⟩
  case round =>
    obtain ⟨k, z, hk, rfl, hz, hJs, hnx, hbx⟩ := hrel
    have hbx' := hbx.cell
    by_cases hlt : k < zs.length
    · obtain ⟨j, rfl⟩ := Int.eq_ofNat_of_zero_le (show 0 ≤ z by omega)
      have hj : j < zs.length := by omega
      obtain ⟨c, ec⟩ : ∃ c, zs[j]? = some c := ⟨_, List.getElem?_eq_getElem hj⟩
      have eb : backF zs k = (j, c) := by
        have : zs.length - 1 - k = j := by omega
        rw [backF, this, ec]; rfl
      obtain ⟨c0, c1, c2, c3⟩ := hc j c ec
      have d0 := (hnx.cell (p := ⟨b, off + j * 4, none⟩) hb).trans c0
      have d1 := (hnx.cell (p := ⟨b, off + j * 4 + 1, none⟩) hb).trans c1
      have d2 := (hnx.cell (p := ⟨b, off + j * 4 + 2, none⟩) hb).trans c2
      have d3 := (hnx.cell (p := ⟨b, off + j * 4 + 3, none⟩) hb).trans c3
      obtain ⟨fn, tmps, assign, body, hy, hR⟩ := hY _ (j, c) wr hJs (by rw [back_length]; exact hlt)
      dsimp only at hy
      have hjr : (j : Int) < 1000000 := by omega
      clear hY hc c0 c1 c2 c3
      gi_wp2
      refine hR.mono ?_
      rintro e W3 (⟨rfl, hJ3, hk3⟩ | ⟨rfl, hJx3⟩)
      · gi_wp2
        go_roundw
        case rel => exact ⟨k + 1, _, by omega, rfl, by omega, by rw [back_succ, eb]; exact hJ3, hnx.trans hk3.1, hk3.2 hbx⟩
        case measure => (simp [intOf]; try omega)
      · gi_wp2
        refine bodyPost_ret (results_none rfl _ _ _) rfl ?_
        exact ⟨⟨_, rfl⟩, .inr ⟨_, ⟨k + 1, by omega, by rw [back_succ, eb]⟩, hJx3⟩⟩
    · obtain rfl : z = -1 := by omega
      obtain rfl : k = zs.length := by omega
      gi_wp2
      go_end0
      exact ⟨⟨_, rfl⟩, .inl ⟨_, rfl, hJs⟩⟩

set_option maxRecDepth 100000 in
set_option maxHeartbeats 1000000 in
theorem Try.bwd1_nil_in (F : Fence) (n : Nat) (h8 : F.fn 39) (hro : F.round = none) (l Bs : Nat) (J : List (Nat × Chg) → World → Prop) (a : Option Addr) (cap : Nat) (W : World) (hBs : Boxed W Bs 26 (.slice a 0 cap)) (h0 : J [] W) :
    CallsIn F n Try.prog 39 #[.func (.yield l) #[] #[], .pointer (some ⟨Bs, 0, none⟩)] W fun e W' => (∃ v, e = .returned v) ∧ J [] W' := by
  refine callsIn_of_wp Try.func39 rfl h8 ?_ hro
  simp only [Try.ntmps39, List.size_toArray, List.length_cons, List.length_nil, Nat.reduceAdd, Nat.reduceSub, Array.replicate_succ, Array.replicate_zero, List.push_toArray, List.append_toArray, List.nil_append, List.cons_append]
  have hbc := hBs.cell
  gi_wp2
  gi_loopw [3] (fun i wr => i = .int .i64 (-1) ∧ J [] wr) (fun _ _ => 0)
  case atStart => exact ⟨rfl, h0⟩
  case round =>
    obtain ⟨rfl, hJs⟩ := hrel
    gi_wp2
    go_end0
    exact ⟨⟨_, rfl⟩, hJs⟩

set_option maxHeartbeats 1000000 in
/-- slices.Backward(s): the slice is boxed; the function value captures the box -/
theorem Try.bwd_in (F : Fence) (n : Nat) (h6 : F.fn 20) (hro : F.round = none) (a : Option Addr) (len cap : Nat) (w : World) :
    CallsIn F n Try.prog 20 #[.slice a len cap] w fun e w' => e = .returned (.func (.func 39) #[] #[.pointer (some ⟨w.heap.size, 0, none⟩)]) ∧ w' = w.alloc (.cells #[.slice a len cap] 26) := by
  refine callsIn_of_wp Try.func20 rfl h6 ?_ hro
  simp only [Try.ntmps20, List.size_toArray, List.length_cons, List.length_nil, Nat.reduceAdd, Nat.reduceSub, Array.replicate_succ, Array.replicate_zero, List.push_toArray, List.append_toArray, List.nil_append, List.cons_append]
  gi_wp2
  go_ret
  exact ⟨rfl, rfl⟩

set_option maxHeartbeats 1000000 in
/-- slices.Clip(s): no room behind -/
theorem Try.clip_in (F : Fence) (n : Nat) (h6 : F.fn 21) (hro : F.round = none) (a : Option Addr) (len cap : Nat) (w : World) (hlc : len ≤ cap) :
    CallsIn F n Try.prog 21 #[.slice a len cap] w fun e w' => e = .returned (.slice a len len) ∧ w' = w := by
  refine callsIn_of_wp Try.func21 rfl h6 ?_ hro
  simp only [Try.ntmps21, List.size_toArray, List.length_cons, List.length_nil, Nat.reduceAdd, Nat.reduceSub, Array.replicate_succ, Array.replicate_zero, List.push_toArray, List.append_toArray, List.nil_append, List.cons_append]
  gi_wp2
  go_ret
  exact ⟨rfl, rfl⟩

/-- what is known of the slice that is walked -/
def ChgSl (n₀ : Nat) (W : World) (a : Option Addr) (zs : List Chg) : Prop := zs = [] ∨ ∃ b off, a = some ⟨b, off, none⟩ ∧ b < n₀ ∧ ChgAt W b off zs

theorem ChgSl.below {n₀ : Nat} {W W' : World} {a : Option Addr} {zs : List Chg} (h : ChgSl n₀ W a zs) (hb : Below n₀ W W') : ChgSl n₀ W' a zs := by
  rcases h with h | ⟨b, off, h1, h2, h3⟩
  · exact .inl h
  · exact .inr ⟨b, off, h1, h2, fun j x hx => by
      obtain ⟨c0, c1, c2, c3⟩ := h3 j x hx
      exact ⟨(hb.cell h2).trans c0, (hb.cell h2).trans c1, (hb.cell h2).trans c2, (hb.cell h2).trans c3⟩⟩

theorem Try.bwd_stops (F : Fence) (n : Nat) (h8 : F.fn 39) (hro : F.round = none) (hn : 1 ≤ n) (Bs n₀ : Nat) (a : Option Addr) (cap : Nat) (zs : List Chg) (hreach : zs.length ≤ 1000000) (w : World) (hn₀ : n₀ ≤ w.heap.size)
    (hBs : Boxed w Bs 26 (.slice a zs.length cap)) (hI : ChgSl n₀ w a zs) :
    SeqStopsK F n Try.prog 39 #[.pointer (some ⟨Bs, 0, none⟩)] (fun x : Nat × Chg => #[Value.int .i64 (x.1 : Int), .agg #[.int .i64 x.2.1, .string x.2.2.1, .int .i64 x.2.2.2.1, .int .i64 x.2.2.2.2]]) (KpB n₀ Bs 26 (.slice a zs.length cap)) (fun ys => ys = backUpto zs zs.length)
      (fun pre => ∃ k, k ≤ zs.length ∧ pre = backUpto zs k) zs.length w := fun l J Jx W hW _ _ hY h0 => by
  have hb' : Boxed W Bs 26 (.slice a zs.length cap) := (hW.block Bs hBs.lt).trans hBs
  rcases hI.below (hW.mono hn₀) with rfl | ⟨b, off, rfl, hb, hcs⟩
  · exact (Try.bwd1_nil_in F n h8 hro l Bs J a cap W hb' h0).mono fun e W' ⟨he, hj⟩ => ⟨he, .inl ⟨_, rfl, hj⟩⟩
  · exact Try.bwd1_in F n h8 hro hn l Bs n₀ b off cap zs hreach hb J Jx hY W hb' hcs h0

theorem Try.infoChg : (Try.prog.info? 43).map (fun i => (i.zero, i.size, i.bytes)) = some (some (.agg #[.int .i64 0, .string ByteArray.empty, .int .i64 0, .int .i64 0]), 4, 40) := by kernel_rfl

/-- the cells of what is gathered -/
def gathered (pre : List (Nat × Chg)) : List Value := pre.flatMap fun x => chgL (chgTurn x.2)

theorem gathered_snoc (pre : List (Nat × Chg)) (x : Nat × Chg) : gathered (pre ++ [x]) = gathered pre ++ chgL (chgTurn x.2) := by simp [gathered, List.flatMap_append]

theorem gathered_back (zs : List Chg) : gathered (backUpto zs zs.length) = zs.reverse.flatMap fun c => chgL (chgTurn c) := by
  rw [← back_all, gathered, List.flatMap_map]

/-- the box of the loop's variable -/
def Box4 (W : World) (B : Nat) (c : Chg) : Prop := W.heap[B]? = some (.cells #[.int .i64 c.1, .string c.2.1, .int .i64 c.2.2.1, .int .i64 c.2.2.2] 43 (0, 0))

theorem Boxed_setCell {W : World} {B : Nat} {t : TypeId} {v : Value} (h : Boxed W B t v) (a : Addr) (hne : B ≠ a.block) (u : Value) : Boxed (W.setCell a u) B t v := (Below.heap_setCell W a u B hne).trans h

/-- a world in which the loop's variable alone has turned -/
structure Mid (W W2 : World) (n₀ O Bs Bx : Nat) (t e : TypeId) (v sv : Value) (k : Nat) (xs : List Value) : Prop where
  bO : Boxed W2 O t v
  bN : Boxed W2 Bs t sv
  row : W2.ownsRow n₀ e 4 v k xs
  keeps : KeepsOthers W W2
  below : Below n₀ W W2
  size : W2.heap.size = W.heap.size
  nO : O ≠ Bx
  nN : Bs ≠ Bx
  nv : v.ownBlock ≠ some Bx
  hx : n₀ ≤ Bx

theorem Mid.set {W W2 : World} {n₀ O Bs Bx : Nat} {t e : TypeId} {v sv : Value} {k : Nat} {xs : List Value} (h : Mid W W2 n₀ O Bs Bx t e v sv k xs) (i : Nat) (u : Value) : Mid W (W2.setCell ⟨Bx, i, none⟩ u) n₀ O Bs Bx t e v sv k xs :=
  ⟨Boxed_setCell h.bO _ h.nO u, Boxed_setCell h.bN _ h.nN u, ownsRow_setCell_other h.row h.nv u, h.keeps.trans (KeepsOthers.setCell _ _ _), h.below.setCell (p := ⟨Bx, i, none⟩) h.hx u, by simp [World.setCell, h.size], h.nO, h.nN, h.nv, h.hx⟩

theorem cells_new {W : World} {q : Nat} (hq : W.heap.size = q) (C : List Value) (t : TypeId) : ∀ j u, C[j]? = some u → (W.alloc (.cells C.toArray t)).cell? ((⟨q, 0, none⟩ : Addr).add j) = some u := by
  intro j u hj
  subst hq
  rw [Addr.add_lit, Nat.zero_add]
  simp only [World.cell?, World.alloc_heap_new]
  simpa using hj

/-- behind the append and the store: what the loop owes -/
theorem turn_end {W W2 w1 : World} {n₀ O Bs Bx : Nat} {t e : TypeId} {v v' sv : Value} {k m : Nat} {xs ys : List Value} {tmp : Obj} (h : Mid W W2 n₀ O Bs Bx t e v sv k xs) (hte : t ≠ e) (hn₀ : n₀ ≤ W.heap.size) (hO : n₀ ≤ O) (hne : Bs ≠ O)
    (hown' : w1.ownsRow n₀ e 4 v' m ys) (hgrow : (W2.alloc tmp).grownBy w1 v.ownBlock) :
    Boxed w1 O t v ∧ Boxed (w1.setCell ⟨O, 0, none⟩ v') O t v' ∧ Boxed (w1.setCell ⟨O, 0, none⟩ v') Bs t sv ∧ (w1.setCell ⟨O, 0, none⟩ v').ownsRow n₀ e 4 v' m ys ∧ KeepsOthers W (w1.setCell ⟨O, 0, none⟩ v') ∧ Below n₀ W (w1.setCell ⟨O, 0, none⟩ v') := by
  obtain ⟨h1, h2, h3, h4, h5⟩ := h.bO.appended hte h.row (by rw [h.size]; exact hn₀) hO hown' hgrow
  have g1 : Boxed w1 Bs t sv := (h.bN.alloc tmp).kept hgrow (h.bN.not_row hte h.row)
  exact ⟨h1, h2, g1.other hne v', h3, h.keeps.trans h4, h.below.trans h5⟩

set_option maxRecDepth 100000 in
set_option maxHeartbeats 4000000 in
theorem Try.turn_in (F : Fence) (n : Nat) (h3 : F.fn 8) (h4 : F.fn 20) (h5 : F.fn 39) (h6 : F.fn 21) (hro : F.round = none) (hn : 3 ≤ n)
    (a : Option Addr) (cap : Nat) (zs : List Chg) (hreach : zs.length ≤ 1000000) (w : World) (hI : ChgSl w.heap.size w a zs) :
    CallsIn F n Try.prog 8 #[.slice a zs.length cap] w fun e W' => ∃ va vc, e = .returned (.slice va zs.length zs.length) ∧ W'.ownsRow w.heap.size 43 4 (.slice va zs.length vc) zs.length (zs.reverse.flatMap fun c => chgL (chgTurn c)) ∧ Below w.heap.size w W' := by
  have h1 : 1 ≤ n := by omega
  obtain ⟨i0, hi, hz0, hz1, hz2⟩ := info_parts Try.infoChg
  refine callsIn_of_wp_marks Try.func8 rfl h3 ?_ hro
  simp only [Try.ntmps8, List.size_toArray, List.length_cons, List.length_nil, Nat.reduceAdd, Nat.reduceSub, Array.replicate_succ, Array.replicate_zero, List.push_toArray, List.append_toArray, List.nil_append, List.cons_append]
  gi_wp2_with (gi_at_call 20; refine (Try.bwd_in F (n - 1) h4 hro _ _ _ _).mono ?_; rintro e w' ⟨rfl, rfl⟩)
  have bO := (Boxed.new w 26 (.slice none 0 0)).alloc (.cells #[.slice a zs.length cap] 26)
  have bN := Boxed.new (w.alloc (.cells #[.slice none 0 0] 26)) 26 (.slice a zs.length cap)
  rw [World.size_alloc] at bN
  have hB0 : Below w.heap.size w ((w.alloc (.cells #[.slice none 0 0] 26)).alloc (.cells #[.slice a zs.length cap] 26)) := ((Below.refl _ w).alloc (Nat.le_refl _) _).alloc (by simp) _
  have hsz : ((w.alloc (.cells #[.slice none 0 0] 26)).alloc (.cells #[.slice a zs.length cap] 26)).heap.size = w.heap.size + 2 := by simp
  obtain ⟨W0, hW0⟩ : ∃ W0, (w.alloc (.cells #[.slice none 0 0] 26)).alloc (.cells #[.slice a zs.length cap] 26) = W0 := ⟨_, rfl⟩
  rw [hW0] at bO bN hB0 hsz ⊢
  clear hW0
  refine wpIn_rangeFunc_ownH hro h1 (gf := 39) (lb := #[.pointer (some ⟨w.heap.size + 1, 0, none⟩)]) rfl h5 (enters_of Try.func39 (by kernel_rfl) rfl)
    (Try.bwd_stops F (n - 1) h5 hro (by omega) (w.heap.size + 1) w.heap.size a cap zs hreach W0 (by omega) bN (hI.below hB0)) KpB_t (KpB_b (by omega) (by omega)) (Below.refl _ _) (fun _ => rfl)
    (fun pre W => ((∃ v, Boxed W w.heap.size 26 v ∧ W.ownsRow w.heap.size 43 4 v pre.length (gathered pre) ∧ True) ∧ Boxed W (w.heap.size + 1) 26 (.slice a zs.length cap)) ∧ Below w.heap.size w W)
    (fun _ _ _ => False)
    (OwnFrom.and (OwnFrom.and (Own.from (holdsRow_own w.heap.size w.heap.size 26 43 4 (fun pre => pre.length) gathered (fun _ _ => True)) _) (Own.from (boxed_own _ _ _) _)) (ownFrom_below (Nat.le_refl _) (by omega)))
    (fun _ _ _ _ _ hs _ _ => hs)
    ⟨⟨⟨_, bO, World.ownsRow_nil _ _ _ _, trivial⟩, bN⟩, hB0⟩
    (fun x a' W => ∃ Bx, w.heap.size + 1 < Bx ∧ (Box4 W Bx x.2 ∧ ∃ v, Boxed W w.heap.size 26 v ∧ v.ownBlock ≠ some Bx) ∧ a' = { tmps := #[.slice a zs.length cap, undef, .slice none 0 0, .pointer (some ⟨w.heap.size, 0, none⟩), undef, .pointer (some ⟨Bx, 0, none⟩), .slice a zs.length cap, .func (.func 39) #[] #[.pointer (some ⟨w.heap.size + 1, 0, none⟩)], .int .i64 (x.1 : Int), .agg #[.int .i64 x.2.1, .string x.2.2.1, .int .i64 x.2.2.2.1, .int .i64 x.2.2.2.2], undef, undef, undef, undef, undef, undef, undef, undef, undef, undef, undef, undef, undef, undef, undef, undef, undef, undef, undef, undef], defers := [] })
    (fun x a' _ X Y row hs hg hr => by
      obtain ⟨Bx, h1, ⟨h2, v, h4, h5⟩, h3⟩ := hs
      refine ⟨Bx, h1, ⟨(hg.block Bx (Array.getElem?_eq_some_iff.1 h2).1 (fun e => ?_)).trans h2, v, boxed_own _ _ (fun (_ : Unit) => v) () X Y row h4 hg (fun r e => (hr r e).2), h5⟩, h3⟩
      obtain ⟨_, o, ho, hc⟩ := hr Bx e.symm
      rw [show X.heap[Bx]? = _ from h2] at ho
      cases ho; cases hc)
    ?assign ?body ?done ?stop
  case assign =>
    rintro l pre x W K ⟨⟨⟨v, bO1, hrow, _⟩, bN1⟩, hB1⟩ hK
    gi_wp2
    exact hK _ _ ((KeepsOthers.alloc _ _).from _) ⟨(Below.refl _ W).alloc hB1.size _, fun h => h.alloc _⟩ ⟨⟨⟨v, bO1.alloc _, hrow.alloc _, trivial⟩, bN1.alloc _⟩, hB1.alloc hB1.size _⟩ ⟨W.heap.size, bN1.lt, ⟨World.alloc_heap_new W _, v, bO1.alloc _, fun e => by have := (hrow.lt _ e).2; omega⟩, rfl⟩
  case body =>
    rintro l pre ⟨xi, k, s, o, m⟩ a' W hl ⟨r, hr⟩ ⟨⟨⟨v, bO1, hrow, _⟩, bN1⟩, hB1⟩ ⟨Bx, hBx, ⟨bX, v2, bO2, hne⟩, rfl⟩ hlt
    obtain rfl : v2 = v := by
      have e := (show W.heap[w.heap.size]? = _ from bO2).symm.trans (show W.heap[w.heap.size]? = _ from bO1)
      simpa using e
    have cO := bO1.cell
    have x0 : W.cell? ⟨Bx, 0, none⟩ = some (.int .i64 k) := by simp [World.cell?, show W.heap[Bx]? = _ from bX]
    have x1 : W.cell? ⟨Bx, 1, none⟩ = some (.string s) := by simp [World.cell?, show W.heap[Bx]? = _ from bX]
    have x2 : W.cell? ⟨Bx, 2, none⟩ = some (.int .i64 o) := by simp [World.cell?, show W.heap[Bx]? = _ from bX]
    have x3 : W.cell? ⟨Bx, 3, none⟩ = some (.int .i64 m) := by simp [World.cell?, show W.heap[Bx]? = _ from bX]
    have y0 : W.frozen? ⟨Bx, 0, none⟩ = false := by simp [World.frozen?, show W.heap[Bx]? = _ from bX]
    have y2 : W.frozen? ⟨Bx, 2, none⟩ = false := by simp [World.frozen?, show W.heap[Bx]? = _ from bX]
    have y3 : W.frozen? ⟨Bx, 3, none⟩ = false := by simp [World.frozen?, show W.heap[Bx]? = _ from bX]
    have hsz1 := hB1.size
    have M : Mid W W w.heap.size w.heap.size (w.heap.size + 1) Bx 26 43 v2 (.slice a zs.length cap) pre.length (gathered pre) := ⟨bO1, bN1, hrow, KeepsOthers.refl _, Below.refl _ _, rfl, by omega, by omega, hne, by omega⟩
    have hpl : pre.length ≤ 1000000 := by omega
    rcases (show k = 0 ∨ k = 1 ∨ (¬ k = 0 ∧ ¬ k = 1) by omega) with rfl | rfl | ⟨hk0, hk1⟩
    · have M2 := ((M.set 0 (.int .i64 1)).set 2 (.int .i64 m)).set 3 (.int .i64 o)
      have ec : gathered (pre ++ [(xi, 0, s, o, m)]) = gathered pre ++ [.int .i64 1, .string s, .int .i64 m, .int .i64 o] := by rw [gathered_snoc]; simp [chgL, chgTurn]
      gi_wp2_with (gi_at_builtin; refine wpListIn_append_own _ rfl _ _ 26 rfl w.heap.size 43 i0 (.agg #[.int .i64 0, .string ByteArray.empty, .int .i64 0, .int .i64 0]) 4 40 Try.underlying26 hi hz0 hz1 hz2 rfl (by decide) _ _ _ rfl (M2.row.alloc _) ⟨W.heap.size, 0, none⟩ 1 1 [.int .i64 1, .string s, .int .i64 m, .int .i64 o] rfl rfl (cells_new (by simp) _ _) (by simp [Value.oneCell']) (by unfold maxLen; omega) (by omega) (by simp; omega) ?_; intro v' w1 hown' hgrow _; obtain ⟨g', cap', rfl⟩ := ownsRow_succ hown'; obtain ⟨e1, e2, e3, e4, e5, e6⟩ := turn_end M2 (by decide) hsz1 (Nat.le_refl _) (by omega) hown' hgrow; have hc1 := e1.cell; have hf1 := e1.frozen)
      exact ⟨e5.from _, ⟨e6, fun _ => e3⟩, ⟨⟨_, e2, by rw [ec, List.length_append]; exact e4⟩, e3⟩, hB1.trans e6⟩
    · have M2 := ((M.set 0 (.int .i64 0)).set 2 (.int .i64 m)).set 3 (.int .i64 o)
      have ec : gathered (pre ++ [(xi, 1, s, o, m)]) = gathered pre ++ [.int .i64 0, .string s, .int .i64 m, .int .i64 o] := by rw [gathered_snoc]; simp [chgL, chgTurn]
      gi_wp2_with (gi_at_builtin; refine wpListIn_append_own _ rfl _ _ 26 rfl w.heap.size 43 i0 (.agg #[.int .i64 0, .string ByteArray.empty, .int .i64 0, .int .i64 0]) 4 40 Try.underlying26 hi hz0 hz1 hz2 rfl (by decide) _ _ _ rfl (M2.row.alloc _) ⟨W.heap.size, 0, none⟩ 1 1 [.int .i64 0, .string s, .int .i64 m, .int .i64 o] rfl rfl (cells_new (by simp) _ _) (by simp [Value.oneCell']) (by unfold maxLen; omega) (by omega) (by simp; omega) ?_; intro v' w1 hown' hgrow _; obtain ⟨g', cap', rfl⟩ := ownsRow_succ hown'; obtain ⟨e1, e2, e3, e4, e5, e6⟩ := turn_end M2 (by decide) hsz1 (Nat.le_refl _) (by omega) hown' hgrow; have hc1 := e1.cell; have hf1 := e1.frozen)
      exact ⟨e5.from _, ⟨e6, fun _ => e3⟩, ⟨⟨_, e2, by rw [ec, List.length_append]; exact e4⟩, e3⟩, hB1.trans e6⟩
    · have M2 := (M.set 2 (.int .i64 m)).set 3 (.int .i64 o)
      have ec : gathered (pre ++ [(xi, k, s, o, m)]) = gathered pre ++ [.int .i64 k, .string s, .int .i64 m, .int .i64 o] := by rw [gathered_snoc]; simp [chgL, chgTurn, hk0, hk1]
      gi_wp2_with (gi_at_builtin; refine wpListIn_append_own _ rfl _ _ 26 rfl w.heap.size 43 i0 (.agg #[.int .i64 0, .string ByteArray.empty, .int .i64 0, .int .i64 0]) 4 40 Try.underlying26 hi hz0 hz1 hz2 rfl (by decide) _ _ _ rfl (M2.row.alloc _) ⟨W.heap.size, 0, none⟩ 1 1 [.int .i64 k, .string s, .int .i64 m, .int .i64 o] rfl rfl (cells_new (by simp) _ _) (by simp [Value.oneCell']) (by unfold maxLen; omega) (by omega) (by simp; omega) ?_; intro v' w1 hown' hgrow _; obtain ⟨g', cap', rfl⟩ := ownsRow_succ hown'; obtain ⟨e1, e2, e3, e4, e5, e6⟩ := turn_end M2 (by decide) hsz1 (Nat.le_refl _) (by omega) hown' hgrow; have hc1 := e1.cell; have hf1 := e1.frozen)
      exact ⟨e5.from _, ⟨e6, fun _ => e3⟩, ⟨⟨_, e2, by rw [ec, List.length_append]; exact e4⟩, e3⟩, hB1.trans e6⟩
  case done =>
    rintro D ys W hD rfl ⟨⟨⟨v, hv, hrow, _⟩, bN1⟩, hB⟩ hK
    have hc := hv.cell
    rw [gathered_back, back_length] at hrow
    obtain ⟨va, vc, hvc, rfl⟩ : ∃ va vc, zs.length ≤ vc ∧ v = .slice va zs.length vc := by
      rcases hrow.2 with ⟨h, h0⟩ | ⟨g, cap, cur, h, _, _, h1, _⟩
      · exact ⟨_, 0, by omega, by rw [h, h0]⟩
      · exact ⟨_, _, h1, h⟩
    gi_wp2_with (gi_at_call 21; refine (Try.clip_in F (n - 1) h6 hro _ _ _ _ hvc).mono ?_; rintro e w' ⟨rfl, rfl⟩)
    refine ⟨by simp, .inl ⟨_, _, rfl, run_takeDeferred hK, ?_⟩⟩
    exact ⟨_, results_tmp rfl _ _ _, va, vc, rfl, ownsRow_putObj hrow _ hK rfl, hB.trans (belowK_b (w := w) (Nat.le_refl _) _ D _ _ (by omega) hK rfl rfl)⟩
  case stop =>
    rintro D c pre W _ _ h _
    exact h.elim

end Go.Proofs
