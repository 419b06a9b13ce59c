/- What is proved here: each function keeps to its model, whatever its arguments, wherever the model has an answer. Printed by gen.py. -/
import Derived.Test.YtpoaggicbnldhaaCSortEnumWalk2
import Derived.Test.YtpoaggicbnldhaaProg
import Derived.KernelRfl
set_option linter.unusedVariables false
namespace Go.Eng
open Go Go.Proofs


theorem s_slices_Concat_x3isiiisiiisii (p1 : List (Int × ByteArray × Int × Int)) (p2 : List (Int × ByteArray × Int × Int)) (p3 : List (Int × ByteArray × Int × Int)) (r : List (Int × ByteArray × Int × Int)) (h : m_slices_Concat_x3isiiisiiisii p1 p2 p3 = some r) :
    Eng.Spec Try.prog 78 [.bx [.bs false 4 (List.map enc_isii p1), .bs false 4 (List.map enc_isii p2), .bs false 4 (List.map enc_isii p3)]] [] (.sl 0 0 r.length) [.arr 4 (List.map enc_isii r)] := by
  unfold m_slices_Concat_x3isiiisiiisii at h
  refine Eng.Spec.body Try.func78 (by kernel_rfl) rfl (by kernel_rfl) ?_
  refine AX.wkpost ?_
  refine AX.seq ?_
  refine AX.reg (its := []) [0] [] (s1 := ⟨[(0, .bx [.bs false 4 (List.map enc_isii p1), .bs false 4 (List.map enc_isii p2), .bs false 4 (List.map enc_isii p3)])], []⟩) (C := True) (by kernel_rfl) trivial trivial ?_
  refine AX.seq ?_
  refine AX.reg (its := []) [0, 3] [] (s1 := ⟨[(0, .bx [.bs false 4 (List.map enc_isii p1), .bs false 4 (List.map enc_isii p2), .bs false 4 (List.map enc_isii p3)]), (3, .v (.int .i64 0))], []⟩) (C := True) (by kernel_rfl) trivial trivial ?_
  refine AX.seq ?_
  refine AX.seq ?_
  refine AX.reg (its := []) [0, 3, 9, 10, 11] [] (s1 := ⟨[(0, .bx [.bs false 4 (List.map enc_isii p1), .bs false 4 (List.map enc_isii p2), .bs false 4 (List.map enc_isii p3)]), (3, .v (.int .i64 0)), (9, .bx [.bs false 4 (List.map enc_isii p1), .bs false 4 (List.map enc_isii p2), .bs false 4 (List.map enc_isii p3)]), (10, .v (.int .i64 3)), (11, .v (.int .i64 0))], []⟩) (C := True) (by kernel_rfl) trivial trivial ?_
  refine AX.block ?_
  refine AXL.start ?_
  refine AXL.step ?_
  refine AX.seq ?_
  refine AX.reg (its := []) [0, 3, 9, 10, 11, 12] [] (s1 := ⟨[(0, .bx [.bs false 4 (List.map enc_isii p1), .bs false 4 (List.map enc_isii p2), .bs false 4 (List.map enc_isii p3)]), (3, .v (.int .i64 0)), (9, .bx [.bs false 4 (List.map enc_isii p1), .bs false 4 (List.map enc_isii p2), .bs false 4 (List.map enc_isii p3)]), (10, .v (.int .i64 3)), (11, .v (.int .i64 0)), (12, .v (.bool true))], []⟩) (C := True) (by kernel_rfl) trivial trivial ?_
  refine AX.seq ?_
  refine AX.cond_true (by kernel_rfl) ?_
  refine AX.skip ?_
  refine AX.seq ?_
  refine AX.block ?_
  refine AX.seq ?_
  refine AX.reg (its := []) [0, 3, 5, 9, 10, 11] [] (s1 := ⟨[(0, .bx [.bs false 4 (List.map enc_isii p1), .bs false 4 (List.map enc_isii p2), .bs false 4 (List.map enc_isii p3)]), (3, .v (.int .i64 0)), (5, .bs false 4 (List.map enc_isii p1)), (9, .bx [.bs false 4 (List.map enc_isii p1), .bs false 4 (List.map enc_isii p2), .bs false 4 (List.map enc_isii p3)]), (10, .v (.int .i64 3)), (11, .v (.int .i64 0))], []⟩) (C := ((0 : Int) ≤ 0 ∧ (0 : Int) < ((3 : Nat) : Int)) ∧ True) (by kernel_rfl) ⟨(by decide), trivial⟩ trivial ?_
  refine AX.seq ?_
  refine AX.reg (its := [.auto {}, .auto {}, .auto { y := some (.v (.int .i64 (p1.length : Int))) }, .auto { raw := true }]) [0, 3, 9, 10, 11] [] (s1 := ⟨[(0, .bx [.bs false 4 (List.map enc_isii p1), .bs false 4 (List.map enc_isii p2), .bs false 4 (List.map enc_isii p3)]), (3, .v (.int .i64 (IntKind.wrap .i64 (0 + (p1.length : Int))))), (9, .bx [.bs false 4 (List.map enc_isii p1), .bs false 4 (List.map enc_isii p2), .bs false 4 (List.map enc_isii p3)]), (10, .v (.int .i64 3)), (11, .v (.int .i64 0))], []⟩) (C := (True ∧ (AV.v (.int .i64 ((List.map enc_isii p1).length : Int)) = AV.v (.int .i64 (p1.length : Int)))) ∧ True) (by kernel_rfl) ⟨⟨trivial, len_map enc_isii p1⟩, trivial⟩ trivial ?_
  refine AX.seq ?_
  refine AX.reg (its := []) [0, 3, 9, 10, 11, 20] [] (s1 := ⟨[(0, .bx [.bs false 4 (List.map enc_isii p1), .bs false 4 (List.map enc_isii p2), .bs false 4 (List.map enc_isii p3)]), (3, .v (.int .i64 (IntKind.wrap .i64 (0 + (p1.length : Int))))), (9, .bx [.bs false 4 (List.map enc_isii p1), .bs false 4 (List.map enc_isii p2), .bs false 4 (List.map enc_isii p3)]), (10, .v (.int .i64 3)), (11, .v (.int .i64 0)), (20, .v (.bool (decide ((IntKind.wrap .i64 (0 + (p1.length : Int))) < 0))))], []⟩) (C := True) (by kernel_rfl) trivial trivial ?_
  rcases bool_cases (decide ((IntKind.wrap .i64 (0 + (p1.length : Int))) < 0)) with b1 | b1
  · replace h := cd_t b1 h
    refine AX.condT (decide ((IntKind.wrap .i64 (0 + (p1.length : Int))) < 0)) (by kernel_rfl) b1 ?_
    cases h
  · replace h := cd_f b1 h
    refine AX.condF (decide ((IntKind.wrap .i64 (0 + (p1.length : Int))) < 0)) (by kernel_rfl) b1 ?_
    refine AX.skip ?_
    refine AX.reg (its := [.auto { raw := true }]) [0, 3, 9, 10, 11] [] (s1 := ⟨[(0, .bx [.bs false 4 (List.map enc_isii p1), .bs false 4 (List.map enc_isii p2), .bs false 4 (List.map enc_isii p3)]), (3, .v (.int .i64 (IntKind.wrap .i64 (0 + (p1.length : Int))))), (9, .bx [.bs false 4 (List.map enc_isii p1), .bs false 4 (List.map enc_isii p2), .bs false 4 (List.map enc_isii p3)]), (10, .v (.int .i64 3)), (11, .v (.int .i64 1))], []⟩) (C := True) (by kernel_rfl) trivial trivial ?_
    refine AXL.step ?_
    refine AX.seq ?_
    refine AX.reg (its := []) [0, 3, 9, 10, 11, 12] [] (s1 := ⟨[(0, .bx [.bs false 4 (List.map enc_isii p1), .bs false 4 (List.map enc_isii p2), .bs false 4 (List.map enc_isii p3)]), (3, .v (.int .i64 (IntKind.wrap .i64 (0 + (p1.length : Int))))), (9, .bx [.bs false 4 (List.map enc_isii p1), .bs false 4 (List.map enc_isii p2), .bs false 4 (List.map enc_isii p3)]), (10, .v (.int .i64 3)), (11, .v (.int .i64 1)), (12, .v (.bool true))], []⟩) (C := True) (by kernel_rfl) trivial trivial ?_
    refine AX.seq ?_
    refine AX.cond_true (by kernel_rfl) ?_
    refine AX.skip ?_
    refine AX.seq ?_
    refine AX.block ?_
    refine AX.seq ?_
    refine AX.reg (its := []) [0, 3, 5, 9, 10, 11] [] (s1 := ⟨[(0, .bx [.bs false 4 (List.map enc_isii p1), .bs false 4 (List.map enc_isii p2), .bs false 4 (List.map enc_isii p3)]), (3, .v (.int .i64 (IntKind.wrap .i64 (0 + (p1.length : Int))))), (5, .bs false 4 (List.map enc_isii p2)), (9, .bx [.bs false 4 (List.map enc_isii p1), .bs false 4 (List.map enc_isii p2), .bs false 4 (List.map enc_isii p3)]), (10, .v (.int .i64 3)), (11, .v (.int .i64 1))], []⟩) (C := ((0 : Int) ≤ 1 ∧ (1 : Int) < ((3 : Nat) : Int)) ∧ True) (by kernel_rfl) ⟨(by decide), trivial⟩ trivial ?_
    refine AX.seq ?_
    obtain ⟨v4, q2, h⟩ := nm_e h
    refine AX.reg (its := [.auto {}, .auto {}, .auto { y := some (.v (.int .i64 (p2.length : Int))) }, .auto { y := some (.v (.int .i64 v4)), raw := true }]) [0, 3, 9, 10, 11] [] (s1 := ⟨[(0, .bx [.bs false 4 (List.map enc_isii p1), .bs false 4 (List.map enc_isii p2), .bs false 4 (List.map enc_isii p3)]), (3, .v (.int .i64 v4)), (9, .bx [.bs false 4 (List.map enc_isii p1), .bs false 4 (List.map enc_isii p2), .bs false 4 (List.map enc_isii p3)]), (10, .v (.int .i64 3)), (11, .v (.int .i64 1))], []⟩) (C := (True ∧ (AV.v (.int .i64 ((List.map enc_isii p2).length : Int)) = AV.v (.int .i64 (p2.length : Int)))) ∧ ((True) ∧ ((.v (.int .i64 (IntKind.wrap .i64 ((IntKind.wrap .i64 (0 + (p1.length : Int))) + (p2.length : Int)))) : AV) = (.v (.int .i64 v4) : AV))) ∧ True) (by kernel_rfl) ⟨⟨trivial, len_map enc_isii p2⟩, ⟨⟨trivial, (congrArg (fun z => AV.v (.int .i64 z)) q2)⟩, trivial⟩⟩ trivial ?_
    refine AX.seq ?_
    refine AX.reg (its := []) [0, 3, 9, 10, 11, 20] [] (s1 := ⟨[(0, .bx [.bs false 4 (List.map enc_isii p1), .bs false 4 (List.map enc_isii p2), .bs false 4 (List.map enc_isii p3)]), (3, .v (.int .i64 v4)), (9, .bx [.bs false 4 (List.map enc_isii p1), .bs false 4 (List.map enc_isii p2), .bs false 4 (List.map enc_isii p3)]), (10, .v (.int .i64 3)), (11, .v (.int .i64 1)), (20, .v (.bool (decide (v4 < 0))))], []⟩) (C := True) (by kernel_rfl) trivial trivial ?_
    rcases bool_cases (decide (v4 < 0)) with b3 | b3
    · replace h := cd_t b3 h
      refine AX.condT (decide (v4 < 0)) (by kernel_rfl) b3 ?_
      cases h
    · replace h := cd_f b3 h
      refine AX.condF (decide (v4 < 0)) (by kernel_rfl) b3 ?_
      refine AX.skip ?_
      refine AX.reg (its := [.auto { raw := true }]) [0, 3, 9, 10, 11] [] (s1 := ⟨[(0, .bx [.bs false 4 (List.map enc_isii p1), .bs false 4 (List.map enc_isii p2), .bs false 4 (List.map enc_isii p3)]), (3, .v (.int .i64 v4)), (9, .bx [.bs false 4 (List.map enc_isii p1), .bs false 4 (List.map enc_isii p2), .bs false 4 (List.map enc_isii p3)]), (10, .v (.int .i64 3)), (11, .v (.int .i64 2))], []⟩) (C := True) (by kernel_rfl) trivial trivial ?_
      refine AXL.step ?_
      refine AX.seq ?_
      refine AX.reg (its := []) [0, 3, 9, 10, 11, 12] [] (s1 := ⟨[(0, .bx [.bs false 4 (List.map enc_isii p1), .bs false 4 (List.map enc_isii p2), .bs false 4 (List.map enc_isii p3)]), (3, .v (.int .i64 v4)), (9, .bx [.bs false 4 (List.map enc_isii p1), .bs false 4 (List.map enc_isii p2), .bs false 4 (List.map enc_isii p3)]), (10, .v (.int .i64 3)), (11, .v (.int .i64 2)), (12, .v (.bool true))], []⟩) (C := True) (by kernel_rfl) trivial trivial ?_
      refine AX.seq ?_
      refine AX.cond_true (by kernel_rfl) ?_
      refine AX.skip ?_
      refine AX.seq ?_
      refine AX.block ?_
      refine AX.seq ?_
      refine AX.reg (its := []) [0, 3, 5, 9, 10, 11] [] (s1 := ⟨[(0, .bx [.bs false 4 (List.map enc_isii p1), .bs false 4 (List.map enc_isii p2), .bs false 4 (List.map enc_isii p3)]), (3, .v (.int .i64 v4)), (5, .bs false 4 (List.map enc_isii p3)), (9, .bx [.bs false 4 (List.map enc_isii p1), .bs false 4 (List.map enc_isii p2), .bs false 4 (List.map enc_isii p3)]), (10, .v (.int .i64 3)), (11, .v (.int .i64 2))], []⟩) (C := ((0 : Int) ≤ 2 ∧ (2 : Int) < ((3 : Nat) : Int)) ∧ True) (by kernel_rfl) ⟨(by decide), trivial⟩ trivial ?_
      refine AX.seq ?_
      refine AX.reg (its := [.auto {}, .auto {}, .auto { y := some (.v (.int .i64 (p3.length : Int))) }, .auto { raw := true }]) [0, 3, 9, 10, 11] [] (s1 := ⟨[(0, .bx [.bs false 4 (List.map enc_isii p1), .bs false 4 (List.map enc_isii p2), .bs false 4 (List.map enc_isii p3)]), (3, .v (.int .i64 (IntKind.wrap .i64 (v4 + (p3.length : Int))))), (9, .bx [.bs false 4 (List.map enc_isii p1), .bs false 4 (List.map enc_isii p2), .bs false 4 (List.map enc_isii p3)]), (10, .v (.int .i64 3)), (11, .v (.int .i64 2))], []⟩) (C := (True ∧ (AV.v (.int .i64 ((List.map enc_isii p3).length : Int)) = AV.v (.int .i64 (p3.length : Int)))) ∧ True) (by kernel_rfl) ⟨⟨trivial, len_map enc_isii p3⟩, trivial⟩ trivial ?_
      refine AX.seq ?_
      refine AX.reg (its := []) [0, 3, 9, 10, 11, 20] [] (s1 := ⟨[(0, .bx [.bs false 4 (List.map enc_isii p1), .bs false 4 (List.map enc_isii p2), .bs false 4 (List.map enc_isii p3)]), (3, .v (.int .i64 (IntKind.wrap .i64 (v4 + (p3.length : Int))))), (9, .bx [.bs false 4 (List.map enc_isii p1), .bs false 4 (List.map enc_isii p2), .bs false 4 (List.map enc_isii p3)]), (10, .v (.int .i64 3)), (11, .v (.int .i64 2)), (20, .v (.bool (decide ((IntKind.wrap .i64 (v4 + (p3.length : Int))) < 0))))], []⟩) (C := True) (by kernel_rfl) trivial trivial ?_
      rcases bool_cases (decide ((IntKind.wrap .i64 (v4 + (p3.length : Int))) < 0)) with b4 | b4
      · replace h := cd_t b4 h
        refine AX.condT (decide ((IntKind.wrap .i64 (v4 + (p3.length : Int))) < 0)) (by kernel_rfl) b4 ?_
        cases h
      · replace h := cd_f b4 h
        refine AX.condF (decide ((IntKind.wrap .i64 (v4 + (p3.length : Int))) < 0)) (by kernel_rfl) b4 ?_
        refine AX.skip ?_
        refine AX.reg (its := [.auto { raw := true }]) [0, 3, 9, 10, 11] [] (s1 := ⟨[(0, .bx [.bs false 4 (List.map enc_isii p1), .bs false 4 (List.map enc_isii p2), .bs false 4 (List.map enc_isii p3)]), (3, .v (.int .i64 (IntKind.wrap .i64 (v4 + (p3.length : Int))))), (9, .bx [.bs false 4 (List.map enc_isii p1), .bs false 4 (List.map enc_isii p2), .bs false 4 (List.map enc_isii p3)]), (10, .v (.int .i64 3)), (11, .v (.int .i64 3))], []⟩) (C := True) (by kernel_rfl) trivial trivial ?_
        refine AXL.step ?_
        refine AX.seq ?_
        refine AX.reg (its := []) [0, 3, 9, 10, 11, 12] [] (s1 := ⟨[(0, .bx [.bs false 4 (List.map enc_isii p1), .bs false 4 (List.map enc_isii p2), .bs false 4 (List.map enc_isii p3)]), (3, .v (.int .i64 (IntKind.wrap .i64 (v4 + (p3.length : Int))))), (9, .bx [.bs false 4 (List.map enc_isii p1), .bs false 4 (List.map enc_isii p2), .bs false 4 (List.map enc_isii p3)]), (10, .v (.int .i64 3)), (11, .v (.int .i64 3)), (12, .v (.bool false))], []⟩) (C := True) (by kernel_rfl) trivial trivial ?_
        refine AX.seq ?_
        refine AX.cond_false (by kernel_rfl) ?_
        refine AX.exit ?_
        refine AX.seq ?_
        obtain ⟨x5, e5, h⟩ := bd_e h
        refine AX.reg (its := [.auto {}, .call 92 [.v (.slice none 0 0), .v (.int .i64 (IntKind.wrap .i64 (v4 + (p3.length : Int))))] (handO (rho ([] ++ [0])) [] [] ++ []) (callEv [] [0] (.sl 0 0 x5.length) [.arr 4 (List.map enc_isii x5)])]) [0, 6] [0] (s1 := ⟨[(0, .bx [.bs false 4 (List.map enc_isii p1), .bs false 4 (List.map enc_isii p2), .bs false 4 (List.map enc_isii p3)]), (6, .sl 0 0 x5.length)], [(0, .arr 4 (List.map enc_isii x5))]⟩) (C := ((([.v (.slice none 0 0), .v (.int .i64 (IntKind.wrap .i64 (v4 + (p3.length : Int))))] : List AV) = [.v (.slice none 0 0), .v (.int .i64 (IntKind.wrap .i64 (v4 + (p3.length : Int))))]) ∧ True) ∧ True) (by kernel_rfl) ⟨⟨rfl, trivial⟩, trivial⟩ ⟨call_ok (ks := []) (ns := [0]) (bor := []) (bobjs := []) (s_slices_Grow_nisii (IntKind.wrap .i64 (v4 + (p3.length : Int))) x5 e5) (.cons (.c1 (.c0 (.same _ (by kernel_rfl) (by kernel_rfl)))) (.cons (.c1 (.c0 (.same _ (by kernel_rfl) (by kernel_rfl)))) (.nil))) (by kernel_rfl) trivial, trivial⟩ ?_
        refine AX.seq ?_
        refine AX.seq ?_
        refine AX.reg (its := []) [6, 25, 26, 27] [0] (s1 := ⟨[(6, .sl 0 0 x5.length), (25, .bx [.bs false 4 (List.map enc_isii p1), .bs false 4 (List.map enc_isii p2), .bs false 4 (List.map enc_isii p3)]), (26, .v (.int .i64 3)), (27, .v (.int .i64 0))], [(0, .arr 4 (List.map enc_isii x5))]⟩) (C := True) (by kernel_rfl) trivial trivial ?_
        refine AX.block ?_
        refine AXL.start ?_
        refine AXL.step ?_
        refine AX.seq ?_
        refine AX.reg (its := []) [6, 25, 26, 27, 28] [0] (s1 := ⟨[(6, .sl 0 0 x5.length), (25, .bx [.bs false 4 (List.map enc_isii p1), .bs false 4 (List.map enc_isii p2), .bs false 4 (List.map enc_isii p3)]), (26, .v (.int .i64 3)), (27, .v (.int .i64 0)), (28, .v (.bool true))], [(0, .arr 4 (List.map enc_isii x5))]⟩) (C := True) (by kernel_rfl) trivial trivial ?_
        refine AX.seq ?_
        refine AX.cond_true (by kernel_rfl) ?_
        refine AX.skip ?_
        refine AX.seq ?_
        refine AX.block ?_
        refine AX.seq ?_
        refine AX.reg (its := []) [6, 8, 25, 26, 27] [0] (s1 := ⟨[(6, .sl 0 0 x5.length), (8, .bs false 4 (List.map enc_isii p1)), (25, .bx [.bs false 4 (List.map enc_isii p1), .bs false 4 (List.map enc_isii p2), .bs false 4 (List.map enc_isii p3)]), (26, .v (.int .i64 3)), (27, .v (.int .i64 0))], [(0, .arr 4 (List.map enc_isii x5))]⟩) (C := ((0 : Int) ≤ 0 ∧ (0 : Int) < ((3 : Nat) : Int)) ∧ True) (by kernel_rfl) ⟨(by decide), trivial⟩ trivial ?_
        obtain ⟨g6, h⟩ := gd_e h
        refine AX.reg (its := [.auto {}, .auto {}, .auto { y := some (.sl 1 0 ((x5 ++ p1).length)), els := some (List.map enc_isii x5), nk := 1 }]) [6, 25, 26, 27] [1] (s1 := ⟨[(6, .sl 1 0 ((x5 ++ p1).length)), (25, .bx [.bs false 4 (List.map enc_isii p1), .bs false 4 (List.map enc_isii p2), .bs false 4 (List.map enc_isii p3)]), (26, .v (.int .i64 3)), (27, .v (.int .i64 0))], [(1, .arr 4 (List.map enc_isii x5 ++ List.map enc_isii p1))]⟩) (C := ((((((List.map enc_isii x5).drop 0).take (x5.length) = List.map enc_isii x5) ∧ True) ∧ (List.map enc_isii x5).length + (List.map enc_isii p1).length ≤ 1099511627776) ∧ (AV.sl 1 0 (List.map enc_isii x5 ++ List.map enc_isii p1).length = AV.sl 1 0 (x5 ++ p1).length)) ∧ True) (by kernel_rfl) ⟨⟨⟨⟨(dt_all (enc := enc_isii) rfl rfl), trivial⟩, (by simp only [List.length_map, List.length_nil, List.length_replicate]; simpa using g6)⟩, sl_len (enc := enc_isii) (app_can (enc := enc_isii) rfl (rfl))⟩, trivial⟩ trivial ?_
        refine AX.reg (its := [.auto { raw := true }]) [6, 25, 26, 27] [1] (s1 := ⟨[(6, .sl 1 0 ((x5 ++ p1).length)), (25, .bx [.bs false 4 (List.map enc_isii p1), .bs false 4 (List.map enc_isii p2), .bs false 4 (List.map enc_isii p3)]), (26, .v (.int .i64 3)), (27, .v (.int .i64 1))], [(1, .arr 4 (List.map enc_isii x5 ++ List.map enc_isii p1))]⟩) (C := True) (by kernel_rfl) trivial trivial ?_
        refine AXL.step ?_
        refine AX.seq ?_
        refine AX.reg (its := []) [6, 25, 26, 27, 28] [1] (s1 := ⟨[(6, .sl 1 0 ((x5 ++ p1).length)), (25, .bx [.bs false 4 (List.map enc_isii p1), .bs false 4 (List.map enc_isii p2), .bs false 4 (List.map enc_isii p3)]), (26, .v (.int .i64 3)), (27, .v (.int .i64 1)), (28, .v (.bool true))], [(1, .arr 4 (List.map enc_isii x5 ++ List.map enc_isii p1))]⟩) (C := True) (by kernel_rfl) trivial trivial ?_
        refine AX.seq ?_
        refine AX.cond_true (by kernel_rfl) ?_
        refine AX.skip ?_
        refine AX.seq ?_
        refine AX.block ?_
        refine AX.seq ?_
        refine AX.reg (its := []) [6, 8, 25, 26, 27] [1] (s1 := ⟨[(6, .sl 1 0 ((x5 ++ p1).length)), (8, .bs false 4 (List.map enc_isii p2)), (25, .bx [.bs false 4 (List.map enc_isii p1), .bs false 4 (List.map enc_isii p2), .bs false 4 (List.map enc_isii p3)]), (26, .v (.int .i64 3)), (27, .v (.int .i64 1))], [(1, .arr 4 (List.map enc_isii x5 ++ List.map enc_isii p1))]⟩) (C := ((0 : Int) ≤ 1 ∧ (1 : Int) < ((3 : Nat) : Int)) ∧ True) (by kernel_rfl) ⟨(by decide), trivial⟩ trivial ?_
        obtain ⟨g7, h⟩ := gd_e h
        refine AX.reg (its := [.auto {}, .auto {}, .auto { y := some (.sl 2 0 (((x5 ++ p1) ++ p2).length)), els := some (List.map enc_isii (x5 ++ p1)), nk := 2 }]) [6, 25, 26, 27] [2] (s1 := ⟨[(6, .sl 2 0 (((x5 ++ p1) ++ p2).length)), (25, .bx [.bs false 4 (List.map enc_isii p1), .bs false 4 (List.map enc_isii p2), .bs false 4 (List.map enc_isii p3)]), (26, .v (.int .i64 3)), (27, .v (.int .i64 1))], [(2, .arr 4 (List.map enc_isii (x5 ++ p1) ++ List.map enc_isii p2))]⟩) (C := ((((((List.map enc_isii x5 ++ List.map enc_isii p1).drop 0).take ((x5 ++ p1).length) = List.map enc_isii (x5 ++ p1)) ∧ True) ∧ (List.map enc_isii (x5 ++ p1)).length + (List.map enc_isii p2).length ≤ 1099511627776) ∧ (AV.sl 2 0 (List.map enc_isii (x5 ++ p1) ++ List.map enc_isii p2).length = AV.sl 2 0 ((x5 ++ p1) ++ p2).length)) ∧ True) (by kernel_rfl) ⟨⟨⟨⟨(dt_all (enc := enc_isii) (app_can (enc := enc_isii) rfl (rfl) : List.map enc_isii x5 ++ List.map enc_isii p1 = List.map enc_isii (x5 ++ p1)) rfl), trivial⟩, (by simp only [List.length_map, List.length_nil, List.length_replicate]; simpa using g7)⟩, sl_len (enc := enc_isii) (app_can (enc := enc_isii) rfl (rfl))⟩, trivial⟩ trivial ?_
        refine AX.reg (its := [.auto { raw := true }]) [6, 25, 26, 27] [2] (s1 := ⟨[(6, .sl 2 0 (((x5 ++ p1) ++ p2).length)), (25, .bx [.bs false 4 (List.map enc_isii p1), .bs false 4 (List.map enc_isii p2), .bs false 4 (List.map enc_isii p3)]), (26, .v (.int .i64 3)), (27, .v (.int .i64 2))], [(2, .arr 4 (List.map enc_isii (x5 ++ p1) ++ List.map enc_isii p2))]⟩) (C := True) (by kernel_rfl) trivial trivial ?_
        refine AXL.step ?_
        refine AX.seq ?_
        refine AX.reg (its := []) [6, 25, 26, 27, 28] [2] (s1 := ⟨[(6, .sl 2 0 (((x5 ++ p1) ++ p2).length)), (25, .bx [.bs false 4 (List.map enc_isii p1), .bs false 4 (List.map enc_isii p2), .bs false 4 (List.map enc_isii p3)]), (26, .v (.int .i64 3)), (27, .v (.int .i64 2)), (28, .v (.bool true))], [(2, .arr 4 (List.map enc_isii (x5 ++ p1) ++ List.map enc_isii p2))]⟩) (C := True) (by kernel_rfl) trivial trivial ?_
        refine AX.seq ?_
        refine AX.cond_true (by kernel_rfl) ?_
        refine AX.skip ?_
        refine AX.seq ?_
        refine AX.block ?_
        refine AX.seq ?_
        refine AX.reg (its := []) [6, 8, 25, 26, 27] [2] (s1 := ⟨[(6, .sl 2 0 (((x5 ++ p1) ++ p2).length)), (8, .bs false 4 (List.map enc_isii p3)), (25, .bx [.bs false 4 (List.map enc_isii p1), .bs false 4 (List.map enc_isii p2), .bs false 4 (List.map enc_isii p3)]), (26, .v (.int .i64 3)), (27, .v (.int .i64 2))], [(2, .arr 4 (List.map enc_isii (x5 ++ p1) ++ List.map enc_isii p2))]⟩) (C := ((0 : Int) ≤ 2 ∧ (2 : Int) < ((3 : Nat) : Int)) ∧ True) (by kernel_rfl) ⟨(by decide), trivial⟩ trivial ?_
        obtain ⟨g8, h⟩ := gd_e h
        refine AX.reg (its := [.auto {}, .auto {}, .auto { y := some (.sl 3 0 ((((x5 ++ p1) ++ p2) ++ p3).length)), els := some (List.map enc_isii ((x5 ++ p1) ++ p2)), nk := 3 }]) [6, 25, 26, 27] [3] (s1 := ⟨[(6, .sl 3 0 ((((x5 ++ p1) ++ p2) ++ p3).length)), (25, .bx [.bs false 4 (List.map enc_isii p1), .bs false 4 (List.map enc_isii p2), .bs false 4 (List.map enc_isii p3)]), (26, .v (.int .i64 3)), (27, .v (.int .i64 2))], [(3, .arr 4 (List.map enc_isii ((x5 ++ p1) ++ p2) ++ List.map enc_isii p3))]⟩) (C := ((((((List.map enc_isii (x5 ++ p1) ++ List.map enc_isii p2).drop 0).take (((x5 ++ p1) ++ p2).length) = List.map enc_isii ((x5 ++ p1) ++ p2)) ∧ True) ∧ (List.map enc_isii ((x5 ++ p1) ++ p2)).length + (List.map enc_isii p3).length ≤ 1099511627776) ∧ (AV.sl 3 0 (List.map enc_isii ((x5 ++ p1) ++ p2) ++ List.map enc_isii p3).length = AV.sl 3 0 (((x5 ++ p1) ++ p2) ++ p3).length)) ∧ True) (by kernel_rfl) ⟨⟨⟨⟨(dt_all (enc := enc_isii) (app_can (enc := enc_isii) rfl (rfl) : List.map enc_isii (x5 ++ p1) ++ List.map enc_isii p2 = List.map enc_isii ((x5 ++ p1) ++ p2)) rfl), trivial⟩, (by simp only [List.length_map, List.length_nil, List.length_replicate]; simpa using g8)⟩, sl_len (enc := enc_isii) (app_can (enc := enc_isii) rfl (rfl))⟩, trivial⟩ trivial ?_
        refine AX.reg (its := [.auto { raw := true }]) [6, 25, 26, 27] [3] (s1 := ⟨[(6, .sl 3 0 ((((x5 ++ p1) ++ p2) ++ p3).length)), (25, .bx [.bs false 4 (List.map enc_isii p1), .bs false 4 (List.map enc_isii p2), .bs false 4 (List.map enc_isii p3)]), (26, .v (.int .i64 3)), (27, .v (.int .i64 3))], [(3, .arr 4 (List.map enc_isii ((x5 ++ p1) ++ p2) ++ List.map enc_isii p3))]⟩) (C := True) (by kernel_rfl) trivial trivial ?_
        refine AXL.step ?_
        refine AX.seq ?_
        refine AX.reg (its := []) [6, 25, 26, 27, 28] [3] (s1 := ⟨[(6, .sl 3 0 ((((x5 ++ p1) ++ p2) ++ p3).length)), (25, .bx [.bs false 4 (List.map enc_isii p1), .bs false 4 (List.map enc_isii p2), .bs false 4 (List.map enc_isii p3)]), (26, .v (.int .i64 3)), (27, .v (.int .i64 3)), (28, .v (.bool false))], [(3, .arr 4 (List.map enc_isii ((x5 ++ p1) ++ p2) ++ List.map enc_isii p3))]⟩) (C := True) (by kernel_rfl) trivial trivial ?_
        refine AX.seq ?_
        refine AX.cond_false (by kernel_rfl) ?_
        refine AX.exit ?_
        refine AX.seq ?_
        refine AX.reg (its := []) [2] [3] (s1 := ⟨[(2, .sl 3 0 ((((x5 ++ p1) ++ p2) ++ p3).length))], [(3, .arr 4 (List.map enc_isii ((x5 ++ p1) ++ p2) ++ List.map enc_isii p3))]⟩) (C := True) (by kernel_rfl) trivial trivial ?_
        refine AX.ret ?_
        refine fin_wk (Wk.swap 0 3 (Nat.le_of_ble_eq_true (by kernel_rfl)) (Nat.le_of_ble_eq_true (by kernel_rfl)) rfl) ?_
        refine fin_wk (Wk.forget [2] [0] (s' := ⟨[(2, .sl 0 0 ((((x5 ++ p1) ++ p2) ++ p3).length))], [(0, .arr 4 (List.map enc_isii ((x5 ++ p1) ++ p2) ++ List.map enc_isii p3))]⟩) (by kernel_rfl)) ?_
        refine fin_wk (Wk.of_eq (congrArg (fun z => (⟨[(2, .sl 0 0 ((((x5 ++ p1) ++ p2) ++ p3).length))], [(0, .arr 4 (z))]⟩ : S)) (app_can (enc := enc_isii) rfl (rfl) : List.map enc_isii ((x5 ++ p1) ++ p2) ++ List.map enc_isii p3 = List.map enc_isii (((x5 ++ p1) ++ p2) ++ p3)))) ?_
        have hr := Option.some.inj h
        subst hr
        exact ⟨_, Wk.refl _, .inr rfl, ⟨[0], by kernel_rfl, ⟨rfl, trivial⟩, [.sl 0 0 ((((x5 ++ p1) ++ p2) ++ p3).length)], by kernel_rfl, by kernel_rfl⟩⟩

theorem s_slices_Clip_isii (p1 : List (Int × ByteArray × Int × Int)) (r : Unit) (h : m_slices_Clip_isii p1 = some r) :
    Eng.Spec Try.prog 41 [.bs false 4 (List.map enc_isii p1)] [] (.bs false 4 (List.map enc_isii (sub p1 (0 : Int) (p1.length : Int)))) [] := by
  unfold m_slices_Clip_isii at h
  refine Eng.Spec.body Try.func41 (by kernel_rfl) rfl (by kernel_rfl) ?_
  refine AX.wkpost ?_
  refine AX.seq ?_
  refine AX.reg (its := []) [0] [] (s1 := ⟨[(0, .bs false 4 (List.map enc_isii p1))], []⟩) (C := True) (by kernel_rfl) trivial trivial ?_
  refine AX.seq ?_
  obtain ⟨g1, h⟩ := gd_e h
  refine AX.reg (its := [.auto {}, .auto {}, .auto { y := some (.v (.int .i64 (p1.length : Int))) }, .auto {}, .auto { y := some (.v (.int .i64 (p1.length : Int))) }, .auto { y := some (.bs false 4 (List.map enc_isii (sub p1 (0 : Int) (p1.length : Int)))) }]) [2] [] (s1 := ⟨[(2, .bs false 4 (List.map enc_isii (sub p1 (0 : Int) (p1.length : Int))))], []⟩) (C := (True ∧ (AV.v (.int .i64 ((List.map enc_isii p1).length : Int)) = AV.v (.int .i64 (p1.length : Int)))) ∧ (True ∧ (AV.v (.int .i64 ((List.map enc_isii p1).length : Int)) = AV.v (.int .i64 (p1.length : Int)))) ∧ ((0 ≤ (0 : Int) ∧ (0 : Int) ≤ (p1.length : Int) ∧ (p1.length : Int) ≤ (p1.length : Int) ∧ (p1.length : Int) ≤ ((List.map enc_isii p1).length : Int)) ∧ (AV.bs false 4 (((List.map enc_isii p1).drop (0 : Int).toNat).take ((p1.length : Int).toNat - (0 : Int).toNat)) = (.bs false 4 (List.map enc_isii (sub p1 (0 : Int) (p1.length : Int))) : AV))) ∧ True) (by kernel_rfl) ⟨⟨trivial, len_map enc_isii p1⟩, ⟨⟨trivial, len_map enc_isii p1⟩, ⟨⟨by first | exact g1 | simpa only [List.length_map] using g1, by first | exact sub_can enc_isii p1 (0 : Int) (p1.length : Int) false 4 | (simp only [List.length_map]; exact sub_can enc_isii p1 (0 : Int) (p1.length : Int) false 4)⟩, trivial⟩⟩⟩ trivial ?_
  refine AX.ret ?_
  refine fin_wk (Wk.forget [2] [] (s' := ⟨[(2, .bs false 4 (List.map enc_isii (sub p1 (0 : Int) (p1.length : Int))))], []⟩) (by kernel_rfl)) ?_
  have hr := Option.some.inj h
  subst hr
  exact ⟨_, Wk.refl _, .inr rfl, ⟨[], by kernel_rfl, trivial, [.bs false 4 (List.map enc_isii (sub p1 (0 : Int) (p1.length : Int)))], by kernel_rfl, by kernel_rfl⟩⟩

theorem s_slices_Clip_hisii (p1 : List (Int × ByteArray × Int × Int)) (r : Unit) (h : m_slices_Clip_hisii p1 = some r) :
    Eng.Spec Try.prog 41 [.sl 0 0 p1.length] [.arr 4 (List.map enc_isii p1)] (.sl 0 0 p1.length) [.arr 4 (List.map enc_isii p1)] := by
  unfold m_slices_Clip_hisii at h
  refine Eng.Spec.body Try.func41 (by kernel_rfl) rfl (by kernel_rfl) ?_
  refine AX.wkpost ?_
  refine AX.seq ?_
  refine AX.reg (its := []) [0] [0] (s1 := ⟨[(0, .sl 0 0 p1.length)], [(0, .arr 4 (List.map enc_isii p1))]⟩) (C := True) (by kernel_rfl) trivial trivial ?_
  refine AX.seq ?_
  refine AX.reg (its := [.auto {}, .auto {}, .auto {}, .auto {}, .auto {}, .auto { y := some (.sl 0 0 p1.length) }]) [2] [0] (s1 := ⟨[(2, .sl 0 0 p1.length)], [(0, .arr 4 (List.map enc_isii p1))]⟩) (C := ((0 ≤ (0 : Int) ∧ (0 : Int) ≤ (p1.length : Int) ∧ (p1.length : Int) ≤ (p1.length : Int) ∧ (p1.length : Int) ≤ (p1.length : Int)) ∧ (AV.sl 0 (0 + (0 : Int).toNat) ((p1.length : Int).toNat - (0 : Int).toNat) = AV.sl 0 0 p1.length)) ∧ True) (by kernel_rfl) ⟨⟨⟨by omega, by omega, by omega, by omega⟩, rfl⟩, trivial⟩ trivial ?_
  refine AX.ret ?_
  refine fin_wk (Wk.forget [2] [0] (s' := ⟨[(2, .sl 0 0 p1.length)], [(0, .arr 4 (List.map enc_isii p1))]⟩) (by kernel_rfl)) ?_
  have hr := Option.some.inj h
  subst hr
  exact ⟨_, Wk.refl _, .inr rfl, ⟨[], by kernel_rfl, ⟨rfl, trivial⟩, [.sl 0 0 p1.length], by kernel_rfl, by kernel_rfl⟩⟩

theorem s_impl_DiffEnums_L1 (p1 : List (ByteArray × Int)) (p2 : List (ByteArray × Int)) (n : Nat) (g : (List (Int × ByteArray × Int × Int)) × (List (Int × ByteArray × Int × Int)) × Int) (out : (List (Int × ByteArray × Int × Int)) × (List (Int × ByteArray × Int × Int))) (h : m_impl_DiffEnums_L1 p1 p2 n g.1 g.2.1 g.2.2 = some out) :
    AX Try.prog 97 0 (codeAt [1, 1, 1, 0, 1, 1] (bodyOf Try.f43)) ((fun g : (List (Int × ByteArray × Int × Int)) × (List (Int × ByteArray × Int × Int)) × Int => (⟨[(2, .pt 0 0), (3, .pt 1 0), (5, .sl 2 0 g.1.length), (6, .sl 3 0 g.2.1.length), (7, .v (.slice none 0 0)), (22, .bs false 2 (List.map enc_si p1)), (23, .v (.int .i64 (p1.length : Int))), (24, .v (.int .i64 g.2.2))], [(0, .box [.bs false 2 (List.map enc_si p1)]), (1, .box [.bs false 2 (List.map enc_si p2)]), (2, .arr 4 (List.map enc_isii g.1)), (3, .arr 4 (List.map enc_isii g.2.1))]⟩ : S)) g) (fun ex s => ex = .exit 0 ∧ s = (fun o : (List (Int × ByteArray × Int × Int)) × (List (Int × ByteArray × Int × Int)) => (⟨[(2, .pt 0 0), (3, .pt 1 0), (5, .sl 2 0 o.1.length), (6, .sl 3 0 o.2.length), (7, .v (.slice none 0 0))], [(0, .box [.bs false 2 (List.map enc_si p1)]), (1, .box [.bs false 2 (List.map enc_si p2)]), (2, .arr 4 (List.map enc_isii o.1)), (3, .arr 4 (List.map enc_isii o.2))]⟩ : S)) out) := by
  refine AX.wkpost ?_
  refine AX.loop (G := Nat × ((List (Int × ByteArray × Int × Int)) × (List (Int × ByteArray × Int × Int)) × Int)) (fun q => (fun g : (List (Int × ByteArray × Int × Int)) × (List (Int × ByteArray × Int × Int)) × Int => (⟨[(2, .pt 0 0), (3, .pt 1 0), (5, .sl 2 0 g.1.length), (6, .sl 3 0 g.2.1.length), (7, .v (.slice none 0 0)), (22, .bs false 2 (List.map enc_si p1)), (23, .v (.int .i64 (p1.length : Int))), (24, .v (.int .i64 g.2.2))], [(0, .box [.bs false 2 (List.map enc_si p1)]), (1, .box [.bs false 2 (List.map enc_si p2)]), (2, .arr 4 (List.map enc_isii g.1)), (3, .arr 4 (List.map enc_isii g.2.1))]⟩ : S)) q.2) (fun q => m_impl_DiffEnums_L1 p1 p2 q.1 q.2.1 q.2.2.1 q.2.2.2 = some out) (fun q => q.1) (n, g) h (Wk.refl _) ?_
  clear h
  rintro ⟨fu, v5, v6, v7⟩ h
  cases fu with
  | zero => cases h
  | succ fu =>
    rw [m_impl_DiffEnums_L1] at h
    refine AX.seq ?_
    refine AX.reg (its := []) [2, 3, 5, 6, 7, 22, 23, 24, 25] [0, 1, 2, 3] (s1 := ⟨[(2, .pt 0 0), (3, .pt 1 0), (5, .sl 2 0 v5.length), (6, .sl 3 0 v6.length), (7, .v (.slice none 0 0)), (22, .bs false 2 (List.map enc_si p1)), (23, .v (.int .i64 (p1.length : Int))), (24, .v (.int .i64 v7)), (25, .v (.bool (decide (v7 < (p1.length : Int)))))], [(0, .box [.bs false 2 (List.map enc_si p1)]), (1, .box [.bs false 2 (List.map enc_si p2)]), (2, .arr 4 (List.map enc_isii v5)), (3, .arr 4 (List.map enc_isii v6))]⟩) (C := True) (by kernel_rfl) trivial trivial ?_
    refine AX.seq ?_
    rcases bool_cases (decide (v7 < (p1.length : Int))) with b5 | b5
    · replace h := cd_t b5 h
      refine AX.condT (decide (v7 < (p1.length : Int))) (by kernel_rfl) b5 ?_
      refine AX.skip ?_
      refine AX.seq ?_
      refine AX.block ?_
      refine AX.seq ?_
      obtain ⟨g6, h⟩ := gd_e h
      refine AX.reg (its := [.auto { y := some (.be 2 (enc_si (gt p1 v7)) 0) }, .auto {}, .auto { nk := 4 }]) [2, 3, 5, 6, 7, 9, 22, 23, 24] [0, 1, 2, 3, 4] (s1 := ⟨[(2, .pt 0 0), (3, .pt 1 0), (5, .sl 2 0 v5.length), (6, .sl 3 0 v6.length), (7, .v (.slice none 0 0)), (9, .pt 4 0), (22, .bs false 2 (List.map enc_si p1)), (23, .v (.int .i64 (p1.length : Int))), (24, .v (.int .i64 v7))], [(0, .box [.bs false 2 (List.map enc_si p1)]), (1, .box [.bs false 2 (List.map enc_si p2)]), (2, .arr 4 (List.map enc_isii v5)), (3, .arr 4 (List.map enc_isii v6)), (4, .box [.v (.string ((gt p1 v7).1)), .v (.int .i64 ((gt p1 v7).2))])]⟩) (C := ((0 ≤ v7 ∧ v7 < ((List.map enc_si p1).length : Int)) ∧ (AV.be 2 ((List.map enc_si p1).getD v7.toNat []) 0 = AV.be 2 (enc_si (gt p1 v7)) 0)) ∧ True) (by kernel_rfl) ⟨idx_bs enc_si p1 v7 2 g6, trivial⟩ trivial ?_
      refine AX.seq ?_
      obtain ⟨x8, e7, h⟩ := bd_e h
      refine AX.reg (its := [.auto {}, .auto {}, .auto {}, .auto {}, .call 68 [.bs false 2 (List.map enc_si p2), .v (.string ((gt p1 v7).1))] (handO (rho ([] ++ [])) [] [] ++ []) (callEv [] [] (.v (.int .i64 x8)) [])]) [2, 3, 5, 6, 7, 9, 10, 22, 23, 24] [0, 1, 2, 3, 4] (s1 := ⟨[(2, .pt 0 0), (3, .pt 1 0), (5, .sl 2 0 v5.length), (6, .sl 3 0 v6.length), (7, .v (.slice none 0 0)), (9, .pt 4 0), (10, .v (.int .i64 x8)), (22, .bs false 2 (List.map enc_si p1)), (23, .v (.int .i64 (p1.length : Int))), (24, .v (.int .i64 v7))], [(0, .box [.bs false 2 (List.map enc_si p1)]), (1, .box [.bs false 2 (List.map enc_si p2)]), (2, .arr 4 (List.map enc_isii v5)), (3, .arr 4 (List.map enc_isii v6)), (4, .box [.v (.string ((gt p1 v7).1)), .v (.int .i64 ((gt p1 v7).2))])]⟩) (C := ((([.bs false 2 (List.map enc_si p2), .v (.string ((gt p1 v7).1))] : List AV) = [.bs false 2 (List.map enc_si p2), .v (.string ((gt p1 v7).1))]) ∧ True) ∧ True) (by kernel_rfl) ⟨⟨rfl, trivial⟩, trivial⟩ ⟨call_ok (ks := []) (ns := []) (bor := []) (bobjs := []) (s_impl_named p2 ((gt p1 v7).1) x8 e7) (.cons (.c1 (.c0 (.same _ (by kernel_rfl) (by kernel_rfl)))) (.cons (.c1 (.c0 (.same _ (by kernel_rfl) (by kernel_rfl)))) (.nil))) (by kernel_rfl) trivial, trivial⟩ ?_
      refine AX.block ?_
      refine AX.seq ?_
      refine AX.reg (its := []) [2, 3, 5, 6, 7, 9, 10, 22, 23, 24, 33] [0, 1, 2, 3, 4] (s1 := ⟨[(2, .pt 0 0), (3, .pt 1 0), (5, .sl 2 0 v5.length), (6, .sl 3 0 v6.length), (7, .v (.slice none 0 0)), (9, .pt 4 0), (10, .v (.int .i64 x8)), (22, .bs false 2 (List.map enc_si p1)), (23, .v (.int .i64 (p1.length : Int))), (24, .v (.int .i64 v7)), (33, .v (.bool (decide (x8 < 0))))], [(0, .box [.bs false 2 (List.map enc_si p1)]), (1, .box [.bs false 2 (List.map enc_si p2)]), (2, .arr 4 (List.map enc_isii v5)), (3, .arr 4 (List.map enc_isii v6)), (4, .box [.v (.string ((gt p1 v7).1)), .v (.int .i64 ((gt p1 v7).2))])]⟩) (C := True) (by kernel_rfl) trivial trivial ?_
      rcases bool_cases (decide (x8 < 0)) with b8 | b8
      · replace h := cd_t b8 h
        refine AX.condT (decide (x8 < 0)) (by kernel_rfl) b8 ?_
        obtain ⟨g9, h⟩ := gd_e h
        refine AX.reg (its := [.auto {}, .auto {}, .auto {}, .auto {}, .auto {}, .auto {}, .auto { nk := 5 }, .auto { y := some (.sl 6 0 ((v5 ++ ([(1, (gt p1 v7).1, (gt p1 v7).2, 0)] : List (Int × ByteArray × Int × Int))).length)), els := some (List.map enc_isii v5), els2 := some (List.map enc_isii ([(1, (gt p1 v7).1, (gt p1 v7).2, 0)] : List (Int × ByteArray × Int × Int))), nk := 6 }]) [2, 3, 5, 6, 7, 22, 23, 24] [0, 1, 3, 6] (s1 := ⟨[(2, .pt 0 0), (3, .pt 1 0), (5, .sl 6 0 ((v5 ++ ([(1, (gt p1 v7).1, (gt p1 v7).2, 0)] : List (Int × ByteArray × Int × Int))).length)), (6, .sl 3 0 v6.length), (7, .v (.slice none 0 0)), (22, .bs false 2 (List.map enc_si p1)), (23, .v (.int .i64 (p1.length : Int))), (24, .v (.int .i64 v7))], [(0, .box [.bs false 2 (List.map enc_si p1)]), (1, .box [.bs false 2 (List.map enc_si p2)]), (3, .arr 4 (List.map enc_isii v6)), (6, .arr 4 (List.map enc_isii v5 ++ List.map enc_isii ([(1, (gt p1 v7).1, (gt p1 v7).2, 0)] : List (Int × ByteArray × Int × Int))))]⟩) (C := ((((((List.map enc_isii v5).drop 0).take (v5.length) = List.map enc_isii v5) ∧ (((List.map enc_isii ([(1, (gt p1 v7).1, (gt p1 v7).2, 0)] : List (Int × ByteArray × Int × Int))).drop 0).take (([(1, (gt p1 v7).1, (gt p1 v7).2, 0)] : List (Int × ByteArray × Int × Int)).length) = List.map enc_isii ([(1, (gt p1 v7).1, (gt p1 v7).2, 0)] : List (Int × ByteArray × Int × Int)))) ∧ (List.map enc_isii v5).length + (List.map enc_isii ([(1, (gt p1 v7).1, (gt p1 v7).2, 0)] : List (Int × ByteArray × Int × Int))).length ≤ 1099511627776) ∧ (AV.sl 6 0 (List.map enc_isii v5 ++ List.map enc_isii ([(1, (gt p1 v7).1, (gt p1 v7).2, 0)] : List (Int × ByteArray × Int × Int))).length = AV.sl 6 0 (v5 ++ ([(1, (gt p1 v7).1, (gt p1 v7).2, 0)] : List (Int × ByteArray × Int × Int))).length)) ∧ True) (by kernel_rfl) ⟨⟨⟨⟨(dt_all (enc := enc_isii) rfl rfl), (dt_all (enc := enc_isii) rfl rfl)⟩, (by simp only [List.length_map, List.length_nil, List.length_replicate]; simpa using g9)⟩, sl_len (enc := enc_isii) (app_can (enc := enc_isii) rfl (rfl))⟩, trivial⟩ trivial ?_
        refine AX.reg (its := [.auto { raw := true }]) [2, 3, 5, 6, 7, 22, 23, 24] [0, 1, 3, 6] (s1 := ⟨[(2, .pt 0 0), (3, .pt 1 0), (5, .sl 6 0 ((v5 ++ ([(1, (gt p1 v7).1, (gt p1 v7).2, 0)] : List (Int × ByteArray × Int × Int))).length)), (6, .sl 3 0 v6.length), (7, .v (.slice none 0 0)), (22, .bs false 2 (List.map enc_si p1)), (23, .v (.int .i64 (p1.length : Int))), (24, .v (.int .i64 (IntKind.wrap .i64 (v7 + 1))))], [(0, .box [.bs false 2 (List.map enc_si p1)]), (1, .box [.bs false 2 (List.map enc_si p2)]), (3, .arr 4 (List.map enc_isii v6)), (6, .arr 4 (List.map enc_isii v5 ++ List.map enc_isii ([(1, (gt p1 v7).1, (gt p1 v7).2, 0)] : List (Int × ByteArray × Int × Int))))]⟩) (C := True) (by kernel_rfl) trivial trivial ?_
        refine ⟨(fu, (v5 ++ ([(1, (gt p1 v7).1, (gt p1 v7).2, 0)] : List (Int × ByteArray × Int × Int)), v6, IntKind.wrap .i64 (v7 + 1))), h, Nat.lt_succ_self _, ?_⟩
        refine Wk.trans (Wk.swap 2 6 (Nat.le_of_ble_eq_true (by kernel_rfl)) (Nat.le_of_ble_eq_true (by kernel_rfl)) rfl) ?_
        refine Wk.trans (Wk.forget [2, 3, 5, 6, 7, 22, 23, 24] [0, 1, 2, 3] (s' := ⟨[(2, .pt 0 0), (3, .pt 1 0), (5, .sl 2 0 ((v5 ++ ([(1, (gt p1 v7).1, (gt p1 v7).2, 0)] : List (Int × ByteArray × Int × Int))).length)), (6, .sl 3 0 v6.length), (7, .v (.slice none 0 0)), (22, .bs false 2 (List.map enc_si p1)), (23, .v (.int .i64 (p1.length : Int))), (24, .v (.int .i64 (IntKind.wrap .i64 (v7 + 1))))], [(0, .box [.bs false 2 (List.map enc_si p1)]), (1, .box [.bs false 2 (List.map enc_si p2)]), (2, .arr 4 (List.map enc_isii v5 ++ List.map enc_isii ([(1, (gt p1 v7).1, (gt p1 v7).2, 0)] : List (Int × ByteArray × Int × Int)))), (3, .arr 4 (List.map enc_isii v6))]⟩) (by kernel_rfl)) ?_
        refine Wk.trans (Wk.of_eq (congrArg (fun z => (⟨[(2, .pt 0 0), (3, .pt 1 0), (5, .sl 2 0 ((v5 ++ ([(1, (gt p1 v7).1, (gt p1 v7).2, 0)] : List (Int × ByteArray × Int × Int))).length)), (6, .sl 3 0 v6.length), (7, .v (.slice none 0 0)), (22, .bs false 2 (List.map enc_si p1)), (23, .v (.int .i64 (p1.length : Int))), (24, .v (.int .i64 (IntKind.wrap .i64 (v7 + 1))))], [(0, .box [.bs false 2 (List.map enc_si p1)]), (1, .box [.bs false 2 (List.map enc_si p2)]), (2, .arr 4 (z)), (3, .arr 4 (List.map enc_isii v6))]⟩ : S)) (app_can (enc := enc_isii) rfl (rfl) : List.map enc_isii v5 ++ List.map enc_isii ([(1, (gt p1 v7).1, (gt p1 v7).2, 0)] : List (Int × ByteArray × Int × Int)) = List.map enc_isii (v5 ++ ([(1, (gt p1 v7).1, (gt p1 v7).2, 0)] : List (Int × ByteArray × Int × Int)))))) ?_
        exact Wk.refl _
      · replace h := cd_f b8 h
        refine AX.condF (decide (x8 < 0)) (by kernel_rfl) b8 ?_
        refine AX.seq ?_
        obtain ⟨g10, h⟩ := gd_e h
        refine AX.drw mixed (its := [.auto {}, .auto {}, .auto {}, .auto { y := some (.be 2 (enc_si (gt p2 x8)) 0) }]) [2, 3, 5, 6, 7, 9, 10, 22, 23, 24, 44] [0, 1, 2, 3, 4] (s1 := ⟨[(2, .pt 0 0), (3, .pt 1 0), (5, .sl 2 0 v5.length), (6, .sl 3 0 v6.length), (7, .v (.slice none 0 0)), (9, .pt 4 0), (10, .v (.int .i64 x8)), (22, .bs false 2 (List.map enc_si p1)), (23, .v (.int .i64 (p1.length : Int))), (24, .v (.int .i64 v7)), (44, .v (.bool (!decide (((gt p2 x8).2) = ((gt p1 v7).2)))))], [(0, .box [.bs false 2 (List.map enc_si p1)]), (1, .box [.bs false 2 (List.map enc_si p2)]), (2, .arr 4 (List.map enc_isii v5)), (3, .arr 4 (List.map enc_isii v6)), (4, .box [.v (.string ((gt p1 v7).1)), .v (.int .i64 ((gt p1 v7).2))])]⟩) (C := ((0 ≤ x8 ∧ x8 < ((List.map enc_si p2).length : Int)) ∧ (AV.be 2 ((List.map enc_si p2).getD x8.toNat []) 0 = AV.be 2 (enc_si (gt p2 x8)) 0)) ∧ True) (by kernel_rfl) ⟨idx_bs enc_si p2 x8 2 g10, trivial⟩ trivial ?_
        rcases bool_cases ((!decide (((gt p2 x8).2) = ((gt p1 v7).2)))) with b11 | b11
        · replace h := cd_t b11 h
          refine AX.condT ((!decide (((gt p2 x8).2) = ((gt p1 v7).2)))) (by kernel_rfl) b11 ?_
          obtain ⟨g12, h⟩ := gd_e h
          refine AX.drw mixed (its := [.auto {}, .auto {}, .auto {}, .auto {}, .auto {}, .auto {}, .auto {}, .auto {}, .auto { y := some (.be 2 (enc_si (gt p2 x8)) 0) }, .auto {}, .auto {}, .auto {}, .auto { nk := 5 }, .auto { y := some (.sl 6 0 ((v6 ++ ([(2, (gt p1 v7).1, (gt p1 v7).2, (gt p2 x8).2)] : List (Int × ByteArray × Int × Int))).length)), els := some (List.map enc_isii v6), els2 := some (List.map enc_isii ([(2, (gt p1 v7).1, (gt p1 v7).2, (gt p2 x8).2)] : List (Int × ByteArray × Int × Int))), nk := 6 }]) [2, 3, 5, 6, 7, 22, 23, 24] [0, 1, 2, 6] (s1 := ⟨[(2, .pt 0 0), (3, .pt 1 0), (5, .sl 2 0 v5.length), (6, .sl 6 0 ((v6 ++ ([(2, (gt p1 v7).1, (gt p1 v7).2, (gt p2 x8).2)] : List (Int × ByteArray × Int × Int))).length)), (7, .v (.slice none 0 0)), (22, .bs false 2 (List.map enc_si p1)), (23, .v (.int .i64 (p1.length : Int))), (24, .v (.int .i64 v7))], [(0, .box [.bs false 2 (List.map enc_si p1)]), (1, .box [.bs false 2 (List.map enc_si p2)]), (2, .arr 4 (List.map enc_isii v5)), (6, .arr 4 (List.map enc_isii v6 ++ List.map enc_isii ([(2, (gt p1 v7).1, (gt p1 v7).2, (gt p2 x8).2)] : List (Int × ByteArray × Int × Int))))]⟩) (C := ((0 ≤ x8 ∧ x8 < ((List.map enc_si p2).length : Int)) ∧ (AV.be 2 ((List.map enc_si p2).getD x8.toNat []) 0 = AV.be 2 (enc_si (gt p2 x8)) 0)) ∧ ((((((List.map enc_isii v6).drop 0).take (v6.length) = List.map enc_isii v6) ∧ (((List.map enc_isii ([(2, (gt p1 v7).1, (gt p1 v7).2, (gt p2 x8).2)] : List (Int × ByteArray × Int × Int))).drop 0).take (([(2, (gt p1 v7).1, (gt p1 v7).2, (gt p2 x8).2)] : List (Int × ByteArray × Int × Int)).length) = List.map enc_isii ([(2, (gt p1 v7).1, (gt p1 v7).2, (gt p2 x8).2)] : List (Int × ByteArray × Int × Int)))) ∧ (List.map enc_isii v6).length + (List.map enc_isii ([(2, (gt p1 v7).1, (gt p1 v7).2, (gt p2 x8).2)] : List (Int × ByteArray × Int × Int))).length ≤ 1099511627776) ∧ (AV.sl 6 0 (List.map enc_isii v6 ++ List.map enc_isii ([(2, (gt p1 v7).1, (gt p1 v7).2, (gt p2 x8).2)] : List (Int × ByteArray × Int × Int))).length = AV.sl 6 0 (v6 ++ ([(2, (gt p1 v7).1, (gt p1 v7).2, (gt p2 x8).2)] : List (Int × ByteArray × Int × Int))).length)) ∧ True) (by kernel_rfl) ⟨idx_bs enc_si p2 x8 2 g10, ⟨⟨⟨⟨(dt_all (enc := enc_isii) rfl rfl), (dt_all (enc := enc_isii) rfl rfl)⟩, (by simp only [List.length_map, List.length_nil, List.length_replicate]; simpa using g12)⟩, sl_len (enc := enc_isii) (app_can (enc := enc_isii) rfl (rfl))⟩, trivial⟩⟩ trivial ?_
          refine AX.reg (its := [.auto { raw := true }]) [2, 3, 5, 6, 7, 22, 23, 24] [0, 1, 2, 6] (s1 := ⟨[(2, .pt 0 0), (3, .pt 1 0), (5, .sl 2 0 v5.length), (6, .sl 6 0 ((v6 ++ ([(2, (gt p1 v7).1, (gt p1 v7).2, (gt p2 x8).2)] : List (Int × ByteArray × Int × Int))).length)), (7, .v (.slice none 0 0)), (22, .bs false 2 (List.map enc_si p1)), (23, .v (.int .i64 (p1.length : Int))), (24, .v (.int .i64 (IntKind.wrap .i64 (v7 + 1))))], [(0, .box [.bs false 2 (List.map enc_si p1)]), (1, .box [.bs false 2 (List.map enc_si p2)]), (2, .arr 4 (List.map enc_isii v5)), (6, .arr 4 (List.map enc_isii v6 ++ List.map enc_isii ([(2, (gt p1 v7).1, (gt p1 v7).2, (gt p2 x8).2)] : List (Int × ByteArray × Int × Int))))]⟩) (C := True) (by kernel_rfl) trivial trivial ?_
          refine ⟨(fu, (v5, v6 ++ ([(2, (gt p1 v7).1, (gt p1 v7).2, (gt p2 x8).2)] : List (Int × ByteArray × Int × Int)), IntKind.wrap .i64 (v7 + 1))), h, Nat.lt_succ_self _, ?_⟩
          refine Wk.trans (Wk.swap 3 6 (Nat.le_of_ble_eq_true (by kernel_rfl)) (Nat.le_of_ble_eq_true (by kernel_rfl)) rfl) ?_
          refine Wk.trans (Wk.forget [2, 3, 5, 6, 7, 22, 23, 24] [0, 1, 2, 3] (s' := ⟨[(2, .pt 0 0), (3, .pt 1 0), (5, .sl 2 0 v5.length), (6, .sl 3 0 ((v6 ++ ([(2, (gt p1 v7).1, (gt p1 v7).2, (gt p2 x8).2)] : List (Int × ByteArray × Int × Int))).length)), (7, .v (.slice none 0 0)), (22, .bs false 2 (List.map enc_si p1)), (23, .v (.int .i64 (p1.length : Int))), (24, .v (.int .i64 (IntKind.wrap .i64 (v7 + 1))))], [(0, .box [.bs false 2 (List.map enc_si p1)]), (1, .box [.bs false 2 (List.map enc_si p2)]), (2, .arr 4 (List.map enc_isii v5)), (3, .arr 4 (List.map enc_isii v6 ++ List.map enc_isii ([(2, (gt p1 v7).1, (gt p1 v7).2, (gt p2 x8).2)] : List (Int × ByteArray × Int × Int))))]⟩) (by kernel_rfl)) ?_
          refine Wk.trans (Wk.of_eq (congrArg (fun z => (⟨[(2, .pt 0 0), (3, .pt 1 0), (5, .sl 2 0 v5.length), (6, .sl 3 0 ((v6 ++ ([(2, (gt p1 v7).1, (gt p1 v7).2, (gt p2 x8).2)] : List (Int × ByteArray × Int × Int))).length)), (7, .v (.slice none 0 0)), (22, .bs false 2 (List.map enc_si p1)), (23, .v (.int .i64 (p1.length : Int))), (24, .v (.int .i64 (IntKind.wrap .i64 (v7 + 1))))], [(0, .box [.bs false 2 (List.map enc_si p1)]), (1, .box [.bs false 2 (List.map enc_si p2)]), (2, .arr 4 (List.map enc_isii v5)), (3, .arr 4 (z))]⟩ : S)) (app_can (enc := enc_isii) rfl (rfl) : List.map enc_isii v6 ++ List.map enc_isii ([(2, (gt p1 v7).1, (gt p1 v7).2, (gt p2 x8).2)] : List (Int × ByteArray × Int × Int)) = List.map enc_isii (v6 ++ ([(2, (gt p1 v7).1, (gt p1 v7).2, (gt p2 x8).2)] : List (Int × ByteArray × Int × Int)))))) ?_
          exact Wk.refl _
        · replace h := cd_f b11 h
          refine AX.condF ((!decide (((gt p2 x8).2) = ((gt p1 v7).2)))) (by kernel_rfl) b11 ?_
          refine AX.skip ?_
          refine AX.reg (its := [.auto { raw := true }]) [2, 3, 5, 6, 7, 22, 23, 24] [0, 1, 2, 3] (s1 := ⟨[(2, .pt 0 0), (3, .pt 1 0), (5, .sl 2 0 v5.length), (6, .sl 3 0 v6.length), (7, .v (.slice none 0 0)), (22, .bs false 2 (List.map enc_si p1)), (23, .v (.int .i64 (p1.length : Int))), (24, .v (.int .i64 (IntKind.wrap .i64 (v7 + 1))))], [(0, .box [.bs false 2 (List.map enc_si p1)]), (1, .box [.bs false 2 (List.map enc_si p2)]), (2, .arr 4 (List.map enc_isii v5)), (3, .arr 4 (List.map enc_isii v6))]⟩) (C := True) (by kernel_rfl) trivial trivial ?_
          refine ⟨(fu, (v5, v6, IntKind.wrap .i64 (v7 + 1))), h, Nat.lt_succ_self _, ?_⟩
          refine Wk.trans (Wk.forget [2, 3, 5, 6, 7, 22, 23, 24] [0, 1, 2, 3] (s' := ⟨[(2, .pt 0 0), (3, .pt 1 0), (5, .sl 2 0 v5.length), (6, .sl 3 0 v6.length), (7, .v (.slice none 0 0)), (22, .bs false 2 (List.map enc_si p1)), (23, .v (.int .i64 (p1.length : Int))), (24, .v (.int .i64 (IntKind.wrap .i64 (v7 + 1))))], [(0, .box [.bs false 2 (List.map enc_si p1)]), (1, .box [.bs false 2 (List.map enc_si p2)]), (2, .arr 4 (List.map enc_isii v5)), (3, .arr 4 (List.map enc_isii v6))]⟩) (by kernel_rfl)) ?_
          exact Wk.refl _
    · replace h := cd_f b5 h
      refine AX.condF (decide (v7 < (p1.length : Int))) (by kernel_rfl) b5 ?_
      refine AX.exit ?_
      refine fin_wk (Wk.forget [2, 3, 5, 6, 7] [0, 1, 2, 3] (s' := ⟨[(2, .pt 0 0), (3, .pt 1 0), (5, .sl 2 0 v5.length), (6, .sl 3 0 v6.length), (7, .v (.slice none 0 0))], [(0, .box [.bs false 2 (List.map enc_si p1)]), (1, .box [.bs false 2 (List.map enc_si p2)]), (2, .arr 4 (List.map enc_isii v5)), (3, .arr 4 (List.map enc_isii v6))]⟩) (by kernel_rfl)) ?_
      have hr := Option.some.inj h
      subst hr
      exact ⟨_, Wk.refl _, ⟨rfl, rfl⟩⟩

theorem s_impl_DiffEnums_L2 (p1 : List (ByteArray × Int)) (p2 : List (ByteArray × Int)) (x9 : (List (Int × ByteArray × Int × Int)) × (List (Int × ByteArray × Int × Int))) (n : Nat) (g : (List (Int × ByteArray × Int × Int)) × Int) (out : List (Int × ByteArray × Int × Int)) (h : m_impl_DiffEnums_L2 p1 p2 x9 n g.1 g.2 = some out) :
    AX Try.prog 97 0 (codeAt [1, 1, 1, 1, 0, 1, 1] (bodyOf Try.f43)) ((fun g : (List (Int × ByteArray × Int × Int)) × Int => (⟨[(2, .pt 0 0), (5, .sl 1 0 x9.1.length), (6, .sl 2 0 x9.2.length), (7, .sl 3 0 g.1.length), (70, .bs false 2 (List.map enc_si p2)), (71, .v (.int .i64 (p2.length : Int))), (72, .v (.int .i64 g.2))], [(0, .box [.bs false 2 (List.map enc_si p1)]), (1, .arr 4 (List.map enc_isii x9.1)), (2, .arr 4 (List.map enc_isii x9.2)), (3, .arr 4 (List.map enc_isii g.1))]⟩ : S)) g) (fun ex s => ex = .exit 3 ∧ s = (fun o : List (Int × ByteArray × Int × Int) => (⟨[(5, .sl 0 0 x9.1.length), (6, .sl 1 0 x9.2.length), (7, .sl 2 0 o.length)], [(0, .arr 4 (List.map enc_isii x9.1)), (1, .arr 4 (List.map enc_isii x9.2)), (2, .arr 4 (List.map enc_isii o))]⟩ : S)) out) := by
  refine AX.wkpost ?_
  refine AX.loop (G := Nat × ((List (Int × ByteArray × Int × Int)) × Int)) (fun q => (fun g : (List (Int × ByteArray × Int × Int)) × Int => (⟨[(2, .pt 0 0), (5, .sl 1 0 x9.1.length), (6, .sl 2 0 x9.2.length), (7, .sl 3 0 g.1.length), (70, .bs false 2 (List.map enc_si p2)), (71, .v (.int .i64 (p2.length : Int))), (72, .v (.int .i64 g.2))], [(0, .box [.bs false 2 (List.map enc_si p1)]), (1, .arr 4 (List.map enc_isii x9.1)), (2, .arr 4 (List.map enc_isii x9.2)), (3, .arr 4 (List.map enc_isii g.1))]⟩ : S)) q.2) (fun q => m_impl_DiffEnums_L2 p1 p2 x9 q.1 q.2.1 q.2.2 = some out) (fun q => q.1) (n, g) h (Wk.refl _) ?_
  clear h
  rintro ⟨fu, v10, v11⟩ h
  cases fu with
  | zero => cases h
  | succ fu =>
    rw [m_impl_DiffEnums_L2] at h
    refine AX.seq ?_
    refine AX.reg (its := []) [2, 5, 6, 7, 70, 71, 72, 73] [0, 1, 2, 3] (s1 := ⟨[(2, .pt 0 0), (5, .sl 1 0 x9.1.length), (6, .sl 2 0 x9.2.length), (7, .sl 3 0 v10.length), (70, .bs false 2 (List.map enc_si p2)), (71, .v (.int .i64 (p2.length : Int))), (72, .v (.int .i64 v11)), (73, .v (.bool (decide (v11 < (p2.length : Int)))))], [(0, .box [.bs false 2 (List.map enc_si p1)]), (1, .arr 4 (List.map enc_isii x9.1)), (2, .arr 4 (List.map enc_isii x9.2)), (3, .arr 4 (List.map enc_isii v10))]⟩) (C := True) (by kernel_rfl) trivial trivial ?_
    refine AX.seq ?_
    rcases bool_cases (decide (v11 < (p2.length : Int))) with b14 | b14
    · replace h := cd_t b14 h
      refine AX.condT (decide (v11 < (p2.length : Int))) (by kernel_rfl) b14 ?_
      refine AX.skip ?_
      refine AX.seq ?_
      refine AX.block ?_
      refine AX.seq ?_
      obtain ⟨g15, h⟩ := gd_e h
      refine AX.reg (its := [.auto { y := some (.be 2 (enc_si (gt p2 v11)) 0) }, .auto {}, .auto { nk := 4 }]) [2, 5, 6, 7, 12, 70, 71, 72] [0, 1, 2, 3, 4] (s1 := ⟨[(2, .pt 0 0), (5, .sl 1 0 x9.1.length), (6, .sl 2 0 x9.2.length), (7, .sl 3 0 v10.length), (12, .pt 4 0), (70, .bs false 2 (List.map enc_si p2)), (71, .v (.int .i64 (p2.length : Int))), (72, .v (.int .i64 v11))], [(0, .box [.bs false 2 (List.map enc_si p1)]), (1, .arr 4 (List.map enc_isii x9.1)), (2, .arr 4 (List.map enc_isii x9.2)), (3, .arr 4 (List.map enc_isii v10)), (4, .box [.v (.string ((gt p2 v11).1)), .v (.int .i64 ((gt p2 v11).2))])]⟩) (C := ((0 ≤ v11 ∧ v11 < ((List.map enc_si p2).length : Int)) ∧ (AV.be 2 ((List.map enc_si p2).getD v11.toNat []) 0 = AV.be 2 (enc_si (gt p2 v11)) 0)) ∧ True) (by kernel_rfl) ⟨idx_bs enc_si p2 v11 2 g15, trivial⟩ trivial ?_
      refine AX.seq ?_
      obtain ⟨x12, e16, h⟩ := bd_e h
      refine AX.reg (its := [.auto {}, .auto {}, .auto {}, .auto {}, .call 68 [.bs false 2 (List.map enc_si p1), .v (.string ((gt p2 v11).1))] (handO (rho ([] ++ [])) [] [] ++ []) (callEv [] [] (.v (.int .i64 x12)) [])]) [2, 5, 6, 7, 12, 70, 71, 72, 81] [0, 1, 2, 3, 4] (s1 := ⟨[(2, .pt 0 0), (5, .sl 1 0 x9.1.length), (6, .sl 2 0 x9.2.length), (7, .sl 3 0 v10.length), (12, .pt 4 0), (70, .bs false 2 (List.map enc_si p2)), (71, .v (.int .i64 (p2.length : Int))), (72, .v (.int .i64 v11)), (81, .v (.bool (decide (x12 < 0))))], [(0, .box [.bs false 2 (List.map enc_si p1)]), (1, .arr 4 (List.map enc_isii x9.1)), (2, .arr 4 (List.map enc_isii x9.2)), (3, .arr 4 (List.map enc_isii v10)), (4, .box [.v (.string ((gt p2 v11).1)), .v (.int .i64 ((gt p2 v11).2))])]⟩) (C := ((([.bs false 2 (List.map enc_si p1), .v (.string ((gt p2 v11).1))] : List AV) = [.bs false 2 (List.map enc_si p1), .v (.string ((gt p2 v11).1))]) ∧ True) ∧ True) (by kernel_rfl) ⟨⟨rfl, trivial⟩, trivial⟩ ⟨call_ok (ks := []) (ns := []) (bor := []) (bobjs := []) (s_impl_named p1 ((gt p2 v11).1) x12 e16) (.cons (.c1 (.c0 (.same _ (by kernel_rfl) (by kernel_rfl)))) (.cons (.c1 (.c0 (.same _ (by kernel_rfl) (by kernel_rfl)))) (.nil))) (by kernel_rfl) trivial, trivial⟩ ?_
      rcases bool_cases (decide (x12 < 0)) with b17 | b17
      · replace h := cd_t b17 h
        refine AX.condT (decide (x12 < 0)) (by kernel_rfl) b17 ?_
        obtain ⟨g18, h⟩ := gd_e h
        refine AX.reg (its := [.auto {}, .auto {}, .auto {}, .auto {}, .auto {}, .auto {}, .auto { nk := 5 }, .auto { y := some (.sl 6 0 ((v10 ++ ([(0, (gt p2 v11).1, 0, (gt p2 v11).2)] : List (Int × ByteArray × Int × Int))).length)), els := some (List.map enc_isii v10), els2 := some (List.map enc_isii ([(0, (gt p2 v11).1, 0, (gt p2 v11).2)] : List (Int × ByteArray × Int × Int))), nk := 6 }]) [2, 5, 6, 7, 70, 71, 72] [0, 1, 2, 6] (s1 := ⟨[(2, .pt 0 0), (5, .sl 1 0 x9.1.length), (6, .sl 2 0 x9.2.length), (7, .sl 6 0 ((v10 ++ ([(0, (gt p2 v11).1, 0, (gt p2 v11).2)] : List (Int × ByteArray × Int × Int))).length)), (70, .bs false 2 (List.map enc_si p2)), (71, .v (.int .i64 (p2.length : Int))), (72, .v (.int .i64 v11))], [(0, .box [.bs false 2 (List.map enc_si p1)]), (1, .arr 4 (List.map enc_isii x9.1)), (2, .arr 4 (List.map enc_isii x9.2)), (6, .arr 4 (List.map enc_isii v10 ++ List.map enc_isii ([(0, (gt p2 v11).1, 0, (gt p2 v11).2)] : List (Int × ByteArray × Int × Int))))]⟩) (C := ((((((List.map enc_isii v10).drop 0).take (v10.length) = List.map enc_isii v10) ∧ (((List.map enc_isii ([(0, (gt p2 v11).1, 0, (gt p2 v11).2)] : List (Int × ByteArray × Int × Int))).drop 0).take (([(0, (gt p2 v11).1, 0, (gt p2 v11).2)] : List (Int × ByteArray × Int × Int)).length) = List.map enc_isii ([(0, (gt p2 v11).1, 0, (gt p2 v11).2)] : List (Int × ByteArray × Int × Int)))) ∧ (List.map enc_isii v10).length + (List.map enc_isii ([(0, (gt p2 v11).1, 0, (gt p2 v11).2)] : List (Int × ByteArray × Int × Int))).length ≤ 1099511627776) ∧ (AV.sl 6 0 (List.map enc_isii v10 ++ List.map enc_isii ([(0, (gt p2 v11).1, 0, (gt p2 v11).2)] : List (Int × ByteArray × Int × Int))).length = AV.sl 6 0 (v10 ++ ([(0, (gt p2 v11).1, 0, (gt p2 v11).2)] : List (Int × ByteArray × Int × Int))).length)) ∧ True) (by kernel_rfl) ⟨⟨⟨⟨(dt_all (enc := enc_isii) rfl rfl), (dt_all (enc := enc_isii) rfl rfl)⟩, (by simp only [List.length_map, List.length_nil, List.length_replicate]; simpa using g18)⟩, sl_len (enc := enc_isii) (app_can (enc := enc_isii) rfl (rfl))⟩, trivial⟩ trivial ?_
        refine AX.reg (its := [.auto { raw := true }]) [2, 5, 6, 7, 70, 71, 72] [0, 1, 2, 6] (s1 := ⟨[(2, .pt 0 0), (5, .sl 1 0 x9.1.length), (6, .sl 2 0 x9.2.length), (7, .sl 6 0 ((v10 ++ ([(0, (gt p2 v11).1, 0, (gt p2 v11).2)] : List (Int × ByteArray × Int × Int))).length)), (70, .bs false 2 (List.map enc_si p2)), (71, .v (.int .i64 (p2.length : Int))), (72, .v (.int .i64 (IntKind.wrap .i64 (v11 + 1))))], [(0, .box [.bs false 2 (List.map enc_si p1)]), (1, .arr 4 (List.map enc_isii x9.1)), (2, .arr 4 (List.map enc_isii x9.2)), (6, .arr 4 (List.map enc_isii v10 ++ List.map enc_isii ([(0, (gt p2 v11).1, 0, (gt p2 v11).2)] : List (Int × ByteArray × Int × Int))))]⟩) (C := True) (by kernel_rfl) trivial trivial ?_
        refine ⟨(fu, (v10 ++ ([(0, (gt p2 v11).1, 0, (gt p2 v11).2)] : List (Int × ByteArray × Int × Int)), IntKind.wrap .i64 (v11 + 1))), h, Nat.lt_succ_self _, ?_⟩
        refine Wk.trans (Wk.swap 3 6 (Nat.le_of_ble_eq_true (by kernel_rfl)) (Nat.le_of_ble_eq_true (by kernel_rfl)) rfl) ?_
        refine Wk.trans (Wk.forget [2, 5, 6, 7, 70, 71, 72] [0, 1, 2, 3] (s' := ⟨[(2, .pt 0 0), (5, .sl 1 0 x9.1.length), (6, .sl 2 0 x9.2.length), (7, .sl 3 0 ((v10 ++ ([(0, (gt p2 v11).1, 0, (gt p2 v11).2)] : List (Int × ByteArray × Int × Int))).length)), (70, .bs false 2 (List.map enc_si p2)), (71, .v (.int .i64 (p2.length : Int))), (72, .v (.int .i64 (IntKind.wrap .i64 (v11 + 1))))], [(0, .box [.bs false 2 (List.map enc_si p1)]), (1, .arr 4 (List.map enc_isii x9.1)), (2, .arr 4 (List.map enc_isii x9.2)), (3, .arr 4 (List.map enc_isii v10 ++ List.map enc_isii ([(0, (gt p2 v11).1, 0, (gt p2 v11).2)] : List (Int × ByteArray × Int × Int))))]⟩) (by kernel_rfl)) ?_
        refine Wk.trans (Wk.of_eq (congrArg (fun z => (⟨[(2, .pt 0 0), (5, .sl 1 0 x9.1.length), (6, .sl 2 0 x9.2.length), (7, .sl 3 0 ((v10 ++ ([(0, (gt p2 v11).1, 0, (gt p2 v11).2)] : List (Int × ByteArray × Int × Int))).length)), (70, .bs false 2 (List.map enc_si p2)), (71, .v (.int .i64 (p2.length : Int))), (72, .v (.int .i64 (IntKind.wrap .i64 (v11 + 1))))], [(0, .box [.bs false 2 (List.map enc_si p1)]), (1, .arr 4 (List.map enc_isii x9.1)), (2, .arr 4 (List.map enc_isii x9.2)), (3, .arr 4 (z))]⟩ : S)) (app_can (enc := enc_isii) rfl (rfl) : List.map enc_isii v10 ++ List.map enc_isii ([(0, (gt p2 v11).1, 0, (gt p2 v11).2)] : List (Int × ByteArray × Int × Int)) = List.map enc_isii (v10 ++ ([(0, (gt p2 v11).1, 0, (gt p2 v11).2)] : List (Int × ByteArray × Int × Int)))))) ?_
        exact Wk.refl _
      · replace h := cd_f b17 h
        refine AX.condF (decide (x12 < 0)) (by kernel_rfl) b17 ?_
        refine AX.skip ?_
        refine AX.reg (its := [.auto { raw := true }]) [2, 5, 6, 7, 70, 71, 72] [0, 1, 2, 3] (s1 := ⟨[(2, .pt 0 0), (5, .sl 1 0 x9.1.length), (6, .sl 2 0 x9.2.length), (7, .sl 3 0 v10.length), (70, .bs false 2 (List.map enc_si p2)), (71, .v (.int .i64 (p2.length : Int))), (72, .v (.int .i64 (IntKind.wrap .i64 (v11 + 1))))], [(0, .box [.bs false 2 (List.map enc_si p1)]), (1, .arr 4 (List.map enc_isii x9.1)), (2, .arr 4 (List.map enc_isii x9.2)), (3, .arr 4 (List.map enc_isii v10))]⟩) (C := True) (by kernel_rfl) trivial trivial ?_
        refine ⟨(fu, (v10, IntKind.wrap .i64 (v11 + 1))), h, Nat.lt_succ_self _, ?_⟩
        refine Wk.trans (Wk.forget [2, 5, 6, 7, 70, 71, 72] [0, 1, 2, 3] (s' := ⟨[(2, .pt 0 0), (5, .sl 1 0 x9.1.length), (6, .sl 2 0 x9.2.length), (7, .sl 3 0 v10.length), (70, .bs false 2 (List.map enc_si p2)), (71, .v (.int .i64 (p2.length : Int))), (72, .v (.int .i64 (IntKind.wrap .i64 (v11 + 1))))], [(0, .box [.bs false 2 (List.map enc_si p1)]), (1, .arr 4 (List.map enc_isii x9.1)), (2, .arr 4 (List.map enc_isii x9.2)), (3, .arr 4 (List.map enc_isii v10))]⟩) (by kernel_rfl)) ?_
        exact Wk.refl _
    · replace h := cd_f b14 h
      refine AX.condF (decide (v11 < (p2.length : Int))) (by kernel_rfl) b14 ?_
      refine AX.exit ?_
      refine fin_wk (Wk.swap 0 1 (Nat.le_of_ble_eq_true (by kernel_rfl)) (Nat.le_of_ble_eq_true (by kernel_rfl)) rfl) ?_
      refine fin_wk (Wk.swap 1 2 (Nat.le_of_ble_eq_true (by kernel_rfl)) (Nat.le_of_ble_eq_true (by kernel_rfl)) rfl) ?_
      refine fin_wk (Wk.swap 2 3 (Nat.le_of_ble_eq_true (by kernel_rfl)) (Nat.le_of_ble_eq_true (by kernel_rfl)) rfl) ?_
      refine fin_wk (Wk.forget [5, 6, 7] [0, 1, 2] (s' := ⟨[(5, .sl 0 0 x9.1.length), (6, .sl 1 0 x9.2.length), (7, .sl 2 0 v10.length)], [(0, .arr 4 (List.map enc_isii x9.1)), (1, .arr 4 (List.map enc_isii x9.2)), (2, .arr 4 (List.map enc_isii v10))]⟩) (by kernel_rfl)) ?_
      have hr := Option.some.inj h
      subst hr
      exact ⟨_, Wk.refl _, ⟨rfl, rfl⟩⟩

theorem s_impl_DiffEnums (p1 : List (ByteArray × Int)) (p2 : List (ByteArray × Int)) (r : List (Int × ByteArray × Int × Int)) (h : m_impl_DiffEnums p1 p2 = some r) :
    Eng.Spec Try.prog 43 [.agg [.bs false 2 (List.map enc_si p1)], .agg [.bs false 2 (List.map enc_si p2)]] [] (.sl 0 0 r.length) [.arr 4 (List.map enc_isii r)] := by
  unfold m_impl_DiffEnums at h
  refine Eng.Spec.body Try.func43 (by kernel_rfl) rfl (by kernel_rfl) ?_
  refine AX.wkpost ?_
  refine AX.seq ?_
  refine AX.reg (its := [.auto { nk := 0 }, .auto { nk := 1 }]) [2, 3] [0, 1] (s1 := ⟨[(2, .pt 0 0), (3, .pt 1 0)], [(0, .box [.bs false 2 (List.map enc_si p1)]), (1, .box [.bs false 2 (List.map enc_si p2)])]⟩) (C := True) (by kernel_rfl) trivial trivial ?_
  refine AX.seq ?_
  refine AX.seq ?_
  obtain ⟨x3, e1, h⟩ := bd_e h
  rcases bool_cases ((!x3)) with b2 | b2
  · replace h := cd_t b2 h
    refine AX.reg (its := [.auto {}, .call 13 [.agg [.bs false 2 (List.map enc_si p1)]] (handO (rho ([] ++ [])) [] [] ++ []) (callEv [] [] (.v (.bool x3)) []), .auto { y := some (.v (.bool true)) }]) [2, 3, 20] [0, 1] (s1 := ⟨[(2, .pt 0 0), (3, .pt 1 0), (20, .v (.bool true))], [(0, .box [.bs false 2 (List.map enc_si p1)]), (1, .box [.bs false 2 (List.map enc_si p2)])]⟩) (C := ((([.agg [.bs false 2 (List.map enc_si p1)]] : List AV) = [.agg [.bs false 2 (List.map enc_si p1)]]) ∧ True) ∧ ((True) ∧ ((.v (.bool (!x3)) : AV) = (.v (.bool true) : AV))) ∧ True) (by kernel_rfl) ⟨⟨rfl, trivial⟩, ⟨⟨trivial, (congrArg (fun z => AV.v (.bool z)) b2)⟩, trivial⟩⟩ ⟨call_ok (ks := []) (ns := []) (bor := []) (bobjs := []) (s_impl_ValidEnum p1 x3 e1) (.cons (.c1 (.agg (.cons (.same _ (by kernel_rfl) (by kernel_rfl)) (.nil)))) (.nil)) (by kernel_rfl) trivial, trivial⟩ ?_
    refine AX.cond_true (by kernel_rfl) ?_
    refine AX.seq ?_
    refine AX.reg (its := []) [4] [] (s1 := ⟨[(4, .v (.slice none 0 0))], []⟩) (C := True) (by kernel_rfl) trivial trivial ?_
    refine AX.ret ?_
    refine fin_wk (Wk.mat 4 0 4 (by kernel_rfl) (Nat.le_of_ble_eq_true (by kernel_rfl)) (by kernel_rfl) rfl) ?_
    refine fin_wk (Wk.forget [4] [0] (s' := ⟨[(4, .sl 0 0 (([] : List (Int × ByteArray × Int × Int)).length))], [(0, .arr 4 (List.map enc_isii ([] : List (Int × ByteArray × Int × Int))))]⟩) (by kernel_rfl)) ?_
    have hr := Option.some.inj h
    subst hr
    exact ⟨_, Wk.refl _, .inr rfl, ⟨[0], by kernel_rfl, ⟨rfl, trivial⟩, [.sl 0 0 (([] : List (Int × ByteArray × Int × Int)).length)], by kernel_rfl, by kernel_rfl⟩⟩
  · replace h := cd_f b2 h
    obtain ⟨x4, e3, h⟩ := bd_e h
    refine AX.reg (its := [.auto {}, .call 13 [.agg [.bs false 2 (List.map enc_si p1)]] (handO (rho ([] ++ [])) [] [] ++ []) (callEv [] [] (.v (.bool x3)) []), .auto { y := some (.v (.bool false)) }, .auto {}, .auto {}, .call 13 [.agg [.bs false 2 (List.map enc_si p2)]] (handO (rho ([] ++ [])) [] [] ++ []) (callEv [] [] (.v (.bool x4)) [])]) [2, 3, 20] [0, 1] (s1 := ⟨[(2, .pt 0 0), (3, .pt 1 0), (20, .v (.bool (!x4)))], [(0, .box [.bs false 2 (List.map enc_si p1)]), (1, .box [.bs false 2 (List.map enc_si p2)])]⟩) (C := ((([.agg [.bs false 2 (List.map enc_si p1)]] : List AV) = [.agg [.bs false 2 (List.map enc_si p1)]]) ∧ True) ∧ ((True) ∧ ((.v (.bool (!x3)) : AV) = (.v (.bool false) : AV))) ∧ ((([.agg [.bs false 2 (List.map enc_si p2)]] : List AV) = [.agg [.bs false 2 (List.map enc_si p2)]]) ∧ True) ∧ True) (by kernel_rfl) ⟨⟨rfl, trivial⟩, ⟨⟨trivial, (congrArg (fun z => AV.v (.bool z)) b2)⟩, ⟨⟨rfl, trivial⟩, trivial⟩⟩⟩ ⟨call_ok (ks := []) (ns := []) (bor := []) (bobjs := []) (s_impl_ValidEnum p1 x3 e1) (.cons (.c1 (.agg (.cons (.same _ (by kernel_rfl) (by kernel_rfl)) (.nil)))) (.nil)) (by kernel_rfl) trivial, ⟨call_ok (ks := []) (ns := []) (bor := []) (bobjs := []) (s_impl_ValidEnum p2 x4 e3) (.cons (.c1 (.agg (.cons (.same _ (by kernel_rfl) (by kernel_rfl)) (.nil)))) (.nil)) (by kernel_rfl) trivial, trivial⟩⟩ ?_
    rcases bool_cases ((!x4)) with b4 | b4
    · replace h := cd_t b4 h
      refine AX.condT ((!x4)) (by kernel_rfl) b4 ?_
      refine AX.seq ?_
      refine AX.reg (its := []) [4] [] (s1 := ⟨[(4, .v (.slice none 0 0))], []⟩) (C := True) (by kernel_rfl) trivial trivial ?_
      refine AX.ret ?_
      refine fin_wk (Wk.mat 4 0 4 (by kernel_rfl) (Nat.le_of_ble_eq_true (by kernel_rfl)) (by kernel_rfl) rfl) ?_
      refine fin_wk (Wk.forget [4] [0] (s' := ⟨[(4, .sl 0 0 (([] : List (Int × ByteArray × Int × Int)).length))], [(0, .arr 4 (List.map enc_isii ([] : List (Int × ByteArray × Int × Int))))]⟩) (by kernel_rfl)) ?_
      have hr := Option.some.inj h
      subst hr
      exact ⟨_, Wk.refl _, .inr rfl, ⟨[0], by kernel_rfl, ⟨rfl, trivial⟩, [.sl 0 0 (([] : List (Int × ByteArray × Int × Int)).length)], by kernel_rfl, by kernel_rfl⟩⟩
    · replace h := cd_f b4 h
      refine AX.condF ((!x4)) (by kernel_rfl) b4 ?_
      refine AX.skip ?_
      refine AX.seq ?_
      refine AX.reg (its := []) [2, 3, 5, 6, 7] [0, 1] (s1 := ⟨[(2, .pt 0 0), (3, .pt 1 0), (5, .v (.slice none 0 0)), (6, .v (.slice none 0 0)), (7, .v (.slice none 0 0))], [(0, .box [.bs false 2 (List.map enc_si p1)]), (1, .box [.bs false 2 (List.map enc_si p2)])]⟩) (C := True) (by kernel_rfl) trivial trivial ?_
      refine AX.seq ?_
      refine AX.seq ?_
      refine AX.reg (its := [.auto {}, .auto {}, .auto { y := some (.v (.int .i64 (p1.length : Int))) }]) [2, 3, 5, 6, 7, 22, 23, 24] [0, 1] (s1 := ⟨[(2, .pt 0 0), (3, .pt 1 0), (5, .v (.slice none 0 0)), (6, .v (.slice none 0 0)), (7, .v (.slice none 0 0)), (22, .bs false 2 (List.map enc_si p1)), (23, .v (.int .i64 (p1.length : Int))), (24, .v (.int .i64 0))], [(0, .box [.bs false 2 (List.map enc_si p1)]), (1, .box [.bs false 2 (List.map enc_si p2)])]⟩) (C := (True ∧ (AV.v (.int .i64 ((List.map enc_si p1).length : Int)) = AV.v (.int .i64 (p1.length : Int)))) ∧ True) (by kernel_rfl) ⟨⟨trivial, len_map enc_si p1⟩, trivial⟩ trivial ?_
      refine AX.block ?_
      obtain ⟨x9, e13, h⟩ := bd_e h
      refine AX.wk (Wk.mat 5 2 4 (by kernel_rfl) (Nat.le_of_ble_eq_true (by kernel_rfl)) (by kernel_rfl) rfl) ?_
      refine AX.wk (Wk.mat 6 3 4 (by kernel_rfl) (Nat.le_of_ble_eq_true (by kernel_rfl)) (by kernel_rfl) rfl) ?_
      refine AX.wk (Wk.forget [2, 3, 5, 6, 7, 22, 23, 24] [0, 1, 2, 3] (s' := ⟨[(2, .pt 0 0), (3, .pt 1 0), (5, .sl 2 0 (([] : List (Int × ByteArray × Int × Int)).length)), (6, .sl 3 0 (([] : List (Int × ByteArray × Int × Int)).length)), (7, .v (.slice none 0 0)), (22, .bs false 2 (List.map enc_si p1)), (23, .v (.int .i64 (p1.length : Int))), (24, .v (.int .i64 0))], [(0, .box [.bs false 2 (List.map enc_si p1)]), (1, .box [.bs false 2 (List.map enc_si p2)]), (2, .arr 4 (List.map enc_isii ([] : List (Int × ByteArray × Int × Int)))), (3, .arr 4 (List.map enc_isii ([] : List (Int × ByteArray × Int × Int))))]⟩) (by kernel_rfl)) ?_
      refine AX.mono (s_impl_DiffEnums_L1 p1 p2 FU (([] : List (Int × ByteArray × Int × Int)), ([] : List (Int × ByteArray × Int × Int)), 0) x9 e13) ?_
      rintro _ _ ⟨rfl, rfl⟩
      skip
      refine AX.seq ?_
      refine AX.seq ?_
      refine AX.reg (its := [.auto {}, .auto {}, .auto { y := some (.v (.int .i64 (p2.length : Int))) }]) [2, 5, 6, 7, 70, 71, 72] [0, 2, 3] (s1 := ⟨[(2, .pt 0 0), (5, .sl 2 0 x9.1.length), (6, .sl 3 0 x9.2.length), (7, .v (.slice none 0 0)), (70, .bs false 2 (List.map enc_si p2)), (71, .v (.int .i64 (p2.length : Int))), (72, .v (.int .i64 0))], [(0, .box [.bs false 2 (List.map enc_si p1)]), (2, .arr 4 (List.map enc_isii x9.1)), (3, .arr 4 (List.map enc_isii x9.2))]⟩) (C := (True ∧ (AV.v (.int .i64 ((List.map enc_si p2).length : Int)) = AV.v (.int .i64 (p2.length : Int)))) ∧ True) (by kernel_rfl) ⟨⟨trivial, len_map enc_si p2⟩, trivial⟩ trivial ?_
      refine AX.block ?_
      obtain ⟨x13, e19, h⟩ := bd_e h
      refine AX.wk (Wk.mat 7 4 4 (by kernel_rfl) (Nat.le_of_ble_eq_true (by kernel_rfl)) (by kernel_rfl) rfl) ?_
      refine AX.wk (Wk.swap 1 2 (Nat.le_of_ble_eq_true (by kernel_rfl)) (Nat.le_of_ble_eq_true (by kernel_rfl)) rfl) ?_
      refine AX.wk (Wk.swap 2 3 (Nat.le_of_ble_eq_true (by kernel_rfl)) (Nat.le_of_ble_eq_true (by kernel_rfl)) rfl) ?_
      refine AX.wk (Wk.swap 3 4 (Nat.le_of_ble_eq_true (by kernel_rfl)) (Nat.le_of_ble_eq_true (by kernel_rfl)) rfl) ?_
      refine AX.wk (Wk.forget [2, 5, 6, 7, 70, 71, 72] [0, 1, 2, 3] (s' := ⟨[(2, .pt 0 0), (5, .sl 1 0 x9.1.length), (6, .sl 2 0 x9.2.length), (7, .sl 3 0 (([] : List (Int × ByteArray × Int × Int)).length)), (70, .bs false 2 (List.map enc_si p2)), (71, .v (.int .i64 (p2.length : Int))), (72, .v (.int .i64 0))], [(0, .box [.bs false 2 (List.map enc_si p1)]), (1, .arr 4 (List.map enc_isii x9.1)), (2, .arr 4 (List.map enc_isii x9.2)), (3, .arr 4 (List.map enc_isii ([] : List (Int × ByteArray × Int × Int))))]⟩) (by kernel_rfl)) ?_
      refine AX.mono (s_impl_DiffEnums_L2 p1 p2 x9 FU (([] : List (Int × ByteArray × Int × Int)), 0) x13 e19) ?_
      rintro _ _ ⟨rfl, rfl⟩
      skip
      refine AX.seq ?_
      obtain ⟨x14, e20, h⟩ := bd_e h
      obtain ⟨x15, e21, h⟩ := bd_e h
      refine AX.reg (its := [.auto {}, .auto {}, .auto {}, .auto { raw := true, nk := 3 }, .call 78 [.sx 3 3] (handO (rho ([] ++ [4])) [] [] ++ [(3, .box [.sl 0 0 x9.1.length, .sl 1 0 x9.2.length, .sl 2 0 x13.length]), (0, .arr 4 (List.map enc_isii x9.1)), (1, .arr 4 (List.map enc_isii x9.2)), (2, .arr 4 (List.map enc_isii x13))]) (callEv [] [4] (.sl 0 0 x14.length) [.arr 4 (List.map enc_isii x14)]), .call 41 [.sl 4 0 x14.length] (handO (rho ([4] ++ [])) [4] [.arr 4 (List.map enc_isii x14)] ++ []) (callEv [4] [] (.sl 0 0 x14.length) [.arr 4 (List.map enc_isii x14)])]) [4] [4] (s1 := ⟨[(4, .sl 4 0 x14.length)], [(4, .arr 4 (List.map enc_isii x14))]⟩) (C := ((([.sx 3 3] : List AV) = [.sx 3 3]) ∧ (AO.box [.sl 0 0 x9.1.length, .sl 1 0 x9.2.length, .sl 2 0 x13.length] = AO.box [.sl 0 0 x9.1.length, .sl 1 0 x9.2.length, .sl 2 0 x13.length]) ∧ (AO.arr 4 (List.map enc_isii x9.1) = AO.arr 4 (List.map enc_isii x9.1)) ∧ (AO.arr 4 (List.map enc_isii x9.2) = AO.arr 4 (List.map enc_isii x9.2)) ∧ (AO.arr 4 (List.map enc_isii x13) = AO.arr 4 (List.map enc_isii x13)) ∧ True) ∧ ((([.sl 4 0 x14.length] : List AV) = [.sl 4 0 x14.length]) ∧ (AO.arr 4 (List.map enc_isii x14) = AO.arr 4 (List.map enc_isii x14)) ∧ True) ∧ True) (by kernel_rfl) ⟨⟨rfl, rfl, rfl, rfl, rfl, trivial⟩, ⟨⟨rfl, rfl, trivial⟩, trivial⟩⟩ ⟨call_ok (ks := []) (ns := [4]) (bor := [3, 0, 1, 2]) (bobjs := [(3, .box [.sl 0 0 x9.1.length, .sl 1 0 x9.2.length, .sl 2 0 x13.length]), (0, .arr 4 (List.map enc_isii x9.1)), (1, .arr 4 (List.map enc_isii x9.2)), (2, .arr 4 (List.map enc_isii x13))]) (s_slices_Concat_x3isiiisiiisii x9.1 x9.2 x13 x14 e20) (.cons (.c1 (.sx rfl rfl (.cons (.arr rfl rfl ((rfl).trans (List.length_map ..).symm)) (.cons (.arr rfl rfl ((rfl).trans (List.length_map ..).symm)) (.cons (.arr rfl rfl ((rfl).trans (List.length_map ..).symm)) (.nil)))))) (.nil)) (by kernel_rfl) trivial, ⟨call_ok (ks := [4]) (ns := []) (bor := []) (bobjs := []) (s_slices_Clip_hisii x14 x15 e21) (.cons (.c1 (.c0 (.same _ (by kernel_rfl) (by kernel_rfl)))) (.nil)) (by kernel_rfl) ⟨.inr rfl, trivial⟩, trivial⟩⟩ ?_
      refine AX.ret ?_
      refine fin_wk (Wk.swap 0 4 (Nat.le_of_ble_eq_true (by kernel_rfl)) (Nat.le_of_ble_eq_true (by kernel_rfl)) rfl) ?_
      refine fin_wk (Wk.forget [4] [0] (s' := ⟨[(4, .sl 0 0 x14.length)], [(0, .arr 4 (List.map enc_isii x14))]⟩) (by kernel_rfl)) ?_
      have hr := Option.some.inj h
      subst hr
      exact ⟨_, Wk.refl _, .inr rfl, ⟨[0], by kernel_rfl, ⟨rfl, trivial⟩, [.sl 0 0 x14.length], by kernel_rfl, by kernel_rfl⟩⟩

theorem s_impl_SameMeaning (p1 : List (ByteArray × Int)) (p2 : List (ByteArray × Int)) (r : Bool) (h : m_impl_SameMeaning p1 p2 = some r) :
    Eng.Spec Try.prog 14 [.agg [.bs false 2 (List.map enc_si p1)], .agg [.bs false 2 (List.map enc_si p2)]] [] (.v (.bool r)) [] := by
  unfold m_impl_SameMeaning at h
  refine Eng.Spec.body Try.func14 (by kernel_rfl) rfl (by kernel_rfl) ?_
  refine AX.wkpost ?_
  refine AX.seq ?_
  refine AX.reg (its := [.auto { nk := 0 }, .auto { nk := 1 }]) [2, 3] [0, 1] (s1 := ⟨[(2, .pt 0 0), (3, .pt 1 0)], [(0, .box [.bs false 2 (List.map enc_si p1)]), (1, .box [.bs false 2 (List.map enc_si p2)])]⟩) (C := True) (by kernel_rfl) trivial trivial ?_
  refine AX.seq ?_
  obtain ⟨x3, e1, h⟩ := bd_e h
  rcases bool_cases (x3) with b2 | b2
  · replace h := cd_t b2 h
    obtain ⟨x4, e3, h⟩ := bd_e h
    rcases bool_cases (x4) with b4 | b4
    · replace h := cd_t b4 h
      obtain ⟨x5, e5, h⟩ := bd_e h
      refine AX.reg (its := [.auto {}, .call 13 [.agg [.bs false 2 (List.map enc_si p1)]] (handO (rho ([] ++ [])) [] [] ++ []) (callEv [] [] (.v (.bool true)) []), .auto {}, .auto {}, .call 13 [.agg [.bs false 2 (List.map enc_si p2)]] (handO (rho ([] ++ [])) [] [] ++ []) (callEv [] [] (.v (.bool true)) []), .auto {}, .auto {}, .auto {}, .auto {}, .call 43 [.agg [.bs false 2 (List.map enc_si p1)], .agg [.bs false 2 (List.map enc_si p2)]] (handO (rho ([] ++ [2])) [] [] ++ []) (callEv [] [2] (.sl 0 0 x5.length) [.arr 4 (List.map enc_isii x5)])]) [4] [] (s1 := ⟨[(4, .v (.bool (decide ((x5.length : Int) = 0))))], []⟩) (C := ((([.agg [.bs false 2 (List.map enc_si p1)]] : List AV) = [.agg [.bs false 2 (List.map enc_si p1)]]) ∧ True) ∧ ((([.agg [.bs false 2 (List.map enc_si p2)]] : List AV) = [.agg [.bs false 2 (List.map enc_si p2)]]) ∧ True) ∧ ((([.agg [.bs false 2 (List.map enc_si p1)], .agg [.bs false 2 (List.map enc_si p2)]] : List AV) = [.agg [.bs false 2 (List.map enc_si p1)], .agg [.bs false 2 (List.map enc_si p2)]]) ∧ True) ∧ True) (by kernel_rfl) ⟨⟨rfl, trivial⟩, ⟨⟨rfl, trivial⟩, ⟨⟨rfl, trivial⟩, trivial⟩⟩⟩ ⟨call_ok (ks := []) (ns := []) (bor := []) (bobjs := []) (show Eng.Spec Try.prog 13 [.agg [.bs false 2 (List.map enc_si p1)]] [] (.v (.bool true)) [] from by have q := s_impl_ValidEnum p1 x3 e1; rw [b2] at q; exact q) (.cons (.c1 (.agg (.cons (.same _ (by kernel_rfl) (by kernel_rfl)) (.nil)))) (.nil)) (by kernel_rfl) trivial, ⟨call_ok (ks := []) (ns := []) (bor := []) (bobjs := []) (show Eng.Spec Try.prog 13 [.agg [.bs false 2 (List.map enc_si p2)]] [] (.v (.bool true)) [] from by have q := s_impl_ValidEnum p2 x4 e3; rw [b4] at q; exact q) (.cons (.c1 (.agg (.cons (.same _ (by kernel_rfl) (by kernel_rfl)) (.nil)))) (.nil)) (by kernel_rfl) trivial, ⟨call_ok (ks := []) (ns := [2]) (bor := []) (bobjs := []) (s_impl_DiffEnums p1 p2 x5 e5) (.cons (.c1 (.agg (.cons (.same _ (by kernel_rfl) (by kernel_rfl)) (.nil)))) (.cons (.c1 (.agg (.cons (.same _ (by kernel_rfl) (by kernel_rfl)) (.nil)))) (.nil))) (by kernel_rfl) trivial, trivial⟩⟩⟩ ?_
      refine AX.ret ?_
      refine fin_wk (Wk.forget [4] [] (s' := ⟨[(4, .v (.bool (decide ((x5.length : Int) = 0))))], []⟩) (by kernel_rfl)) ?_
      have hr := Option.some.inj h
      subst hr
      exact ⟨_, Wk.refl _, .inr rfl, ⟨[], by kernel_rfl, trivial, [.v (.bool (decide ((x5.length : Int) = 0)))], by kernel_rfl, by kernel_rfl⟩⟩
    · replace h := cd_f b4 h
      refine AX.reg (its := [.auto {}, .call 13 [.agg [.bs false 2 (List.map enc_si p1)]] (handO (rho ([] ++ [])) [] [] ++ []) (callEv [] [] (.v (.bool true)) []), .auto {}, .auto {}, .call 13 [.agg [.bs false 2 (List.map enc_si p2)]] (handO (rho ([] ++ [])) [] [] ++ []) (callEv [] [] (.v (.bool false)) [])]) [4] [] (s1 := ⟨[(4, .v (.bool false))], []⟩) (C := ((([.agg [.bs false 2 (List.map enc_si p1)]] : List AV) = [.agg [.bs false 2 (List.map enc_si p1)]]) ∧ True) ∧ ((([.agg [.bs false 2 (List.map enc_si p2)]] : List AV) = [.agg [.bs false 2 (List.map enc_si p2)]]) ∧ True) ∧ True) (by kernel_rfl) ⟨⟨rfl, trivial⟩, ⟨⟨rfl, trivial⟩, trivial⟩⟩ ⟨call_ok (ks := []) (ns := []) (bor := []) (bobjs := []) (show Eng.Spec Try.prog 13 [.agg [.bs false 2 (List.map enc_si p1)]] [] (.v (.bool true)) [] from by have q := s_impl_ValidEnum p1 x3 e1; rw [b2] at q; exact q) (.cons (.c1 (.agg (.cons (.same _ (by kernel_rfl) (by kernel_rfl)) (.nil)))) (.nil)) (by kernel_rfl) trivial, ⟨call_ok (ks := []) (ns := []) (bor := []) (bobjs := []) (show Eng.Spec Try.prog 13 [.agg [.bs false 2 (List.map enc_si p2)]] [] (.v (.bool false)) [] from by have q := s_impl_ValidEnum p2 x4 e3; rw [b4] at q; exact q) (.cons (.c1 (.agg (.cons (.same _ (by kernel_rfl) (by kernel_rfl)) (.nil)))) (.nil)) (by kernel_rfl) trivial, trivial⟩⟩ ?_
      refine AX.ret ?_
      refine fin_wk (Wk.forget [4] [] (s' := ⟨[(4, .v (.bool false))], []⟩) (by kernel_rfl)) ?_
      have hr := Option.some.inj h
      subst hr
      exact ⟨_, Wk.refl _, .inr rfl, ⟨[], by kernel_rfl, trivial, [.v (.bool false)], by kernel_rfl, by kernel_rfl⟩⟩
  · replace h := cd_f b2 h
    refine AX.reg (its := [.auto {}, .call 13 [.agg [.bs false 2 (List.map enc_si p1)]] (handO (rho ([] ++ [])) [] [] ++ []) (callEv [] [] (.v (.bool false)) [])]) [4] [] (s1 := ⟨[(4, .v (.bool false))], []⟩) (C := ((([.agg [.bs false 2 (List.map enc_si p1)]] : List AV) = [.agg [.bs false 2 (List.map enc_si p1)]]) ∧ True) ∧ True) (by kernel_rfl) ⟨⟨rfl, trivial⟩, trivial⟩ ⟨call_ok (ks := []) (ns := []) (bor := []) (bobjs := []) (show Eng.Spec Try.prog 13 [.agg [.bs false 2 (List.map enc_si p1)]] [] (.v (.bool false)) [] from by have q := s_impl_ValidEnum p1 x3 e1; rw [b2] at q; exact q) (.cons (.c1 (.agg (.cons (.same _ (by kernel_rfl) (by kernel_rfl)) (.nil)))) (.nil)) (by kernel_rfl) trivial, trivial⟩ ?_
    refine AX.ret ?_
    refine fin_wk (Wk.forget [4] [] (s' := ⟨[(4, .v (.bool false))], []⟩) (by kernel_rfl)) ?_
    have hr := Option.some.inj h
    subst hr
    exact ⟨_, Wk.refl _, .inr rfl, ⟨[], by kernel_rfl, trivial, [.v (.bool false)], by kernel_rfl, by kernel_rfl⟩⟩

theorem s_laws_FnSortEnum_L1 (x2 : List (ByteArray × Int)) (x3 : List (ByteArray × Int)) (n : Nat) (g : Int) (out : Unit ⊕ Unit) (h : m_laws_FnSortEnum_L1 x2 x3 n g = some out) :
    AX Try.prog 83 0 (codeAt [1, 1, 1, 1, 1, 0, 1, 1] (bodyOf Try.f5)) ((fun g : Int => (⟨[(3, .pt 0 0), (4, .pt 2 0), (5, .v (.int .i64 g))], [(0, .box [.sl 1 0 x2.length]), (1, .arr 2 (List.map enc_si x2)), (2, .box [.sl 3 0 x3.length]), (3, .arr 2 (List.map enc_si x3))]⟩ : S)) g) (fun ex s => (∃ o : Unit, out = Sum.inl o ∧ ex = .ret ∧ s = ⟨[(2, .v (.bool false))], []⟩) ∨ (∃ o : Unit, out = Sum.inr o ∧ ex = .exit 0 ∧ s = ⟨[(3, .pt 0 0), (4, .pt 2 0)], [(0, .box [.sl 1 0 x2.length]), (1, .arr 2 (List.map enc_si x2)), (2, .box [.sl 3 0 x3.length]), (3, .arr 2 (List.map enc_si x3))]⟩)) := by
  refine AX.wkpost ?_
  refine AX.loop (G := Nat × (Int)) (fun q => (fun g : Int => (⟨[(3, .pt 0 0), (4, .pt 2 0), (5, .v (.int .i64 g))], [(0, .box [.sl 1 0 x2.length]), (1, .arr 2 (List.map enc_si x2)), (2, .box [.sl 3 0 x3.length]), (3, .arr 2 (List.map enc_si x3))]⟩ : S)) q.2) (fun q => m_laws_FnSortEnum_L1 x2 x3 q.1 q.2 = some out) (fun q => q.1) (n, g) h (Wk.refl _) ?_
  clear h
  rintro ⟨fu, v11⟩ h
  cases fu with
  | zero => cases h
  | succ fu =>
    rw [m_laws_FnSortEnum_L1] at h
    refine AX.seq ?_
    refine AX.seq ?_
    refine AX.reg (its := []) [3, 4, 5, 33] [0, 1, 2, 3] (s1 := ⟨[(3, .pt 0 0), (4, .pt 2 0), (5, .v (.int .i64 v11)), (33, .v (.bool (decide (v11 < (x3.length : Int)))))], [(0, .box [.sl 1 0 x2.length]), (1, .arr 2 (List.map enc_si x2)), (2, .box [.sl 3 0 x3.length]), (3, .arr 2 (List.map enc_si x3))]⟩) (C := True) (by kernel_rfl) trivial trivial ?_
    rcases bool_cases (decide (v11 < (x3.length : Int))) with b13 | b13
    · replace h := cd_t b13 h
      refine AX.condT (decide (v11 < (x3.length : Int))) (by kernel_rfl) b13 ?_
      refine AX.skip ?_
      refine AX.seq ?_
      refine AX.block ?_
      refine AX.seq ?_
      obtain ⟨g14, h⟩ := gd_e h
      obtain ⟨g15, h⟩ := gd_e h
      obtain ⟨v12, q16, h⟩ := nm_e h
      refine AX.drw mixed (its := [.auto {}, .auto {}, .auto {}, .auto { raw := true }, .auto {}, .auto {}, .auto { y := some (.v (.int .i64 ((gt x3 (IntKind.wrap .i64 (v11 - 1))).2))) }, .auto {}, .auto {}, .auto {}, .auto {}, .auto {}, .auto { y := some (.v (.int .i64 ((gt x3 v11).2))) }, .auto { y := some (.v (.bool v12)) }]) [3, 4, 5, 49] [0, 1, 2, 3] (s1 := ⟨[(3, .pt 0 0), (4, .pt 2 0), (5, .v (.int .i64 v11)), (49, .v (.bool v12))], [(0, .box [.sl 1 0 x2.length]), (1, .arr 2 (List.map enc_si x2)), (2, .box [.sl 3 0 x3.length]), (3, .arr 2 (List.map enc_si x3))]⟩) (C := (0 ≤ (IntKind.wrap .i64 (v11 - 1)) ∧ (IntKind.wrap .i64 (v11 - 1)) < (x3.length : Int)) ∧ (True ∧ (AV.v (((List.map enc_si x3).getD (0 + (IntKind.wrap .i64 (v11 - 1)).toNat) []).getD 1 undef) = .v (.int .i64 ((gt x3 (IntKind.wrap .i64 (v11 - 1))).2)))) ∧ (0 ≤ v11 ∧ v11 < (x3.length : Int)) ∧ (True ∧ (AV.v (((List.map enc_si x3).getD (0 + v11.toNat) []).getD 1 undef) = .v (.int .i64 ((gt x3 v11).2)))) ∧ ((True) ∧ ((.v (.bool (decide (((gt x3 v11).2) < ((gt x3 (IntKind.wrap .i64 (v11 - 1))).2)))) : AV) = (.v (.bool v12) : AV))) ∧ True) (by kernel_rfl) ⟨g14, ⟨⟨trivial, (congrArg (fun z : List Value => AV.v (z.getD 1 undef)) (idx_arr (enc := enc_si) rfl g14))⟩, ⟨g15, ⟨⟨trivial, (congrArg (fun z : List Value => AV.v (z.getD 1 undef)) (idx_arr (enc := enc_si) rfl g15))⟩, ⟨⟨trivial, (congrArg (fun z => AV.v (.bool z)) q16)⟩, trivial⟩⟩⟩⟩⟩ trivial ?_
      rcases bool_cases (v12) with b17 | b17
      · replace h := cd_t b17 h
        refine AX.condT (v12) (by kernel_rfl) b17 ?_
        refine AX.seq ?_
        refine AX.reg (its := []) [2] [] (s1 := ⟨[(2, .v (.bool false))], []⟩) (C := True) (by kernel_rfl) trivial trivial ?_
        refine AX.ret ?_
        refine fin_wk (Wk.forget [2] [] (s' := ⟨[(2, .v (.bool false))], []⟩) (by kernel_rfl)) ?_
        have hr := Option.some.inj h
        subst hr
        exact ⟨_, Wk.refl _, .inl ⟨(), rfl, rfl, rfl⟩⟩
      · replace h := cd_f b17 h
        refine AX.condF (v12) (by kernel_rfl) b17 ?_
        refine AX.skip ?_
        refine AX.reg (its := [.auto {}, .auto { raw := true }]) [3, 4, 5] [0, 1, 2, 3] (s1 := ⟨[(3, .pt 0 0), (4, .pt 2 0), (5, .v (.int .i64 (IntKind.wrap .i64 (v11 + 1))))], [(0, .box [.sl 1 0 x2.length]), (1, .arr 2 (List.map enc_si x2)), (2, .box [.sl 3 0 x3.length]), (3, .arr 2 (List.map enc_si x3))]⟩) (C := True) (by kernel_rfl) trivial trivial ?_
        refine ⟨(fu, IntKind.wrap .i64 (v11 + 1)), h, Nat.lt_succ_self _, ?_⟩
        refine Wk.trans (Wk.forget [3, 4, 5] [0, 1, 2, 3] (s' := ⟨[(3, .pt 0 0), (4, .pt 2 0), (5, .v (.int .i64 (IntKind.wrap .i64 (v11 + 1))))], [(0, .box [.sl 1 0 x2.length]), (1, .arr 2 (List.map enc_si x2)), (2, .box [.sl 3 0 x3.length]), (3, .arr 2 (List.map enc_si x3))]⟩) (by kernel_rfl)) ?_
        exact Wk.refl _
    · replace h := cd_f b13 h
      refine AX.condF (decide (v11 < (x3.length : Int))) (by kernel_rfl) b13 ?_
      refine AX.exit ?_
      refine fin_wk (Wk.forget [3, 4] [0, 1, 2, 3] (s' := ⟨[(3, .pt 0 0), (4, .pt 2 0)], [(0, .box [.sl 1 0 x2.length]), (1, .arr 2 (List.map enc_si x2)), (2, .box [.sl 3 0 x3.length]), (3, .arr 2 (List.map enc_si x3))]⟩) (by kernel_rfl)) ?_
      have hr := Option.some.inj h
      subst hr
      exact ⟨_, Wk.refl _, .inr ⟨(), rfl, rfl, rfl⟩⟩

theorem s_laws_FnSortEnum_L2 (x2 : List (ByteArray × Int)) (x3 : List (ByteArray × Int)) (x16 : List (ByteArray)) (n : Nat) (g : Int) (out : Unit ⊕ Unit) (h : m_laws_FnSortEnum_L2 x2 x3 x16 n g = some out) :
    AX Try.prog 83 0 (codeAt [1, 1, 1, 1, 1, 1, 1, 0, 1, 1] (bodyOf Try.f5)) ((fun g : Int => (⟨[(3, .pt 0 0), (4, .pt 2 0), (6, .sl 4 0 x16.length), (7, .v (.int .i64 g))], [(0, .box [.sl 1 0 x2.length]), (1, .arr 2 (List.map enc_si x2)), (2, .box [.sl 3 0 x3.length]), (3, .arr 2 (List.map enc_si x3)), (4, .arr 1 (List.map enc_s x16))]⟩ : S)) g) (fun ex s => (∃ o : Unit, out = Sum.inl o ∧ ex = .ret ∧ s = ⟨[(2, .v (.bool false))], []⟩) ∨ (∃ o : Unit, out = Sum.inr o ∧ ex = .exit 2 ∧ s = ⟨[(3, .pt 0 0), (4, .pt 2 0), (6, .sl 4 0 x16.length)], [(0, .box [.sl 1 0 x2.length]), (1, .arr 2 (List.map enc_si x2)), (2, .box [.sl 3 0 x3.length]), (3, .arr 2 (List.map enc_si x3)), (4, .arr 1 (List.map enc_s x16))]⟩)) := by
  refine AX.wkpost ?_
  refine AX.loop (G := Nat × (Int)) (fun q => (fun g : Int => (⟨[(3, .pt 0 0), (4, .pt 2 0), (6, .sl 4 0 x16.length), (7, .v (.int .i64 g))], [(0, .box [.sl 1 0 x2.length]), (1, .arr 2 (List.map enc_si x2)), (2, .box [.sl 3 0 x3.length]), (3, .arr 2 (List.map enc_si x3)), (4, .arr 1 (List.map enc_s x16))]⟩ : S)) q.2) (fun q => m_laws_FnSortEnum_L2 x2 x3 x16 q.1 q.2 = some out) (fun q => q.1) (n, g) h (Wk.refl _) ?_
  clear h
  rintro ⟨fu, v17⟩ h
  cases fu with
  | zero => cases h
  | succ fu =>
    rw [m_laws_FnSortEnum_L2] at h
    refine AX.seq ?_
    refine AX.seq ?_
    refine AX.reg (its := []) [3, 4, 6, 7, 55] [0, 1, 2, 3, 4] (s1 := ⟨[(3, .pt 0 0), (4, .pt 2 0), (6, .sl 4 0 x16.length), (7, .v (.int .i64 v17)), (55, .v (.bool (decide (v17 < (x16.length : Int)))))], [(0, .box [.sl 1 0 x2.length]), (1, .arr 2 (List.map enc_si x2)), (2, .box [.sl 3 0 x3.length]), (3, .arr 2 (List.map enc_si x3)), (4, .arr 1 (List.map enc_s x16))]⟩) (C := True) (by kernel_rfl) trivial trivial ?_
    rcases bool_cases (decide (v17 < (x16.length : Int))) with b20 | b20
    · replace h := cd_t b20 h
      refine AX.condT (decide (v17 < (x16.length : Int))) (by kernel_rfl) b20 ?_
      refine AX.skip ?_
      refine AX.seq ?_
      refine AX.block ?_
      refine AX.seq ?_
      obtain ⟨x18, e21, h⟩ := bd_e h
      obtain ⟨g22, h⟩ := gd_e h
      obtain ⟨x19, e23, h⟩ := bd_e h
      refine AX.drw mixed (its := [.auto {}, .call 27 [.agg [.sl 1 0 x2.length]] (handO (rho ([] ++ [5])) [] [] ++ [(1, .arr 2 (List.map enc_si x2))]) (callEv [] [5] (.sl 0 0 x18.length) [.arr 1 (List.map enc_s x18)]), .auto {}, .auto {}, .auto {}, .auto { y := some (.v (.string (gt x16 v17))) }, .call 28 [.sl 5 0 x18.length, .v (.string (gt x16 v17))] (handO (rho ([] ++ [])) [] [] ++ [(5, .arr 1 (List.map enc_s x18))]) (callEv [] [] (.v (.bool x19)) [])]) [3, 4, 6, 7, 65] [0, 1, 2, 3, 4] (s1 := ⟨[(3, .pt 0 0), (4, .pt 2 0), (6, .sl 4 0 x16.length), (7, .v (.int .i64 v17)), (65, .v (.bool (!x19)))], [(0, .box [.sl 1 0 x2.length]), (1, .arr 2 (List.map enc_si x2)), (2, .box [.sl 3 0 x3.length]), (3, .arr 2 (List.map enc_si x3)), (4, .arr 1 (List.map enc_s x16))]⟩) (C := ((([.agg [.sl 1 0 x2.length]] : List AV) = [.agg [.sl 1 0 x2.length]]) ∧ (AO.arr 2 (List.map enc_si x2) = AO.arr 2 (List.map enc_si x2)) ∧ True) ∧ (0 ≤ v17 ∧ v17 < (x16.length : Int)) ∧ (True ∧ (AV.v (((List.map enc_s x16).getD (0 + v17.toNat) []).getD 0 undef) = .v (.string (gt x16 v17)))) ∧ ((([.sl 5 0 x18.length, .v (.string (gt x16 v17))] : List AV) = [.sl 5 0 x18.length, .v (.string (gt x16 v17))]) ∧ (AO.arr 1 (List.map enc_s x18) = AO.arr 1 (List.map enc_s x18)) ∧ True) ∧ True) (by kernel_rfl) ⟨⟨rfl, rfl, trivial⟩, ⟨g22, ⟨⟨trivial, (congrArg (fun z : List Value => AV.v (z.getD 0 undef)) (idx_arr (enc := enc_s) rfl g22))⟩, ⟨⟨rfl, rfl, trivial⟩, trivial⟩⟩⟩⟩ ⟨call_ok (ks := []) (ns := [5]) (bor := [1]) (bobjs := [(1, .arr 2 (List.map enc_si x2))]) (s_impl_MembersOf x2 x18 e21) (.cons (.c1 (.agg (.cons (.arr rfl rfl ((rfl).trans (List.length_map ..).symm)) (.nil)))) (.nil)) (by kernel_rfl) trivial, ⟨call_ok (ks := []) (ns := []) (bor := [5]) (bobjs := [(5, .arr 1 (List.map enc_s x18))]) (s_laws_hasText x18 (gt x16 v17) x19 e23) (.cons (.c1 (.c0 (.arr rfl rfl ((rfl).trans (List.length_map ..).symm)))) (.cons (.c1 (.c0 (.same _ (by kernel_rfl) (by kernel_rfl)))) (.nil))) (by kernel_rfl) trivial, trivial⟩⟩ ?_
      rcases bool_cases ((!x19)) with b24 | b24
      · replace h := cd_t b24 h
        refine AX.condT ((!x19)) (by kernel_rfl) b24 ?_
        refine AX.seq ?_
        refine AX.reg (its := []) [2] [] (s1 := ⟨[(2, .v (.bool false))], []⟩) (C := True) (by kernel_rfl) trivial trivial ?_
        refine AX.ret ?_
        refine fin_wk (Wk.forget [2] [] (s' := ⟨[(2, .v (.bool false))], []⟩) (by kernel_rfl)) ?_
        have hr := Option.some.inj h
        subst hr
        exact ⟨_, Wk.refl _, .inl ⟨(), rfl, rfl, rfl⟩⟩
      · replace h := cd_f b24 h
        refine AX.condF ((!x19)) (by kernel_rfl) b24 ?_
        refine AX.skip ?_
        refine AX.reg (its := [.auto {}, .auto { raw := true }]) [3, 4, 6, 7] [0, 1, 2, 3, 4] (s1 := ⟨[(3, .pt 0 0), (4, .pt 2 0), (6, .sl 4 0 x16.length), (7, .v (.int .i64 (IntKind.wrap .i64 (v17 + 1))))], [(0, .box [.sl 1 0 x2.length]), (1, .arr 2 (List.map enc_si x2)), (2, .box [.sl 3 0 x3.length]), (3, .arr 2 (List.map enc_si x3)), (4, .arr 1 (List.map enc_s x16))]⟩) (C := True) (by kernel_rfl) trivial trivial ?_
        refine ⟨(fu, IntKind.wrap .i64 (v17 + 1)), h, Nat.lt_succ_self _, ?_⟩
        refine Wk.trans (Wk.forget [3, 4, 6, 7] [0, 1, 2, 3, 4] (s' := ⟨[(3, .pt 0 0), (4, .pt 2 0), (6, .sl 4 0 x16.length), (7, .v (.int .i64 (IntKind.wrap .i64 (v17 + 1))))], [(0, .box [.sl 1 0 x2.length]), (1, .arr 2 (List.map enc_si x2)), (2, .box [.sl 3 0 x3.length]), (3, .arr 2 (List.map enc_si x3)), (4, .arr 1 (List.map enc_s x16))]⟩) (by kernel_rfl)) ?_
        exact Wk.refl _
    · replace h := cd_f b20 h
      refine AX.condF (decide (v17 < (x16.length : Int))) (by kernel_rfl) b20 ?_
      refine AX.exit ?_
      refine fin_wk (Wk.forget [3, 4, 6] [0, 1, 2, 3, 4] (s' := ⟨[(3, .pt 0 0), (4, .pt 2 0), (6, .sl 4 0 x16.length)], [(0, .box [.sl 1 0 x2.length]), (1, .arr 2 (List.map enc_si x2)), (2, .box [.sl 3 0 x3.length]), (3, .arr 2 (List.map enc_si x3)), (4, .arr 1 (List.map enc_s x16))]⟩) (by kernel_rfl)) ?_
      have hr := Option.some.inj h
      subst hr
      exact ⟨_, Wk.refl _, .inr ⟨(), rfl, rfl, rfl⟩⟩

theorem s_laws_FnSortEnum (p1 : List (Int)) (r : Bool) (h : m_laws_FnSortEnum p1 = some r) :
    Eng.Spec Try.prog 5 [.bs true 1 (List.map enc_y p1)] [] (.v (.bool r)) [] := by
  unfold m_laws_FnSortEnum at h
  refine Eng.Spec.body Try.func5 (by kernel_rfl) rfl (by kernel_rfl) ?_
  refine AX.wkpost ?_
  refine AX.seq ?_
  refine AX.reg (its := []) [0] [] (s1 := ⟨[(0, .bs true 1 (List.map enc_y p1))], []⟩) (C := True) (by kernel_rfl) trivial trivial ?_
  refine AX.seq ?_
  refine AX.seq ?_
  refine AX.reg (its := [.auto {}, .auto { y := some (.v (.int .i64 (p1.length : Int))) }]) [0, 10] [] (s1 := ⟨[(0, .bs true 1 (List.map enc_y p1)), (10, .v (.bool (decide (1048576 < (p1.length : Int)))))], []⟩) (C := (True ∧ (AV.v (.int .i64 ((List.map enc_y p1).length : Int)) = AV.v (.int .i64 (p1.length : Int)))) ∧ True) (by kernel_rfl) ⟨⟨trivial, len_map enc_y p1⟩, trivial⟩ trivial ?_
  rcases bool_cases (decide (1048576 < (p1.length : Int))) with b1 | b1
  · replace h := cd_t b1 h
    refine AX.condT (decide (1048576 < (p1.length : Int))) (by kernel_rfl) b1 ?_
    refine AX.seq ?_
    refine AX.reg (its := []) [2] [] (s1 := ⟨[(2, .v (.bool true))], []⟩) (C := True) (by kernel_rfl) trivial trivial ?_
    refine AX.ret ?_
    refine fin_wk (Wk.forget [2] [] (s' := ⟨[(2, .v (.bool true))], []⟩) (by kernel_rfl)) ?_
    have hr := Option.some.inj h
    subst hr
    exact ⟨_, Wk.refl _, .inr rfl, ⟨[], by kernel_rfl, trivial, [.v (.bool true)], by kernel_rfl, by kernel_rfl⟩⟩
  · replace h := cd_f b1 h
    refine AX.condF (decide (1048576 < (p1.length : Int))) (by kernel_rfl) b1 ?_
    refine AX.skip ?_
    refine AX.seq ?_
    obtain ⟨x2, e2, h⟩ := bd_e h
    refine AX.reg (its := [.auto {}, .call 24 [.bs true 1 (List.map enc_y p1)] (handO (rho ([] ++ [0])) [] [] ++ []) (callEv [] [0] (.agg [.sl 0 0 x2.length]) [.arr 2 (List.map enc_si x2)]), .auto { nk := 1 }]) [3] [0, 1] (s1 := ⟨[(3, .pt 1 0)], [(0, .arr 2 (List.map enc_si x2)), (1, .box [.sl 0 0 x2.length])]⟩) (C := ((([.bs true 1 (List.map enc_y p1)] : List AV) = [.bs true 1 (List.map enc_y p1)]) ∧ True) ∧ True) (by kernel_rfl) ⟨⟨rfl, trivial⟩, trivial⟩ ⟨call_ok (ks := []) (ns := [0]) (bor := []) (bobjs := []) (s_spec_DrawSortEnum p1 x2 e2) (.cons (.c1 (.c0 (.same _ (by kernel_rfl) (by kernel_rfl)))) (.nil)) (by kernel_rfl) trivial, trivial⟩ ?_
    refine AX.seq ?_
    obtain ⟨x3, e3, h⟩ := bd_e h
    refine AX.reg (its := [.auto {}, .call 25 [.agg [.sl 0 0 x2.length]] (handO (rho ([] ++ [2])) [] [] ++ [(0, .arr 2 (List.map enc_si x2))]) (callEv [] [2] (.agg [.sl 0 0 x3.length]) [.arr 2 (List.map enc_si x3)]), .auto { nk := 3 }]) [3, 4] [0, 1, 2, 3] (s1 := ⟨[(3, .pt 1 0), (4, .pt 3 0)], [(0, .arr 2 (List.map enc_si x2)), (1, .box [.sl 0 0 x2.length]), (2, .arr 2 (List.map enc_si x3)), (3, .box [.sl 2 0 x3.length])]⟩) (C := ((([.agg [.sl 0 0 x2.length]] : List AV) = [.agg [.sl 0 0 x2.length]]) ∧ (AO.arr 2 (List.map enc_si x2) = AO.arr 2 (List.map enc_si x2)) ∧ True) ∧ True) (by kernel_rfl) ⟨⟨rfl, rfl, trivial⟩, trivial⟩ ⟨call_ok (ks := []) (ns := [2]) (bor := [0]) (bobjs := [(0, .arr 2 (List.map enc_si x2))]) (s_impl_SortEnum x2 x3 e3) (.cons (.c1 (.agg (.cons (.arr rfl rfl ((rfl).trans (List.length_map ..).symm)) (.nil)))) (.nil)) (by kernel_rfl) trivial, trivial⟩ ?_
    refine AX.seq ?_
    refine AX.seq ?_
    obtain ⟨x4, e4, h⟩ := bd_e h
    obtain ⟨x5, e5, h⟩ := bd_e h
    rcases bool_cases ((!x5)) with b6 | b6
    · replace h := cd_t b6 h
      refine AX.drw mixed (its := [.auto {}, .auto {}, .call 26 [.agg [.sl 0 0 x2.length]] (handO (rho ([] ++ [4])) [] [] ++ [(0, .arr 2 (List.map enc_si x2))]) (callEv [] [4] (.agg [.sl 0 0 x4.length]) [.arr 2 (List.map enc_si x4)]), .call 11 [.agg [.sl 2 0 x3.length], .agg [.sl 4 0 x4.length]] (handO (rho ([] ++ [])) [] [] ++ [(2, .arr 2 (List.map enc_si x3)), (4, .arr 2 (List.map enc_si x4))]) (callEv [] [] (.v (.bool x5)) []), .auto { y := some (.v (.bool true)) }]) [3, 4, 24] [0, 1, 2, 3] (s1 := ⟨[(3, .pt 1 0), (4, .pt 3 0), (24, .v (.bool true))], [(0, .arr 2 (List.map enc_si x2)), (1, .box [.sl 0 0 x2.length]), (2, .arr 2 (List.map enc_si x3)), (3, .box [.sl 2 0 x3.length])]⟩) (C := ((([.agg [.sl 0 0 x2.length]] : List AV) = [.agg [.sl 0 0 x2.length]]) ∧ (AO.arr 2 (List.map enc_si x2) = AO.arr 2 (List.map enc_si x2)) ∧ True) ∧ ((([.agg [.sl 2 0 x3.length], .agg [.sl 4 0 x4.length]] : List AV) = [.agg [.sl 2 0 x3.length], .agg [.sl 4 0 x4.length]]) ∧ (AO.arr 2 (List.map enc_si x3) = AO.arr 2 (List.map enc_si x3)) ∧ (AO.arr 2 (List.map enc_si x4) = AO.arr 2 (List.map enc_si x4)) ∧ True) ∧ ((True) ∧ ((.v (.bool (!x5)) : AV) = (.v (.bool true) : AV))) ∧ True) (by kernel_rfl) ⟨⟨rfl, rfl, trivial⟩, ⟨⟨rfl, rfl, rfl, trivial⟩, ⟨⟨trivial, (congrArg (fun z => AV.v (.bool z)) b6)⟩, trivial⟩⟩⟩ ⟨call_ok (ks := []) (ns := [4]) (bor := [0]) (bobjs := [(0, .arr 2 (List.map enc_si x2))]) (s_spec_SortEnum x2 x4 e4) (.cons (.c1 (.agg (.cons (.arr rfl rfl ((rfl).trans (List.length_map ..).symm)) (.nil)))) (.nil)) (by kernel_rfl) trivial, ⟨call_ok (ks := []) (ns := []) (bor := [2, 4]) (bobjs := [(2, .arr 2 (List.map enc_si x3)), (4, .arr 2 (List.map enc_si x4))]) (s_laws_equalEnum x3 x4 x5 e5) (.cons (.c1 (.agg (.cons (.arr rfl rfl ((rfl).trans (List.length_map ..).symm)) (.nil)))) (.cons (.c1 (.agg (.cons (.arr rfl rfl ((rfl).trans (List.length_map ..).symm)) (.nil)))) (.nil))) (by kernel_rfl) trivial, trivial⟩⟩ ?_
      refine AX.cond_true (by kernel_rfl) ?_
      refine AX.seq ?_
      obtain ⟨x6, e7, h⟩ := bd_e h
      obtain ⟨x7, e8, h⟩ := bd_e h
      refine AX.drw mixed (its := [.auto {}, .auto {}, .call 26 [.agg [.sl 0 0 x2.length]] (handO (rho ([] ++ [4])) [] [] ++ [(0, .arr 2 (List.map enc_si x2))]) (callEv [] [4] (.agg [.sl 0 0 x6.length]) [.arr 2 (List.map enc_si x6)]), .call 11 [.agg [.sl 2 0 x3.length], .agg [.sl 4 0 x6.length]] (handO (rho ([] ++ [])) [] [] ++ [(2, .arr 2 (List.map enc_si x3)), (4, .arr 2 (List.map enc_si x6))]) (callEv [] [] (.v (.bool x7)) [])]) [2] [] (s1 := ⟨[(2, .v (.bool x7))], []⟩) (C := ((([.agg [.sl 0 0 x2.length]] : List AV) = [.agg [.sl 0 0 x2.length]]) ∧ (AO.arr 2 (List.map enc_si x2) = AO.arr 2 (List.map enc_si x2)) ∧ True) ∧ ((([.agg [.sl 2 0 x3.length], .agg [.sl 4 0 x6.length]] : List AV) = [.agg [.sl 2 0 x3.length], .agg [.sl 4 0 x6.length]]) ∧ (AO.arr 2 (List.map enc_si x3) = AO.arr 2 (List.map enc_si x3)) ∧ (AO.arr 2 (List.map enc_si x6) = AO.arr 2 (List.map enc_si x6)) ∧ True) ∧ True) (by kernel_rfl) ⟨⟨rfl, rfl, trivial⟩, ⟨⟨rfl, rfl, rfl, trivial⟩, trivial⟩⟩ ⟨call_ok (ks := []) (ns := [4]) (bor := [0]) (bobjs := [(0, .arr 2 (List.map enc_si x2))]) (s_spec_SortEnum x2 x6 e7) (.cons (.c1 (.agg (.cons (.arr rfl rfl ((rfl).trans (List.length_map ..).symm)) (.nil)))) (.nil)) (by kernel_rfl) trivial, ⟨call_ok (ks := []) (ns := []) (bor := [2, 4]) (bobjs := [(2, .arr 2 (List.map enc_si x3)), (4, .arr 2 (List.map enc_si x6))]) (s_laws_equalEnum x3 x6 x7 e8) (.cons (.c1 (.agg (.cons (.arr rfl rfl ((rfl).trans (List.length_map ..).symm)) (.nil)))) (.cons (.c1 (.agg (.cons (.arr rfl rfl ((rfl).trans (List.length_map ..).symm)) (.nil)))) (.nil))) (by kernel_rfl) trivial, trivial⟩⟩ ?_
      refine AX.ret ?_
      refine fin_wk (Wk.forget [2] [] (s' := ⟨[(2, .v (.bool x7))], []⟩) (by kernel_rfl)) ?_
      have hr := Option.some.inj h
      subst hr
      exact ⟨_, Wk.refl _, .inr rfl, ⟨[], by kernel_rfl, trivial, [.v (.bool x7)], by kernel_rfl, by kernel_rfl⟩⟩
    · replace h := cd_f b6 h
      obtain ⟨x8, e9, h⟩ := bd_e h
      refine AX.drw mixed (its := [.auto {}, .auto {}, .call 26 [.agg [.sl 0 0 x2.length]] (handO (rho ([] ++ [4])) [] [] ++ [(0, .arr 2 (List.map enc_si x2))]) (callEv [] [4] (.agg [.sl 0 0 x4.length]) [.arr 2 (List.map enc_si x4)]), .call 11 [.agg [.sl 2 0 x3.length], .agg [.sl 4 0 x4.length]] (handO (rho ([] ++ [])) [] [] ++ [(2, .arr 2 (List.map enc_si x3)), (4, .arr 2 (List.map enc_si x4))]) (callEv [] [] (.v (.bool x5)) []), .auto { y := some (.v (.bool false)) }, .auto {}, .auto {}, .call 13 [.agg [.sl 0 0 x2.length]] (handO (rho ([] ++ [])) [] [] ++ [(0, .arr 2 (List.map enc_si x2))]) (callEv [] [] (.v (.bool x8)) [])]) [3, 4, 24] [0, 1, 2, 3] (s1 := ⟨[(3, .pt 1 0), (4, .pt 3 0), (24, .v (.bool (!x8)))], [(0, .arr 2 (List.map enc_si x2)), (1, .box [.sl 0 0 x2.length]), (2, .arr 2 (List.map enc_si x3)), (3, .box [.sl 2 0 x3.length])]⟩) (C := ((([.agg [.sl 0 0 x2.length]] : List AV) = [.agg [.sl 0 0 x2.length]]) ∧ (AO.arr 2 (List.map enc_si x2) = AO.arr 2 (List.map enc_si x2)) ∧ True) ∧ ((([.agg [.sl 2 0 x3.length], .agg [.sl 4 0 x4.length]] : List AV) = [.agg [.sl 2 0 x3.length], .agg [.sl 4 0 x4.length]]) ∧ (AO.arr 2 (List.map enc_si x3) = AO.arr 2 (List.map enc_si x3)) ∧ (AO.arr 2 (List.map enc_si x4) = AO.arr 2 (List.map enc_si x4)) ∧ True) ∧ ((True) ∧ ((.v (.bool (!x5)) : AV) = (.v (.bool false) : AV))) ∧ ((([.agg [.sl 0 0 x2.length]] : List AV) = [.agg [.sl 0 0 x2.length]]) ∧ (AO.arr 2 (List.map enc_si x2) = AO.arr 2 (List.map enc_si x2)) ∧ True) ∧ True) (by kernel_rfl) ⟨⟨rfl, rfl, trivial⟩, ⟨⟨rfl, rfl, rfl, trivial⟩, ⟨⟨trivial, (congrArg (fun z => AV.v (.bool z)) b6)⟩, ⟨⟨rfl, rfl, trivial⟩, trivial⟩⟩⟩⟩ ⟨call_ok (ks := []) (ns := [4]) (bor := [0]) (bobjs := [(0, .arr 2 (List.map enc_si x2))]) (s_spec_SortEnum x2 x4 e4) (.cons (.c1 (.agg (.cons (.arr rfl rfl ((rfl).trans (List.length_map ..).symm)) (.nil)))) (.nil)) (by kernel_rfl) trivial, ⟨call_ok (ks := []) (ns := []) (bor := [2, 4]) (bobjs := [(2, .arr 2 (List.map enc_si x3)), (4, .arr 2 (List.map enc_si x4))]) (s_laws_equalEnum x3 x4 x5 e5) (.cons (.c1 (.agg (.cons (.arr rfl rfl ((rfl).trans (List.length_map ..).symm)) (.nil)))) (.cons (.c1 (.agg (.cons (.arr rfl rfl ((rfl).trans (List.length_map ..).symm)) (.nil)))) (.nil))) (by kernel_rfl) trivial, ⟨call_ok (ks := []) (ns := []) (bor := [0]) (bobjs := [(0, .arr 2 (List.map enc_si x2))]) (s_impl_ValidEnum x2 x8 e9) (.cons (.c1 (.agg (.cons (.arr rfl rfl ((rfl).trans (List.length_map ..).symm)) (.nil)))) (.nil)) (by kernel_rfl) trivial, trivial⟩⟩⟩ ?_
      rcases bool_cases ((!x8)) with b10 | b10
      · replace h := cd_t b10 h
        refine AX.condT ((!x8)) (by kernel_rfl) b10 ?_
        refine AX.seq ?_
        obtain ⟨x9, e11, h⟩ := bd_e h
        obtain ⟨x10, e12, h⟩ := bd_e h
        refine AX.drw mixed (its := [.auto {}, .auto {}, .call 26 [.agg [.sl 0 0 x2.length]] (handO (rho ([] ++ [4])) [] [] ++ [(0, .arr 2 (List.map enc_si x2))]) (callEv [] [4] (.agg [.sl 0 0 x9.length]) [.arr 2 (List.map enc_si x9)]), .call 11 [.agg [.sl 2 0 x3.length], .agg [.sl 4 0 x9.length]] (handO (rho ([] ++ [])) [] [] ++ [(2, .arr 2 (List.map enc_si x3)), (4, .arr 2 (List.map enc_si x9))]) (callEv [] [] (.v (.bool x10)) [])]) [2] [] (s1 := ⟨[(2, .v (.bool x10))], []⟩) (C := ((([.agg [.sl 0 0 x2.length]] : List AV) = [.agg [.sl 0 0 x2.length]]) ∧ (AO.arr 2 (List.map enc_si x2) = AO.arr 2 (List.map enc_si x2)) ∧ True) ∧ ((([.agg [.sl 2 0 x3.length], .agg [.sl 4 0 x9.length]] : List AV) = [.agg [.sl 2 0 x3.length], .agg [.sl 4 0 x9.length]]) ∧ (AO.arr 2 (List.map enc_si x3) = AO.arr 2 (List.map enc_si x3)) ∧ (AO.arr 2 (List.map enc_si x9) = AO.arr 2 (List.map enc_si x9)) ∧ True) ∧ True) (by kernel_rfl) ⟨⟨rfl, rfl, trivial⟩, ⟨⟨rfl, rfl, rfl, trivial⟩, trivial⟩⟩ ⟨call_ok (ks := []) (ns := [4]) (bor := [0]) (bobjs := [(0, .arr 2 (List.map enc_si x2))]) (s_spec_SortEnum x2 x9 e11) (.cons (.c1 (.agg (.cons (.arr rfl rfl ((rfl).trans (List.length_map ..).symm)) (.nil)))) (.nil)) (by kernel_rfl) trivial, ⟨call_ok (ks := []) (ns := []) (bor := [2, 4]) (bobjs := [(2, .arr 2 (List.map enc_si x3)), (4, .arr 2 (List.map enc_si x9))]) (s_laws_equalEnum x3 x9 x10 e12) (.cons (.c1 (.agg (.cons (.arr rfl rfl ((rfl).trans (List.length_map ..).symm)) (.nil)))) (.cons (.c1 (.agg (.cons (.arr rfl rfl ((rfl).trans (List.length_map ..).symm)) (.nil)))) (.nil))) (by kernel_rfl) trivial, trivial⟩⟩ ?_
        refine AX.ret ?_
        refine fin_wk (Wk.forget [2] [] (s' := ⟨[(2, .v (.bool x10))], []⟩) (by kernel_rfl)) ?_
        have hr := Option.some.inj h
        subst hr
        exact ⟨_, Wk.refl _, .inr rfl, ⟨[], by kernel_rfl, trivial, [.v (.bool x10)], by kernel_rfl, by kernel_rfl⟩⟩
      · replace h := cd_f b10 h
        refine AX.condF ((!x8)) (by kernel_rfl) b10 ?_
        refine AX.skip ?_
        refine AX.seq ?_
        refine AX.seq ?_
        refine AX.reg (its := []) [3, 4, 5] [0, 1, 2, 3] (s1 := ⟨[(3, .pt 1 0), (4, .pt 3 0), (5, .v (.int .i64 1))], [(0, .arr 2 (List.map enc_si x2)), (1, .box [.sl 0 0 x2.length]), (2, .arr 2 (List.map enc_si x3)), (3, .box [.sl 2 0 x3.length])]⟩) (C := True) (by kernel_rfl) trivial trivial ?_
        refine AX.block ?_
        obtain ⟨x13, e18, h⟩ := bd_e h
        refine AX.wk (Wk.swap 0 1 (Nat.le_of_ble_eq_true (by kernel_rfl)) (Nat.le_of_ble_eq_true (by kernel_rfl)) rfl) ?_
        refine AX.wk (Wk.swap 2 3 (Nat.le_of_ble_eq_true (by kernel_rfl)) (Nat.le_of_ble_eq_true (by kernel_rfl)) rfl) ?_
        refine AX.wk (Wk.forget [3, 4, 5] [0, 1, 2, 3] (s' := ⟨[(3, .pt 0 0), (4, .pt 2 0), (5, .v (.int .i64 1))], [(0, .box [.sl 1 0 x2.length]), (1, .arr 2 (List.map enc_si x2)), (2, .box [.sl 3 0 x3.length]), (3, .arr 2 (List.map enc_si x3))]⟩) (by kernel_rfl)) ?_
        refine AX.mono (s_laws_FnSortEnum_L1 x2 x3 FU 1 x13 e18) ?_
        rintro _ _ (⟨x14, rfl, rfl, rfl⟩ | ⟨x15, rfl, rfl, rfl⟩)
        · replace h := sm_l h
          refine fin_wk (Wk.forget [2] [] (s' := ⟨[(2, .v (.bool false))], []⟩) (by kernel_rfl)) ?_
          have hr := Option.some.inj h
          subst hr
          exact ⟨_, Wk.refl _, .inr rfl, ⟨[], by kernel_rfl, trivial, [.v (.bool false)], by kernel_rfl, by kernel_rfl⟩⟩
        · replace h := sm_r h
          refine AX.seq ?_
          obtain ⟨x16, e19, h⟩ := bd_e h
          refine AX.reg (its := [.auto {}, .call 27 [.agg [.sl 3 0 x3.length]] (handO (rho ([] ++ [4])) [] [] ++ [(3, .arr 2 (List.map enc_si x3))]) (callEv [] [4] (.sl 0 0 x16.length) [.arr 1 (List.map enc_s x16)])]) [3, 4, 6] [0, 1, 2, 3, 4] (s1 := ⟨[(3, .pt 0 0), (4, .pt 2 0), (6, .sl 4 0 x16.length)], [(0, .box [.sl 1 0 x2.length]), (1, .arr 2 (List.map enc_si x2)), (2, .box [.sl 3 0 x3.length]), (3, .arr 2 (List.map enc_si x3)), (4, .arr 1 (List.map enc_s x16))]⟩) (C := ((([.agg [.sl 3 0 x3.length]] : List AV) = [.agg [.sl 3 0 x3.length]]) ∧ (AO.arr 2 (List.map enc_si x3) = AO.arr 2 (List.map enc_si x3)) ∧ True) ∧ True) (by kernel_rfl) ⟨⟨rfl, rfl, trivial⟩, trivial⟩ ⟨call_ok (ks := []) (ns := [4]) (bor := [3]) (bobjs := [(3, .arr 2 (List.map enc_si x3))]) (s_impl_MembersOf x3 x16 e19) (.cons (.c1 (.agg (.cons (.arr rfl rfl ((rfl).trans (List.length_map ..).symm)) (.nil)))) (.nil)) (by kernel_rfl) trivial, trivial⟩ ?_
          refine AX.seq ?_
          refine AX.seq ?_
          refine AX.reg (its := []) [3, 4, 6, 7] [0, 1, 2, 3, 4] (s1 := ⟨[(3, .pt 0 0), (4, .pt 2 0), (6, .sl 4 0 x16.length), (7, .v (.int .i64 0))], [(0, .box [.sl 1 0 x2.length]), (1, .arr 2 (List.map enc_si x2)), (2, .box [.sl 3 0 x3.length]), (3, .arr 2 (List.map enc_si x3)), (4, .arr 1 (List.map enc_s x16))]⟩) (C := True) (by kernel_rfl) trivial trivial ?_
          refine AX.block ?_
          obtain ⟨x20, e25, h⟩ := bd_e h
          refine AX.wk (Wk.forget [3, 4, 6, 7] [0, 1, 2, 3, 4] (s' := ⟨[(3, .pt 0 0), (4, .pt 2 0), (6, .sl 4 0 x16.length), (7, .v (.int .i64 0))], [(0, .box [.sl 1 0 x2.length]), (1, .arr 2 (List.map enc_si x2)), (2, .box [.sl 3 0 x3.length]), (3, .arr 2 (List.map enc_si x3)), (4, .arr 1 (List.map enc_s x16))]⟩) (by kernel_rfl)) ?_
          refine AX.mono (s_laws_FnSortEnum_L2 x2 x3 x16 FU 0 x20 e25) ?_
          rintro _ _ (⟨x21, rfl, rfl, rfl⟩ | ⟨x22, rfl, rfl, rfl⟩)
          · replace h := sm_l h
            refine fin_wk (Wk.forget [2] [] (s' := ⟨[(2, .v (.bool false))], []⟩) (by kernel_rfl)) ?_
            have hr := Option.some.inj h
            subst hr
            exact ⟨_, Wk.refl _, .inr rfl, ⟨[], by kernel_rfl, trivial, [.v (.bool false)], by kernel_rfl, by kernel_rfl⟩⟩
          · replace h := sm_r h
            refine AX.seq ?_
            obtain ⟨x23, e26, h⟩ := bd_e h
            rcases bool_cases (x23) with b27 | b27
            · replace h := cd_t b27 h
              obtain ⟨x24, e28, h⟩ := bd_e h
              obtain ⟨x25, e29, h⟩ := bd_e h
              rcases bool_cases (x25) with b30 | b30
              · replace h := cd_t b30 h
                obtain ⟨x26, e31, h⟩ := bd_e h
                refine AX.drw mixed (its := [.auto {}, .auto {}, .call 14 [.agg [.sl 3 0 x3.length], .agg [.sl 1 0 x2.length]] (handO (rho ([] ++ [])) [] [] ++ [(3, .arr 2 (List.map enc_si x3)), (1, .arr 2 (List.map enc_si x2))]) (callEv [] [] (.v (.bool true)) []), .auto {}, .auto {}, .call 25 [.agg [.sl 3 0 x3.length]] (handO (rho ([] ++ [5])) [] [] ++ [(3, .arr 2 (List.map enc_si x3))]) (callEv [] [5] (.agg [.sl 0 0 x24.length]) [.arr 2 (List.map enc_si x24)]), .auto {}, .call 11 [.agg [.sl 5 0 x24.length], .agg [.sl 3 0 x3.length]] (handO (rho ([] ++ [])) [] [] ++ [(5, .arr 2 (List.map enc_si x24)), (3, .arr 2 (List.map enc_si x3))]) (callEv [] [] (.v (.bool true)) []), .auto {}, .auto {}, .auto {}, .auto {}, .auto {}, .call 27 [.agg [.sl 1 0 x2.length]] (handO (rho ([] ++ [6])) [] [] ++ [(1, .arr 2 (List.map enc_si x2))]) (callEv [] [6] (.sl 0 0 x26.length) [.arr 1 (List.map enc_s x26)])]) [2] [] (s1 := ⟨[(2, .v (.bool (decide ((x16.length : Int) = (x26.length : Int)))))], []⟩) (C := ((([.agg [.sl 3 0 x3.length], .agg [.sl 1 0 x2.length]] : List AV) = [.agg [.sl 3 0 x3.length], .agg [.sl 1 0 x2.length]]) ∧ (AO.arr 2 (List.map enc_si x3) = AO.arr 2 (List.map enc_si x3)) ∧ (AO.arr 2 (List.map enc_si x2) = AO.arr 2 (List.map enc_si x2)) ∧ True) ∧ ((([.agg [.sl 3 0 x3.length]] : List AV) = [.agg [.sl 3 0 x3.length]]) ∧ (AO.arr 2 (List.map enc_si x3) = AO.arr 2 (List.map enc_si x3)) ∧ True) ∧ ((([.agg [.sl 5 0 x24.length], .agg [.sl 3 0 x3.length]] : List AV) = [.agg [.sl 5 0 x24.length], .agg [.sl 3 0 x3.length]]) ∧ (AO.arr 2 (List.map enc_si x24) = AO.arr 2 (List.map enc_si x24)) ∧ (AO.arr 2 (List.map enc_si x3) = AO.arr 2 (List.map enc_si x3)) ∧ True) ∧ ((([.agg [.sl 1 0 x2.length]] : List AV) = [.agg [.sl 1 0 x2.length]]) ∧ (AO.arr 2 (List.map enc_si x2) = AO.arr 2 (List.map enc_si x2)) ∧ True) ∧ True) (by kernel_rfl) ⟨⟨rfl, rfl, rfl, trivial⟩, ⟨⟨rfl, rfl, trivial⟩, ⟨⟨rfl, rfl, rfl, trivial⟩, ⟨⟨rfl, rfl, trivial⟩, trivial⟩⟩⟩⟩ ⟨call_ok (ks := []) (ns := []) (bor := [3, 1]) (bobjs := [(3, .arr 2 (List.map enc_si x3)), (1, .arr 2 (List.map enc_si x2))]) (show Eng.Spec Try.prog 14 [.agg [.bs false 2 (List.map enc_si x3)], .agg [.bs false 2 (List.map enc_si x2)]] [] (.v (.bool true)) [] from by have q := s_impl_SameMeaning x3 x2 x23 e26; rw [b27] at q; exact q) (.cons (.c1 (.agg (.cons (.arr rfl rfl ((rfl).trans (List.length_map ..).symm)) (.nil)))) (.cons (.c1 (.agg (.cons (.arr rfl rfl ((rfl).trans (List.length_map ..).symm)) (.nil)))) (.nil))) (by kernel_rfl) trivial, ⟨call_ok (ks := []) (ns := [5]) (bor := [3]) (bobjs := [(3, .arr 2 (List.map enc_si x3))]) (s_impl_SortEnum x3 x24 e28) (.cons (.c1 (.agg (.cons (.arr rfl rfl ((rfl).trans (List.length_map ..).symm)) (.nil)))) (.nil)) (by kernel_rfl) trivial, ⟨call_ok (ks := []) (ns := []) (bor := [5, 3]) (bobjs := [(5, .arr 2 (List.map enc_si x24)), (3, .arr 2 (List.map enc_si x3))]) (show Eng.Spec Try.prog 11 [.agg [.bs false 2 (List.map enc_si x24)], .agg [.bs false 2 (List.map enc_si x3)]] [] (.v (.bool true)) [] from by have q := s_laws_equalEnum x24 x3 x25 e29; rw [b30] at q; exact q) (.cons (.c1 (.agg (.cons (.arr rfl rfl ((rfl).trans (List.length_map ..).symm)) (.nil)))) (.cons (.c1 (.agg (.cons (.arr rfl rfl ((rfl).trans (List.length_map ..).symm)) (.nil)))) (.nil))) (by kernel_rfl) trivial, ⟨call_ok (ks := []) (ns := [6]) (bor := [1]) (bobjs := [(1, .arr 2 (List.map enc_si x2))]) (s_impl_MembersOf x2 x26 e31) (.cons (.c1 (.agg (.cons (.arr rfl rfl ((rfl).trans (List.length_map ..).symm)) (.nil)))) (.nil)) (by kernel_rfl) trivial, trivial⟩⟩⟩⟩ ?_
                refine AX.ret ?_
                refine fin_wk (Wk.forget [2] [] (s' := ⟨[(2, .v (.bool (decide ((x16.length : Int) = (x26.length : Int)))))], []⟩) (by kernel_rfl)) ?_
                have hr := Option.some.inj h
                subst hr
                exact ⟨_, Wk.refl _, .inr rfl, ⟨[], by kernel_rfl, trivial, [.v (.bool (decide ((x16.length : Int) = (x26.length : Int))))], by kernel_rfl, by kernel_rfl⟩⟩
              · replace h := cd_f b30 h
                refine AX.drw mixed (its := [.auto {}, .auto {}, .call 14 [.agg [.sl 3 0 x3.length], .agg [.sl 1 0 x2.length]] (handO (rho ([] ++ [])) [] [] ++ [(3, .arr 2 (List.map enc_si x3)), (1, .arr 2 (List.map enc_si x2))]) (callEv [] [] (.v (.bool true)) []), .auto {}, .auto {}, .call 25 [.agg [.sl 3 0 x3.length]] (handO (rho ([] ++ [5])) [] [] ++ [(3, .arr 2 (List.map enc_si x3))]) (callEv [] [5] (.agg [.sl 0 0 x24.length]) [.arr 2 (List.map enc_si x24)]), .auto {}, .call 11 [.agg [.sl 5 0 x24.length], .agg [.sl 3 0 x3.length]] (handO (rho ([] ++ [])) [] [] ++ [(5, .arr 2 (List.map enc_si x24)), (3, .arr 2 (List.map enc_si x3))]) (callEv [] [] (.v (.bool false)) [])]) [2] [] (s1 := ⟨[(2, .v (.bool false))], []⟩) (C := ((([.agg [.sl 3 0 x3.length], .agg [.sl 1 0 x2.length]] : List AV) = [.agg [.sl 3 0 x3.length], .agg [.sl 1 0 x2.length]]) ∧ (AO.arr 2 (List.map enc_si x3) = AO.arr 2 (List.map enc_si x3)) ∧ (AO.arr 2 (List.map enc_si x2) = AO.arr 2 (List.map enc_si x2)) ∧ True) ∧ ((([.agg [.sl 3 0 x3.length]] : List AV) = [.agg [.sl 3 0 x3.length]]) ∧ (AO.arr 2 (List.map enc_si x3) = AO.arr 2 (List.map enc_si x3)) ∧ True) ∧ ((([.agg [.sl 5 0 x24.length], .agg [.sl 3 0 x3.length]] : List AV) = [.agg [.sl 5 0 x24.length], .agg [.sl 3 0 x3.length]]) ∧ (AO.arr 2 (List.map enc_si x24) = AO.arr 2 (List.map enc_si x24)) ∧ (AO.arr 2 (List.map enc_si x3) = AO.arr 2 (List.map enc_si x3)) ∧ True) ∧ True) (by kernel_rfl) ⟨⟨rfl, rfl, rfl, trivial⟩, ⟨⟨rfl, rfl, trivial⟩, ⟨⟨rfl, rfl, rfl, trivial⟩, trivial⟩⟩⟩ ⟨call_ok (ks := []) (ns := []) (bor := [3, 1]) (bobjs := [(3, .arr 2 (List.map enc_si x3)), (1, .arr 2 (List.map enc_si x2))]) (show Eng.Spec Try.prog 14 [.agg [.bs false 2 (List.map enc_si x3)], .agg [.bs false 2 (List.map enc_si x2)]] [] (.v (.bool true)) [] from by have q := s_impl_SameMeaning x3 x2 x23 e26; rw [b27] at q; exact q) (.cons (.c1 (.agg (.cons (.arr rfl rfl ((rfl).trans (List.length_map ..).symm)) (.nil)))) (.cons (.c1 (.agg (.cons (.arr rfl rfl ((rfl).trans (List.length_map ..).symm)) (.nil)))) (.nil))) (by kernel_rfl) trivial, ⟨call_ok (ks := []) (ns := [5]) (bor := [3]) (bobjs := [(3, .arr 2 (List.map enc_si x3))]) (s_impl_SortEnum x3 x24 e28) (.cons (.c1 (.agg (.cons (.arr rfl rfl ((rfl).trans (List.length_map ..).symm)) (.nil)))) (.nil)) (by kernel_rfl) trivial, ⟨call_ok (ks := []) (ns := []) (bor := [5, 3]) (bobjs := [(5, .arr 2 (List.map enc_si x24)), (3, .arr 2 (List.map enc_si x3))]) (show Eng.Spec Try.prog 11 [.agg [.bs false 2 (List.map enc_si x24)], .agg [.bs false 2 (List.map enc_si x3)]] [] (.v (.bool false)) [] from by have q := s_laws_equalEnum x24 x3 x25 e29; rw [b30] at q; exact q) (.cons (.c1 (.agg (.cons (.arr rfl rfl ((rfl).trans (List.length_map ..).symm)) (.nil)))) (.cons (.c1 (.agg (.cons (.arr rfl rfl ((rfl).trans (List.length_map ..).symm)) (.nil)))) (.nil))) (by kernel_rfl) trivial, trivial⟩⟩⟩ ?_
                refine AX.ret ?_
                refine fin_wk (Wk.forget [2] [] (s' := ⟨[(2, .v (.bool false))], []⟩) (by kernel_rfl)) ?_
                have hr := Option.some.inj h
                subst hr
                exact ⟨_, Wk.refl _, .inr rfl, ⟨[], by kernel_rfl, trivial, [.v (.bool false)], by kernel_rfl, by kernel_rfl⟩⟩
            · replace h := cd_f b27 h
              refine AX.drw mixed (its := [.auto {}, .auto {}, .call 14 [.agg [.sl 3 0 x3.length], .agg [.sl 1 0 x2.length]] (handO (rho ([] ++ [])) [] [] ++ [(3, .arr 2 (List.map enc_si x3)), (1, .arr 2 (List.map enc_si x2))]) (callEv [] [] (.v (.bool false)) [])]) [2] [] (s1 := ⟨[(2, .v (.bool false))], []⟩) (C := ((([.agg [.sl 3 0 x3.length], .agg [.sl 1 0 x2.length]] : List AV) = [.agg [.sl 3 0 x3.length], .agg [.sl 1 0 x2.length]]) ∧ (AO.arr 2 (List.map enc_si x3) = AO.arr 2 (List.map enc_si x3)) ∧ (AO.arr 2 (List.map enc_si x2) = AO.arr 2 (List.map enc_si x2)) ∧ True) ∧ True) (by kernel_rfl) ⟨⟨rfl, rfl, rfl, trivial⟩, trivial⟩ ⟨call_ok (ks := []) (ns := []) (bor := [3, 1]) (bobjs := [(3, .arr 2 (List.map enc_si x3)), (1, .arr 2 (List.map enc_si x2))]) (show Eng.Spec Try.prog 14 [.agg [.bs false 2 (List.map enc_si x3)], .agg [.bs false 2 (List.map enc_si x2)]] [] (.v (.bool false)) [] from by have q := s_impl_SameMeaning x3 x2 x23 e26; rw [b27] at q; exact q) (.cons (.c1 (.agg (.cons (.arr rfl rfl ((rfl).trans (List.length_map ..).symm)) (.nil)))) (.cons (.c1 (.agg (.cons (.arr rfl rfl ((rfl).trans (List.length_map ..).symm)) (.nil)))) (.nil))) (by kernel_rfl) trivial, trivial⟩ ?_
              refine AX.ret ?_
              refine fin_wk (Wk.forget [2] [] (s' := ⟨[(2, .v (.bool false))], []⟩) (by kernel_rfl)) ?_
              have hr := Option.some.inj h
              subst hr
              exact ⟨_, Wk.refl _, .inr rfl, ⟨[], by kernel_rfl, trivial, [.v (.bool false)], by kernel_rfl, by kernel_rfl⟩⟩

end Go.Eng
