/- What is proved here: each function keeps to its model, whatever its arguments, wherever the model has an answer. Printed by gen.py. -/
import Derived.Test.YteednpcbfencoaaCApplyChangesWalk1
import Derived.Test.YteednpcbfencoaaProg
import Derived.Test.YteednpcbfencoaaCApplyChangesHand
import Derived.KernelRfl
set_option linter.unusedVariables false
set_option linter.unusedSimpArgs false
set_option linter.unnecessarySimpa false
namespace Go.Eng
open Go Go.Proofs


theorem s_spec_differ (p1 : List (ByteArray × Int)) (p2 : List (ByteArray × Int)) (r : List (Int × ByteArray × Int × Int)) (h : m_spec_differ p1 p2 = some r) :
    Eng.Spec Try.prog 28 [.bs false 2 (List.map enc_si p1), .bs false 2 (List.map enc_si p2)] [] (.sl 0 0 r.length) [.arr 4 (List.map enc_isii r)] := by
  unfold m_spec_differ at h
  refine Eng.Spec.body Try.func28 (by kernel_rfl) rfl (by kernel_rfl) ?_
  refine AX.wkpost ?_
  refine AX.seq ?_
  refine AX.reg (its := []) [0, 1] [] (s1 := ⟨[(0, .bs false 2 (List.map enc_si p1)), (1, .bs false 2 (List.map enc_si p2))], []⟩) (C := True) (by kernel_rfl) trivial trivial ?_
  refine AX.seq ?_
  refine AX.reg (its := [.auto { nk := 0 }]) [0, 1, 5] [0] (s1 := ⟨[(0, .bs false 2 (List.map enc_si p1)), (1, .bs false 2 (List.map enc_si p2)), (5, .sl 0 0 (([] : List (Int × ByteArray × Int × Int)).length))], [(0, .arr 4 (List.map enc_isii ([] : List (Int × ByteArray × Int × Int))))]⟩) (C := True) (by kernel_rfl) trivial trivial ?_
  refine AX.seq ?_
  refine AX.seq ?_
  refine AX.reg (its := []) [0, 1, 5, 6] [0] (s1 := ⟨[(0, .bs false 2 (List.map enc_si p1)), (1, .bs false 2 (List.map enc_si p2)), (5, .sl 0 0 (([] : List (Int × ByteArray × Int × Int)).length)), (6, .v (.int .i64 0))], [(0, .arr 4 (List.map enc_isii ([] : List (Int × ByteArray × Int × Int))))]⟩) (C := True) (by kernel_rfl) trivial trivial ?_
  refine AX.block ?_
  obtain ⟨x6, e6, h⟩ := bd_e h
  refine AX.wk (Wk.forget [0, 1, 5, 6] [0] (s' := ⟨[(0, .bs false 2 (List.map enc_si p1)), (1, .bs false 2 (List.map enc_si p2)), (5, .sl 0 0 (([] : List (Int × ByteArray × Int × Int)).length)), (6, .v (.int .i64 0))], [(0, .arr 4 (List.map enc_isii ([] : List (Int × ByteArray × Int × Int))))]⟩) (by kernel_rfl)) ?_
  refine AX.mono (s_spec_differ_L1 p1 p2 FU (([] : List (Int × ByteArray × Int × Int)), 0) x6 e6) ?_
  rintro _ _ ⟨rfl, rfl⟩
  skip
  refine AX.seq ?_
  refine AX.seq ?_
  refine AX.reg (its := []) [0, 1, 5, 7] [0] (s1 := ⟨[(0, .bs false 2 (List.map enc_si p1)), (1, .bs false 2 (List.map enc_si p2)), (5, .sl 0 0 x6.length), (7, .v (.int .i64 0))], [(0, .arr 4 (List.map enc_isii x6))]⟩) (C := True) (by kernel_rfl) trivial trivial ?_
  refine AX.block ?_
  obtain ⟨x10, e14, h⟩ := bd_e h
  refine AX.wk (Wk.forget [0, 1, 5, 7] [0] (s' := ⟨[(0, .bs false 2 (List.map enc_si p1)), (1, .bs false 2 (List.map enc_si p2)), (5, .sl 0 0 x6.length), (7, .v (.int .i64 0))], [(0, .arr 4 (List.map enc_isii x6))]⟩) (by kernel_rfl)) ?_
  refine AX.mono (s_spec_differ_L2 p1 p2 FU (x6, 0) x10 e14) ?_
  rintro _ _ ⟨rfl, rfl⟩
  skip
  refine AX.seq ?_
  refine AX.seq ?_
  refine AX.reg (its := []) [0, 1, 5, 9] [0] (s1 := ⟨[(0, .bs false 2 (List.map enc_si p1)), (1, .bs false 2 (List.map enc_si p2)), (5, .sl 0 0 x10.length), (9, .v (.int .i64 0))], [(0, .arr 4 (List.map enc_isii x10))]⟩) (C := True) (by kernel_rfl) trivial trivial ?_
  refine AX.block ?_
  obtain ⟨x14, e20, h⟩ := bd_e h
  refine AX.wk (Wk.forget [0, 1, 5, 9] [0] (s' := ⟨[(0, .bs false 2 (List.map enc_si p1)), (1, .bs false 2 (List.map enc_si p2)), (5, .sl 0 0 x10.length), (9, .v (.int .i64 0))], [(0, .arr 4 (List.map enc_isii x10))]⟩) (by kernel_rfl)) ?_
  refine AX.mono (s_spec_differ_L3 p1 p2 FU (x10, 0) x14 e20) ?_
  rintro _ _ ⟨rfl, rfl⟩
  skip
  refine AX.seq ?_
  refine AX.reg (its := []) [4] [0] (s1 := ⟨[(4, .sl 0 0 x14.length)], [(0, .arr 4 (List.map enc_isii x14))]⟩) (C := True) (by kernel_rfl) trivial trivial ?_
  refine AX.ret ?_
  refine fin_wk (Wk.forget [4] [0] (s' := ⟨[(4, .sl 0 0 x14.length)], [(0, .arr 4 (List.map enc_isii x14))]⟩) (by kernel_rfl)) ?_
  have hr := Option.some.inj h
  subst hr
  exact ⟨_, Wk.refl _, .inr rfl, ⟨[0], by kernel_rfl, ⟨rfl, trivial⟩, [.sl 0 0 x14.length], by kernel_rfl, by kernel_rfl⟩⟩

theorem s_spec_someChanges (p1 : List (ByteArray × Int)) (p2 : List (Int)) (p3 : Int) (r : (List (Int × ByteArray × Int × Int)) × Int) (h : m_spec_someChanges p1 p2 p3 = some r) :
    Eng.Spec Try.prog 13 [.pt 0 0, .agg [.bs false 2 (List.map enc_si p1)]] [.box [.bs true 1 (List.map enc_y p2), .v (.int .i64 p3)]] (.sl 1 0 r.1.length) [.box [.bs true 1 (List.map enc_y p2), .v (.int .i64 r.2)], .arr 4 (List.map enc_isii r.1)] := by
  unfold m_spec_someChanges at h
  refine Eng.Spec.body Try.func13 (by kernel_rfl) rfl (by kernel_rfl) ?_
  refine AX.wkpost ?_
  refine AX.seq ?_
  refine AX.reg (its := [.auto { nk := 1 }]) [0, 3] [0, 1] (s1 := ⟨[(0, .pt 0 0), (3, .pt 1 0)], [(0, .box [.bs true 1 (List.map enc_y p2), .v (.int .i64 p3)]), (1, .box [.bs false 2 (List.map enc_si p1)])]⟩) (C := True) (by kernel_rfl) trivial trivial ?_
  refine AX.seq ?_
  obtain ⟨x4, e1, h⟩ := bd_e h
  refine AX.reg (its := [.auto {}, .call 24 [.pt 0 0] (handO (rho ([0] ++ [2])) [0] [.box [.bs true 1 (List.map enc_y p2), .v (.int .i64 p3)]] ++ []) (callEv [0] [2] (.agg [.sl 1 0 x4.1.length]) [.box [.bs true 1 (List.map enc_y p2), .v (.int .i64 x4.2)], .arr 2 (List.map enc_si x4.1)]), .auto { nk := 3 }]) [0, 3, 5] [0, 1, 2, 3] (s1 := ⟨[(0, .pt 0 0), (3, .pt 1 0), (5, .pt 3 0)], [(0, .box [.bs true 1 (List.map enc_y p2), .v (.int .i64 x4.2)]), (1, .box [.bs false 2 (List.map enc_si p1)]), (2, .arr 2 (List.map enc_si x4.1)), (3, .box [.sl 2 0 x4.1.length])]⟩) (C := ((([.pt 0 0] : List AV) = [.pt 0 0]) ∧ (AO.box [.bs true 1 (List.map enc_y p2), .v (.int .i64 p3)] = AO.box [.bs true 1 (List.map enc_y p2), .v (.int .i64 p3)]) ∧ True) ∧ True) (by kernel_rfl) ⟨⟨rfl, rfl, trivial⟩, trivial⟩ ⟨call_ok (ks := [0]) (ns := [2]) (bor := []) (bobjs := []) (s_spec_goodEnum p2 p3 x4 e1) (.cons (.c1 (.c0 (.same _ (by kernel_rfl) (by kernel_rfl)))) (.nil)) (by kernel_rfl) ⟨.inr rfl, trivial⟩, trivial⟩ ?_
  refine AX.seq ?_
  refine AX.reg (its := [.auto { nk := 4 }]) [0, 3, 5, 6] [0, 1, 2, 3, 4] (s1 := ⟨[(0, .pt 0 0), (3, .pt 1 0), (5, .pt 3 0), (6, .sl 4 0 (([] : List (Int × ByteArray × Int × Int)).length))], [(0, .box [.bs true 1 (List.map enc_y p2), .v (.int .i64 x4.2)]), (1, .box [.bs false 2 (List.map enc_si p1)]), (2, .arr 2 (List.map enc_si x4.1)), (3, .box [.sl 2 0 x4.1.length]), (4, .arr 4 (List.map enc_isii ([] : List (Int × ByteArray × Int × Int))))]⟩) (C := True) (by kernel_rfl) trivial trivial ?_
  refine AX.seq ?_
  refine AX.seq ?_
  obtain ⟨x5, e2, h⟩ := bd_e h
  refine AX.reg (its := [.auto {}, .call 16 [.agg [.bs false 2 (List.map enc_si p1)]] (handO (rho ([] ++ [])) [] [] ++ []) (callEv [] [] (.v (.bool x5)) [])]) [0, 3, 5, 6, 11] [0, 1, 2, 3, 4] (s1 := ⟨[(0, .pt 0 0), (3, .pt 1 0), (5, .pt 3 0), (6, .sl 4 0 (([] : List (Int × ByteArray × Int × Int)).length)), (11, .v (.bool x5))], [(0, .box [.bs true 1 (List.map enc_y p2), .v (.int .i64 x4.2)]), (1, .box [.bs false 2 (List.map enc_si p1)]), (2, .arr 2 (List.map enc_si x4.1)), (3, .box [.sl 2 0 x4.1.length]), (4, .arr 4 (List.map enc_isii ([] : List (Int × ByteArray × Int × Int))))]⟩) (C := ((([.agg [.bs false 2 (List.map enc_si p1)]] : List AV) = [.agg [.bs false 2 (List.map enc_si p1)]]) ∧ True) ∧ True) (by kernel_rfl) ⟨⟨rfl, trivial⟩, trivial⟩ ⟨call_ok (ks := []) (ns := []) (bor := []) (bobjs := []) (s_spec_validEnum p1 x5 e2) (.cons (.c1 (.agg (.cons (.same _ (by kernel_rfl) (by kernel_rfl)) (.nil)))) (.nil)) (by kernel_rfl) trivial, trivial⟩ ?_
  rcases bool_cases (x5) with b3 | b3
  · replace h := cd_t b3 h
    refine AX.condT (x5) (by kernel_rfl) b3 ?_
    obtain ⟨x6, e4, h⟩ := bd_e h
    refine AX.reg (its := [.auto {}, .auto {}, .auto {}, .auto {}, .call 28 [.bs false 2 (List.map enc_si p1), .sl 2 0 x4.1.length] (handO (rho ([] ++ [5])) [] [] ++ [(2, .arr 2 (List.map enc_si x4.1))]) (callEv [] [5] (.sl 0 0 x6.length) [.arr 4 (List.map enc_isii x6)])]) [0, 6] [0, 5] (s1 := ⟨[(0, .pt 0 0), (6, .sl 5 0 x6.length)], [(0, .box [.bs true 1 (List.map enc_y p2), .v (.int .i64 x4.2)]), (5, .arr 4 (List.map enc_isii x6))]⟩) (C := ((([.bs false 2 (List.map enc_si p1), .sl 2 0 x4.1.length] : List AV) = [.bs false 2 (List.map enc_si p1), .sl 2 0 x4.1.length]) ∧ (AO.arr 2 (List.map enc_si x4.1) = AO.arr 2 (List.map enc_si x4.1)) ∧ True) ∧ True) (by kernel_rfl) ⟨⟨rfl, rfl, trivial⟩, trivial⟩ ⟨call_ok (ks := []) (ns := [5]) (bor := [2]) (bobjs := [(2, .arr 2 (List.map enc_si x4.1))]) (s_spec_differ p1 x4.1 x6 e4) (.cons (.c1 (.c0 (.same _ (by kernel_rfl) (by kernel_rfl)))) (.cons (.c1 (.c0 (.arr rfl rfl ((rfl).trans (List.length_map ..).symm)))) (.nil))) (by kernel_rfl) trivial, trivial⟩ ?_
    refine AX.seq ?_
    refine AX.seq ?_
    obtain ⟨x7, e5, h⟩ := bd_e h
    refine AX.reg (its := [.auto {}, .call 25 [.pt 0 0, .v (.int .i64 4)] (handO (rho ([0] ++ [])) [0] [.box [.bs true 1 (List.map enc_y p2), .v (.int .i64 x4.2)]] ++ []) (callEv [0] [] (.v (.int .i64 x7)) [.box [.bs true 1 (List.map enc_y p2), .v (.int .i64 (IntKind.wrap .i64 (x4.2 + 1)))]])]) [0, 6, 19] [0, 5] (s1 := ⟨[(0, .pt 0 0), (6, .sl 5 0 x6.length), (19, .v (.bool (decide (x7 = 0))))], [(0, .box [.bs true 1 (List.map enc_y p2), .v (.int .i64 (IntKind.wrap .i64 (x4.2 + 1)))]), (5, .arr 4 (List.map enc_isii x6))]⟩) (C := ((([.pt 0 0, .v (.int .i64 4)] : List AV) = [.pt 0 0, .v (.int .i64 4)]) ∧ (AO.box [.bs true 1 (List.map enc_y p2), .v (.int .i64 x4.2)] = AO.box [.bs true 1 (List.map enc_y p2), .v (.int .i64 x4.2)]) ∧ True) ∧ True) (by kernel_rfl) ⟨⟨rfl, rfl, trivial⟩, trivial⟩ ⟨call_ok (ks := [0]) (ns := []) (bor := []) (bobjs := []) (s_spec_reader_pick 4 p2 x4.2 x7 e5) (.cons (.c1 (.c0 (.same _ (by kernel_rfl) (by kernel_rfl)))) (.cons (.c1 (.c0 (.same _ (by kernel_rfl) (by kernel_rfl)))) (.nil))) (by kernel_rfl) ⟨.inr rfl, trivial⟩, trivial⟩ ?_
    rcases bool_cases (decide (x7 = 0)) with b6 | b6
    · replace h := cd_t b6 h
      refine AX.condT (decide (x7 = 0)) (by kernel_rfl) b6 ?_
      obtain ⟨x8, e7, h⟩ := bd_e h
      obtain ⟨x9, e8, h⟩ := bd_e h
      obtain ⟨x10, e9, h⟩ := bd_e h
      obtain ⟨x11, e10, h⟩ := bd_e h
      obtain ⟨g11, h⟩ := gd_e h
      refine AX.reg (its := [.auto {}, .auto {}, .auto { nk := 6 }, .call 27 [.pt 0 0, .sl 6 0 (([0, 1, 2, 3] : List (Int)).length)] (handO (rho ([0] ++ [])) [0] [.box [.bs true 1 (List.map enc_y p2), .v (.int .i64 (IntKind.wrap .i64 (x4.2 + 1)))]] ++ [(6, .arr 1 (List.map enc_i ([0, 1, 2, 3] : List (Int))))]) (callEv [0] [] (.v (.int .i64 x8)) [.box [.bs true 1 (List.map enc_y p2), .v (.int .i64 (IntKind.wrap .i64 ((IntKind.wrap .i64 (x4.2 + 1)) + 1)))]]), .auto {}, .call 29 [.pt 0 0] (handO (rho ([0] ++ [])) [0] [.box [.bs true 1 (List.map enc_y p2), .v (.int .i64 (IntKind.wrap .i64 ((IntKind.wrap .i64 (x4.2 + 1)) + 1)))]] ++ []) (callEv [0] [] (.v (.string x9)) [.box [.bs true 1 (List.map enc_y p2), .v (.int .i64 (IntKind.wrap .i64 ((IntKind.wrap .i64 ((IntKind.wrap .i64 (x4.2 + 1)) + 1)) + 1)))]]), .auto {}, .call 25 [.pt 0 0, .v (.int .i64 3)] (handO (rho ([0] ++ [])) [0] [.box [.bs true 1 (List.map enc_y p2), .v (.int .i64 (IntKind.wrap .i64 ((IntKind.wrap .i64 ((IntKind.wrap .i64 (x4.2 + 1)) + 1)) + 1)))]] ++ []) (callEv [0] [] (.v (.int .i64 x10)) [.box [.bs true 1 (List.map enc_y p2), .v (.int .i64 (IntKind.wrap .i64 ((IntKind.wrap .i64 ((IntKind.wrap .i64 ((IntKind.wrap .i64 (x4.2 + 1)) + 1)) + 1)) + 1)))]]), .auto {}, .auto { nk := 7 }, .call 27 [.pt 0 0, .sl 7 0 (([0, 1, 1001] : List (Int)).length)] (handO (rho ([0] ++ [])) [0] [.box [.bs true 1 (List.map enc_y p2), .v (.int .i64 (IntKind.wrap .i64 ((IntKind.wrap .i64 ((IntKind.wrap .i64 ((IntKind.wrap .i64 (x4.2 + 1)) + 1)) + 1)) + 1)))]] ++ [(7, .arr 1 (List.map enc_i ([0, 1, 1001] : List (Int))))]) (callEv [0] [] (.v (.int .i64 x11)) [.box [.bs true 1 (List.map enc_y p2), .v (.int .i64 (IntKind.wrap .i64 ((IntKind.wrap .i64 ((IntKind.wrap .i64 ((IntKind.wrap .i64 ((IntKind.wrap .i64 (x4.2 + 1)) + 1)) + 1)) + 1)) + 1)))]]), .auto {}, .auto { nk := 8 }, .auto { y := some (.sl 9 0 ((x6 ++ ([(x8, x9, x10, x11)] : List (Int × ByteArray × Int × Int))).length)), els := some (List.map enc_isii x6), els2 := some (List.map enc_isii ([(x8, x9, x10, x11)] : List (Int × ByteArray × Int × Int))), nk := 9 }]) [6] [0, 9] (s1 := ⟨[(6, .sl 9 0 ((x6 ++ ([(x8, x9, x10, x11)] : List (Int × ByteArray × Int × Int))).length))], [(0, .box [.bs true 1 (List.map enc_y p2), .v (.int .i64 (IntKind.wrap .i64 ((IntKind.wrap .i64 ((IntKind.wrap .i64 ((IntKind.wrap .i64 ((IntKind.wrap .i64 (x4.2 + 1)) + 1)) + 1)) + 1)) + 1)))]), (9, .arr 4 (List.map enc_isii x6 ++ List.map enc_isii ([(x8, x9, x10, x11)] : List (Int × ByteArray × Int × Int))))]⟩) (C := ((([.pt 0 0, .sl 6 0 (([0, 1, 2, 3] : List (Int)).length)] : List AV) = [.pt 0 0, .sl 6 0 (([0, 1, 2, 3] : List (Int)).length)]) ∧ (AO.box [.bs true 1 (List.map enc_y p2), .v (.int .i64 (IntKind.wrap .i64 (x4.2 + 1)))] = AO.box [.bs true 1 (List.map enc_y p2), .v (.int .i64 (IntKind.wrap .i64 (x4.2 + 1)))]) ∧ (AO.arr 1 (List.map enc_i ([0, 1, 2, 3] : List (Int))) = AO.arr 1 (List.map enc_i ([0, 1, 2, 3] : List (Int)))) ∧ True) ∧ ((([.pt 0 0] : List AV) = [.pt 0 0]) ∧ (AO.box [.bs true 1 (List.map enc_y p2), .v (.int .i64 (IntKind.wrap .i64 ((IntKind.wrap .i64 (x4.2 + 1)) + 1)))] = AO.box [.bs true 1 (List.map enc_y p2), .v (.int .i64 (IntKind.wrap .i64 ((IntKind.wrap .i64 (x4.2 + 1)) + 1)))]) ∧ True) ∧ ((([.pt 0 0, .v (.int .i64 3)] : List AV) = [.pt 0 0, .v (.int .i64 3)]) ∧ (AO.box [.bs true 1 (List.map enc_y p2), .v (.int .i64 (IntKind.wrap .i64 ((IntKind.wrap .i64 ((IntKind.wrap .i64 (x4.2 + 1)) + 1)) + 1)))] = AO.box [.bs true 1 (List.map enc_y p2), .v (.int .i64 (IntKind.wrap .i64 ((IntKind.wrap .i64 ((IntKind.wrap .i64 (x4.2 + 1)) + 1)) + 1)))]) ∧ True) ∧ ((([.pt 0 0, .sl 7 0 (([0, 1, 1001] : List (Int)).length)] : List AV) = [.pt 0 0, .sl 7 0 (([0, 1, 1001] : List (Int)).length)]) ∧ (AO.box [.bs true 1 (List.map enc_y p2), .v (.int .i64 (IntKind.wrap .i64 ((IntKind.wrap .i64 ((IntKind.wrap .i64 ((IntKind.wrap .i64 (x4.2 + 1)) + 1)) + 1)) + 1)))] = AO.box [.bs true 1 (List.map enc_y p2), .v (.int .i64 (IntKind.wrap .i64 ((IntKind.wrap .i64 ((IntKind.wrap .i64 ((IntKind.wrap .i64 (x4.2 + 1)) + 1)) + 1)) + 1)))]) ∧ (AO.arr 1 (List.map enc_i ([0, 1, 1001] : List (Int))) = AO.arr 1 (List.map enc_i ([0, 1, 1001] : List (Int)))) ∧ True) ∧ ((((((List.map enc_isii x6).drop 0).take (x6.length) = List.map enc_isii x6) ∧ (((List.map enc_isii ([(x8, x9, x10, x11)] : List (Int × ByteArray × Int × Int))).drop 0).take (([(x8, x9, x10, x11)] : List (Int × ByteArray × Int × Int)).length) = List.map enc_isii ([(x8, x9, x10, x11)] : List (Int × ByteArray × Int × Int)))) ∧ (List.map enc_isii x6).length + (List.map enc_isii ([(x8, x9, x10, x11)] : List (Int × ByteArray × Int × Int))).length ≤ 1099511627776) ∧ (AV.sl 9 0 (List.map enc_isii x6 ++ List.map enc_isii ([(x8, x9, x10, x11)] : List (Int × ByteArray × Int × Int))).length = AV.sl 9 0 (x6 ++ ([(x8, x9, x10, x11)] : List (Int × ByteArray × Int × Int))).length)) ∧ True) (by kernel_rfl) ⟨⟨rfl, rfl, rfl, trivial⟩, ⟨⟨rfl, rfl, trivial⟩, ⟨⟨rfl, rfl, trivial⟩, ⟨⟨rfl, rfl, rfl, trivial⟩, ⟨⟨⟨⟨(dt_all (enc := enc_isii) rfl rfl), (dt_all (enc := enc_isii) rfl rfl)⟩, (by simp only [List.length_map, List.length_nil, List.length_replicate]; simpa using g11)⟩, sl_len (enc := enc_isii) (app_can (enc := enc_isii) rfl (rfl))⟩, trivial⟩⟩⟩⟩⟩ ⟨call_ok (ks := [0]) (ns := []) (bor := [6]) (bobjs := [(6, .arr 1 (List.map enc_i ([0, 1, 2, 3] : List (Int))))]) (s_spec_reader_one ([0, 1, 2, 3] : List (Int)) p2 (IntKind.wrap .i64 (x4.2 + 1)) x8 e7) (.cons (.c1 (.c0 (.same _ (by kernel_rfl) (by kernel_rfl)))) (.cons (.c1 (.c0 (.arr rfl rfl ((rfl).trans (List.length_map ..).symm)))) (.nil))) (by kernel_rfl) ⟨.inr rfl, trivial⟩, ⟨call_ok (ks := [0]) (ns := []) (bor := []) (bobjs := []) (s_spec_aName p2 (IntKind.wrap .i64 ((IntKind.wrap .i64 (x4.2 + 1)) + 1)) x9 e8) (.cons (.c1 (.c0 (.same _ (by kernel_rfl) (by kernel_rfl)))) (.nil)) (by kernel_rfl) ⟨.inr rfl, trivial⟩, ⟨call_ok (ks := [0]) (ns := []) (bor := []) (bobjs := []) (s_spec_reader_pick 3 p2 (IntKind.wrap .i64 ((IntKind.wrap .i64 ((IntKind.wrap .i64 (x4.2 + 1)) + 1)) + 1)) x10 e9) (.cons (.c1 (.c0 (.same _ (by kernel_rfl) (by kernel_rfl)))) (.cons (.c1 (.c0 (.same _ (by kernel_rfl) (by kernel_rfl)))) (.nil))) (by kernel_rfl) ⟨.inr rfl, trivial⟩, ⟨call_ok (ks := [0]) (ns := []) (bor := [7]) (bobjs := [(7, .arr 1 (List.map enc_i ([0, 1, 1001] : List (Int))))]) (s_spec_reader_one ([0, 1, 1001] : List (Int)) p2 (IntKind.wrap .i64 ((IntKind.wrap .i64 ((IntKind.wrap .i64 ((IntKind.wrap .i64 (x4.2 + 1)) + 1)) + 1)) + 1)) x11 e10) (.cons (.c1 (.c0 (.same _ (by kernel_rfl) (by kernel_rfl)))) (.cons (.c1 (.c0 (.arr rfl rfl ((rfl).trans (List.length_map ..).symm)))) (.nil))) (by kernel_rfl) ⟨.inr rfl, trivial⟩, trivial⟩⟩⟩⟩ ?_
      refine AX.seq ?_
      refine AX.reg (its := []) [4] [0, 9] (s1 := ⟨[(4, .sl 9 0 ((x6 ++ ([(x8, x9, x10, x11)] : List (Int × ByteArray × Int × Int))).length))], [(0, .box [.bs true 1 (List.map enc_y p2), .v (.int .i64 (IntKind.wrap .i64 ((IntKind.wrap .i64 ((IntKind.wrap .i64 ((IntKind.wrap .i64 ((IntKind.wrap .i64 (x4.2 + 1)) + 1)) + 1)) + 1)) + 1)))]), (9, .arr 4 (List.map enc_isii x6 ++ List.map enc_isii ([(x8, x9, x10, x11)] : List (Int × ByteArray × Int × Int))))]⟩) (C := True) (by kernel_rfl) trivial trivial ?_
      refine AX.ret ?_
      refine fin_wk (Wk.swap 1 9 (Nat.le_of_ble_eq_true (by kernel_rfl)) (Nat.le_of_ble_eq_true (by kernel_rfl)) rfl) ?_
      refine fin_wk (Wk.forget [4] [0, 1] (s' := ⟨[(4, .sl 1 0 ((x6 ++ ([(x8, x9, x10, x11)] : List (Int × ByteArray × Int × Int))).length))], [(0, .box [.bs true 1 (List.map enc_y p2), .v (.int .i64 (IntKind.wrap .i64 ((IntKind.wrap .i64 ((IntKind.wrap .i64 ((IntKind.wrap .i64 ((IntKind.wrap .i64 (x4.2 + 1)) + 1)) + 1)) + 1)) + 1)))]), (1, .arr 4 (List.map enc_isii x6 ++ List.map enc_isii ([(x8, x9, x10, x11)] : List (Int × ByteArray × Int × Int))))]⟩) (by kernel_rfl)) ?_
      refine fin_wk (Wk.of_eq (congrArg (fun z => (⟨[(4, .sl 1 0 ((x6 ++ ([(x8, x9, x10, x11)] : List (Int × ByteArray × Int × Int))).length))], [(0, .box [.bs true 1 (List.map enc_y p2), .v (.int .i64 (IntKind.wrap .i64 ((IntKind.wrap .i64 ((IntKind.wrap .i64 ((IntKind.wrap .i64 ((IntKind.wrap .i64 (x4.2 + 1)) + 1)) + 1)) + 1)) + 1)))]), (1, .arr 4 (z))]⟩ : S)) (app_can (enc := enc_isii) rfl (rfl) : List.map enc_isii x6 ++ List.map enc_isii ([(x8, x9, x10, x11)] : List (Int × ByteArray × Int × Int)) = List.map enc_isii (x6 ++ ([(x8, x9, x10, x11)] : List (Int × ByteArray × Int × Int)))))) ?_
      have hr := Option.some.inj h
      subst hr
      exact ⟨_, Wk.refl _, .inr rfl, ⟨[1], by kernel_rfl, ⟨rfl, rfl, trivial⟩, [.sl 1 0 ((x6 ++ ([(x8, x9, x10, x11)] : List (Int × ByteArray × Int × Int))).length)], by kernel_rfl, by kernel_rfl⟩⟩
    · replace h := cd_f b6 h
      refine AX.condF (decide (x7 = 0)) (by kernel_rfl) b6 ?_
      refine AX.skip ?_
      refine AX.seq ?_
      refine AX.reg (its := []) [4] [0, 5] (s1 := ⟨[(4, .sl 5 0 x6.length)], [(0, .box [.bs true 1 (List.map enc_y p2), .v (.int .i64 (IntKind.wrap .i64 (x4.2 + 1)))]), (5, .arr 4 (List.map enc_isii x6))]⟩) (C := True) (by kernel_rfl) trivial trivial ?_
      refine AX.ret ?_
      refine fin_wk (Wk.swap 1 5 (Nat.le_of_ble_eq_true (by kernel_rfl)) (Nat.le_of_ble_eq_true (by kernel_rfl)) rfl) ?_
      refine fin_wk (Wk.forget [4] [0, 1] (s' := ⟨[(4, .sl 1 0 x6.length)], [(0, .box [.bs true 1 (List.map enc_y p2), .v (.int .i64 (IntKind.wrap .i64 (x4.2 + 1)))]), (1, .arr 4 (List.map enc_isii x6))]⟩) (by kernel_rfl)) ?_
      have hr := Option.some.inj h
      subst hr
      exact ⟨_, Wk.refl _, .inr rfl, ⟨[1], by kernel_rfl, ⟨rfl, rfl, trivial⟩, [.sl 1 0 x6.length], by kernel_rfl, by kernel_rfl⟩⟩
  · replace h := cd_f b3 h
    refine AX.condF (x5) (by kernel_rfl) b3 ?_
    refine AX.skip ?_
    refine AX.seq ?_
    refine AX.seq ?_
    obtain ⟨x12, e12, h⟩ := bd_e h
    refine AX.reg (its := [.auto {}, .call 25 [.pt 0 0, .v (.int .i64 4)] (handO (rho ([0] ++ [])) [0] [.box [.bs true 1 (List.map enc_y p2), .v (.int .i64 x4.2)]] ++ []) (callEv [0] [] (.v (.int .i64 x12)) [.box [.bs true 1 (List.map enc_y p2), .v (.int .i64 (IntKind.wrap .i64 (x4.2 + 1)))]])]) [0, 6, 19] [0, 4] (s1 := ⟨[(0, .pt 0 0), (6, .sl 4 0 (([] : List (Int × ByteArray × Int × Int)).length)), (19, .v (.bool (decide (x12 = 0))))], [(0, .box [.bs true 1 (List.map enc_y p2), .v (.int .i64 (IntKind.wrap .i64 (x4.2 + 1)))]), (4, .arr 4 (List.map enc_isii ([] : List (Int × ByteArray × Int × Int))))]⟩) (C := ((([.pt 0 0, .v (.int .i64 4)] : List AV) = [.pt 0 0, .v (.int .i64 4)]) ∧ (AO.box [.bs true 1 (List.map enc_y p2), .v (.int .i64 x4.2)] = AO.box [.bs true 1 (List.map enc_y p2), .v (.int .i64 x4.2)]) ∧ True) ∧ True) (by kernel_rfl) ⟨⟨rfl, rfl, trivial⟩, trivial⟩ ⟨call_ok (ks := [0]) (ns := []) (bor := []) (bobjs := []) (s_spec_reader_pick 4 p2 x4.2 x12 e12) (.cons (.c1 (.c0 (.same _ (by kernel_rfl) (by kernel_rfl)))) (.cons (.c1 (.c0 (.same _ (by kernel_rfl) (by kernel_rfl)))) (.nil))) (by kernel_rfl) ⟨.inr rfl, trivial⟩, trivial⟩ ?_
    rcases bool_cases (decide (x12 = 0)) with b13 | b13
    · replace h := cd_t b13 h
      refine AX.condT (decide (x12 = 0)) (by kernel_rfl) b13 ?_
      obtain ⟨x13, e14, h⟩ := bd_e h
      obtain ⟨x14, e15, h⟩ := bd_e h
      obtain ⟨x15, e16, h⟩ := bd_e h
      obtain ⟨x16, e17, h⟩ := bd_e h
      obtain ⟨g18, h⟩ := gd_e h
      refine AX.reg (its := [.auto {}, .auto {}, .auto { nk := 5 }, .call 27 [.pt 0 0, .sl 5 0 (([0, 1, 2, 3] : List (Int)).length)] (handO (rho ([0] ++ [])) [0] [.box [.bs true 1 (List.map enc_y p2), .v (.int .i64 (IntKind.wrap .i64 (x4.2 + 1)))]] ++ [(5, .arr 1 (List.map enc_i ([0, 1, 2, 3] : List (Int))))]) (callEv [0] [] (.v (.int .i64 x13)) [.box [.bs true 1 (List.map enc_y p2), .v (.int .i64 (IntKind.wrap .i64 ((IntKind.wrap .i64 (x4.2 + 1)) + 1)))]]), .auto {}, .call 29 [.pt 0 0] (handO (rho ([0] ++ [])) [0] [.box [.bs true 1 (List.map enc_y p2), .v (.int .i64 (IntKind.wrap .i64 ((IntKind.wrap .i64 (x4.2 + 1)) + 1)))]] ++ []) (callEv [0] [] (.v (.string x14)) [.box [.bs true 1 (List.map enc_y p2), .v (.int .i64 (IntKind.wrap .i64 ((IntKind.wrap .i64 ((IntKind.wrap .i64 (x4.2 + 1)) + 1)) + 1)))]]), .auto {}, .call 25 [.pt 0 0, .v (.int .i64 3)] (handO (rho ([0] ++ [])) [0] [.box [.bs true 1 (List.map enc_y p2), .v (.int .i64 (IntKind.wrap .i64 ((IntKind.wrap .i64 ((IntKind.wrap .i64 (x4.2 + 1)) + 1)) + 1)))]] ++ []) (callEv [0] [] (.v (.int .i64 x15)) [.box [.bs true 1 (List.map enc_y p2), .v (.int .i64 (IntKind.wrap .i64 ((IntKind.wrap .i64 ((IntKind.wrap .i64 ((IntKind.wrap .i64 (x4.2 + 1)) + 1)) + 1)) + 1)))]]), .auto {}, .auto { nk := 6 }, .call 27 [.pt 0 0, .sl 6 0 (([0, 1, 1001] : List (Int)).length)] (handO (rho ([0] ++ [])) [0] [.box [.bs true 1 (List.map enc_y p2), .v (.int .i64 (IntKind.wrap .i64 ((IntKind.wrap .i64 ((IntKind.wrap .i64 ((IntKind.wrap .i64 (x4.2 + 1)) + 1)) + 1)) + 1)))]] ++ [(6, .arr 1 (List.map enc_i ([0, 1, 1001] : List (Int))))]) (callEv [0] [] (.v (.int .i64 x16)) [.box [.bs true 1 (List.map enc_y p2), .v (.int .i64 (IntKind.wrap .i64 ((IntKind.wrap .i64 ((IntKind.wrap .i64 ((IntKind.wrap .i64 ((IntKind.wrap .i64 (x4.2 + 1)) + 1)) + 1)) + 1)) + 1)))]]), .auto {}, .auto { nk := 7 }, .auto { y := some (.sl 8 0 ((([] : List (Int × ByteArray × Int × Int)) ++ ([(x13, x14, x15, x16)] : List (Int × ByteArray × Int × Int))).length)), els := some (List.map enc_isii ([] : List (Int × ByteArray × Int × Int))), els2 := some (List.map enc_isii ([(x13, x14, x15, x16)] : List (Int × ByteArray × Int × Int))), nk := 8 }]) [6] [0, 8] (s1 := ⟨[(6, .sl 8 0 ((([] : List (Int × ByteArray × Int × Int)) ++ ([(x13, x14, x15, x16)] : List (Int × ByteArray × Int × Int))).length))], [(0, .box [.bs true 1 (List.map enc_y p2), .v (.int .i64 (IntKind.wrap .i64 ((IntKind.wrap .i64 ((IntKind.wrap .i64 ((IntKind.wrap .i64 ((IntKind.wrap .i64 (x4.2 + 1)) + 1)) + 1)) + 1)) + 1)))]), (8, .arr 4 (List.map enc_isii ([] : List (Int × ByteArray × Int × Int)) ++ List.map enc_isii ([(x13, x14, x15, x16)] : List (Int × ByteArray × Int × Int))))]⟩) (C := ((([.pt 0 0, .sl 5 0 (([0, 1, 2, 3] : List (Int)).length)] : List AV) = [.pt 0 0, .sl 5 0 (([0, 1, 2, 3] : List (Int)).length)]) ∧ (AO.box [.bs true 1 (List.map enc_y p2), .v (.int .i64 (IntKind.wrap .i64 (x4.2 + 1)))] = AO.box [.bs true 1 (List.map enc_y p2), .v (.int .i64 (IntKind.wrap .i64 (x4.2 + 1)))]) ∧ (AO.arr 1 (List.map enc_i ([0, 1, 2, 3] : List (Int))) = AO.arr 1 (List.map enc_i ([0, 1, 2, 3] : List (Int)))) ∧ True) ∧ ((([.pt 0 0] : List AV) = [.pt 0 0]) ∧ (AO.box [.bs true 1 (List.map enc_y p2), .v (.int .i64 (IntKind.wrap .i64 ((IntKind.wrap .i64 (x4.2 + 1)) + 1)))] = AO.box [.bs true 1 (List.map enc_y p2), .v (.int .i64 (IntKind.wrap .i64 ((IntKind.wrap .i64 (x4.2 + 1)) + 1)))]) ∧ True) ∧ ((([.pt 0 0, .v (.int .i64 3)] : List AV) = [.pt 0 0, .v (.int .i64 3)]) ∧ (AO.box [.bs true 1 (List.map enc_y p2), .v (.int .i64 (IntKind.wrap .i64 ((IntKind.wrap .i64 ((IntKind.wrap .i64 (x4.2 + 1)) + 1)) + 1)))] = AO.box [.bs true 1 (List.map enc_y p2), .v (.int .i64 (IntKind.wrap .i64 ((IntKind.wrap .i64 ((IntKind.wrap .i64 (x4.2 + 1)) + 1)) + 1)))]) ∧ True) ∧ ((([.pt 0 0, .sl 6 0 (([0, 1, 1001] : List (Int)).length)] : List AV) = [.pt 0 0, .sl 6 0 (([0, 1, 1001] : List (Int)).length)]) ∧ (AO.box [.bs true 1 (List.map enc_y p2), .v (.int .i64 (IntKind.wrap .i64 ((IntKind.wrap .i64 ((IntKind.wrap .i64 ((IntKind.wrap .i64 (x4.2 + 1)) + 1)) + 1)) + 1)))] = AO.box [.bs true 1 (List.map enc_y p2), .v (.int .i64 (IntKind.wrap .i64 ((IntKind.wrap .i64 ((IntKind.wrap .i64 ((IntKind.wrap .i64 (x4.2 + 1)) + 1)) + 1)) + 1)))]) ∧ (AO.arr 1 (List.map enc_i ([0, 1, 1001] : List (Int))) = AO.arr 1 (List.map enc_i ([0, 1, 1001] : List (Int)))) ∧ True) ∧ ((((((List.map enc_isii ([] : List (Int × ByteArray × Int × Int))).drop 0).take (([] : List (Int × ByteArray × Int × Int)).length) = List.map enc_isii ([] : List (Int × ByteArray × Int × Int))) ∧ (((List.map enc_isii ([(x13, x14, x15, x16)] : List (Int × ByteArray × Int × Int))).drop 0).take (([(x13, x14, x15, x16)] : List (Int × ByteArray × Int × Int)).length) = List.map enc_isii ([(x13, x14, x15, x16)] : List (Int × ByteArray × Int × Int)))) ∧ (List.map enc_isii ([] : List (Int × ByteArray × Int × Int))).length + (List.map enc_isii ([(x13, x14, x15, x16)] : List (Int × ByteArray × Int × Int))).length ≤ 1099511627776) ∧ (AV.sl 8 0 (List.map enc_isii ([] : List (Int × ByteArray × Int × Int)) ++ List.map enc_isii ([(x13, x14, x15, x16)] : List (Int × ByteArray × Int × Int))).length = AV.sl 8 0 (([] : List (Int × ByteArray × Int × Int)) ++ ([(x13, x14, x15, x16)] : List (Int × ByteArray × Int × Int))).length)) ∧ True) (by kernel_rfl) ⟨⟨rfl, rfl, rfl, trivial⟩, ⟨⟨rfl, rfl, trivial⟩, ⟨⟨rfl, rfl, trivial⟩, ⟨⟨rfl, rfl, rfl, trivial⟩, ⟨⟨⟨⟨(dt_all (enc := enc_isii) rfl rfl), (dt_all (enc := enc_isii) rfl rfl)⟩, (by simp only [List.length_map, List.length_nil, List.length_replicate]; simpa using g18)⟩, sl_len (enc := enc_isii) (app_can (enc := enc_isii) rfl (rfl))⟩, trivial⟩⟩⟩⟩⟩ ⟨call_ok (ks := [0]) (ns := []) (bor := [5]) (bobjs := [(5, .arr 1 (List.map enc_i ([0, 1, 2, 3] : List (Int))))]) (s_spec_reader_one ([0, 1, 2, 3] : List (Int)) p2 (IntKind.wrap .i64 (x4.2 + 1)) x13 e14) (.cons (.c1 (.c0 (.same _ (by kernel_rfl) (by kernel_rfl)))) (.cons (.c1 (.c0 (.arr rfl rfl ((rfl).trans (List.length_map ..).symm)))) (.nil))) (by kernel_rfl) ⟨.inr rfl, trivial⟩, ⟨call_ok (ks := [0]) (ns := []) (bor := []) (bobjs := []) (s_spec_aName p2 (IntKind.wrap .i64 ((IntKind.wrap .i64 (x4.2 + 1)) + 1)) x14 e15) (.cons (.c1 (.c0 (.same _ (by kernel_rfl) (by kernel_rfl)))) (.nil)) (by kernel_rfl) ⟨.inr rfl, trivial⟩, ⟨call_ok (ks := [0]) (ns := []) (bor := []) (bobjs := []) (s_spec_reader_pick 3 p2 (IntKind.wrap .i64 ((IntKind.wrap .i64 ((IntKind.wrap .i64 (x4.2 + 1)) + 1)) + 1)) x15 e16) (.cons (.c1 (.c0 (.same _ (by kernel_rfl) (by kernel_rfl)))) (.cons (.c1 (.c0 (.same _ (by kernel_rfl) (by kernel_rfl)))) (.nil))) (by kernel_rfl) ⟨.inr rfl, trivial⟩, ⟨call_ok (ks := [0]) (ns := []) (bor := [6]) (bobjs := [(6, .arr 1 (List.map enc_i ([0, 1, 1001] : List (Int))))]) (s_spec_reader_one ([0, 1, 1001] : List (Int)) p2 (IntKind.wrap .i64 ((IntKind.wrap .i64 ((IntKind.wrap .i64 ((IntKind.wrap .i64 (x4.2 + 1)) + 1)) + 1)) + 1)) x16 e17) (.cons (.c1 (.c0 (.same _ (by kernel_rfl) (by kernel_rfl)))) (.cons (.c1 (.c0 (.arr rfl rfl ((rfl).trans (List.length_map ..).symm)))) (.nil))) (by kernel_rfl) ⟨.inr rfl, trivial⟩, trivial⟩⟩⟩⟩ ?_
      refine AX.seq ?_
      refine AX.reg (its := []) [4] [0, 8] (s1 := ⟨[(4, .sl 8 0 ((([] : List (Int × ByteArray × Int × Int)) ++ ([(x13, x14, x15, x16)] : List (Int × ByteArray × Int × Int))).length))], [(0, .box [.bs true 1 (List.map enc_y p2), .v (.int .i64 (IntKind.wrap .i64 ((IntKind.wrap .i64 ((IntKind.wrap .i64 ((IntKind.wrap .i64 ((IntKind.wrap .i64 (x4.2 + 1)) + 1)) + 1)) + 1)) + 1)))]), (8, .arr 4 (List.map enc_isii ([] : List (Int × ByteArray × Int × Int)) ++ List.map enc_isii ([(x13, x14, x15, x16)] : List (Int × ByteArray × Int × Int))))]⟩) (C := True) (by kernel_rfl) trivial trivial ?_
      refine AX.ret ?_
      refine fin_wk (Wk.swap 1 8 (Nat.le_of_ble_eq_true (by kernel_rfl)) (Nat.le_of_ble_eq_true (by kernel_rfl)) rfl) ?_
      refine fin_wk (Wk.forget [4] [0, 1] (s' := ⟨[(4, .sl 1 0 ((([] : List (Int × ByteArray × Int × Int)) ++ ([(x13, x14, x15, x16)] : List (Int × ByteArray × Int × Int))).length))], [(0, .box [.bs true 1 (List.map enc_y p2), .v (.int .i64 (IntKind.wrap .i64 ((IntKind.wrap .i64 ((IntKind.wrap .i64 ((IntKind.wrap .i64 ((IntKind.wrap .i64 (x4.2 + 1)) + 1)) + 1)) + 1)) + 1)))]), (1, .arr 4 (List.map enc_isii ([] : List (Int × ByteArray × Int × Int)) ++ List.map enc_isii ([(x13, x14, x15, x16)] : List (Int × ByteArray × Int × Int))))]⟩) (by kernel_rfl)) ?_
      refine fin_wk (Wk.of_eq (congrArg (fun z => (⟨[(4, .sl 1 0 ((([] : List (Int × ByteArray × Int × Int)) ++ ([(x13, x14, x15, x16)] : List (Int × ByteArray × Int × Int))).length))], [(0, .box [.bs true 1 (List.map enc_y p2), .v (.int .i64 (IntKind.wrap .i64 ((IntKind.wrap .i64 ((IntKind.wrap .i64 ((IntKind.wrap .i64 ((IntKind.wrap .i64 (x4.2 + 1)) + 1)) + 1)) + 1)) + 1)))]), (1, .arr 4 (z))]⟩ : S)) (app_can (enc := enc_isii) rfl (rfl) : List.map enc_isii ([] : List (Int × ByteArray × Int × Int)) ++ List.map enc_isii ([(x13, x14, x15, x16)] : List (Int × ByteArray × Int × Int)) = List.map enc_isii (([] : List (Int × ByteArray × Int × Int)) ++ ([(x13, x14, x15, x16)] : List (Int × ByteArray × Int × Int)))))) ?_
      have hr := Option.some.inj h
      subst hr
      exact ⟨_, Wk.refl _, .inr rfl, ⟨[1], by kernel_rfl, ⟨rfl, rfl, trivial⟩, [.sl 1 0 ((([] : List (Int × ByteArray × Int × Int)) ++ ([(x13, x14, x15, x16)] : List (Int × ByteArray × Int × Int))).length)], by kernel_rfl, by kernel_rfl⟩⟩
    · replace h := cd_f b13 h
      refine AX.condF (decide (x12 = 0)) (by kernel_rfl) b13 ?_
      refine AX.skip ?_
      refine AX.seq ?_
      refine AX.reg (its := []) [4] [0, 4] (s1 := ⟨[(4, .sl 4 0 (([] : List (Int × ByteArray × Int × Int)).length))], [(0, .box [.bs true 1 (List.map enc_y p2), .v (.int .i64 (IntKind.wrap .i64 (x4.2 + 1)))]), (4, .arr 4 (List.map enc_isii ([] : List (Int × ByteArray × Int × Int))))]⟩) (C := True) (by kernel_rfl) trivial trivial ?_
      refine AX.ret ?_
      refine fin_wk (Wk.swap 1 4 (Nat.le_of_ble_eq_true (by kernel_rfl)) (Nat.le_of_ble_eq_true (by kernel_rfl)) rfl) ?_
      refine fin_wk (Wk.forget [4] [0, 1] (s' := ⟨[(4, .sl 1 0 (([] : List (Int × ByteArray × Int × Int)).length))], [(0, .box [.bs true 1 (List.map enc_y p2), .v (.int .i64 (IntKind.wrap .i64 (x4.2 + 1)))]), (1, .arr 4 (List.map enc_isii ([] : List (Int × ByteArray × Int × Int))))]⟩) (by kernel_rfl)) ?_
      have hr := Option.some.inj h
      subst hr
      exact ⟨_, Wk.refl _, .inr rfl, ⟨[1], by kernel_rfl, ⟨rfl, rfl, trivial⟩, [.sl 1 0 (([] : List (Int × ByteArray × Int × Int)).length)], by kernel_rfl, by kernel_rfl⟩⟩

theorem s_spec_DrawApplyChanges (p1 : List (Int)) (r : (List (ByteArray × Int)) × (List (Int × ByteArray × Int × Int))) (h : m_spec_DrawApplyChanges p1 = some r) :
    Eng.Spec Try.prog 4 [.bs true 1 (List.map enc_y p1)] [] (.tup [.agg [.sl 0 0 r.1.length], .sl 1 0 r.2.length]) [.arr 2 (List.map enc_si r.1), .arr 4 (List.map enc_isii r.2)] := by
  unfold m_spec_DrawApplyChanges at h
  refine Eng.Spec.body Try.func4 (by kernel_rfl) rfl (by kernel_rfl) ?_
  refine AX.wkpost ?_
  refine AX.seq ?_
  refine AX.reg (its := [.auto { nk := 0 }]) [0, 2] [0] (s1 := ⟨[(0, .bs true 1 (List.map enc_y p1)), (2, .pt 0 0)], [(0, .box [.v (.slice none 0 0)])]⟩) (C := True) (by kernel_rfl) trivial trivial ?_
  refine AX.seq ?_
  obtain ⟨x2, e1, h⟩ := bd_e h
  refine AX.reg (its := [.auto {}, .call 11 [.bs true 1 (List.map enc_y p1)] (handO (rho ([] ++ [1])) [] [] ++ []) (callEv [] [1] (.pt 0 0) [.box [.bs true 1 (List.map enc_y x2), .v (.int .i64 0)]])]) [2, 4] [0, 1] (s1 := ⟨[(2, .pt 0 0), (4, .pt 1 0)], [(0, .box [.v (.slice none 0 0)]), (1, .box [.bs true 1 (List.map enc_y x2), .v (.int .i64 0)])]⟩) (C := ((([.bs true 1 (List.map enc_y p1)] : List AV) = [.bs true 1 (List.map enc_y p1)]) ∧ True) ∧ True) (by kernel_rfl) ⟨⟨rfl, trivial⟩, trivial⟩ ⟨call_ok (ks := []) (ns := [1]) (bor := []) (bobjs := []) (s_spec_newReader p1 x2 e1) (.cons (.c1 (.c0 (.same _ (by kernel_rfl) (by kernel_rfl)))) (.nil)) (by kernel_rfl) trivial, trivial⟩ ?_
  refine AX.seq ?_
  obtain ⟨x3, e2, h⟩ := bd_e h
  refine AX.reg (its := [.auto {}, .call 12 [.pt 1 0] (handO (rho ([1] ++ [2])) [1] [.box [.bs true 1 (List.map enc_y x2), .v (.int .i64 0)]] ++ []) (callEv [1] [2] (.agg [.sl 1 0 x3.1.length]) [.box [.bs true 1 (List.map enc_y x2), .v (.int .i64 x3.2)], .arr 2 (List.map enc_si x3.1)]), .auto { nk := 3 }]) [2, 4, 5] [0, 1, 2, 3] (s1 := ⟨[(2, .pt 0 0), (4, .pt 1 0), (5, .pt 3 0)], [(0, .box [.v (.slice none 0 0)]), (1, .box [.bs true 1 (List.map enc_y x2), .v (.int .i64 x3.2)]), (2, .arr 2 (List.map enc_si x3.1)), (3, .box [.sl 2 0 x3.1.length])]⟩) (C := ((([.pt 1 0] : List AV) = [.pt 1 0]) ∧ (AO.box [.bs true 1 (List.map enc_y x2), .v (.int .i64 0)] = AO.box [.bs true 1 (List.map enc_y x2), .v (.int .i64 0)]) ∧ True) ∧ True) (by kernel_rfl) ⟨⟨rfl, rfl, trivial⟩, trivial⟩ ⟨call_ok (ks := [1]) (ns := [2]) (bor := []) (bobjs := []) (s_spec_someEnum x2 0 x3 e2) (.cons (.c1 (.c0 (.same _ (by kernel_rfl) (by kernel_rfl)))) (.nil)) (by kernel_rfl) ⟨.inr rfl, trivial⟩, trivial⟩ ?_
  refine AX.seq ?_
  obtain ⟨x4, e3, h⟩ := bd_e h
  refine AX.drw mixed (its := [.auto {}, .auto {}, .auto {}, .call 13 [.pt 1 0, .agg [.sl 2 0 x3.1.length]] (handO (rho ([1] ++ [4])) [1] [.box [.bs true 1 (List.map enc_y x2), .v (.int .i64 x3.2)]] ++ [(2, .arr 2 (List.map enc_si x3.1))]) (callEv [1] [4] (.sl 1 0 x4.1.length) [.box [.bs true 1 (List.map enc_y x2), .v (.int .i64 x4.2)], .arr 4 (List.map enc_isii x4.1)])]) [2, 3] [0, 2, 4] (s1 := ⟨[(2, .pt 0 0), (3, .sl 4 0 x4.1.length)], [(0, .box [.sl 2 0 x3.1.length]), (2, .arr 2 (List.map enc_si x3.1)), (4, .arr 4 (List.map enc_isii x4.1))]⟩) (C := ((([.pt 1 0, .agg [.sl 2 0 x3.1.length]] : List AV) = [.pt 1 0, .agg [.sl 2 0 x3.1.length]]) ∧ (AO.box [.bs true 1 (List.map enc_y x2), .v (.int .i64 x3.2)] = AO.box [.bs true 1 (List.map enc_y x2), .v (.int .i64 x3.2)]) ∧ (AO.arr 2 (List.map enc_si x3.1) = AO.arr 2 (List.map enc_si x3.1)) ∧ True) ∧ True) (by kernel_rfl) ⟨⟨rfl, rfl, rfl, trivial⟩, trivial⟩ ⟨call_ok (ks := [1]) (ns := [4]) (bor := [2]) (bobjs := [(2, .arr 2 (List.map enc_si x3.1))]) (s_spec_someChanges x3.1 x2 x3.2 x4 e3) (.cons (.c1 (.c0 (.same _ (by kernel_rfl) (by kernel_rfl)))) (.cons (.c1 (.agg (.cons (.arr rfl rfl ((rfl).trans (List.length_map ..).symm)) (.nil)))) (.nil))) (by kernel_rfl) ⟨.inr rfl, trivial⟩, trivial⟩ ?_
  refine AX.ret ?_
  refine fin_wk (Wk.swap 1 2 (Nat.le_of_ble_eq_true (by kernel_rfl)) (Nat.le_of_ble_eq_true (by kernel_rfl)) rfl) ?_
  refine fin_wk (Wk.swap 2 4 (Nat.le_of_ble_eq_true (by kernel_rfl)) (Nat.le_of_ble_eq_true (by kernel_rfl)) rfl) ?_
  refine fin_wk (Wk.forget [2, 3] [0, 1, 2] (s' := ⟨[(2, .pt 0 0), (3, .sl 2 0 x4.1.length)], [(0, .box [.sl 1 0 x3.1.length]), (1, .arr 2 (List.map enc_si x3.1)), (2, .arr 4 (List.map enc_isii x4.1))]⟩) (by kernel_rfl)) ?_
  have hr := Option.some.inj h
  subst hr
  exact ⟨_, Wk.refl _, .inr rfl, ⟨[1, 2], by kernel_rfl, ⟨rfl, rfl, trivial⟩, [.agg [.sl 1 0 x3.1.length], .sl 2 0 x4.1.length], by kernel_rfl, by kernel_rfl⟩⟩

theorem s_impl_in (p1 : Int) (p2 : Int) (p3 : Int) (r : Bool) (h : m_impl_in p1 p2 p3 = some r) :
    Eng.Spec Try.prog 41 [.v (.int .i64 p1), .v (.int .i64 p2), .v (.int .i64 p3)] [] (.v (.bool r)) [] := by
  unfold m_impl_in at h
  refine Eng.Spec.body Try.func41 (by kernel_rfl) rfl (by kernel_rfl) ?_
  refine AX.wkpost ?_
  refine AX.seq ?_
  refine AX.reg (its := []) [0, 1, 2] [] (s1 := ⟨[(0, .v (.int .i64 p1)), (1, .v (.int .i64 p2)), (2, .v (.int .i64 p3))], []⟩) (C := True) (by kernel_rfl) trivial trivial ?_
  refine AX.seq ?_
  rcases bool_cases (decide (p2 ≤ p1)) with b1 | b1
  · replace h := cd_t b1 h
    refine AX.reg (its := [.auto {}, .auto {}, .auto { y := some (.v (.bool true)) }]) [6] [] (s1 := ⟨[(6, .v (.bool (decide (p1 ≤ p3))))], []⟩) (C := ((True) ∧ ((.v (.bool (decide (p2 ≤ p1))) : AV) = (.v (.bool true) : AV))) ∧ True) (by kernel_rfl) ⟨⟨trivial, (congrArg (fun z => AV.v (.bool z)) b1)⟩, trivial⟩ trivial ?_
    refine AX.ret ?_
    refine fin_wk (Wk.forget [6] [] (s' := ⟨[(6, .v (.bool (decide (p1 ≤ p3))))], []⟩) (by kernel_rfl)) ?_
    have hr := Option.some.inj h
    subst hr
    exact ⟨_, Wk.refl _, .inr rfl, ⟨[], by kernel_rfl, trivial, [.v (.bool (decide (p1 ≤ p3)))], by kernel_rfl, by kernel_rfl⟩⟩
  · replace h := cd_f b1 h
    refine AX.reg (its := [.auto {}, .auto {}, .auto { y := some (.v (.bool false)) }]) [6] [] (s1 := ⟨[(6, .v (.bool false))], []⟩) (C := ((True) ∧ ((.v (.bool (decide (p2 ≤ p1))) : AV) = (.v (.bool false) : AV))) ∧ True) (by kernel_rfl) ⟨⟨trivial, (congrArg (fun z => AV.v (.bool z)) b1)⟩, trivial⟩ trivial ?_
    refine AX.ret ?_
    refine fin_wk (Wk.forget [6] [] (s' := ⟨[(6, .v (.bool false))], []⟩) (by kernel_rfl)) ?_
    have hr := Option.some.inj h
    subst hr
    exact ⟨_, Wk.refl _, .inr rfl, ⟨[], by kernel_rfl, trivial, [.v (.bool false)], by kernel_rfl, by kernel_rfl⟩⟩

theorem s_impl_ValidName_L1 (p1 : ByteArray) (n : Nat) (g : Int) (out : Unit ⊕ Unit) (h : m_impl_ValidName_L1 p1 n g = some out) :
    AX Try.prog 23 0 (codeAt [1, 0, 1, 1] (bodyOf Try.f40)) ((fun g : Int => (⟨[(0, .v (.string p1)), (3, .v (.int .i64 g))], []⟩ : S)) g) (fun ex s => (∃ o : Unit, out = Sum.inl o ∧ ex = .ret ∧ s = ⟨[(2, .v (.bool false))], []⟩) ∨ (∃ o : Unit, out = Sum.inr o ∧ ex = .exit 0 ∧ s = ⟨[(0, .v (.string p1))], []⟩)) := by
  refine AX.wkpost ?_
  refine AX.loop (G := Nat × (Int)) (fun q => (fun g : Int => (⟨[(0, .v (.string p1)), (3, .v (.int .i64 g))], []⟩ : S)) q.2) (fun q => m_impl_ValidName_L1 p1 q.1 q.2 = some out) (fun q => q.1) (n, g) h (Wk.refl _) ?_
  clear h
  rintro ⟨fu, v2⟩ h
  cases fu with
  | zero => cases h
  | succ fu =>
    rw [m_impl_ValidName_L1] at h
    refine AX.seq ?_
    refine AX.seq ?_
    refine AX.reg (its := []) [0, 3, 7] [] (s1 := ⟨[(0, .v (.string p1)), (3, .v (.int .i64 v2)), (7, .v (.bool (decide (v2 < (p1.size : Int)))))], []⟩) (C := True) (by kernel_rfl) trivial trivial ?_
    rcases bool_cases (decide (v2 < (p1.size : Int))) with b1 | b1
    · replace h := cd_t b1 h
      refine AX.condT (decide (v2 < (p1.size : Int))) (by kernel_rfl) b1 ?_
      refine AX.skip ?_
      refine AX.seq ?_
      refine AX.block ?_
      refine AX.seq ?_
      obtain ⟨g2, h⟩ := gd_e h
      rcases bool_cases (decide ((byteAt p1 v2.toNat) < 97)) with b3 | b3
      · replace h := cd_t b3 h
        refine AX.reg (its := [.auto {}, .auto {}, .auto {}, .auto { y := some (.v (.bool true)) }]) [0, 3, 19] [] (s1 := ⟨[(0, .v (.string p1)), (3, .v (.int .i64 v2)), (19, .v (.bool true))], []⟩) (C := (0 ≤ v2 ∧ v2 < (p1.size : Int)) ∧ ((True) ∧ ((.v (.bool (decide ((byteAt p1 v2.toNat) < 97))) : AV) = (.v (.bool true) : AV))) ∧ True) (by kernel_rfl) ⟨g2, ⟨⟨trivial, (congrArg (fun z => AV.v (.bool z)) b3)⟩, trivial⟩⟩ trivial ?_
        refine AX.cond_true (by kernel_rfl) ?_
        refine AX.seq ?_
        refine AX.reg (its := []) [2] [] (s1 := ⟨[(2, .v (.bool false))], []⟩) (C := True) (by kernel_rfl) trivial trivial ?_
        refine AX.ret ?_
        refine fin_wk (Wk.forget [2] [] (s' := ⟨[(2, .v (.bool false))], []⟩) (by kernel_rfl)) ?_
        have hr := Option.some.inj h
        subst hr
        exact ⟨_, Wk.refl _, .inl ⟨(), rfl, rfl, rfl⟩⟩
      · replace h := cd_f b3 h
        refine AX.reg (its := [.auto {}, .auto {}, .auto {}, .auto { y := some (.v (.bool false)) }]) [0, 3, 19] [] (s1 := ⟨[(0, .v (.string p1)), (3, .v (.int .i64 v2)), (19, .v (.bool (decide (122 < (byteAt p1 v2.toNat)))))], []⟩) (C := (0 ≤ v2 ∧ v2 < (p1.size : Int)) ∧ ((True) ∧ ((.v (.bool (decide ((byteAt p1 v2.toNat) < 97))) : AV) = (.v (.bool false) : AV))) ∧ (0 ≤ v2 ∧ v2 < (p1.size : Int)) ∧ True) (by kernel_rfl) ⟨g2, ⟨⟨trivial, (congrArg (fun z => AV.v (.bool z)) b3)⟩, ⟨g2, trivial⟩⟩⟩ trivial ?_
        rcases bool_cases (decide (122 < (byteAt p1 v2.toNat))) with b4 | b4
        · replace h := cd_t b4 h
          refine AX.condT (decide (122 < (byteAt p1 v2.toNat))) (by kernel_rfl) b4 ?_
          refine AX.seq ?_
          refine AX.reg (its := []) [2] [] (s1 := ⟨[(2, .v (.bool false))], []⟩) (C := True) (by kernel_rfl) trivial trivial ?_
          refine AX.ret ?_
          refine fin_wk (Wk.forget [2] [] (s' := ⟨[(2, .v (.bool false))], []⟩) (by kernel_rfl)) ?_
          have hr := Option.some.inj h
          subst hr
          exact ⟨_, Wk.refl _, .inl ⟨(), rfl, rfl, rfl⟩⟩
        · replace h := cd_f b4 h
          refine AX.condF (decide (122 < (byteAt p1 v2.toNat))) (by kernel_rfl) b4 ?_
          refine AX.skip ?_
          refine AX.reg (its := [.auto {}, .auto { raw := true }]) [0, 3] [] (s1 := ⟨[(0, .v (.string p1)), (3, .v (.int .i64 (IntKind.wrap .i64 (v2 + 1))))], []⟩) (C := True) (by kernel_rfl) trivial trivial ?_
          refine ⟨(fu, IntKind.wrap .i64 (v2 + 1)), h, Nat.lt_succ_self _, ?_⟩
          refine Wk.trans (Wk.forget [0, 3] [] (s' := ⟨[(0, .v (.string p1)), (3, .v (.int .i64 (IntKind.wrap .i64 (v2 + 1))))], []⟩) (by kernel_rfl)) ?_
          exact Wk.refl _
    · replace h := cd_f b1 h
      refine AX.condF (decide (v2 < (p1.size : Int))) (by kernel_rfl) b1 ?_
      refine AX.exit ?_
      refine fin_wk (Wk.forget [0] [] (s' := ⟨[(0, .v (.string p1))], []⟩) (by kernel_rfl)) ?_
      have hr := Option.some.inj h
      subst hr
      exact ⟨_, Wk.refl _, .inr ⟨(), rfl, rfl, rfl⟩⟩

theorem s_impl_ValidName (p1 : ByteArray) (r : Bool) (h : m_impl_ValidName p1 = some r) :
    Eng.Spec Try.prog 40 [.v (.string p1)] [] (.v (.bool r)) [] := by
  unfold m_impl_ValidName at h
  refine Eng.Spec.body Try.func40 (by kernel_rfl) rfl (by kernel_rfl) ?_
  refine AX.wkpost ?_
  refine AX.seq ?_
  refine AX.reg (its := []) [0] [] (s1 := ⟨[(0, .v (.string p1))], []⟩) (C := True) (by kernel_rfl) trivial trivial ?_
  refine AX.seq ?_
  refine AX.seq ?_
  refine AX.reg (its := []) [0, 3] [] (s1 := ⟨[(0, .v (.string p1)), (3, .v (.int .i64 0))], []⟩) (C := True) (by kernel_rfl) trivial trivial ?_
  refine AX.block ?_
  obtain ⟨x3, e5, h⟩ := bd_e h
  refine AX.wk (Wk.forget [0, 3] [] (s' := ⟨[(0, .v (.string p1)), (3, .v (.int .i64 0))], []⟩) (by kernel_rfl)) ?_
  refine AX.mono (s_impl_ValidName_L1 p1 FU 0 x3 e5) ?_
  rintro _ _ (⟨x4, rfl, rfl, rfl⟩ | ⟨x5, rfl, rfl, rfl⟩)
  · replace h := sm_l h
    refine fin_wk (Wk.forget [2] [] (s' := ⟨[(2, .v (.bool false))], []⟩) (by kernel_rfl)) ?_
    have hr := Option.some.inj h
    subst hr
    exact ⟨_, Wk.refl _, .inr rfl, ⟨[], by kernel_rfl, trivial, [.v (.bool false)], by kernel_rfl, by kernel_rfl⟩⟩
  · replace h := sm_r h
    refine AX.seq ?_
    obtain ⟨x6, e6, h⟩ := bd_e h
    refine AX.reg (its := [.auto {}, .auto {}, .call 41 [.v (.int .i64 (p1.size : Int)), .v (.int .i64 1), .v (.int .i64 6)] (handO (rho ([] ++ [])) [] [] ++ []) (callEv [] [] (.v (.bool x6)) [])]) [2] [] (s1 := ⟨[(2, .v (.bool x6))], []⟩) (C := ((([.v (.int .i64 (p1.size : Int)), .v (.int .i64 1), .v (.int .i64 6)] : List AV) = [.v (.int .i64 (p1.size : Int)), .v (.int .i64 1), .v (.int .i64 6)]) ∧ True) ∧ True) (by kernel_rfl) ⟨⟨rfl, trivial⟩, trivial⟩ ⟨call_ok (ks := []) (ns := []) (bor := []) (bobjs := []) (s_impl_in (p1.size : Int) 1 6 x6 e6) (.cons (.c1 (.c0 (.same _ (by kernel_rfl) (by kernel_rfl)))) (.cons (.c1 (.c0 (.same _ (by kernel_rfl) (by kernel_rfl)))) (.cons (.c1 (.c0 (.same _ (by kernel_rfl) (by kernel_rfl)))) (.nil)))) (by kernel_rfl) trivial, trivial⟩ ?_
    refine AX.ret ?_
    refine fin_wk (Wk.forget [2] [] (s' := ⟨[(2, .v (.bool x6))], []⟩) (by kernel_rfl)) ?_
    have hr := Option.some.inj h
    subst hr
    exact ⟨_, Wk.refl _, .inr rfl, ⟨[], by kernel_rfl, trivial, [.v (.bool x6)], by kernel_rfl, by kernel_rfl⟩⟩

theorem s_impl_named_1_l (p1 : ByteArray) (p2 : Int) (p3 : ByteArray) (r : Unit) (h : m_impl_named_1_l p1 p2 p3 = some r) :
    Eng.Spec Try.prog 45 [.agg [.v (.string p1), .v (.int .i64 p2)], .bp [.v (.string p3)] 0] [] (.v (.bool (decide (p1 = p3)))) [] := by
  unfold m_impl_named_1_l at h
  refine Eng.Spec.body Try.func45 (by kernel_rfl) rfl (by kernel_rfl) ?_
  refine AX.wkpost ?_
  refine AX.seq ?_
  refine AX.reg (its := [.auto { nk := 0 }]) [1, 2] [0] (s1 := ⟨[(1, .bp [.v (.string p3)] 0), (2, .pt 0 0)], [(0, .box [.v (.string p1), .v (.int .i64 p2)])]⟩) (C := True) (by kernel_rfl) trivial trivial ?_
  refine AX.seq ?_
  refine AX.reg (its := []) [3] [] (s1 := ⟨[(3, .v (.bool (decide (p1 = p3))))], []⟩) (C := True) (by kernel_rfl) trivial trivial ?_
  refine AX.ret ?_
  refine fin_wk (Wk.forget [3] [] (s' := ⟨[(3, .v (.bool (decide (p1 = p3))))], []⟩) (by kernel_rfl)) ?_
  have hr := Option.some.inj h
  subst hr
  exact ⟨_, Wk.refl _, .inr rfl, ⟨[], by kernel_rfl, trivial, [.v (.bool (decide (p1 = p3)))], by kernel_rfl, by kernel_rfl⟩⟩

theorem s_slices_IndexFunc_si_named_1_l_L1 (p1 : List (ByteArray × Int)) (p2 : ByteArray) (n : Nat) (g : Int) (out : Int ⊕ Unit) (h : m_slices_IndexFunc_si_named_1_l_L1 p1 p2 n g = some out) :
    AX Try.prog 19 0 (codeAt [1, 0, 1, 1] (bodyOf Try.f44)) ((fun g : Int => (⟨[(0, .bs false 2 (List.map enc_si p1)), (1, .fn 45 [.bp [.v (.string p2)] 0]), (7, .v (.int .i64 (p1.length : Int))), (8, .v (.int .i64 g))], []⟩ : S)) g) (fun ex s => (∃ o : Int, out = Sum.inl o ∧ ex = .ret ∧ s = ⟨[(4, .v (.int .i64 o))], []⟩) ∨ (∃ o : Unit, out = Sum.inr o ∧ ex = .exit 0 ∧ s = ⟨[], []⟩)) := by
  refine AX.wkpost ?_
  refine AX.loop (G := Nat × (Int)) (fun q => (fun g : Int => (⟨[(0, .bs false 2 (List.map enc_si p1)), (1, .fn 45 [.bp [.v (.string p2)] 0]), (7, .v (.int .i64 (p1.length : Int))), (8, .v (.int .i64 g))], []⟩ : S)) q.2) (fun q => m_slices_IndexFunc_si_named_1_l_L1 p1 p2 q.1 q.2 = some out) (fun q => q.1) (n, g) h (Wk.refl _) ?_
  clear h
  rintro ⟨fu, v3⟩ h
  cases fu with
  | zero => cases h
  | succ fu =>
    rw [m_slices_IndexFunc_si_named_1_l_L1] at h
    refine AX.seq ?_
    refine AX.reg (its := []) [0, 1, 7, 8, 9] [] (s1 := ⟨[(0, .bs false 2 (List.map enc_si p1)), (1, .fn 45 [.bp [.v (.string p2)] 0]), (7, .v (.int .i64 (p1.length : Int))), (8, .v (.int .i64 v3)), (9, .v (.bool (decide (v3 < (p1.length : Int)))))], []⟩) (C := True) (by kernel_rfl) trivial trivial ?_
    refine AX.seq ?_
    rcases bool_cases (decide (v3 < (p1.length : Int))) with b1 | b1
    · replace h := cd_t b1 h
      refine AX.condT (decide (v3 < (p1.length : Int))) (by kernel_rfl) b1 ?_
      refine AX.skip ?_
      refine AX.seq ?_
      refine AX.block ?_
      refine AX.seq ?_
      refine AX.reg (its := []) [0, 1, 5, 7, 8] [] (s1 := ⟨[(0, .bs false 2 (List.map enc_si p1)), (1, .fn 45 [.bp [.v (.string p2)] 0]), (5, .v (.int .i64 v3)), (7, .v (.int .i64 (p1.length : Int))), (8, .v (.int .i64 v3))], []⟩) (C := True) (by kernel_rfl) trivial trivial ?_
      refine AX.seq ?_
      obtain ⟨g2, h⟩ := gd_e h
      obtain ⟨x4, e3, h⟩ := bd_e h
      refine AX.reg (its := [.auto {}, .auto {}, .auto {}, .auto { y := some (.be 2 (enc_si (gt p1 v3)) 0) }, .auto {}, .call 45 [.agg [.v (.string ((gt p1 v3).1)), .v (.int .i64 ((gt p1 v3).2))], .bp [.v (.string p2)] 0] (handO (rho ([] ++ [])) [] [] ++ []) (callEv [] [] (.v (.bool (decide (((gt p1 v3).1) = p2)))) [])]) [0, 1, 5, 7, 8, 16] [] (s1 := ⟨[(0, .bs false 2 (List.map enc_si p1)), (1, .fn 45 [.bp [.v (.string p2)] 0]), (5, .v (.int .i64 v3)), (7, .v (.int .i64 (p1.length : Int))), (8, .v (.int .i64 v3)), (16, .v (.bool (decide (((gt p1 v3).1) = p2))))], []⟩) (C := ((0 ≤ v3 ∧ v3 < ((List.map enc_si p1).length : Int)) ∧ (AV.be 2 ((List.map enc_si p1).getD v3.toNat []) 0 = AV.be 2 (enc_si (gt p1 v3)) 0)) ∧ ((([.agg [.v (.string ((gt p1 v3).1)), .v (.int .i64 ((gt p1 v3).2))], .bp [.v (.string p2)] 0] : List AV) = [.agg [.v (.string ((gt p1 v3).1)), .v (.int .i64 ((gt p1 v3).2))], .bp [.v (.string p2)] 0]) ∧ True) ∧ True) (by kernel_rfl) ⟨idx_bs enc_si p1 v3 2 g2, ⟨⟨rfl, trivial⟩, trivial⟩⟩ ⟨call_ok (ks := []) (ns := []) (bor := []) (bobjs := []) (s_impl_named_1_l ((gt p1 v3).1) ((gt p1 v3).2) p2 x4 e3) (.cons (.c1 (.agg (.cons (.same _ (by kernel_rfl) (by kernel_rfl)) (.cons (.same _ (by kernel_rfl) (by kernel_rfl)) (.nil))))) (.cons (.c1 (.bp (.cons (.same _ (by kernel_rfl) (by kernel_rfl)) (.nil)))) (.nil))) (by kernel_rfl) trivial, trivial⟩ ?_
      rcases bool_cases (decide (((gt p1 v3).1) = p2)) with b4 | b4
      · replace h := cd_t b4 h
        refine AX.condT (decide (((gt p1 v3).1) = p2)) (by kernel_rfl) b4 ?_
        refine AX.seq ?_
        refine AX.reg (its := []) [4] [] (s1 := ⟨[(4, .v (.int .i64 v3))], []⟩) (C := True) (by kernel_rfl) trivial trivial ?_
        refine AX.ret ?_
        refine fin_wk (Wk.forget [4] [] (s' := ⟨[(4, .v (.int .i64 v3))], []⟩) (by kernel_rfl)) ?_
        have hr := Option.some.inj h
        subst hr
        exact ⟨_, Wk.refl _, .inl ⟨v3, rfl, rfl, rfl⟩⟩
      · replace h := cd_f b4 h
        refine AX.condF (decide (((gt p1 v3).1) = p2)) (by kernel_rfl) b4 ?_
        refine AX.skip ?_
        refine AX.reg (its := [.auto { raw := true }]) [0, 1, 7, 8] [] (s1 := ⟨[(0, .bs false 2 (List.map enc_si p1)), (1, .fn 45 [.bp [.v (.string p2)] 0]), (7, .v (.int .i64 (p1.length : Int))), (8, .v (.int .i64 (IntKind.wrap .i64 (v3 + 1))))], []⟩) (C := True) (by kernel_rfl) trivial trivial ?_
        refine ⟨(fu, IntKind.wrap .i64 (v3 + 1)), h, Nat.lt_succ_self _, ?_⟩
        refine Wk.trans (Wk.forget [0, 1, 7, 8] [] (s' := ⟨[(0, .bs false 2 (List.map enc_si p1)), (1, .fn 45 [.bp [.v (.string p2)] 0]), (7, .v (.int .i64 (p1.length : Int))), (8, .v (.int .i64 (IntKind.wrap .i64 (v3 + 1))))], []⟩) (by kernel_rfl)) ?_
        exact Wk.refl _
    · replace h := cd_f b1 h
      refine AX.condF (decide (v3 < (p1.length : Int))) (by kernel_rfl) b1 ?_
      refine AX.exit ?_
      refine fin_wk (Wk.forget [] [] (s' := ⟨[], []⟩) (by kernel_rfl)) ?_
      have hr := Option.some.inj h
      subst hr
      exact ⟨_, Wk.refl _, .inr ⟨(), rfl, rfl, rfl⟩⟩

theorem s_slices_IndexFunc_si_named_1_l (p1 : List (ByteArray × Int)) (p2 : ByteArray) (r : Int) (h : m_slices_IndexFunc_si_named_1_l p1 p2 = some r) :
    Eng.Spec Try.prog 44 [.bs false 2 (List.map enc_si p1), .fn 45 [.bp [.v (.string p2)] 0]] [] (.v (.int .i64 r)) [] := by
  unfold m_slices_IndexFunc_si_named_1_l at h
  refine Eng.Spec.body Try.func44 (by kernel_rfl) rfl (by kernel_rfl) ?_
  refine AX.wkpost ?_
  refine AX.seq ?_
  refine AX.reg (its := []) [0, 1] [] (s1 := ⟨[(0, .bs false 2 (List.map enc_si p1)), (1, .fn 45 [.bp [.v (.string p2)] 0])], []⟩) (C := True) (by kernel_rfl) trivial trivial ?_
  refine AX.seq ?_
  refine AX.seq ?_
  refine AX.reg (its := [.auto {}, .auto { y := some (.v (.int .i64 (p1.length : Int))) }]) [0, 1, 7, 8] [] (s1 := ⟨[(0, .bs false 2 (List.map enc_si p1)), (1, .fn 45 [.bp [.v (.string p2)] 0]), (7, .v (.int .i64 (p1.length : Int))), (8, .v (.int .i64 0))], []⟩) (C := (True ∧ (AV.v (.int .i64 ((List.map enc_si p1).length : Int)) = AV.v (.int .i64 (p1.length : Int)))) ∧ True) (by kernel_rfl) ⟨⟨trivial, len_map enc_si p1⟩, trivial⟩ trivial ?_
  refine AX.block ?_
  obtain ⟨x5, e5, h⟩ := bd_e h
  refine AX.wk (Wk.forget [0, 1, 7, 8] [] (s' := ⟨[(0, .bs false 2 (List.map enc_si p1)), (1, .fn 45 [.bp [.v (.string p2)] 0]), (7, .v (.int .i64 (p1.length : Int))), (8, .v (.int .i64 0))], []⟩) (by kernel_rfl)) ?_
  refine AX.mono (s_slices_IndexFunc_si_named_1_l_L1 p1 p2 FU 0 x5 e5) ?_
  rintro _ _ (⟨x6, rfl, rfl, rfl⟩ | ⟨x7, rfl, rfl, rfl⟩)
  · replace h := sm_l h
    refine fin_wk (Wk.forget [4] [] (s' := ⟨[(4, .v (.int .i64 x6))], []⟩) (by kernel_rfl)) ?_
    have hr := Option.some.inj h
    subst hr
    exact ⟨_, Wk.refl _, .inr rfl, ⟨[], by kernel_rfl, trivial, [.v (.int .i64 x6)], by kernel_rfl, by kernel_rfl⟩⟩
  · replace h := sm_r h
    refine AX.seq ?_
    refine AX.reg (its := []) [4] [] (s1 := ⟨[(4, .v (.int .i64 (-1)))], []⟩) (C := True) (by kernel_rfl) trivial trivial ?_
    refine AX.ret ?_
    refine fin_wk (Wk.forget [4] [] (s' := ⟨[(4, .v (.int .i64 (-1)))], []⟩) (by kernel_rfl)) ?_
    have hr := Option.some.inj h
    subst hr
    exact ⟨_, Wk.refl _, .inr rfl, ⟨[], by kernel_rfl, trivial, [.v (.int .i64 (-1))], by kernel_rfl, by kernel_rfl⟩⟩

theorem s_impl_named (p1 : List (ByteArray × Int)) (p2 : ByteArray) (r : Int) (h : m_impl_named p1 p2 = some r) :
    Eng.Spec Try.prog 32 [.bs false 2 (List.map enc_si p1), .v (.string p2)] [] (.v (.int .i64 r)) [] := by
  unfold m_impl_named at h
  refine Eng.Spec.body Try.func32 (by kernel_rfl) rfl (by kernel_rfl) ?_
  refine AX.wkpost ?_
  refine AX.seq ?_
  refine AX.reg (its := [.auto { nk := 0 }]) [0, 3] [0] (s1 := ⟨[(0, .bs false 2 (List.map enc_si p1)), (3, .pt 0 0)], [(0, .box [.v (.string p2)])]⟩) (C := True) (by kernel_rfl) trivial trivial ?_
  refine AX.seq ?_
  obtain ⟨x3, e1, h⟩ := bd_e h
  refine AX.reg (its := [.auto {}, .auto {}, .call 44 [.bs false 2 (List.map enc_si p1), .fn 45 [.pt 0 0]] (handO (rho ([] ++ [])) [] [] ++ [(0, .box [.v (.string p2)])]) (callEv [] [] (.v (.int .i64 x3)) [])]) [4] [] (s1 := ⟨[(4, .v (.int .i64 x3))], []⟩) (C := ((([.bs false 2 (List.map enc_si p1), .fn 45 [.pt 0 0]] : List AV) = [.bs false 2 (List.map enc_si p1), .fn 45 [.pt 0 0]]) ∧ (AO.box [.v (.string p2)] = AO.box [.v (.string p2)]) ∧ True) ∧ True) (by kernel_rfl) ⟨⟨rfl, rfl, trivial⟩, trivial⟩ ⟨call_ok (ks := []) (ns := []) (bor := [0]) (bobjs := [(0, .box [.v (.string p2)])]) (s_slices_IndexFunc_si_named_1_l p1 p2 x3 e1) (.cons (.c1 (.c0 (.same _ (by kernel_rfl) (by kernel_rfl)))) (.cons (.fn (.cons (.box rfl rfl (.cons (.same _ (by kernel_rfl) (by kernel_rfl)) (.nil))) (.nil))) (.nil))) (by kernel_rfl) trivial, trivial⟩ ?_
  refine AX.ret ?_
  refine fin_wk (Wk.forget [4] [] (s' := ⟨[(4, .v (.int .i64 x3))], []⟩) (by kernel_rfl)) ?_
  have hr := Option.some.inj h
  subst hr
  exact ⟨_, Wk.refl _, .inr rfl, ⟨[], by kernel_rfl, trivial, [.v (.int .i64 x3)], by kernel_rfl, by kernel_rfl⟩⟩

theorem s_impl_defsValid_L1 (p1 : List (ByteArray × Int)) (p2 : Int) (p3 : Int) (n : Nat) (g : Int) (out : Unit ⊕ Unit) (h : m_impl_defsValid_L1 p1 p2 p3 n g = some out) :
    AX Try.prog 41 0 (codeAt [1, 0, 1, 1] (bodyOf Try.f22)) ((fun g : Int => (⟨[(0, .bs false 2 (List.map enc_si p1)), (1, .v (.int .i64 p2)), (2, .v (.int .i64 p3)), (9, .bs false 2 (List.map enc_si p1)), (10, .v (.int .i64 (p1.length : Int))), (11, .v (.int .i64 g))], []⟩ : S)) g) (fun ex s => (∃ o : Unit, out = Sum.inl o ∧ ex = .ret ∧ s = ⟨[(6, .v (.bool false))], []⟩) ∨ (∃ o : Unit, out = Sum.inr o ∧ ex = .exit 0 ∧ s = ⟨[(0, .bs false 2 (List.map enc_si p1))], []⟩)) := by
  refine AX.wkpost ?_
  refine AX.loop (G := Nat × (Int)) (fun q => (fun g : Int => (⟨[(0, .bs false 2 (List.map enc_si p1)), (1, .v (.int .i64 p2)), (2, .v (.int .i64 p3)), (9, .bs false 2 (List.map enc_si p1)), (10, .v (.int .i64 (p1.length : Int))), (11, .v (.int .i64 g))], []⟩ : S)) q.2) (fun q => m_impl_defsValid_L1 p1 p2 p3 q.1 q.2 = some out) (fun q => q.1) (n, g) h (Wk.refl _) ?_
  clear h
  rintro ⟨fu, v4⟩ h
  cases fu with
  | zero => cases h
  | succ fu =>
    rw [m_impl_defsValid_L1] at h
    refine AX.seq ?_
    refine AX.reg (its := []) [0, 1, 2, 9, 10, 11, 12] [] (s1 := ⟨[(0, .bs false 2 (List.map enc_si p1)), (1, .v (.int .i64 p2)), (2, .v (.int .i64 p3)), (9, .bs false 2 (List.map enc_si p1)), (10, .v (.int .i64 (p1.length : Int))), (11, .v (.int .i64 v4)), (12, .v (.bool (decide (v4 < (p1.length : Int)))))], []⟩) (C := True) (by kernel_rfl) trivial trivial ?_
    refine AX.seq ?_
    rcases bool_cases (decide (v4 < (p1.length : Int))) with b1 | b1
    · replace h := cd_t b1 h
      refine AX.condT (decide (v4 < (p1.length : Int))) (by kernel_rfl) b1 ?_
      refine AX.skip ?_
      refine AX.seq ?_
      refine AX.block ?_
      refine AX.seq ?_
      obtain ⟨g2, h⟩ := gd_e h
      refine AX.reg (its := [.auto {}, .auto { y := some (.be 2 (enc_si (gt p1 v4)) 0) }, .auto {}, .auto { nk := 0 }]) [0, 1, 2, 7, 8, 9, 10, 11] [0] (s1 := ⟨[(0, .bs false 2 (List.map enc_si p1)), (1, .v (.int .i64 p2)), (2, .v (.int .i64 p3)), (7, .v (.int .i64 v4)), (8, .pt 0 0), (9, .bs false 2 (List.map enc_si p1)), (10, .v (.int .i64 (p1.length : Int))), (11, .v (.int .i64 v4))], [(0, .box [.v (.string ((gt p1 v4).1)), .v (.int .i64 ((gt p1 v4).2))])]⟩) (C := ((0 ≤ v4 ∧ v4 < ((List.map enc_si p1).length : Int)) ∧ (AV.be 2 ((List.map enc_si p1).getD v4.toNat []) 0 = AV.be 2 (enc_si (gt p1 v4)) 0)) ∧ True) (by kernel_rfl) ⟨idx_bs enc_si p1 v4 2 g2, trivial⟩ trivial ?_
      refine AX.seq ?_
      obtain ⟨x5, e3, h⟩ := bd_e h
      rcases bool_cases ((!x5)) with b4 | b4
      · replace h := cd_t b4 h
        refine AX.drw mixed (its := [.auto {}, .auto {}, .call 40 [.v (.string ((gt p1 v4).1))] (handO (rho ([] ++ [])) [] [] ++ []) (callEv [] [] (.v (.bool x5)) []), .auto { y := some (.v (.bool true)) }]) [0, 1, 2, 9, 10, 11, 36] [] (s1 := ⟨[(0, .bs false 2 (List.map enc_si p1)), (1, .v (.int .i64 p2)), (2, .v (.int .i64 p3)), (9, .bs false 2 (List.map enc_si p1)), (10, .v (.int .i64 (p1.length : Int))), (11, .v (.int .i64 v4)), (36, .v (.bool true))], []⟩) (C := ((([.v (.string ((gt p1 v4).1))] : List AV) = [.v (.string ((gt p1 v4).1))]) ∧ True) ∧ ((True) ∧ ((.v (.bool (!x5)) : AV) = (.v (.bool true) : AV))) ∧ True) (by kernel_rfl) ⟨⟨rfl, trivial⟩, ⟨⟨trivial, (congrArg (fun z => AV.v (.bool z)) b4)⟩, trivial⟩⟩ ⟨call_ok (ks := []) (ns := []) (bor := []) (bobjs := []) (s_impl_ValidName ((gt p1 v4).1) x5 e3) (.cons (.c1 (.c0 (.same _ (by kernel_rfl) (by kernel_rfl)))) (.nil)) (by kernel_rfl) trivial, trivial⟩ ?_
        refine AX.cond_true (by kernel_rfl) ?_
        refine AX.seq ?_
        refine AX.reg (its := []) [6] [] (s1 := ⟨[(6, .v (.bool false))], []⟩) (C := True) (by kernel_rfl) trivial trivial ?_
        refine AX.ret ?_
        refine fin_wk (Wk.forget [6] [] (s' := ⟨[(6, .v (.bool false))], []⟩) (by kernel_rfl)) ?_
        have hr := Option.some.inj h
        subst hr
        exact ⟨_, Wk.refl _, .inl ⟨(), rfl, rfl, rfl⟩⟩
      · replace h := cd_f b4 h
        obtain ⟨x6, e5, h⟩ := bd_e h
        rcases bool_cases ((!x6)) with b6 | b6
        · replace h := cd_t b6 h
          refine AX.drw mixed (its := [.auto {}, .auto {}, .call 40 [.v (.string ((gt p1 v4).1))] (handO (rho ([] ++ [])) [] [] ++ []) (callEv [] [] (.v (.bool x5)) []), .auto { y := some (.v (.bool false)) }, .auto {}, .auto {}, .auto {}, .auto {}, .auto {}, .call 41 [.v (.int .i64 ((gt p1 v4).2)), .v (.int .i64 p2), .v (.int .i64 p3)] (handO (rho ([] ++ [])) [] [] ++ []) (callEv [] [] (.v (.bool x6)) []), .auto { y := some (.v (.bool true)) }]) [0, 1, 2, 9, 10, 11, 36] [] (s1 := ⟨[(0, .bs false 2 (List.map enc_si p1)), (1, .v (.int .i64 p2)), (2, .v (.int .i64 p3)), (9, .bs false 2 (List.map enc_si p1)), (10, .v (.int .i64 (p1.length : Int))), (11, .v (.int .i64 v4)), (36, .v (.bool true))], []⟩) (C := ((([.v (.string ((gt p1 v4).1))] : List AV) = [.v (.string ((gt p1 v4).1))]) ∧ True) ∧ ((True) ∧ ((.v (.bool (!x5)) : AV) = (.v (.bool false) : AV))) ∧ ((([.v (.int .i64 ((gt p1 v4).2)), .v (.int .i64 p2), .v (.int .i64 p3)] : List AV) = [.v (.int .i64 ((gt p1 v4).2)), .v (.int .i64 p2), .v (.int .i64 p3)]) ∧ True) ∧ ((True) ∧ ((.v (.bool (!x6)) : AV) = (.v (.bool true) : AV))) ∧ True) (by kernel_rfl) ⟨⟨rfl, trivial⟩, ⟨⟨trivial, (congrArg (fun z => AV.v (.bool z)) b4)⟩, ⟨⟨rfl, trivial⟩, ⟨⟨trivial, (congrArg (fun z => AV.v (.bool z)) b6)⟩, trivial⟩⟩⟩⟩ ⟨call_ok (ks := []) (ns := []) (bor := []) (bobjs := []) (s_impl_ValidName ((gt p1 v4).1) x5 e3) (.cons (.c1 (.c0 (.same _ (by kernel_rfl) (by kernel_rfl)))) (.nil)) (by kernel_rfl) trivial, ⟨call_ok (ks := []) (ns := []) (bor := []) (bobjs := []) (s_impl_in ((gt p1 v4).2) p2 p3 x6 e5) (.cons (.c1 (.c0 (.same _ (by kernel_rfl) (by kernel_rfl)))) (.cons (.c1 (.c0 (.same _ (by kernel_rfl) (by kernel_rfl)))) (.cons (.c1 (.c0 (.same _ (by kernel_rfl) (by kernel_rfl)))) (.nil)))) (by kernel_rfl) trivial, trivial⟩⟩ ?_
          refine AX.cond_true (by kernel_rfl) ?_
          refine AX.seq ?_
          refine AX.reg (its := []) [6] [] (s1 := ⟨[(6, .v (.bool false))], []⟩) (C := True) (by kernel_rfl) trivial trivial ?_
          refine AX.ret ?_
          refine fin_wk (Wk.forget [6] [] (s' := ⟨[(6, .v (.bool false))], []⟩) (by kernel_rfl)) ?_
          have hr := Option.some.inj h
          subst hr
          exact ⟨_, Wk.refl _, .inl ⟨(), rfl, rfl, rfl⟩⟩
        · replace h := cd_f b6 h
          obtain ⟨g7, h⟩ := gd_e h
          obtain ⟨x7, e8, h⟩ := bd_e h
          refine AX.drw mixed (its := [.auto {}, .auto {}, .call 40 [.v (.string ((gt p1 v4).1))] (handO (rho ([] ++ [])) [] [] ++ []) (callEv [] [] (.v (.bool x5)) []), .auto { y := some (.v (.bool false)) }, .auto {}, .auto {}, .auto {}, .auto {}, .auto {}, .call 41 [.v (.int .i64 ((gt p1 v4).2)), .v (.int .i64 p2), .v (.int .i64 p3)] (handO (rho ([] ++ [])) [] [] ++ []) (callEv [] [] (.v (.bool x6)) []), .auto { y := some (.v (.bool false)) }, .auto {}, .auto {}, .auto {}, .auto {}, .auto { y := some (.bs false 2 (List.map enc_si (sub p1 (0 : Int) v4))) }, .auto {}, .auto {}, .call 32 [.bs false 2 (List.map enc_si (sub p1 (0 : Int) v4)), .v (.string ((gt p1 v4).1))] (handO (rho ([] ++ [])) [] [] ++ []) (callEv [] [] (.v (.int .i64 x7)) [])]) [0, 1, 2, 9, 10, 11, 36] [] (s1 := ⟨[(0, .bs false 2 (List.map enc_si p1)), (1, .v (.int .i64 p2)), (2, .v (.int .i64 p3)), (9, .bs false 2 (List.map enc_si p1)), (10, .v (.int .i64 (p1.length : Int))), (11, .v (.int .i64 v4)), (36, .v (.bool (decide (0 ≤ x7))))], []⟩) (C := ((([.v (.string ((gt p1 v4).1))] : List AV) = [.v (.string ((gt p1 v4).1))]) ∧ True) ∧ ((True) ∧ ((.v (.bool (!x5)) : AV) = (.v (.bool false) : AV))) ∧ ((([.v (.int .i64 ((gt p1 v4).2)), .v (.int .i64 p2), .v (.int .i64 p3)] : List AV) = [.v (.int .i64 ((gt p1 v4).2)), .v (.int .i64 p2), .v (.int .i64 p3)]) ∧ True) ∧ ((True) ∧ ((.v (.bool (!x6)) : AV) = (.v (.bool false) : AV))) ∧ ((0 ≤ (0 : Int) ∧ (0 : Int) ≤ v4 ∧ v4 ≤ ((List.map enc_si p1).length : Int) ∧ ((List.map enc_si p1).length : Int) ≤ ((List.map enc_si p1).length : Int)) ∧ (AV.bs false 2 (((List.map enc_si p1).drop (0 : Int).toNat).take (v4.toNat - (0 : Int).toNat)) = (.bs false 2 (List.map enc_si (sub p1 (0 : Int) v4)) : AV))) ∧ ((([.bs false 2 (List.map enc_si (sub p1 (0 : Int) v4)), .v (.string ((gt p1 v4).1))] : List AV) = [.bs false 2 (List.map enc_si (sub p1 (0 : Int) v4)), .v (.string ((gt p1 v4).1))]) ∧ True) ∧ True) (by kernel_rfl) ⟨⟨rfl, trivial⟩, ⟨⟨trivial, (congrArg (fun z => AV.v (.bool z)) b4)⟩, ⟨⟨rfl, trivial⟩, ⟨⟨trivial, (congrArg (fun z => AV.v (.bool z)) b6)⟩, ⟨⟨by first | exact g7 | simpa only [List.length_map] using g7, by first | exact sub_can enc_si p1 (0 : Int) v4 false 2 | (simp only [List.length_map]; exact sub_can enc_si p1 (0 : Int) v4 false 2)⟩, ⟨⟨rfl, trivial⟩, trivial⟩⟩⟩⟩⟩⟩ ⟨call_ok (ks := []) (ns := []) (bor := []) (bobjs := []) (s_impl_ValidName ((gt p1 v4).1) x5 e3) (.cons (.c1 (.c0 (.same _ (by kernel_rfl) (by kernel_rfl)))) (.nil)) (by kernel_rfl) trivial, ⟨call_ok (ks := []) (ns := []) (bor := []) (bobjs := []) (s_impl_in ((gt p1 v4).2) p2 p3 x6 e5) (.cons (.c1 (.c0 (.same _ (by kernel_rfl) (by kernel_rfl)))) (.cons (.c1 (.c0 (.same _ (by kernel_rfl) (by kernel_rfl)))) (.cons (.c1 (.c0 (.same _ (by kernel_rfl) (by kernel_rfl)))) (.nil)))) (by kernel_rfl) trivial, ⟨call_ok (ks := []) (ns := []) (bor := []) (bobjs := []) (s_impl_named (sub p1 (0 : Int) v4) ((gt p1 v4).1) x7 e8) (.cons (.c1 (.c0 (.same _ (by kernel_rfl) (by kernel_rfl)))) (.cons (.c1 (.c0 (.same _ (by kernel_rfl) (by kernel_rfl)))) (.nil))) (by kernel_rfl) trivial, trivial⟩⟩⟩ ?_
          rcases bool_cases (decide (0 ≤ x7)) with b9 | b9
          · replace h := cd_t b9 h
            refine AX.condT (decide (0 ≤ x7)) (by kernel_rfl) b9 ?_
            refine AX.seq ?_
            refine AX.reg (its := []) [6] [] (s1 := ⟨[(6, .v (.bool false))], []⟩) (C := True) (by kernel_rfl) trivial trivial ?_
            refine AX.ret ?_
            refine fin_wk (Wk.forget [6] [] (s' := ⟨[(6, .v (.bool false))], []⟩) (by kernel_rfl)) ?_
            have hr := Option.some.inj h
            subst hr
            exact ⟨_, Wk.refl _, .inl ⟨(), rfl, rfl, rfl⟩⟩
          · replace h := cd_f b9 h
            refine AX.condF (decide (0 ≤ x7)) (by kernel_rfl) b9 ?_
            refine AX.skip ?_
            refine AX.reg (its := [.auto { raw := true }]) [0, 1, 2, 9, 10, 11] [] (s1 := ⟨[(0, .bs false 2 (List.map enc_si p1)), (1, .v (.int .i64 p2)), (2, .v (.int .i64 p3)), (9, .bs false 2 (List.map enc_si p1)), (10, .v (.int .i64 (p1.length : Int))), (11, .v (.int .i64 (IntKind.wrap .i64 (v4 + 1))))], []⟩) (C := True) (by kernel_rfl) trivial trivial ?_
            refine ⟨(fu, IntKind.wrap .i64 (v4 + 1)), h, Nat.lt_succ_self _, ?_⟩
            refine Wk.trans (Wk.forget [0, 1, 2, 9, 10, 11] [] (s' := ⟨[(0, .bs false 2 (List.map enc_si p1)), (1, .v (.int .i64 p2)), (2, .v (.int .i64 p3)), (9, .bs false 2 (List.map enc_si p1)), (10, .v (.int .i64 (p1.length : Int))), (11, .v (.int .i64 (IntKind.wrap .i64 (v4 + 1))))], []⟩) (by kernel_rfl)) ?_
            exact Wk.refl _
    · replace h := cd_f b1 h
      refine AX.condF (decide (v4 < (p1.length : Int))) (by kernel_rfl) b1 ?_
      refine AX.exit ?_
      refine fin_wk (Wk.forget [0] [] (s' := ⟨[(0, .bs false 2 (List.map enc_si p1))], []⟩) (by kernel_rfl)) ?_
      have hr := Option.some.inj h
      subst hr
      exact ⟨_, Wk.refl _, .inr ⟨(), rfl, rfl, rfl⟩⟩

theorem s_impl_defsValid (p1 : List (ByteArray × Int)) (p2 : Int) (p3 : Int) (r : Bool) (h : m_impl_defsValid p1 p2 p3 = some r) :
    Eng.Spec Try.prog 22 [.bs false 2 (List.map enc_si p1), .v (.int .i64 p2), .v (.int .i64 p3)] [] (.v (.bool r)) [] := by
  unfold m_impl_defsValid at h
  refine Eng.Spec.body Try.func22 (by kernel_rfl) rfl (by kernel_rfl) ?_
  refine AX.wkpost ?_
  refine AX.seq ?_
  refine AX.reg (its := []) [0, 1, 2] [] (s1 := ⟨[(0, .bs false 2 (List.map enc_si p1)), (1, .v (.int .i64 p2)), (2, .v (.int .i64 p3))], []⟩) (C := True) (by kernel_rfl) trivial trivial ?_
  refine AX.seq ?_
  refine AX.seq ?_
  refine AX.reg (its := [.auto {}, .auto { y := some (.v (.int .i64 (p1.length : Int))) }]) [0, 1, 2, 9, 10, 11] [] (s1 := ⟨[(0, .bs false 2 (List.map enc_si p1)), (1, .v (.int .i64 p2)), (2, .v (.int .i64 p3)), (9, .bs false 2 (List.map enc_si p1)), (10, .v (.int .i64 (p1.length : Int))), (11, .v (.int .i64 0))], []⟩) (C := (True ∧ (AV.v (.int .i64 ((List.map enc_si p1).length : Int)) = AV.v (.int .i64 (p1.length : Int)))) ∧ True) (by kernel_rfl) ⟨⟨trivial, len_map enc_si p1⟩, trivial⟩ trivial ?_
  refine AX.block ?_
  obtain ⟨x8, e10, h⟩ := bd_e h
  refine AX.wk (Wk.forget [0, 1, 2, 9, 10, 11] [] (s' := ⟨[(0, .bs false 2 (List.map enc_si p1)), (1, .v (.int .i64 p2)), (2, .v (.int .i64 p3)), (9, .bs false 2 (List.map enc_si p1)), (10, .v (.int .i64 (p1.length : Int))), (11, .v (.int .i64 0))], []⟩) (by kernel_rfl)) ?_
  refine AX.mono (s_impl_defsValid_L1 p1 p2 p3 FU 0 x8 e10) ?_
  rintro _ _ (⟨x9, rfl, rfl, rfl⟩ | ⟨x10, rfl, rfl, rfl⟩)
  · replace h := sm_l h
    refine fin_wk (Wk.forget [6] [] (s' := ⟨[(6, .v (.bool false))], []⟩) (by kernel_rfl)) ?_
    have hr := Option.some.inj h
    subst hr
    exact ⟨_, Wk.refl _, .inr rfl, ⟨[], by kernel_rfl, trivial, [.v (.bool false)], by kernel_rfl, by kernel_rfl⟩⟩
  · replace h := sm_r h
    refine AX.seq ?_
    refine AX.reg (its := [.auto {}, .auto { y := some (.v (.int .i64 (p1.length : Int))) }]) [6] [] (s1 := ⟨[(6, .v (.bool (decide ((p1.length : Int) ≤ 12))))], []⟩) (C := (True ∧ (AV.v (.int .i64 ((List.map enc_si p1).length : Int)) = AV.v (.int .i64 (p1.length : Int)))) ∧ True) (by kernel_rfl) ⟨⟨trivial, len_map enc_si p1⟩, trivial⟩ trivial ?_
    refine AX.ret ?_
    refine fin_wk (Wk.forget [6] [] (s' := ⟨[(6, .v (.bool (decide ((p1.length : Int) ≤ 12))))], []⟩) (by kernel_rfl)) ?_
    have hr := Option.some.inj h
    subst hr
    exact ⟨_, Wk.refl _, .inr rfl, ⟨[], by kernel_rfl, trivial, [.v (.bool (decide ((p1.length : Int) ≤ 12)))], by kernel_rfl, by kernel_rfl⟩⟩

theorem s_impl_ValidEnum (p1 : List (ByteArray × Int)) (r : Bool) (h : m_impl_ValidEnum p1 = some r) :
    Eng.Spec Try.prog 9 [.agg [.bs false 2 (List.map enc_si p1)]] [] (.v (.bool r)) [] := by
  unfold m_impl_ValidEnum at h
  refine Eng.Spec.body Try.func9 (by kernel_rfl) rfl (by kernel_rfl) ?_
  refine AX.wkpost ?_
  refine AX.seq ?_
  refine AX.reg (its := [.auto { nk := 0 }]) [1] [0] (s1 := ⟨[(1, .pt 0 0)], [(0, .box [.bs false 2 (List.map enc_si p1)])]⟩) (C := True) (by kernel_rfl) trivial trivial ?_
  refine AX.seq ?_
  obtain ⟨x2, e1, h⟩ := bd_e h
  refine AX.reg (its := [.auto {}, .auto {}, .call 22 [.bs false 2 (List.map enc_si p1), .v (.int .i64 (-1000)), .v (.int .i64 1000)] (handO (rho ([] ++ [])) [] [] ++ []) (callEv [] [] (.v (.bool x2)) [])]) [2] [] (s1 := ⟨[(2, .v (.bool x2))], []⟩) (C := ((([.bs false 2 (List.map enc_si p1), .v (.int .i64 (-1000)), .v (.int .i64 1000)] : List AV) = [.bs false 2 (List.map enc_si p1), .v (.int .i64 (-1000)), .v (.int .i64 1000)]) ∧ True) ∧ True) (by kernel_rfl) ⟨⟨rfl, trivial⟩, trivial⟩ ⟨call_ok (ks := []) (ns := []) (bor := []) (bobjs := []) (s_impl_defsValid p1 (-1000) 1000 x2 e1) (.cons (.c1 (.c0 (.same _ (by kernel_rfl) (by kernel_rfl)))) (.cons (.c1 (.c0 (.same _ (by kernel_rfl) (by kernel_rfl)))) (.cons (.c1 (.c0 (.same _ (by kernel_rfl) (by kernel_rfl)))) (.nil)))) (by kernel_rfl) trivial, trivial⟩ ?_
  refine AX.ret ?_
  refine fin_wk (Wk.forget [2] [] (s' := ⟨[(2, .v (.bool x2))], []⟩) (by kernel_rfl)) ?_
  have hr := Option.some.inj h
  subst hr
  exact ⟨_, Wk.refl _, .inr rfl, ⟨[], by kernel_rfl, trivial, [.v (.bool x2)], by kernel_rfl, by kernel_rfl⟩⟩

theorem s_slices_Clone_si (p1 : List (ByteArray × Int)) (r : List (ByteArray × Int)) (h : m_slices_Clone_si p1 = some r) :
    Eng.Spec Try.prog 31 [.bs false 2 (List.map enc_si p1)] [] (.sl 0 0 r.length) [.arr 2 (List.map enc_si r)] := by
  unfold m_slices_Clone_si at h
  obtain ⟨g1, h⟩ := gd_e h
  have hr := Option.some.inj h
  subst hr
  refine Eng.Spec.body Try.func31 (by kernel_rfl) rfl (by kernel_rfl) ?_
  refine AX.wkpost ?_
  refine AX.seq ?_
  refine AX.reg (its := []) [0] [] (s1 := ⟨[(0, .bs false 2 (List.map enc_si p1))], []⟩) (C := True) (by kernel_rfl) trivial trivial ?_
  refine AX.nilEq (l := false) (sz := 2) (es := (List.map enc_si p1)) (s0 := (⟨[(2, .sl 1 0 p1.length)], [(1, .arr 2 (List.map enc_si p1))]⟩ : S)) .ret rfl rfl rfl rfl rfl rfl Try.underlying23 (by kernel_rfl) (by kernel_rfl) (by kernel_rfl) ⟨_, Wk.refl _, .inr rfl, ⟨[1], by kernel_rfl, ⟨rfl, trivial⟩, [.sl 1 0 p1.length], by kernel_rfl, by kernel_rfl⟩⟩ ?_
  intro b hb
  rcases bool_cases b with h1 | h1
  · subst h1
    have hp : p1 = [] := by simpa using hb rfl
    subst hp
    refine AX.condT true (by kernel_rfl) rfl ?_
    refine AX.seq ?_
    refine AX.reg (its := []) [2] [] (s1 := ⟨[(2, .v (.slice none 0 0))], []⟩) (C := True) (by kernel_rfl) trivial trivial ?_
    refine AX.wk (Wk.mat 2 1 2 (by kernel_rfl) (Nat.le_of_ble_eq_true (by kernel_rfl)) (by kernel_rfl) rfl) ?_
    refine AX.wk (Wk.forget [2] [1] (s' := ⟨[(2, .sl 1 0 0)], [(1, .arr 2 [])]⟩) (by kernel_rfl)) ?_
    exact AX.ret ⟨rfl, rfl⟩
  · subst h1
    refine AX.condF false (by kernel_rfl) rfl ?_
    refine AX.skip ?_
    refine AX.seq ?_
    refine AX.reg (its := [.auto { nk := 0 }, .auto {}, .auto { y := some (.sl 1 0 p1.length), nk := 1 }]) [2] [1] (s1 := ⟨[(2, .sl 1 0 p1.length)], [(1, .arr 2 (List.map enc_si p1))]⟩) (C := ((((True) ∧ (True)) ∧ (([] : List (List Value)).length + (List.map enc_si p1).length ≤ 1099511627776)) ∧ (AV.sl 1 0 (List.map enc_si p1).length = AV.sl 1 0 p1.length)) ∧ True) (by kernel_rfl) ⟨⟨⟨⟨trivial, trivial⟩, by simpa using g1⟩, sl_len (enc := enc_si) rfl⟩, trivial⟩ trivial ?_
    exact AX.ret ⟨rfl, rfl⟩

theorem s_slices_Clip_si (p1 : List (ByteArray × Int)) (r : Unit) (h : m_slices_Clip_si p1 = some r) :
    Eng.Spec Try.prog 30 [.bs false 2 (List.map enc_si p1)] [] (.bs false 2 (List.map enc_si (sub p1 (0 : Int) (p1.length : Int)))) [] := by
  unfold m_slices_Clip_si at h
  refine Eng.Spec.body Try.func30 (by kernel_rfl) rfl (by kernel_rfl) ?_
  refine AX.wkpost ?_
  refine AX.seq ?_
  refine AX.reg (its := []) [0] [] (s1 := ⟨[(0, .bs false 2 (List.map enc_si p1))], []⟩) (C := True) (by kernel_rfl) trivial trivial ?_
  refine AX.seq ?_
  obtain ⟨g1, h⟩ := gd_e h
  refine AX.reg (its := [.auto {}, .auto {}, .auto { y := some (.v (.int .i64 (p1.length : Int))) }, .auto {}, .auto { y := some (.v (.int .i64 (p1.length : Int))) }, .auto { y := some (.bs false 2 (List.map enc_si (sub p1 (0 : Int) (p1.length : Int)))) }]) [2] [] (s1 := ⟨[(2, .bs false 2 (List.map enc_si (sub p1 (0 : Int) (p1.length : Int))))], []⟩) (C := (True ∧ (AV.v (.int .i64 ((List.map enc_si p1).length : Int)) = AV.v (.int .i64 (p1.length : Int)))) ∧ (True ∧ (AV.v (.int .i64 ((List.map enc_si p1).length : Int)) = AV.v (.int .i64 (p1.length : Int)))) ∧ ((0 ≤ (0 : Int) ∧ (0 : Int) ≤ (p1.length : Int) ∧ (p1.length : Int) ≤ (p1.length : Int) ∧ (p1.length : Int) ≤ ((List.map enc_si p1).length : Int)) ∧ (AV.bs false 2 (((List.map enc_si p1).drop (0 : Int).toNat).take ((p1.length : Int).toNat - (0 : Int).toNat)) = (.bs false 2 (List.map enc_si (sub p1 (0 : Int) (p1.length : Int))) : AV))) ∧ True) (by kernel_rfl) ⟨⟨trivial, len_map enc_si p1⟩, ⟨⟨trivial, len_map enc_si p1⟩, ⟨⟨by first | exact g1 | simpa only [List.length_map] using g1, by first | exact sub_can enc_si p1 (0 : Int) (p1.length : Int) false 2 | (simp only [List.length_map]; exact sub_can enc_si p1 (0 : Int) (p1.length : Int) false 2)⟩, trivial⟩⟩⟩ trivial ?_
  refine AX.ret ?_
  refine fin_wk (Wk.forget [2] [] (s' := ⟨[(2, .bs false 2 (List.map enc_si (sub p1 (0 : Int) (p1.length : Int))))], []⟩) (by kernel_rfl)) ?_
  have hr := Option.some.inj h
  subst hr
  exact ⟨_, Wk.refl _, .inr rfl, ⟨[], by kernel_rfl, trivial, [.bs false 2 (List.map enc_si (sub p1 (0 : Int) (p1.length : Int)))], by kernel_rfl, by kernel_rfl⟩⟩

theorem s_slices_Clip_hsi (p1 : List (ByteArray × Int)) (r : Unit) (h : m_slices_Clip_hsi p1 = some r) :
    Eng.Spec Try.prog 30 [.sl 0 0 p1.length] [.arr 2 (List.map enc_si p1)] (.sl 0 0 p1.length) [.arr 2 (List.map enc_si p1)] := by
  unfold m_slices_Clip_hsi at h
  refine Eng.Spec.body Try.func30 (by kernel_rfl) rfl (by kernel_rfl) ?_
  refine AX.wkpost ?_
  refine AX.seq ?_
  refine AX.reg (its := []) [0] [0] (s1 := ⟨[(0, .sl 0 0 p1.length)], [(0, .arr 2 (List.map enc_si p1))]⟩) (C := True) (by kernel_rfl) trivial trivial ?_
  refine AX.seq ?_
  refine AX.reg (its := [.auto {}, .auto {}, .auto {}, .auto {}, .auto {}, .auto { y := some (.sl 0 0 p1.length) }]) [2] [0] (s1 := ⟨[(2, .sl 0 0 p1.length)], [(0, .arr 2 (List.map enc_si p1))]⟩) (C := ((0 ≤ (0 : Int) ∧ (0 : Int) ≤ (p1.length : Int) ∧ (p1.length : Int) ≤ (p1.length : Int) ∧ (p1.length : Int) ≤ (p1.length : Int)) ∧ (AV.sl 0 (0 + (0 : Int).toNat) ((p1.length : Int).toNat - (0 : Int).toNat) = AV.sl 0 0 p1.length)) ∧ True) (by kernel_rfl) ⟨⟨⟨by omega, by omega, by omega, by omega⟩, rfl⟩, trivial⟩ trivial ?_
  refine AX.ret ?_
  refine fin_wk (Wk.forget [2] [0] (s' := ⟨[(2, .sl 0 0 p1.length)], [(0, .arr 2 (List.map enc_si p1))]⟩) (by kernel_rfl)) ?_
  have hr := Option.some.inj h
  subst hr
  exact ⟨_, Wk.refl _, .inr rfl, ⟨[], by kernel_rfl, ⟨rfl, trivial⟩, [.sl 0 0 p1.length], by kernel_rfl, by kernel_rfl⟩⟩

theorem s_impl_clone_si (p1 : List (ByteArray × Int)) (r : List (ByteArray × Int)) (h : m_impl_clone_si p1 = some r) :
    Eng.Spec Try.prog 14 [.bs false 2 (List.map enc_si p1)] [] (.sl 0 0 r.length) [.arr 2 (List.map enc_si r)] := by
  unfold m_impl_clone_si at h
  refine Eng.Spec.body Try.func14 (by kernel_rfl) rfl (by kernel_rfl) ?_
  refine AX.wkpost ?_
  refine AX.seq ?_
  refine AX.reg (its := []) [0] [] (s1 := ⟨[(0, .bs false 2 (List.map enc_si p1))], []⟩) (C := True) (by kernel_rfl) trivial trivial ?_
  refine AX.seq ?_
  obtain ⟨x2, e1, h⟩ := bd_e h
  obtain ⟨x3, e2, h⟩ := bd_e h
  refine AX.reg (its := [.auto {}, .call 31 [.bs false 2 (List.map enc_si p1)] (handO (rho ([] ++ [0])) [] [] ++ []) (callEv [] [0] (.sl 0 0 x2.length) [.arr 2 (List.map enc_si x2)]), .call 30 [.sl 0 0 x2.length] (handO (rho ([0] ++ [])) [0] [.arr 2 (List.map enc_si x2)] ++ []) (callEv [0] [] (.sl 0 0 x2.length) [.arr 2 (List.map enc_si x2)])]) [2] [0] (s1 := ⟨[(2, .sl 0 0 x2.length)], [(0, .arr 2 (List.map enc_si x2))]⟩) (C := ((([.bs false 2 (List.map enc_si p1)] : List AV) = [.bs false 2 (List.map enc_si p1)]) ∧ True) ∧ ((([.sl 0 0 x2.length] : List AV) = [.sl 0 0 x2.length]) ∧ (AO.arr 2 (List.map enc_si x2) = AO.arr 2 (List.map enc_si x2)) ∧ True) ∧ True) (by kernel_rfl) ⟨⟨rfl, trivial⟩, ⟨⟨rfl, rfl, trivial⟩, trivial⟩⟩ ⟨call_ok (ks := []) (ns := [0]) (bor := []) (bobjs := []) (s_slices_Clone_si p1 x2 e1) (.cons (.c1 (.c0 (.same _ (by kernel_rfl) (by kernel_rfl)))) (.nil)) (by kernel_rfl) trivial, ⟨call_ok (ks := [0]) (ns := []) (bor := []) (bobjs := []) (s_slices_Clip_hsi x2 x3 e2) (.cons (.c1 (.c0 (.same _ (by kernel_rfl) (by kernel_rfl)))) (.nil)) (by kernel_rfl) ⟨.inr rfl, trivial⟩, trivial⟩⟩ ?_
  refine AX.ret ?_
  refine fin_wk (Wk.forget [2] [0] (s' := ⟨[(2, .sl 0 0 x2.length)], [(0, .arr 2 (List.map enc_si x2))]⟩) (by kernel_rfl)) ?_
  have hr := Option.some.inj h
  subst hr
  exact ⟨_, Wk.refl _, .inr rfl, ⟨[0], by kernel_rfl, ⟨rfl, trivial⟩, [.sl 0 0 x2.length], by kernel_rfl, by kernel_rfl⟩⟩

theorem s_impl_enumOf (p1 : List (ByteArray × Int)) (p2 : Bool) (r : (List (ByteArray × Int)) × Bool) (h : m_impl_enumOf p1 p2 = some r) :
    Eng.Spec Try.prog 35 [.bs false 2 (List.map enc_si p1), .v (.bool p2)] [] (.tup [.agg [.sl 0 0 r.1.length], .v (.bool r.2)]) [.arr 2 (List.map enc_si r.1)] := by
  unfold m_impl_enumOf at h
  refine Eng.Spec.body Try.func35 (by kernel_rfl) rfl (by kernel_rfl) ?_
  refine AX.wkpost ?_
  refine AX.seq ?_
  refine AX.reg (its := [.auto { nk := 0 }]) [0, 1, 4] [0] (s1 := ⟨[(0, .bs false 2 (List.map enc_si p1)), (1, .v (.bool p2)), (4, .pt 0 0)], [(0, .box [.v (.slice none 0 0)])]⟩) (C := True) (by kernel_rfl) trivial trivial ?_
  refine AX.seq ?_
  refine AX.seq ?_
  rcases bool_cases ((!p2)) with b1 | b1
  · replace h := cd_t b1 h
    refine AX.reg (its := [.auto {}, .auto { y := some (.v (.bool true)) }]) [0, 4, 13] [0] (s1 := ⟨[(0, .bs false 2 (List.map enc_si p1)), (4, .pt 0 0), (13, .v (.bool true))], [(0, .box [.v (.slice none 0 0)])]⟩) (C := ((True) ∧ ((.v (.bool (!p2)) : AV) = (.v (.bool true) : AV))) ∧ True) (by kernel_rfl) ⟨⟨trivial, (congrArg (fun z => AV.v (.bool z)) b1)⟩, trivial⟩ trivial ?_
    refine AX.cond_true (by kernel_rfl) ?_
    refine AX.seq ?_
    refine AX.reg (its := []) [4, 5] [0] (s1 := ⟨[(4, .pt 0 0), (5, .v (.bool false))], [(0, .box [.v (.slice none 0 0)])]⟩) (C := True) (by kernel_rfl) trivial trivial ?_
    refine AX.ret ?_
    refine fin_wk (Wk.matB 0 0 1 2 (cs := [.v (.slice none 0 0)]) (by kernel_rfl) (by kernel_rfl) (Nat.le_of_ble_eq_true (by kernel_rfl)) (by kernel_rfl) (by decide) rfl) ?_
    refine fin_wk (Wk.forget [4, 5] [0, 1] (s' := ⟨[(4, .pt 0 0), (5, .v (.bool false))], [(0, .box [.sl 1 0 (([] : List (ByteArray × Int)).length)]), (1, .arr 2 (List.map enc_si ([] : List (ByteArray × Int))))]⟩) (by kernel_rfl)) ?_
    have hr := Option.some.inj h
    subst hr
    exact ⟨_, Wk.refl _, .inr rfl, ⟨[1], by kernel_rfl, ⟨rfl, trivial⟩, [.agg [.sl 1 0 (([] : List (ByteArray × Int)).length)], .v (.bool false)], by kernel_rfl, by kernel_rfl⟩⟩
  · replace h := cd_f b1 h
    obtain ⟨x3, e2, h⟩ := bd_e h
    refine AX.reg (its := [.auto {}, .auto { y := some (.v (.bool false)) }, .auto {}, .auto {}, .auto {}, .call 9 [.agg [.bs false 2 (List.map enc_si p1)]] (handO (rho ([] ++ [])) [] [] ++ []) (callEv [] [] (.v (.bool x3)) [])]) [0, 4, 13] [0] (s1 := ⟨[(0, .bs false 2 (List.map enc_si p1)), (4, .pt 0 0), (13, .v (.bool (!x3)))], [(0, .box [.v (.slice none 0 0)])]⟩) (C := ((True) ∧ ((.v (.bool (!p2)) : AV) = (.v (.bool false) : AV))) ∧ ((([.agg [.bs false 2 (List.map enc_si p1)]] : List AV) = [.agg [.bs false 2 (List.map enc_si p1)]]) ∧ True) ∧ True) (by kernel_rfl) ⟨⟨trivial, (congrArg (fun z => AV.v (.bool z)) b1)⟩, ⟨⟨rfl, trivial⟩, trivial⟩⟩ ⟨call_ok (ks := []) (ns := []) (bor := []) (bobjs := []) (s_impl_ValidEnum p1 x3 e2) (.cons (.c1 (.agg (.cons (.same _ (by kernel_rfl) (by kernel_rfl)) (.nil)))) (.nil)) (by kernel_rfl) trivial, trivial⟩ ?_
    rcases bool_cases ((!x3)) with b3 | b3
    · replace h := cd_t b3 h
      refine AX.condT ((!x3)) (by kernel_rfl) b3 ?_
      refine AX.seq ?_
      refine AX.reg (its := []) [4, 5] [0] (s1 := ⟨[(4, .pt 0 0), (5, .v (.bool false))], [(0, .box [.v (.slice none 0 0)])]⟩) (C := True) (by kernel_rfl) trivial trivial ?_
      refine AX.ret ?_
      refine fin_wk (Wk.matB 0 0 1 2 (cs := [.v (.slice none 0 0)]) (by kernel_rfl) (by kernel_rfl) (Nat.le_of_ble_eq_true (by kernel_rfl)) (by kernel_rfl) (by decide) rfl) ?_
      refine fin_wk (Wk.forget [4, 5] [0, 1] (s' := ⟨[(4, .pt 0 0), (5, .v (.bool false))], [(0, .box [.sl 1 0 (([] : List (ByteArray × Int)).length)]), (1, .arr 2 (List.map enc_si ([] : List (ByteArray × Int))))]⟩) (by kernel_rfl)) ?_
      have hr := Option.some.inj h
      subst hr
      exact ⟨_, Wk.refl _, .inr rfl, ⟨[1], by kernel_rfl, ⟨rfl, trivial⟩, [.agg [.sl 1 0 (([] : List (ByteArray × Int)).length)], .v (.bool false)], by kernel_rfl, by kernel_rfl⟩⟩
    · replace h := cd_f b3 h
      refine AX.condF ((!x3)) (by kernel_rfl) b3 ?_
      refine AX.skip ?_
      refine AX.seq ?_
      obtain ⟨x4, e4, h⟩ := bd_e h
      refine AX.reg (its := [.auto {}, .call 14 [.bs false 2 (List.map enc_si p1)] (handO (rho ([] ++ [1])) [] [] ++ []) (callEv [] [1] (.sl 0 0 x4.length) [.arr 2 (List.map enc_si x4)])]) [4, 5] [0, 1] (s1 := ⟨[(4, .pt 0 0), (5, .v (.bool true))], [(0, .box [.sl 1 0 x4.length]), (1, .arr 2 (List.map enc_si x4))]⟩) (C := ((([.bs false 2 (List.map enc_si p1)] : List AV) = [.bs false 2 (List.map enc_si p1)]) ∧ True) ∧ True) (by kernel_rfl) ⟨⟨rfl, trivial⟩, trivial⟩ ⟨call_ok (ks := []) (ns := [1]) (bor := []) (bobjs := []) (s_impl_clone_si p1 x4 e4) (.cons (.c1 (.c0 (.same _ (by kernel_rfl) (by kernel_rfl)))) (.nil)) (by kernel_rfl) trivial, trivial⟩ ?_
      refine AX.ret ?_
      refine fin_wk (Wk.forget [4, 5] [0, 1] (s' := ⟨[(4, .pt 0 0), (5, .v (.bool true))], [(0, .box [.sl 1 0 x4.length]), (1, .arr 2 (List.map enc_si x4))]⟩) (by kernel_rfl)) ?_
      have hr := Option.some.inj h
      subst hr
      exact ⟨_, Wk.refl _, .inr rfl, ⟨[1], by kernel_rfl, ⟨rfl, trivial⟩, [.agg [.sl 1 0 x4.length], .v (.bool true)], by kernel_rfl, by kernel_rfl⟩⟩

theorem s_impl_AddDef (p1 : List (ByteArray × Int)) (p2 : ByteArray) (p3 : Int) (r : (List (ByteArray × Int)) × Bool) (h : m_impl_AddDef p1 p2 p3 = some r) :
    Eng.Spec Try.prog 33 [.agg [.bs false 2 (List.map enc_si p1)], .agg [.v (.string p2), .v (.int .i64 p3)]] [] (.tup [.agg [.sl 0 0 r.1.length], .v (.bool r.2)]) [.arr 2 (List.map enc_si r.1)] := by
  unfold m_impl_AddDef at h
  refine Eng.Spec.body Try.func33 (by kernel_rfl) rfl (by kernel_rfl) ?_
  refine AX.wkpost ?_
  refine AX.seq ?_
  refine AX.reg (its := [.auto { nk := 0 }, .auto { nk := 1 }, .auto { nk := 2 }]) [2, 3, 4] [0, 1, 2] (s1 := ⟨[(2, .pt 0 0), (3, .pt 1 0), (4, .pt 2 0)], [(0, .box [.bs false 2 (List.map enc_si p1)]), (1, .box [.v (.string p2), .v (.int .i64 p3)]), (2, .box [.v (.slice none 0 0)])]⟩) (C := True) (by kernel_rfl) trivial trivial ?_
  refine AX.seq ?_
  obtain ⟨x4, e1, h⟩ := bd_e h
  obtain ⟨g2, h⟩ := gd_e h
  obtain ⟨x5, e3, h⟩ := bd_e h
  obtain ⟨x6, e4, h⟩ := bd_e h
  refine AX.drw mixed (its := [.auto {}, .auto {}, .call 14 [.bs false 2 (List.map enc_si p1)] (handO (rho ([] ++ [3])) [] [] ++ []) (callEv [] [3] (.sl 0 0 x4.length) [.arr 2 (List.map enc_si x4)]), .auto {}, .auto { nk := 4 }, .auto { y := some (.sl 5 0 ((x4 ++ ([(p2, p3)] : List (ByteArray × Int))).length)), els := some (List.map enc_si x4), els2 := some (List.map enc_si ([(p2, p3)] : List (ByteArray × Int))), nk := 5 }, .auto {}, .call 9 [.agg [.bs false 2 (List.map enc_si p1)]] (handO (rho ([] ++ [])) [] [] ++ []) (callEv [] [] (.v (.bool x5)) []), .call 35 [.sl 5 0 ((x4 ++ ([(p2, p3)] : List (ByteArray × Int))).length), .v (.bool x5)] (handO (rho ([] ++ [6])) [] [] ++ [(5, .arr 2 (List.map enc_si (x4 ++ ([(p2, p3)] : List (ByteArray × Int)))))]) (callEv [] [6] (.tup [.agg [.sl 0 0 x6.1.length], .v (.bool x6.2)]) [.arr 2 (List.map enc_si x6.1)])]) [4, 5] [2, 6] (s1 := ⟨[(4, .pt 2 0), (5, .v (.bool x6.2))], [(2, .box [.sl 6 0 x6.1.length]), (6, .arr 2 (List.map enc_si x6.1))]⟩) (C := ((([.bs false 2 (List.map enc_si p1)] : List AV) = [.bs false 2 (List.map enc_si p1)]) ∧ True) ∧ ((((((List.map enc_si x4).drop 0).take (x4.length) = List.map enc_si x4) ∧ (((List.map enc_si ([(p2, p3)] : List (ByteArray × Int))).drop 0).take (([(p2, p3)] : List (ByteArray × Int)).length) = List.map enc_si ([(p2, p3)] : List (ByteArray × Int)))) ∧ (List.map enc_si x4).length + (List.map enc_si ([(p2, p3)] : List (ByteArray × Int))).length ≤ 1099511627776) ∧ (AV.sl 5 0 (List.map enc_si x4 ++ List.map enc_si ([(p2, p3)] : List (ByteArray × Int))).length = AV.sl 5 0 (x4 ++ ([(p2, p3)] : List (ByteArray × Int))).length)) ∧ ((([.agg [.bs false 2 (List.map enc_si p1)]] : List AV) = [.agg [.bs false 2 (List.map enc_si p1)]]) ∧ True) ∧ ((([.sl 5 0 ((x4 ++ ([(p2, p3)] : List (ByteArray × Int))).length), .v (.bool x5)] : List AV) = [.sl 5 0 ((x4 ++ ([(p2, p3)] : List (ByteArray × Int))).length), .v (.bool x5)]) ∧ (AO.arr 2 (List.map enc_si x4 ++ List.map enc_si ([(p2, p3)] : List (ByteArray × Int))) = AO.arr 2 (List.map enc_si (x4 ++ ([(p2, p3)] : List (ByteArray × Int))))) ∧ True) ∧ True) (by kernel_rfl) ⟨⟨rfl, trivial⟩, ⟨⟨⟨⟨(dt_all (enc := enc_si) rfl rfl), (dt_all (enc := enc_si) rfl rfl)⟩, (by simp only [List.length_map, List.length_nil, List.length_replicate]; simpa using g2)⟩, sl_len (enc := enc_si) (app_can (enc := enc_si) rfl (rfl))⟩, ⟨⟨rfl, trivial⟩, ⟨⟨rfl, arr_eq (app_can (enc := enc_si) rfl (rfl) : List.map enc_si x4 ++ List.map enc_si ([(p2, p3)] : List (ByteArray × Int)) = List.map enc_si (x4 ++ ([(p2, p3)] : List (ByteArray × Int)))), trivial⟩, trivial⟩⟩⟩⟩ ⟨call_ok (ks := []) (ns := [3]) (bor := []) (bobjs := []) (s_impl_clone_si p1 x4 e1) (.cons (.c1 (.c0 (.same _ (by kernel_rfl) (by kernel_rfl)))) (.nil)) (by kernel_rfl) trivial, ⟨call_ok (ks := []) (ns := []) (bor := []) (bobjs := []) (s_impl_ValidEnum p1 x5 e3) (.cons (.c1 (.agg (.cons (.same _ (by kernel_rfl) (by kernel_rfl)) (.nil)))) (.nil)) (by kernel_rfl) trivial, ⟨call_ok (ks := []) (ns := [6]) (bor := [5]) (bobjs := [(5, .arr 2 (List.map enc_si (x4 ++ ([(p2, p3)] : List (ByteArray × Int)))))]) (s_impl_enumOf (x4 ++ ([(p2, p3)] : List (ByteArray × Int))) x5 x6 e4) (.cons (.c1 (.c0 (.arr rfl rfl ((rfl).trans (List.length_map ..).symm)))) (.cons (.c1 (.c0 (.same _ (by kernel_rfl) (by kernel_rfl)))) (.nil))) (by kernel_rfl) trivial, trivial⟩⟩⟩ ?_
  refine AX.ret ?_
  refine fin_wk (Wk.swap 0 2 (Nat.le_of_ble_eq_true (by kernel_rfl)) (Nat.le_of_ble_eq_true (by kernel_rfl)) rfl) ?_
  refine fin_wk (Wk.swap 1 6 (Nat.le_of_ble_eq_true (by kernel_rfl)) (Nat.le_of_ble_eq_true (by kernel_rfl)) rfl) ?_
  refine fin_wk (Wk.forget [4, 5] [0, 1] (s' := ⟨[(4, .pt 0 0), (5, .v (.bool x6.2))], [(0, .box [.sl 1 0 x6.1.length]), (1, .arr 2 (List.map enc_si x6.1))]⟩) (by kernel_rfl)) ?_
  have hr := Option.some.inj h
  subst hr
  exact ⟨_, Wk.refl _, .inr rfl, ⟨[1], by kernel_rfl, ⟨rfl, trivial⟩, [.agg [.sl 1 0 x6.1.length], .v (.bool x6.2)], by kernel_rfl, by kernel_rfl⟩⟩

theorem s_slices_Grow_nsi (p1 : Int) (r : List (ByteArray × Int)) (h : m_slices_Grow_nsi p1 = some r) :
    Eng.Spec Try.prog 50 [.v (.slice none 0 0), .v (.int .i64 p1)] [] (.sl 0 0 r.length) [.arr 2 (List.map enc_si r)] := by
  unfold m_slices_Grow_nsi at h
  refine Eng.Spec.body Try.func50 (by kernel_rfl) rfl (by kernel_rfl) ?_
  refine AX.wkpost ?_
  refine AX.seq ?_
  refine AX.reg (its := []) [0, 1] [] (s1 := ⟨[(0, .v (.slice none 0 0)), (1, .v (.int .i64 p1))], []⟩) (C := True) (by kernel_rfl) trivial trivial ?_
  refine AX.seq ?_
  refine AX.seq ?_
  refine AX.reg (its := []) [0, 1, 6] [] (s1 := ⟨[(0, .v (.slice none 0 0)), (1, .v (.int .i64 p1)), (6, .v (.bool (decide (p1 < 0))))], []⟩) (C := True) (by kernel_rfl) trivial trivial ?_
  rcases bool_cases (decide (p1 < 0)) with b1 | b1
  · replace h := cd_t b1 h
    refine AX.condT (decide (p1 < 0)) (by kernel_rfl) b1 ?_
    cases h
  · replace h := cd_f b1 h
    refine AX.condF (decide (p1 < 0)) (by kernel_rfl) b1 ?_
    refine AX.skip ?_
    refine AX.seq ?_
    refine AX.seq ?_
    refine AX.reg (its := [.auto {}, .auto {}, .auto {}, .auto {}, .auto {}, .auto { raw := true }, .auto { raw := true }]) [0, 1] [] (s1 := ⟨[(0, .v (.slice none 0 0)), (1, .v (.int .i64 (IntKind.wrap .i64 (p1 - (IntKind.wrap .i64 (0 - 0))))))], []⟩) (C := True) (by kernel_rfl) trivial trivial ?_
    refine AX.seq ?_
    obtain ⟨v2, q2, h⟩ := nm_e h
    refine AX.reg (its := [.auto {}, .auto { y := some (.v (.bool v2)) }]) [0, 1, 16] [] (s1 := ⟨[(0, .v (.slice none 0 0)), (1, .v (.int .i64 (IntKind.wrap .i64 (p1 - (IntKind.wrap .i64 (0 - 0)))))), (16, .v (.bool v2))], []⟩) (C := ((True) ∧ ((.v (.bool (decide (0 < (IntKind.wrap .i64 (p1 - (IntKind.wrap .i64 (0 - 0))))))) : AV) = (.v (.bool v2) : AV))) ∧ True) (by kernel_rfl) ⟨⟨trivial, (congrArg (fun z => AV.v (.bool z)) q2)⟩, trivial⟩ trivial ?_
    rcases bool_cases (v2) with b3 | b3
    · replace h := cd_t b3 h
      refine AX.condT (v2) (by kernel_rfl) b3 ?_
      obtain ⟨g4, h⟩ := gd_e h
      obtain ⟨g5, h⟩ := gd_e h
      obtain ⟨g6, h⟩ := gd_e h
      obtain ⟨g7, h⟩ := gd_e h
      refine AX.reg (its := [.auto {}, .auto {}, .auto {}, .auto {}, .auto {}, .auto { y := some (.sl 0 0 ((List.replicate (IntKind.wrap .i64 (p1 - (IntKind.wrap .i64 (0 - 0)))).toNat ((ByteArray.empty, 0) : ByteArray × Int)).length)), nk := 0 }]) [0] [0] (s1 := ⟨[(0, .sl 0 (0 + (0 : Int).toNat) ((0 : Int).toNat - (0 : Int).toNat))], [(0, .arr 2 (([] : List (List Value)) ++ List.replicate (IntKind.wrap .i64 (p1 - (IntKind.wrap .i64 (0 - 0)))).toNat (enc_si ((ByteArray.empty, 0) : ByteArray × Int))))]⟩) (C := ((0 : Int) = 0 ∧ (0 : Int) = 0 ∧ (0 : Int) = 0) ∧ (((True ∧ (0 ≤ (IntKind.wrap .i64 (p1 - (IntKind.wrap .i64 (0 - 0)))) ∧ (IntKind.wrap .i64 (p1 - (IntKind.wrap .i64 (0 - 0)))) ≤ 1099511627776)) ∧ (([] : List (List Value))).length + (List.replicate (IntKind.wrap .i64 (p1 - (IntKind.wrap .i64 (0 - 0)))).toNat (enc_si ((ByteArray.empty, 0) : ByteArray × Int))).length ≤ 1099511627776) ∧ (AV.sl 0 0 (([] : List (List Value)) ++ List.replicate (IntKind.wrap .i64 (p1 - (IntKind.wrap .i64 (0 - 0)))).toNat (enc_si ((ByteArray.empty, 0) : ByteArray × Int))).length = AV.sl 0 0 (List.replicate (IntKind.wrap .i64 (p1 - (IntKind.wrap .i64 (0 - 0)))).toNat ((ByteArray.empty, 0) : ByteArray × Int)).length)) ∧ (0 ≤ (0 : Int) ∧ (0 : Int) ≤ (0 : Int) ∧ (0 : Int) ≤ ((List.replicate (IntKind.wrap .i64 (p1 - (IntKind.wrap .i64 (0 - 0)))).toNat ((ByteArray.empty, 0) : ByteArray × Int)).length : Int) ∧ ((List.replicate (IntKind.wrap .i64 (p1 - (IntKind.wrap .i64 (0 - 0)))).toNat ((ByteArray.empty, 0) : ByteArray × Int)).length : Int) ≤ ((List.replicate (IntKind.wrap .i64 (p1 - (IntKind.wrap .i64 (0 - 0)))).toNat ((ByteArray.empty, 0) : ByteArray × Int)).length : Int)) ∧ True) (by kernel_rfl) ⟨g4, ⟨⟨⟨⟨trivial, g5⟩, (by simp only [List.length_map, List.length_nil, List.length_replicate]; simpa using g6)⟩, sl_len (enc := enc_si) (rep_can (IntKind.wrap .i64 (p1 - (IntKind.wrap .i64 (0 - 0)))).toNat ((ByteArray.empty, 0) : ByteArray × Int))⟩, ⟨g7, trivial⟩⟩⟩ trivial ?_
      refine AX.seq ?_
      refine AX.reg (its := []) [4] [0] (s1 := ⟨[(4, .sl 0 (0 + (0 : Int).toNat) ((0 : Int).toNat - (0 : Int).toNat))], [(0, .arr 2 (([] : List (List Value)) ++ List.replicate (IntKind.wrap .i64 (p1 - (IntKind.wrap .i64 (0 - 0)))).toNat (enc_si ((ByteArray.empty, 0) : ByteArray × Int))))]⟩) (C := True) (by kernel_rfl) trivial trivial ?_
      refine AX.ret ?_
      refine fin_wk (Wk.trunc 4 0 1 (lo := 0 + (0 : Int).toNat) (len := (0 : Int).toNat - (0 : Int).toNat) (sz := 2) (es := ([] : List (List Value)) ++ List.replicate (IntKind.wrap .i64 (p1 - (IntKind.wrap .i64 (0 - 0)))).toNat (enc_si ((ByteArray.empty, 0) : ByteArray × Int))) (by kernel_rfl) (by kernel_rfl) (Nat.le_of_ble_eq_true (by kernel_rfl)) (by kernel_rfl) rfl) ?_
      refine fin_wk (Wk.swap 0 1 (Nat.le_of_ble_eq_true (by kernel_rfl)) (Nat.le_of_ble_eq_true (by kernel_rfl)) rfl) ?_
      refine fin_wk (Wk.forget [4] [0] (s' := ⟨[(4, .sl 0 0 ((0 : Int).toNat - (0 : Int).toNat))], [(0, .arr 2 (((([] : List (List Value)) ++ List.replicate (IntKind.wrap .i64 (p1 - (IntKind.wrap .i64 (0 - 0)))).toNat (enc_si ((ByteArray.empty, 0) : ByteArray × Int))).drop (0 + (0 : Int).toNat)).take ((0 : Int).toNat - (0 : Int).toNat)))]⟩) (by kernel_rfl)) ?_
      refine fin_wk (Wk.of_eq (congrArg (fun z => (⟨[(4, .sl 0 0 ((0 : Int).toNat - (0 : Int).toNat))], [(0, .arr 2 (z))]⟩ : S)) (part_can (enc := enc_si) (rep_can (IntKind.wrap .i64 (p1 - (IntKind.wrap .i64 (0 - 0)))).toNat ((ByteArray.empty, 0) : ByteArray × Int) : ([] : List (List Value)) ++ List.replicate (IntKind.wrap .i64 (p1 - (IntKind.wrap .i64 (0 - 0)))).toNat (enc_si ((ByteArray.empty, 0) : ByteArray × Int)) = List.map enc_si (List.replicate (IntKind.wrap .i64 (p1 - (IntKind.wrap .i64 (0 - 0)))).toNat ((ByteArray.empty, 0) : ByteArray × Int))) (0 : Int) (0 : Int)))) ?_
      refine fin_wk (Wk.of_eq (congrArg (fun z => (⟨[(4, .sl 0 0 z)], [(0, .arr 2 (List.map enc_si (sub (List.replicate (IntKind.wrap .i64 (p1 - (IntKind.wrap .i64 (0 - 0)))).toNat ((ByteArray.empty, 0) : ByteArray × Int)) (0 : Int) (0 : Int))))]⟩ : S)) (part_len ((rfl : (List.replicate (IntKind.wrap .i64 (p1 - (IntKind.wrap .i64 (0 - 0)))).toNat ((ByteArray.empty, 0) : ByteArray × Int)).length = (List.replicate (IntKind.wrap .i64 (p1 - (IntKind.wrap .i64 (0 - 0)))).toNat ((ByteArray.empty, 0) : ByteArray × Int)).length)) g7))) ?_
      have hr := Option.some.inj h
      subst hr
      exact ⟨_, Wk.refl _, .inr rfl, ⟨[0], by kernel_rfl, ⟨rfl, trivial⟩, [.sl 0 0 ((sub (List.replicate (IntKind.wrap .i64 (p1 - (IntKind.wrap .i64 (0 - 0)))).toNat ((ByteArray.empty, 0) : ByteArray × Int)) (0 : Int) (0 : Int)).length)], by kernel_rfl, by kernel_rfl⟩⟩
    · replace h := cd_f b3 h
      refine AX.condF (v2) (by kernel_rfl) b3 ?_
      refine AX.skip ?_
      refine AX.seq ?_
      refine AX.reg (its := []) [4] [] (s1 := ⟨[(4, .v (.slice none 0 0))], []⟩) (C := True) (by kernel_rfl) trivial trivial ?_
      refine AX.ret ?_
      refine fin_wk (Wk.mat 4 0 2 (by kernel_rfl) (Nat.le_of_ble_eq_true (by kernel_rfl)) (by kernel_rfl) rfl) ?_
      refine fin_wk (Wk.forget [4] [0] (s' := ⟨[(4, .sl 0 0 (([] : List (ByteArray × Int)).length))], [(0, .arr 2 (List.map enc_si ([] : List (ByteArray × Int))))]⟩) (by kernel_rfl)) ?_
      have hr := Option.some.inj h
      subst hr
      exact ⟨_, Wk.refl _, .inr rfl, ⟨[0], by kernel_rfl, ⟨rfl, trivial⟩, [.sl 0 0 (([] : List (ByteArray × Int)).length)], by kernel_rfl, by kernel_rfl⟩⟩

theorem s_slices_Concat_x2sisi (p1 : List (ByteArray × Int)) (p2 : List (ByteArray × Int)) (r : List (ByteArray × Int)) (h : m_slices_Concat_x2sisi p1 p2 = some r) :
    Eng.Spec Try.prog 46 [.bx [.bs false 2 (List.map enc_si p1), .bs false 2 (List.map enc_si p2)]] [] (.sl 0 0 r.length) [.arr 2 (List.map enc_si r)] := by
  unfold m_slices_Concat_x2sisi at h
  refine Eng.Spec.body Try.func46 (by kernel_rfl) rfl (by kernel_rfl) ?_
  refine AX.wkpost ?_
  refine AX.seq ?_
  refine AX.reg (its := []) [0] [] (s1 := ⟨[(0, .bx [.bs false 2 (List.map enc_si p1), .bs false 2 (List.map enc_si p2)])], []⟩) (C := True) (by kernel_rfl) trivial trivial ?_
  refine AX.seq ?_
  refine AX.reg (its := []) [0, 3] [] (s1 := ⟨[(0, .bx [.bs false 2 (List.map enc_si p1), .bs false 2 (List.map enc_si p2)]), (3, .v (.int .i64 0))], []⟩) (C := True) (by kernel_rfl) trivial trivial ?_
  refine AX.seq ?_
  refine AX.seq ?_
  refine AX.reg (its := []) [0, 3, 9, 10, 11] [] (s1 := ⟨[(0, .bx [.bs false 2 (List.map enc_si p1), .bs false 2 (List.map enc_si p2)]), (3, .v (.int .i64 0)), (9, .bx [.bs false 2 (List.map enc_si p1), .bs false 2 (List.map enc_si p2)]), (10, .v (.int .i64 2)), (11, .v (.int .i64 0))], []⟩) (C := True) (by kernel_rfl) trivial trivial ?_
  refine AX.block ?_
  refine AXL.start ?_
  refine AXL.step ?_
  refine AX.seq ?_
  refine AX.reg (its := []) [0, 3, 9, 10, 11, 12] [] (s1 := ⟨[(0, .bx [.bs false 2 (List.map enc_si p1), .bs false 2 (List.map enc_si p2)]), (3, .v (.int .i64 0)), (9, .bx [.bs false 2 (List.map enc_si p1), .bs false 2 (List.map enc_si p2)]), (10, .v (.int .i64 2)), (11, .v (.int .i64 0)), (12, .v (.bool true))], []⟩) (C := True) (by kernel_rfl) trivial trivial ?_
  refine AX.seq ?_
  refine AX.cond_true (by kernel_rfl) ?_
  refine AX.skip ?_
  refine AX.seq ?_
  refine AX.block ?_
  refine AX.seq ?_
  refine AX.reg (its := []) [0, 3, 5, 9, 10, 11] [] (s1 := ⟨[(0, .bx [.bs false 2 (List.map enc_si p1), .bs false 2 (List.map enc_si p2)]), (3, .v (.int .i64 0)), (5, .bs false 2 (List.map enc_si p1)), (9, .bx [.bs false 2 (List.map enc_si p1), .bs false 2 (List.map enc_si p2)]), (10, .v (.int .i64 2)), (11, .v (.int .i64 0))], []⟩) (C := ((0 : Int) ≤ 0 ∧ (0 : Int) < ((2 : Nat) : Int)) ∧ True) (by kernel_rfl) ⟨(by decide), trivial⟩ trivial ?_
  refine AX.seq ?_
  refine AX.reg (its := [.auto {}, .auto {}, .auto { y := some (.v (.int .i64 (p1.length : Int))) }, .auto { raw := true }]) [0, 3, 9, 10, 11] [] (s1 := ⟨[(0, .bx [.bs false 2 (List.map enc_si p1), .bs false 2 (List.map enc_si p2)]), (3, .v (.int .i64 (IntKind.wrap .i64 (0 + (p1.length : Int))))), (9, .bx [.bs false 2 (List.map enc_si p1), .bs false 2 (List.map enc_si p2)]), (10, .v (.int .i64 2)), (11, .v (.int .i64 0))], []⟩) (C := (True ∧ (AV.v (.int .i64 ((List.map enc_si p1).length : Int)) = AV.v (.int .i64 (p1.length : Int)))) ∧ True) (by kernel_rfl) ⟨⟨trivial, len_map enc_si p1⟩, trivial⟩ trivial ?_
  refine AX.seq ?_
  refine AX.reg (its := []) [0, 3, 9, 10, 11, 20] [] (s1 := ⟨[(0, .bx [.bs false 2 (List.map enc_si p1), .bs false 2 (List.map enc_si p2)]), (3, .v (.int .i64 (IntKind.wrap .i64 (0 + (p1.length : Int))))), (9, .bx [.bs false 2 (List.map enc_si p1), .bs false 2 (List.map enc_si p2)]), (10, .v (.int .i64 2)), (11, .v (.int .i64 0)), (20, .v (.bool (decide ((IntKind.wrap .i64 (0 + (p1.length : Int))) < 0))))], []⟩) (C := True) (by kernel_rfl) trivial trivial ?_
  rcases bool_cases (decide ((IntKind.wrap .i64 (0 + (p1.length : Int))) < 0)) with b1 | b1
  · replace h := cd_t b1 h
    refine AX.condT (decide ((IntKind.wrap .i64 (0 + (p1.length : Int))) < 0)) (by kernel_rfl) b1 ?_
    cases h
  · replace h := cd_f b1 h
    refine AX.condF (decide ((IntKind.wrap .i64 (0 + (p1.length : Int))) < 0)) (by kernel_rfl) b1 ?_
    refine AX.skip ?_
    refine AX.reg (its := [.auto { raw := true }]) [0, 3, 9, 10, 11] [] (s1 := ⟨[(0, .bx [.bs false 2 (List.map enc_si p1), .bs false 2 (List.map enc_si p2)]), (3, .v (.int .i64 (IntKind.wrap .i64 (0 + (p1.length : Int))))), (9, .bx [.bs false 2 (List.map enc_si p1), .bs false 2 (List.map enc_si p2)]), (10, .v (.int .i64 2)), (11, .v (.int .i64 1))], []⟩) (C := True) (by kernel_rfl) trivial trivial ?_
    refine AXL.step ?_
    refine AX.seq ?_
    refine AX.reg (its := []) [0, 3, 9, 10, 11, 12] [] (s1 := ⟨[(0, .bx [.bs false 2 (List.map enc_si p1), .bs false 2 (List.map enc_si p2)]), (3, .v (.int .i64 (IntKind.wrap .i64 (0 + (p1.length : Int))))), (9, .bx [.bs false 2 (List.map enc_si p1), .bs false 2 (List.map enc_si p2)]), (10, .v (.int .i64 2)), (11, .v (.int .i64 1)), (12, .v (.bool true))], []⟩) (C := True) (by kernel_rfl) trivial trivial ?_
    refine AX.seq ?_
    refine AX.cond_true (by kernel_rfl) ?_
    refine AX.skip ?_
    refine AX.seq ?_
    refine AX.block ?_
    refine AX.seq ?_
    refine AX.reg (its := []) [0, 3, 5, 9, 10, 11] [] (s1 := ⟨[(0, .bx [.bs false 2 (List.map enc_si p1), .bs false 2 (List.map enc_si p2)]), (3, .v (.int .i64 (IntKind.wrap .i64 (0 + (p1.length : Int))))), (5, .bs false 2 (List.map enc_si p2)), (9, .bx [.bs false 2 (List.map enc_si p1), .bs false 2 (List.map enc_si p2)]), (10, .v (.int .i64 2)), (11, .v (.int .i64 1))], []⟩) (C := ((0 : Int) ≤ 1 ∧ (1 : Int) < ((2 : Nat) : Int)) ∧ True) (by kernel_rfl) ⟨(by decide), trivial⟩ trivial ?_
    refine AX.seq ?_
    obtain ⟨v3, q2, h⟩ := nm_e h
    refine AX.reg (its := [.auto {}, .auto {}, .auto { y := some (.v (.int .i64 (p2.length : Int))) }, .auto { y := some (.v (.int .i64 v3)), raw := true }]) [0, 3, 9, 10, 11] [] (s1 := ⟨[(0, .bx [.bs false 2 (List.map enc_si p1), .bs false 2 (List.map enc_si p2)]), (3, .v (.int .i64 v3)), (9, .bx [.bs false 2 (List.map enc_si p1), .bs false 2 (List.map enc_si p2)]), (10, .v (.int .i64 2)), (11, .v (.int .i64 1))], []⟩) (C := (True ∧ (AV.v (.int .i64 ((List.map enc_si p2).length : Int)) = AV.v (.int .i64 (p2.length : Int)))) ∧ ((True) ∧ ((.v (.int .i64 (IntKind.wrap .i64 ((IntKind.wrap .i64 (0 + (p1.length : Int))) + (p2.length : Int)))) : AV) = (.v (.int .i64 v3) : AV))) ∧ True) (by kernel_rfl) ⟨⟨trivial, len_map enc_si p2⟩, ⟨⟨trivial, (congrArg (fun z => AV.v (.int .i64 z)) q2)⟩, trivial⟩⟩ trivial ?_
    refine AX.seq ?_
    refine AX.reg (its := []) [0, 3, 9, 10, 11, 20] [] (s1 := ⟨[(0, .bx [.bs false 2 (List.map enc_si p1), .bs false 2 (List.map enc_si p2)]), (3, .v (.int .i64 v3)), (9, .bx [.bs false 2 (List.map enc_si p1), .bs false 2 (List.map enc_si p2)]), (10, .v (.int .i64 2)), (11, .v (.int .i64 1)), (20, .v (.bool (decide (v3 < 0))))], []⟩) (C := True) (by kernel_rfl) trivial trivial ?_
    rcases bool_cases (decide (v3 < 0)) with b3 | b3
    · replace h := cd_t b3 h
      refine AX.condT (decide (v3 < 0)) (by kernel_rfl) b3 ?_
      cases h
    · replace h := cd_f b3 h
      refine AX.condF (decide (v3 < 0)) (by kernel_rfl) b3 ?_
      refine AX.skip ?_
      refine AX.reg (its := [.auto { raw := true }]) [0, 3, 9, 10, 11] [] (s1 := ⟨[(0, .bx [.bs false 2 (List.map enc_si p1), .bs false 2 (List.map enc_si p2)]), (3, .v (.int .i64 v3)), (9, .bx [.bs false 2 (List.map enc_si p1), .bs false 2 (List.map enc_si p2)]), (10, .v (.int .i64 2)), (11, .v (.int .i64 2))], []⟩) (C := True) (by kernel_rfl) trivial trivial ?_
      refine AXL.step ?_
      refine AX.seq ?_
      refine AX.reg (its := []) [0, 3, 9, 10, 11, 12] [] (s1 := ⟨[(0, .bx [.bs false 2 (List.map enc_si p1), .bs false 2 (List.map enc_si p2)]), (3, .v (.int .i64 v3)), (9, .bx [.bs false 2 (List.map enc_si p1), .bs false 2 (List.map enc_si p2)]), (10, .v (.int .i64 2)), (11, .v (.int .i64 2)), (12, .v (.bool false))], []⟩) (C := True) (by kernel_rfl) trivial trivial ?_
      refine AX.seq ?_
      refine AX.cond_false (by kernel_rfl) ?_
      refine AX.exit ?_
      refine AX.seq ?_
      obtain ⟨x4, e4, h⟩ := bd_e h
      refine AX.reg (its := [.auto {}, .call 50 [.v (.slice none 0 0), .v (.int .i64 v3)] (handO (rho ([] ++ [0])) [] [] ++ []) (callEv [] [0] (.sl 0 0 x4.length) [.arr 2 (List.map enc_si x4)])]) [0, 6] [0] (s1 := ⟨[(0, .bx [.bs false 2 (List.map enc_si p1), .bs false 2 (List.map enc_si p2)]), (6, .sl 0 0 x4.length)], [(0, .arr 2 (List.map enc_si x4))]⟩) (C := ((([.v (.slice none 0 0), .v (.int .i64 v3)] : List AV) = [.v (.slice none 0 0), .v (.int .i64 v3)]) ∧ True) ∧ True) (by kernel_rfl) ⟨⟨rfl, trivial⟩, trivial⟩ ⟨call_ok (ks := []) (ns := [0]) (bor := []) (bobjs := []) (s_slices_Grow_nsi v3 x4 e4) (.cons (.c1 (.c0 (.same _ (by kernel_rfl) (by kernel_rfl)))) (.cons (.c1 (.c0 (.same _ (by kernel_rfl) (by kernel_rfl)))) (.nil))) (by kernel_rfl) trivial, trivial⟩ ?_
      refine AX.seq ?_
      refine AX.seq ?_
      refine AX.reg (its := []) [6, 25, 26, 27] [0] (s1 := ⟨[(6, .sl 0 0 x4.length), (25, .bx [.bs false 2 (List.map enc_si p1), .bs false 2 (List.map enc_si p2)]), (26, .v (.int .i64 2)), (27, .v (.int .i64 0))], [(0, .arr 2 (List.map enc_si x4))]⟩) (C := True) (by kernel_rfl) trivial trivial ?_
      refine AX.block ?_
      refine AXL.start ?_
      refine AXL.step ?_
      refine AX.seq ?_
      refine AX.reg (its := []) [6, 25, 26, 27, 28] [0] (s1 := ⟨[(6, .sl 0 0 x4.length), (25, .bx [.bs false 2 (List.map enc_si p1), .bs false 2 (List.map enc_si p2)]), (26, .v (.int .i64 2)), (27, .v (.int .i64 0)), (28, .v (.bool true))], [(0, .arr 2 (List.map enc_si x4))]⟩) (C := True) (by kernel_rfl) trivial trivial ?_
      refine AX.seq ?_
      refine AX.cond_true (by kernel_rfl) ?_
      refine AX.skip ?_
      refine AX.seq ?_
      refine AX.block ?_
      refine AX.seq ?_
      refine AX.reg (its := []) [6, 8, 25, 26, 27] [0] (s1 := ⟨[(6, .sl 0 0 x4.length), (8, .bs false 2 (List.map enc_si p1)), (25, .bx [.bs false 2 (List.map enc_si p1), .bs false 2 (List.map enc_si p2)]), (26, .v (.int .i64 2)), (27, .v (.int .i64 0))], [(0, .arr 2 (List.map enc_si x4))]⟩) (C := ((0 : Int) ≤ 0 ∧ (0 : Int) < ((2 : Nat) : Int)) ∧ True) (by kernel_rfl) ⟨(by decide), trivial⟩ trivial ?_
      obtain ⟨g5, h⟩ := gd_e h
      refine AX.reg (its := [.auto {}, .auto {}, .auto { y := some (.sl 1 0 ((x4 ++ p1).length)), els := some (List.map enc_si x4), nk := 1 }]) [6, 25, 26, 27] [1] (s1 := ⟨[(6, .sl 1 0 ((x4 ++ p1).length)), (25, .bx [.bs false 2 (List.map enc_si p1), .bs false 2 (List.map enc_si p2)]), (26, .v (.int .i64 2)), (27, .v (.int .i64 0))], [(1, .arr 2 (List.map enc_si x4 ++ List.map enc_si p1))]⟩) (C := ((((((List.map enc_si x4).drop 0).take (x4.length) = List.map enc_si x4) ∧ True) ∧ (List.map enc_si x4).length + (List.map enc_si p1).length ≤ 1099511627776) ∧ (AV.sl 1 0 (List.map enc_si x4 ++ List.map enc_si p1).length = AV.sl 1 0 (x4 ++ p1).length)) ∧ True) (by kernel_rfl) ⟨⟨⟨⟨(dt_all (enc := enc_si) rfl rfl), trivial⟩, (by simp only [List.length_map, List.length_nil, List.length_replicate]; simpa using g5)⟩, sl_len (enc := enc_si) (app_can (enc := enc_si) rfl (rfl))⟩, trivial⟩ trivial ?_
      refine AX.reg (its := [.auto { raw := true }]) [6, 25, 26, 27] [1] (s1 := ⟨[(6, .sl 1 0 ((x4 ++ p1).length)), (25, .bx [.bs false 2 (List.map enc_si p1), .bs false 2 (List.map enc_si p2)]), (26, .v (.int .i64 2)), (27, .v (.int .i64 1))], [(1, .arr 2 (List.map enc_si x4 ++ List.map enc_si p1))]⟩) (C := True) (by kernel_rfl) trivial trivial ?_
      refine AXL.step ?_
      refine AX.seq ?_
      refine AX.reg (its := []) [6, 25, 26, 27, 28] [1] (s1 := ⟨[(6, .sl 1 0 ((x4 ++ p1).length)), (25, .bx [.bs false 2 (List.map enc_si p1), .bs false 2 (List.map enc_si p2)]), (26, .v (.int .i64 2)), (27, .v (.int .i64 1)), (28, .v (.bool true))], [(1, .arr 2 (List.map enc_si x4 ++ List.map enc_si p1))]⟩) (C := True) (by kernel_rfl) trivial trivial ?_
      refine AX.seq ?_
      refine AX.cond_true (by kernel_rfl) ?_
      refine AX.skip ?_
      refine AX.seq ?_
      refine AX.block ?_
      refine AX.seq ?_
      refine AX.reg (its := []) [6, 8, 25, 26, 27] [1] (s1 := ⟨[(6, .sl 1 0 ((x4 ++ p1).length)), (8, .bs false 2 (List.map enc_si p2)), (25, .bx [.bs false 2 (List.map enc_si p1), .bs false 2 (List.map enc_si p2)]), (26, .v (.int .i64 2)), (27, .v (.int .i64 1))], [(1, .arr 2 (List.map enc_si x4 ++ List.map enc_si p1))]⟩) (C := ((0 : Int) ≤ 1 ∧ (1 : Int) < ((2 : Nat) : Int)) ∧ True) (by kernel_rfl) ⟨(by decide), trivial⟩ trivial ?_
      obtain ⟨g6, h⟩ := gd_e h
      refine AX.reg (its := [.auto {}, .auto {}, .auto { y := some (.sl 2 0 (((x4 ++ p1) ++ p2).length)), els := some (List.map enc_si (x4 ++ p1)), nk := 2 }]) [6, 25, 26, 27] [2] (s1 := ⟨[(6, .sl 2 0 (((x4 ++ p1) ++ p2).length)), (25, .bx [.bs false 2 (List.map enc_si p1), .bs false 2 (List.map enc_si p2)]), (26, .v (.int .i64 2)), (27, .v (.int .i64 1))], [(2, .arr 2 (List.map enc_si (x4 ++ p1) ++ List.map enc_si p2))]⟩) (C := ((((((List.map enc_si x4 ++ List.map enc_si p1).drop 0).take ((x4 ++ p1).length) = List.map enc_si (x4 ++ p1)) ∧ True) ∧ (List.map enc_si (x4 ++ p1)).length + (List.map enc_si p2).length ≤ 1099511627776) ∧ (AV.sl 2 0 (List.map enc_si (x4 ++ p1) ++ List.map enc_si p2).length = AV.sl 2 0 ((x4 ++ p1) ++ p2).length)) ∧ True) (by kernel_rfl) ⟨⟨⟨⟨(dt_all (enc := enc_si) (app_can (enc := enc_si) rfl (rfl) : List.map enc_si x4 ++ List.map enc_si p1 = List.map enc_si (x4 ++ p1)) rfl), trivial⟩, (by simp only [List.length_map, List.length_nil, List.length_replicate]; simpa using g6)⟩, sl_len (enc := enc_si) (app_can (enc := enc_si) rfl (rfl))⟩, trivial⟩ trivial ?_
      refine AX.reg (its := [.auto { raw := true }]) [6, 25, 26, 27] [2] (s1 := ⟨[(6, .sl 2 0 (((x4 ++ p1) ++ p2).length)), (25, .bx [.bs false 2 (List.map enc_si p1), .bs false 2 (List.map enc_si p2)]), (26, .v (.int .i64 2)), (27, .v (.int .i64 2))], [(2, .arr 2 (List.map enc_si (x4 ++ p1) ++ List.map enc_si p2))]⟩) (C := True) (by kernel_rfl) trivial trivial ?_
      refine AXL.step ?_
      refine AX.seq ?_
      refine AX.reg (its := []) [6, 25, 26, 27, 28] [2] (s1 := ⟨[(6, .sl 2 0 (((x4 ++ p1) ++ p2).length)), (25, .bx [.bs false 2 (List.map enc_si p1), .bs false 2 (List.map enc_si p2)]), (26, .v (.int .i64 2)), (27, .v (.int .i64 2)), (28, .v (.bool false))], [(2, .arr 2 (List.map enc_si (x4 ++ p1) ++ List.map enc_si p2))]⟩) (C := True) (by kernel_rfl) trivial trivial ?_
      refine AX.seq ?_
      refine AX.cond_false (by kernel_rfl) ?_
      refine AX.exit ?_
      refine AX.seq ?_
      refine AX.reg (its := []) [2] [2] (s1 := ⟨[(2, .sl 2 0 (((x4 ++ p1) ++ p2).length))], [(2, .arr 2 (List.map enc_si (x4 ++ p1) ++ List.map enc_si p2))]⟩) (C := True) (by kernel_rfl) trivial trivial ?_
      refine AX.ret ?_
      refine fin_wk (Wk.swap 0 2 (Nat.le_of_ble_eq_true (by kernel_rfl)) (Nat.le_of_ble_eq_true (by kernel_rfl)) rfl) ?_
      refine fin_wk (Wk.forget [2] [0] (s' := ⟨[(2, .sl 0 0 (((x4 ++ p1) ++ p2).length))], [(0, .arr 2 (List.map enc_si (x4 ++ p1) ++ List.map enc_si p2))]⟩) (by kernel_rfl)) ?_
      refine fin_wk (Wk.of_eq (congrArg (fun z => (⟨[(2, .sl 0 0 (((x4 ++ p1) ++ p2).length))], [(0, .arr 2 (z))]⟩ : S)) (app_can (enc := enc_si) rfl (rfl) : List.map enc_si (x4 ++ p1) ++ List.map enc_si p2 = List.map enc_si ((x4 ++ p1) ++ p2)))) ?_
      have hr := Option.some.inj h
      subst hr
      exact ⟨_, Wk.refl _, .inr rfl, ⟨[0], by kernel_rfl, ⟨rfl, trivial⟩, [.sl 0 0 (((x4 ++ p1) ++ p2).length)], by kernel_rfl, by kernel_rfl⟩⟩

theorem s_impl_DropDef (p1 : List (ByteArray × Int)) (p2 : ByteArray) (r : (List (ByteArray × Int)) × Bool) (h : m_impl_DropDef p1 p2 = some r) :
    Eng.Spec Try.prog 34 [.agg [.bs false 2 (List.map enc_si p1)], .v (.string p2)] [] (.tup [.agg [.sl 0 0 r.1.length], .v (.bool r.2)]) [.arr 2 (List.map enc_si r.1)] := by
  unfold m_impl_DropDef at h
  refine Eng.Spec.body Try.func34 (by kernel_rfl) rfl (by kernel_rfl) ?_
  refine AX.wkpost ?_
  refine AX.seq ?_
  refine AX.reg (its := [.auto { nk := 0 }, .auto { nk := 1 }]) [1, 2, 4] [0, 1] (s1 := ⟨[(1, .v (.string p2)), (2, .pt 0 0), (4, .pt 1 0)], [(0, .box [.bs false 2 (List.map enc_si p1)]), (1, .box [.v (.slice none 0 0)])]⟩) (C := True) (by kernel_rfl) trivial trivial ?_
  refine AX.seq ?_
  obtain ⟨x3, e1, h⟩ := bd_e h
  refine AX.reg (its := [.auto {}, .auto {}, .auto {}, .call 32 [.bs false 2 (List.map enc_si p1), .v (.string p2)] (handO (rho ([] ++ [])) [] [] ++ []) (callEv [] [] (.v (.int .i64 x3)) [])]) [2, 4, 6] [0, 1] (s1 := ⟨[(2, .pt 0 0), (4, .pt 1 0), (6, .v (.int .i64 x3))], [(0, .box [.bs false 2 (List.map enc_si p1)]), (1, .box [.v (.slice none 0 0)])]⟩) (C := ((([.bs false 2 (List.map enc_si p1), .v (.string p2)] : List AV) = [.bs false 2 (List.map enc_si p1), .v (.string p2)]) ∧ True) ∧ True) (by kernel_rfl) ⟨⟨rfl, trivial⟩, trivial⟩ ⟨call_ok (ks := []) (ns := []) (bor := []) (bobjs := []) (s_impl_named p1 p2 x3 e1) (.cons (.c1 (.c0 (.same _ (by kernel_rfl) (by kernel_rfl)))) (.cons (.c1 (.c0 (.same _ (by kernel_rfl) (by kernel_rfl)))) (.nil))) (by kernel_rfl) trivial, trivial⟩ ?_
  refine AX.seq ?_
  refine AX.seq ?_
  refine AX.reg (its := []) [2, 4, 6, 12] [0, 1] (s1 := ⟨[(2, .pt 0 0), (4, .pt 1 0), (6, .v (.int .i64 x3)), (12, .v (.bool (decide (x3 < 0))))], [(0, .box [.bs false 2 (List.map enc_si p1)]), (1, .box [.v (.slice none 0 0)])]⟩) (C := True) (by kernel_rfl) trivial trivial ?_
  rcases bool_cases (decide (x3 < 0)) with b2 | b2
  · replace h := cd_t b2 h
    refine AX.condT (decide (x3 < 0)) (by kernel_rfl) b2 ?_
    refine AX.seq ?_
    refine AX.reg (its := []) [4, 5] [1] (s1 := ⟨[(4, .pt 1 0), (5, .v (.bool false))], [(1, .box [.v (.slice none 0 0)])]⟩) (C := True) (by kernel_rfl) trivial trivial ?_
    refine AX.ret ?_
    refine fin_wk (Wk.matB 1 0 2 2 (cs := [.v (.slice none 0 0)]) (by kernel_rfl) (by kernel_rfl) (Nat.le_of_ble_eq_true (by kernel_rfl)) (by kernel_rfl) (by decide) rfl) ?_
    refine fin_wk (Wk.swap 0 1 (Nat.le_of_ble_eq_true (by kernel_rfl)) (Nat.le_of_ble_eq_true (by kernel_rfl)) rfl) ?_
    refine fin_wk (Wk.swap 1 2 (Nat.le_of_ble_eq_true (by kernel_rfl)) (Nat.le_of_ble_eq_true (by kernel_rfl)) rfl) ?_
    refine fin_wk (Wk.forget [4, 5] [0, 1] (s' := ⟨[(4, .pt 0 0), (5, .v (.bool false))], [(0, .box [.sl 1 0 (([] : List (ByteArray × Int)).length)]), (1, .arr 2 (List.map enc_si ([] : List (ByteArray × Int))))]⟩) (by kernel_rfl)) ?_
    have hr := Option.some.inj h
    subst hr
    exact ⟨_, Wk.refl _, .inr rfl, ⟨[1], by kernel_rfl, ⟨rfl, trivial⟩, [.agg [.sl 1 0 (([] : List (ByteArray × Int)).length)], .v (.bool false)], by kernel_rfl, by kernel_rfl⟩⟩
  · replace h := cd_f b2 h
    refine AX.condF (decide (x3 < 0)) (by kernel_rfl) b2 ?_
    refine AX.skip ?_
    refine AX.seq ?_
    obtain ⟨g3, h⟩ := gd_e h
    obtain ⟨g4, h⟩ := gd_e h
    obtain ⟨x4, e5, h⟩ := bd_e h
    obtain ⟨x5, e6, h⟩ := bd_e h
    obtain ⟨x6, e7, h⟩ := bd_e h
    refine AX.drw mixed (its := [.auto {}, .auto {}, .auto {}, .auto { y := some (.bs false 2 (List.map enc_si (sub p1 (0 : Int) x3))) }, .auto {}, .auto {}, .auto {}, .auto { raw := true }, .auto { y := some (.bs false 2 (List.map enc_si (sub p1 (IntKind.wrap .i64 (x3 + 1)) (p1.length : Int)))) }, .auto { raw := true, nk := 2 }, .call 46 [.sx 2 2] (handO (rho ([] ++ [3])) [] [] ++ [(2, .box [.bs false 2 (List.map enc_si (sub p1 (0 : Int) x3)), .bs false 2 (List.map enc_si (sub p1 (IntKind.wrap .i64 (x3 + 1)) (p1.length : Int)))])]) (callEv [] [3] (.sl 0 0 x4.length) [.arr 2 (List.map enc_si x4)]), .auto {}, .call 9 [.agg [.bs false 2 (List.map enc_si p1)]] (handO (rho ([] ++ [])) [] [] ++ []) (callEv [] [] (.v (.bool x5)) []), .call 35 [.sl 3 0 x4.length, .v (.bool x5)] (handO (rho ([] ++ [4])) [] [] ++ [(3, .arr 2 (List.map enc_si x4))]) (callEv [] [4] (.tup [.agg [.sl 0 0 x6.1.length], .v (.bool x6.2)]) [.arr 2 (List.map enc_si x6.1)])]) [4, 5] [1, 4] (s1 := ⟨[(4, .pt 1 0), (5, .v (.bool x6.2))], [(1, .box [.sl 4 0 x6.1.length]), (4, .arr 2 (List.map enc_si x6.1))]⟩) (C := ((0 ≤ (0 : Int) ∧ (0 : Int) ≤ x3 ∧ x3 ≤ ((List.map enc_si p1).length : Int) ∧ ((List.map enc_si p1).length : Int) ≤ ((List.map enc_si p1).length : Int)) ∧ (AV.bs false 2 (((List.map enc_si p1).drop (0 : Int).toNat).take (x3.toNat - (0 : Int).toNat)) = (.bs false 2 (List.map enc_si (sub p1 (0 : Int) x3)) : AV))) ∧ ((0 ≤ (IntKind.wrap .i64 (x3 + 1)) ∧ (IntKind.wrap .i64 (x3 + 1)) ≤ ((List.map enc_si p1).length : Int) ∧ ((List.map enc_si p1).length : Int) ≤ ((List.map enc_si p1).length : Int) ∧ ((List.map enc_si p1).length : Int) ≤ ((List.map enc_si p1).length : Int)) ∧ (AV.bs false 2 (((List.map enc_si p1).drop (IntKind.wrap .i64 (x3 + 1)).toNat).take (((List.map enc_si p1).length : Int).toNat - (IntKind.wrap .i64 (x3 + 1)).toNat)) = (.bs false 2 (List.map enc_si (sub p1 (IntKind.wrap .i64 (x3 + 1)) (p1.length : Int))) : AV))) ∧ ((([.sx 2 2] : List AV) = [.sx 2 2]) ∧ (AO.box [.bs false 2 (List.map enc_si (sub p1 (0 : Int) x3)), .bs false 2 (List.map enc_si (sub p1 (IntKind.wrap .i64 (x3 + 1)) (p1.length : Int)))] = AO.box [.bs false 2 (List.map enc_si (sub p1 (0 : Int) x3)), .bs false 2 (List.map enc_si (sub p1 (IntKind.wrap .i64 (x3 + 1)) (p1.length : Int)))]) ∧ True) ∧ ((([.agg [.bs false 2 (List.map enc_si p1)]] : List AV) = [.agg [.bs false 2 (List.map enc_si p1)]]) ∧ True) ∧ ((([.sl 3 0 x4.length, .v (.bool x5)] : List AV) = [.sl 3 0 x4.length, .v (.bool x5)]) ∧ (AO.arr 2 (List.map enc_si x4) = AO.arr 2 (List.map enc_si x4)) ∧ True) ∧ True) (by kernel_rfl) ⟨⟨by first | exact g3 | simpa only [List.length_map] using g3, by first | exact sub_can enc_si p1 (0 : Int) x3 false 2 | (simp only [List.length_map]; exact sub_can enc_si p1 (0 : Int) x3 false 2)⟩, ⟨⟨by first | exact g4 | simpa only [List.length_map] using g4, by first | exact sub_can enc_si p1 (IntKind.wrap .i64 (x3 + 1)) (p1.length : Int) false 2 | (simp only [List.length_map]; exact sub_can enc_si p1 (IntKind.wrap .i64 (x3 + 1)) (p1.length : Int) false 2)⟩, ⟨⟨rfl, rfl, trivial⟩, ⟨⟨rfl, trivial⟩, ⟨⟨rfl, rfl, trivial⟩, trivial⟩⟩⟩⟩⟩ ⟨call_ok (ks := []) (ns := [3]) (bor := [2]) (bobjs := [(2, .box [.bs false 2 (List.map enc_si (sub p1 (0 : Int) x3)), .bs false 2 (List.map enc_si (sub p1 (IntKind.wrap .i64 (x3 + 1)) (p1.length : Int)))])]) (s_slices_Concat_x2sisi (sub p1 (0 : Int) x3) (sub p1 (IntKind.wrap .i64 (x3 + 1)) (p1.length : Int)) x4 e5) (.cons (.c1 (.sx rfl rfl (.cons (.same _ (by kernel_rfl) (by kernel_rfl)) (.cons (.same _ (by kernel_rfl) (by kernel_rfl)) (.nil))))) (.nil)) (by kernel_rfl) trivial, ⟨call_ok (ks := []) (ns := []) (bor := []) (bobjs := []) (s_impl_ValidEnum p1 x5 e6) (.cons (.c1 (.agg (.cons (.same _ (by kernel_rfl) (by kernel_rfl)) (.nil)))) (.nil)) (by kernel_rfl) trivial, ⟨call_ok (ks := []) (ns := [4]) (bor := [3]) (bobjs := [(3, .arr 2 (List.map enc_si x4))]) (s_impl_enumOf x4 x5 x6 e7) (.cons (.c1 (.c0 (.arr rfl rfl ((rfl).trans (List.length_map ..).symm)))) (.cons (.c1 (.c0 (.same _ (by kernel_rfl) (by kernel_rfl)))) (.nil))) (by kernel_rfl) trivial, trivial⟩⟩⟩ ?_
    refine AX.ret ?_
    refine fin_wk (Wk.swap 0 1 (Nat.le_of_ble_eq_true (by kernel_rfl)) (Nat.le_of_ble_eq_true (by kernel_rfl)) rfl) ?_
    refine fin_wk (Wk.swap 1 4 (Nat.le_of_ble_eq_true (by kernel_rfl)) (Nat.le_of_ble_eq_true (by kernel_rfl)) rfl) ?_
    refine fin_wk (Wk.forget [4, 5] [0, 1] (s' := ⟨[(4, .pt 0 0), (5, .v (.bool x6.2))], [(0, .box [.sl 1 0 x6.1.length]), (1, .arr 2 (List.map enc_si x6.1))]⟩) (by kernel_rfl)) ?_
    have hr := Option.some.inj h
    subst hr
    exact ⟨_, Wk.refl _, .inr rfl, ⟨[1], by kernel_rfl, ⟨rfl, trivial⟩, [.agg [.sl 1 0 x6.1.length], .v (.bool x6.2)], by kernel_rfl, by kernel_rfl⟩⟩

theorem s_impl_Enum_apply (p1 : List (ByteArray × Int)) (p2 : Int) (p3 : ByteArray) (p4 : Int) (p5 : Int) (r : (List (ByteArray × Int)) × Bool) (h : m_impl_Enum_apply p1 p2 p3 p4 p5 = some r) :
    Eng.Spec Try.prog 15 [.agg [.bs false 2 (List.map enc_si p1)], .agg [.v (.int .i64 p2), .v (.string p3), .v (.int .i64 p4), .v (.int .i64 p5)]] [] (.tup [.agg [.sl 0 0 r.1.length], .v (.bool r.2)]) [.arr 2 (List.map enc_si r.1)] := by
  unfold m_impl_Enum_apply at h
  refine Eng.Spec.body Try.func15 (by kernel_rfl) rfl (by kernel_rfl) ?_
  refine AX.wkpost ?_
  refine AX.seq ?_
  refine AX.reg (its := [.auto { nk := 0 }, .auto { nk := 1 }, .auto { nk := 2 }]) [2, 3, 4] [0, 1, 2] (s1 := ⟨[(2, .pt 0 0), (3, .pt 1 0), (4, .pt 2 0)], [(0, .box [.bs false 2 (List.map enc_si p1)]), (1, .box [.v (.int .i64 p2), .v (.string p3), .v (.int .i64 p4), .v (.int .i64 p5)]), (2, .box [.v (.slice none 0 0)])]⟩) (C := True) (by kernel_rfl) trivial trivial ?_
  refine AX.seq ?_
  obtain ⟨x6, e1, h⟩ := bd_e h
  refine AX.reg (its := [.auto {}, .auto {}, .auto {}, .auto {}, .call 32 [.bs false 2 (List.map enc_si p1), .v (.string p3)] (handO (rho ([] ++ [])) [] [] ++ []) (callEv [] [] (.v (.int .i64 x6)) [])]) [2, 3, 4, 6] [0, 1, 2] (s1 := ⟨[(2, .pt 0 0), (3, .pt 1 0), (4, .pt 2 0), (6, .v (.int .i64 x6))], [(0, .box [.bs false 2 (List.map enc_si p1)]), (1, .box [.v (.int .i64 p2), .v (.string p3), .v (.int .i64 p4), .v (.int .i64 p5)]), (2, .box [.v (.slice none 0 0)])]⟩) (C := ((([.bs false 2 (List.map enc_si p1), .v (.string p3)] : List AV) = [.bs false 2 (List.map enc_si p1), .v (.string p3)]) ∧ True) ∧ True) (by kernel_rfl) ⟨⟨rfl, trivial⟩, trivial⟩ ⟨call_ok (ks := []) (ns := []) (bor := []) (bobjs := []) (s_impl_named p1 p3 x6 e1) (.cons (.c1 (.c0 (.same _ (by kernel_rfl) (by kernel_rfl)))) (.cons (.c1 (.c0 (.same _ (by kernel_rfl) (by kernel_rfl)))) (.nil))) (by kernel_rfl) trivial, trivial⟩ ?_
  refine AX.seq ?_
  refine AX.block ?_
  refine AX.seq ?_
  refine AX.reg (its := []) [2, 3, 4, 6, 13] [0, 1, 2] (s1 := ⟨[(2, .pt 0 0), (3, .pt 1 0), (4, .pt 2 0), (6, .v (.int .i64 x6)), (13, .v (.bool (decide (p2 = 0))))], [(0, .box [.bs false 2 (List.map enc_si p1)]), (1, .box [.v (.int .i64 p2), .v (.string p3), .v (.int .i64 p4), .v (.int .i64 p5)]), (2, .box [.v (.slice none 0 0)])]⟩) (C := True) (by kernel_rfl) trivial trivial ?_
  rcases bool_cases (decide (p2 = 0)) with b2 | b2
  · replace h := cd_t b2 h
    refine AX.condT (decide (p2 = 0)) (by kernel_rfl) b2 ?_
    refine AX.seq ?_
    refine AX.seq ?_
    rcases bool_cases (decide (0 ≤ x6)) with b3 | b3
    · replace h := cd_t b3 h
      refine AX.reg (its := [.auto {}, .auto { y := some (.v (.bool true)) }]) [2, 3, 4, 23] [0, 1, 2] (s1 := ⟨[(2, .pt 0 0), (3, .pt 1 0), (4, .pt 2 0), (23, .v (.bool true))], [(0, .box [.bs false 2 (List.map enc_si p1)]), (1, .box [.v (.int .i64 p2), .v (.string p3), .v (.int .i64 p4), .v (.int .i64 p5)]), (2, .box [.v (.slice none 0 0)])]⟩) (C := ((True) ∧ ((.v (.bool (decide (0 ≤ x6))) : AV) = (.v (.bool true) : AV))) ∧ True) (by kernel_rfl) ⟨⟨trivial, (congrArg (fun z => AV.v (.bool z)) b3)⟩, trivial⟩ trivial ?_
      refine AX.cond_true (by kernel_rfl) ?_
      refine AX.seq ?_
      refine AX.reg (its := []) [4, 5] [2] (s1 := ⟨[(4, .pt 2 0), (5, .v (.bool false))], [(2, .box [.v (.slice none 0 0)])]⟩) (C := True) (by kernel_rfl) trivial trivial ?_
      refine AX.ret ?_
      refine fin_wk (Wk.matB 2 0 3 2 (cs := [.v (.slice none 0 0)]) (by kernel_rfl) (by kernel_rfl) (Nat.le_of_ble_eq_true (by kernel_rfl)) (by kernel_rfl) (by decide) rfl) ?_
      refine fin_wk (Wk.swap 0 2 (Nat.le_of_ble_eq_true (by kernel_rfl)) (Nat.le_of_ble_eq_true (by kernel_rfl)) rfl) ?_
      refine fin_wk (Wk.swap 1 3 (Nat.le_of_ble_eq_true (by kernel_rfl)) (Nat.le_of_ble_eq_true (by kernel_rfl)) rfl) ?_
      refine fin_wk (Wk.forget [4, 5] [0, 1] (s' := ⟨[(4, .pt 0 0), (5, .v (.bool false))], [(0, .box [.sl 1 0 (([] : List (ByteArray × Int)).length)]), (1, .arr 2 (List.map enc_si ([] : List (ByteArray × Int))))]⟩) (by kernel_rfl)) ?_
      have hr := Option.some.inj h
      subst hr
      exact ⟨_, Wk.refl _, .inr rfl, ⟨[1], by kernel_rfl, ⟨rfl, trivial⟩, [.agg [.sl 1 0 (([] : List (ByteArray × Int)).length)], .v (.bool false)], by kernel_rfl, by kernel_rfl⟩⟩
    · replace h := cd_f b3 h
      refine AX.reg (its := [.auto {}, .auto { y := some (.v (.bool false)) }]) [2, 3, 4, 23] [0, 1, 2] (s1 := ⟨[(2, .pt 0 0), (3, .pt 1 0), (4, .pt 2 0), (23, .v (.bool (!decide (p4 = 0))))], [(0, .box [.bs false 2 (List.map enc_si p1)]), (1, .box [.v (.int .i64 p2), .v (.string p3), .v (.int .i64 p4), .v (.int .i64 p5)]), (2, .box [.v (.slice none 0 0)])]⟩) (C := ((True) ∧ ((.v (.bool (decide (0 ≤ x6))) : AV) = (.v (.bool false) : AV))) ∧ True) (by kernel_rfl) ⟨⟨trivial, (congrArg (fun z => AV.v (.bool z)) b3)⟩, trivial⟩ trivial ?_
      rcases bool_cases ((!decide (p4 = 0))) with b4 | b4
      · replace h := cd_t b4 h
        refine AX.condT ((!decide (p4 = 0))) (by kernel_rfl) b4 ?_
        refine AX.seq ?_
        refine AX.reg (its := []) [4, 5] [2] (s1 := ⟨[(4, .pt 2 0), (5, .v (.bool false))], [(2, .box [.v (.slice none 0 0)])]⟩) (C := True) (by kernel_rfl) trivial trivial ?_
        refine AX.ret ?_
        refine fin_wk (Wk.matB 2 0 3 2 (cs := [.v (.slice none 0 0)]) (by kernel_rfl) (by kernel_rfl) (Nat.le_of_ble_eq_true (by kernel_rfl)) (by kernel_rfl) (by decide) rfl) ?_
        refine fin_wk (Wk.swap 0 2 (Nat.le_of_ble_eq_true (by kernel_rfl)) (Nat.le_of_ble_eq_true (by kernel_rfl)) rfl) ?_
        refine fin_wk (Wk.swap 1 3 (Nat.le_of_ble_eq_true (by kernel_rfl)) (Nat.le_of_ble_eq_true (by kernel_rfl)) rfl) ?_
        refine fin_wk (Wk.forget [4, 5] [0, 1] (s' := ⟨[(4, .pt 0 0), (5, .v (.bool false))], [(0, .box [.sl 1 0 (([] : List (ByteArray × Int)).length)]), (1, .arr 2 (List.map enc_si ([] : List (ByteArray × Int))))]⟩) (by kernel_rfl)) ?_
        have hr := Option.some.inj h
        subst hr
        exact ⟨_, Wk.refl _, .inr rfl, ⟨[1], by kernel_rfl, ⟨rfl, trivial⟩, [.agg [.sl 1 0 (([] : List (ByteArray × Int)).length)], .v (.bool false)], by kernel_rfl, by kernel_rfl⟩⟩
      · replace h := cd_f b4 h
        refine AX.condF ((!decide (p4 = 0))) (by kernel_rfl) b4 ?_
        refine AX.skip ?_
        refine AX.seq ?_
        obtain ⟨x7, e5, h⟩ := bd_e h
        refine AX.reg (its := [.auto {}, .auto {}, .auto {}, .auto {}, .auto {}, .auto {}, .call 33 [.agg [.bs false 2 (List.map enc_si p1)], .agg [.v (.string p3), .v (.int .i64 p5)]] (handO (rho ([] ++ [3])) [] [] ++ []) (callEv [] [3] (.tup [.agg [.sl 0 0 x7.1.length], .v (.bool x7.2)]) [.arr 2 (List.map enc_si x7.1)])]) [4, 5] [2, 3] (s1 := ⟨[(4, .pt 2 0), (5, .v (.bool x7.2))], [(2, .box [.sl 3 0 x7.1.length]), (3, .arr 2 (List.map enc_si x7.1))]⟩) (C := ((([.agg [.bs false 2 (List.map enc_si p1)], .agg [.v (.string p3), .v (.int .i64 p5)]] : List AV) = [.agg [.bs false 2 (List.map enc_si p1)], .agg [.v (.string p3), .v (.int .i64 p5)]]) ∧ True) ∧ True) (by kernel_rfl) ⟨⟨rfl, trivial⟩, trivial⟩ ⟨call_ok (ks := []) (ns := [3]) (bor := []) (bobjs := []) (s_impl_AddDef p1 p3 p5 x7 e5) (.cons (.c1 (.agg (.cons (.same _ (by kernel_rfl) (by kernel_rfl)) (.nil)))) (.cons (.c1 (.agg (.cons (.same _ (by kernel_rfl) (by kernel_rfl)) (.cons (.same _ (by kernel_rfl) (by kernel_rfl)) (.nil))))) (.nil))) (by kernel_rfl) trivial, trivial⟩ ?_
        refine AX.ret ?_
        refine fin_wk (Wk.swap 0 2 (Nat.le_of_ble_eq_true (by kernel_rfl)) (Nat.le_of_ble_eq_true (by kernel_rfl)) rfl) ?_
        refine fin_wk (Wk.swap 1 3 (Nat.le_of_ble_eq_true (by kernel_rfl)) (Nat.le_of_ble_eq_true (by kernel_rfl)) rfl) ?_
        refine fin_wk (Wk.forget [4, 5] [0, 1] (s' := ⟨[(4, .pt 0 0), (5, .v (.bool x7.2))], [(0, .box [.sl 1 0 x7.1.length]), (1, .arr 2 (List.map enc_si x7.1))]⟩) (by kernel_rfl)) ?_
        have hr := Option.some.inj h
        subst hr
        exact ⟨_, Wk.refl _, .inr rfl, ⟨[1], by kernel_rfl, ⟨rfl, trivial⟩, [.agg [.sl 1 0 x7.1.length], .v (.bool x7.2)], by kernel_rfl, by kernel_rfl⟩⟩
  · replace h := cd_f b2 h
    refine AX.condF (decide (p2 = 0)) (by kernel_rfl) b2 ?_
    refine AX.seq ?_
    rcases bool_cases (decide (x6 < 0)) with b6 | b6
    · replace h := cd_t b6 h
      refine AX.drw mixed (its := [.auto {}, .auto { y := some (.v (.bool true)) }]) [2, 3, 4, 6, 34] [0, 1, 2] (s1 := ⟨[(2, .pt 0 0), (3, .pt 1 0), (4, .pt 2 0), (6, .v (.int .i64 x6)), (34, .v (.bool true))], [(0, .box [.bs false 2 (List.map enc_si p1)]), (1, .box [.v (.int .i64 p2), .v (.string p3), .v (.int .i64 p4), .v (.int .i64 p5)]), (2, .box [.v (.slice none 0 0)])]⟩) (C := ((True) ∧ ((.v (.bool (decide (x6 < 0))) : AV) = (.v (.bool true) : AV))) ∧ True) (by kernel_rfl) ⟨⟨trivial, (congrArg (fun z => AV.v (.bool z)) b6)⟩, trivial⟩ trivial ?_
      refine AX.cond_true (by kernel_rfl) ?_
      refine AX.seq ?_
      refine AX.reg (its := []) [4, 5] [2] (s1 := ⟨[(4, .pt 2 0), (5, .v (.bool false))], [(2, .box [.v (.slice none 0 0)])]⟩) (C := True) (by kernel_rfl) trivial trivial ?_
      refine AX.ret ?_
      refine fin_wk (Wk.matB 2 0 3 2 (cs := [.v (.slice none 0 0)]) (by kernel_rfl) (by kernel_rfl) (Nat.le_of_ble_eq_true (by kernel_rfl)) (by kernel_rfl) (by decide) rfl) ?_
      refine fin_wk (Wk.swap 0 2 (Nat.le_of_ble_eq_true (by kernel_rfl)) (Nat.le_of_ble_eq_true (by kernel_rfl)) rfl) ?_
      refine fin_wk (Wk.swap 1 3 (Nat.le_of_ble_eq_true (by kernel_rfl)) (Nat.le_of_ble_eq_true (by kernel_rfl)) rfl) ?_
      refine fin_wk (Wk.forget [4, 5] [0, 1] (s' := ⟨[(4, .pt 0 0), (5, .v (.bool false))], [(0, .box [.sl 1 0 (([] : List (ByteArray × Int)).length)]), (1, .arr 2 (List.map enc_si ([] : List (ByteArray × Int))))]⟩) (by kernel_rfl)) ?_
      have hr := Option.some.inj h
      subst hr
      exact ⟨_, Wk.refl _, .inr rfl, ⟨[1], by kernel_rfl, ⟨rfl, trivial⟩, [.agg [.sl 1 0 (([] : List (ByteArray × Int)).length)], .v (.bool false)], by kernel_rfl, by kernel_rfl⟩⟩
    · replace h := cd_f b6 h
      obtain ⟨g7, h⟩ := gd_e h
      refine AX.drw mixed (its := [.auto {}, .auto { y := some (.v (.bool false)) }, .auto {}, .auto {}, .auto {}, .auto {}, .auto { y := some (.be 2 (enc_si (gt p1 x6)) 0) }]) [2, 3, 4, 6, 34] [0, 1, 2] (s1 := ⟨[(2, .pt 0 0), (3, .pt 1 0), (4, .pt 2 0), (6, .v (.int .i64 x6)), (34, .v (.bool (!decide (((gt p1 x6).2) = p4))))], [(0, .box [.bs false 2 (List.map enc_si p1)]), (1, .box [.v (.int .i64 p2), .v (.string p3), .v (.int .i64 p4), .v (.int .i64 p5)]), (2, .box [.v (.slice none 0 0)])]⟩) (C := ((True) ∧ ((.v (.bool (decide (x6 < 0))) : AV) = (.v (.bool false) : AV))) ∧ ((0 ≤ x6 ∧ x6 < ((List.map enc_si p1).length : Int)) ∧ (AV.be 2 ((List.map enc_si p1).getD x6.toNat []) 0 = AV.be 2 (enc_si (gt p1 x6)) 0)) ∧ True) (by kernel_rfl) ⟨⟨trivial, (congrArg (fun z => AV.v (.bool z)) b6)⟩, ⟨idx_bs enc_si p1 x6 2 g7, trivial⟩⟩ trivial ?_
      rcases bool_cases ((!decide (((gt p1 x6).2) = p4))) with b8 | b8
      · replace h := cd_t b8 h
        refine AX.condT ((!decide (((gt p1 x6).2) = p4))) (by kernel_rfl) b8 ?_
        refine AX.seq ?_
        refine AX.reg (its := []) [4, 5] [2] (s1 := ⟨[(4, .pt 2 0), (5, .v (.bool false))], [(2, .box [.v (.slice none 0 0)])]⟩) (C := True) (by kernel_rfl) trivial trivial ?_
        refine AX.ret ?_
        refine fin_wk (Wk.matB 2 0 3 2 (cs := [.v (.slice none 0 0)]) (by kernel_rfl) (by kernel_rfl) (Nat.le_of_ble_eq_true (by kernel_rfl)) (by kernel_rfl) (by decide) rfl) ?_
        refine fin_wk (Wk.swap 0 2 (Nat.le_of_ble_eq_true (by kernel_rfl)) (Nat.le_of_ble_eq_true (by kernel_rfl)) rfl) ?_
        refine fin_wk (Wk.swap 1 3 (Nat.le_of_ble_eq_true (by kernel_rfl)) (Nat.le_of_ble_eq_true (by kernel_rfl)) rfl) ?_
        refine fin_wk (Wk.forget [4, 5] [0, 1] (s' := ⟨[(4, .pt 0 0), (5, .v (.bool false))], [(0, .box [.sl 1 0 (([] : List (ByteArray × Int)).length)]), (1, .arr 2 (List.map enc_si ([] : List (ByteArray × Int))))]⟩) (by kernel_rfl)) ?_
        have hr := Option.some.inj h
        subst hr
        exact ⟨_, Wk.refl _, .inr rfl, ⟨[1], by kernel_rfl, ⟨rfl, trivial⟩, [.agg [.sl 1 0 (([] : List (ByteArray × Int)).length)], .v (.bool false)], by kernel_rfl, by kernel_rfl⟩⟩
      · replace h := cd_f b8 h
        refine AX.condF ((!decide (((gt p1 x6).2) = p4))) (by kernel_rfl) b8 ?_
        refine AX.seq ?_
        rcases bool_cases (decide (p2 = 1)) with b9 | b9
        · replace h := cd_t b9 h
          refine AX.reg (its := [.auto {}, .auto {}, .auto { y := some (.v (.bool true)) }]) [2, 3, 4, 6, 49] [0, 1, 2] (s1 := ⟨[(2, .pt 0 0), (3, .pt 1 0), (4, .pt 2 0), (6, .v (.int .i64 x6)), (49, .v (.bool (decide (p5 = 0))))], [(0, .box [.bs false 2 (List.map enc_si p1)]), (1, .box [.v (.int .i64 p2), .v (.string p3), .v (.int .i64 p4), .v (.int .i64 p5)]), (2, .box [.v (.slice none 0 0)])]⟩) (C := ((True) ∧ ((.v (.bool (decide (p2 = 1))) : AV) = (.v (.bool true) : AV))) ∧ True) (by kernel_rfl) ⟨⟨trivial, (congrArg (fun z => AV.v (.bool z)) b9)⟩, trivial⟩ trivial ?_
          rcases bool_cases (decide (p5 = 0)) with b10 | b10
          · replace h := cd_t b10 h
            refine AX.condT (decide (p5 = 0)) (by kernel_rfl) b10 ?_
            refine AX.seq ?_
            obtain ⟨x8, e11, h⟩ := bd_e h
            refine AX.reg (its := [.auto {}, .auto {}, .auto {}, .call 34 [.agg [.bs false 2 (List.map enc_si p1)], .v (.string p3)] (handO (rho ([] ++ [3])) [] [] ++ []) (callEv [] [3] (.tup [.agg [.sl 0 0 x8.1.length], .v (.bool x8.2)]) [.arr 2 (List.map enc_si x8.1)])]) [4, 5] [2, 3] (s1 := ⟨[(4, .pt 2 0), (5, .v (.bool x8.2))], [(2, .box [.sl 3 0 x8.1.length]), (3, .arr 2 (List.map enc_si x8.1))]⟩) (C := ((([.agg [.bs false 2 (List.map enc_si p1)], .v (.string p3)] : List AV) = [.agg [.bs false 2 (List.map enc_si p1)], .v (.string p3)]) ∧ True) ∧ True) (by kernel_rfl) ⟨⟨rfl, trivial⟩, trivial⟩ ⟨call_ok (ks := []) (ns := [3]) (bor := []) (bobjs := []) (s_impl_DropDef p1 p3 x8 e11) (.cons (.c1 (.agg (.cons (.same _ (by kernel_rfl) (by kernel_rfl)) (.nil)))) (.cons (.c1 (.c0 (.same _ (by kernel_rfl) (by kernel_rfl)))) (.nil))) (by kernel_rfl) trivial, trivial⟩ ?_
            refine AX.ret ?_
            refine fin_wk (Wk.swap 0 2 (Nat.le_of_ble_eq_true (by kernel_rfl)) (Nat.le_of_ble_eq_true (by kernel_rfl)) rfl) ?_
            refine fin_wk (Wk.swap 1 3 (Nat.le_of_ble_eq_true (by kernel_rfl)) (Nat.le_of_ble_eq_true (by kernel_rfl)) rfl) ?_
            refine fin_wk (Wk.forget [4, 5] [0, 1] (s' := ⟨[(4, .pt 0 0), (5, .v (.bool x8.2))], [(0, .box [.sl 1 0 x8.1.length]), (1, .arr 2 (List.map enc_si x8.1))]⟩) (by kernel_rfl)) ?_
            have hr := Option.some.inj h
            subst hr
            exact ⟨_, Wk.refl _, .inr rfl, ⟨[1], by kernel_rfl, ⟨rfl, trivial⟩, [.agg [.sl 1 0 x8.1.length], .v (.bool x8.2)], by kernel_rfl, by kernel_rfl⟩⟩
          · replace h := cd_f b10 h
            refine AX.condF (decide (p5 = 0)) (by kernel_rfl) b10 ?_
            refine AX.seq ?_
            refine AX.reg (its := []) [2, 3, 4, 6, 64] [0, 1, 2] (s1 := ⟨[(2, .pt 0 0), (3, .pt 1 0), (4, .pt 2 0), (6, .v (.int .i64 x6)), (64, .v (.bool (decide (p2 = 2))))], [(0, .box [.bs false 2 (List.map enc_si p1)]), (1, .box [.v (.int .i64 p2), .v (.string p3), .v (.int .i64 p4), .v (.int .i64 p5)]), (2, .box [.v (.slice none 0 0)])]⟩) (C := True) (by kernel_rfl) trivial trivial ?_
            rcases bool_cases (decide (p2 = 2)) with b12 | b12
            · replace h := cd_t b12 h
              refine AX.condT (decide (p2 = 2)) (by kernel_rfl) b12 ?_
              refine AX.seq ?_
              obtain ⟨x9, e13, h⟩ := bd_e h
              refine AX.reg (its := [.auto {}, .auto {}, .call 14 [.bs false 2 (List.map enc_si p1)] (handO (rho ([] ++ [3])) [] [] ++ []) (callEv [] [3] (.sl 0 0 x9.length) [.arr 2 (List.map enc_si x9)])]) [3, 4, 6, 7] [1, 2, 3] (s1 := ⟨[(3, .pt 1 0), (4, .pt 2 0), (6, .v (.int .i64 x6)), (7, .sl 3 0 x9.length)], [(1, .box [.v (.int .i64 p2), .v (.string p3), .v (.int .i64 p4), .v (.int .i64 p5)]), (2, .box [.v (.slice none 0 0)]), (3, .arr 2 (List.map enc_si x9))]⟩) (C := ((([.bs false 2 (List.map enc_si p1)] : List AV) = [.bs false 2 (List.map enc_si p1)]) ∧ True) ∧ True) (by kernel_rfl) ⟨⟨rfl, trivial⟩, trivial⟩ ⟨call_ok (ks := []) (ns := [3]) (bor := []) (bobjs := []) (s_impl_clone_si p1 x9 e13) (.cons (.c1 (.c0 (.same _ (by kernel_rfl) (by kernel_rfl)))) (.nil)) (by kernel_rfl) trivial, trivial⟩ ?_
              refine AX.seq ?_
              obtain ⟨g14, h⟩ := gd_e h
              refine AX.reg (its := [.auto {}, .auto {}, .auto {}, .auto {}, .auto {}, .auto {}, .auto { els := some ([enc_si ((gt x9 x6).1, p5)]) }]) [4, 7] [2, 3] (s1 := ⟨[(4, .pt 2 0), (7, .sl 3 0 x9.length)], [(2, .box [.v (.slice none 0 0)]), (3, .arr 2 ((List.map enc_si x9).set (0 + x6.toNat) (enc_si ((gt x9 x6).1, p5))))]⟩) (C := (0 ≤ x6 ∧ x6 < (x9.length : Int)) ∧ ((((List.map enc_si x9).getD (0 + x6.toNat) []).take 1 ++ [(.int .i64 p5)] ++ ((List.map enc_si x9).getD (0 + x6.toNat) []).drop 2 = enc_si ((gt x9 x6).1, p5))) ∧ True) (by kernel_rfl) ⟨g14, ⟨(congrArg (fun z : List Value => z.take 1 ++ [(.int .i64 p5)] ++ z.drop 2) (idx_arr (enc := enc_si) rfl g14)), trivial⟩⟩ trivial ?_
              refine AX.seq ?_
              obtain ⟨x10, e15, h⟩ := bd_e h
              refine AX.reg (its := [.auto {}, .call 35 [.sl 3 0 x9.length, .v (.bool true)] (handO (rho ([] ++ [4])) [] [] ++ [(3, .arr 2 (List.map enc_si (x9.set (0 + x6.toNat) ((gt x9 x6).1, p5))))]) (callEv [] [4] (.tup [.agg [.sl 0 0 x10.1.length], .v (.bool x10.2)]) [.arr 2 (List.map enc_si x10.1)])]) [4, 5] [2, 4] (s1 := ⟨[(4, .pt 2 0), (5, .v (.bool x10.2))], [(2, .box [.sl 4 0 x10.1.length]), (4, .arr 2 (List.map enc_si x10.1))]⟩) (C := ((([.sl 3 0 x9.length, .v (.bool true)] : List AV) = [.sl 3 0 x9.length, .v (.bool true)]) ∧ (AO.arr 2 ((List.map enc_si x9).set (0 + x6.toNat) (enc_si ((gt x9 x6).1, p5))) = AO.arr 2 (List.map enc_si (x9.set (0 + x6.toNat) ((gt x9 x6).1, p5)))) ∧ True) ∧ True) (by kernel_rfl) ⟨⟨rfl, arr_eq (set_can (enc := enc_si) rfl (0 + x6.toNat) ((gt x9 x6).1, p5)), trivial⟩, trivial⟩ ⟨call_ok (ks := []) (ns := [4]) (bor := [3]) (bobjs := [(3, .arr 2 (List.map enc_si (x9.set (0 + x6.toNat) ((gt x9 x6).1, p5))))]) (s_impl_enumOf (x9.set (0 + x6.toNat) ((gt x9 x6).1, p5)) true x10 e15) (.cons (.c1 (.c0 (.arr rfl rfl ((set_len ((rfl : x9.length = x9.length)) (0 + x6.toNat) ((gt x9 x6).1, p5)).trans (List.length_map ..).symm)))) (.cons (.c1 (.c0 (.same _ (by kernel_rfl) (by kernel_rfl)))) (.nil))) (by kernel_rfl) trivial, trivial⟩ ?_
              refine AX.ret ?_
              refine fin_wk (Wk.swap 0 2 (Nat.le_of_ble_eq_true (by kernel_rfl)) (Nat.le_of_ble_eq_true (by kernel_rfl)) rfl) ?_
              refine fin_wk (Wk.swap 1 4 (Nat.le_of_ble_eq_true (by kernel_rfl)) (Nat.le_of_ble_eq_true (by kernel_rfl)) rfl) ?_
              refine fin_wk (Wk.forget [4, 5] [0, 1] (s' := ⟨[(4, .pt 0 0), (5, .v (.bool x10.2))], [(0, .box [.sl 1 0 x10.1.length]), (1, .arr 2 (List.map enc_si x10.1))]⟩) (by kernel_rfl)) ?_
              have hr := Option.some.inj h
              subst hr
              exact ⟨_, Wk.refl _, .inr rfl, ⟨[1], by kernel_rfl, ⟨rfl, trivial⟩, [.agg [.sl 1 0 x10.1.length], .v (.bool x10.2)], by kernel_rfl, by kernel_rfl⟩⟩
            · replace h := cd_f b12 h
              refine AX.condF (decide (p2 = 2)) (by kernel_rfl) b12 ?_
              refine AX.skip ?_
              refine AX.seq ?_
              refine AX.reg (its := []) [4, 5] [2] (s1 := ⟨[(4, .pt 2 0), (5, .v (.bool false))], [(2, .box [.v (.slice none 0 0)])]⟩) (C := True) (by kernel_rfl) trivial trivial ?_
              refine AX.ret ?_
              refine fin_wk (Wk.matB 2 0 3 2 (cs := [.v (.slice none 0 0)]) (by kernel_rfl) (by kernel_rfl) (Nat.le_of_ble_eq_true (by kernel_rfl)) (by kernel_rfl) (by decide) rfl) ?_
              refine fin_wk (Wk.swap 0 2 (Nat.le_of_ble_eq_true (by kernel_rfl)) (Nat.le_of_ble_eq_true (by kernel_rfl)) rfl) ?_
              refine fin_wk (Wk.swap 1 3 (Nat.le_of_ble_eq_true (by kernel_rfl)) (Nat.le_of_ble_eq_true (by kernel_rfl)) rfl) ?_
              refine fin_wk (Wk.forget [4, 5] [0, 1] (s' := ⟨[(4, .pt 0 0), (5, .v (.bool false))], [(0, .box [.sl 1 0 (([] : List (ByteArray × Int)).length)]), (1, .arr 2 (List.map enc_si ([] : List (ByteArray × Int))))]⟩) (by kernel_rfl)) ?_
              have hr := Option.some.inj h
              subst hr
              exact ⟨_, Wk.refl _, .inr rfl, ⟨[1], by kernel_rfl, ⟨rfl, trivial⟩, [.agg [.sl 1 0 (([] : List (ByteArray × Int)).length)], .v (.bool false)], by kernel_rfl, by kernel_rfl⟩⟩
        · replace h := cd_f b9 h
          refine AX.reg (its := [.auto {}, .auto {}, .auto { y := some (.v (.bool false)) }]) [2, 3, 4, 6, 49] [0, 1, 2] (s1 := ⟨[(2, .pt 0 0), (3, .pt 1 0), (4, .pt 2 0), (6, .v (.int .i64 x6)), (49, .v (.bool false))], [(0, .box [.bs false 2 (List.map enc_si p1)]), (1, .box [.v (.int .i64 p2), .v (.string p3), .v (.int .i64 p4), .v (.int .i64 p5)]), (2, .box [.v (.slice none 0 0)])]⟩) (C := ((True) ∧ ((.v (.bool (decide (p2 = 1))) : AV) = (.v (.bool false) : AV))) ∧ True) (by kernel_rfl) ⟨⟨trivial, (congrArg (fun z => AV.v (.bool z)) b9)⟩, trivial⟩ trivial ?_
          refine AX.cond_false (by kernel_rfl) ?_
          refine AX.seq ?_
          refine AX.reg (its := []) [2, 3, 4, 6, 64] [0, 1, 2] (s1 := ⟨[(2, .pt 0 0), (3, .pt 1 0), (4, .pt 2 0), (6, .v (.int .i64 x6)), (64, .v (.bool (decide (p2 = 2))))], [(0, .box [.bs false 2 (List.map enc_si p1)]), (1, .box [.v (.int .i64 p2), .v (.string p3), .v (.int .i64 p4), .v (.int .i64 p5)]), (2, .box [.v (.slice none 0 0)])]⟩) (C := True) (by kernel_rfl) trivial trivial ?_
          rcases bool_cases (decide (p2 = 2)) with b16 | b16
          · replace h := cd_t b16 h
            refine AX.condT (decide (p2 = 2)) (by kernel_rfl) b16 ?_
            refine AX.seq ?_
            obtain ⟨x11, e17, h⟩ := bd_e h
            refine AX.reg (its := [.auto {}, .auto {}, .call 14 [.bs false 2 (List.map enc_si p1)] (handO (rho ([] ++ [3])) [] [] ++ []) (callEv [] [3] (.sl 0 0 x11.length) [.arr 2 (List.map enc_si x11)])]) [3, 4, 6, 7] [1, 2, 3] (s1 := ⟨[(3, .pt 1 0), (4, .pt 2 0), (6, .v (.int .i64 x6)), (7, .sl 3 0 x11.length)], [(1, .box [.v (.int .i64 p2), .v (.string p3), .v (.int .i64 p4), .v (.int .i64 p5)]), (2, .box [.v (.slice none 0 0)]), (3, .arr 2 (List.map enc_si x11))]⟩) (C := ((([.bs false 2 (List.map enc_si p1)] : List AV) = [.bs false 2 (List.map enc_si p1)]) ∧ True) ∧ True) (by kernel_rfl) ⟨⟨rfl, trivial⟩, trivial⟩ ⟨call_ok (ks := []) (ns := [3]) (bor := []) (bobjs := []) (s_impl_clone_si p1 x11 e17) (.cons (.c1 (.c0 (.same _ (by kernel_rfl) (by kernel_rfl)))) (.nil)) (by kernel_rfl) trivial, trivial⟩ ?_
            refine AX.seq ?_
            obtain ⟨g18, h⟩ := gd_e h
            refine AX.reg (its := [.auto {}, .auto {}, .auto {}, .auto {}, .auto {}, .auto {}, .auto { els := some ([enc_si ((gt x11 x6).1, p5)]) }]) [4, 7] [2, 3] (s1 := ⟨[(4, .pt 2 0), (7, .sl 3 0 x11.length)], [(2, .box [.v (.slice none 0 0)]), (3, .arr 2 ((List.map enc_si x11).set (0 + x6.toNat) (enc_si ((gt x11 x6).1, p5))))]⟩) (C := (0 ≤ x6 ∧ x6 < (x11.length : Int)) ∧ ((((List.map enc_si x11).getD (0 + x6.toNat) []).take 1 ++ [(.int .i64 p5)] ++ ((List.map enc_si x11).getD (0 + x6.toNat) []).drop 2 = enc_si ((gt x11 x6).1, p5))) ∧ True) (by kernel_rfl) ⟨g18, ⟨(congrArg (fun z : List Value => z.take 1 ++ [(.int .i64 p5)] ++ z.drop 2) (idx_arr (enc := enc_si) rfl g18)), trivial⟩⟩ trivial ?_
            refine AX.seq ?_
            obtain ⟨x12, e19, h⟩ := bd_e h
            refine AX.reg (its := [.auto {}, .call 35 [.sl 3 0 x11.length, .v (.bool true)] (handO (rho ([] ++ [4])) [] [] ++ [(3, .arr 2 (List.map enc_si (x11.set (0 + x6.toNat) ((gt x11 x6).1, p5))))]) (callEv [] [4] (.tup [.agg [.sl 0 0 x12.1.length], .v (.bool x12.2)]) [.arr 2 (List.map enc_si x12.1)])]) [4, 5] [2, 4] (s1 := ⟨[(4, .pt 2 0), (5, .v (.bool x12.2))], [(2, .box [.sl 4 0 x12.1.length]), (4, .arr 2 (List.map enc_si x12.1))]⟩) (C := ((([.sl 3 0 x11.length, .v (.bool true)] : List AV) = [.sl 3 0 x11.length, .v (.bool true)]) ∧ (AO.arr 2 ((List.map enc_si x11).set (0 + x6.toNat) (enc_si ((gt x11 x6).1, p5))) = AO.arr 2 (List.map enc_si (x11.set (0 + x6.toNat) ((gt x11 x6).1, p5)))) ∧ True) ∧ True) (by kernel_rfl) ⟨⟨rfl, arr_eq (set_can (enc := enc_si) rfl (0 + x6.toNat) ((gt x11 x6).1, p5)), trivial⟩, trivial⟩ ⟨call_ok (ks := []) (ns := [4]) (bor := [3]) (bobjs := [(3, .arr 2 (List.map enc_si (x11.set (0 + x6.toNat) ((gt x11 x6).1, p5))))]) (s_impl_enumOf (x11.set (0 + x6.toNat) ((gt x11 x6).1, p5)) true x12 e19) (.cons (.c1 (.c0 (.arr rfl rfl ((set_len ((rfl : x11.length = x11.length)) (0 + x6.toNat) ((gt x11 x6).1, p5)).trans (List.length_map ..).symm)))) (.cons (.c1 (.c0 (.same _ (by kernel_rfl) (by kernel_rfl)))) (.nil))) (by kernel_rfl) trivial, trivial⟩ ?_
            refine AX.ret ?_
            refine fin_wk (Wk.swap 0 2 (Nat.le_of_ble_eq_true (by kernel_rfl)) (Nat.le_of_ble_eq_true (by kernel_rfl)) rfl) ?_
            refine fin_wk (Wk.swap 1 4 (Nat.le_of_ble_eq_true (by kernel_rfl)) (Nat.le_of_ble_eq_true (by kernel_rfl)) rfl) ?_
            refine fin_wk (Wk.forget [4, 5] [0, 1] (s' := ⟨[(4, .pt 0 0), (5, .v (.bool x12.2))], [(0, .box [.sl 1 0 x12.1.length]), (1, .arr 2 (List.map enc_si x12.1))]⟩) (by kernel_rfl)) ?_
            have hr := Option.some.inj h
            subst hr
            exact ⟨_, Wk.refl _, .inr rfl, ⟨[1], by kernel_rfl, ⟨rfl, trivial⟩, [.agg [.sl 1 0 x12.1.length], .v (.bool x12.2)], by kernel_rfl, by kernel_rfl⟩⟩
          · replace h := cd_f b16 h
            refine AX.condF (decide (p2 = 2)) (by kernel_rfl) b16 ?_
            refine AX.skip ?_
            refine AX.seq ?_
            refine AX.reg (its := []) [4, 5] [2] (s1 := ⟨[(4, .pt 2 0), (5, .v (.bool false))], [(2, .box [.v (.slice none 0 0)])]⟩) (C := True) (by kernel_rfl) trivial trivial ?_
            refine AX.ret ?_
            refine fin_wk (Wk.matB 2 0 3 2 (cs := [.v (.slice none 0 0)]) (by kernel_rfl) (by kernel_rfl) (Nat.le_of_ble_eq_true (by kernel_rfl)) (by kernel_rfl) (by decide) rfl) ?_
            refine fin_wk (Wk.swap 0 2 (Nat.le_of_ble_eq_true (by kernel_rfl)) (Nat.le_of_ble_eq_true (by kernel_rfl)) rfl) ?_
            refine fin_wk (Wk.swap 1 3 (Nat.le_of_ble_eq_true (by kernel_rfl)) (Nat.le_of_ble_eq_true (by kernel_rfl)) rfl) ?_
            refine fin_wk (Wk.forget [4, 5] [0, 1] (s' := ⟨[(4, .pt 0 0), (5, .v (.bool false))], [(0, .box [.sl 1 0 (([] : List (ByteArray × Int)).length)]), (1, .arr 2 (List.map enc_si ([] : List (ByteArray × Int))))]⟩) (by kernel_rfl)) ?_
            have hr := Option.some.inj h
            subst hr
            exact ⟨_, Wk.refl _, .inr rfl, ⟨[1], by kernel_rfl, ⟨rfl, trivial⟩, [.agg [.sl 1 0 (([] : List (ByteArray × Int)).length)], .v (.bool false)], by kernel_rfl, by kernel_rfl⟩⟩

theorem s_impl_ApplyChanges_L1 (p2 : List (Int × ByteArray × Int × Int)) (n : Nat) (g : (List (ByteArray × Int)) × Int) (out : Unit ⊕ List (ByteArray × Int)) (h : m_impl_ApplyChanges_L1 p2 n g.1 g.2 = some out) :
    AX Try.prog 42 0 (codeAt [1, 1, 1, 0, 1, 1] (bodyOf Try.f5)) ((fun g : (List (ByteArray × Int)) × Int => (⟨[(4, .pt 0 0), (6, .pt 1 0), (24, .bs false 4 (List.map enc_isii p2)), (25, .v (.int .i64 (p2.length : Int))), (26, .v (.int .i64 g.2))], [(0, .box [.v (.slice none 0 0)]), (1, .box [.sl 2 0 g.1.length]), (2, .arr 2 (List.map enc_si g.1))]⟩ : S)) g) (fun ex s => (∃ o : Unit, out = Sum.inl o ∧ ex = .ret ∧ s = ⟨[(4, .pt 0 0), (5, .v (.bool false))], [(0, .box [.v (.slice none 0 0)])]⟩) ∨ (∃ o : List (ByteArray × Int), out = Sum.inr o ∧ ex = .exit 0 ∧ s = ⟨[(4, .pt 0 0), (6, .pt 1 0)], [(0, .box [.v (.slice none 0 0)]), (1, .box [.sl 2 0 o.length]), (2, .arr 2 (List.map enc_si o))]⟩)) := by
  refine AX.wkpost ?_
  refine AX.loop (G := Nat × ((List (ByteArray × Int)) × Int)) (fun q => (fun g : (List (ByteArray × Int)) × Int => (⟨[(4, .pt 0 0), (6, .pt 1 0), (24, .bs false 4 (List.map enc_isii p2)), (25, .v (.int .i64 (p2.length : Int))), (26, .v (.int .i64 g.2))], [(0, .box [.v (.slice none 0 0)]), (1, .box [.sl 2 0 g.1.length]), (2, .arr 2 (List.map enc_si g.1))]⟩ : S)) q.2) (fun q => m_impl_ApplyChanges_L1 p2 q.1 q.2.1 q.2.2 = some out) (fun q => q.1) (n, g) h (Wk.refl _) ?_
  clear h
  rintro ⟨fu, v5, v6⟩ h
  cases fu with
  | zero => cases h
  | succ fu =>
    rw [m_impl_ApplyChanges_L1] at h
    refine AX.seq ?_
    refine AX.reg (its := []) [4, 6, 24, 25, 26, 27] [0, 1, 2] (s1 := ⟨[(4, .pt 0 0), (6, .pt 1 0), (24, .bs false 4 (List.map enc_isii p2)), (25, .v (.int .i64 (p2.length : Int))), (26, .v (.int .i64 v6)), (27, .v (.bool (decide (v6 < (p2.length : Int)))))], [(0, .box [.v (.slice none 0 0)]), (1, .box [.sl 2 0 v5.length]), (2, .arr 2 (List.map enc_si v5))]⟩) (C := True) (by kernel_rfl) trivial trivial ?_
    refine AX.seq ?_
    rcases bool_cases (decide (v6 < (p2.length : Int))) with b5 | b5
    · replace h := cd_t b5 h
      refine AX.condT (decide (v6 < (p2.length : Int))) (by kernel_rfl) b5 ?_
      refine AX.skip ?_
      refine AX.seq ?_
      refine AX.block ?_
      refine AX.seq ?_
      obtain ⟨g6, h⟩ := gd_e h
      refine AX.reg (its := [.auto { y := some (.be 4 (enc_isii (gt p2 v6)) 0) }, .auto {}, .auto { nk := 3 }]) [4, 6, 8, 24, 25, 26] [0, 1, 2, 3] (s1 := ⟨[(4, .pt 0 0), (6, .pt 1 0), (8, .pt 3 0), (24, .bs false 4 (List.map enc_isii p2)), (25, .v (.int .i64 (p2.length : Int))), (26, .v (.int .i64 v6))], [(0, .box [.v (.slice none 0 0)]), (1, .box [.sl 2 0 v5.length]), (2, .arr 2 (List.map enc_si v5)), (3, .box [.v (.int .i64 ((gt p2 v6).1)), .v (.string ((gt p2 v6).2.1)), .v (.int .i64 ((gt p2 v6).2.2.1)), .v (.int .i64 ((gt p2 v6).2.2.2))])]⟩) (C := ((0 ≤ v6 ∧ v6 < ((List.map enc_isii p2).length : Int)) ∧ (AV.be 4 ((List.map enc_isii p2).getD v6.toNat []) 0 = AV.be 4 (enc_isii (gt p2 v6)) 0)) ∧ True) (by kernel_rfl) ⟨idx_bs enc_isii p2 v6 4 g6, trivial⟩ trivial ?_
      refine AX.seq ?_
      obtain ⟨x7, e7, h⟩ := bd_e h
      refine AX.reg (its := [.auto {}, .auto {}, .call 15 [.agg [.sl 2 0 v5.length], .agg [.v (.int .i64 ((gt p2 v6).1)), .v (.string ((gt p2 v6).2.1)), .v (.int .i64 ((gt p2 v6).2.2.1)), .v (.int .i64 ((gt p2 v6).2.2.2))]] (handO (rho ([] ++ [4])) [] [] ++ [(2, .arr 2 (List.map enc_si v5))]) (callEv [] [4] (.tup [.agg [.sl 0 0 x7.1.length], .v (.bool x7.2)]) [.arr 2 (List.map enc_si x7.1)]), .auto {}, .auto {}, .auto {}, .auto { nk := 5 }]) [4, 6, 9, 10, 24, 25, 26] [0, 1, 2, 4, 5] (s1 := ⟨[(4, .pt 0 0), (6, .pt 1 0), (9, .pt 5 0), (10, .v (.bool x7.2)), (24, .bs false 4 (List.map enc_isii p2)), (25, .v (.int .i64 (p2.length : Int))), (26, .v (.int .i64 v6))], [(0, .box [.v (.slice none 0 0)]), (1, .box [.sl 2 0 v5.length]), (2, .arr 2 (List.map enc_si v5)), (4, .arr 2 (List.map enc_si x7.1)), (5, .box [.sl 4 0 x7.1.length])]⟩) (C := ((([.agg [.sl 2 0 v5.length], .agg [.v (.int .i64 ((gt p2 v6).1)), .v (.string ((gt p2 v6).2.1)), .v (.int .i64 ((gt p2 v6).2.2.1)), .v (.int .i64 ((gt p2 v6).2.2.2))]] : List AV) = [.agg [.sl 2 0 v5.length], .agg [.v (.int .i64 ((gt p2 v6).1)), .v (.string ((gt p2 v6).2.1)), .v (.int .i64 ((gt p2 v6).2.2.1)), .v (.int .i64 ((gt p2 v6).2.2.2))]]) ∧ (AO.arr 2 (List.map enc_si v5) = AO.arr 2 (List.map enc_si v5)) ∧ True) ∧ True) (by kernel_rfl) ⟨⟨rfl, rfl, trivial⟩, trivial⟩ ⟨call_ok (ks := []) (ns := [4]) (bor := [2]) (bobjs := [(2, .arr 2 (List.map enc_si v5))]) (s_impl_Enum_apply v5 ((gt p2 v6).1) ((gt p2 v6).2.1) ((gt p2 v6).2.2.1) ((gt p2 v6).2.2.2) x7 e7) (.cons (.c1 (.agg (.cons (.arr rfl rfl ((rfl).trans (List.length_map ..).symm)) (.nil)))) (.cons (.c1 (.agg (.cons (.same _ (by kernel_rfl) (by kernel_rfl)) (.cons (.same _ (by kernel_rfl) (by kernel_rfl)) (.cons (.same _ (by kernel_rfl) (by kernel_rfl)) (.cons (.same _ (by kernel_rfl) (by kernel_rfl)) (.nil))))))) (.nil))) (by kernel_rfl) trivial, trivial⟩ ?_
      refine AX.seq ?_
      refine AX.seq ?_
      refine AX.reg (its := []) [4, 6, 9, 24, 25, 26, 37] [0, 1, 2, 4, 5] (s1 := ⟨[(4, .pt 0 0), (6, .pt 1 0), (9, .pt 5 0), (24, .bs false 4 (List.map enc_isii p2)), (25, .v (.int .i64 (p2.length : Int))), (26, .v (.int .i64 v6)), (37, .v (.bool (!x7.2)))], [(0, .box [.v (.slice none 0 0)]), (1, .box [.sl 2 0 v5.length]), (2, .arr 2 (List.map enc_si v5)), (4, .arr 2 (List.map enc_si x7.1)), (5, .box [.sl 4 0 x7.1.length])]⟩) (C := True) (by kernel_rfl) trivial trivial ?_
      rcases bool_cases ((!x7.2)) with b8 | b8
      · replace h := cd_t b8 h
        refine AX.condT ((!x7.2)) (by kernel_rfl) b8 ?_
        refine AX.seq ?_
        refine AX.reg (its := []) [4, 5] [0] (s1 := ⟨[(4, .pt 0 0), (5, .v (.bool false))], [(0, .box [.v (.slice none 0 0)])]⟩) (C := True) (by kernel_rfl) trivial trivial ?_
        refine AX.ret ?_
        refine fin_wk (Wk.forget [4, 5] [0] (s' := ⟨[(4, .pt 0 0), (5, .v (.bool false))], [(0, .box [.v (.slice none 0 0)])]⟩) (by kernel_rfl)) ?_
        have hr := Option.some.inj h
        subst hr
        exact ⟨_, Wk.refl _, .inl ⟨(), rfl, rfl, rfl⟩⟩
      · replace h := cd_f b8 h
        refine AX.condF ((!x7.2)) (by kernel_rfl) b8 ?_
        refine AX.skip ?_
        refine AX.reg (its := []) [4, 6, 24, 25, 26] [0, 1, 4] (s1 := ⟨[(4, .pt 0 0), (6, .pt 1 0), (24, .bs false 4 (List.map enc_isii p2)), (25, .v (.int .i64 (p2.length : Int))), (26, .v (.int .i64 v6))], [(0, .box [.v (.slice none 0 0)]), (1, .box [.sl 4 0 x7.1.length]), (4, .arr 2 (List.map enc_si x7.1))]⟩) (C := True) (by kernel_rfl) trivial trivial ?_
        refine AX.reg (its := [.auto { raw := true }]) [4, 6, 24, 25, 26] [0, 1, 4] (s1 := ⟨[(4, .pt 0 0), (6, .pt 1 0), (24, .bs false 4 (List.map enc_isii p2)), (25, .v (.int .i64 (p2.length : Int))), (26, .v (.int .i64 (IntKind.wrap .i64 (v6 + 1))))], [(0, .box [.v (.slice none 0 0)]), (1, .box [.sl 4 0 x7.1.length]), (4, .arr 2 (List.map enc_si x7.1))]⟩) (C := True) (by kernel_rfl) trivial trivial ?_
        refine ⟨(fu, (x7.1, IntKind.wrap .i64 (v6 + 1))), h, Nat.lt_succ_self _, ?_⟩
        refine Wk.trans (Wk.swap 2 4 (Nat.le_of_ble_eq_true (by kernel_rfl)) (Nat.le_of_ble_eq_true (by kernel_rfl)) rfl) ?_
        refine Wk.trans (Wk.forget [4, 6, 24, 25, 26] [0, 1, 2] (s' := ⟨[(4, .pt 0 0), (6, .pt 1 0), (24, .bs false 4 (List.map enc_isii p2)), (25, .v (.int .i64 (p2.length : Int))), (26, .v (.int .i64 (IntKind.wrap .i64 (v6 + 1))))], [(0, .box [.v (.slice none 0 0)]), (1, .box [.sl 2 0 x7.1.length]), (2, .arr 2 (List.map enc_si x7.1))]⟩) (by kernel_rfl)) ?_
        exact Wk.refl _
    · replace h := cd_f b5 h
      refine AX.condF (decide (v6 < (p2.length : Int))) (by kernel_rfl) b5 ?_
      refine AX.exit ?_
      refine fin_wk (Wk.forget [4, 6] [0, 1, 2] (s' := ⟨[(4, .pt 0 0), (6, .pt 1 0)], [(0, .box [.v (.slice none 0 0)]), (1, .box [.sl 2 0 v5.length]), (2, .arr 2 (List.map enc_si v5))]⟩) (by kernel_rfl)) ?_
      have hr := Option.some.inj h
      subst hr
      exact ⟨_, Wk.refl _, .inr ⟨v5, rfl, rfl, rfl⟩⟩

end Go.Eng
