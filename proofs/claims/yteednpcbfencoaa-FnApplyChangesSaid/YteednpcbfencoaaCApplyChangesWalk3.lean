/- What is proved here: each function keeps to its model, whatever its arguments, wherever the model has an answer. Printed by gen.py. -/
import Derived.Test.YteednpcbfencoaaCApplyChangesWalk2
import Derived.Test.YteednpcbfencoaaProg
import Derived.Test.YteednpcbfencoaaCApplyChangesHand
import Derived.KernelRfl
set_option linter.unusedVariables false
set_option linter.unusedSimpArgs false
set_option linter.unnecessarySimpa false
namespace Go.Eng
open Go Go.Proofs


theorem s_impl_ApplyChanges (p1 : List (ByteArray × Int)) (p2 : List (Int × ByteArray × Int × Int)) (r : (List (ByteArray × Int)) × Bool) (h : m_impl_ApplyChanges p1 p2 = some r) :
    Eng.Spec Try.prog 5 [.agg [.bs false 2 (List.map enc_si p1)], .bs false 4 (List.map enc_isii p2)] [] (.tup [.agg [.sl 0 0 r.1.length], .v (.bool r.2)]) [.arr 2 (List.map enc_si r.1)] := by
  unfold m_impl_ApplyChanges at h
  refine Eng.Spec.body Try.func5 (by kernel_rfl) rfl (by kernel_rfl) ?_
  refine AX.wkpost ?_
  refine AX.seq ?_
  refine AX.reg (its := [.auto { nk := 0 }, .auto { nk := 1 }]) [1, 2, 4] [0, 1] (s1 := ⟨[(1, .bs false 4 (List.map enc_isii p2)), (2, .pt 0 0), (4, .pt 1 0)], [(0, .box [.bs false 2 (List.map enc_si p1)]), (1, .box [.v (.slice none 0 0)])]⟩) (C := True) (by kernel_rfl) trivial trivial ?_
  refine AX.seq ?_
  refine AX.seq ?_
  obtain ⟨x3, e1, h⟩ := bd_e h
  rcases bool_cases ((!x3)) with b2 | b2
  · replace h := cd_t b2 h
    refine AX.reg (its := [.auto {}, .call 9 [.agg [.bs false 2 (List.map enc_si p1)]] (handO (rho ([] ++ [])) [] [] ++ []) (callEv [] [] (.v (.bool x3)) []), .auto { y := some (.v (.bool true)) }]) [1, 2, 4, 18] [0, 1] (s1 := ⟨[(1, .bs false 4 (List.map enc_isii p2)), (2, .pt 0 0), (4, .pt 1 0), (18, .v (.bool true))], [(0, .box [.bs false 2 (List.map enc_si p1)]), (1, .box [.v (.slice none 0 0)])]⟩) (C := ((([.agg [.bs false 2 (List.map enc_si p1)]] : List AV) = [.agg [.bs false 2 (List.map enc_si p1)]]) ∧ True) ∧ ((True) ∧ ((.v (.bool (!x3)) : AV) = (.v (.bool true) : AV))) ∧ True) (by kernel_rfl) ⟨⟨rfl, trivial⟩, ⟨⟨trivial, (congrArg (fun z => AV.v (.bool z)) b2)⟩, trivial⟩⟩ ⟨call_ok (ks := []) (ns := []) (bor := []) (bobjs := []) (s_impl_ValidEnum p1 x3 e1) (.cons (.c1 (.agg (.cons (.same _ (by kernel_rfl) (by kernel_rfl)) (.nil)))) (.nil)) (by kernel_rfl) trivial, trivial⟩ ?_
    refine AX.cond_true (by kernel_rfl) ?_
    refine AX.seq ?_
    refine AX.reg (its := []) [4, 5] [1] (s1 := ⟨[(4, .pt 1 0), (5, .v (.bool false))], [(1, .box [.v (.slice none 0 0)])]⟩) (C := True) (by kernel_rfl) trivial trivial ?_
    refine AX.ret ?_
    refine fin_wk (Wk.matB 1 0 2 2 (cs := [.v (.slice none 0 0)]) (by kernel_rfl) (by kernel_rfl) (Nat.le_of_ble_eq_true (by kernel_rfl)) (by kernel_rfl) (by decide) rfl) ?_
    refine fin_wk (Wk.swap 0 1 (Nat.le_of_ble_eq_true (by kernel_rfl)) (Nat.le_of_ble_eq_true (by kernel_rfl)) rfl) ?_
    refine fin_wk (Wk.swap 1 2 (Nat.le_of_ble_eq_true (by kernel_rfl)) (Nat.le_of_ble_eq_true (by kernel_rfl)) rfl) ?_
    refine fin_wk (Wk.forget [4, 5] [0, 1] (s' := ⟨[(4, .pt 0 0), (5, .v (.bool false))], [(0, .box [.sl 1 0 (([] : List (ByteArray × Int)).length)]), (1, .arr 2 (List.map enc_si ([] : List (ByteArray × Int))))]⟩) (by kernel_rfl)) ?_
    have hr := Option.some.inj h
    subst hr
    exact ⟨_, Wk.refl _, .inr rfl, ⟨[1], by kernel_rfl, ⟨rfl, trivial⟩, [.agg [.sl 1 0 (([] : List (ByteArray × Int)).length)], .v (.bool false)], by kernel_rfl, by kernel_rfl⟩⟩
  · replace h := cd_f b2 h
    refine AX.reg (its := [.auto {}, .call 9 [.agg [.bs false 2 (List.map enc_si p1)]] (handO (rho ([] ++ [])) [] [] ++ []) (callEv [] [] (.v (.bool x3)) []), .auto { y := some (.v (.bool false)) }, .auto {}, .auto {}, .auto { y := some (.v (.int .i64 (p2.length : Int))) }]) [1, 2, 4, 18] [0, 1] (s1 := ⟨[(1, .bs false 4 (List.map enc_isii p2)), (2, .pt 0 0), (4, .pt 1 0), (18, .v (.bool (decide (30 < (p2.length : Int)))))], [(0, .box [.bs false 2 (List.map enc_si p1)]), (1, .box [.v (.slice none 0 0)])]⟩) (C := ((([.agg [.bs false 2 (List.map enc_si p1)]] : List AV) = [.agg [.bs false 2 (List.map enc_si p1)]]) ∧ True) ∧ ((True) ∧ ((.v (.bool (!x3)) : AV) = (.v (.bool false) : AV))) ∧ (True ∧ (AV.v (.int .i64 ((List.map enc_isii p2).length : Int)) = AV.v (.int .i64 (p2.length : Int)))) ∧ True) (by kernel_rfl) ⟨⟨rfl, trivial⟩, ⟨⟨trivial, (congrArg (fun z => AV.v (.bool z)) b2)⟩, ⟨⟨trivial, len_map enc_isii p2⟩, trivial⟩⟩⟩ ⟨call_ok (ks := []) (ns := []) (bor := []) (bobjs := []) (s_impl_ValidEnum p1 x3 e1) (.cons (.c1 (.agg (.cons (.same _ (by kernel_rfl) (by kernel_rfl)) (.nil)))) (.nil)) (by kernel_rfl) trivial, trivial⟩ ?_
    rcases bool_cases (decide (30 < (p2.length : Int))) with b3 | b3
    · replace h := cd_t b3 h
      refine AX.condT (decide (30 < (p2.length : Int))) (by kernel_rfl) b3 ?_
      refine AX.seq ?_
      refine AX.reg (its := []) [4, 5] [1] (s1 := ⟨[(4, .pt 1 0), (5, .v (.bool false))], [(1, .box [.v (.slice none 0 0)])]⟩) (C := True) (by kernel_rfl) trivial trivial ?_
      refine AX.ret ?_
      refine fin_wk (Wk.matB 1 0 2 2 (cs := [.v (.slice none 0 0)]) (by kernel_rfl) (by kernel_rfl) (Nat.le_of_ble_eq_true (by kernel_rfl)) (by kernel_rfl) (by decide) rfl) ?_
      refine fin_wk (Wk.swap 0 1 (Nat.le_of_ble_eq_true (by kernel_rfl)) (Nat.le_of_ble_eq_true (by kernel_rfl)) rfl) ?_
      refine fin_wk (Wk.swap 1 2 (Nat.le_of_ble_eq_true (by kernel_rfl)) (Nat.le_of_ble_eq_true (by kernel_rfl)) rfl) ?_
      refine fin_wk (Wk.forget [4, 5] [0, 1] (s' := ⟨[(4, .pt 0 0), (5, .v (.bool false))], [(0, .box [.sl 1 0 (([] : List (ByteArray × Int)).length)]), (1, .arr 2 (List.map enc_si ([] : List (ByteArray × Int))))]⟩) (by kernel_rfl)) ?_
      have hr := Option.some.inj h
      subst hr
      exact ⟨_, Wk.refl _, .inr rfl, ⟨[1], by kernel_rfl, ⟨rfl, trivial⟩, [.agg [.sl 1 0 (([] : List (ByteArray × Int)).length)], .v (.bool false)], by kernel_rfl, by kernel_rfl⟩⟩
    · replace h := cd_f b3 h
      refine AX.condF (decide (30 < (p2.length : Int))) (by kernel_rfl) b3 ?_
      refine AX.skip ?_
      refine AX.seq ?_
      obtain ⟨x4, e4, h⟩ := bd_e h
      refine AX.reg (its := [.auto {}, .auto {}, .call 14 [.bs false 2 (List.map enc_si p1)] (handO (rho ([] ++ [2])) [] [] ++ []) (callEv [] [2] (.sl 0 0 x4.length) [.arr 2 (List.map enc_si x4)]), .auto {}, .auto { nk := 3 }]) [1, 4, 6] [1, 2, 3] (s1 := ⟨[(1, .bs false 4 (List.map enc_isii p2)), (4, .pt 1 0), (6, .pt 3 0)], [(1, .box [.v (.slice none 0 0)]), (2, .arr 2 (List.map enc_si x4)), (3, .box [.sl 2 0 x4.length])]⟩) (C := ((([.bs false 2 (List.map enc_si p1)] : List AV) = [.bs false 2 (List.map enc_si p1)]) ∧ True) ∧ True) (by kernel_rfl) ⟨⟨rfl, trivial⟩, trivial⟩ ⟨call_ok (ks := []) (ns := [2]) (bor := []) (bobjs := []) (s_impl_clone_si p1 x4 e4) (.cons (.c1 (.c0 (.same _ (by kernel_rfl) (by kernel_rfl)))) (.nil)) (by kernel_rfl) trivial, trivial⟩ ?_
      refine AX.seq ?_
      refine AX.seq ?_
      refine AX.reg (its := [.auto {}, .auto { y := some (.v (.int .i64 (p2.length : Int))) }]) [4, 6, 24, 25, 26] [1, 2, 3] (s1 := ⟨[(4, .pt 1 0), (6, .pt 3 0), (24, .bs false 4 (List.map enc_isii p2)), (25, .v (.int .i64 (p2.length : Int))), (26, .v (.int .i64 0))], [(1, .box [.v (.slice none 0 0)]), (2, .arr 2 (List.map enc_si x4)), (3, .box [.sl 2 0 x4.length])]⟩) (C := (True ∧ (AV.v (.int .i64 ((List.map enc_isii p2).length : Int)) = AV.v (.int .i64 (p2.length : Int)))) ∧ True) (by kernel_rfl) ⟨⟨trivial, len_map enc_isii p2⟩, trivial⟩ trivial ?_
      refine AX.block ?_
      obtain ⟨x8, e9, h⟩ := bd_e h
      refine AX.wk (Wk.swap 0 1 (Nat.le_of_ble_eq_true (by kernel_rfl)) (Nat.le_of_ble_eq_true (by kernel_rfl)) rfl) ?_
      refine AX.wk (Wk.swap 1 3 (Nat.le_of_ble_eq_true (by kernel_rfl)) (Nat.le_of_ble_eq_true (by kernel_rfl)) rfl) ?_
      refine AX.wk (Wk.forget [4, 6, 24, 25, 26] [0, 1, 2] (s' := ⟨[(4, .pt 0 0), (6, .pt 1 0), (24, .bs false 4 (List.map enc_isii p2)), (25, .v (.int .i64 (p2.length : Int))), (26, .v (.int .i64 0))], [(0, .box [.v (.slice none 0 0)]), (1, .box [.sl 2 0 x4.length]), (2, .arr 2 (List.map enc_si x4))]⟩) (by kernel_rfl)) ?_
      refine AX.mono (s_impl_ApplyChanges_L1 p2 FU (x4, 0) x8 e9) ?_
      rintro _ _ (⟨x9, rfl, rfl, rfl⟩ | ⟨x10, rfl, rfl, rfl⟩)
      · replace h := sm_l h
        refine fin_wk (Wk.matB 0 0 1 2 (cs := [.v (.slice none 0 0)]) (by kernel_rfl) (by kernel_rfl) (Nat.le_of_ble_eq_true (by kernel_rfl)) (by kernel_rfl) (by decide) rfl) ?_
        refine fin_wk (Wk.forget [4, 5] [0, 1] (s' := ⟨[(4, .pt 0 0), (5, .v (.bool false))], [(0, .box [.sl 1 0 (([] : List (ByteArray × Int)).length)]), (1, .arr 2 (List.map enc_si ([] : List (ByteArray × Int))))]⟩) (by kernel_rfl)) ?_
        have hr := Option.some.inj h
        subst hr
        exact ⟨_, Wk.refl _, .inr rfl, ⟨[1], by kernel_rfl, ⟨rfl, trivial⟩, [.agg [.sl 1 0 (([] : List (ByteArray × Int)).length)], .v (.bool false)], by kernel_rfl, by kernel_rfl⟩⟩
      · replace h := sm_r h
        refine AX.seq ?_
        refine AX.reg (its := []) [4, 5] [0, 2] (s1 := ⟨[(4, .pt 0 0), (5, .v (.bool true))], [(0, .box [.sl 2 0 x10.length]), (2, .arr 2 (List.map enc_si x10))]⟩) (C := True) (by kernel_rfl) trivial trivial ?_
        refine AX.ret ?_
        refine fin_wk (Wk.swap 1 2 (Nat.le_of_ble_eq_true (by kernel_rfl)) (Nat.le_of_ble_eq_true (by kernel_rfl)) rfl) ?_
        refine fin_wk (Wk.forget [4, 5] [0, 1] (s' := ⟨[(4, .pt 0 0), (5, .v (.bool true))], [(0, .box [.sl 1 0 x10.length]), (1, .arr 2 (List.map enc_si x10))]⟩) (by kernel_rfl)) ?_
        have hr := Option.some.inj h
        subst hr
        exact ⟨_, Wk.refl _, .inr rfl, ⟨[1], by kernel_rfl, ⟨rfl, trivial⟩, [.agg [.sl 1 0 x10.length], .v (.bool true)], by kernel_rfl, by kernel_rfl⟩⟩

theorem s_spec_copyDefs (p1 : List (ByteArray × Int)) (r : Unit) (h : m_spec_copyDefs p1 = some r) :
    Eng.Spec Try.prog 17 [.bs false 2 (List.map enc_si p1)] [] (.sl 0 0 ((([] : List (ByteArray × Int)) ++ p1).length)) [.arr 2 (List.map enc_si (([] : List (ByteArray × Int)) ++ p1))] := by
  unfold m_spec_copyDefs at h
  refine Eng.Spec.body Try.func17 (by kernel_rfl) rfl (by kernel_rfl) ?_
  refine AX.wkpost ?_
  refine AX.seq ?_
  refine AX.reg (its := []) [0] [] (s1 := ⟨[(0, .bs false 2 (List.map enc_si p1))], []⟩) (C := True) (by kernel_rfl) trivial trivial ?_
  refine AX.seq ?_
  obtain ⟨g1, h⟩ := gd_e h
  refine AX.reg (its := [.auto { nk := 0 }, .auto {}, .auto { y := some (.sl 1 0 ((([] : List (ByteArray × Int)) ++ p1).length)), els := some (List.map enc_si ([] : List (ByteArray × Int))), nk := 1 }]) [2] [1] (s1 := ⟨[(2, .sl 1 0 ((([] : List (ByteArray × Int)) ++ p1).length))], [(1, .arr 2 (List.map enc_si ([] : List (ByteArray × Int)) ++ List.map enc_si p1))]⟩) (C := ((((((List.map enc_si ([] : List (ByteArray × Int))).drop 0).take (([] : List (ByteArray × Int)).length) = List.map enc_si ([] : List (ByteArray × Int))) ∧ True) ∧ (List.map enc_si ([] : List (ByteArray × Int))).length + (List.map enc_si p1).length ≤ 1099511627776) ∧ (AV.sl 1 0 (List.map enc_si ([] : List (ByteArray × Int)) ++ List.map enc_si p1).length = AV.sl 1 0 (([] : List (ByteArray × Int)) ++ p1).length)) ∧ True) (by kernel_rfl) ⟨⟨⟨⟨(dt_all (enc := enc_si) rfl rfl), trivial⟩, (by simp only [List.length_map, List.length_nil, List.length_replicate]; simpa using g1)⟩, sl_len (enc := enc_si) (app_can (enc := enc_si) rfl (rfl))⟩, trivial⟩ trivial ?_
  refine AX.ret ?_
  refine fin_wk (Wk.swap 0 1 (Nat.le_of_ble_eq_true (by kernel_rfl)) (Nat.le_of_ble_eq_true (by kernel_rfl)) rfl) ?_
  refine fin_wk (Wk.forget [2] [0] (s' := ⟨[(2, .sl 0 0 ((([] : List (ByteArray × Int)) ++ p1).length))], [(0, .arr 2 (List.map enc_si ([] : List (ByteArray × Int)) ++ List.map enc_si p1))]⟩) (by kernel_rfl)) ?_
  refine fin_wk (Wk.of_eq (congrArg (fun z => (⟨[(2, .sl 0 0 ((([] : List (ByteArray × Int)) ++ p1).length))], [(0, .arr 2 (z))]⟩ : S)) (app_can (enc := enc_si) rfl (rfl) : List.map enc_si ([] : List (ByteArray × Int)) ++ List.map enc_si p1 = List.map enc_si (([] : List (ByteArray × Int)) ++ p1)))) ?_
  have hr := Option.some.inj h
  subst hr
  exact ⟨_, Wk.refl _, .inr rfl, ⟨[0], by kernel_rfl, ⟨rfl, trivial⟩, [.sl 0 0 ((([] : List (ByteArray × Int)) ++ p1).length)], by kernel_rfl, by kernel_rfl⟩⟩

theorem s_spec_dropped (p1 : List (ByteArray × Int)) (p2 : Int) (r : Unit) (h : m_spec_dropped p1 p2 = some r) :
    Eng.Spec Try.prog 38 [.bs false 2 (List.map enc_si p1), .v (.int .i64 p2)] [] (.sl 0 0 (((([] : List (ByteArray × Int)) ++ (sub p1 (0 : Int) p2)) ++ (sub p1 (IntKind.wrap .i64 (p2 + 1)) (p1.length : Int))).length)) [.arr 2 (List.map enc_si ((([] : List (ByteArray × Int)) ++ (sub p1 (0 : Int) p2)) ++ (sub p1 (IntKind.wrap .i64 (p2 + 1)) (p1.length : Int))))] := by
  unfold m_spec_dropped at h
  refine Eng.Spec.body Try.func38 (by kernel_rfl) rfl (by kernel_rfl) ?_
  refine AX.wkpost ?_
  refine AX.seq ?_
  refine AX.reg (its := []) [0, 1] [] (s1 := ⟨[(0, .bs false 2 (List.map enc_si p1)), (1, .v (.int .i64 p2))], []⟩) (C := True) (by kernel_rfl) trivial trivial ?_
  refine AX.seq ?_
  obtain ⟨g1, h⟩ := gd_e h
  obtain ⟨x3, e2, h⟩ := bd_e h
  obtain ⟨g3, h⟩ := gd_e h
  obtain ⟨g4, h⟩ := gd_e h
  refine AX.drw mixed (its := [.auto {}, .auto {}, .auto { y := some (.bs false 2 (List.map enc_si (sub p1 (0 : Int) p2))) }, .call 17 [.bs false 2 (List.map enc_si (sub p1 (0 : Int) p2))] (handO (rho ([] ++ [0])) [] [] ++ []) (callEv [] [0] (.sl 0 0 ((([] : List (ByteArray × Int)) ++ (sub p1 (0 : Int) p2)).length)) [.arr 2 (List.map enc_si (([] : List (ByteArray × Int)) ++ (sub p1 (0 : Int) p2)))]), .auto {}, .auto {}, .auto { raw := true }, .auto { y := some (.bs false 2 (List.map enc_si (sub p1 (IntKind.wrap .i64 (p2 + 1)) (p1.length : Int)))) }, .auto { y := some (.sl 1 0 (((([] : List (ByteArray × Int)) ++ (sub p1 (0 : Int) p2)) ++ (sub p1 (IntKind.wrap .i64 (p2 + 1)) (p1.length : Int))).length)), els := some (List.map enc_si (([] : List (ByteArray × Int)) ++ (sub p1 (0 : Int) p2))), nk := 1 }]) [4] [1] (s1 := ⟨[(4, .sl 1 0 (((([] : List (ByteArray × Int)) ++ (sub p1 (0 : Int) p2)) ++ (sub p1 (IntKind.wrap .i64 (p2 + 1)) (p1.length : Int))).length))], [(1, .arr 2 (List.map enc_si (([] : List (ByteArray × Int)) ++ (sub p1 (0 : Int) p2)) ++ List.map enc_si (sub p1 (IntKind.wrap .i64 (p2 + 1)) (p1.length : Int))))]⟩) (C := ((0 ≤ (0 : Int) ∧ (0 : Int) ≤ p2 ∧ p2 ≤ ((List.map enc_si p1).length : Int) ∧ ((List.map enc_si p1).length : Int) ≤ ((List.map enc_si p1).length : Int)) ∧ (AV.bs false 2 (((List.map enc_si p1).drop (0 : Int).toNat).take (p2.toNat - (0 : Int).toNat)) = (.bs false 2 (List.map enc_si (sub p1 (0 : Int) p2)) : AV))) ∧ ((([.bs false 2 (List.map enc_si (sub p1 (0 : Int) p2))] : List AV) = [.bs false 2 (List.map enc_si (sub p1 (0 : Int) p2))]) ∧ True) ∧ ((0 ≤ (IntKind.wrap .i64 (p2 + 1)) ∧ (IntKind.wrap .i64 (p2 + 1)) ≤ ((List.map enc_si p1).length : Int) ∧ ((List.map enc_si p1).length : Int) ≤ ((List.map enc_si p1).length : Int) ∧ ((List.map enc_si p1).length : Int) ≤ ((List.map enc_si p1).length : Int)) ∧ (AV.bs false 2 (((List.map enc_si p1).drop (IntKind.wrap .i64 (p2 + 1)).toNat).take (((List.map enc_si p1).length : Int).toNat - (IntKind.wrap .i64 (p2 + 1)).toNat)) = (.bs false 2 (List.map enc_si (sub p1 (IntKind.wrap .i64 (p2 + 1)) (p1.length : Int))) : AV))) ∧ ((((((List.map enc_si (([] : List (ByteArray × Int)) ++ (sub p1 (0 : Int) p2))).drop 0).take ((([] : List (ByteArray × Int)) ++ (sub p1 (0 : Int) p2)).length) = List.map enc_si (([] : List (ByteArray × Int)) ++ (sub p1 (0 : Int) p2))) ∧ True) ∧ (List.map enc_si (([] : List (ByteArray × Int)) ++ (sub p1 (0 : Int) p2))).length + (List.map enc_si (sub p1 (IntKind.wrap .i64 (p2 + 1)) (p1.length : Int))).length ≤ 1099511627776) ∧ (AV.sl 1 0 (List.map enc_si (([] : List (ByteArray × Int)) ++ (sub p1 (0 : Int) p2)) ++ List.map enc_si (sub p1 (IntKind.wrap .i64 (p2 + 1)) (p1.length : Int))).length = AV.sl 1 0 ((([] : List (ByteArray × Int)) ++ (sub p1 (0 : Int) p2)) ++ (sub p1 (IntKind.wrap .i64 (p2 + 1)) (p1.length : Int))).length)) ∧ True) (by kernel_rfl) ⟨⟨by first | exact g1 | simpa only [List.length_map] using g1, by first | exact sub_can enc_si p1 (0 : Int) p2 false 2 | (simp only [List.length_map]; exact sub_can enc_si p1 (0 : Int) p2 false 2)⟩, ⟨⟨rfl, trivial⟩, ⟨⟨by first | exact g3 | simpa only [List.length_map] using g3, by first | exact sub_can enc_si p1 (IntKind.wrap .i64 (p2 + 1)) (p1.length : Int) false 2 | (simp only [List.length_map]; exact sub_can enc_si p1 (IntKind.wrap .i64 (p2 + 1)) (p1.length : Int) false 2)⟩, ⟨⟨⟨⟨(dt_all (enc := enc_si) rfl rfl), trivial⟩, (by simp only [List.length_map, List.length_nil, List.length_replicate]; simpa using g4)⟩, sl_len (enc := enc_si) (app_can (enc := enc_si) rfl (rfl))⟩, trivial⟩⟩⟩⟩ ⟨call_ok (ks := []) (ns := [0]) (bor := []) (bobjs := []) (s_spec_copyDefs (sub p1 (0 : Int) p2) x3 e2) (.cons (.c1 (.c0 (.same _ (by kernel_rfl) (by kernel_rfl)))) (.nil)) (by kernel_rfl) trivial, trivial⟩ ?_
  refine AX.ret ?_
  refine fin_wk (Wk.swap 0 1 (Nat.le_of_ble_eq_true (by kernel_rfl)) (Nat.le_of_ble_eq_true (by kernel_rfl)) rfl) ?_
  refine fin_wk (Wk.forget [4] [0] (s' := ⟨[(4, .sl 0 0 (((([] : List (ByteArray × Int)) ++ (sub p1 (0 : Int) p2)) ++ (sub p1 (IntKind.wrap .i64 (p2 + 1)) (p1.length : Int))).length))], [(0, .arr 2 (List.map enc_si (([] : List (ByteArray × Int)) ++ (sub p1 (0 : Int) p2)) ++ List.map enc_si (sub p1 (IntKind.wrap .i64 (p2 + 1)) (p1.length : Int))))]⟩) (by kernel_rfl)) ?_
  refine fin_wk (Wk.of_eq (congrArg (fun z => (⟨[(4, .sl 0 0 (((([] : List (ByteArray × Int)) ++ (sub p1 (0 : Int) p2)) ++ (sub p1 (IntKind.wrap .i64 (p2 + 1)) (p1.length : Int))).length))], [(0, .arr 2 (z))]⟩ : S)) (app_can (enc := enc_si) rfl (rfl) : List.map enc_si (([] : List (ByteArray × Int)) ++ (sub p1 (0 : Int) p2)) ++ List.map enc_si (sub p1 (IntKind.wrap .i64 (p2 + 1)) (p1.length : Int)) = List.map enc_si ((([] : List (ByteArray × Int)) ++ (sub p1 (0 : Int) p2)) ++ (sub p1 (IntKind.wrap .i64 (p2 + 1)) (p1.length : Int)))))) ?_
  have hr := Option.some.inj h
  subst hr
  exact ⟨_, Wk.refl _, .inr rfl, ⟨[0], by kernel_rfl, ⟨rfl, trivial⟩, [.sl 0 0 (((([] : List (ByteArray × Int)) ++ (sub p1 (0 : Int) p2)) ++ (sub p1 (IntKind.wrap .i64 (p2 + 1)) (p1.length : Int))).length)], by kernel_rfl, by kernel_rfl⟩⟩

theorem s_spec_applied (p1 : List (ByteArray × Int)) (p2 : Int) (p3 : ByteArray) (p4 : Int) (p5 : Int) (r : (List (ByteArray × Int)) × Bool) (h : m_spec_applied p1 p2 p3 p4 p5 = some r) :
    Eng.Spec Try.prog 18 [.bs false 2 (List.map enc_si p1), .agg [.v (.int .i64 p2), .v (.string p3), .v (.int .i64 p4), .v (.int .i64 p5)]] [] (.tup [.sl 0 0 r.1.length, .v (.bool r.2)]) [.arr 2 (List.map enc_si r.1)] := by
  unfold m_spec_applied at h
  refine Eng.Spec.body Try.func18 (by kernel_rfl) rfl (by kernel_rfl) ?_
  refine AX.wkpost ?_
  refine AX.seq ?_
  refine AX.reg (its := [.auto { nk := 0 }]) [0, 3] [0] (s1 := ⟨[(0, .bs false 2 (List.map enc_si p1)), (3, .pt 0 0)], [(0, .box [.v (.int .i64 p2), .v (.string p3), .v (.int .i64 p4), .v (.int .i64 p5)])]⟩) (C := True) (by kernel_rfl) trivial trivial ?_
  refine AX.seq ?_
  obtain ⟨x6, e1, h⟩ := bd_e h
  refine AX.reg (its := [.auto {}, .auto {}, .auto {}, .call 37 [.bs false 2 (List.map enc_si p1), .v (.string p3)] (handO (rho ([] ++ [])) [] [] ++ []) (callEv [] [] (.v (.int .i64 x6)) [])]) [0, 3, 6] [0] (s1 := ⟨[(0, .bs false 2 (List.map enc_si p1)), (3, .pt 0 0), (6, .v (.int .i64 x6))], [(0, .box [.v (.int .i64 p2), .v (.string p3), .v (.int .i64 p4), .v (.int .i64 p5)])]⟩) (C := ((([.bs false 2 (List.map enc_si p1), .v (.string p3)] : List AV) = [.bs false 2 (List.map enc_si p1), .v (.string p3)]) ∧ True) ∧ True) (by kernel_rfl) ⟨⟨rfl, trivial⟩, trivial⟩ ⟨call_ok (ks := []) (ns := []) (bor := []) (bobjs := []) (s_spec_indexOf p1 p3 x6 e1) (.cons (.c1 (.c0 (.same _ (by kernel_rfl) (by kernel_rfl)))) (.cons (.c1 (.c0 (.same _ (by kernel_rfl) (by kernel_rfl)))) (.nil))) (by kernel_rfl) trivial, trivial⟩ ?_
  refine AX.seq ?_
  refine AX.seq ?_
  refine AX.reg (its := []) [0, 3, 6, 13] [0] (s1 := ⟨[(0, .bs false 2 (List.map enc_si p1)), (3, .pt 0 0), (6, .v (.int .i64 x6)), (13, .v (.int .i64 p2))], [(0, .box [.v (.int .i64 p2), .v (.string p3), .v (.int .i64 p4), .v (.int .i64 p5)])]⟩) (C := True) (by kernel_rfl) trivial trivial ?_
  refine AX.block ?_
  refine AX.seq ?_
  refine AX.reg (its := []) [0, 3, 6, 13, 14] [0] (s1 := ⟨[(0, .bs false 2 (List.map enc_si p1)), (3, .pt 0 0), (6, .v (.int .i64 x6)), (13, .v (.int .i64 p2)), (14, .v (.bool (decide (p2 = 0))))], [(0, .box [.v (.int .i64 p2), .v (.string p3), .v (.int .i64 p4), .v (.int .i64 p5)])]⟩) (C := True) (by kernel_rfl) trivial trivial ?_
  rcases bool_cases (decide (p2 = 0)) with b2 | b2
  · replace h := cd_t b2 h
    refine AX.condT (decide (p2 = 0)) (by kernel_rfl) b2 ?_
    refine AX.seq ?_
    obtain ⟨x7, e3, h⟩ := bd_e h
    obtain ⟨g4, h⟩ := gd_e h
    rcases bool_cases (decide (x6 < 0)) with b5 | b5
    · replace h := cd_t b5 h
      refine AX.drw mixed (its := [.auto {}, .call 17 [.bs false 2 (List.map enc_si p1)] (handO (rho ([] ++ [1])) [] [] ++ []) (callEv [] [1] (.sl 0 0 ((([] : List (ByteArray × Int)) ++ p1).length)) [.arr 2 (List.map enc_si (([] : List (ByteArray × Int)) ++ p1))]), .auto {}, .auto {}, .auto {}, .auto {}, .auto {}, .auto { nk := 2 }, .auto { y := some (.sl 3 0 (((([] : List (ByteArray × Int)) ++ p1) ++ ([(p3, p5)] : List (ByteArray × Int))).length)), els := some (List.map enc_si (([] : List (ByteArray × Int)) ++ p1)), els2 := some (List.map enc_si ([(p3, p5)] : List (ByteArray × Int))), nk := 3 }, .auto {}, .auto { y := some (.v (.bool true)) }]) [4, 5] [3] (s1 := ⟨[(4, .sl 3 0 (((([] : List (ByteArray × Int)) ++ p1) ++ ([(p3, p5)] : List (ByteArray × Int))).length)), (5, .v (.bool (decide (p4 = 0))))], [(3, .arr 2 (List.map enc_si (([] : List (ByteArray × Int)) ++ p1) ++ List.map enc_si ([(p3, p5)] : List (ByteArray × Int))))]⟩) (C := ((([.bs false 2 (List.map enc_si p1)] : List AV) = [.bs false 2 (List.map enc_si p1)]) ∧ True) ∧ ((((((List.map enc_si (([] : List (ByteArray × Int)) ++ p1)).drop 0).take ((([] : List (ByteArray × Int)) ++ p1).length) = List.map enc_si (([] : List (ByteArray × Int)) ++ p1)) ∧ (((List.map enc_si ([(p3, p5)] : List (ByteArray × Int))).drop 0).take (([(p3, p5)] : List (ByteArray × Int)).length) = List.map enc_si ([(p3, p5)] : List (ByteArray × Int)))) ∧ (List.map enc_si (([] : List (ByteArray × Int)) ++ p1)).length + (List.map enc_si ([(p3, p5)] : List (ByteArray × Int))).length ≤ 1099511627776) ∧ (AV.sl 3 0 (List.map enc_si (([] : List (ByteArray × Int)) ++ p1) ++ List.map enc_si ([(p3, p5)] : List (ByteArray × Int))).length = AV.sl 3 0 ((([] : List (ByteArray × Int)) ++ p1) ++ ([(p3, p5)] : List (ByteArray × Int))).length)) ∧ ((True) ∧ ((.v (.bool (decide (x6 < 0))) : AV) = (.v (.bool true) : AV))) ∧ True) (by kernel_rfl) ⟨⟨rfl, trivial⟩, ⟨⟨⟨⟨(dt_all (enc := enc_si) rfl rfl), (dt_all (enc := enc_si) rfl rfl)⟩, (by simp only [List.length_map, List.length_nil, List.length_replicate]; simpa using g4)⟩, sl_len (enc := enc_si) (app_can (enc := enc_si) rfl (rfl))⟩, ⟨⟨trivial, (congrArg (fun z => AV.v (.bool z)) b5)⟩, trivial⟩⟩⟩ ⟨call_ok (ks := []) (ns := [1]) (bor := []) (bobjs := []) (s_spec_copyDefs p1 x7 e3) (.cons (.c1 (.c0 (.same _ (by kernel_rfl) (by kernel_rfl)))) (.nil)) (by kernel_rfl) trivial, trivial⟩ ?_
      refine AX.ret ?_
      refine fin_wk (Wk.swap 0 3 (Nat.le_of_ble_eq_true (by kernel_rfl)) (Nat.le_of_ble_eq_true (by kernel_rfl)) rfl) ?_
      refine fin_wk (Wk.forget [4, 5] [0] (s' := ⟨[(4, .sl 0 0 (((([] : List (ByteArray × Int)) ++ p1) ++ ([(p3, p5)] : List (ByteArray × Int))).length)), (5, .v (.bool (decide (p4 = 0))))], [(0, .arr 2 (List.map enc_si (([] : List (ByteArray × Int)) ++ p1) ++ List.map enc_si ([(p3, p5)] : List (ByteArray × Int))))]⟩) (by kernel_rfl)) ?_
      refine fin_wk (Wk.of_eq (congrArg (fun z => (⟨[(4, .sl 0 0 (((([] : List (ByteArray × Int)) ++ p1) ++ ([(p3, p5)] : List (ByteArray × Int))).length)), (5, .v (.bool (decide (p4 = 0))))], [(0, .arr 2 (z))]⟩ : S)) (app_can (enc := enc_si) rfl (rfl) : List.map enc_si (([] : List (ByteArray × Int)) ++ p1) ++ List.map enc_si ([(p3, p5)] : List (ByteArray × Int)) = List.map enc_si ((([] : List (ByteArray × Int)) ++ p1) ++ ([(p3, p5)] : List (ByteArray × Int)))))) ?_
      have hr := Option.some.inj h
      subst hr
      exact ⟨_, Wk.refl _, .inr rfl, ⟨[0], by kernel_rfl, ⟨rfl, trivial⟩, [.sl 0 0 (((([] : List (ByteArray × Int)) ++ p1) ++ ([(p3, p5)] : List (ByteArray × Int))).length), .v (.bool (decide (p4 = 0)))], by kernel_rfl, by kernel_rfl⟩⟩
    · replace h := cd_f b5 h
      refine AX.drw mixed (its := [.auto {}, .call 17 [.bs false 2 (List.map enc_si p1)] (handO (rho ([] ++ [1])) [] [] ++ []) (callEv [] [1] (.sl 0 0 ((([] : List (ByteArray × Int)) ++ p1).length)) [.arr 2 (List.map enc_si (([] : List (ByteArray × Int)) ++ p1))]), .auto {}, .auto {}, .auto {}, .auto {}, .auto {}, .auto { nk := 2 }, .auto { y := some (.sl 3 0 (((([] : List (ByteArray × Int)) ++ p1) ++ ([(p3, p5)] : List (ByteArray × Int))).length)), els := some (List.map enc_si (([] : List (ByteArray × Int)) ++ p1)), els2 := some (List.map enc_si ([(p3, p5)] : List (ByteArray × Int))), nk := 3 }, .auto {}, .auto { y := some (.v (.bool false)) }]) [4, 5] [3] (s1 := ⟨[(4, .sl 3 0 (((([] : List (ByteArray × Int)) ++ p1) ++ ([(p3, p5)] : List (ByteArray × Int))).length)), (5, .v (.bool false))], [(3, .arr 2 (List.map enc_si (([] : List (ByteArray × Int)) ++ p1) ++ List.map enc_si ([(p3, p5)] : List (ByteArray × Int))))]⟩) (C := ((([.bs false 2 (List.map enc_si p1)] : List AV) = [.bs false 2 (List.map enc_si p1)]) ∧ True) ∧ ((((((List.map enc_si (([] : List (ByteArray × Int)) ++ p1)).drop 0).take ((([] : List (ByteArray × Int)) ++ p1).length) = List.map enc_si (([] : List (ByteArray × Int)) ++ p1)) ∧ (((List.map enc_si ([(p3, p5)] : List (ByteArray × Int))).drop 0).take (([(p3, p5)] : List (ByteArray × Int)).length) = List.map enc_si ([(p3, p5)] : List (ByteArray × Int)))) ∧ (List.map enc_si (([] : List (ByteArray × Int)) ++ p1)).length + (List.map enc_si ([(p3, p5)] : List (ByteArray × Int))).length ≤ 1099511627776) ∧ (AV.sl 3 0 (List.map enc_si (([] : List (ByteArray × Int)) ++ p1) ++ List.map enc_si ([(p3, p5)] : List (ByteArray × Int))).length = AV.sl 3 0 ((([] : List (ByteArray × Int)) ++ p1) ++ ([(p3, p5)] : List (ByteArray × Int))).length)) ∧ ((True) ∧ ((.v (.bool (decide (x6 < 0))) : AV) = (.v (.bool false) : AV))) ∧ True) (by kernel_rfl) ⟨⟨rfl, trivial⟩, ⟨⟨⟨⟨(dt_all (enc := enc_si) rfl rfl), (dt_all (enc := enc_si) rfl rfl)⟩, (by simp only [List.length_map, List.length_nil, List.length_replicate]; simpa using g4)⟩, sl_len (enc := enc_si) (app_can (enc := enc_si) rfl (rfl))⟩, ⟨⟨trivial, (congrArg (fun z => AV.v (.bool z)) b5)⟩, trivial⟩⟩⟩ ⟨call_ok (ks := []) (ns := [1]) (bor := []) (bobjs := []) (s_spec_copyDefs p1 x7 e3) (.cons (.c1 (.c0 (.same _ (by kernel_rfl) (by kernel_rfl)))) (.nil)) (by kernel_rfl) trivial, trivial⟩ ?_
      refine AX.ret ?_
      refine fin_wk (Wk.swap 0 3 (Nat.le_of_ble_eq_true (by kernel_rfl)) (Nat.le_of_ble_eq_true (by kernel_rfl)) rfl) ?_
      refine fin_wk (Wk.forget [4, 5] [0] (s' := ⟨[(4, .sl 0 0 (((([] : List (ByteArray × Int)) ++ p1) ++ ([(p3, p5)] : List (ByteArray × Int))).length)), (5, .v (.bool false))], [(0, .arr 2 (List.map enc_si (([] : List (ByteArray × Int)) ++ p1) ++ List.map enc_si ([(p3, p5)] : List (ByteArray × Int))))]⟩) (by kernel_rfl)) ?_
      refine fin_wk (Wk.of_eq (congrArg (fun z => (⟨[(4, .sl 0 0 (((([] : List (ByteArray × Int)) ++ p1) ++ ([(p3, p5)] : List (ByteArray × Int))).length)), (5, .v (.bool false))], [(0, .arr 2 (z))]⟩ : S)) (app_can (enc := enc_si) rfl (rfl) : List.map enc_si (([] : List (ByteArray × Int)) ++ p1) ++ List.map enc_si ([(p3, p5)] : List (ByteArray × Int)) = List.map enc_si ((([] : List (ByteArray × Int)) ++ p1) ++ ([(p3, p5)] : List (ByteArray × Int)))))) ?_
      have hr := Option.some.inj h
      subst hr
      exact ⟨_, Wk.refl _, .inr rfl, ⟨[0], by kernel_rfl, ⟨rfl, trivial⟩, [.sl 0 0 (((([] : List (ByteArray × Int)) ++ p1) ++ ([(p3, p5)] : List (ByteArray × Int))).length), .v (.bool false)], by kernel_rfl, by kernel_rfl⟩⟩
  · replace h := cd_f b2 h
    refine AX.condF (decide (p2 = 0)) (by kernel_rfl) b2 ?_
    refine AX.seq ?_
    refine AX.reg (its := []) [0, 3, 6, 13, 32] [0] (s1 := ⟨[(0, .bs false 2 (List.map enc_si p1)), (3, .pt 0 0), (6, .v (.int .i64 x6)), (13, .v (.int .i64 p2)), (32, .v (.bool (decide (p2 = 1))))], [(0, .box [.v (.int .i64 p2), .v (.string p3), .v (.int .i64 p4), .v (.int .i64 p5)])]⟩) (C := True) (by kernel_rfl) trivial trivial ?_
    rcases bool_cases (decide (p2 = 1)) with b6 | b6
    · replace h := cd_t b6 h
      refine AX.condT (decide (p2 = 1)) (by kernel_rfl) b6 ?_
      refine AX.seq ?_
      refine AX.seq ?_
      rcases bool_cases (decide (x6 < 0)) with b7 | b7
      · replace h := cd_t b7 h
        refine AX.drw mixed (its := [.auto {}, .auto { y := some (.v (.bool true)) }]) [0, 6, 50] [] (s1 := ⟨[(0, .bs false 2 (List.map enc_si p1)), (6, .v (.int .i64 x6)), (50, .v (.bool true))], []⟩) (C := ((True) ∧ ((.v (.bool (decide (x6 < 0))) : AV) = (.v (.bool true) : AV))) ∧ True) (by kernel_rfl) ⟨⟨trivial, (congrArg (fun z => AV.v (.bool z)) b7)⟩, trivial⟩ trivial ?_
        refine AX.cond_true (by kernel_rfl) ?_
        refine AX.seq ?_
        refine AX.reg (its := []) [4, 5] [] (s1 := ⟨[(4, .v (.slice none 0 0)), (5, .v (.bool false))], []⟩) (C := True) (by kernel_rfl) trivial trivial ?_
        refine AX.ret ?_
        refine fin_wk (Wk.mat 4 0 2 (by kernel_rfl) (Nat.le_of_ble_eq_true (by kernel_rfl)) (by kernel_rfl) rfl) ?_
        refine fin_wk (Wk.forget [4, 5] [0] (s' := ⟨[(4, .sl 0 0 (([] : List (ByteArray × Int)).length)), (5, .v (.bool false))], [(0, .arr 2 (List.map enc_si ([] : List (ByteArray × Int))))]⟩) (by kernel_rfl)) ?_
        have hr := Option.some.inj h
        subst hr
        exact ⟨_, Wk.refl _, .inr rfl, ⟨[0], by kernel_rfl, ⟨rfl, trivial⟩, [.sl 0 0 (([] : List (ByteArray × Int)).length), .v (.bool false)], by kernel_rfl, by kernel_rfl⟩⟩
      · replace h := cd_f b7 h
        obtain ⟨g8, h⟩ := gd_e h
        rcases bool_cases ((!decide (((gt p1 x6).2) = p4))) with b9 | b9
        · replace h := cd_t b9 h
          refine AX.drw mixed (its := [.auto {}, .auto { y := some (.v (.bool false)) }, .auto {}, .auto {}, .auto {}, .auto { y := some (.be 2 (enc_si (gt p1 x6)) 0) }, .auto {}, .auto {}, .auto {}, .auto {}, .auto { y := some (.v (.bool true)) }]) [0, 6, 50] [] (s1 := ⟨[(0, .bs false 2 (List.map enc_si p1)), (6, .v (.int .i64 x6)), (50, .v (.bool true))], []⟩) (C := ((True) ∧ ((.v (.bool (decide (x6 < 0))) : AV) = (.v (.bool false) : AV))) ∧ ((0 ≤ x6 ∧ x6 < ((List.map enc_si p1).length : Int)) ∧ (AV.be 2 ((List.map enc_si p1).getD x6.toNat []) 0 = AV.be 2 (enc_si (gt p1 x6)) 0)) ∧ ((True) ∧ ((.v (.bool (!decide (((gt p1 x6).2) = p4))) : AV) = (.v (.bool true) : AV))) ∧ True) (by kernel_rfl) ⟨⟨trivial, (congrArg (fun z => AV.v (.bool z)) b7)⟩, ⟨idx_bs enc_si p1 x6 2 g8, ⟨⟨trivial, (congrArg (fun z => AV.v (.bool z)) b9)⟩, trivial⟩⟩⟩ trivial ?_
          refine AX.cond_true (by kernel_rfl) ?_
          refine AX.seq ?_
          refine AX.reg (its := []) [4, 5] [] (s1 := ⟨[(4, .v (.slice none 0 0)), (5, .v (.bool false))], []⟩) (C := True) (by kernel_rfl) trivial trivial ?_
          refine AX.ret ?_
          refine fin_wk (Wk.mat 4 0 2 (by kernel_rfl) (Nat.le_of_ble_eq_true (by kernel_rfl)) (by kernel_rfl) rfl) ?_
          refine fin_wk (Wk.forget [4, 5] [0] (s' := ⟨[(4, .sl 0 0 (([] : List (ByteArray × Int)).length)), (5, .v (.bool false))], [(0, .arr 2 (List.map enc_si ([] : List (ByteArray × Int))))]⟩) (by kernel_rfl)) ?_
          have hr := Option.some.inj h
          subst hr
          exact ⟨_, Wk.refl _, .inr rfl, ⟨[0], by kernel_rfl, ⟨rfl, trivial⟩, [.sl 0 0 (([] : List (ByteArray × Int)).length), .v (.bool false)], by kernel_rfl, by kernel_rfl⟩⟩
        · replace h := cd_f b9 h
          refine AX.drw mixed (its := [.auto {}, .auto { y := some (.v (.bool false)) }, .auto {}, .auto {}, .auto {}, .auto { y := some (.be 2 (enc_si (gt p1 x6)) 0) }, .auto {}, .auto {}, .auto {}, .auto {}, .auto { y := some (.v (.bool false)) }]) [0, 6, 50] [] (s1 := ⟨[(0, .bs false 2 (List.map enc_si p1)), (6, .v (.int .i64 x6)), (50, .v (.bool (!decide (p5 = 0))))], []⟩) (C := ((True) ∧ ((.v (.bool (decide (x6 < 0))) : AV) = (.v (.bool false) : AV))) ∧ ((0 ≤ x6 ∧ x6 < ((List.map enc_si p1).length : Int)) ∧ (AV.be 2 ((List.map enc_si p1).getD x6.toNat []) 0 = AV.be 2 (enc_si (gt p1 x6)) 0)) ∧ ((True) ∧ ((.v (.bool (!decide (((gt p1 x6).2) = p4))) : AV) = (.v (.bool false) : AV))) ∧ True) (by kernel_rfl) ⟨⟨trivial, (congrArg (fun z => AV.v (.bool z)) b7)⟩, ⟨idx_bs enc_si p1 x6 2 g8, ⟨⟨trivial, (congrArg (fun z => AV.v (.bool z)) b9)⟩, trivial⟩⟩⟩ trivial ?_
          rcases bool_cases ((!decide (p5 = 0))) with b10 | b10
          · replace h := cd_t b10 h
            refine AX.condT ((!decide (p5 = 0))) (by kernel_rfl) b10 ?_
            refine AX.seq ?_
            refine AX.reg (its := []) [4, 5] [] (s1 := ⟨[(4, .v (.slice none 0 0)), (5, .v (.bool false))], []⟩) (C := True) (by kernel_rfl) trivial trivial ?_
            refine AX.ret ?_
            refine fin_wk (Wk.mat 4 0 2 (by kernel_rfl) (Nat.le_of_ble_eq_true (by kernel_rfl)) (by kernel_rfl) rfl) ?_
            refine fin_wk (Wk.forget [4, 5] [0] (s' := ⟨[(4, .sl 0 0 (([] : List (ByteArray × Int)).length)), (5, .v (.bool false))], [(0, .arr 2 (List.map enc_si ([] : List (ByteArray × Int))))]⟩) (by kernel_rfl)) ?_
            have hr := Option.some.inj h
            subst hr
            exact ⟨_, Wk.refl _, .inr rfl, ⟨[0], by kernel_rfl, ⟨rfl, trivial⟩, [.sl 0 0 (([] : List (ByteArray × Int)).length), .v (.bool false)], by kernel_rfl, by kernel_rfl⟩⟩
          · replace h := cd_f b10 h
            refine AX.condF ((!decide (p5 = 0))) (by kernel_rfl) b10 ?_
            refine AX.skip ?_
            refine AX.seq ?_
            obtain ⟨x8, e11, h⟩ := bd_e h
            refine AX.reg (its := [.auto {}, .auto {}, .call 38 [.bs false 2 (List.map enc_si p1), .v (.int .i64 x6)] (handO (rho ([] ++ [0])) [] [] ++ []) (callEv [] [0] (.sl 0 0 (((([] : List (ByteArray × Int)) ++ (sub p1 (0 : Int) x6)) ++ (sub p1 (IntKind.wrap .i64 (x6 + 1)) (p1.length : Int))).length)) [.arr 2 (List.map enc_si ((([] : List (ByteArray × Int)) ++ (sub p1 (0 : Int) x6)) ++ (sub p1 (IntKind.wrap .i64 (x6 + 1)) (p1.length : Int))))])]) [4, 5] [0] (s1 := ⟨[(4, .sl 0 0 (((([] : List (ByteArray × Int)) ++ (sub p1 (0 : Int) x6)) ++ (sub p1 (IntKind.wrap .i64 (x6 + 1)) (p1.length : Int))).length)), (5, .v (.bool true))], [(0, .arr 2 (List.map enc_si ((([] : List (ByteArray × Int)) ++ (sub p1 (0 : Int) x6)) ++ (sub p1 (IntKind.wrap .i64 (x6 + 1)) (p1.length : Int)))))]⟩) (C := ((([.bs false 2 (List.map enc_si p1), .v (.int .i64 x6)] : List AV) = [.bs false 2 (List.map enc_si p1), .v (.int .i64 x6)]) ∧ True) ∧ True) (by kernel_rfl) ⟨⟨rfl, trivial⟩, trivial⟩ ⟨call_ok (ks := []) (ns := [0]) (bor := []) (bobjs := []) (s_spec_dropped p1 x6 x8 e11) (.cons (.c1 (.c0 (.same _ (by kernel_rfl) (by kernel_rfl)))) (.cons (.c1 (.c0 (.same _ (by kernel_rfl) (by kernel_rfl)))) (.nil))) (by kernel_rfl) trivial, trivial⟩ ?_
            refine AX.ret ?_
            refine fin_wk (Wk.forget [4, 5] [0] (s' := ⟨[(4, .sl 0 0 (((([] : List (ByteArray × Int)) ++ (sub p1 (0 : Int) x6)) ++ (sub p1 (IntKind.wrap .i64 (x6 + 1)) (p1.length : Int))).length)), (5, .v (.bool true))], [(0, .arr 2 (List.map enc_si ((([] : List (ByteArray × Int)) ++ (sub p1 (0 : Int) x6)) ++ (sub p1 (IntKind.wrap .i64 (x6 + 1)) (p1.length : Int)))))]⟩) (by kernel_rfl)) ?_
            have hr := Option.some.inj h
            subst hr
            exact ⟨_, Wk.refl _, .inr rfl, ⟨[0], by kernel_rfl, ⟨rfl, trivial⟩, [.sl 0 0 (((([] : List (ByteArray × Int)) ++ (sub p1 (0 : Int) x6)) ++ (sub p1 (IntKind.wrap .i64 (x6 + 1)) (p1.length : Int))).length), .v (.bool true)], by kernel_rfl, by kernel_rfl⟩⟩
    · replace h := cd_f b6 h
      refine AX.condF (decide (p2 = 1)) (by kernel_rfl) b6 ?_
      refine AX.seq ?_
      refine AX.reg (its := []) [0, 3, 6, 54] [0] (s1 := ⟨[(0, .bs false 2 (List.map enc_si p1)), (3, .pt 0 0), (6, .v (.int .i64 x6)), (54, .v (.bool (decide (p2 = 2))))], [(0, .box [.v (.int .i64 p2), .v (.string p3), .v (.int .i64 p4), .v (.int .i64 p5)])]⟩) (C := True) (by kernel_rfl) trivial trivial ?_
      rcases bool_cases (decide (p2 = 2)) with b12 | b12
      · replace h := cd_t b12 h
        refine AX.condT (decide (p2 = 2)) (by kernel_rfl) b12 ?_
        refine AX.seq ?_
        refine AX.seq ?_
        rcases bool_cases (decide (x6 < 0)) with b13 | b13
        · replace h := cd_t b13 h
          refine AX.drw mixed (its := [.auto {}, .auto { y := some (.v (.bool true)) }]) [0, 3, 6, 67] [0] (s1 := ⟨[(0, .bs false 2 (List.map enc_si p1)), (3, .pt 0 0), (6, .v (.int .i64 x6)), (67, .v (.bool true))], [(0, .box [.v (.int .i64 p2), .v (.string p3), .v (.int .i64 p4), .v (.int .i64 p5)])]⟩) (C := ((True) ∧ ((.v (.bool (decide (x6 < 0))) : AV) = (.v (.bool true) : AV))) ∧ True) (by kernel_rfl) ⟨⟨trivial, (congrArg (fun z => AV.v (.bool z)) b13)⟩, trivial⟩ trivial ?_
          refine AX.cond_true (by kernel_rfl) ?_
          refine AX.seq ?_
          refine AX.reg (its := []) [4, 5] [] (s1 := ⟨[(4, .v (.slice none 0 0)), (5, .v (.bool false))], []⟩) (C := True) (by kernel_rfl) trivial trivial ?_
          refine AX.ret ?_
          refine fin_wk (Wk.mat 4 0 2 (by kernel_rfl) (Nat.le_of_ble_eq_true (by kernel_rfl)) (by kernel_rfl) rfl) ?_
          refine fin_wk (Wk.forget [4, 5] [0] (s' := ⟨[(4, .sl 0 0 (([] : List (ByteArray × Int)).length)), (5, .v (.bool false))], [(0, .arr 2 (List.map enc_si ([] : List (ByteArray × Int))))]⟩) (by kernel_rfl)) ?_
          have hr := Option.some.inj h
          subst hr
          exact ⟨_, Wk.refl _, .inr rfl, ⟨[0], by kernel_rfl, ⟨rfl, trivial⟩, [.sl 0 0 (([] : List (ByteArray × Int)).length), .v (.bool false)], by kernel_rfl, by kernel_rfl⟩⟩
        · replace h := cd_f b13 h
          obtain ⟨g14, h⟩ := gd_e h
          refine AX.drw mixed (its := [.auto {}, .auto { y := some (.v (.bool false)) }, .auto {}, .auto {}, .auto {}, .auto { y := some (.be 2 (enc_si (gt p1 x6)) 0) }]) [0, 3, 6, 67] [0] (s1 := ⟨[(0, .bs false 2 (List.map enc_si p1)), (3, .pt 0 0), (6, .v (.int .i64 x6)), (67, .v (.bool (!decide (((gt p1 x6).2) = p4))))], [(0, .box [.v (.int .i64 p2), .v (.string p3), .v (.int .i64 p4), .v (.int .i64 p5)])]⟩) (C := ((True) ∧ ((.v (.bool (decide (x6 < 0))) : AV) = (.v (.bool false) : AV))) ∧ ((0 ≤ x6 ∧ x6 < ((List.map enc_si p1).length : Int)) ∧ (AV.be 2 ((List.map enc_si p1).getD x6.toNat []) 0 = AV.be 2 (enc_si (gt p1 x6)) 0)) ∧ True) (by kernel_rfl) ⟨⟨trivial, (congrArg (fun z => AV.v (.bool z)) b13)⟩, ⟨idx_bs enc_si p1 x6 2 g14, trivial⟩⟩ trivial ?_
          rcases bool_cases ((!decide (((gt p1 x6).2) = p4))) with b15 | b15
          · replace h := cd_t b15 h
            refine AX.condT ((!decide (((gt p1 x6).2) = p4))) (by kernel_rfl) b15 ?_
            refine AX.seq ?_
            refine AX.reg (its := []) [4, 5] [] (s1 := ⟨[(4, .v (.slice none 0 0)), (5, .v (.bool false))], []⟩) (C := True) (by kernel_rfl) trivial trivial ?_
            refine AX.ret ?_
            refine fin_wk (Wk.mat 4 0 2 (by kernel_rfl) (Nat.le_of_ble_eq_true (by kernel_rfl)) (by kernel_rfl) rfl) ?_
            refine fin_wk (Wk.forget [4, 5] [0] (s' := ⟨[(4, .sl 0 0 (([] : List (ByteArray × Int)).length)), (5, .v (.bool false))], [(0, .arr 2 (List.map enc_si ([] : List (ByteArray × Int))))]⟩) (by kernel_rfl)) ?_
            have hr := Option.some.inj h
            subst hr
            exact ⟨_, Wk.refl _, .inr rfl, ⟨[0], by kernel_rfl, ⟨rfl, trivial⟩, [.sl 0 0 (([] : List (ByteArray × Int)).length), .v (.bool false)], by kernel_rfl, by kernel_rfl⟩⟩
          · replace h := cd_f b15 h
            refine AX.condF ((!decide (((gt p1 x6).2) = p4))) (by kernel_rfl) b15 ?_
            refine AX.skip ?_
            refine AX.seq ?_
            obtain ⟨x9, e16, h⟩ := bd_e h
            refine AX.reg (its := [.auto {}, .call 17 [.bs false 2 (List.map enc_si p1)] (handO (rho ([] ++ [1])) [] [] ++ []) (callEv [] [1] (.sl 0 0 ((([] : List (ByteArray × Int)) ++ p1).length)) [.arr 2 (List.map enc_si (([] : List (ByteArray × Int)) ++ p1))])]) [3, 6, 7] [0, 1] (s1 := ⟨[(3, .pt 0 0), (6, .v (.int .i64 x6)), (7, .sl 1 0 ((([] : List (ByteArray × Int)) ++ p1).length))], [(0, .box [.v (.int .i64 p2), .v (.string p3), .v (.int .i64 p4), .v (.int .i64 p5)]), (1, .arr 2 (List.map enc_si (([] : List (ByteArray × Int)) ++ p1)))]⟩) (C := ((([.bs false 2 (List.map enc_si p1)] : List AV) = [.bs false 2 (List.map enc_si p1)]) ∧ True) ∧ True) (by kernel_rfl) ⟨⟨rfl, trivial⟩, trivial⟩ ⟨call_ok (ks := []) (ns := [1]) (bor := []) (bobjs := []) (s_spec_copyDefs p1 x9 e16) (.cons (.c1 (.c0 (.same _ (by kernel_rfl) (by kernel_rfl)))) (.nil)) (by kernel_rfl) trivial, trivial⟩ ?_
            refine AX.seq ?_
            obtain ⟨g17, h⟩ := gd_e h
            refine AX.reg (its := [.auto {}, .auto {}, .auto {}, .auto {}, .auto {}, .auto {}, .auto { els := some ([enc_si ((gt (([] : List (ByteArray × Int)) ++ p1) x6).1, p5)]) }]) [7] [1] (s1 := ⟨[(7, .sl 1 0 ((([] : List (ByteArray × Int)) ++ p1).length))], [(1, .arr 2 ((List.map enc_si (([] : List (ByteArray × Int)) ++ p1)).set (0 + x6.toNat) (enc_si ((gt (([] : List (ByteArray × Int)) ++ p1) x6).1, p5))))]⟩) (C := (0 ≤ x6 ∧ x6 < ((([] : List (ByteArray × Int)) ++ p1).length : Int)) ∧ ((((List.map enc_si (([] : List (ByteArray × Int)) ++ p1)).getD (0 + x6.toNat) []).take 1 ++ [(.int .i64 p5)] ++ ((List.map enc_si (([] : List (ByteArray × Int)) ++ p1)).getD (0 + x6.toNat) []).drop 2 = enc_si ((gt (([] : List (ByteArray × Int)) ++ p1) x6).1, p5))) ∧ True) (by kernel_rfl) ⟨g17, ⟨(congrArg (fun z : List Value => z.take 1 ++ [(.int .i64 p5)] ++ z.drop 2) (idx_arr (enc := enc_si) rfl g17)), trivial⟩⟩ trivial ?_
            refine AX.seq ?_
            refine AX.reg (its := []) [4, 5] [1] (s1 := ⟨[(4, .sl 1 0 ((([] : List (ByteArray × Int)) ++ p1).length)), (5, .v (.bool true))], [(1, .arr 2 ((List.map enc_si (([] : List (ByteArray × Int)) ++ p1)).set (0 + x6.toNat) (enc_si ((gt (([] : List (ByteArray × Int)) ++ p1) x6).1, p5))))]⟩) (C := True) (by kernel_rfl) trivial trivial ?_
            refine AX.ret ?_
            refine fin_wk (Wk.swap 0 1 (Nat.le_of_ble_eq_true (by kernel_rfl)) (Nat.le_of_ble_eq_true (by kernel_rfl)) rfl) ?_
            refine fin_wk (Wk.forget [4, 5] [0] (s' := ⟨[(4, .sl 0 0 ((([] : List (ByteArray × Int)) ++ p1).length)), (5, .v (.bool true))], [(0, .arr 2 ((List.map enc_si (([] : List (ByteArray × Int)) ++ p1)).set (0 + x6.toNat) (enc_si ((gt (([] : List (ByteArray × Int)) ++ p1) x6).1, p5))))]⟩) (by kernel_rfl)) ?_
            refine fin_wk (Wk.of_eq (congrArg (fun z => (⟨[(4, .sl 0 0 ((([] : List (ByteArray × Int)) ++ p1).length)), (5, .v (.bool true))], [(0, .arr 2 (z))]⟩ : S)) (set_can (enc := enc_si) rfl (0 + x6.toNat) ((gt (([] : List (ByteArray × Int)) ++ p1) x6).1, p5)))) ?_
            refine fin_wk (Wk.of_eq (congrArg (fun z => (⟨[(4, .sl 0 0 z), (5, .v (.bool true))], [(0, .arr 2 (List.map enc_si ((([] : List (ByteArray × Int)) ++ p1).set (0 + x6.toNat) ((gt (([] : List (ByteArray × Int)) ++ p1) x6).1, p5))))]⟩ : S)) (set_len ((rfl : (([] : List (ByteArray × Int)) ++ p1).length = (([] : List (ByteArray × Int)) ++ p1).length)) (0 + x6.toNat) ((gt (([] : List (ByteArray × Int)) ++ p1) x6).1, p5)))) ?_
            have hr := Option.some.inj h
            subst hr
            exact ⟨_, Wk.refl _, .inr rfl, ⟨[0], by kernel_rfl, ⟨rfl, trivial⟩, [.sl 0 0 (((([] : List (ByteArray × Int)) ++ p1).set (0 + x6.toNat) ((gt (([] : List (ByteArray × Int)) ++ p1) x6).1, p5)).length), .v (.bool true)], by kernel_rfl, by kernel_rfl⟩⟩
      · replace h := cd_f b12 h
        refine AX.condF (decide (p2 = 2)) (by kernel_rfl) b12 ?_
        refine AX.skip ?_
        refine AX.seq ?_
        refine AX.reg (its := []) [4, 5] [] (s1 := ⟨[(4, .v (.slice none 0 0)), (5, .v (.bool false))], []⟩) (C := True) (by kernel_rfl) trivial trivial ?_
        refine AX.ret ?_
        refine fin_wk (Wk.mat 4 0 2 (by kernel_rfl) (Nat.le_of_ble_eq_true (by kernel_rfl)) (by kernel_rfl) rfl) ?_
        refine fin_wk (Wk.forget [4, 5] [0] (s' := ⟨[(4, .sl 0 0 (([] : List (ByteArray × Int)).length)), (5, .v (.bool false))], [(0, .arr 2 (List.map enc_si ([] : List (ByteArray × Int))))]⟩) (by kernel_rfl)) ?_
        have hr := Option.some.inj h
        subst hr
        exact ⟨_, Wk.refl _, .inr rfl, ⟨[0], by kernel_rfl, ⟨rfl, trivial⟩, [.sl 0 0 (([] : List (ByteArray × Int)).length), .v (.bool false)], by kernel_rfl, by kernel_rfl⟩⟩

theorem s_spec_ApplyChanges_L1 (p2 : List (Int × ByteArray × Int × Int)) (n : Nat) (g : (List (ByteArray × Int)) × Int) (out : Unit ⊕ List (ByteArray × Int)) (h : m_spec_ApplyChanges_L1 p2 n g.1 g.2 = some out) :
    AX Try.prog 49 0 (codeAt [1, 1, 1, 0, 1, 1] (bodyOf Try.f6)) ((fun g : (List (ByteArray × Int)) × Int => (⟨[(1, .bs false 4 (List.map enc_isii p2)), (4, .pt 0 0), (6, .sl 1 0 g.1.length), (7, .v (.int .i64 g.2))], [(0, .box [.v (.slice none 0 0)]), (1, .arr 2 (List.map enc_si g.1))]⟩ : S)) g) (fun ex s => (∃ o : Unit, out = Sum.inl o ∧ ex = .ret ∧ s = ⟨[(4, .pt 0 0), (5, .v (.bool false))], [(0, .box [.v (.slice none 0 0)])]⟩) ∨ (∃ o : List (ByteArray × Int), out = Sum.inr o ∧ ex = .exit 0 ∧ s = ⟨[(4, .pt 0 0), (6, .sl 1 0 o.length)], [(0, .box [.v (.slice none 0 0)]), (1, .arr 2 (List.map enc_si o))]⟩)) := by
  refine AX.wkpost ?_
  refine AX.loop (G := Nat × ((List (ByteArray × Int)) × Int)) (fun q => (fun g : (List (ByteArray × Int)) × Int => (⟨[(1, .bs false 4 (List.map enc_isii p2)), (4, .pt 0 0), (6, .sl 1 0 g.1.length), (7, .v (.int .i64 g.2))], [(0, .box [.v (.slice none 0 0)]), (1, .arr 2 (List.map enc_si g.1))]⟩ : S)) q.2) (fun q => m_spec_ApplyChanges_L1 p2 q.1 q.2.1 q.2.2 = some out) (fun q => q.1) (n, g) h (Wk.refl _) ?_
  clear h
  rintro ⟨fu, v5, v6⟩ h
  cases fu with
  | zero => cases h
  | succ fu =>
    rw [m_spec_ApplyChanges_L1] at h
    refine AX.seq ?_
    refine AX.seq ?_
    refine AX.reg (its := [.auto {}, .auto {}, .auto { y := some (.v (.int .i64 (p2.length : Int))) }]) [1, 4, 6, 7, 25] [0, 1] (s1 := ⟨[(1, .bs false 4 (List.map enc_isii p2)), (4, .pt 0 0), (6, .sl 1 0 v5.length), (7, .v (.int .i64 v6)), (25, .v (.bool (decide (v6 < (p2.length : Int)))))], [(0, .box [.v (.slice none 0 0)]), (1, .arr 2 (List.map enc_si v5))]⟩) (C := (True ∧ (AV.v (.int .i64 ((List.map enc_isii p2).length : Int)) = AV.v (.int .i64 (p2.length : Int)))) ∧ True) (by kernel_rfl) ⟨⟨trivial, len_map enc_isii p2⟩, trivial⟩ trivial ?_
    rcases bool_cases (decide (v6 < (p2.length : Int))) with b5 | b5
    · replace h := cd_t b5 h
      refine AX.condT (decide (v6 < (p2.length : Int))) (by kernel_rfl) b5 ?_
      refine AX.skip ?_
      refine AX.seq ?_
      refine AX.block ?_
      refine AX.seq ?_
      obtain ⟨g6, h⟩ := gd_e h
      obtain ⟨x7, e7, h⟩ := bd_e h
      refine AX.reg (its := [.auto {}, .auto {}, .auto {}, .auto { y := some (.be 4 (enc_isii (gt p2 v6)) 0) }, .auto {}, .call 18 [.sl 1 0 v5.length, .agg [.v (.int .i64 ((gt p2 v6).1)), .v (.string ((gt p2 v6).2.1)), .v (.int .i64 ((gt p2 v6).2.2.1)), .v (.int .i64 ((gt p2 v6).2.2.2))]] (handO (rho ([] ++ [2])) [] [] ++ [(1, .arr 2 (List.map enc_si v5))]) (callEv [] [2] (.tup [.sl 0 0 x7.1.length, .v (.bool x7.2)]) [.arr 2 (List.map enc_si x7.1)])]) [1, 4, 7, 8, 9] [0, 2] (s1 := ⟨[(1, .bs false 4 (List.map enc_isii p2)), (4, .pt 0 0), (7, .v (.int .i64 v6)), (8, .sl 2 0 x7.1.length), (9, .v (.bool x7.2))], [(0, .box [.v (.slice none 0 0)]), (2, .arr 2 (List.map enc_si x7.1))]⟩) (C := ((0 ≤ v6 ∧ v6 < ((List.map enc_isii p2).length : Int)) ∧ (AV.be 4 ((List.map enc_isii p2).getD v6.toNat []) 0 = AV.be 4 (enc_isii (gt p2 v6)) 0)) ∧ ((([.sl 1 0 v5.length, .agg [.v (.int .i64 ((gt p2 v6).1)), .v (.string ((gt p2 v6).2.1)), .v (.int .i64 ((gt p2 v6).2.2.1)), .v (.int .i64 ((gt p2 v6).2.2.2))]] : List AV) = [.sl 1 0 v5.length, .agg [.v (.int .i64 ((gt p2 v6).1)), .v (.string ((gt p2 v6).2.1)), .v (.int .i64 ((gt p2 v6).2.2.1)), .v (.int .i64 ((gt p2 v6).2.2.2))]]) ∧ (AO.arr 2 (List.map enc_si v5) = AO.arr 2 (List.map enc_si v5)) ∧ True) ∧ True) (by kernel_rfl) ⟨idx_bs enc_isii p2 v6 4 g6, ⟨⟨rfl, rfl, trivial⟩, trivial⟩⟩ ⟨call_ok (ks := []) (ns := [2]) (bor := [1]) (bobjs := [(1, .arr 2 (List.map enc_si v5))]) (s_spec_applied v5 ((gt p2 v6).1) ((gt p2 v6).2.1) ((gt p2 v6).2.2.1) ((gt p2 v6).2.2.2) x7 e7) (.cons (.c1 (.c0 (.arr rfl rfl ((rfl).trans (List.length_map ..).symm)))) (.cons (.c1 (.agg (.cons (.same _ (by kernel_rfl) (by kernel_rfl)) (.cons (.same _ (by kernel_rfl) (by kernel_rfl)) (.cons (.same _ (by kernel_rfl) (by kernel_rfl)) (.cons (.same _ (by kernel_rfl) (by kernel_rfl)) (.nil))))))) (.nil))) (by kernel_rfl) trivial, trivial⟩ ?_
      refine AX.seq ?_
      refine AX.seq ?_
      rcases bool_cases ((!x7.2)) with b8 | b8
      · replace h := cd_t b8 h
        refine AX.reg (its := [.auto {}, .auto { y := some (.v (.bool true)) }]) [1, 4, 7, 8, 44] [0, 2] (s1 := ⟨[(1, .bs false 4 (List.map enc_isii p2)), (4, .pt 0 0), (7, .v (.int .i64 v6)), (8, .sl 2 0 x7.1.length), (44, .v (.bool true))], [(0, .box [.v (.slice none 0 0)]), (2, .arr 2 (List.map enc_si x7.1))]⟩) (C := ((True) ∧ ((.v (.bool (!x7.2)) : AV) = (.v (.bool true) : AV))) ∧ True) (by kernel_rfl) ⟨⟨trivial, (congrArg (fun z => AV.v (.bool z)) b8)⟩, trivial⟩ trivial ?_
        refine AX.cond_true (by kernel_rfl) ?_
        refine AX.seq ?_
        refine AX.reg (its := []) [4, 5] [0] (s1 := ⟨[(4, .pt 0 0), (5, .v (.bool false))], [(0, .box [.v (.slice none 0 0)])]⟩) (C := True) (by kernel_rfl) trivial trivial ?_
        refine AX.ret ?_
        refine fin_wk (Wk.forget [4, 5] [0] (s' := ⟨[(4, .pt 0 0), (5, .v (.bool false))], [(0, .box [.v (.slice none 0 0)])]⟩) (by kernel_rfl)) ?_
        have hr := Option.some.inj h
        subst hr
        exact ⟨_, Wk.refl _, .inl ⟨(), rfl, rfl, rfl⟩⟩
      · replace h := cd_f b8 h
        obtain ⟨x8, e9, h⟩ := bd_e h
        refine AX.reg (its := [.auto {}, .auto { y := some (.v (.bool false)) }, .auto {}, .auto {}, .auto {}, .call 16 [.agg [.sl 2 0 x7.1.length]] (handO (rho ([] ++ [])) [] [] ++ [(2, .arr 2 (List.map enc_si x7.1))]) (callEv [] [] (.v (.bool x8)) [])]) [1, 4, 7, 8, 44] [0, 2] (s1 := ⟨[(1, .bs false 4 (List.map enc_isii p2)), (4, .pt 0 0), (7, .v (.int .i64 v6)), (8, .sl 2 0 x7.1.length), (44, .v (.bool (!x8)))], [(0, .box [.v (.slice none 0 0)]), (2, .arr 2 (List.map enc_si x7.1))]⟩) (C := ((True) ∧ ((.v (.bool (!x7.2)) : AV) = (.v (.bool false) : AV))) ∧ ((([.agg [.sl 2 0 x7.1.length]] : List AV) = [.agg [.sl 2 0 x7.1.length]]) ∧ (AO.arr 2 (List.map enc_si x7.1) = AO.arr 2 (List.map enc_si x7.1)) ∧ True) ∧ True) (by kernel_rfl) ⟨⟨trivial, (congrArg (fun z => AV.v (.bool z)) b8)⟩, ⟨⟨rfl, rfl, trivial⟩, trivial⟩⟩ ⟨call_ok (ks := []) (ns := []) (bor := [2]) (bobjs := [(2, .arr 2 (List.map enc_si x7.1))]) (s_spec_validEnum x7.1 x8 e9) (.cons (.c1 (.agg (.cons (.arr rfl rfl ((rfl).trans (List.length_map ..).symm)) (.nil)))) (.nil)) (by kernel_rfl) trivial, trivial⟩ ?_
        rcases bool_cases ((!x8)) with b10 | b10
        · replace h := cd_t b10 h
          refine AX.condT ((!x8)) (by kernel_rfl) b10 ?_
          refine AX.seq ?_
          refine AX.reg (its := []) [4, 5] [0] (s1 := ⟨[(4, .pt 0 0), (5, .v (.bool false))], [(0, .box [.v (.slice none 0 0)])]⟩) (C := True) (by kernel_rfl) trivial trivial ?_
          refine AX.ret ?_
          refine fin_wk (Wk.forget [4, 5] [0] (s' := ⟨[(4, .pt 0 0), (5, .v (.bool false))], [(0, .box [.v (.slice none 0 0)])]⟩) (by kernel_rfl)) ?_
          have hr := Option.some.inj h
          subst hr
          exact ⟨_, Wk.refl _, .inl ⟨(), rfl, rfl, rfl⟩⟩
        · replace h := cd_f b10 h
          refine AX.condF ((!x8)) (by kernel_rfl) b10 ?_
          refine AX.skip ?_
          refine AX.reg (its := []) [1, 4, 6, 7] [0, 2] (s1 := ⟨[(1, .bs false 4 (List.map enc_isii p2)), (4, .pt 0 0), (6, .sl 2 0 x7.1.length), (7, .v (.int .i64 v6))], [(0, .box [.v (.slice none 0 0)]), (2, .arr 2 (List.map enc_si x7.1))]⟩) (C := True) (by kernel_rfl) trivial trivial ?_
          refine AX.reg (its := [.auto {}, .auto { raw := true }]) [1, 4, 6, 7] [0, 2] (s1 := ⟨[(1, .bs false 4 (List.map enc_isii p2)), (4, .pt 0 0), (6, .sl 2 0 x7.1.length), (7, .v (.int .i64 (IntKind.wrap .i64 (v6 + 1))))], [(0, .box [.v (.slice none 0 0)]), (2, .arr 2 (List.map enc_si x7.1))]⟩) (C := True) (by kernel_rfl) trivial trivial ?_
          refine ⟨(fu, (x7.1, IntKind.wrap .i64 (v6 + 1))), h, Nat.lt_succ_self _, ?_⟩
          refine Wk.trans (Wk.swap 1 2 (Nat.le_of_ble_eq_true (by kernel_rfl)) (Nat.le_of_ble_eq_true (by kernel_rfl)) rfl) ?_
          refine Wk.trans (Wk.forget [1, 4, 6, 7] [0, 1] (s' := ⟨[(1, .bs false 4 (List.map enc_isii p2)), (4, .pt 0 0), (6, .sl 1 0 x7.1.length), (7, .v (.int .i64 (IntKind.wrap .i64 (v6 + 1))))], [(0, .box [.v (.slice none 0 0)]), (1, .arr 2 (List.map enc_si x7.1))]⟩) (by kernel_rfl)) ?_
          exact Wk.refl _
    · replace h := cd_f b5 h
      refine AX.condF (decide (v6 < (p2.length : Int))) (by kernel_rfl) b5 ?_
      refine AX.exit ?_
      refine fin_wk (Wk.forget [4, 6] [0, 1] (s' := ⟨[(4, .pt 0 0), (6, .sl 1 0 v5.length)], [(0, .box [.v (.slice none 0 0)]), (1, .arr 2 (List.map enc_si v5))]⟩) (by kernel_rfl)) ?_
      have hr := Option.some.inj h
      subst hr
      exact ⟨_, Wk.refl _, .inr ⟨v5, rfl, rfl, rfl⟩⟩

theorem s_spec_ApplyChanges (p1 : List (ByteArray × Int)) (p2 : List (Int × ByteArray × Int × Int)) (r : (List (ByteArray × Int)) × Bool) (h : m_spec_ApplyChanges p1 p2 = some r) :
    Eng.Spec Try.prog 6 [.agg [.bs false 2 (List.map enc_si p1)], .bs false 4 (List.map enc_isii p2)] [] (.tup [.agg [.sl 0 0 r.1.length], .v (.bool r.2)]) [.arr 2 (List.map enc_si r.1)] := by
  unfold m_spec_ApplyChanges at h
  refine Eng.Spec.body Try.func6 (by kernel_rfl) rfl (by kernel_rfl) ?_
  refine AX.wkpost ?_
  refine AX.seq ?_
  refine AX.reg (its := [.auto { nk := 0 }, .auto { nk := 1 }]) [1, 2, 4] [0, 1] (s1 := ⟨[(1, .bs false 4 (List.map enc_isii p2)), (2, .pt 0 0), (4, .pt 1 0)], [(0, .box [.bs false 2 (List.map enc_si p1)]), (1, .box [.v (.slice none 0 0)])]⟩) (C := True) (by kernel_rfl) trivial trivial ?_
  refine AX.seq ?_
  refine AX.seq ?_
  obtain ⟨x3, e1, h⟩ := bd_e h
  rcases bool_cases ((!x3)) with b2 | b2
  · replace h := cd_t b2 h
    refine AX.reg (its := [.auto {}, .call 16 [.agg [.bs false 2 (List.map enc_si p1)]] (handO (rho ([] ++ [])) [] [] ++ []) (callEv [] [] (.v (.bool x3)) []), .auto { y := some (.v (.bool true)) }]) [1, 2, 4, 17] [0, 1] (s1 := ⟨[(1, .bs false 4 (List.map enc_isii p2)), (2, .pt 0 0), (4, .pt 1 0), (17, .v (.bool true))], [(0, .box [.bs false 2 (List.map enc_si p1)]), (1, .box [.v (.slice none 0 0)])]⟩) (C := ((([.agg [.bs false 2 (List.map enc_si p1)]] : List AV) = [.agg [.bs false 2 (List.map enc_si p1)]]) ∧ True) ∧ ((True) ∧ ((.v (.bool (!x3)) : AV) = (.v (.bool true) : AV))) ∧ True) (by kernel_rfl) ⟨⟨rfl, trivial⟩, ⟨⟨trivial, (congrArg (fun z => AV.v (.bool z)) b2)⟩, trivial⟩⟩ ⟨call_ok (ks := []) (ns := []) (bor := []) (bobjs := []) (s_spec_validEnum p1 x3 e1) (.cons (.c1 (.agg (.cons (.same _ (by kernel_rfl) (by kernel_rfl)) (.nil)))) (.nil)) (by kernel_rfl) trivial, trivial⟩ ?_
    refine AX.cond_true (by kernel_rfl) ?_
    refine AX.seq ?_
    refine AX.reg (its := []) [4, 5] [1] (s1 := ⟨[(4, .pt 1 0), (5, .v (.bool false))], [(1, .box [.v (.slice none 0 0)])]⟩) (C := True) (by kernel_rfl) trivial trivial ?_
    refine AX.ret ?_
    refine fin_wk (Wk.matB 1 0 2 2 (cs := [.v (.slice none 0 0)]) (by kernel_rfl) (by kernel_rfl) (Nat.le_of_ble_eq_true (by kernel_rfl)) (by kernel_rfl) (by decide) rfl) ?_
    refine fin_wk (Wk.swap 0 1 (Nat.le_of_ble_eq_true (by kernel_rfl)) (Nat.le_of_ble_eq_true (by kernel_rfl)) rfl) ?_
    refine fin_wk (Wk.swap 1 2 (Nat.le_of_ble_eq_true (by kernel_rfl)) (Nat.le_of_ble_eq_true (by kernel_rfl)) rfl) ?_
    refine fin_wk (Wk.forget [4, 5] [0, 1] (s' := ⟨[(4, .pt 0 0), (5, .v (.bool false))], [(0, .box [.sl 1 0 (([] : List (ByteArray × Int)).length)]), (1, .arr 2 (List.map enc_si ([] : List (ByteArray × Int))))]⟩) (by kernel_rfl)) ?_
    have hr := Option.some.inj h
    subst hr
    exact ⟨_, Wk.refl _, .inr rfl, ⟨[1], by kernel_rfl, ⟨rfl, trivial⟩, [.agg [.sl 1 0 (([] : List (ByteArray × Int)).length)], .v (.bool false)], by kernel_rfl, by kernel_rfl⟩⟩
  · replace h := cd_f b2 h
    refine AX.reg (its := [.auto {}, .call 16 [.agg [.bs false 2 (List.map enc_si p1)]] (handO (rho ([] ++ [])) [] [] ++ []) (callEv [] [] (.v (.bool x3)) []), .auto { y := some (.v (.bool false)) }, .auto {}, .auto {}, .auto { y := some (.v (.int .i64 (p2.length : Int))) }]) [1, 2, 4, 17] [0, 1] (s1 := ⟨[(1, .bs false 4 (List.map enc_isii p2)), (2, .pt 0 0), (4, .pt 1 0), (17, .v (.bool (decide (30 < (p2.length : Int)))))], [(0, .box [.bs false 2 (List.map enc_si p1)]), (1, .box [.v (.slice none 0 0)])]⟩) (C := ((([.agg [.bs false 2 (List.map enc_si p1)]] : List AV) = [.agg [.bs false 2 (List.map enc_si p1)]]) ∧ True) ∧ ((True) ∧ ((.v (.bool (!x3)) : AV) = (.v (.bool false) : AV))) ∧ (True ∧ (AV.v (.int .i64 ((List.map enc_isii p2).length : Int)) = AV.v (.int .i64 (p2.length : Int)))) ∧ True) (by kernel_rfl) ⟨⟨rfl, trivial⟩, ⟨⟨trivial, (congrArg (fun z => AV.v (.bool z)) b2)⟩, ⟨⟨trivial, len_map enc_isii p2⟩, trivial⟩⟩⟩ ⟨call_ok (ks := []) (ns := []) (bor := []) (bobjs := []) (s_spec_validEnum p1 x3 e1) (.cons (.c1 (.agg (.cons (.same _ (by kernel_rfl) (by kernel_rfl)) (.nil)))) (.nil)) (by kernel_rfl) trivial, trivial⟩ ?_
    rcases bool_cases (decide (30 < (p2.length : Int))) with b3 | b3
    · replace h := cd_t b3 h
      refine AX.condT (decide (30 < (p2.length : Int))) (by kernel_rfl) b3 ?_
      refine AX.seq ?_
      refine AX.reg (its := []) [4, 5] [1] (s1 := ⟨[(4, .pt 1 0), (5, .v (.bool false))], [(1, .box [.v (.slice none 0 0)])]⟩) (C := True) (by kernel_rfl) trivial trivial ?_
      refine AX.ret ?_
      refine fin_wk (Wk.matB 1 0 2 2 (cs := [.v (.slice none 0 0)]) (by kernel_rfl) (by kernel_rfl) (Nat.le_of_ble_eq_true (by kernel_rfl)) (by kernel_rfl) (by decide) rfl) ?_
      refine fin_wk (Wk.swap 0 1 (Nat.le_of_ble_eq_true (by kernel_rfl)) (Nat.le_of_ble_eq_true (by kernel_rfl)) rfl) ?_
      refine fin_wk (Wk.swap 1 2 (Nat.le_of_ble_eq_true (by kernel_rfl)) (Nat.le_of_ble_eq_true (by kernel_rfl)) rfl) ?_
      refine fin_wk (Wk.forget [4, 5] [0, 1] (s' := ⟨[(4, .pt 0 0), (5, .v (.bool false))], [(0, .box [.sl 1 0 (([] : List (ByteArray × Int)).length)]), (1, .arr 2 (List.map enc_si ([] : List (ByteArray × Int))))]⟩) (by kernel_rfl)) ?_
      have hr := Option.some.inj h
      subst hr
      exact ⟨_, Wk.refl _, .inr rfl, ⟨[1], by kernel_rfl, ⟨rfl, trivial⟩, [.agg [.sl 1 0 (([] : List (ByteArray × Int)).length)], .v (.bool false)], by kernel_rfl, by kernel_rfl⟩⟩
    · replace h := cd_f b3 h
      refine AX.condF (decide (30 < (p2.length : Int))) (by kernel_rfl) b3 ?_
      refine AX.skip ?_
      refine AX.seq ?_
      obtain ⟨x4, e4, h⟩ := bd_e h
      refine AX.reg (its := [.auto {}, .auto {}, .call 17 [.bs false 2 (List.map enc_si p1)] (handO (rho ([] ++ [2])) [] [] ++ []) (callEv [] [2] (.sl 0 0 ((([] : List (ByteArray × Int)) ++ p1).length)) [.arr 2 (List.map enc_si (([] : List (ByteArray × Int)) ++ p1))])]) [1, 4, 6] [1, 2] (s1 := ⟨[(1, .bs false 4 (List.map enc_isii p2)), (4, .pt 1 0), (6, .sl 2 0 ((([] : List (ByteArray × Int)) ++ p1).length))], [(1, .box [.v (.slice none 0 0)]), (2, .arr 2 (List.map enc_si (([] : List (ByteArray × Int)) ++ p1)))]⟩) (C := ((([.bs false 2 (List.map enc_si p1)] : List AV) = [.bs false 2 (List.map enc_si p1)]) ∧ True) ∧ True) (by kernel_rfl) ⟨⟨rfl, trivial⟩, trivial⟩ ⟨call_ok (ks := []) (ns := [2]) (bor := []) (bobjs := []) (s_spec_copyDefs p1 x4 e4) (.cons (.c1 (.c0 (.same _ (by kernel_rfl) (by kernel_rfl)))) (.nil)) (by kernel_rfl) trivial, trivial⟩ ?_
      refine AX.seq ?_
      refine AX.seq ?_
      refine AX.reg (its := []) [1, 4, 6, 7] [1, 2] (s1 := ⟨[(1, .bs false 4 (List.map enc_isii p2)), (4, .pt 1 0), (6, .sl 2 0 ((([] : List (ByteArray × Int)) ++ p1).length)), (7, .v (.int .i64 0))], [(1, .box [.v (.slice none 0 0)]), (2, .arr 2 (List.map enc_si (([] : List (ByteArray × Int)) ++ p1)))]⟩) (C := True) (by kernel_rfl) trivial trivial ?_
      refine AX.block ?_
      obtain ⟨x9, e11, h⟩ := bd_e h
      refine AX.wk (Wk.swap 0 1 (Nat.le_of_ble_eq_true (by kernel_rfl)) (Nat.le_of_ble_eq_true (by kernel_rfl)) rfl) ?_
      refine AX.wk (Wk.swap 1 2 (Nat.le_of_ble_eq_true (by kernel_rfl)) (Nat.le_of_ble_eq_true (by kernel_rfl)) rfl) ?_
      refine AX.wk (Wk.forget [1, 4, 6, 7] [0, 1] (s' := ⟨[(1, .bs false 4 (List.map enc_isii p2)), (4, .pt 0 0), (6, .sl 1 0 ((([] : List (ByteArray × Int)) ++ p1).length)), (7, .v (.int .i64 0))], [(0, .box [.v (.slice none 0 0)]), (1, .arr 2 (List.map enc_si (([] : List (ByteArray × Int)) ++ p1)))]⟩) (by kernel_rfl)) ?_
      refine AX.mono (s_spec_ApplyChanges_L1 p2 FU (([] : List (ByteArray × Int)) ++ p1, 0) x9 e11) ?_
      rintro _ _ (⟨x10, rfl, rfl, rfl⟩ | ⟨x11, rfl, rfl, rfl⟩)
      · replace h := sm_l h
        refine fin_wk (Wk.matB 0 0 1 2 (cs := [.v (.slice none 0 0)]) (by kernel_rfl) (by kernel_rfl) (Nat.le_of_ble_eq_true (by kernel_rfl)) (by kernel_rfl) (by decide) rfl) ?_
        refine fin_wk (Wk.forget [4, 5] [0, 1] (s' := ⟨[(4, .pt 0 0), (5, .v (.bool false))], [(0, .box [.sl 1 0 (([] : List (ByteArray × Int)).length)]), (1, .arr 2 (List.map enc_si ([] : List (ByteArray × Int))))]⟩) (by kernel_rfl)) ?_
        have hr := Option.some.inj h
        subst hr
        exact ⟨_, Wk.refl _, .inr rfl, ⟨[1], by kernel_rfl, ⟨rfl, trivial⟩, [.agg [.sl 1 0 (([] : List (ByteArray × Int)).length)], .v (.bool false)], by kernel_rfl, by kernel_rfl⟩⟩
      · replace h := sm_r h
        refine AX.seq ?_
        refine AX.reg (its := []) [4, 5] [0, 1] (s1 := ⟨[(4, .pt 0 0), (5, .v (.bool true))], [(0, .box [.sl 1 0 x11.length]), (1, .arr 2 (List.map enc_si x11))]⟩) (C := True) (by kernel_rfl) trivial trivial ?_
        refine AX.ret ?_
        refine fin_wk (Wk.forget [4, 5] [0, 1] (s' := ⟨[(4, .pt 0 0), (5, .v (.bool true))], [(0, .box [.sl 1 0 x11.length]), (1, .arr 2 (List.map enc_si x11))]⟩) (by kernel_rfl)) ?_
        have hr := Option.some.inj h
        subst hr
        exact ⟨_, Wk.refl _, .inr rfl, ⟨[1], by kernel_rfl, ⟨rfl, trivial⟩, [.agg [.sl 1 0 x11.length], .v (.bool true)], by kernel_rfl, by kernel_rfl⟩⟩

theorem s_laws_equalDefs_L1 (p1 : List (ByteArray × Int)) (p2 : List (ByteArray × Int)) (n : Nat) (g : Int) (out : Unit ⊕ Unit) (h : m_laws_equalDefs_L1 p1 p2 n g = some out) :
    AX Try.prog 26 0 (codeAt [1, 1, 0, 1, 1] (bodyOf Try.f19)) ((fun g : Int => (⟨[(0, .bs false 2 (List.map enc_si p1)), (1, .bs false 2 (List.map enc_si p2)), (5, .v (.int .i64 g))], []⟩ : S)) g) (fun ex s => (∃ o : Unit, out = Sum.inl o ∧ ex = .ret ∧ s = ⟨[(4, .v (.bool false))], []⟩) ∨ (∃ o : Unit, out = Sum.inr o ∧ ex = .exit 0 ∧ s = ⟨[], []⟩)) := by
  refine AX.wkpost ?_
  refine AX.loop (G := Nat × (Int)) (fun q => (fun g : Int => (⟨[(0, .bs false 2 (List.map enc_si p1)), (1, .bs false 2 (List.map enc_si p2)), (5, .v (.int .i64 g))], []⟩ : S)) q.2) (fun q => m_laws_equalDefs_L1 p1 p2 q.1 q.2 = some out) (fun q => q.1) (n, g) h (Wk.refl _) ?_
  clear h
  rintro ⟨fu, v3⟩ h
  cases fu with
  | zero => cases h
  | succ fu =>
    rw [m_laws_equalDefs_L1] at h
    refine AX.seq ?_
    refine AX.seq ?_
    refine AX.reg (its := [.auto {}, .auto {}, .auto { y := some (.v (.int .i64 (p1.length : Int))) }]) [0, 1, 5, 14] [] (s1 := ⟨[(0, .bs false 2 (List.map enc_si p1)), (1, .bs false 2 (List.map enc_si p2)), (5, .v (.int .i64 v3)), (14, .v (.bool (decide (v3 < (p1.length : Int)))))], []⟩) (C := (True ∧ (AV.v (.int .i64 ((List.map enc_si p1).length : Int)) = AV.v (.int .i64 (p1.length : Int)))) ∧ True) (by kernel_rfl) ⟨⟨trivial, len_map enc_si p1⟩, trivial⟩ trivial ?_
    rcases bool_cases (decide (v3 < (p1.length : Int))) with b2 | b2
    · replace h := cd_t b2 h
      refine AX.condT (decide (v3 < (p1.length : Int))) (by kernel_rfl) b2 ?_
      refine AX.skip ?_
      refine AX.seq ?_
      refine AX.block ?_
      refine AX.seq ?_
      obtain ⟨g3, h⟩ := gd_e h
      obtain ⟨g4, h⟩ := gd_e h
      obtain ⟨v4, q5, h⟩ := nm_e h
      refine AX.drw mixed (its := [.auto {}, .auto {}, .auto { y := some (.be 2 (enc_si (gt p1 v3)) 0) }, .auto {}, .auto {}, .auto {}, .auto { y := some (.be 2 (enc_si (gt p2 v3)) 0) }, .auto {}, .auto { y := some (.v (.bool v4)) }]) [0, 1, 5, 25] [] (s1 := ⟨[(0, .bs false 2 (List.map enc_si p1)), (1, .bs false 2 (List.map enc_si p2)), (5, .v (.int .i64 v3)), (25, .v (.bool v4))], []⟩) (C := ((0 ≤ v3 ∧ v3 < ((List.map enc_si p1).length : Int)) ∧ (AV.be 2 ((List.map enc_si p1).getD v3.toNat []) 0 = AV.be 2 (enc_si (gt p1 v3)) 0)) ∧ ((0 ≤ v3 ∧ v3 < ((List.map enc_si p2).length : Int)) ∧ (AV.be 2 ((List.map enc_si p2).getD v3.toNat []) 0 = AV.be 2 (enc_si (gt p2 v3)) 0)) ∧ ((True) ∧ ((.v (.bool (!(decide (((gt p1 v3).1) = ((gt p2 v3).1)) && (decide (((gt p1 v3).2) = ((gt p2 v3).2)) && true)))) : AV) = (.v (.bool v4) : AV))) ∧ True) (by kernel_rfl) ⟨idx_bs enc_si p1 v3 2 g3, ⟨idx_bs enc_si p2 v3 2 g4, ⟨⟨trivial, (congrArg (fun z => AV.v (.bool z)) q5)⟩, trivial⟩⟩⟩ trivial ?_
      rcases bool_cases (v4) with b6 | b6
      · replace h := cd_t b6 h
        refine AX.condT (v4) (by kernel_rfl) b6 ?_
        refine AX.seq ?_
        refine AX.reg (its := []) [4] [] (s1 := ⟨[(4, .v (.bool false))], []⟩) (C := True) (by kernel_rfl) trivial trivial ?_
        refine AX.ret ?_
        refine fin_wk (Wk.forget [4] [] (s' := ⟨[(4, .v (.bool false))], []⟩) (by kernel_rfl)) ?_
        have hr := Option.some.inj h
        subst hr
        exact ⟨_, Wk.refl _, .inl ⟨(), rfl, rfl, rfl⟩⟩
      · replace h := cd_f b6 h
        refine AX.condF (v4) (by kernel_rfl) b6 ?_
        refine AX.skip ?_
        refine AX.reg (its := [.auto {}, .auto { raw := true }]) [0, 1, 5] [] (s1 := ⟨[(0, .bs false 2 (List.map enc_si p1)), (1, .bs false 2 (List.map enc_si p2)), (5, .v (.int .i64 (IntKind.wrap .i64 (v3 + 1))))], []⟩) (C := True) (by kernel_rfl) trivial trivial ?_
        refine ⟨(fu, IntKind.wrap .i64 (v3 + 1)), h, Nat.lt_succ_self _, ?_⟩
        refine Wk.trans (Wk.forget [0, 1, 5] [] (s' := ⟨[(0, .bs false 2 (List.map enc_si p1)), (1, .bs false 2 (List.map enc_si p2)), (5, .v (.int .i64 (IntKind.wrap .i64 (v3 + 1))))], []⟩) (by kernel_rfl)) ?_
        exact Wk.refl _
    · replace h := cd_f b2 h
      refine AX.condF (decide (v3 < (p1.length : Int))) (by kernel_rfl) b2 ?_
      refine AX.exit ?_
      refine fin_wk (Wk.forget [] [] (s' := ⟨[], []⟩) (by kernel_rfl)) ?_
      have hr := Option.some.inj h
      subst hr
      exact ⟨_, Wk.refl _, .inr ⟨(), rfl, rfl, rfl⟩⟩

theorem s_laws_equalDefs (p1 : List (ByteArray × Int)) (p2 : List (ByteArray × Int)) (r : Bool) (h : m_laws_equalDefs p1 p2 = some r) :
    Eng.Spec Try.prog 19 [.bs false 2 (List.map enc_si p1), .bs false 2 (List.map enc_si p2)] [] (.v (.bool r)) [] := by
  unfold m_laws_equalDefs at h
  refine Eng.Spec.body Try.func19 (by kernel_rfl) rfl (by kernel_rfl) ?_
  refine AX.wkpost ?_
  refine AX.seq ?_
  refine AX.reg (its := []) [0, 1] [] (s1 := ⟨[(0, .bs false 2 (List.map enc_si p1)), (1, .bs false 2 (List.map enc_si p2))], []⟩) (C := True) (by kernel_rfl) trivial trivial ?_
  refine AX.seq ?_
  refine AX.seq ?_
  refine AX.reg (its := [.auto {}, .auto { y := some (.v (.int .i64 (p1.length : Int))) }, .auto {}, .auto { y := some (.v (.int .i64 (p2.length : Int))) }]) [0, 1, 10] [] (s1 := ⟨[(0, .bs false 2 (List.map enc_si p1)), (1, .bs false 2 (List.map enc_si p2)), (10, .v (.bool (!decide ((p1.length : Int) = (p2.length : Int)))))], []⟩) (C := (True ∧ (AV.v (.int .i64 ((List.map enc_si p1).length : Int)) = AV.v (.int .i64 (p1.length : Int)))) ∧ (True ∧ (AV.v (.int .i64 ((List.map enc_si p2).length : Int)) = AV.v (.int .i64 (p2.length : Int)))) ∧ True) (by kernel_rfl) ⟨⟨trivial, len_map enc_si p1⟩, ⟨⟨trivial, len_map enc_si p2⟩, trivial⟩⟩ trivial ?_
  rcases bool_cases ((!decide ((p1.length : Int) = (p2.length : Int)))) with b1 | b1
  · replace h := cd_t b1 h
    refine AX.condT ((!decide ((p1.length : Int) = (p2.length : Int)))) (by kernel_rfl) b1 ?_
    refine AX.seq ?_
    refine AX.reg (its := []) [4] [] (s1 := ⟨[(4, .v (.bool false))], []⟩) (C := True) (by kernel_rfl) trivial trivial ?_
    refine AX.ret ?_
    refine fin_wk (Wk.forget [4] [] (s' := ⟨[(4, .v (.bool false))], []⟩) (by kernel_rfl)) ?_
    have hr := Option.some.inj h
    subst hr
    exact ⟨_, Wk.refl _, .inr rfl, ⟨[], by kernel_rfl, trivial, [.v (.bool false)], by kernel_rfl, by kernel_rfl⟩⟩
  · replace h := cd_f b1 h
    refine AX.condF ((!decide ((p1.length : Int) = (p2.length : Int)))) (by kernel_rfl) b1 ?_
    refine AX.skip ?_
    refine AX.seq ?_
    refine AX.seq ?_
    refine AX.reg (its := []) [0, 1, 5] [] (s1 := ⟨[(0, .bs false 2 (List.map enc_si p1)), (1, .bs false 2 (List.map enc_si p2)), (5, .v (.int .i64 0))], []⟩) (C := True) (by kernel_rfl) trivial trivial ?_
    refine AX.block ?_
    obtain ⟨x5, e7, h⟩ := bd_e h
    refine AX.wk (Wk.forget [0, 1, 5] [] (s' := ⟨[(0, .bs false 2 (List.map enc_si p1)), (1, .bs false 2 (List.map enc_si p2)), (5, .v (.int .i64 0))], []⟩) (by kernel_rfl)) ?_
    refine AX.mono (s_laws_equalDefs_L1 p1 p2 FU 0 x5 e7) ?_
    rintro _ _ (⟨x6, rfl, rfl, rfl⟩ | ⟨x7, rfl, rfl, rfl⟩)
    · replace h := sm_l h
      refine fin_wk (Wk.forget [4] [] (s' := ⟨[(4, .v (.bool false))], []⟩) (by kernel_rfl)) ?_
      have hr := Option.some.inj h
      subst hr
      exact ⟨_, Wk.refl _, .inr rfl, ⟨[], by kernel_rfl, trivial, [.v (.bool false)], by kernel_rfl, by kernel_rfl⟩⟩
    · replace h := sm_r h
      refine AX.seq ?_
      refine AX.reg (its := []) [4] [] (s1 := ⟨[(4, .v (.bool true))], []⟩) (C := True) (by kernel_rfl) trivial trivial ?_
      refine AX.ret ?_
      refine fin_wk (Wk.forget [4] [] (s' := ⟨[(4, .v (.bool true))], []⟩) (by kernel_rfl)) ?_
      have hr := Option.some.inj h
      subst hr
      exact ⟨_, Wk.refl _, .inr rfl, ⟨[], by kernel_rfl, trivial, [.v (.bool true)], by kernel_rfl, by kernel_rfl⟩⟩

theorem s_laws_equalEnum (p1 : List (ByteArray × Int)) (p2 : List (ByteArray × Int)) (r : Bool) (h : m_laws_equalEnum p1 p2 = some r) :
    Eng.Spec Try.prog 7 [.agg [.bs false 2 (List.map enc_si p1)], .agg [.bs false 2 (List.map enc_si p2)]] [] (.v (.bool r)) [] := by
  unfold m_laws_equalEnum at h
  refine Eng.Spec.body Try.func7 (by kernel_rfl) rfl (by kernel_rfl) ?_
  refine AX.wkpost ?_
  refine AX.seq ?_
  refine AX.reg (its := [.auto { nk := 0 }, .auto { nk := 1 }]) [2, 3] [0, 1] (s1 := ⟨[(2, .pt 0 0), (3, .pt 1 0)], [(0, .box [.bs false 2 (List.map enc_si p1)]), (1, .box [.bs false 2 (List.map enc_si p2)])]⟩) (C := True) (by kernel_rfl) trivial trivial ?_
  refine AX.seq ?_
  obtain ⟨x3, e1, h⟩ := bd_e h
  refine AX.reg (its := [.auto {}, .auto {}, .auto {}, .auto {}, .call 19 [.bs false 2 (List.map enc_si p1), .bs false 2 (List.map enc_si p2)] (handO (rho ([] ++ [])) [] [] ++ []) (callEv [] [] (.v (.bool x3)) [])]) [4] [] (s1 := ⟨[(4, .v (.bool x3))], []⟩) (C := ((([.bs false 2 (List.map enc_si p1), .bs false 2 (List.map enc_si p2)] : List AV) = [.bs false 2 (List.map enc_si p1), .bs false 2 (List.map enc_si p2)]) ∧ True) ∧ True) (by kernel_rfl) ⟨⟨rfl, trivial⟩, trivial⟩ ⟨call_ok (ks := []) (ns := []) (bor := []) (bobjs := []) (s_laws_equalDefs p1 p2 x3 e1) (.cons (.c1 (.c0 (.same _ (by kernel_rfl) (by kernel_rfl)))) (.cons (.c1 (.c0 (.same _ (by kernel_rfl) (by kernel_rfl)))) (.nil))) (by kernel_rfl) trivial, trivial⟩ ?_
  refine AX.ret ?_
  refine fin_wk (Wk.forget [4] [] (s' := ⟨[(4, .v (.bool x3))], []⟩) (by kernel_rfl)) ?_
  have hr := Option.some.inj h
  subst hr
  exact ⟨_, Wk.refl _, .inr rfl, ⟨[], by kernel_rfl, trivial, [.v (.bool x3)], by kernel_rfl, by kernel_rfl⟩⟩

theorem s_impl_TurnChanges (p1 : List (Int × ByteArray × Int × Int)) (r : List (Int × ByteArray × Int × Int)) (h : m_impl_TurnChanges p1 = some r) :
    Eng.Spec Try.prog 8 [.bs false 4 (List.map enc_isii p1)] [] (.sl 0 0 r.length) [.arr 4 (List.map enc_isii r)] := by
  unfold m_impl_TurnChanges at h
  obtain ⟨g1, h⟩ := gd_e h
  have hr := Option.some.inj h
  subst hr
  have el : (List.map enc_isii (List.map turnChg p1.reverse)).length = p1.length := by simp
  have ef : (List.map enc_isii (List.map turnChg p1.reverse)).flatten = p1.reverse.flatMap fun c => chgL (chgTurn c) := by rw [List.map_map, List.flatMap]; rfl
  have e2 : (List.map turnChg p1.reverse).length = (List.map enc_isii (List.map turnChg p1.reverse)).length := by simp
  rw [e2]
  refine spec_rows (T := 43) ⟨_, Try.func8, by kernel_rfl, by kernel_rfl⟩ (fun e he => by obtain ⟨c, _, rfl⟩ := List.mem_map.1 he; exact ⟨rfl, fun x hx => by simp only [enc_isii, List.mem_cons, List.not_mem_nil, or_false] at hx; rcases hx with rfl | rfl | rfl | rfl <;> rfl⟩) ?_
  intro X m vs hv
  obtain ⟨v, rfl, hvr⟩ : ∃ v, vs = [v] ∧ VR X m (shL []) (.bs false 4 (List.map enc_isii p1)) v := by
    unfold VRs at hv
    obtain ⟨v, t, rfl, h1, h2⟩ := hv
    unfold VRs at h2
    subst h2
    exact ⟨v, rfl, h1⟩
  obtain ⟨a, c, rfl, hI⟩ := bs_changes (xs := p1) hvr
  refine ((callsIn_wide (n := 3)).1 (Try.turn_in Fence.wide 3 trivial trivial trivial trivial rfl (by omega) a c p1 g1 X.w0 hI)).mono ?_
  rintro e w' ⟨va, vc, rfl, ho, hb⟩
  rw [el, ef]
  exact ⟨va, vc, rfl, ho, hb⟩

theorem s_slices_Grow_nisii (p1 : Int) (r : List (Int × ByteArray × Int × Int)) (h : m_slices_Grow_nisii p1 = some r) :
    Eng.Spec Try.prog 49 [.v (.slice none 0 0), .v (.int .i64 p1)] [] (.sl 0 0 r.length) [.arr 4 (List.map enc_isii r)] := by
  unfold m_slices_Grow_nisii at h
  refine Eng.Spec.body Try.func49 (by kernel_rfl) rfl (by kernel_rfl) ?_
  refine AX.wkpost ?_
  refine AX.seq ?_
  refine AX.reg (its := []) [0, 1] [] (s1 := ⟨[(0, .v (.slice none 0 0)), (1, .v (.int .i64 p1))], []⟩) (C := True) (by kernel_rfl) trivial trivial ?_
  refine AX.seq ?_
  refine AX.seq ?_
  refine AX.reg (its := []) [0, 1, 6] [] (s1 := ⟨[(0, .v (.slice none 0 0)), (1, .v (.int .i64 p1)), (6, .v (.bool (decide (p1 < 0))))], []⟩) (C := True) (by kernel_rfl) trivial trivial ?_
  rcases bool_cases (decide (p1 < 0)) with b1 | b1
  · replace h := cd_t b1 h
    refine AX.condT (decide (p1 < 0)) (by kernel_rfl) b1 ?_
    cases h
  · replace h := cd_f b1 h
    refine AX.condF (decide (p1 < 0)) (by kernel_rfl) b1 ?_
    refine AX.skip ?_
    refine AX.seq ?_
    refine AX.seq ?_
    refine AX.reg (its := [.auto {}, .auto {}, .auto {}, .auto {}, .auto {}, .auto { raw := true }, .auto { raw := true }]) [0, 1] [] (s1 := ⟨[(0, .v (.slice none 0 0)), (1, .v (.int .i64 (IntKind.wrap .i64 (p1 - (IntKind.wrap .i64 (0 - 0))))))], []⟩) (C := True) (by kernel_rfl) trivial trivial ?_
    refine AX.seq ?_
    obtain ⟨v2, q2, h⟩ := nm_e h
    refine AX.reg (its := [.auto {}, .auto { y := some (.v (.bool v2)) }]) [0, 1, 16] [] (s1 := ⟨[(0, .v (.slice none 0 0)), (1, .v (.int .i64 (IntKind.wrap .i64 (p1 - (IntKind.wrap .i64 (0 - 0)))))), (16, .v (.bool v2))], []⟩) (C := ((True) ∧ ((.v (.bool (decide (0 < (IntKind.wrap .i64 (p1 - (IntKind.wrap .i64 (0 - 0))))))) : AV) = (.v (.bool v2) : AV))) ∧ True) (by kernel_rfl) ⟨⟨trivial, (congrArg (fun z => AV.v (.bool z)) q2)⟩, trivial⟩ trivial ?_
    rcases bool_cases (v2) with b3 | b3
    · replace h := cd_t b3 h
      refine AX.condT (v2) (by kernel_rfl) b3 ?_
      obtain ⟨g4, h⟩ := gd_e h
      obtain ⟨g5, h⟩ := gd_e h
      obtain ⟨g6, h⟩ := gd_e h
      obtain ⟨g7, h⟩ := gd_e h
      refine AX.reg (its := [.auto {}, .auto {}, .auto {}, .auto {}, .auto {}, .auto { y := some (.sl 0 0 ((List.replicate (IntKind.wrap .i64 (p1 - (IntKind.wrap .i64 (0 - 0)))).toNat ((0, ByteArray.empty, 0, 0) : Int × ByteArray × Int × Int)).length)), nk := 0 }]) [0] [0] (s1 := ⟨[(0, .sl 0 (0 + (0 : Int).toNat) ((0 : Int).toNat - (0 : Int).toNat))], [(0, .arr 4 (([] : List (List Value)) ++ List.replicate (IntKind.wrap .i64 (p1 - (IntKind.wrap .i64 (0 - 0)))).toNat (enc_isii ((0, ByteArray.empty, 0, 0) : Int × ByteArray × Int × Int))))]⟩) (C := ((0 : Int) = 0 ∧ (0 : Int) = 0 ∧ (0 : Int) = 0) ∧ (((True ∧ (0 ≤ (IntKind.wrap .i64 (p1 - (IntKind.wrap .i64 (0 - 0)))) ∧ (IntKind.wrap .i64 (p1 - (IntKind.wrap .i64 (0 - 0)))) ≤ 1099511627776)) ∧ (([] : List (List Value))).length + (List.replicate (IntKind.wrap .i64 (p1 - (IntKind.wrap .i64 (0 - 0)))).toNat (enc_isii ((0, ByteArray.empty, 0, 0) : Int × ByteArray × Int × Int))).length ≤ 1099511627776) ∧ (AV.sl 0 0 (([] : List (List Value)) ++ List.replicate (IntKind.wrap .i64 (p1 - (IntKind.wrap .i64 (0 - 0)))).toNat (enc_isii ((0, ByteArray.empty, 0, 0) : Int × ByteArray × Int × Int))).length = AV.sl 0 0 (List.replicate (IntKind.wrap .i64 (p1 - (IntKind.wrap .i64 (0 - 0)))).toNat ((0, ByteArray.empty, 0, 0) : Int × ByteArray × Int × Int)).length)) ∧ (0 ≤ (0 : Int) ∧ (0 : Int) ≤ (0 : Int) ∧ (0 : Int) ≤ ((List.replicate (IntKind.wrap .i64 (p1 - (IntKind.wrap .i64 (0 - 0)))).toNat ((0, ByteArray.empty, 0, 0) : Int × ByteArray × Int × Int)).length : Int) ∧ ((List.replicate (IntKind.wrap .i64 (p1 - (IntKind.wrap .i64 (0 - 0)))).toNat ((0, ByteArray.empty, 0, 0) : Int × ByteArray × Int × Int)).length : Int) ≤ ((List.replicate (IntKind.wrap .i64 (p1 - (IntKind.wrap .i64 (0 - 0)))).toNat ((0, ByteArray.empty, 0, 0) : Int × ByteArray × Int × Int)).length : Int)) ∧ True) (by kernel_rfl) ⟨g4, ⟨⟨⟨⟨trivial, g5⟩, (by simp only [List.length_map, List.length_nil, List.length_replicate]; simpa using g6)⟩, sl_len (enc := enc_isii) (rep_can (IntKind.wrap .i64 (p1 - (IntKind.wrap .i64 (0 - 0)))).toNat ((0, ByteArray.empty, 0, 0) : Int × ByteArray × Int × Int))⟩, ⟨g7, trivial⟩⟩⟩ trivial ?_
      refine AX.seq ?_
      refine AX.reg (its := []) [4] [0] (s1 := ⟨[(4, .sl 0 (0 + (0 : Int).toNat) ((0 : Int).toNat - (0 : Int).toNat))], [(0, .arr 4 (([] : List (List Value)) ++ List.replicate (IntKind.wrap .i64 (p1 - (IntKind.wrap .i64 (0 - 0)))).toNat (enc_isii ((0, ByteArray.empty, 0, 0) : Int × ByteArray × Int × Int))))]⟩) (C := True) (by kernel_rfl) trivial trivial ?_
      refine AX.ret ?_
      refine fin_wk (Wk.trunc 4 0 1 (lo := 0 + (0 : Int).toNat) (len := (0 : Int).toNat - (0 : Int).toNat) (sz := 4) (es := ([] : List (List Value)) ++ List.replicate (IntKind.wrap .i64 (p1 - (IntKind.wrap .i64 (0 - 0)))).toNat (enc_isii ((0, ByteArray.empty, 0, 0) : Int × ByteArray × Int × Int))) (by kernel_rfl) (by kernel_rfl) (Nat.le_of_ble_eq_true (by kernel_rfl)) (by kernel_rfl) rfl) ?_
      refine fin_wk (Wk.swap 0 1 (Nat.le_of_ble_eq_true (by kernel_rfl)) (Nat.le_of_ble_eq_true (by kernel_rfl)) rfl) ?_
      refine fin_wk (Wk.forget [4] [0] (s' := ⟨[(4, .sl 0 0 ((0 : Int).toNat - (0 : Int).toNat))], [(0, .arr 4 (((([] : List (List Value)) ++ List.replicate (IntKind.wrap .i64 (p1 - (IntKind.wrap .i64 (0 - 0)))).toNat (enc_isii ((0, ByteArray.empty, 0, 0) : Int × ByteArray × Int × Int))).drop (0 + (0 : Int).toNat)).take ((0 : Int).toNat - (0 : Int).toNat)))]⟩) (by kernel_rfl)) ?_
      refine fin_wk (Wk.of_eq (congrArg (fun z => (⟨[(4, .sl 0 0 ((0 : Int).toNat - (0 : Int).toNat))], [(0, .arr 4 (z))]⟩ : S)) (part_can (enc := enc_isii) (rep_can (IntKind.wrap .i64 (p1 - (IntKind.wrap .i64 (0 - 0)))).toNat ((0, ByteArray.empty, 0, 0) : Int × ByteArray × Int × Int) : ([] : List (List Value)) ++ List.replicate (IntKind.wrap .i64 (p1 - (IntKind.wrap .i64 (0 - 0)))).toNat (enc_isii ((0, ByteArray.empty, 0, 0) : Int × ByteArray × Int × Int)) = List.map enc_isii (List.replicate (IntKind.wrap .i64 (p1 - (IntKind.wrap .i64 (0 - 0)))).toNat ((0, ByteArray.empty, 0, 0) : Int × ByteArray × Int × Int))) (0 : Int) (0 : Int)))) ?_
      refine fin_wk (Wk.of_eq (congrArg (fun z => (⟨[(4, .sl 0 0 z)], [(0, .arr 4 (List.map enc_isii (sub (List.replicate (IntKind.wrap .i64 (p1 - (IntKind.wrap .i64 (0 - 0)))).toNat ((0, ByteArray.empty, 0, 0) : Int × ByteArray × Int × Int)) (0 : Int) (0 : Int))))]⟩ : S)) (part_len ((rfl : (List.replicate (IntKind.wrap .i64 (p1 - (IntKind.wrap .i64 (0 - 0)))).toNat ((0, ByteArray.empty, 0, 0) : Int × ByteArray × Int × Int)).length = (List.replicate (IntKind.wrap .i64 (p1 - (IntKind.wrap .i64 (0 - 0)))).toNat ((0, ByteArray.empty, 0, 0) : Int × ByteArray × Int × Int)).length)) g7))) ?_
      have hr := Option.some.inj h
      subst hr
      exact ⟨_, Wk.refl _, .inr rfl, ⟨[0], by kernel_rfl, ⟨rfl, trivial⟩, [.sl 0 0 ((sub (List.replicate (IntKind.wrap .i64 (p1 - (IntKind.wrap .i64 (0 - 0)))).toNat ((0, ByteArray.empty, 0, 0) : Int × ByteArray × Int × Int)) (0 : Int) (0 : Int)).length)], by kernel_rfl, by kernel_rfl⟩⟩
    · replace h := cd_f b3 h
      refine AX.condF (v2) (by kernel_rfl) b3 ?_
      refine AX.skip ?_
      refine AX.seq ?_
      refine AX.reg (its := []) [4] [] (s1 := ⟨[(4, .v (.slice none 0 0))], []⟩) (C := True) (by kernel_rfl) trivial trivial ?_
      refine AX.ret ?_
      refine fin_wk (Wk.mat 4 0 4 (by kernel_rfl) (Nat.le_of_ble_eq_true (by kernel_rfl)) (by kernel_rfl) rfl) ?_
      refine fin_wk (Wk.forget [4] [0] (s' := ⟨[(4, .sl 0 0 (([] : List (Int × ByteArray × Int × Int)).length))], [(0, .arr 4 (List.map enc_isii ([] : List (Int × ByteArray × Int × Int))))]⟩) (by kernel_rfl)) ?_
      have hr := Option.some.inj h
      subst hr
      exact ⟨_, Wk.refl _, .inr rfl, ⟨[0], by kernel_rfl, ⟨rfl, trivial⟩, [.sl 0 0 (([] : List (Int × ByteArray × Int × Int)).length)], by kernel_rfl, by kernel_rfl⟩⟩

theorem s_slices_Concat_x3isiiisiiisii (p1 : List (Int × ByteArray × Int × Int)) (p2 : List (Int × ByteArray × Int × Int)) (p3 : List (Int × ByteArray × Int × Int)) (r : List (Int × ByteArray × Int × Int)) (h : m_slices_Concat_x3isiiisiiisii p1 p2 p3 = some r) :
    Eng.Spec Try.prog 42 [.bx [.bs false 4 (List.map enc_isii p1), .bs false 4 (List.map enc_isii p2), .bs false 4 (List.map enc_isii p3)]] [] (.sl 0 0 r.length) [.arr 4 (List.map enc_isii r)] := by
  unfold m_slices_Concat_x3isiiisiiisii at h
  refine Eng.Spec.body Try.func42 (by kernel_rfl) rfl (by kernel_rfl) ?_
  refine AX.wkpost ?_
  refine AX.seq ?_
  refine AX.reg (its := []) [0] [] (s1 := ⟨[(0, .bx [.bs false 4 (List.map enc_isii p1), .bs false 4 (List.map enc_isii p2), .bs false 4 (List.map enc_isii p3)])], []⟩) (C := True) (by kernel_rfl) trivial trivial ?_
  refine AX.seq ?_
  refine AX.reg (its := []) [0, 3] [] (s1 := ⟨[(0, .bx [.bs false 4 (List.map enc_isii p1), .bs false 4 (List.map enc_isii p2), .bs false 4 (List.map enc_isii p3)]), (3, .v (.int .i64 0))], []⟩) (C := True) (by kernel_rfl) trivial trivial ?_
  refine AX.seq ?_
  refine AX.seq ?_
  refine AX.reg (its := []) [0, 3, 9, 10, 11] [] (s1 := ⟨[(0, .bx [.bs false 4 (List.map enc_isii p1), .bs false 4 (List.map enc_isii p2), .bs false 4 (List.map enc_isii p3)]), (3, .v (.int .i64 0)), (9, .bx [.bs false 4 (List.map enc_isii p1), .bs false 4 (List.map enc_isii p2), .bs false 4 (List.map enc_isii p3)]), (10, .v (.int .i64 3)), (11, .v (.int .i64 0))], []⟩) (C := True) (by kernel_rfl) trivial trivial ?_
  refine AX.block ?_
  refine AXL.start ?_
  refine AXL.step ?_
  refine AX.seq ?_
  refine AX.reg (its := []) [0, 3, 9, 10, 11, 12] [] (s1 := ⟨[(0, .bx [.bs false 4 (List.map enc_isii p1), .bs false 4 (List.map enc_isii p2), .bs false 4 (List.map enc_isii p3)]), (3, .v (.int .i64 0)), (9, .bx [.bs false 4 (List.map enc_isii p1), .bs false 4 (List.map enc_isii p2), .bs false 4 (List.map enc_isii p3)]), (10, .v (.int .i64 3)), (11, .v (.int .i64 0)), (12, .v (.bool true))], []⟩) (C := True) (by kernel_rfl) trivial trivial ?_
  refine AX.seq ?_
  refine AX.cond_true (by kernel_rfl) ?_
  refine AX.skip ?_
  refine AX.seq ?_
  refine AX.block ?_
  refine AX.seq ?_
  refine AX.reg (its := []) [0, 3, 5, 9, 10, 11] [] (s1 := ⟨[(0, .bx [.bs false 4 (List.map enc_isii p1), .bs false 4 (List.map enc_isii p2), .bs false 4 (List.map enc_isii p3)]), (3, .v (.int .i64 0)), (5, .bs false 4 (List.map enc_isii p1)), (9, .bx [.bs false 4 (List.map enc_isii p1), .bs false 4 (List.map enc_isii p2), .bs false 4 (List.map enc_isii p3)]), (10, .v (.int .i64 3)), (11, .v (.int .i64 0))], []⟩) (C := ((0 : Int) ≤ 0 ∧ (0 : Int) < ((3 : Nat) : Int)) ∧ True) (by kernel_rfl) ⟨(by decide), trivial⟩ trivial ?_
  refine AX.seq ?_
  refine AX.reg (its := [.auto {}, .auto {}, .auto { y := some (.v (.int .i64 (p1.length : Int))) }, .auto { raw := true }]) [0, 3, 9, 10, 11] [] (s1 := ⟨[(0, .bx [.bs false 4 (List.map enc_isii p1), .bs false 4 (List.map enc_isii p2), .bs false 4 (List.map enc_isii p3)]), (3, .v (.int .i64 (IntKind.wrap .i64 (0 + (p1.length : Int))))), (9, .bx [.bs false 4 (List.map enc_isii p1), .bs false 4 (List.map enc_isii p2), .bs false 4 (List.map enc_isii p3)]), (10, .v (.int .i64 3)), (11, .v (.int .i64 0))], []⟩) (C := (True ∧ (AV.v (.int .i64 ((List.map enc_isii p1).length : Int)) = AV.v (.int .i64 (p1.length : Int)))) ∧ True) (by kernel_rfl) ⟨⟨trivial, len_map enc_isii p1⟩, trivial⟩ trivial ?_
  refine AX.seq ?_
  refine AX.reg (its := []) [0, 3, 9, 10, 11, 20] [] (s1 := ⟨[(0, .bx [.bs false 4 (List.map enc_isii p1), .bs false 4 (List.map enc_isii p2), .bs false 4 (List.map enc_isii p3)]), (3, .v (.int .i64 (IntKind.wrap .i64 (0 + (p1.length : Int))))), (9, .bx [.bs false 4 (List.map enc_isii p1), .bs false 4 (List.map enc_isii p2), .bs false 4 (List.map enc_isii p3)]), (10, .v (.int .i64 3)), (11, .v (.int .i64 0)), (20, .v (.bool (decide ((IntKind.wrap .i64 (0 + (p1.length : Int))) < 0))))], []⟩) (C := True) (by kernel_rfl) trivial trivial ?_
  rcases bool_cases (decide ((IntKind.wrap .i64 (0 + (p1.length : Int))) < 0)) with b1 | b1
  · replace h := cd_t b1 h
    refine AX.condT (decide ((IntKind.wrap .i64 (0 + (p1.length : Int))) < 0)) (by kernel_rfl) b1 ?_
    cases h
  · replace h := cd_f b1 h
    refine AX.condF (decide ((IntKind.wrap .i64 (0 + (p1.length : Int))) < 0)) (by kernel_rfl) b1 ?_
    refine AX.skip ?_
    refine AX.reg (its := [.auto { raw := true }]) [0, 3, 9, 10, 11] [] (s1 := ⟨[(0, .bx [.bs false 4 (List.map enc_isii p1), .bs false 4 (List.map enc_isii p2), .bs false 4 (List.map enc_isii p3)]), (3, .v (.int .i64 (IntKind.wrap .i64 (0 + (p1.length : Int))))), (9, .bx [.bs false 4 (List.map enc_isii p1), .bs false 4 (List.map enc_isii p2), .bs false 4 (List.map enc_isii p3)]), (10, .v (.int .i64 3)), (11, .v (.int .i64 1))], []⟩) (C := True) (by kernel_rfl) trivial trivial ?_
    refine AXL.step ?_
    refine AX.seq ?_
    refine AX.reg (its := []) [0, 3, 9, 10, 11, 12] [] (s1 := ⟨[(0, .bx [.bs false 4 (List.map enc_isii p1), .bs false 4 (List.map enc_isii p2), .bs false 4 (List.map enc_isii p3)]), (3, .v (.int .i64 (IntKind.wrap .i64 (0 + (p1.length : Int))))), (9, .bx [.bs false 4 (List.map enc_isii p1), .bs false 4 (List.map enc_isii p2), .bs false 4 (List.map enc_isii p3)]), (10, .v (.int .i64 3)), (11, .v (.int .i64 1)), (12, .v (.bool true))], []⟩) (C := True) (by kernel_rfl) trivial trivial ?_
    refine AX.seq ?_
    refine AX.cond_true (by kernel_rfl) ?_
    refine AX.skip ?_
    refine AX.seq ?_
    refine AX.block ?_
    refine AX.seq ?_
    refine AX.reg (its := []) [0, 3, 5, 9, 10, 11] [] (s1 := ⟨[(0, .bx [.bs false 4 (List.map enc_isii p1), .bs false 4 (List.map enc_isii p2), .bs false 4 (List.map enc_isii p3)]), (3, .v (.int .i64 (IntKind.wrap .i64 (0 + (p1.length : Int))))), (5, .bs false 4 (List.map enc_isii p2)), (9, .bx [.bs false 4 (List.map enc_isii p1), .bs false 4 (List.map enc_isii p2), .bs false 4 (List.map enc_isii p3)]), (10, .v (.int .i64 3)), (11, .v (.int .i64 1))], []⟩) (C := ((0 : Int) ≤ 1 ∧ (1 : Int) < ((3 : Nat) : Int)) ∧ True) (by kernel_rfl) ⟨(by decide), trivial⟩ trivial ?_
    refine AX.seq ?_
    obtain ⟨v4, q2, h⟩ := nm_e h
    refine AX.reg (its := [.auto {}, .auto {}, .auto { y := some (.v (.int .i64 (p2.length : Int))) }, .auto { y := some (.v (.int .i64 v4)), raw := true }]) [0, 3, 9, 10, 11] [] (s1 := ⟨[(0, .bx [.bs false 4 (List.map enc_isii p1), .bs false 4 (List.map enc_isii p2), .bs false 4 (List.map enc_isii p3)]), (3, .v (.int .i64 v4)), (9, .bx [.bs false 4 (List.map enc_isii p1), .bs false 4 (List.map enc_isii p2), .bs false 4 (List.map enc_isii p3)]), (10, .v (.int .i64 3)), (11, .v (.int .i64 1))], []⟩) (C := (True ∧ (AV.v (.int .i64 ((List.map enc_isii p2).length : Int)) = AV.v (.int .i64 (p2.length : Int)))) ∧ ((True) ∧ ((.v (.int .i64 (IntKind.wrap .i64 ((IntKind.wrap .i64 (0 + (p1.length : Int))) + (p2.length : Int)))) : AV) = (.v (.int .i64 v4) : AV))) ∧ True) (by kernel_rfl) ⟨⟨trivial, len_map enc_isii p2⟩, ⟨⟨trivial, (congrArg (fun z => AV.v (.int .i64 z)) q2)⟩, trivial⟩⟩ trivial ?_
    refine AX.seq ?_
    refine AX.reg (its := []) [0, 3, 9, 10, 11, 20] [] (s1 := ⟨[(0, .bx [.bs false 4 (List.map enc_isii p1), .bs false 4 (List.map enc_isii p2), .bs false 4 (List.map enc_isii p3)]), (3, .v (.int .i64 v4)), (9, .bx [.bs false 4 (List.map enc_isii p1), .bs false 4 (List.map enc_isii p2), .bs false 4 (List.map enc_isii p3)]), (10, .v (.int .i64 3)), (11, .v (.int .i64 1)), (20, .v (.bool (decide (v4 < 0))))], []⟩) (C := True) (by kernel_rfl) trivial trivial ?_
    rcases bool_cases (decide (v4 < 0)) with b3 | b3
    · replace h := cd_t b3 h
      refine AX.condT (decide (v4 < 0)) (by kernel_rfl) b3 ?_
      cases h
    · replace h := cd_f b3 h
      refine AX.condF (decide (v4 < 0)) (by kernel_rfl) b3 ?_
      refine AX.skip ?_
      refine AX.reg (its := [.auto { raw := true }]) [0, 3, 9, 10, 11] [] (s1 := ⟨[(0, .bx [.bs false 4 (List.map enc_isii p1), .bs false 4 (List.map enc_isii p2), .bs false 4 (List.map enc_isii p3)]), (3, .v (.int .i64 v4)), (9, .bx [.bs false 4 (List.map enc_isii p1), .bs false 4 (List.map enc_isii p2), .bs false 4 (List.map enc_isii p3)]), (10, .v (.int .i64 3)), (11, .v (.int .i64 2))], []⟩) (C := True) (by kernel_rfl) trivial trivial ?_
      refine AXL.step ?_
      refine AX.seq ?_
      refine AX.reg (its := []) [0, 3, 9, 10, 11, 12] [] (s1 := ⟨[(0, .bx [.bs false 4 (List.map enc_isii p1), .bs false 4 (List.map enc_isii p2), .bs false 4 (List.map enc_isii p3)]), (3, .v (.int .i64 v4)), (9, .bx [.bs false 4 (List.map enc_isii p1), .bs false 4 (List.map enc_isii p2), .bs false 4 (List.map enc_isii p3)]), (10, .v (.int .i64 3)), (11, .v (.int .i64 2)), (12, .v (.bool true))], []⟩) (C := True) (by kernel_rfl) trivial trivial ?_
      refine AX.seq ?_
      refine AX.cond_true (by kernel_rfl) ?_
      refine AX.skip ?_
      refine AX.seq ?_
      refine AX.block ?_
      refine AX.seq ?_
      refine AX.reg (its := []) [0, 3, 5, 9, 10, 11] [] (s1 := ⟨[(0, .bx [.bs false 4 (List.map enc_isii p1), .bs false 4 (List.map enc_isii p2), .bs false 4 (List.map enc_isii p3)]), (3, .v (.int .i64 v4)), (5, .bs false 4 (List.map enc_isii p3)), (9, .bx [.bs false 4 (List.map enc_isii p1), .bs false 4 (List.map enc_isii p2), .bs false 4 (List.map enc_isii p3)]), (10, .v (.int .i64 3)), (11, .v (.int .i64 2))], []⟩) (C := ((0 : Int) ≤ 2 ∧ (2 : Int) < ((3 : Nat) : Int)) ∧ True) (by kernel_rfl) ⟨(by decide), trivial⟩ trivial ?_
      refine AX.seq ?_
      refine AX.reg (its := [.auto {}, .auto {}, .auto { y := some (.v (.int .i64 (p3.length : Int))) }, .auto { raw := true }]) [0, 3, 9, 10, 11] [] (s1 := ⟨[(0, .bx [.bs false 4 (List.map enc_isii p1), .bs false 4 (List.map enc_isii p2), .bs false 4 (List.map enc_isii p3)]), (3, .v (.int .i64 (IntKind.wrap .i64 (v4 + (p3.length : Int))))), (9, .bx [.bs false 4 (List.map enc_isii p1), .bs false 4 (List.map enc_isii p2), .bs false 4 (List.map enc_isii p3)]), (10, .v (.int .i64 3)), (11, .v (.int .i64 2))], []⟩) (C := (True ∧ (AV.v (.int .i64 ((List.map enc_isii p3).length : Int)) = AV.v (.int .i64 (p3.length : Int)))) ∧ True) (by kernel_rfl) ⟨⟨trivial, len_map enc_isii p3⟩, trivial⟩ trivial ?_
      refine AX.seq ?_
      refine AX.reg (its := []) [0, 3, 9, 10, 11, 20] [] (s1 := ⟨[(0, .bx [.bs false 4 (List.map enc_isii p1), .bs false 4 (List.map enc_isii p2), .bs false 4 (List.map enc_isii p3)]), (3, .v (.int .i64 (IntKind.wrap .i64 (v4 + (p3.length : Int))))), (9, .bx [.bs false 4 (List.map enc_isii p1), .bs false 4 (List.map enc_isii p2), .bs false 4 (List.map enc_isii p3)]), (10, .v (.int .i64 3)), (11, .v (.int .i64 2)), (20, .v (.bool (decide ((IntKind.wrap .i64 (v4 + (p3.length : Int))) < 0))))], []⟩) (C := True) (by kernel_rfl) trivial trivial ?_
      rcases bool_cases (decide ((IntKind.wrap .i64 (v4 + (p3.length : Int))) < 0)) with b4 | b4
      · replace h := cd_t b4 h
        refine AX.condT (decide ((IntKind.wrap .i64 (v4 + (p3.length : Int))) < 0)) (by kernel_rfl) b4 ?_
        cases h
      · replace h := cd_f b4 h
        refine AX.condF (decide ((IntKind.wrap .i64 (v4 + (p3.length : Int))) < 0)) (by kernel_rfl) b4 ?_
        refine AX.skip ?_
        refine AX.reg (its := [.auto { raw := true }]) [0, 3, 9, 10, 11] [] (s1 := ⟨[(0, .bx [.bs false 4 (List.map enc_isii p1), .bs false 4 (List.map enc_isii p2), .bs false 4 (List.map enc_isii p3)]), (3, .v (.int .i64 (IntKind.wrap .i64 (v4 + (p3.length : Int))))), (9, .bx [.bs false 4 (List.map enc_isii p1), .bs false 4 (List.map enc_isii p2), .bs false 4 (List.map enc_isii p3)]), (10, .v (.int .i64 3)), (11, .v (.int .i64 3))], []⟩) (C := True) (by kernel_rfl) trivial trivial ?_
        refine AXL.step ?_
        refine AX.seq ?_
        refine AX.reg (its := []) [0, 3, 9, 10, 11, 12] [] (s1 := ⟨[(0, .bx [.bs false 4 (List.map enc_isii p1), .bs false 4 (List.map enc_isii p2), .bs false 4 (List.map enc_isii p3)]), (3, .v (.int .i64 (IntKind.wrap .i64 (v4 + (p3.length : Int))))), (9, .bx [.bs false 4 (List.map enc_isii p1), .bs false 4 (List.map enc_isii p2), .bs false 4 (List.map enc_isii p3)]), (10, .v (.int .i64 3)), (11, .v (.int .i64 3)), (12, .v (.bool false))], []⟩) (C := True) (by kernel_rfl) trivial trivial ?_
        refine AX.seq ?_
        refine AX.cond_false (by kernel_rfl) ?_
        refine AX.exit ?_
        refine AX.seq ?_
        obtain ⟨x5, e5, h⟩ := bd_e h
        refine AX.reg (its := [.auto {}, .call 49 [.v (.slice none 0 0), .v (.int .i64 (IntKind.wrap .i64 (v4 + (p3.length : Int))))] (handO (rho ([] ++ [0])) [] [] ++ []) (callEv [] [0] (.sl 0 0 x5.length) [.arr 4 (List.map enc_isii x5)])]) [0, 6] [0] (s1 := ⟨[(0, .bx [.bs false 4 (List.map enc_isii p1), .bs false 4 (List.map enc_isii p2), .bs false 4 (List.map enc_isii p3)]), (6, .sl 0 0 x5.length)], [(0, .arr 4 (List.map enc_isii x5))]⟩) (C := ((([.v (.slice none 0 0), .v (.int .i64 (IntKind.wrap .i64 (v4 + (p3.length : Int))))] : List AV) = [.v (.slice none 0 0), .v (.int .i64 (IntKind.wrap .i64 (v4 + (p3.length : Int))))]) ∧ True) ∧ True) (by kernel_rfl) ⟨⟨rfl, trivial⟩, trivial⟩ ⟨call_ok (ks := []) (ns := [0]) (bor := []) (bobjs := []) (s_slices_Grow_nisii (IntKind.wrap .i64 (v4 + (p3.length : Int))) x5 e5) (.cons (.c1 (.c0 (.same _ (by kernel_rfl) (by kernel_rfl)))) (.cons (.c1 (.c0 (.same _ (by kernel_rfl) (by kernel_rfl)))) (.nil))) (by kernel_rfl) trivial, trivial⟩ ?_
        refine AX.seq ?_
        refine AX.seq ?_
        refine AX.reg (its := []) [6, 25, 26, 27] [0] (s1 := ⟨[(6, .sl 0 0 x5.length), (25, .bx [.bs false 4 (List.map enc_isii p1), .bs false 4 (List.map enc_isii p2), .bs false 4 (List.map enc_isii p3)]), (26, .v (.int .i64 3)), (27, .v (.int .i64 0))], [(0, .arr 4 (List.map enc_isii x5))]⟩) (C := True) (by kernel_rfl) trivial trivial ?_
        refine AX.block ?_
        refine AXL.start ?_
        refine AXL.step ?_
        refine AX.seq ?_
        refine AX.reg (its := []) [6, 25, 26, 27, 28] [0] (s1 := ⟨[(6, .sl 0 0 x5.length), (25, .bx [.bs false 4 (List.map enc_isii p1), .bs false 4 (List.map enc_isii p2), .bs false 4 (List.map enc_isii p3)]), (26, .v (.int .i64 3)), (27, .v (.int .i64 0)), (28, .v (.bool true))], [(0, .arr 4 (List.map enc_isii x5))]⟩) (C := True) (by kernel_rfl) trivial trivial ?_
        refine AX.seq ?_
        refine AX.cond_true (by kernel_rfl) ?_
        refine AX.skip ?_
        refine AX.seq ?_
        refine AX.block ?_
        refine AX.seq ?_
        refine AX.reg (its := []) [6, 8, 25, 26, 27] [0] (s1 := ⟨[(6, .sl 0 0 x5.length), (8, .bs false 4 (List.map enc_isii p1)), (25, .bx [.bs false 4 (List.map enc_isii p1), .bs false 4 (List.map enc_isii p2), .bs false 4 (List.map enc_isii p3)]), (26, .v (.int .i64 3)), (27, .v (.int .i64 0))], [(0, .arr 4 (List.map enc_isii x5))]⟩) (C := ((0 : Int) ≤ 0 ∧ (0 : Int) < ((3 : Nat) : Int)) ∧ True) (by kernel_rfl) ⟨(by decide), trivial⟩ trivial ?_
        obtain ⟨g6, h⟩ := gd_e h
        refine AX.reg (its := [.auto {}, .auto {}, .auto { y := some (.sl 1 0 ((x5 ++ p1).length)), els := some (List.map enc_isii x5), nk := 1 }]) [6, 25, 26, 27] [1] (s1 := ⟨[(6, .sl 1 0 ((x5 ++ p1).length)), (25, .bx [.bs false 4 (List.map enc_isii p1), .bs false 4 (List.map enc_isii p2), .bs false 4 (List.map enc_isii p3)]), (26, .v (.int .i64 3)), (27, .v (.int .i64 0))], [(1, .arr 4 (List.map enc_isii x5 ++ List.map enc_isii p1))]⟩) (C := ((((((List.map enc_isii x5).drop 0).take (x5.length) = List.map enc_isii x5) ∧ True) ∧ (List.map enc_isii x5).length + (List.map enc_isii p1).length ≤ 1099511627776) ∧ (AV.sl 1 0 (List.map enc_isii x5 ++ List.map enc_isii p1).length = AV.sl 1 0 (x5 ++ p1).length)) ∧ True) (by kernel_rfl) ⟨⟨⟨⟨(dt_all (enc := enc_isii) rfl rfl), trivial⟩, (by simp only [List.length_map, List.length_nil, List.length_replicate]; simpa using g6)⟩, sl_len (enc := enc_isii) (app_can (enc := enc_isii) rfl (rfl))⟩, trivial⟩ trivial ?_
        refine AX.reg (its := [.auto { raw := true }]) [6, 25, 26, 27] [1] (s1 := ⟨[(6, .sl 1 0 ((x5 ++ p1).length)), (25, .bx [.bs false 4 (List.map enc_isii p1), .bs false 4 (List.map enc_isii p2), .bs false 4 (List.map enc_isii p3)]), (26, .v (.int .i64 3)), (27, .v (.int .i64 1))], [(1, .arr 4 (List.map enc_isii x5 ++ List.map enc_isii p1))]⟩) (C := True) (by kernel_rfl) trivial trivial ?_
        refine AXL.step ?_
        refine AX.seq ?_
        refine AX.reg (its := []) [6, 25, 26, 27, 28] [1] (s1 := ⟨[(6, .sl 1 0 ((x5 ++ p1).length)), (25, .bx [.bs false 4 (List.map enc_isii p1), .bs false 4 (List.map enc_isii p2), .bs false 4 (List.map enc_isii p3)]), (26, .v (.int .i64 3)), (27, .v (.int .i64 1)), (28, .v (.bool true))], [(1, .arr 4 (List.map enc_isii x5 ++ List.map enc_isii p1))]⟩) (C := True) (by kernel_rfl) trivial trivial ?_
        refine AX.seq ?_
        refine AX.cond_true (by kernel_rfl) ?_
        refine AX.skip ?_
        refine AX.seq ?_
        refine AX.block ?_
        refine AX.seq ?_
        refine AX.reg (its := []) [6, 8, 25, 26, 27] [1] (s1 := ⟨[(6, .sl 1 0 ((x5 ++ p1).length)), (8, .bs false 4 (List.map enc_isii p2)), (25, .bx [.bs false 4 (List.map enc_isii p1), .bs false 4 (List.map enc_isii p2), .bs false 4 (List.map enc_isii p3)]), (26, .v (.int .i64 3)), (27, .v (.int .i64 1))], [(1, .arr 4 (List.map enc_isii x5 ++ List.map enc_isii p1))]⟩) (C := ((0 : Int) ≤ 1 ∧ (1 : Int) < ((3 : Nat) : Int)) ∧ True) (by kernel_rfl) ⟨(by decide), trivial⟩ trivial ?_
        obtain ⟨g7, h⟩ := gd_e h
        refine AX.reg (its := [.auto {}, .auto {}, .auto { y := some (.sl 2 0 (((x5 ++ p1) ++ p2).length)), els := some (List.map enc_isii (x5 ++ p1)), nk := 2 }]) [6, 25, 26, 27] [2] (s1 := ⟨[(6, .sl 2 0 (((x5 ++ p1) ++ p2).length)), (25, .bx [.bs false 4 (List.map enc_isii p1), .bs false 4 (List.map enc_isii p2), .bs false 4 (List.map enc_isii p3)]), (26, .v (.int .i64 3)), (27, .v (.int .i64 1))], [(2, .arr 4 (List.map enc_isii (x5 ++ p1) ++ List.map enc_isii p2))]⟩) (C := ((((((List.map enc_isii x5 ++ List.map enc_isii p1).drop 0).take ((x5 ++ p1).length) = List.map enc_isii (x5 ++ p1)) ∧ True) ∧ (List.map enc_isii (x5 ++ p1)).length + (List.map enc_isii p2).length ≤ 1099511627776) ∧ (AV.sl 2 0 (List.map enc_isii (x5 ++ p1) ++ List.map enc_isii p2).length = AV.sl 2 0 ((x5 ++ p1) ++ p2).length)) ∧ True) (by kernel_rfl) ⟨⟨⟨⟨(dt_all (enc := enc_isii) (app_can (enc := enc_isii) rfl (rfl) : List.map enc_isii x5 ++ List.map enc_isii p1 = List.map enc_isii (x5 ++ p1)) rfl), trivial⟩, (by simp only [List.length_map, List.length_nil, List.length_replicate]; simpa using g7)⟩, sl_len (enc := enc_isii) (app_can (enc := enc_isii) rfl (rfl))⟩, trivial⟩ trivial ?_
        refine AX.reg (its := [.auto { raw := true }]) [6, 25, 26, 27] [2] (s1 := ⟨[(6, .sl 2 0 (((x5 ++ p1) ++ p2).length)), (25, .bx [.bs false 4 (List.map enc_isii p1), .bs false 4 (List.map enc_isii p2), .bs false 4 (List.map enc_isii p3)]), (26, .v (.int .i64 3)), (27, .v (.int .i64 2))], [(2, .arr 4 (List.map enc_isii (x5 ++ p1) ++ List.map enc_isii p2))]⟩) (C := True) (by kernel_rfl) trivial trivial ?_
        refine AXL.step ?_
        refine AX.seq ?_
        refine AX.reg (its := []) [6, 25, 26, 27, 28] [2] (s1 := ⟨[(6, .sl 2 0 (((x5 ++ p1) ++ p2).length)), (25, .bx [.bs false 4 (List.map enc_isii p1), .bs false 4 (List.map enc_isii p2), .bs false 4 (List.map enc_isii p3)]), (26, .v (.int .i64 3)), (27, .v (.int .i64 2)), (28, .v (.bool true))], [(2, .arr 4 (List.map enc_isii (x5 ++ p1) ++ List.map enc_isii p2))]⟩) (C := True) (by kernel_rfl) trivial trivial ?_
        refine AX.seq ?_
        refine AX.cond_true (by kernel_rfl) ?_
        refine AX.skip ?_
        refine AX.seq ?_
        refine AX.block ?_
        refine AX.seq ?_
        refine AX.reg (its := []) [6, 8, 25, 26, 27] [2] (s1 := ⟨[(6, .sl 2 0 (((x5 ++ p1) ++ p2).length)), (8, .bs false 4 (List.map enc_isii p3)), (25, .bx [.bs false 4 (List.map enc_isii p1), .bs false 4 (List.map enc_isii p2), .bs false 4 (List.map enc_isii p3)]), (26, .v (.int .i64 3)), (27, .v (.int .i64 2))], [(2, .arr 4 (List.map enc_isii (x5 ++ p1) ++ List.map enc_isii p2))]⟩) (C := ((0 : Int) ≤ 2 ∧ (2 : Int) < ((3 : Nat) : Int)) ∧ True) (by kernel_rfl) ⟨(by decide), trivial⟩ trivial ?_
        obtain ⟨g8, h⟩ := gd_e h
        refine AX.reg (its := [.auto {}, .auto {}, .auto { y := some (.sl 3 0 ((((x5 ++ p1) ++ p2) ++ p3).length)), els := some (List.map enc_isii ((x5 ++ p1) ++ p2)), nk := 3 }]) [6, 25, 26, 27] [3] (s1 := ⟨[(6, .sl 3 0 ((((x5 ++ p1) ++ p2) ++ p3).length)), (25, .bx [.bs false 4 (List.map enc_isii p1), .bs false 4 (List.map enc_isii p2), .bs false 4 (List.map enc_isii p3)]), (26, .v (.int .i64 3)), (27, .v (.int .i64 2))], [(3, .arr 4 (List.map enc_isii ((x5 ++ p1) ++ p2) ++ List.map enc_isii p3))]⟩) (C := ((((((List.map enc_isii (x5 ++ p1) ++ List.map enc_isii p2).drop 0).take (((x5 ++ p1) ++ p2).length) = List.map enc_isii ((x5 ++ p1) ++ p2)) ∧ True) ∧ (List.map enc_isii ((x5 ++ p1) ++ p2)).length + (List.map enc_isii p3).length ≤ 1099511627776) ∧ (AV.sl 3 0 (List.map enc_isii ((x5 ++ p1) ++ p2) ++ List.map enc_isii p3).length = AV.sl 3 0 (((x5 ++ p1) ++ p2) ++ p3).length)) ∧ True) (by kernel_rfl) ⟨⟨⟨⟨(dt_all (enc := enc_isii) (app_can (enc := enc_isii) rfl (rfl) : List.map enc_isii (x5 ++ p1) ++ List.map enc_isii p2 = List.map enc_isii ((x5 ++ p1) ++ p2)) rfl), trivial⟩, (by simp only [List.length_map, List.length_nil, List.length_replicate]; simpa using g8)⟩, sl_len (enc := enc_isii) (app_can (enc := enc_isii) rfl (rfl))⟩, trivial⟩ trivial ?_
        refine AX.reg (its := [.auto { raw := true }]) [6, 25, 26, 27] [3] (s1 := ⟨[(6, .sl 3 0 ((((x5 ++ p1) ++ p2) ++ p3).length)), (25, .bx [.bs false 4 (List.map enc_isii p1), .bs false 4 (List.map enc_isii p2), .bs false 4 (List.map enc_isii p3)]), (26, .v (.int .i64 3)), (27, .v (.int .i64 3))], [(3, .arr 4 (List.map enc_isii ((x5 ++ p1) ++ p2) ++ List.map enc_isii p3))]⟩) (C := True) (by kernel_rfl) trivial trivial ?_
        refine AXL.step ?_
        refine AX.seq ?_
        refine AX.reg (its := []) [6, 25, 26, 27, 28] [3] (s1 := ⟨[(6, .sl 3 0 ((((x5 ++ p1) ++ p2) ++ p3).length)), (25, .bx [.bs false 4 (List.map enc_isii p1), .bs false 4 (List.map enc_isii p2), .bs false 4 (List.map enc_isii p3)]), (26, .v (.int .i64 3)), (27, .v (.int .i64 3)), (28, .v (.bool false))], [(3, .arr 4 (List.map enc_isii ((x5 ++ p1) ++ p2) ++ List.map enc_isii p3))]⟩) (C := True) (by kernel_rfl) trivial trivial ?_
        refine AX.seq ?_
        refine AX.cond_false (by kernel_rfl) ?_
        refine AX.exit ?_
        refine AX.seq ?_
        refine AX.reg (its := []) [2] [3] (s1 := ⟨[(2, .sl 3 0 ((((x5 ++ p1) ++ p2) ++ p3).length))], [(3, .arr 4 (List.map enc_isii ((x5 ++ p1) ++ p2) ++ List.map enc_isii p3))]⟩) (C := True) (by kernel_rfl) trivial trivial ?_
        refine AX.ret ?_
        refine fin_wk (Wk.swap 0 3 (Nat.le_of_ble_eq_true (by kernel_rfl)) (Nat.le_of_ble_eq_true (by kernel_rfl)) rfl) ?_
        refine fin_wk (Wk.forget [2] [0] (s' := ⟨[(2, .sl 0 0 ((((x5 ++ p1) ++ p2) ++ p3).length))], [(0, .arr 4 (List.map enc_isii ((x5 ++ p1) ++ p2) ++ List.map enc_isii p3))]⟩) (by kernel_rfl)) ?_
        refine fin_wk (Wk.of_eq (congrArg (fun z => (⟨[(2, .sl 0 0 ((((x5 ++ p1) ++ p2) ++ p3).length))], [(0, .arr 4 (z))]⟩ : S)) (app_can (enc := enc_isii) rfl (rfl) : List.map enc_isii ((x5 ++ p1) ++ p2) ++ List.map enc_isii p3 = List.map enc_isii (((x5 ++ p1) ++ p2) ++ p3)))) ?_
        have hr := Option.some.inj h
        subst hr
        exact ⟨_, Wk.refl _, .inr rfl, ⟨[0], by kernel_rfl, ⟨rfl, trivial⟩, [.sl 0 0 ((((x5 ++ p1) ++ p2) ++ p3).length)], by kernel_rfl, by kernel_rfl⟩⟩

theorem s_slices_Clip_isii (p1 : List (Int × ByteArray × Int × Int)) (r : Unit) (h : m_slices_Clip_isii p1 = some r) :
    Eng.Spec Try.prog 21 [.bs false 4 (List.map enc_isii p1)] [] (.bs false 4 (List.map enc_isii (sub p1 (0 : Int) (p1.length : Int)))) [] := by
  unfold m_slices_Clip_isii at h
  refine Eng.Spec.body Try.func21 (by kernel_rfl) rfl (by kernel_rfl) ?_
  refine AX.wkpost ?_
  refine AX.seq ?_
  refine AX.reg (its := []) [0] [] (s1 := ⟨[(0, .bs false 4 (List.map enc_isii p1))], []⟩) (C := True) (by kernel_rfl) trivial trivial ?_
  refine AX.seq ?_
  obtain ⟨g1, h⟩ := gd_e h
  refine AX.reg (its := [.auto {}, .auto {}, .auto { y := some (.v (.int .i64 (p1.length : Int))) }, .auto {}, .auto { y := some (.v (.int .i64 (p1.length : Int))) }, .auto { y := some (.bs false 4 (List.map enc_isii (sub p1 (0 : Int) (p1.length : Int)))) }]) [2] [] (s1 := ⟨[(2, .bs false 4 (List.map enc_isii (sub p1 (0 : Int) (p1.length : Int))))], []⟩) (C := (True ∧ (AV.v (.int .i64 ((List.map enc_isii p1).length : Int)) = AV.v (.int .i64 (p1.length : Int)))) ∧ (True ∧ (AV.v (.int .i64 ((List.map enc_isii p1).length : Int)) = AV.v (.int .i64 (p1.length : Int)))) ∧ ((0 ≤ (0 : Int) ∧ (0 : Int) ≤ (p1.length : Int) ∧ (p1.length : Int) ≤ (p1.length : Int) ∧ (p1.length : Int) ≤ ((List.map enc_isii p1).length : Int)) ∧ (AV.bs false 4 (((List.map enc_isii p1).drop (0 : Int).toNat).take ((p1.length : Int).toNat - (0 : Int).toNat)) = (.bs false 4 (List.map enc_isii (sub p1 (0 : Int) (p1.length : Int))) : AV))) ∧ True) (by kernel_rfl) ⟨⟨trivial, len_map enc_isii p1⟩, ⟨⟨trivial, len_map enc_isii p1⟩, ⟨⟨by first | exact g1 | simpa only [List.length_map] using g1, by first | exact sub_can enc_isii p1 (0 : Int) (p1.length : Int) false 4 | (simp only [List.length_map]; exact sub_can enc_isii p1 (0 : Int) (p1.length : Int) false 4)⟩, trivial⟩⟩⟩ trivial ?_
  refine AX.ret ?_
  refine fin_wk (Wk.forget [2] [] (s' := ⟨[(2, .bs false 4 (List.map enc_isii (sub p1 (0 : Int) (p1.length : Int))))], []⟩) (by kernel_rfl)) ?_
  have hr := Option.some.inj h
  subst hr
  exact ⟨_, Wk.refl _, .inr rfl, ⟨[], by kernel_rfl, trivial, [.bs false 4 (List.map enc_isii (sub p1 (0 : Int) (p1.length : Int)))], by kernel_rfl, by kernel_rfl⟩⟩

theorem s_slices_Clip_hisii (p1 : List (Int × ByteArray × Int × Int)) (r : Unit) (h : m_slices_Clip_hisii p1 = some r) :
    Eng.Spec Try.prog 21 [.sl 0 0 p1.length] [.arr 4 (List.map enc_isii p1)] (.sl 0 0 p1.length) [.arr 4 (List.map enc_isii p1)] := by
  unfold m_slices_Clip_hisii at h
  refine Eng.Spec.body Try.func21 (by kernel_rfl) rfl (by kernel_rfl) ?_
  refine AX.wkpost ?_
  refine AX.seq ?_
  refine AX.reg (its := []) [0] [0] (s1 := ⟨[(0, .sl 0 0 p1.length)], [(0, .arr 4 (List.map enc_isii p1))]⟩) (C := True) (by kernel_rfl) trivial trivial ?_
  refine AX.seq ?_
  refine AX.reg (its := [.auto {}, .auto {}, .auto {}, .auto {}, .auto {}, .auto { y := some (.sl 0 0 p1.length) }]) [2] [0] (s1 := ⟨[(2, .sl 0 0 p1.length)], [(0, .arr 4 (List.map enc_isii p1))]⟩) (C := ((0 ≤ (0 : Int) ∧ (0 : Int) ≤ (p1.length : Int) ∧ (p1.length : Int) ≤ (p1.length : Int) ∧ (p1.length : Int) ≤ (p1.length : Int)) ∧ (AV.sl 0 (0 + (0 : Int).toNat) ((p1.length : Int).toNat - (0 : Int).toNat) = AV.sl 0 0 p1.length)) ∧ True) (by kernel_rfl) ⟨⟨⟨by omega, by omega, by omega, by omega⟩, rfl⟩, trivial⟩ trivial ?_
  refine AX.ret ?_
  refine fin_wk (Wk.forget [2] [0] (s' := ⟨[(2, .sl 0 0 p1.length)], [(0, .arr 4 (List.map enc_isii p1))]⟩) (by kernel_rfl)) ?_
  have hr := Option.some.inj h
  subst hr
  exact ⟨_, Wk.refl _, .inr rfl, ⟨[], by kernel_rfl, ⟨rfl, trivial⟩, [.sl 0 0 p1.length], by kernel_rfl, by kernel_rfl⟩⟩

theorem s_impl_DiffEnums_L1 (p1 : List (ByteArray × Int)) (p2 : List (ByteArray × Int)) (n : Nat) (g : (List (Int × ByteArray × Int × Int)) × (List (Int × ByteArray × Int × Int)) × Int) (out : (List (Int × ByteArray × Int × Int)) × (List (Int × ByteArray × Int × Int))) (h : m_impl_DiffEnums_L1 p1 p2 n g.1 g.2.1 g.2.2 = some out) :
    AX Try.prog 97 0 (codeAt [1, 1, 1, 0, 1, 1] (bodyOf Try.f23)) ((fun g : (List (Int × ByteArray × Int × Int)) × (List (Int × ByteArray × Int × Int)) × Int => (⟨[(2, .pt 0 0), (3, .pt 1 0), (5, .sl 2 0 g.1.length), (6, .sl 3 0 g.2.1.length), (7, .v (.slice none 0 0)), (22, .bs false 2 (List.map enc_si p1)), (23, .v (.int .i64 (p1.length : Int))), (24, .v (.int .i64 g.2.2))], [(0, .box [.bs false 2 (List.map enc_si p1)]), (1, .box [.bs false 2 (List.map enc_si p2)]), (2, .arr 4 (List.map enc_isii g.1)), (3, .arr 4 (List.map enc_isii g.2.1))]⟩ : S)) g) (fun ex s => ex = .exit 0 ∧ s = (fun o : (List (Int × ByteArray × Int × Int)) × (List (Int × ByteArray × Int × Int)) => (⟨[(2, .pt 0 0), (3, .pt 1 0), (5, .sl 2 0 o.1.length), (6, .sl 3 0 o.2.length), (7, .v (.slice none 0 0))], [(0, .box [.bs false 2 (List.map enc_si p1)]), (1, .box [.bs false 2 (List.map enc_si p2)]), (2, .arr 4 (List.map enc_isii o.1)), (3, .arr 4 (List.map enc_isii o.2))]⟩ : S)) out) := by
  refine AX.wkpost ?_
  refine AX.loop (G := Nat × ((List (Int × ByteArray × Int × Int)) × (List (Int × ByteArray × Int × Int)) × Int)) (fun q => (fun g : (List (Int × ByteArray × Int × Int)) × (List (Int × ByteArray × Int × Int)) × Int => (⟨[(2, .pt 0 0), (3, .pt 1 0), (5, .sl 2 0 g.1.length), (6, .sl 3 0 g.2.1.length), (7, .v (.slice none 0 0)), (22, .bs false 2 (List.map enc_si p1)), (23, .v (.int .i64 (p1.length : Int))), (24, .v (.int .i64 g.2.2))], [(0, .box [.bs false 2 (List.map enc_si p1)]), (1, .box [.bs false 2 (List.map enc_si p2)]), (2, .arr 4 (List.map enc_isii g.1)), (3, .arr 4 (List.map enc_isii g.2.1))]⟩ : S)) q.2) (fun q => m_impl_DiffEnums_L1 p1 p2 q.1 q.2.1 q.2.2.1 q.2.2.2 = some out) (fun q => q.1) (n, g) h (Wk.refl _) ?_
  clear h
  rintro ⟨fu, v5, v6, v7⟩ h
  cases fu with
  | zero => cases h
  | succ fu =>
    rw [m_impl_DiffEnums_L1] at h
    refine AX.seq ?_
    refine AX.reg (its := []) [2, 3, 5, 6, 7, 22, 23, 24, 25] [0, 1, 2, 3] (s1 := ⟨[(2, .pt 0 0), (3, .pt 1 0), (5, .sl 2 0 v5.length), (6, .sl 3 0 v6.length), (7, .v (.slice none 0 0)), (22, .bs false 2 (List.map enc_si p1)), (23, .v (.int .i64 (p1.length : Int))), (24, .v (.int .i64 v7)), (25, .v (.bool (decide (v7 < (p1.length : Int)))))], [(0, .box [.bs false 2 (List.map enc_si p1)]), (1, .box [.bs false 2 (List.map enc_si p2)]), (2, .arr 4 (List.map enc_isii v5)), (3, .arr 4 (List.map enc_isii v6))]⟩) (C := True) (by kernel_rfl) trivial trivial ?_
    refine AX.seq ?_
    rcases bool_cases (decide (v7 < (p1.length : Int))) with b5 | b5
    · replace h := cd_t b5 h
      refine AX.condT (decide (v7 < (p1.length : Int))) (by kernel_rfl) b5 ?_
      refine AX.skip ?_
      refine AX.seq ?_
      refine AX.block ?_
      refine AX.seq ?_
      obtain ⟨g6, h⟩ := gd_e h
      refine AX.reg (its := [.auto { y := some (.be 2 (enc_si (gt p1 v7)) 0) }, .auto {}, .auto { nk := 4 }]) [2, 3, 5, 6, 7, 9, 22, 23, 24] [0, 1, 2, 3, 4] (s1 := ⟨[(2, .pt 0 0), (3, .pt 1 0), (5, .sl 2 0 v5.length), (6, .sl 3 0 v6.length), (7, .v (.slice none 0 0)), (9, .pt 4 0), (22, .bs false 2 (List.map enc_si p1)), (23, .v (.int .i64 (p1.length : Int))), (24, .v (.int .i64 v7))], [(0, .box [.bs false 2 (List.map enc_si p1)]), (1, .box [.bs false 2 (List.map enc_si p2)]), (2, .arr 4 (List.map enc_isii v5)), (3, .arr 4 (List.map enc_isii v6)), (4, .box [.v (.string ((gt p1 v7).1)), .v (.int .i64 ((gt p1 v7).2))])]⟩) (C := ((0 ≤ v7 ∧ v7 < ((List.map enc_si p1).length : Int)) ∧ (AV.be 2 ((List.map enc_si p1).getD v7.toNat []) 0 = AV.be 2 (enc_si (gt p1 v7)) 0)) ∧ True) (by kernel_rfl) ⟨idx_bs enc_si p1 v7 2 g6, trivial⟩ trivial ?_
      refine AX.seq ?_
      obtain ⟨x8, e7, h⟩ := bd_e h
      refine AX.reg (its := [.auto {}, .auto {}, .auto {}, .auto {}, .call 32 [.bs false 2 (List.map enc_si p2), .v (.string ((gt p1 v7).1))] (handO (rho ([] ++ [])) [] [] ++ []) (callEv [] [] (.v (.int .i64 x8)) [])]) [2, 3, 5, 6, 7, 9, 10, 22, 23, 24] [0, 1, 2, 3, 4] (s1 := ⟨[(2, .pt 0 0), (3, .pt 1 0), (5, .sl 2 0 v5.length), (6, .sl 3 0 v6.length), (7, .v (.slice none 0 0)), (9, .pt 4 0), (10, .v (.int .i64 x8)), (22, .bs false 2 (List.map enc_si p1)), (23, .v (.int .i64 (p1.length : Int))), (24, .v (.int .i64 v7))], [(0, .box [.bs false 2 (List.map enc_si p1)]), (1, .box [.bs false 2 (List.map enc_si p2)]), (2, .arr 4 (List.map enc_isii v5)), (3, .arr 4 (List.map enc_isii v6)), (4, .box [.v (.string ((gt p1 v7).1)), .v (.int .i64 ((gt p1 v7).2))])]⟩) (C := ((([.bs false 2 (List.map enc_si p2), .v (.string ((gt p1 v7).1))] : List AV) = [.bs false 2 (List.map enc_si p2), .v (.string ((gt p1 v7).1))]) ∧ True) ∧ True) (by kernel_rfl) ⟨⟨rfl, trivial⟩, trivial⟩ ⟨call_ok (ks := []) (ns := []) (bor := []) (bobjs := []) (s_impl_named p2 ((gt p1 v7).1) x8 e7) (.cons (.c1 (.c0 (.same _ (by kernel_rfl) (by kernel_rfl)))) (.cons (.c1 (.c0 (.same _ (by kernel_rfl) (by kernel_rfl)))) (.nil))) (by kernel_rfl) trivial, trivial⟩ ?_
      refine AX.block ?_
      refine AX.seq ?_
      refine AX.reg (its := []) [2, 3, 5, 6, 7, 9, 10, 22, 23, 24, 33] [0, 1, 2, 3, 4] (s1 := ⟨[(2, .pt 0 0), (3, .pt 1 0), (5, .sl 2 0 v5.length), (6, .sl 3 0 v6.length), (7, .v (.slice none 0 0)), (9, .pt 4 0), (10, .v (.int .i64 x8)), (22, .bs false 2 (List.map enc_si p1)), (23, .v (.int .i64 (p1.length : Int))), (24, .v (.int .i64 v7)), (33, .v (.bool (decide (x8 < 0))))], [(0, .box [.bs false 2 (List.map enc_si p1)]), (1, .box [.bs false 2 (List.map enc_si p2)]), (2, .arr 4 (List.map enc_isii v5)), (3, .arr 4 (List.map enc_isii v6)), (4, .box [.v (.string ((gt p1 v7).1)), .v (.int .i64 ((gt p1 v7).2))])]⟩) (C := True) (by kernel_rfl) trivial trivial ?_
      rcases bool_cases (decide (x8 < 0)) with b8 | b8
      · replace h := cd_t b8 h
        refine AX.condT (decide (x8 < 0)) (by kernel_rfl) b8 ?_
        obtain ⟨g9, h⟩ := gd_e h
        refine AX.reg (its := [.auto {}, .auto {}, .auto {}, .auto {}, .auto {}, .auto {}, .auto { nk := 5 }, .auto { y := some (.sl 6 0 ((v5 ++ ([(1, (gt p1 v7).1, (gt p1 v7).2, 0)] : List (Int × ByteArray × Int × Int))).length)), els := some (List.map enc_isii v5), els2 := some (List.map enc_isii ([(1, (gt p1 v7).1, (gt p1 v7).2, 0)] : List (Int × ByteArray × Int × Int))), nk := 6 }]) [2, 3, 5, 6, 7, 22, 23, 24] [0, 1, 3, 6] (s1 := ⟨[(2, .pt 0 0), (3, .pt 1 0), (5, .sl 6 0 ((v5 ++ ([(1, (gt p1 v7).1, (gt p1 v7).2, 0)] : List (Int × ByteArray × Int × Int))).length)), (6, .sl 3 0 v6.length), (7, .v (.slice none 0 0)), (22, .bs false 2 (List.map enc_si p1)), (23, .v (.int .i64 (p1.length : Int))), (24, .v (.int .i64 v7))], [(0, .box [.bs false 2 (List.map enc_si p1)]), (1, .box [.bs false 2 (List.map enc_si p2)]), (3, .arr 4 (List.map enc_isii v6)), (6, .arr 4 (List.map enc_isii v5 ++ List.map enc_isii ([(1, (gt p1 v7).1, (gt p1 v7).2, 0)] : List (Int × ByteArray × Int × Int))))]⟩) (C := ((((((List.map enc_isii v5).drop 0).take (v5.length) = List.map enc_isii v5) ∧ (((List.map enc_isii ([(1, (gt p1 v7).1, (gt p1 v7).2, 0)] : List (Int × ByteArray × Int × Int))).drop 0).take (([(1, (gt p1 v7).1, (gt p1 v7).2, 0)] : List (Int × ByteArray × Int × Int)).length) = List.map enc_isii ([(1, (gt p1 v7).1, (gt p1 v7).2, 0)] : List (Int × ByteArray × Int × Int)))) ∧ (List.map enc_isii v5).length + (List.map enc_isii ([(1, (gt p1 v7).1, (gt p1 v7).2, 0)] : List (Int × ByteArray × Int × Int))).length ≤ 1099511627776) ∧ (AV.sl 6 0 (List.map enc_isii v5 ++ List.map enc_isii ([(1, (gt p1 v7).1, (gt p1 v7).2, 0)] : List (Int × ByteArray × Int × Int))).length = AV.sl 6 0 (v5 ++ ([(1, (gt p1 v7).1, (gt p1 v7).2, 0)] : List (Int × ByteArray × Int × Int))).length)) ∧ True) (by kernel_rfl) ⟨⟨⟨⟨(dt_all (enc := enc_isii) rfl rfl), (dt_all (enc := enc_isii) rfl rfl)⟩, (by simp only [List.length_map, List.length_nil, List.length_replicate]; simpa using g9)⟩, sl_len (enc := enc_isii) (app_can (enc := enc_isii) rfl (rfl))⟩, trivial⟩ trivial ?_
        refine AX.reg (its := [.auto { raw := true }]) [2, 3, 5, 6, 7, 22, 23, 24] [0, 1, 3, 6] (s1 := ⟨[(2, .pt 0 0), (3, .pt 1 0), (5, .sl 6 0 ((v5 ++ ([(1, (gt p1 v7).1, (gt p1 v7).2, 0)] : List (Int × ByteArray × Int × Int))).length)), (6, .sl 3 0 v6.length), (7, .v (.slice none 0 0)), (22, .bs false 2 (List.map enc_si p1)), (23, .v (.int .i64 (p1.length : Int))), (24, .v (.int .i64 (IntKind.wrap .i64 (v7 + 1))))], [(0, .box [.bs false 2 (List.map enc_si p1)]), (1, .box [.bs false 2 (List.map enc_si p2)]), (3, .arr 4 (List.map enc_isii v6)), (6, .arr 4 (List.map enc_isii v5 ++ List.map enc_isii ([(1, (gt p1 v7).1, (gt p1 v7).2, 0)] : List (Int × ByteArray × Int × Int))))]⟩) (C := True) (by kernel_rfl) trivial trivial ?_
        refine ⟨(fu, (v5 ++ ([(1, (gt p1 v7).1, (gt p1 v7).2, 0)] : List (Int × ByteArray × Int × Int)), v6, IntKind.wrap .i64 (v7 + 1))), h, Nat.lt_succ_self _, ?_⟩
        refine Wk.trans (Wk.swap 2 6 (Nat.le_of_ble_eq_true (by kernel_rfl)) (Nat.le_of_ble_eq_true (by kernel_rfl)) rfl) ?_
        refine Wk.trans (Wk.forget [2, 3, 5, 6, 7, 22, 23, 24] [0, 1, 2, 3] (s' := ⟨[(2, .pt 0 0), (3, .pt 1 0), (5, .sl 2 0 ((v5 ++ ([(1, (gt p1 v7).1, (gt p1 v7).2, 0)] : List (Int × ByteArray × Int × Int))).length)), (6, .sl 3 0 v6.length), (7, .v (.slice none 0 0)), (22, .bs false 2 (List.map enc_si p1)), (23, .v (.int .i64 (p1.length : Int))), (24, .v (.int .i64 (IntKind.wrap .i64 (v7 + 1))))], [(0, .box [.bs false 2 (List.map enc_si p1)]), (1, .box [.bs false 2 (List.map enc_si p2)]), (2, .arr 4 (List.map enc_isii v5 ++ List.map enc_isii ([(1, (gt p1 v7).1, (gt p1 v7).2, 0)] : List (Int × ByteArray × Int × Int)))), (3, .arr 4 (List.map enc_isii v6))]⟩) (by kernel_rfl)) ?_
        refine Wk.trans (Wk.of_eq (congrArg (fun z => (⟨[(2, .pt 0 0), (3, .pt 1 0), (5, .sl 2 0 ((v5 ++ ([(1, (gt p1 v7).1, (gt p1 v7).2, 0)] : List (Int × ByteArray × Int × Int))).length)), (6, .sl 3 0 v6.length), (7, .v (.slice none 0 0)), (22, .bs false 2 (List.map enc_si p1)), (23, .v (.int .i64 (p1.length : Int))), (24, .v (.int .i64 (IntKind.wrap .i64 (v7 + 1))))], [(0, .box [.bs false 2 (List.map enc_si p1)]), (1, .box [.bs false 2 (List.map enc_si p2)]), (2, .arr 4 (z)), (3, .arr 4 (List.map enc_isii v6))]⟩ : S)) (app_can (enc := enc_isii) rfl (rfl) : List.map enc_isii v5 ++ List.map enc_isii ([(1, (gt p1 v7).1, (gt p1 v7).2, 0)] : List (Int × ByteArray × Int × Int)) = List.map enc_isii (v5 ++ ([(1, (gt p1 v7).1, (gt p1 v7).2, 0)] : List (Int × ByteArray × Int × Int)))))) ?_
        exact Wk.refl _
      · replace h := cd_f b8 h
        refine AX.condF (decide (x8 < 0)) (by kernel_rfl) b8 ?_
        refine AX.seq ?_
        obtain ⟨g10, h⟩ := gd_e h
        refine AX.drw mixed (its := [.auto {}, .auto {}, .auto {}, .auto { y := some (.be 2 (enc_si (gt p2 x8)) 0) }]) [2, 3, 5, 6, 7, 9, 10, 22, 23, 24, 44] [0, 1, 2, 3, 4] (s1 := ⟨[(2, .pt 0 0), (3, .pt 1 0), (5, .sl 2 0 v5.length), (6, .sl 3 0 v6.length), (7, .v (.slice none 0 0)), (9, .pt 4 0), (10, .v (.int .i64 x8)), (22, .bs false 2 (List.map enc_si p1)), (23, .v (.int .i64 (p1.length : Int))), (24, .v (.int .i64 v7)), (44, .v (.bool (!decide (((gt p2 x8).2) = ((gt p1 v7).2)))))], [(0, .box [.bs false 2 (List.map enc_si p1)]), (1, .box [.bs false 2 (List.map enc_si p2)]), (2, .arr 4 (List.map enc_isii v5)), (3, .arr 4 (List.map enc_isii v6)), (4, .box [.v (.string ((gt p1 v7).1)), .v (.int .i64 ((gt p1 v7).2))])]⟩) (C := ((0 ≤ x8 ∧ x8 < ((List.map enc_si p2).length : Int)) ∧ (AV.be 2 ((List.map enc_si p2).getD x8.toNat []) 0 = AV.be 2 (enc_si (gt p2 x8)) 0)) ∧ True) (by kernel_rfl) ⟨idx_bs enc_si p2 x8 2 g10, trivial⟩ trivial ?_
        rcases bool_cases ((!decide (((gt p2 x8).2) = ((gt p1 v7).2)))) with b11 | b11
        · replace h := cd_t b11 h
          refine AX.condT ((!decide (((gt p2 x8).2) = ((gt p1 v7).2)))) (by kernel_rfl) b11 ?_
          obtain ⟨g12, h⟩ := gd_e h
          refine AX.drw mixed (its := [.auto {}, .auto {}, .auto {}, .auto {}, .auto {}, .auto {}, .auto {}, .auto {}, .auto { y := some (.be 2 (enc_si (gt p2 x8)) 0) }, .auto {}, .auto {}, .auto {}, .auto { nk := 5 }, .auto { y := some (.sl 6 0 ((v6 ++ ([(2, (gt p1 v7).1, (gt p1 v7).2, (gt p2 x8).2)] : List (Int × ByteArray × Int × Int))).length)), els := some (List.map enc_isii v6), els2 := some (List.map enc_isii ([(2, (gt p1 v7).1, (gt p1 v7).2, (gt p2 x8).2)] : List (Int × ByteArray × Int × Int))), nk := 6 }]) [2, 3, 5, 6, 7, 22, 23, 24] [0, 1, 2, 6] (s1 := ⟨[(2, .pt 0 0), (3, .pt 1 0), (5, .sl 2 0 v5.length), (6, .sl 6 0 ((v6 ++ ([(2, (gt p1 v7).1, (gt p1 v7).2, (gt p2 x8).2)] : List (Int × ByteArray × Int × Int))).length)), (7, .v (.slice none 0 0)), (22, .bs false 2 (List.map enc_si p1)), (23, .v (.int .i64 (p1.length : Int))), (24, .v (.int .i64 v7))], [(0, .box [.bs false 2 (List.map enc_si p1)]), (1, .box [.bs false 2 (List.map enc_si p2)]), (2, .arr 4 (List.map enc_isii v5)), (6, .arr 4 (List.map enc_isii v6 ++ List.map enc_isii ([(2, (gt p1 v7).1, (gt p1 v7).2, (gt p2 x8).2)] : List (Int × ByteArray × Int × Int))))]⟩) (C := ((0 ≤ x8 ∧ x8 < ((List.map enc_si p2).length : Int)) ∧ (AV.be 2 ((List.map enc_si p2).getD x8.toNat []) 0 = AV.be 2 (enc_si (gt p2 x8)) 0)) ∧ ((((((List.map enc_isii v6).drop 0).take (v6.length) = List.map enc_isii v6) ∧ (((List.map enc_isii ([(2, (gt p1 v7).1, (gt p1 v7).2, (gt p2 x8).2)] : List (Int × ByteArray × Int × Int))).drop 0).take (([(2, (gt p1 v7).1, (gt p1 v7).2, (gt p2 x8).2)] : List (Int × ByteArray × Int × Int)).length) = List.map enc_isii ([(2, (gt p1 v7).1, (gt p1 v7).2, (gt p2 x8).2)] : List (Int × ByteArray × Int × Int)))) ∧ (List.map enc_isii v6).length + (List.map enc_isii ([(2, (gt p1 v7).1, (gt p1 v7).2, (gt p2 x8).2)] : List (Int × ByteArray × Int × Int))).length ≤ 1099511627776) ∧ (AV.sl 6 0 (List.map enc_isii v6 ++ List.map enc_isii ([(2, (gt p1 v7).1, (gt p1 v7).2, (gt p2 x8).2)] : List (Int × ByteArray × Int × Int))).length = AV.sl 6 0 (v6 ++ ([(2, (gt p1 v7).1, (gt p1 v7).2, (gt p2 x8).2)] : List (Int × ByteArray × Int × Int))).length)) ∧ True) (by kernel_rfl) ⟨idx_bs enc_si p2 x8 2 g10, ⟨⟨⟨⟨(dt_all (enc := enc_isii) rfl rfl), (dt_all (enc := enc_isii) rfl rfl)⟩, (by simp only [List.length_map, List.length_nil, List.length_replicate]; simpa using g12)⟩, sl_len (enc := enc_isii) (app_can (enc := enc_isii) rfl (rfl))⟩, trivial⟩⟩ trivial ?_
          refine AX.reg (its := [.auto { raw := true }]) [2, 3, 5, 6, 7, 22, 23, 24] [0, 1, 2, 6] (s1 := ⟨[(2, .pt 0 0), (3, .pt 1 0), (5, .sl 2 0 v5.length), (6, .sl 6 0 ((v6 ++ ([(2, (gt p1 v7).1, (gt p1 v7).2, (gt p2 x8).2)] : List (Int × ByteArray × Int × Int))).length)), (7, .v (.slice none 0 0)), (22, .bs false 2 (List.map enc_si p1)), (23, .v (.int .i64 (p1.length : Int))), (24, .v (.int .i64 (IntKind.wrap .i64 (v7 + 1))))], [(0, .box [.bs false 2 (List.map enc_si p1)]), (1, .box [.bs false 2 (List.map enc_si p2)]), (2, .arr 4 (List.map enc_isii v5)), (6, .arr 4 (List.map enc_isii v6 ++ List.map enc_isii ([(2, (gt p1 v7).1, (gt p1 v7).2, (gt p2 x8).2)] : List (Int × ByteArray × Int × Int))))]⟩) (C := True) (by kernel_rfl) trivial trivial ?_
          refine ⟨(fu, (v5, v6 ++ ([(2, (gt p1 v7).1, (gt p1 v7).2, (gt p2 x8).2)] : List (Int × ByteArray × Int × Int)), IntKind.wrap .i64 (v7 + 1))), h, Nat.lt_succ_self _, ?_⟩
          refine Wk.trans (Wk.swap 3 6 (Nat.le_of_ble_eq_true (by kernel_rfl)) (Nat.le_of_ble_eq_true (by kernel_rfl)) rfl) ?_
          refine Wk.trans (Wk.forget [2, 3, 5, 6, 7, 22, 23, 24] [0, 1, 2, 3] (s' := ⟨[(2, .pt 0 0), (3, .pt 1 0), (5, .sl 2 0 v5.length), (6, .sl 3 0 ((v6 ++ ([(2, (gt p1 v7).1, (gt p1 v7).2, (gt p2 x8).2)] : List (Int × ByteArray × Int × Int))).length)), (7, .v (.slice none 0 0)), (22, .bs false 2 (List.map enc_si p1)), (23, .v (.int .i64 (p1.length : Int))), (24, .v (.int .i64 (IntKind.wrap .i64 (v7 + 1))))], [(0, .box [.bs false 2 (List.map enc_si p1)]), (1, .box [.bs false 2 (List.map enc_si p2)]), (2, .arr 4 (List.map enc_isii v5)), (3, .arr 4 (List.map enc_isii v6 ++ List.map enc_isii ([(2, (gt p1 v7).1, (gt p1 v7).2, (gt p2 x8).2)] : List (Int × ByteArray × Int × Int))))]⟩) (by kernel_rfl)) ?_
          refine Wk.trans (Wk.of_eq (congrArg (fun z => (⟨[(2, .pt 0 0), (3, .pt 1 0), (5, .sl 2 0 v5.length), (6, .sl 3 0 ((v6 ++ ([(2, (gt p1 v7).1, (gt p1 v7).2, (gt p2 x8).2)] : List (Int × ByteArray × Int × Int))).length)), (7, .v (.slice none 0 0)), (22, .bs false 2 (List.map enc_si p1)), (23, .v (.int .i64 (p1.length : Int))), (24, .v (.int .i64 (IntKind.wrap .i64 (v7 + 1))))], [(0, .box [.bs false 2 (List.map enc_si p1)]), (1, .box [.bs false 2 (List.map enc_si p2)]), (2, .arr 4 (List.map enc_isii v5)), (3, .arr 4 (z))]⟩ : S)) (app_can (enc := enc_isii) rfl (rfl) : List.map enc_isii v6 ++ List.map enc_isii ([(2, (gt p1 v7).1, (gt p1 v7).2, (gt p2 x8).2)] : List (Int × ByteArray × Int × Int)) = List.map enc_isii (v6 ++ ([(2, (gt p1 v7).1, (gt p1 v7).2, (gt p2 x8).2)] : List (Int × ByteArray × Int × Int)))))) ?_
          exact Wk.refl _
        · replace h := cd_f b11 h
          refine AX.condF ((!decide (((gt p2 x8).2) = ((gt p1 v7).2)))) (by kernel_rfl) b11 ?_
          refine AX.skip ?_
          refine AX.reg (its := [.auto { raw := true }]) [2, 3, 5, 6, 7, 22, 23, 24] [0, 1, 2, 3] (s1 := ⟨[(2, .pt 0 0), (3, .pt 1 0), (5, .sl 2 0 v5.length), (6, .sl 3 0 v6.length), (7, .v (.slice none 0 0)), (22, .bs false 2 (List.map enc_si p1)), (23, .v (.int .i64 (p1.length : Int))), (24, .v (.int .i64 (IntKind.wrap .i64 (v7 + 1))))], [(0, .box [.bs false 2 (List.map enc_si p1)]), (1, .box [.bs false 2 (List.map enc_si p2)]), (2, .arr 4 (List.map enc_isii v5)), (3, .arr 4 (List.map enc_isii v6))]⟩) (C := True) (by kernel_rfl) trivial trivial ?_
          refine ⟨(fu, (v5, v6, IntKind.wrap .i64 (v7 + 1))), h, Nat.lt_succ_self _, ?_⟩
          refine Wk.trans (Wk.forget [2, 3, 5, 6, 7, 22, 23, 24] [0, 1, 2, 3] (s' := ⟨[(2, .pt 0 0), (3, .pt 1 0), (5, .sl 2 0 v5.length), (6, .sl 3 0 v6.length), (7, .v (.slice none 0 0)), (22, .bs false 2 (List.map enc_si p1)), (23, .v (.int .i64 (p1.length : Int))), (24, .v (.int .i64 (IntKind.wrap .i64 (v7 + 1))))], [(0, .box [.bs false 2 (List.map enc_si p1)]), (1, .box [.bs false 2 (List.map enc_si p2)]), (2, .arr 4 (List.map enc_isii v5)), (3, .arr 4 (List.map enc_isii v6))]⟩) (by kernel_rfl)) ?_
          exact Wk.refl _
    · replace h := cd_f b5 h
      refine AX.condF (decide (v7 < (p1.length : Int))) (by kernel_rfl) b5 ?_
      refine AX.exit ?_
      refine fin_wk (Wk.forget [2, 3, 5, 6, 7] [0, 1, 2, 3] (s' := ⟨[(2, .pt 0 0), (3, .pt 1 0), (5, .sl 2 0 v5.length), (6, .sl 3 0 v6.length), (7, .v (.slice none 0 0))], [(0, .box [.bs false 2 (List.map enc_si p1)]), (1, .box [.bs false 2 (List.map enc_si p2)]), (2, .arr 4 (List.map enc_isii v5)), (3, .arr 4 (List.map enc_isii v6))]⟩) (by kernel_rfl)) ?_
      have hr := Option.some.inj h
      subst hr
      exact ⟨_, Wk.refl _, ⟨rfl, rfl⟩⟩

theorem s_impl_DiffEnums_L2 (p1 : List (ByteArray × Int)) (p2 : List (ByteArray × Int)) (x9 : (List (Int × ByteArray × Int × Int)) × (List (Int × ByteArray × Int × Int))) (n : Nat) (g : (List (Int × ByteArray × Int × Int)) × Int) (out : List (Int × ByteArray × Int × Int)) (h : m_impl_DiffEnums_L2 p1 p2 x9 n g.1 g.2 = some out) :
    AX Try.prog 97 0 (codeAt [1, 1, 1, 1, 0, 1, 1] (bodyOf Try.f23)) ((fun g : (List (Int × ByteArray × Int × Int)) × Int => (⟨[(2, .pt 0 0), (5, .sl 1 0 x9.1.length), (6, .sl 2 0 x9.2.length), (7, .sl 3 0 g.1.length), (70, .bs false 2 (List.map enc_si p2)), (71, .v (.int .i64 (p2.length : Int))), (72, .v (.int .i64 g.2))], [(0, .box [.bs false 2 (List.map enc_si p1)]), (1, .arr 4 (List.map enc_isii x9.1)), (2, .arr 4 (List.map enc_isii x9.2)), (3, .arr 4 (List.map enc_isii g.1))]⟩ : S)) g) (fun ex s => ex = .exit 3 ∧ s = (fun o : List (Int × ByteArray × Int × Int) => (⟨[(5, .sl 0 0 x9.1.length), (6, .sl 1 0 x9.2.length), (7, .sl 2 0 o.length)], [(0, .arr 4 (List.map enc_isii x9.1)), (1, .arr 4 (List.map enc_isii x9.2)), (2, .arr 4 (List.map enc_isii o))]⟩ : S)) out) := by
  refine AX.wkpost ?_
  refine AX.loop (G := Nat × ((List (Int × ByteArray × Int × Int)) × Int)) (fun q => (fun g : (List (Int × ByteArray × Int × Int)) × Int => (⟨[(2, .pt 0 0), (5, .sl 1 0 x9.1.length), (6, .sl 2 0 x9.2.length), (7, .sl 3 0 g.1.length), (70, .bs false 2 (List.map enc_si p2)), (71, .v (.int .i64 (p2.length : Int))), (72, .v (.int .i64 g.2))], [(0, .box [.bs false 2 (List.map enc_si p1)]), (1, .arr 4 (List.map enc_isii x9.1)), (2, .arr 4 (List.map enc_isii x9.2)), (3, .arr 4 (List.map enc_isii g.1))]⟩ : S)) q.2) (fun q => m_impl_DiffEnums_L2 p1 p2 x9 q.1 q.2.1 q.2.2 = some out) (fun q => q.1) (n, g) h (Wk.refl _) ?_
  clear h
  rintro ⟨fu, v10, v11⟩ h
  cases fu with
  | zero => cases h
  | succ fu =>
    rw [m_impl_DiffEnums_L2] at h
    refine AX.seq ?_
    refine AX.reg (its := []) [2, 5, 6, 7, 70, 71, 72, 73] [0, 1, 2, 3] (s1 := ⟨[(2, .pt 0 0), (5, .sl 1 0 x9.1.length), (6, .sl 2 0 x9.2.length), (7, .sl 3 0 v10.length), (70, .bs false 2 (List.map enc_si p2)), (71, .v (.int .i64 (p2.length : Int))), (72, .v (.int .i64 v11)), (73, .v (.bool (decide (v11 < (p2.length : Int)))))], [(0, .box [.bs false 2 (List.map enc_si p1)]), (1, .arr 4 (List.map enc_isii x9.1)), (2, .arr 4 (List.map enc_isii x9.2)), (3, .arr 4 (List.map enc_isii v10))]⟩) (C := True) (by kernel_rfl) trivial trivial ?_
    refine AX.seq ?_
    rcases bool_cases (decide (v11 < (p2.length : Int))) with b14 | b14
    · replace h := cd_t b14 h
      refine AX.condT (decide (v11 < (p2.length : Int))) (by kernel_rfl) b14 ?_
      refine AX.skip ?_
      refine AX.seq ?_
      refine AX.block ?_
      refine AX.seq ?_
      obtain ⟨g15, h⟩ := gd_e h
      refine AX.reg (its := [.auto { y := some (.be 2 (enc_si (gt p2 v11)) 0) }, .auto {}, .auto { nk := 4 }]) [2, 5, 6, 7, 12, 70, 71, 72] [0, 1, 2, 3, 4] (s1 := ⟨[(2, .pt 0 0), (5, .sl 1 0 x9.1.length), (6, .sl 2 0 x9.2.length), (7, .sl 3 0 v10.length), (12, .pt 4 0), (70, .bs false 2 (List.map enc_si p2)), (71, .v (.int .i64 (p2.length : Int))), (72, .v (.int .i64 v11))], [(0, .box [.bs false 2 (List.map enc_si p1)]), (1, .arr 4 (List.map enc_isii x9.1)), (2, .arr 4 (List.map enc_isii x9.2)), (3, .arr 4 (List.map enc_isii v10)), (4, .box [.v (.string ((gt p2 v11).1)), .v (.int .i64 ((gt p2 v11).2))])]⟩) (C := ((0 ≤ v11 ∧ v11 < ((List.map enc_si p2).length : Int)) ∧ (AV.be 2 ((List.map enc_si p2).getD v11.toNat []) 0 = AV.be 2 (enc_si (gt p2 v11)) 0)) ∧ True) (by kernel_rfl) ⟨idx_bs enc_si p2 v11 2 g15, trivial⟩ trivial ?_
      refine AX.seq ?_
      obtain ⟨x12, e16, h⟩ := bd_e h
      refine AX.reg (its := [.auto {}, .auto {}, .auto {}, .auto {}, .call 32 [.bs false 2 (List.map enc_si p1), .v (.string ((gt p2 v11).1))] (handO (rho ([] ++ [])) [] [] ++ []) (callEv [] [] (.v (.int .i64 x12)) [])]) [2, 5, 6, 7, 12, 70, 71, 72, 81] [0, 1, 2, 3, 4] (s1 := ⟨[(2, .pt 0 0), (5, .sl 1 0 x9.1.length), (6, .sl 2 0 x9.2.length), (7, .sl 3 0 v10.length), (12, .pt 4 0), (70, .bs false 2 (List.map enc_si p2)), (71, .v (.int .i64 (p2.length : Int))), (72, .v (.int .i64 v11)), (81, .v (.bool (decide (x12 < 0))))], [(0, .box [.bs false 2 (List.map enc_si p1)]), (1, .arr 4 (List.map enc_isii x9.1)), (2, .arr 4 (List.map enc_isii x9.2)), (3, .arr 4 (List.map enc_isii v10)), (4, .box [.v (.string ((gt p2 v11).1)), .v (.int .i64 ((gt p2 v11).2))])]⟩) (C := ((([.bs false 2 (List.map enc_si p1), .v (.string ((gt p2 v11).1))] : List AV) = [.bs false 2 (List.map enc_si p1), .v (.string ((gt p2 v11).1))]) ∧ True) ∧ True) (by kernel_rfl) ⟨⟨rfl, trivial⟩, trivial⟩ ⟨call_ok (ks := []) (ns := []) (bor := []) (bobjs := []) (s_impl_named p1 ((gt p2 v11).1) x12 e16) (.cons (.c1 (.c0 (.same _ (by kernel_rfl) (by kernel_rfl)))) (.cons (.c1 (.c0 (.same _ (by kernel_rfl) (by kernel_rfl)))) (.nil))) (by kernel_rfl) trivial, trivial⟩ ?_
      rcases bool_cases (decide (x12 < 0)) with b17 | b17
      · replace h := cd_t b17 h
        refine AX.condT (decide (x12 < 0)) (by kernel_rfl) b17 ?_
        obtain ⟨g18, h⟩ := gd_e h
        refine AX.reg (its := [.auto {}, .auto {}, .auto {}, .auto {}, .auto {}, .auto {}, .auto { nk := 5 }, .auto { y := some (.sl 6 0 ((v10 ++ ([(0, (gt p2 v11).1, 0, (gt p2 v11).2)] : List (Int × ByteArray × Int × Int))).length)), els := some (List.map enc_isii v10), els2 := some (List.map enc_isii ([(0, (gt p2 v11).1, 0, (gt p2 v11).2)] : List (Int × ByteArray × Int × Int))), nk := 6 }]) [2, 5, 6, 7, 70, 71, 72] [0, 1, 2, 6] (s1 := ⟨[(2, .pt 0 0), (5, .sl 1 0 x9.1.length), (6, .sl 2 0 x9.2.length), (7, .sl 6 0 ((v10 ++ ([(0, (gt p2 v11).1, 0, (gt p2 v11).2)] : List (Int × ByteArray × Int × Int))).length)), (70, .bs false 2 (List.map enc_si p2)), (71, .v (.int .i64 (p2.length : Int))), (72, .v (.int .i64 v11))], [(0, .box [.bs false 2 (List.map enc_si p1)]), (1, .arr 4 (List.map enc_isii x9.1)), (2, .arr 4 (List.map enc_isii x9.2)), (6, .arr 4 (List.map enc_isii v10 ++ List.map enc_isii ([(0, (gt p2 v11).1, 0, (gt p2 v11).2)] : List (Int × ByteArray × Int × Int))))]⟩) (C := ((((((List.map enc_isii v10).drop 0).take (v10.length) = List.map enc_isii v10) ∧ (((List.map enc_isii ([(0, (gt p2 v11).1, 0, (gt p2 v11).2)] : List (Int × ByteArray × Int × Int))).drop 0).take (([(0, (gt p2 v11).1, 0, (gt p2 v11).2)] : List (Int × ByteArray × Int × Int)).length) = List.map enc_isii ([(0, (gt p2 v11).1, 0, (gt p2 v11).2)] : List (Int × ByteArray × Int × Int)))) ∧ (List.map enc_isii v10).length + (List.map enc_isii ([(0, (gt p2 v11).1, 0, (gt p2 v11).2)] : List (Int × ByteArray × Int × Int))).length ≤ 1099511627776) ∧ (AV.sl 6 0 (List.map enc_isii v10 ++ List.map enc_isii ([(0, (gt p2 v11).1, 0, (gt p2 v11).2)] : List (Int × ByteArray × Int × Int))).length = AV.sl 6 0 (v10 ++ ([(0, (gt p2 v11).1, 0, (gt p2 v11).2)] : List (Int × ByteArray × Int × Int))).length)) ∧ True) (by kernel_rfl) ⟨⟨⟨⟨(dt_all (enc := enc_isii) rfl rfl), (dt_all (enc := enc_isii) rfl rfl)⟩, (by simp only [List.length_map, List.length_nil, List.length_replicate]; simpa using g18)⟩, sl_len (enc := enc_isii) (app_can (enc := enc_isii) rfl (rfl))⟩, trivial⟩ trivial ?_
        refine AX.reg (its := [.auto { raw := true }]) [2, 5, 6, 7, 70, 71, 72] [0, 1, 2, 6] (s1 := ⟨[(2, .pt 0 0), (5, .sl 1 0 x9.1.length), (6, .sl 2 0 x9.2.length), (7, .sl 6 0 ((v10 ++ ([(0, (gt p2 v11).1, 0, (gt p2 v11).2)] : List (Int × ByteArray × Int × Int))).length)), (70, .bs false 2 (List.map enc_si p2)), (71, .v (.int .i64 (p2.length : Int))), (72, .v (.int .i64 (IntKind.wrap .i64 (v11 + 1))))], [(0, .box [.bs false 2 (List.map enc_si p1)]), (1, .arr 4 (List.map enc_isii x9.1)), (2, .arr 4 (List.map enc_isii x9.2)), (6, .arr 4 (List.map enc_isii v10 ++ List.map enc_isii ([(0, (gt p2 v11).1, 0, (gt p2 v11).2)] : List (Int × ByteArray × Int × Int))))]⟩) (C := True) (by kernel_rfl) trivial trivial ?_
        refine ⟨(fu, (v10 ++ ([(0, (gt p2 v11).1, 0, (gt p2 v11).2)] : List (Int × ByteArray × Int × Int)), IntKind.wrap .i64 (v11 + 1))), h, Nat.lt_succ_self _, ?_⟩
        refine Wk.trans (Wk.swap 3 6 (Nat.le_of_ble_eq_true (by kernel_rfl)) (Nat.le_of_ble_eq_true (by kernel_rfl)) rfl) ?_
        refine Wk.trans (Wk.forget [2, 5, 6, 7, 70, 71, 72] [0, 1, 2, 3] (s' := ⟨[(2, .pt 0 0), (5, .sl 1 0 x9.1.length), (6, .sl 2 0 x9.2.length), (7, .sl 3 0 ((v10 ++ ([(0, (gt p2 v11).1, 0, (gt p2 v11).2)] : List (Int × ByteArray × Int × Int))).length)), (70, .bs false 2 (List.map enc_si p2)), (71, .v (.int .i64 (p2.length : Int))), (72, .v (.int .i64 (IntKind.wrap .i64 (v11 + 1))))], [(0, .box [.bs false 2 (List.map enc_si p1)]), (1, .arr 4 (List.map enc_isii x9.1)), (2, .arr 4 (List.map enc_isii x9.2)), (3, .arr 4 (List.map enc_isii v10 ++ List.map enc_isii ([(0, (gt p2 v11).1, 0, (gt p2 v11).2)] : List (Int × ByteArray × Int × Int))))]⟩) (by kernel_rfl)) ?_
        refine Wk.trans (Wk.of_eq (congrArg (fun z => (⟨[(2, .pt 0 0), (5, .sl 1 0 x9.1.length), (6, .sl 2 0 x9.2.length), (7, .sl 3 0 ((v10 ++ ([(0, (gt p2 v11).1, 0, (gt p2 v11).2)] : List (Int × ByteArray × Int × Int))).length)), (70, .bs false 2 (List.map enc_si p2)), (71, .v (.int .i64 (p2.length : Int))), (72, .v (.int .i64 (IntKind.wrap .i64 (v11 + 1))))], [(0, .box [.bs false 2 (List.map enc_si p1)]), (1, .arr 4 (List.map enc_isii x9.1)), (2, .arr 4 (List.map enc_isii x9.2)), (3, .arr 4 (z))]⟩ : S)) (app_can (enc := enc_isii) rfl (rfl) : List.map enc_isii v10 ++ List.map enc_isii ([(0, (gt p2 v11).1, 0, (gt p2 v11).2)] : List (Int × ByteArray × Int × Int)) = List.map enc_isii (v10 ++ ([(0, (gt p2 v11).1, 0, (gt p2 v11).2)] : List (Int × ByteArray × Int × Int)))))) ?_
        exact Wk.refl _
      · replace h := cd_f b17 h
        refine AX.condF (decide (x12 < 0)) (by kernel_rfl) b17 ?_
        refine AX.skip ?_
        refine AX.reg (its := [.auto { raw := true }]) [2, 5, 6, 7, 70, 71, 72] [0, 1, 2, 3] (s1 := ⟨[(2, .pt 0 0), (5, .sl 1 0 x9.1.length), (6, .sl 2 0 x9.2.length), (7, .sl 3 0 v10.length), (70, .bs false 2 (List.map enc_si p2)), (71, .v (.int .i64 (p2.length : Int))), (72, .v (.int .i64 (IntKind.wrap .i64 (v11 + 1))))], [(0, .box [.bs false 2 (List.map enc_si p1)]), (1, .arr 4 (List.map enc_isii x9.1)), (2, .arr 4 (List.map enc_isii x9.2)), (3, .arr 4 (List.map enc_isii v10))]⟩) (C := True) (by kernel_rfl) trivial trivial ?_
        refine ⟨(fu, (v10, IntKind.wrap .i64 (v11 + 1))), h, Nat.lt_succ_self _, ?_⟩
        refine Wk.trans (Wk.forget [2, 5, 6, 7, 70, 71, 72] [0, 1, 2, 3] (s' := ⟨[(2, .pt 0 0), (5, .sl 1 0 x9.1.length), (6, .sl 2 0 x9.2.length), (7, .sl 3 0 v10.length), (70, .bs false 2 (List.map enc_si p2)), (71, .v (.int .i64 (p2.length : Int))), (72, .v (.int .i64 (IntKind.wrap .i64 (v11 + 1))))], [(0, .box [.bs false 2 (List.map enc_si p1)]), (1, .arr 4 (List.map enc_isii x9.1)), (2, .arr 4 (List.map enc_isii x9.2)), (3, .arr 4 (List.map enc_isii v10))]⟩) (by kernel_rfl)) ?_
        exact Wk.refl _
    · replace h := cd_f b14 h
      refine AX.condF (decide (v11 < (p2.length : Int))) (by kernel_rfl) b14 ?_
      refine AX.exit ?_
      refine fin_wk (Wk.swap 0 1 (Nat.le_of_ble_eq_true (by kernel_rfl)) (Nat.le_of_ble_eq_true (by kernel_rfl)) rfl) ?_
      refine fin_wk (Wk.swap 1 2 (Nat.le_of_ble_eq_true (by kernel_rfl)) (Nat.le_of_ble_eq_true (by kernel_rfl)) rfl) ?_
      refine fin_wk (Wk.swap 2 3 (Nat.le_of_ble_eq_true (by kernel_rfl)) (Nat.le_of_ble_eq_true (by kernel_rfl)) rfl) ?_
      refine fin_wk (Wk.forget [5, 6, 7] [0, 1, 2] (s' := ⟨[(5, .sl 0 0 x9.1.length), (6, .sl 1 0 x9.2.length), (7, .sl 2 0 v10.length)], [(0, .arr 4 (List.map enc_isii x9.1)), (1, .arr 4 (List.map enc_isii x9.2)), (2, .arr 4 (List.map enc_isii v10))]⟩) (by kernel_rfl)) ?_
      have hr := Option.some.inj h
      subst hr
      exact ⟨_, Wk.refl _, ⟨rfl, rfl⟩⟩

theorem s_impl_DiffEnums (p1 : List (ByteArray × Int)) (p2 : List (ByteArray × Int)) (r : List (Int × ByteArray × Int × Int)) (h : m_impl_DiffEnums p1 p2 = some r) :
    Eng.Spec Try.prog 23 [.agg [.bs false 2 (List.map enc_si p1)], .agg [.bs false 2 (List.map enc_si p2)]] [] (.sl 0 0 r.length) [.arr 4 (List.map enc_isii r)] := by
  unfold m_impl_DiffEnums at h
  refine Eng.Spec.body Try.func23 (by kernel_rfl) rfl (by kernel_rfl) ?_
  refine AX.wkpost ?_
  refine AX.seq ?_
  refine AX.reg (its := [.auto { nk := 0 }, .auto { nk := 1 }]) [2, 3] [0, 1] (s1 := ⟨[(2, .pt 0 0), (3, .pt 1 0)], [(0, .box [.bs false 2 (List.map enc_si p1)]), (1, .box [.bs false 2 (List.map enc_si p2)])]⟩) (C := True) (by kernel_rfl) trivial trivial ?_
  refine AX.seq ?_
  refine AX.seq ?_
  obtain ⟨x3, e1, h⟩ := bd_e h
  rcases bool_cases ((!x3)) with b2 | b2
  · replace h := cd_t b2 h
    refine AX.reg (its := [.auto {}, .call 9 [.agg [.bs false 2 (List.map enc_si p1)]] (handO (rho ([] ++ [])) [] [] ++ []) (callEv [] [] (.v (.bool x3)) []), .auto { y := some (.v (.bool true)) }]) [2, 3, 20] [0, 1] (s1 := ⟨[(2, .pt 0 0), (3, .pt 1 0), (20, .v (.bool true))], [(0, .box [.bs false 2 (List.map enc_si p1)]), (1, .box [.bs false 2 (List.map enc_si p2)])]⟩) (C := ((([.agg [.bs false 2 (List.map enc_si p1)]] : List AV) = [.agg [.bs false 2 (List.map enc_si p1)]]) ∧ True) ∧ ((True) ∧ ((.v (.bool (!x3)) : AV) = (.v (.bool true) : AV))) ∧ True) (by kernel_rfl) ⟨⟨rfl, trivial⟩, ⟨⟨trivial, (congrArg (fun z => AV.v (.bool z)) b2)⟩, trivial⟩⟩ ⟨call_ok (ks := []) (ns := []) (bor := []) (bobjs := []) (s_impl_ValidEnum p1 x3 e1) (.cons (.c1 (.agg (.cons (.same _ (by kernel_rfl) (by kernel_rfl)) (.nil)))) (.nil)) (by kernel_rfl) trivial, trivial⟩ ?_
    refine AX.cond_true (by kernel_rfl) ?_
    refine AX.seq ?_
    refine AX.reg (its := []) [4] [] (s1 := ⟨[(4, .v (.slice none 0 0))], []⟩) (C := True) (by kernel_rfl) trivial trivial ?_
    refine AX.ret ?_
    refine fin_wk (Wk.mat 4 0 4 (by kernel_rfl) (Nat.le_of_ble_eq_true (by kernel_rfl)) (by kernel_rfl) rfl) ?_
    refine fin_wk (Wk.forget [4] [0] (s' := ⟨[(4, .sl 0 0 (([] : List (Int × ByteArray × Int × Int)).length))], [(0, .arr 4 (List.map enc_isii ([] : List (Int × ByteArray × Int × Int))))]⟩) (by kernel_rfl)) ?_
    have hr := Option.some.inj h
    subst hr
    exact ⟨_, Wk.refl _, .inr rfl, ⟨[0], by kernel_rfl, ⟨rfl, trivial⟩, [.sl 0 0 (([] : List (Int × ByteArray × Int × Int)).length)], by kernel_rfl, by kernel_rfl⟩⟩
  · replace h := cd_f b2 h
    obtain ⟨x4, e3, h⟩ := bd_e h
    refine AX.reg (its := [.auto {}, .call 9 [.agg [.bs false 2 (List.map enc_si p1)]] (handO (rho ([] ++ [])) [] [] ++ []) (callEv [] [] (.v (.bool x3)) []), .auto { y := some (.v (.bool false)) }, .auto {}, .auto {}, .call 9 [.agg [.bs false 2 (List.map enc_si p2)]] (handO (rho ([] ++ [])) [] [] ++ []) (callEv [] [] (.v (.bool x4)) [])]) [2, 3, 20] [0, 1] (s1 := ⟨[(2, .pt 0 0), (3, .pt 1 0), (20, .v (.bool (!x4)))], [(0, .box [.bs false 2 (List.map enc_si p1)]), (1, .box [.bs false 2 (List.map enc_si p2)])]⟩) (C := ((([.agg [.bs false 2 (List.map enc_si p1)]] : List AV) = [.agg [.bs false 2 (List.map enc_si p1)]]) ∧ True) ∧ ((True) ∧ ((.v (.bool (!x3)) : AV) = (.v (.bool false) : AV))) ∧ ((([.agg [.bs false 2 (List.map enc_si p2)]] : List AV) = [.agg [.bs false 2 (List.map enc_si p2)]]) ∧ True) ∧ True) (by kernel_rfl) ⟨⟨rfl, trivial⟩, ⟨⟨trivial, (congrArg (fun z => AV.v (.bool z)) b2)⟩, ⟨⟨rfl, trivial⟩, trivial⟩⟩⟩ ⟨call_ok (ks := []) (ns := []) (bor := []) (bobjs := []) (s_impl_ValidEnum p1 x3 e1) (.cons (.c1 (.agg (.cons (.same _ (by kernel_rfl) (by kernel_rfl)) (.nil)))) (.nil)) (by kernel_rfl) trivial, ⟨call_ok (ks := []) (ns := []) (bor := []) (bobjs := []) (s_impl_ValidEnum p2 x4 e3) (.cons (.c1 (.agg (.cons (.same _ (by kernel_rfl) (by kernel_rfl)) (.nil)))) (.nil)) (by kernel_rfl) trivial, trivial⟩⟩ ?_
    rcases bool_cases ((!x4)) with b4 | b4
    · replace h := cd_t b4 h
      refine AX.condT ((!x4)) (by kernel_rfl) b4 ?_
      refine AX.seq ?_
      refine AX.reg (its := []) [4] [] (s1 := ⟨[(4, .v (.slice none 0 0))], []⟩) (C := True) (by kernel_rfl) trivial trivial ?_
      refine AX.ret ?_
      refine fin_wk (Wk.mat 4 0 4 (by kernel_rfl) (Nat.le_of_ble_eq_true (by kernel_rfl)) (by kernel_rfl) rfl) ?_
      refine fin_wk (Wk.forget [4] [0] (s' := ⟨[(4, .sl 0 0 (([] : List (Int × ByteArray × Int × Int)).length))], [(0, .arr 4 (List.map enc_isii ([] : List (Int × ByteArray × Int × Int))))]⟩) (by kernel_rfl)) ?_
      have hr := Option.some.inj h
      subst hr
      exact ⟨_, Wk.refl _, .inr rfl, ⟨[0], by kernel_rfl, ⟨rfl, trivial⟩, [.sl 0 0 (([] : List (Int × ByteArray × Int × Int)).length)], by kernel_rfl, by kernel_rfl⟩⟩
    · replace h := cd_f b4 h
      refine AX.condF ((!x4)) (by kernel_rfl) b4 ?_
      refine AX.skip ?_
      refine AX.seq ?_
      refine AX.reg (its := []) [2, 3, 5, 6, 7] [0, 1] (s1 := ⟨[(2, .pt 0 0), (3, .pt 1 0), (5, .v (.slice none 0 0)), (6, .v (.slice none 0 0)), (7, .v (.slice none 0 0))], [(0, .box [.bs false 2 (List.map enc_si p1)]), (1, .box [.bs false 2 (List.map enc_si p2)])]⟩) (C := True) (by kernel_rfl) trivial trivial ?_
      refine AX.seq ?_
      refine AX.seq ?_
      refine AX.reg (its := [.auto {}, .auto {}, .auto { y := some (.v (.int .i64 (p1.length : Int))) }]) [2, 3, 5, 6, 7, 22, 23, 24] [0, 1] (s1 := ⟨[(2, .pt 0 0), (3, .pt 1 0), (5, .v (.slice none 0 0)), (6, .v (.slice none 0 0)), (7, .v (.slice none 0 0)), (22, .bs false 2 (List.map enc_si p1)), (23, .v (.int .i64 (p1.length : Int))), (24, .v (.int .i64 0))], [(0, .box [.bs false 2 (List.map enc_si p1)]), (1, .box [.bs false 2 (List.map enc_si p2)])]⟩) (C := (True ∧ (AV.v (.int .i64 ((List.map enc_si p1).length : Int)) = AV.v (.int .i64 (p1.length : Int)))) ∧ True) (by kernel_rfl) ⟨⟨trivial, len_map enc_si p1⟩, trivial⟩ trivial ?_
      refine AX.block ?_
      obtain ⟨x9, e13, h⟩ := bd_e h
      refine AX.wk (Wk.mat 5 2 4 (by kernel_rfl) (Nat.le_of_ble_eq_true (by kernel_rfl)) (by kernel_rfl) rfl) ?_
      refine AX.wk (Wk.mat 6 3 4 (by kernel_rfl) (Nat.le_of_ble_eq_true (by kernel_rfl)) (by kernel_rfl) rfl) ?_
      refine AX.wk (Wk.forget [2, 3, 5, 6, 7, 22, 23, 24] [0, 1, 2, 3] (s' := ⟨[(2, .pt 0 0), (3, .pt 1 0), (5, .sl 2 0 (([] : List (Int × ByteArray × Int × Int)).length)), (6, .sl 3 0 (([] : List (Int × ByteArray × Int × Int)).length)), (7, .v (.slice none 0 0)), (22, .bs false 2 (List.map enc_si p1)), (23, .v (.int .i64 (p1.length : Int))), (24, .v (.int .i64 0))], [(0, .box [.bs false 2 (List.map enc_si p1)]), (1, .box [.bs false 2 (List.map enc_si p2)]), (2, .arr 4 (List.map enc_isii ([] : List (Int × ByteArray × Int × Int)))), (3, .arr 4 (List.map enc_isii ([] : List (Int × ByteArray × Int × Int))))]⟩) (by kernel_rfl)) ?_
      refine AX.mono (s_impl_DiffEnums_L1 p1 p2 FU (([] : List (Int × ByteArray × Int × Int)), ([] : List (Int × ByteArray × Int × Int)), 0) x9 e13) ?_
      rintro _ _ ⟨rfl, rfl⟩
      skip
      refine AX.seq ?_
      refine AX.seq ?_
      refine AX.reg (its := [.auto {}, .auto {}, .auto { y := some (.v (.int .i64 (p2.length : Int))) }]) [2, 5, 6, 7, 70, 71, 72] [0, 2, 3] (s1 := ⟨[(2, .pt 0 0), (5, .sl 2 0 x9.1.length), (6, .sl 3 0 x9.2.length), (7, .v (.slice none 0 0)), (70, .bs false 2 (List.map enc_si p2)), (71, .v (.int .i64 (p2.length : Int))), (72, .v (.int .i64 0))], [(0, .box [.bs false 2 (List.map enc_si p1)]), (2, .arr 4 (List.map enc_isii x9.1)), (3, .arr 4 (List.map enc_isii x9.2))]⟩) (C := (True ∧ (AV.v (.int .i64 ((List.map enc_si p2).length : Int)) = AV.v (.int .i64 (p2.length : Int)))) ∧ True) (by kernel_rfl) ⟨⟨trivial, len_map enc_si p2⟩, trivial⟩ trivial ?_
      refine AX.block ?_
      obtain ⟨x13, e19, h⟩ := bd_e h
      refine AX.wk (Wk.mat 7 4 4 (by kernel_rfl) (Nat.le_of_ble_eq_true (by kernel_rfl)) (by kernel_rfl) rfl) ?_
      refine AX.wk (Wk.swap 1 2 (Nat.le_of_ble_eq_true (by kernel_rfl)) (Nat.le_of_ble_eq_true (by kernel_rfl)) rfl) ?_
      refine AX.wk (Wk.swap 2 3 (Nat.le_of_ble_eq_true (by kernel_rfl)) (Nat.le_of_ble_eq_true (by kernel_rfl)) rfl) ?_
      refine AX.wk (Wk.swap 3 4 (Nat.le_of_ble_eq_true (by kernel_rfl)) (Nat.le_of_ble_eq_true (by kernel_rfl)) rfl) ?_
      refine AX.wk (Wk.forget [2, 5, 6, 7, 70, 71, 72] [0, 1, 2, 3] (s' := ⟨[(2, .pt 0 0), (5, .sl 1 0 x9.1.length), (6, .sl 2 0 x9.2.length), (7, .sl 3 0 (([] : List (Int × ByteArray × Int × Int)).length)), (70, .bs false 2 (List.map enc_si p2)), (71, .v (.int .i64 (p2.length : Int))), (72, .v (.int .i64 0))], [(0, .box [.bs false 2 (List.map enc_si p1)]), (1, .arr 4 (List.map enc_isii x9.1)), (2, .arr 4 (List.map enc_isii x9.2)), (3, .arr 4 (List.map enc_isii ([] : List (Int × ByteArray × Int × Int))))]⟩) (by kernel_rfl)) ?_
      refine AX.mono (s_impl_DiffEnums_L2 p1 p2 x9 FU (([] : List (Int × ByteArray × Int × Int)), 0) x13 e19) ?_
      rintro _ _ ⟨rfl, rfl⟩
      skip
      refine AX.seq ?_
      obtain ⟨x14, e20, h⟩ := bd_e h
      obtain ⟨x15, e21, h⟩ := bd_e h
      refine AX.reg (its := [.auto {}, .auto {}, .auto {}, .auto { raw := true, nk := 3 }, .call 42 [.sx 3 3] (handO (rho ([] ++ [4])) [] [] ++ [(3, .box [.sl 0 0 x9.1.length, .sl 1 0 x9.2.length, .sl 2 0 x13.length]), (0, .arr 4 (List.map enc_isii x9.1)), (1, .arr 4 (List.map enc_isii x9.2)), (2, .arr 4 (List.map enc_isii x13))]) (callEv [] [4] (.sl 0 0 x14.length) [.arr 4 (List.map enc_isii x14)]), .call 21 [.sl 4 0 x14.length] (handO (rho ([4] ++ [])) [4] [.arr 4 (List.map enc_isii x14)] ++ []) (callEv [4] [] (.sl 0 0 x14.length) [.arr 4 (List.map enc_isii x14)])]) [4] [4] (s1 := ⟨[(4, .sl 4 0 x14.length)], [(4, .arr 4 (List.map enc_isii x14))]⟩) (C := ((([.sx 3 3] : List AV) = [.sx 3 3]) ∧ (AO.box [.sl 0 0 x9.1.length, .sl 1 0 x9.2.length, .sl 2 0 x13.length] = AO.box [.sl 0 0 x9.1.length, .sl 1 0 x9.2.length, .sl 2 0 x13.length]) ∧ (AO.arr 4 (List.map enc_isii x9.1) = AO.arr 4 (List.map enc_isii x9.1)) ∧ (AO.arr 4 (List.map enc_isii x9.2) = AO.arr 4 (List.map enc_isii x9.2)) ∧ (AO.arr 4 (List.map enc_isii x13) = AO.arr 4 (List.map enc_isii x13)) ∧ True) ∧ ((([.sl 4 0 x14.length] : List AV) = [.sl 4 0 x14.length]) ∧ (AO.arr 4 (List.map enc_isii x14) = AO.arr 4 (List.map enc_isii x14)) ∧ True) ∧ True) (by kernel_rfl) ⟨⟨rfl, rfl, rfl, rfl, rfl, trivial⟩, ⟨⟨rfl, rfl, trivial⟩, trivial⟩⟩ ⟨call_ok (ks := []) (ns := [4]) (bor := [3, 0, 1, 2]) (bobjs := [(3, .box [.sl 0 0 x9.1.length, .sl 1 0 x9.2.length, .sl 2 0 x13.length]), (0, .arr 4 (List.map enc_isii x9.1)), (1, .arr 4 (List.map enc_isii x9.2)), (2, .arr 4 (List.map enc_isii x13))]) (s_slices_Concat_x3isiiisiiisii x9.1 x9.2 x13 x14 e20) (.cons (.c1 (.sx rfl rfl (.cons (.arr rfl rfl ((rfl).trans (List.length_map ..).symm)) (.cons (.arr rfl rfl ((rfl).trans (List.length_map ..).symm)) (.cons (.arr rfl rfl ((rfl).trans (List.length_map ..).symm)) (.nil)))))) (.nil)) (by kernel_rfl) trivial, ⟨call_ok (ks := [4]) (ns := []) (bor := []) (bobjs := []) (s_slices_Clip_hisii x14 x15 e21) (.cons (.c1 (.c0 (.same _ (by kernel_rfl) (by kernel_rfl)))) (.nil)) (by kernel_rfl) ⟨.inr rfl, trivial⟩, trivial⟩⟩ ?_
      refine AX.ret ?_
      refine fin_wk (Wk.swap 0 4 (Nat.le_of_ble_eq_true (by kernel_rfl)) (Nat.le_of_ble_eq_true (by kernel_rfl)) rfl) ?_
      refine fin_wk (Wk.forget [4] [0] (s' := ⟨[(4, .sl 0 0 x14.length)], [(0, .arr 4 (List.map enc_isii x14))]⟩) (by kernel_rfl)) ?_
      have hr := Option.some.inj h
      subst hr
      exact ⟨_, Wk.refl _, .inr rfl, ⟨[0], by kernel_rfl, ⟨rfl, trivial⟩, [.sl 0 0 x14.length], by kernel_rfl, by kernel_rfl⟩⟩

end Go.Eng
