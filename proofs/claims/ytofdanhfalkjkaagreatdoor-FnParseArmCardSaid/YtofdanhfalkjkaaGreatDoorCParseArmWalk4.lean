/- What is proved here: each function keeps to its model, whatever its arguments, wherever the model has an answer. Printed by gen.py. -/
import Derived.Test.YtofdanhfalkjkaaGreatDoorCParseArmWalk3
import Derived.Test.YtofdanhfalkjkaaGreatDoorProg
import Derived.Test.YtofdanhfalkjkaaGreatDoorCParseArmShelf
import Derived.KernelRfl
set_option linter.unusedVariables false
set_option linter.unusedSimpArgs false
set_option linter.unnecessarySimpa false
namespace Go.Eng
open Go Go.Proofs


theorem s_spec_parseArm (p1 : List (ByteArray × Int)) (p2 : Int) (p3 : ByteArray) (r : Int × Int × Bool) (h : m_spec_parseArm p1 p2 p3 = some r) :
    Eng.Spec Tryz.prog 36 [.agg [.bs false 2 (List.map enc_si p1), .v (.int .i64 p2)], .v (.string p3)] [] (.tup [.agg [.v (.int .i64 r.1), .v (.int .i64 r.2.1)], .v (.bool r.2.2)]) [] := by
  unfold m_spec_parseArm at h
  refine Eng.Spec.body Tryz.func36 (by kernel_rfl) rfl (by kernel_rfl) ?_
  refine AX.wkpost ?_
  refine AX.seq ?_
  refine AX.reg (its := [.auto { nk := 0 }, .auto { nk := 1 }]) [1, 2, 4] [0, 1] (s1 := ⟨[(1, .v (.string p3)), (2, .pt 0 0), (4, .pt 1 0)], [(0, .box [.bs false 2 (List.map enc_si p1), .v (.int .i64 p2)]), (1, .box [.v (.int .i64 0), .v (.int .i64 0)])]⟩) (C := True) (by kernel_rfl) trivial trivial ?_
  refine AX.seq ?_
  refine AX.reg (its := [.auto {}, .auto { nk := 2 }]) [1, 2, 4, 6] [0, 1, 2] (s1 := ⟨[(1, .v (.string p3)), (2, .pt 0 0), (4, .pt 1 0), (6, .pt 2 0)], [(0, .box [.bs false 2 (List.map enc_si p1), .v (.int .i64 p2)]), (1, .box [.v (.int .i64 0), .v (.int .i64 0)]), (2, .box [.v (.int .i64 0), .v (.int .i64 0)])]⟩) (C := True) (by kernel_rfl) trivial trivial ?_
  refine AX.seq ?_
  refine AX.seq ?_
  refine AX.reg (its := []) [1, 2, 4, 6, 14] [0, 1, 2] (s1 := ⟨[(1, .v (.string p3)), (2, .pt 0 0), (4, .pt 1 0), (6, .pt 2 0), (14, .v (.bool (decide (p3 = (ByteArray.mk #[42])))))], [(0, .box [.bs false 2 (List.map enc_si p1), .v (.int .i64 p2)]), (1, .box [.v (.int .i64 0), .v (.int .i64 0)]), (2, .box [.v (.int .i64 0), .v (.int .i64 0)])]⟩) (C := True) (by kernel_rfl) trivial trivial ?_
  rcases bool_cases (decide (p3 = (ByteArray.mk #[42]))) with b1 | b1
  · replace h := cd_t b1 h
    refine AX.condT (decide (p3 = (ByteArray.mk #[42]))) (by kernel_rfl) b1 ?_
    refine AX.seq ?_
    refine AX.reg (its := []) [4, 5] [1] (s1 := ⟨[(4, .pt 1 0), (5, .v (.bool true))], [(1, .box [.v (.int .i64 0), .v (.int .i64 0)])]⟩) (C := True) (by kernel_rfl) trivial trivial ?_
    refine AX.ret ?_
    refine fin_wk (Wk.swap 0 1 (Nat.le_of_ble_eq_true (by kernel_rfl)) (Nat.le_of_ble_eq_true (by kernel_rfl)) rfl) ?_
    refine fin_wk (Wk.forget [4, 5] [0] (s' := ⟨[(4, .pt 0 0), (5, .v (.bool true))], [(0, .box [.v (.int .i64 0), .v (.int .i64 0)])]⟩) (by kernel_rfl)) ?_
    have hr := Option.some.inj h
    subst hr
    exact ⟨_, Wk.refl _, .inr rfl, ⟨[], by kernel_rfl, trivial, [.agg [.v (.int .i64 0), .v (.int .i64 0)], .v (.bool true)], by kernel_rfl, by kernel_rfl⟩⟩
  · replace h := cd_f b1 h
    refine AX.condF (decide (p3 = (ByteArray.mk #[42]))) (by kernel_rfl) b1 ?_
    refine AX.skip ?_
    refine AX.seq ?_
    obtain ⟨x4, e2, h⟩ := bd_e h
    refine AX.reg (its := [.auto {}, .call 70 [.v (.string p3), .v (.int .u8 32)] (handO (rho ([] ++ [3])) [] [] ++ []) (callEv [] [3] (.sl 0 0 x4.length) [.arr 1 (List.map enc_s x4)])]) [1, 2, 4, 6, 7] [0, 1, 2, 3] (s1 := ⟨[(1, .v (.string p3)), (2, .pt 0 0), (4, .pt 1 0), (6, .pt 2 0), (7, .sl 3 0 x4.length)], [(0, .box [.bs false 2 (List.map enc_si p1), .v (.int .i64 p2)]), (1, .box [.v (.int .i64 0), .v (.int .i64 0)]), (2, .box [.v (.int .i64 0), .v (.int .i64 0)]), (3, .arr 1 (List.map enc_s x4))]⟩) (C := ((([.v (.string p3), .v (.int .u8 32)] : List AV) = [.v (.string p3), .v (.int .u8 32)]) ∧ True) ∧ True) (by kernel_rfl) ⟨⟨rfl, trivial⟩, trivial⟩ ⟨call_ok (ks := []) (ns := [3]) (bor := []) (bobjs := []) (s_spec_splitAt p3 32 x4 e2) (.cons (.c1 (.c0 (.same _ (by kernel_rfl) (by kernel_rfl)))) (.cons (.c1 (.c0 (.same _ (by kernel_rfl) (by kernel_rfl)))) (.nil))) (by kernel_rfl) trivial, trivial⟩ ?_
    refine AX.seq ?_
    refine AX.seq ?_
    refine AX.reg (its := []) [1, 2, 4, 6, 7, 8] [0, 1, 2, 3] (s1 := ⟨[(1, .v (.string p3)), (2, .pt 0 0), (4, .pt 1 0), (6, .pt 2 0), (7, .sl 3 0 x4.length), (8, .v (.int .i64 0))], [(0, .box [.bs false 2 (List.map enc_si p1), .v (.int .i64 p2)]), (1, .box [.v (.int .i64 0), .v (.int .i64 0)]), (2, .box [.v (.int .i64 0), .v (.int .i64 0)]), (3, .arr 1 (List.map enc_s x4))]⟩) (C := True) (by kernel_rfl) trivial trivial ?_
    refine AX.block ?_
    obtain ⟨x15, e22, h⟩ := bd_e h
    refine AX.wk (Wk.forget [1, 2, 4, 6, 7, 8] [0, 1, 2, 3] (s' := ⟨[(1, .v (.string p3)), (2, .pt 0 0), (4, .pt 1 0), (6, .pt 2 0), (7, .sl 3 0 x4.length), (8, .v (.int .i64 0))], [(0, .box [.bs false 2 (List.map enc_si p1), .v (.int .i64 p2)]), (1, .box [.v (.int .i64 0), .v (.int .i64 0)]), (2, .box [.v (.int .i64 0), .v (.int .i64 0)]), (3, .arr 1 (List.map enc_s x4))]⟩) (by kernel_rfl)) ?_
    refine AX.mono (s_spec_parseArm_L1 p1 p2 p3 x4 FU (0, 0, 0) x15 e22) ?_
    rintro _ _ (⟨x16, rfl, rfl, rfl⟩ | ⟨x17, rfl, rfl, rfl⟩)
    · replace h := sm_l h
      refine fin_wk (Wk.forget [4, 5] [0] (s' := ⟨[(4, .pt 0 0), (5, .v (.bool false))], [(0, .box [.v (.int .i64 0), .v (.int .i64 0)])]⟩) (by kernel_rfl)) ?_
      have hr := Option.some.inj h
      subst hr
      exact ⟨_, Wk.refl _, .inr rfl, ⟨[], by kernel_rfl, trivial, [.agg [.v (.int .i64 0), .v (.int .i64 0)], .v (.bool false)], by kernel_rfl, by kernel_rfl⟩⟩
    · replace h := sm_r h
      refine AX.seq ?_
      obtain ⟨x18, e23, h⟩ := bd_e h
      rcases bool_cases (x18) with b24 | b24
      · replace h := cd_t b24 h
        obtain ⟨x19, e25, h⟩ := bd_e h
        rcases bool_cases (x19) with b26 | b26
        · replace h := cd_t b26 h
          obtain ⟨x20, e27, h⟩ := bd_e h
          refine AX.drw mixed (its := [.auto {}, .auto {}, .auto {}, .call 73 [.agg [.bs false 2 (List.map enc_si p1), .v (.int .i64 p2)], .agg [.v (.int .i64 x17.1), .v (.int .i64 x17.2)]] (handO (rho ([] ++ [])) [] [] ++ []) (callEv [] [] (.v (.bool true)) []), .auto {}, .auto {}, .auto {}, .call 74 [.agg [.bs false 2 (List.map enc_si p1), .v (.int .i64 p2)], .agg [.v (.int .i64 x17.1), .v (.int .i64 x17.2)]] (handO (rho ([] ++ [])) [] [] ++ []) (callEv [] [] (.v (.bool true)) []), .auto {}, .auto {}, .auto {}, .auto {}, .call 28 [.agg [.bs false 2 (List.map enc_si p1), .v (.int .i64 p2)], .agg [.v (.int .i64 x17.1), .v (.int .i64 x17.2)]] (handO (rho ([] ++ [])) [] [] ++ []) (callEv [] [] (.v (.string x20)) [])]) [4, 5] [1] (s1 := ⟨[(4, .pt 1 0), (5, .v (.bool (decide (x20 = p3))))], [(1, .box [.v (.int .i64 x17.1), .v (.int .i64 x17.2)])]⟩) (C := ((([.agg [.bs false 2 (List.map enc_si p1), .v (.int .i64 p2)], .agg [.v (.int .i64 x17.1), .v (.int .i64 x17.2)]] : List AV) = [.agg [.bs false 2 (List.map enc_si p1), .v (.int .i64 p2)], .agg [.v (.int .i64 x17.1), .v (.int .i64 x17.2)]]) ∧ True) ∧ ((([.agg [.bs false 2 (List.map enc_si p1), .v (.int .i64 p2)], .agg [.v (.int .i64 x17.1), .v (.int .i64 x17.2)]] : List AV) = [.agg [.bs false 2 (List.map enc_si p1), .v (.int .i64 p2)], .agg [.v (.int .i64 x17.1), .v (.int .i64 x17.2)]]) ∧ True) ∧ ((([.agg [.bs false 2 (List.map enc_si p1), .v (.int .i64 p2)], .agg [.v (.int .i64 x17.1), .v (.int .i64 x17.2)]] : List AV) = [.agg [.bs false 2 (List.map enc_si p1), .v (.int .i64 p2)], .agg [.v (.int .i64 x17.1), .v (.int .i64 x17.2)]]) ∧ True) ∧ True) (by kernel_rfl) ⟨⟨rfl, trivial⟩, ⟨⟨rfl, trivial⟩, ⟨⟨rfl, trivial⟩, trivial⟩⟩⟩ ⟨call_ok (ks := []) (ns := []) (bor := []) (bobjs := []) (show Eng.Spec Tryz.prog 73 [.agg [.bs false 2 (List.map enc_si p1), .v (.int .i64 p2)], .agg [.v (.int .i64 x17.1), .v (.int .i64 x17.2)]] [] (.v (.bool true)) [] from by have q := s_spec_validArm p1 p2 x17.1 x17.2 x18 e23; rw [b24] at q; exact q) (.cons (.c1 (.agg (.cons (.same _ (by kernel_rfl) (by kernel_rfl)) (.cons (.same _ (by kernel_rfl) (by kernel_rfl)) (.nil))))) (.cons (.c1 (.agg (.cons (.same _ (by kernel_rfl) (by kernel_rfl)) (.cons (.same _ (by kernel_rfl) (by kernel_rfl)) (.nil))))) (.nil))) (by kernel_rfl) trivial, ⟨call_ok (ks := []) (ns := []) (bor := []) (bobjs := []) (show Eng.Spec Tryz.prog 74 [.agg [.bs false 2 (List.map enc_si p1), .v (.int .i64 p2)], .agg [.v (.int .i64 x17.1), .v (.int .i64 x17.2)]] [] (.v (.bool true)) [] from by have q := s_spec_canTell p1 p2 x17.1 x17.2 x19 e25; rw [b26] at q; exact q) (.cons (.c1 (.agg (.cons (.same _ (by kernel_rfl) (by kernel_rfl)) (.cons (.same _ (by kernel_rfl) (by kernel_rfl)) (.nil))))) (.cons (.c1 (.agg (.cons (.same _ (by kernel_rfl) (by kernel_rfl)) (.cons (.same _ (by kernel_rfl) (by kernel_rfl)) (.nil))))) (.nil))) (by kernel_rfl) trivial, ⟨call_ok (ks := []) (ns := []) (bor := []) (bobjs := []) (s_spec_armText p1 p2 x17.1 x17.2 x20 e27) (.cons (.c1 (.agg (.cons (.same _ (by kernel_rfl) (by kernel_rfl)) (.cons (.same _ (by kernel_rfl) (by kernel_rfl)) (.nil))))) (.cons (.c1 (.agg (.cons (.same _ (by kernel_rfl) (by kernel_rfl)) (.cons (.same _ (by kernel_rfl) (by kernel_rfl)) (.nil))))) (.nil))) (by kernel_rfl) trivial, trivial⟩⟩⟩ ?_
          refine AX.ret ?_
          refine fin_wk (Wk.swap 0 1 (Nat.le_of_ble_eq_true (by kernel_rfl)) (Nat.le_of_ble_eq_true (by kernel_rfl)) rfl) ?_
          refine fin_wk (Wk.forget [4, 5] [0] (s' := ⟨[(4, .pt 0 0), (5, .v (.bool (decide (x20 = p3))))], [(0, .box [.v (.int .i64 x17.1), .v (.int .i64 x17.2)])]⟩) (by kernel_rfl)) ?_
          have hr := Option.some.inj h
          subst hr
          exact ⟨_, Wk.refl _, .inr rfl, ⟨[], by kernel_rfl, trivial, [.agg [.v (.int .i64 x17.1), .v (.int .i64 x17.2)], .v (.bool (decide (x20 = p3)))], by kernel_rfl, by kernel_rfl⟩⟩
        · replace h := cd_f b26 h
          refine AX.drw mixed (its := [.auto {}, .auto {}, .auto {}, .call 73 [.agg [.bs false 2 (List.map enc_si p1), .v (.int .i64 p2)], .agg [.v (.int .i64 x17.1), .v (.int .i64 x17.2)]] (handO (rho ([] ++ [])) [] [] ++ []) (callEv [] [] (.v (.bool true)) []), .auto {}, .auto {}, .auto {}, .call 74 [.agg [.bs false 2 (List.map enc_si p1), .v (.int .i64 p2)], .agg [.v (.int .i64 x17.1), .v (.int .i64 x17.2)]] (handO (rho ([] ++ [])) [] [] ++ []) (callEv [] [] (.v (.bool false)) [])]) [4, 5] [1] (s1 := ⟨[(4, .pt 1 0), (5, .v (.bool false))], [(1, .box [.v (.int .i64 x17.1), .v (.int .i64 x17.2)])]⟩) (C := ((([.agg [.bs false 2 (List.map enc_si p1), .v (.int .i64 p2)], .agg [.v (.int .i64 x17.1), .v (.int .i64 x17.2)]] : List AV) = [.agg [.bs false 2 (List.map enc_si p1), .v (.int .i64 p2)], .agg [.v (.int .i64 x17.1), .v (.int .i64 x17.2)]]) ∧ True) ∧ ((([.agg [.bs false 2 (List.map enc_si p1), .v (.int .i64 p2)], .agg [.v (.int .i64 x17.1), .v (.int .i64 x17.2)]] : List AV) = [.agg [.bs false 2 (List.map enc_si p1), .v (.int .i64 p2)], .agg [.v (.int .i64 x17.1), .v (.int .i64 x17.2)]]) ∧ True) ∧ True) (by kernel_rfl) ⟨⟨rfl, trivial⟩, ⟨⟨rfl, trivial⟩, trivial⟩⟩ ⟨call_ok (ks := []) (ns := []) (bor := []) (bobjs := []) (show Eng.Spec Tryz.prog 73 [.agg [.bs false 2 (List.map enc_si p1), .v (.int .i64 p2)], .agg [.v (.int .i64 x17.1), .v (.int .i64 x17.2)]] [] (.v (.bool true)) [] from by have q := s_spec_validArm p1 p2 x17.1 x17.2 x18 e23; rw [b24] at q; exact q) (.cons (.c1 (.agg (.cons (.same _ (by kernel_rfl) (by kernel_rfl)) (.cons (.same _ (by kernel_rfl) (by kernel_rfl)) (.nil))))) (.cons (.c1 (.agg (.cons (.same _ (by kernel_rfl) (by kernel_rfl)) (.cons (.same _ (by kernel_rfl) (by kernel_rfl)) (.nil))))) (.nil))) (by kernel_rfl) trivial, ⟨call_ok (ks := []) (ns := []) (bor := []) (bobjs := []) (show Eng.Spec Tryz.prog 74 [.agg [.bs false 2 (List.map enc_si p1), .v (.int .i64 p2)], .agg [.v (.int .i64 x17.1), .v (.int .i64 x17.2)]] [] (.v (.bool false)) [] from by have q := s_spec_canTell p1 p2 x17.1 x17.2 x19 e25; rw [b26] at q; exact q) (.cons (.c1 (.agg (.cons (.same _ (by kernel_rfl) (by kernel_rfl)) (.cons (.same _ (by kernel_rfl) (by kernel_rfl)) (.nil))))) (.cons (.c1 (.agg (.cons (.same _ (by kernel_rfl) (by kernel_rfl)) (.cons (.same _ (by kernel_rfl) (by kernel_rfl)) (.nil))))) (.nil))) (by kernel_rfl) trivial, trivial⟩⟩ ?_
          refine AX.ret ?_
          refine fin_wk (Wk.swap 0 1 (Nat.le_of_ble_eq_true (by kernel_rfl)) (Nat.le_of_ble_eq_true (by kernel_rfl)) rfl) ?_
          refine fin_wk (Wk.forget [4, 5] [0] (s' := ⟨[(4, .pt 0 0), (5, .v (.bool false))], [(0, .box [.v (.int .i64 x17.1), .v (.int .i64 x17.2)])]⟩) (by kernel_rfl)) ?_
          have hr := Option.some.inj h
          subst hr
          exact ⟨_, Wk.refl _, .inr rfl, ⟨[], by kernel_rfl, trivial, [.agg [.v (.int .i64 x17.1), .v (.int .i64 x17.2)], .v (.bool false)], by kernel_rfl, by kernel_rfl⟩⟩
      · replace h := cd_f b24 h
        refine AX.drw mixed (its := [.auto {}, .auto {}, .auto {}, .call 73 [.agg [.bs false 2 (List.map enc_si p1), .v (.int .i64 p2)], .agg [.v (.int .i64 x17.1), .v (.int .i64 x17.2)]] (handO (rho ([] ++ [])) [] [] ++ []) (callEv [] [] (.v (.bool false)) [])]) [4, 5] [1] (s1 := ⟨[(4, .pt 1 0), (5, .v (.bool false))], [(1, .box [.v (.int .i64 x17.1), .v (.int .i64 x17.2)])]⟩) (C := ((([.agg [.bs false 2 (List.map enc_si p1), .v (.int .i64 p2)], .agg [.v (.int .i64 x17.1), .v (.int .i64 x17.2)]] : List AV) = [.agg [.bs false 2 (List.map enc_si p1), .v (.int .i64 p2)], .agg [.v (.int .i64 x17.1), .v (.int .i64 x17.2)]]) ∧ True) ∧ True) (by kernel_rfl) ⟨⟨rfl, trivial⟩, trivial⟩ ⟨call_ok (ks := []) (ns := []) (bor := []) (bobjs := []) (show Eng.Spec Tryz.prog 73 [.agg [.bs false 2 (List.map enc_si p1), .v (.int .i64 p2)], .agg [.v (.int .i64 x17.1), .v (.int .i64 x17.2)]] [] (.v (.bool false)) [] from by have q := s_spec_validArm p1 p2 x17.1 x17.2 x18 e23; rw [b24] at q; exact q) (.cons (.c1 (.agg (.cons (.same _ (by kernel_rfl) (by kernel_rfl)) (.cons (.same _ (by kernel_rfl) (by kernel_rfl)) (.nil))))) (.cons (.c1 (.agg (.cons (.same _ (by kernel_rfl) (by kernel_rfl)) (.cons (.same _ (by kernel_rfl) (by kernel_rfl)) (.nil))))) (.nil))) (by kernel_rfl) trivial, trivial⟩ ?_
        refine AX.ret ?_
        refine fin_wk (Wk.swap 0 1 (Nat.le_of_ble_eq_true (by kernel_rfl)) (Nat.le_of_ble_eq_true (by kernel_rfl)) rfl) ?_
        refine fin_wk (Wk.forget [4, 5] [0] (s' := ⟨[(4, .pt 0 0), (5, .v (.bool false))], [(0, .box [.v (.int .i64 x17.1), .v (.int .i64 x17.2)])]⟩) (by kernel_rfl)) ?_
        have hr := Option.some.inj h
        subst hr
        exact ⟨_, Wk.refl _, .inr rfl, ⟨[], by kernel_rfl, trivial, [.agg [.v (.int .i64 x17.1), .v (.int .i64 x17.2)], .v (.bool false)], by kernel_rfl, by kernel_rfl⟩⟩

theorem s_spec_ParseArm (p1 : List (ByteArray × Int)) (p2 : Int) (p3 : ByteArray) (r : Int × Int × Bool) (h : m_spec_ParseArm p1 p2 p3 = some r) :
    Eng.Spec Tryz.prog 9 [.agg [.bs false 2 (List.map enc_si p1), .v (.int .i64 p2)], .v (.string p3)] [] (.tup [.agg [.v (.int .i64 r.1), .v (.int .i64 r.2.1)], .v (.bool r.2.2)]) [] := by
  unfold m_spec_ParseArm at h
  refine Eng.Spec.body Tryz.func9 (by kernel_rfl) rfl (by kernel_rfl) ?_
  refine AX.wkpost ?_
  refine AX.seq ?_
  refine AX.reg (its := [.auto { nk := 0 }, .auto { nk := 1 }]) [1, 2, 4] [0, 1] (s1 := ⟨[(1, .v (.string p3)), (2, .pt 0 0), (4, .pt 1 0)], [(0, .box [.bs false 2 (List.map enc_si p1), .v (.int .i64 p2)]), (1, .box [.v (.int .i64 0), .v (.int .i64 0)])]⟩) (C := True) (by kernel_rfl) trivial trivial ?_
  refine AX.seq ?_
  refine AX.seq ?_
  obtain ⟨x4, e1, h⟩ := bd_e h
  refine AX.reg (its := [.auto {}, .call 35 [.agg [.bs false 2 (List.map enc_si p1), .v (.int .i64 p2)]] (handO (rho ([] ++ [])) [] [] ++ []) (callEv [] [] (.v (.bool x4)) [])]) [1, 2, 4, 10] [0, 1] (s1 := ⟨[(1, .v (.string p3)), (2, .pt 0 0), (4, .pt 1 0), (10, .v (.bool (!x4)))], [(0, .box [.bs false 2 (List.map enc_si p1), .v (.int .i64 p2)]), (1, .box [.v (.int .i64 0), .v (.int .i64 0)])]⟩) (C := ((([.agg [.bs false 2 (List.map enc_si p1), .v (.int .i64 p2)]] : List AV) = [.agg [.bs false 2 (List.map enc_si p1), .v (.int .i64 p2)]]) ∧ True) ∧ True) (by kernel_rfl) ⟨⟨rfl, trivial⟩, trivial⟩ ⟨call_ok (ks := []) (ns := []) (bor := []) (bobjs := []) (s_spec_validFlag p1 p2 x4 e1) (.cons (.c1 (.agg (.cons (.same _ (by kernel_rfl) (by kernel_rfl)) (.cons (.same _ (by kernel_rfl) (by kernel_rfl)) (.nil))))) (.nil)) (by kernel_rfl) trivial, trivial⟩ ?_
  rcases bool_cases ((!x4)) with b2 | b2
  · replace h := cd_t b2 h
    refine AX.condT ((!x4)) (by kernel_rfl) b2 ?_
    refine AX.seq ?_
    refine AX.reg (its := []) [4, 5] [1] (s1 := ⟨[(4, .pt 1 0), (5, .v (.bool false))], [(1, .box [.v (.int .i64 0), .v (.int .i64 0)])]⟩) (C := True) (by kernel_rfl) trivial trivial ?_
    refine AX.ret ?_
    refine fin_wk (Wk.swap 0 1 (Nat.le_of_ble_eq_true (by kernel_rfl)) (Nat.le_of_ble_eq_true (by kernel_rfl)) rfl) ?_
    refine fin_wk (Wk.forget [4, 5] [0] (s' := ⟨[(4, .pt 0 0), (5, .v (.bool false))], [(0, .box [.v (.int .i64 0), .v (.int .i64 0)])]⟩) (by kernel_rfl)) ?_
    have hr := Option.some.inj h
    subst hr
    exact ⟨_, Wk.refl _, .inr rfl, ⟨[], by kernel_rfl, trivial, [.agg [.v (.int .i64 0), .v (.int .i64 0)], .v (.bool false)], by kernel_rfl, by kernel_rfl⟩⟩
  · replace h := cd_f b2 h
    refine AX.condF ((!x4)) (by kernel_rfl) b2 ?_
    refine AX.skip ?_
    refine AX.seq ?_
    obtain ⟨x5, e3, h⟩ := bd_e h
    refine AX.reg (its := [.auto {}, .auto {}, .call 36 [.agg [.bs false 2 (List.map enc_si p1), .v (.int .i64 p2)], .v (.string p3)] (handO (rho ([] ++ [])) [] [] ++ []) (callEv [] [] (.tup [.agg [.v (.int .i64 x5.1), .v (.int .i64 x5.2.1)], .v (.bool x5.2.2)]) []), .auto {}, .auto {}, .auto {}, .auto { nk := 2 }]) [4, 6, 7] [1, 2] (s1 := ⟨[(4, .pt 1 0), (6, .pt 2 0), (7, .v (.bool x5.2.2))], [(1, .box [.v (.int .i64 0), .v (.int .i64 0)]), (2, .box [.v (.int .i64 x5.1), .v (.int .i64 x5.2.1)])]⟩) (C := ((([.agg [.bs false 2 (List.map enc_si p1), .v (.int .i64 p2)], .v (.string p3)] : List AV) = [.agg [.bs false 2 (List.map enc_si p1), .v (.int .i64 p2)], .v (.string p3)]) ∧ True) ∧ True) (by kernel_rfl) ⟨⟨rfl, trivial⟩, trivial⟩ ⟨call_ok (ks := []) (ns := []) (bor := []) (bobjs := []) (s_spec_parseArm p1 p2 p3 x5 e3) (.cons (.c1 (.agg (.cons (.same _ (by kernel_rfl) (by kernel_rfl)) (.cons (.same _ (by kernel_rfl) (by kernel_rfl)) (.nil))))) (.cons (.c1 (.c0 (.same _ (by kernel_rfl) (by kernel_rfl)))) (.nil))) (by kernel_rfl) trivial, trivial⟩ ?_
    refine AX.seq ?_
    refine AX.seq ?_
    refine AX.reg (its := []) [4, 6, 19] [1, 2] (s1 := ⟨[(4, .pt 1 0), (6, .pt 2 0), (19, .v (.bool (!x5.2.2)))], [(1, .box [.v (.int .i64 0), .v (.int .i64 0)]), (2, .box [.v (.int .i64 x5.1), .v (.int .i64 x5.2.1)])]⟩) (C := True) (by kernel_rfl) trivial trivial ?_
    rcases bool_cases ((!x5.2.2)) with b4 | b4
    · replace h := cd_t b4 h
      refine AX.condT ((!x5.2.2)) (by kernel_rfl) b4 ?_
      refine AX.seq ?_
      refine AX.reg (its := []) [4, 5] [1] (s1 := ⟨[(4, .pt 1 0), (5, .v (.bool false))], [(1, .box [.v (.int .i64 0), .v (.int .i64 0)])]⟩) (C := True) (by kernel_rfl) trivial trivial ?_
      refine AX.ret ?_
      refine fin_wk (Wk.swap 0 1 (Nat.le_of_ble_eq_true (by kernel_rfl)) (Nat.le_of_ble_eq_true (by kernel_rfl)) rfl) ?_
      refine fin_wk (Wk.forget [4, 5] [0] (s' := ⟨[(4, .pt 0 0), (5, .v (.bool false))], [(0, .box [.v (.int .i64 0), .v (.int .i64 0)])]⟩) (by kernel_rfl)) ?_
      have hr := Option.some.inj h
      subst hr
      exact ⟨_, Wk.refl _, .inr rfl, ⟨[], by kernel_rfl, trivial, [.agg [.v (.int .i64 0), .v (.int .i64 0)], .v (.bool false)], by kernel_rfl, by kernel_rfl⟩⟩
    · replace h := cd_f b4 h
      refine AX.condF ((!x5.2.2)) (by kernel_rfl) b4 ?_
      refine AX.skip ?_
      refine AX.seq ?_
      refine AX.reg (its := []) [4, 5] [1] (s1 := ⟨[(4, .pt 1 0), (5, .v (.bool true))], [(1, .box [.v (.int .i64 x5.1), .v (.int .i64 x5.2.1)])]⟩) (C := True) (by kernel_rfl) trivial trivial ?_
      refine AX.ret ?_
      refine fin_wk (Wk.swap 0 1 (Nat.le_of_ble_eq_true (by kernel_rfl)) (Nat.le_of_ble_eq_true (by kernel_rfl)) rfl) ?_
      refine fin_wk (Wk.forget [4, 5] [0] (s' := ⟨[(4, .pt 0 0), (5, .v (.bool true))], [(0, .box [.v (.int .i64 x5.1), .v (.int .i64 x5.2.1)])]⟩) (by kernel_rfl)) ?_
      have hr := Option.some.inj h
      subst hr
      exact ⟨_, Wk.refl _, .inr rfl, ⟨[], by kernel_rfl, trivial, [.agg [.v (.int .i64 x5.1), .v (.int .i64 x5.2.1)], .v (.bool true)], by kernel_rfl, by kernel_rfl⟩⟩

theorem s_laws_equalArm (p1 : Int) (p2 : Int) (p3 : Int) (p4 : Int) (r : Unit) (h : m_laws_equalArm p1 p2 p3 p4 = some r) :
    Eng.Spec Tryz.prog 10 [.agg [.v (.int .i64 p1), .v (.int .i64 p2)], .agg [.v (.int .i64 p3), .v (.int .i64 p4)]] [] (.v (.bool (decide (p1 = p3) && (decide (p2 = p4) && true)))) [] := by
  unfold m_laws_equalArm at h
  refine Eng.Spec.body Tryz.func10 (by kernel_rfl) rfl (by kernel_rfl) ?_
  refine AX.wkpost ?_
  refine AX.seq ?_
  refine AX.reg (its := [.auto { nk := 0 }, .auto { nk := 1 }]) [2, 3] [0, 1] (s1 := ⟨[(2, .pt 0 0), (3, .pt 1 0)], [(0, .box [.v (.int .i64 p1), .v (.int .i64 p2)]), (1, .box [.v (.int .i64 p3), .v (.int .i64 p4)])]⟩) (C := True) (by kernel_rfl) trivial trivial ?_
  refine AX.seq ?_
  refine AX.reg (its := []) [4] [] (s1 := ⟨[(4, .v (.bool (decide (p1 = p3) && (decide (p2 = p4) && true))))], []⟩) (C := True) (by kernel_rfl) trivial trivial ?_
  refine AX.ret ?_
  refine fin_wk (Wk.forget [4] [] (s' := ⟨[(4, .v (.bool (decide (p1 = p3) && (decide (p2 = p4) && true))))], []⟩) (by kernel_rfl)) ?_
  have hr := Option.some.inj h
  subst hr
  exact ⟨_, Wk.refl _, .inr rfl, ⟨[], by kernel_rfl, trivial, [.v (.bool (decide (p1 = p3) && (decide (p2 = p4) && true)))], by kernel_rfl, by kernel_rfl⟩⟩

theorem s_laws_FnParseArm (p1 : List (Int)) (r : Bool) (h : m_laws_FnParseArm p1 = some r) :
    Eng.Spec Tryz.prog 3 [.bs true 1 (List.map enc_y p1)] [] (.v (.bool r)) [] := by
  unfold m_laws_FnParseArm at h
  refine Eng.Spec.body Tryz.func3 (by kernel_rfl) rfl (by kernel_rfl) ?_
  refine AX.wkpost ?_
  refine AX.seq ?_
  refine AX.reg (its := []) [0] [] (s1 := ⟨[(0, .bs true 1 (List.map enc_y p1))], []⟩) (C := True) (by kernel_rfl) trivial trivial ?_
  refine AX.seq ?_
  refine AX.seq ?_
  refine AX.reg (its := [.auto {}, .auto { y := some (.v (.int .i64 (p1.length : Int))) }]) [0, 11] [] (s1 := ⟨[(0, .bs true 1 (List.map enc_y p1)), (11, .v (.bool (decide (1048576 < (p1.length : Int)))))], []⟩) (C := (True ∧ (AV.v (.int .i64 ((List.map enc_y p1).length : Int)) = AV.v (.int .i64 (p1.length : Int)))) ∧ True) (by kernel_rfl) ⟨⟨trivial, len_map enc_y p1⟩, trivial⟩ trivial ?_
  rcases bool_cases (decide (1048576 < (p1.length : Int))) with b1 | b1
  · replace h := cd_t b1 h
    refine AX.condT (decide (1048576 < (p1.length : Int))) (by kernel_rfl) b1 ?_
    refine AX.seq ?_
    refine AX.reg (its := []) [2] [] (s1 := ⟨[(2, .v (.bool true))], []⟩) (C := True) (by kernel_rfl) trivial trivial ?_
    refine AX.ret ?_
    refine fin_wk (Wk.forget [2] [] (s' := ⟨[(2, .v (.bool true))], []⟩) (by kernel_rfl)) ?_
    have hr := Option.some.inj h
    subst hr
    exact ⟨_, Wk.refl _, .inr rfl, ⟨[], by kernel_rfl, trivial, [.v (.bool true)], by kernel_rfl, by kernel_rfl⟩⟩
  · replace h := cd_f b1 h
    refine AX.condF (decide (1048576 < (p1.length : Int))) (by kernel_rfl) b1 ?_
    refine AX.skip ?_
    refine AX.seq ?_
    obtain ⟨x2, e2, h⟩ := bd_e h
    refine AX.reg (its := [.auto {}, .call 7 [.bs true 1 (List.map enc_y p1)] (handO (rho ([] ++ [0])) [] [] ++ []) (callEv [] [0] (.tup [.agg [.sl 0 0 x2.1.length, .v (.int .i64 x2.2.1)], .v (.string x2.2.2)]) [.arr 2 (List.map enc_si x2.1)]), .auto {}, .auto {}, .auto {}, .auto { nk := 1 }]) [3, 4] [0, 1] (s1 := ⟨[(3, .pt 1 0), (4, .v (.string x2.2.2))], [(0, .arr 2 (List.map enc_si x2.1)), (1, .box [.sl 0 0 x2.1.length, .v (.int .i64 x2.2.1)])]⟩) (C := ((([.bs true 1 (List.map enc_y p1)] : List AV) = [.bs true 1 (List.map enc_y p1)]) ∧ True) ∧ True) (by kernel_rfl) ⟨⟨rfl, trivial⟩, trivial⟩ ⟨call_ok (ks := []) (ns := [0]) (bor := []) (bobjs := []) (s_spec_DrawParseArm p1 x2 e2) (.cons (.c1 (.c0 (.same _ (by kernel_rfl) (by kernel_rfl)))) (.nil)) (by kernel_rfl) trivial, trivial⟩ ?_
    refine AX.seq ?_
    obtain ⟨x3, e3, h⟩ := bd_e h
    refine AX.reg (its := [.auto {}, .auto {}, .call 8 [.agg [.sl 0 0 x2.1.length, .v (.int .i64 x2.2.1)], .v (.string x2.2.2)] (handO (rho ([] ++ [])) [] [] ++ [(0, .arr 2 (List.map enc_si x2.1))]) (callEv [] [] (.tup [.agg [.v (.int .i64 x3.1), .v (.int .i64 x3.2.1)], .v (.bool x3.2.2)]) []), .auto {}, .auto {}, .auto {}, .auto { nk := 2 }]) [3, 4, 5, 6] [0, 1, 2] (s1 := ⟨[(3, .pt 1 0), (4, .v (.string x2.2.2)), (5, .pt 2 0), (6, .v (.bool x3.2.2))], [(0, .arr 2 (List.map enc_si x2.1)), (1, .box [.sl 0 0 x2.1.length, .v (.int .i64 x2.2.1)]), (2, .box [.v (.int .i64 x3.1), .v (.int .i64 x3.2.1)])]⟩) (C := ((([.agg [.sl 0 0 x2.1.length, .v (.int .i64 x2.2.1)], .v (.string x2.2.2)] : List AV) = [.agg [.sl 0 0 x2.1.length, .v (.int .i64 x2.2.1)], .v (.string x2.2.2)]) ∧ (AO.arr 2 (List.map enc_si x2.1) = AO.arr 2 (List.map enc_si x2.1)) ∧ True) ∧ True) (by kernel_rfl) ⟨⟨rfl, rfl, trivial⟩, trivial⟩ ⟨call_ok (ks := []) (ns := []) (bor := [0]) (bobjs := [(0, .arr 2 (List.map enc_si x2.1))]) (s_impl_ParseArm x2.1 x2.2.1 x2.2.2 x3 e3) (.cons (.c1 (.agg (.cons (.arr rfl rfl ((rfl).trans (List.length_map ..).symm)) (.cons (.same _ (by kernel_rfl) (by kernel_rfl)) (.nil))))) (.cons (.c1 (.c0 (.same _ (by kernel_rfl) (by kernel_rfl)))) (.nil))) (by kernel_rfl) trivial, trivial⟩ ?_
    refine AX.seq ?_
    obtain ⟨x4, e4, h⟩ := bd_e h
    refine AX.reg (its := [.auto {}, .auto {}, .call 9 [.agg [.sl 0 0 x2.1.length, .v (.int .i64 x2.2.1)], .v (.string x2.2.2)] (handO (rho ([] ++ [])) [] [] ++ [(0, .arr 2 (List.map enc_si x2.1))]) (callEv [] [] (.tup [.agg [.v (.int .i64 x4.1), .v (.int .i64 x4.2.1)], .v (.bool x4.2.2)]) []), .auto {}, .auto {}, .auto {}, .auto { nk := 3 }]) [3, 4, 5, 6, 7, 8] [0, 1, 2, 3] (s1 := ⟨[(3, .pt 1 0), (4, .v (.string x2.2.2)), (5, .pt 2 0), (6, .v (.bool x3.2.2)), (7, .pt 3 0), (8, .v (.bool x4.2.2))], [(0, .arr 2 (List.map enc_si x2.1)), (1, .box [.sl 0 0 x2.1.length, .v (.int .i64 x2.2.1)]), (2, .box [.v (.int .i64 x3.1), .v (.int .i64 x3.2.1)]), (3, .box [.v (.int .i64 x4.1), .v (.int .i64 x4.2.1)])]⟩) (C := ((([.agg [.sl 0 0 x2.1.length, .v (.int .i64 x2.2.1)], .v (.string x2.2.2)] : List AV) = [.agg [.sl 0 0 x2.1.length, .v (.int .i64 x2.2.1)], .v (.string x2.2.2)]) ∧ (AO.arr 2 (List.map enc_si x2.1) = AO.arr 2 (List.map enc_si x2.1)) ∧ True) ∧ True) (by kernel_rfl) ⟨⟨rfl, rfl, trivial⟩, trivial⟩ ⟨call_ok (ks := []) (ns := []) (bor := [0]) (bobjs := [(0, .arr 2 (List.map enc_si x2.1))]) (s_spec_ParseArm x2.1 x2.2.1 x2.2.2 x4 e4) (.cons (.c1 (.agg (.cons (.arr rfl rfl ((rfl).trans (List.length_map ..).symm)) (.cons (.same _ (by kernel_rfl) (by kernel_rfl)) (.nil))))) (.cons (.c1 (.c0 (.same _ (by kernel_rfl) (by kernel_rfl)))) (.nil))) (by kernel_rfl) trivial, trivial⟩ ?_
    refine AX.seq ?_
    refine AX.seq ?_
    obtain ⟨x5, e5, h⟩ := bd_e h
    obtain ⟨v6, q6, h⟩ := nm_e h
    rcases bool_cases (v6) with b7 | b7
    · replace h := cd_t b7 h
      refine AX.reg (its := [.auto {}, .auto {}, .call 10 [.agg [.v (.int .i64 x3.1), .v (.int .i64 x3.2.1)], .agg [.v (.int .i64 x4.1), .v (.int .i64 x4.2.1)]] (handO (rho ([] ++ [])) [] [] ++ []) (callEv [] [] (.v (.bool (decide (x3.1 = x4.1) && (decide (x3.2.1 = x4.2.1) && true)))) []), .auto { y := some (.v (.bool v6)) }, .auto { y := some (.v (.bool true)) }]) [3, 4, 5, 6, 7, 8, 41] [0, 1, 2, 3] (s1 := ⟨[(3, .pt 1 0), (4, .v (.string x2.2.2)), (5, .pt 2 0), (6, .v (.bool x3.2.2)), (7, .pt 3 0), (8, .v (.bool x4.2.2)), (41, .v (.bool true))], [(0, .arr 2 (List.map enc_si x2.1)), (1, .box [.sl 0 0 x2.1.length, .v (.int .i64 x2.2.1)]), (2, .box [.v (.int .i64 x3.1), .v (.int .i64 x3.2.1)]), (3, .box [.v (.int .i64 x4.1), .v (.int .i64 x4.2.1)])]⟩) (C := ((([.agg [.v (.int .i64 x3.1), .v (.int .i64 x3.2.1)], .agg [.v (.int .i64 x4.1), .v (.int .i64 x4.2.1)]] : List AV) = [.agg [.v (.int .i64 x3.1), .v (.int .i64 x3.2.1)], .agg [.v (.int .i64 x4.1), .v (.int .i64 x4.2.1)]]) ∧ True) ∧ ((True) ∧ ((.v (.bool (!(decide (x3.1 = x4.1) && (decide (x3.2.1 = x4.2.1) && true)))) : AV) = (.v (.bool v6) : AV))) ∧ ((True) ∧ ((.v (.bool v6) : AV) = (.v (.bool true) : AV))) ∧ True) (by kernel_rfl) ⟨⟨rfl, trivial⟩, ⟨⟨trivial, (congrArg (fun z => AV.v (.bool z)) q6)⟩, ⟨⟨trivial, (congrArg (fun z => AV.v (.bool z)) b7)⟩, trivial⟩⟩⟩ ⟨call_ok (ks := []) (ns := []) (bor := []) (bobjs := []) (s_laws_equalArm x3.1 x3.2.1 x4.1 x4.2.1 x5 e5) (.cons (.c1 (.agg (.cons (.same _ (by kernel_rfl) (by kernel_rfl)) (.cons (.same _ (by kernel_rfl) (by kernel_rfl)) (.nil))))) (.cons (.c1 (.agg (.cons (.same _ (by kernel_rfl) (by kernel_rfl)) (.cons (.same _ (by kernel_rfl) (by kernel_rfl)) (.nil))))) (.nil))) (by kernel_rfl) trivial, trivial⟩ ?_
      refine AX.cond_true (by kernel_rfl) ?_
      refine AX.seq ?_
      obtain ⟨x7, e8, h⟩ := bd_e h
      rcases bool_cases ((decide (x3.1 = x4.1) && (decide (x3.2.1 = x4.2.1) && true))) with b9 | b9
      · replace h := cd_t b9 h
        refine AX.reg (its := [.auto {}, .auto {}, .call 10 [.agg [.v (.int .i64 x3.1), .v (.int .i64 x3.2.1)], .agg [.v (.int .i64 x4.1), .v (.int .i64 x4.2.1)]] (handO (rho ([] ++ [])) [] [] ++ []) (callEv [] [] (.v (.bool true)) [])]) [2] [] (s1 := ⟨[(2, .v (.bool (x3.2.2 == x4.2.2)))], []⟩) (C := ((([.agg [.v (.int .i64 x3.1), .v (.int .i64 x3.2.1)], .agg [.v (.int .i64 x4.1), .v (.int .i64 x4.2.1)]] : List AV) = [.agg [.v (.int .i64 x3.1), .v (.int .i64 x3.2.1)], .agg [.v (.int .i64 x4.1), .v (.int .i64 x4.2.1)]]) ∧ True) ∧ True) (by kernel_rfl) ⟨⟨rfl, trivial⟩, trivial⟩ ⟨call_ok (ks := []) (ns := []) (bor := []) (bobjs := []) (show Eng.Spec Tryz.prog 10 [.agg [.v (.int .i64 x3.1), .v (.int .i64 x3.2.1)], .agg [.v (.int .i64 x4.1), .v (.int .i64 x4.2.1)]] [] (.v (.bool true)) [] from by have q := s_laws_equalArm x3.1 x3.2.1 x4.1 x4.2.1 x7 e8; rw [b9] at q; exact q) (.cons (.c1 (.agg (.cons (.same _ (by kernel_rfl) (by kernel_rfl)) (.cons (.same _ (by kernel_rfl) (by kernel_rfl)) (.nil))))) (.cons (.c1 (.agg (.cons (.same _ (by kernel_rfl) (by kernel_rfl)) (.cons (.same _ (by kernel_rfl) (by kernel_rfl)) (.nil))))) (.nil))) (by kernel_rfl) trivial, trivial⟩ ?_
        refine AX.ret ?_
        refine fin_wk (Wk.forget [2] [] (s' := ⟨[(2, .v (.bool (x3.2.2 == x4.2.2)))], []⟩) (by kernel_rfl)) ?_
        have hr := Option.some.inj h
        subst hr
        exact ⟨_, Wk.refl _, .inr rfl, ⟨[], by kernel_rfl, trivial, [.v (.bool (x3.2.2 == x4.2.2))], by kernel_rfl, by kernel_rfl⟩⟩
      · replace h := cd_f b9 h
        refine AX.reg (its := [.auto {}, .auto {}, .call 10 [.agg [.v (.int .i64 x3.1), .v (.int .i64 x3.2.1)], .agg [.v (.int .i64 x4.1), .v (.int .i64 x4.2.1)]] (handO (rho ([] ++ [])) [] [] ++ []) (callEv [] [] (.v (.bool false)) [])]) [2] [] (s1 := ⟨[(2, .v (.bool false))], []⟩) (C := ((([.agg [.v (.int .i64 x3.1), .v (.int .i64 x3.2.1)], .agg [.v (.int .i64 x4.1), .v (.int .i64 x4.2.1)]] : List AV) = [.agg [.v (.int .i64 x3.1), .v (.int .i64 x3.2.1)], .agg [.v (.int .i64 x4.1), .v (.int .i64 x4.2.1)]]) ∧ True) ∧ True) (by kernel_rfl) ⟨⟨rfl, trivial⟩, trivial⟩ ⟨call_ok (ks := []) (ns := []) (bor := []) (bobjs := []) (show Eng.Spec Tryz.prog 10 [.agg [.v (.int .i64 x3.1), .v (.int .i64 x3.2.1)], .agg [.v (.int .i64 x4.1), .v (.int .i64 x4.2.1)]] [] (.v (.bool false)) [] from by have q := s_laws_equalArm x3.1 x3.2.1 x4.1 x4.2.1 x7 e8; rw [b9] at q; exact q) (.cons (.c1 (.agg (.cons (.same _ (by kernel_rfl) (by kernel_rfl)) (.cons (.same _ (by kernel_rfl) (by kernel_rfl)) (.nil))))) (.cons (.c1 (.agg (.cons (.same _ (by kernel_rfl) (by kernel_rfl)) (.cons (.same _ (by kernel_rfl) (by kernel_rfl)) (.nil))))) (.nil))) (by kernel_rfl) trivial, trivial⟩ ?_
        refine AX.ret ?_
        refine fin_wk (Wk.forget [2] [] (s' := ⟨[(2, .v (.bool false))], []⟩) (by kernel_rfl)) ?_
        have hr := Option.some.inj h
        subst hr
        exact ⟨_, Wk.refl _, .inr rfl, ⟨[], by kernel_rfl, trivial, [.v (.bool false)], by kernel_rfl, by kernel_rfl⟩⟩
    · replace h := cd_f b7 h
      rcases bool_cases ((!(x3.2.2 == x4.2.2))) with b10 | b10
      · replace h := cd_t b10 h
        refine AX.reg (its := [.auto {}, .auto {}, .call 10 [.agg [.v (.int .i64 x3.1), .v (.int .i64 x3.2.1)], .agg [.v (.int .i64 x4.1), .v (.int .i64 x4.2.1)]] (handO (rho ([] ++ [])) [] [] ++ []) (callEv [] [] (.v (.bool (decide (x3.1 = x4.1) && (decide (x3.2.1 = x4.2.1) && true)))) []), .auto { y := some (.v (.bool v6)) }, .auto { y := some (.v (.bool false)) }, .auto {}, .auto {}, .auto { y := some (.v (.bool true)) }]) [3, 4, 5, 6, 7, 8, 41] [0, 1, 2, 3] (s1 := ⟨[(3, .pt 1 0), (4, .v (.string x2.2.2)), (5, .pt 2 0), (6, .v (.bool x3.2.2)), (7, .pt 3 0), (8, .v (.bool x4.2.2)), (41, .v (.bool true))], [(0, .arr 2 (List.map enc_si x2.1)), (1, .box [.sl 0 0 x2.1.length, .v (.int .i64 x2.2.1)]), (2, .box [.v (.int .i64 x3.1), .v (.int .i64 x3.2.1)]), (3, .box [.v (.int .i64 x4.1), .v (.int .i64 x4.2.1)])]⟩) (C := ((([.agg [.v (.int .i64 x3.1), .v (.int .i64 x3.2.1)], .agg [.v (.int .i64 x4.1), .v (.int .i64 x4.2.1)]] : List AV) = [.agg [.v (.int .i64 x3.1), .v (.int .i64 x3.2.1)], .agg [.v (.int .i64 x4.1), .v (.int .i64 x4.2.1)]]) ∧ True) ∧ ((True) ∧ ((.v (.bool (!(decide (x3.1 = x4.1) && (decide (x3.2.1 = x4.2.1) && true)))) : AV) = (.v (.bool v6) : AV))) ∧ ((True) ∧ ((.v (.bool v6) : AV) = (.v (.bool false) : AV))) ∧ ((True) ∧ ((.v (.bool (!(x3.2.2 == x4.2.2))) : AV) = (.v (.bool true) : AV))) ∧ True) (by kernel_rfl) ⟨⟨rfl, trivial⟩, ⟨⟨trivial, (congrArg (fun z => AV.v (.bool z)) q6)⟩, ⟨⟨trivial, (congrArg (fun z => AV.v (.bool z)) b7)⟩, ⟨⟨trivial, (congrArg (fun z => AV.v (.bool z)) b10)⟩, trivial⟩⟩⟩⟩ ⟨call_ok (ks := []) (ns := []) (bor := []) (bobjs := []) (s_laws_equalArm x3.1 x3.2.1 x4.1 x4.2.1 x5 e5) (.cons (.c1 (.agg (.cons (.same _ (by kernel_rfl) (by kernel_rfl)) (.cons (.same _ (by kernel_rfl) (by kernel_rfl)) (.nil))))) (.cons (.c1 (.agg (.cons (.same _ (by kernel_rfl) (by kernel_rfl)) (.cons (.same _ (by kernel_rfl) (by kernel_rfl)) (.nil))))) (.nil))) (by kernel_rfl) trivial, trivial⟩ ?_
        refine AX.cond_true (by kernel_rfl) ?_
        refine AX.seq ?_
        obtain ⟨x8, e11, h⟩ := bd_e h
        rcases bool_cases ((decide (x3.1 = x4.1) && (decide (x3.2.1 = x4.2.1) && true))) with b12 | b12
        · replace h := cd_t b12 h
          refine AX.reg (its := [.auto {}, .auto {}, .call 10 [.agg [.v (.int .i64 x3.1), .v (.int .i64 x3.2.1)], .agg [.v (.int .i64 x4.1), .v (.int .i64 x4.2.1)]] (handO (rho ([] ++ [])) [] [] ++ []) (callEv [] [] (.v (.bool true)) [])]) [2] [] (s1 := ⟨[(2, .v (.bool (x3.2.2 == x4.2.2)))], []⟩) (C := ((([.agg [.v (.int .i64 x3.1), .v (.int .i64 x3.2.1)], .agg [.v (.int .i64 x4.1), .v (.int .i64 x4.2.1)]] : List AV) = [.agg [.v (.int .i64 x3.1), .v (.int .i64 x3.2.1)], .agg [.v (.int .i64 x4.1), .v (.int .i64 x4.2.1)]]) ∧ True) ∧ True) (by kernel_rfl) ⟨⟨rfl, trivial⟩, trivial⟩ ⟨call_ok (ks := []) (ns := []) (bor := []) (bobjs := []) (show Eng.Spec Tryz.prog 10 [.agg [.v (.int .i64 x3.1), .v (.int .i64 x3.2.1)], .agg [.v (.int .i64 x4.1), .v (.int .i64 x4.2.1)]] [] (.v (.bool true)) [] from by have q := s_laws_equalArm x3.1 x3.2.1 x4.1 x4.2.1 x8 e11; rw [b12] at q; exact q) (.cons (.c1 (.agg (.cons (.same _ (by kernel_rfl) (by kernel_rfl)) (.cons (.same _ (by kernel_rfl) (by kernel_rfl)) (.nil))))) (.cons (.c1 (.agg (.cons (.same _ (by kernel_rfl) (by kernel_rfl)) (.cons (.same _ (by kernel_rfl) (by kernel_rfl)) (.nil))))) (.nil))) (by kernel_rfl) trivial, trivial⟩ ?_
          refine AX.ret ?_
          refine fin_wk (Wk.forget [2] [] (s' := ⟨[(2, .v (.bool (x3.2.2 == x4.2.2)))], []⟩) (by kernel_rfl)) ?_
          have hr := Option.some.inj h
          subst hr
          exact ⟨_, Wk.refl _, .inr rfl, ⟨[], by kernel_rfl, trivial, [.v (.bool (x3.2.2 == x4.2.2))], by kernel_rfl, by kernel_rfl⟩⟩
        · replace h := cd_f b12 h
          refine AX.reg (its := [.auto {}, .auto {}, .call 10 [.agg [.v (.int .i64 x3.1), .v (.int .i64 x3.2.1)], .agg [.v (.int .i64 x4.1), .v (.int .i64 x4.2.1)]] (handO (rho ([] ++ [])) [] [] ++ []) (callEv [] [] (.v (.bool false)) [])]) [2] [] (s1 := ⟨[(2, .v (.bool false))], []⟩) (C := ((([.agg [.v (.int .i64 x3.1), .v (.int .i64 x3.2.1)], .agg [.v (.int .i64 x4.1), .v (.int .i64 x4.2.1)]] : List AV) = [.agg [.v (.int .i64 x3.1), .v (.int .i64 x3.2.1)], .agg [.v (.int .i64 x4.1), .v (.int .i64 x4.2.1)]]) ∧ True) ∧ True) (by kernel_rfl) ⟨⟨rfl, trivial⟩, trivial⟩ ⟨call_ok (ks := []) (ns := []) (bor := []) (bobjs := []) (show Eng.Spec Tryz.prog 10 [.agg [.v (.int .i64 x3.1), .v (.int .i64 x3.2.1)], .agg [.v (.int .i64 x4.1), .v (.int .i64 x4.2.1)]] [] (.v (.bool false)) [] from by have q := s_laws_equalArm x3.1 x3.2.1 x4.1 x4.2.1 x8 e11; rw [b12] at q; exact q) (.cons (.c1 (.agg (.cons (.same _ (by kernel_rfl) (by kernel_rfl)) (.cons (.same _ (by kernel_rfl) (by kernel_rfl)) (.nil))))) (.cons (.c1 (.agg (.cons (.same _ (by kernel_rfl) (by kernel_rfl)) (.cons (.same _ (by kernel_rfl) (by kernel_rfl)) (.nil))))) (.nil))) (by kernel_rfl) trivial, trivial⟩ ?_
          refine AX.ret ?_
          refine fin_wk (Wk.forget [2] [] (s' := ⟨[(2, .v (.bool false))], []⟩) (by kernel_rfl)) ?_
          have hr := Option.some.inj h
          subst hr
          exact ⟨_, Wk.refl _, .inr rfl, ⟨[], by kernel_rfl, trivial, [.v (.bool false)], by kernel_rfl, by kernel_rfl⟩⟩
      · replace h := cd_f b10 h
        refine AX.reg (its := [.auto {}, .auto {}, .call 10 [.agg [.v (.int .i64 x3.1), .v (.int .i64 x3.2.1)], .agg [.v (.int .i64 x4.1), .v (.int .i64 x4.2.1)]] (handO (rho ([] ++ [])) [] [] ++ []) (callEv [] [] (.v (.bool (decide (x3.1 = x4.1) && (decide (x3.2.1 = x4.2.1) && true)))) []), .auto { y := some (.v (.bool v6)) }, .auto { y := some (.v (.bool false)) }, .auto {}, .auto {}, .auto { y := some (.v (.bool false)) }]) [3, 4, 5, 6, 7, 8, 41] [0, 1, 2, 3] (s1 := ⟨[(3, .pt 1 0), (4, .v (.string x2.2.2)), (5, .pt 2 0), (6, .v (.bool x3.2.2)), (7, .pt 3 0), (8, .v (.bool x4.2.2)), (41, .v (.bool (!x3.2.2)))], [(0, .arr 2 (List.map enc_si x2.1)), (1, .box [.sl 0 0 x2.1.length, .v (.int .i64 x2.2.1)]), (2, .box [.v (.int .i64 x3.1), .v (.int .i64 x3.2.1)]), (3, .box [.v (.int .i64 x4.1), .v (.int .i64 x4.2.1)])]⟩) (C := ((([.agg [.v (.int .i64 x3.1), .v (.int .i64 x3.2.1)], .agg [.v (.int .i64 x4.1), .v (.int .i64 x4.2.1)]] : List AV) = [.agg [.v (.int .i64 x3.1), .v (.int .i64 x3.2.1)], .agg [.v (.int .i64 x4.1), .v (.int .i64 x4.2.1)]]) ∧ True) ∧ ((True) ∧ ((.v (.bool (!(decide (x3.1 = x4.1) && (decide (x3.2.1 = x4.2.1) && true)))) : AV) = (.v (.bool v6) : AV))) ∧ ((True) ∧ ((.v (.bool v6) : AV) = (.v (.bool false) : AV))) ∧ ((True) ∧ ((.v (.bool (!(x3.2.2 == x4.2.2))) : AV) = (.v (.bool false) : AV))) ∧ True) (by kernel_rfl) ⟨⟨rfl, trivial⟩, ⟨⟨trivial, (congrArg (fun z => AV.v (.bool z)) q6)⟩, ⟨⟨trivial, (congrArg (fun z => AV.v (.bool z)) b7)⟩, ⟨⟨trivial, (congrArg (fun z => AV.v (.bool z)) b10)⟩, trivial⟩⟩⟩⟩ ⟨call_ok (ks := []) (ns := []) (bor := []) (bobjs := []) (s_laws_equalArm x3.1 x3.2.1 x4.1 x4.2.1 x5 e5) (.cons (.c1 (.agg (.cons (.same _ (by kernel_rfl) (by kernel_rfl)) (.cons (.same _ (by kernel_rfl) (by kernel_rfl)) (.nil))))) (.cons (.c1 (.agg (.cons (.same _ (by kernel_rfl) (by kernel_rfl)) (.cons (.same _ (by kernel_rfl) (by kernel_rfl)) (.nil))))) (.nil))) (by kernel_rfl) trivial, trivial⟩ ?_
        rcases bool_cases ((!x3.2.2)) with b13 | b13
        · replace h := cd_t b13 h
          refine AX.condT ((!x3.2.2)) (by kernel_rfl) b13 ?_
          refine AX.seq ?_
          obtain ⟨x9, e14, h⟩ := bd_e h
          rcases bool_cases ((decide (x3.1 = x4.1) && (decide (x3.2.1 = x4.2.1) && true))) with b15 | b15
          · replace h := cd_t b15 h
            refine AX.reg (its := [.auto {}, .auto {}, .call 10 [.agg [.v (.int .i64 x3.1), .v (.int .i64 x3.2.1)], .agg [.v (.int .i64 x4.1), .v (.int .i64 x4.2.1)]] (handO (rho ([] ++ [])) [] [] ++ []) (callEv [] [] (.v (.bool true)) [])]) [2] [] (s1 := ⟨[(2, .v (.bool (x3.2.2 == x4.2.2)))], []⟩) (C := ((([.agg [.v (.int .i64 x3.1), .v (.int .i64 x3.2.1)], .agg [.v (.int .i64 x4.1), .v (.int .i64 x4.2.1)]] : List AV) = [.agg [.v (.int .i64 x3.1), .v (.int .i64 x3.2.1)], .agg [.v (.int .i64 x4.1), .v (.int .i64 x4.2.1)]]) ∧ True) ∧ True) (by kernel_rfl) ⟨⟨rfl, trivial⟩, trivial⟩ ⟨call_ok (ks := []) (ns := []) (bor := []) (bobjs := []) (show Eng.Spec Tryz.prog 10 [.agg [.v (.int .i64 x3.1), .v (.int .i64 x3.2.1)], .agg [.v (.int .i64 x4.1), .v (.int .i64 x4.2.1)]] [] (.v (.bool true)) [] from by have q := s_laws_equalArm x3.1 x3.2.1 x4.1 x4.2.1 x9 e14; rw [b15] at q; exact q) (.cons (.c1 (.agg (.cons (.same _ (by kernel_rfl) (by kernel_rfl)) (.cons (.same _ (by kernel_rfl) (by kernel_rfl)) (.nil))))) (.cons (.c1 (.agg (.cons (.same _ (by kernel_rfl) (by kernel_rfl)) (.cons (.same _ (by kernel_rfl) (by kernel_rfl)) (.nil))))) (.nil))) (by kernel_rfl) trivial, trivial⟩ ?_
            refine AX.ret ?_
            refine fin_wk (Wk.forget [2] [] (s' := ⟨[(2, .v (.bool (x3.2.2 == x4.2.2)))], []⟩) (by kernel_rfl)) ?_
            have hr := Option.some.inj h
            subst hr
            exact ⟨_, Wk.refl _, .inr rfl, ⟨[], by kernel_rfl, trivial, [.v (.bool (x3.2.2 == x4.2.2))], by kernel_rfl, by kernel_rfl⟩⟩
          · replace h := cd_f b15 h
            refine AX.reg (its := [.auto {}, .auto {}, .call 10 [.agg [.v (.int .i64 x3.1), .v (.int .i64 x3.2.1)], .agg [.v (.int .i64 x4.1), .v (.int .i64 x4.2.1)]] (handO (rho ([] ++ [])) [] [] ++ []) (callEv [] [] (.v (.bool false)) [])]) [2] [] (s1 := ⟨[(2, .v (.bool false))], []⟩) (C := ((([.agg [.v (.int .i64 x3.1), .v (.int .i64 x3.2.1)], .agg [.v (.int .i64 x4.1), .v (.int .i64 x4.2.1)]] : List AV) = [.agg [.v (.int .i64 x3.1), .v (.int .i64 x3.2.1)], .agg [.v (.int .i64 x4.1), .v (.int .i64 x4.2.1)]]) ∧ True) ∧ True) (by kernel_rfl) ⟨⟨rfl, trivial⟩, trivial⟩ ⟨call_ok (ks := []) (ns := []) (bor := []) (bobjs := []) (show Eng.Spec Tryz.prog 10 [.agg [.v (.int .i64 x3.1), .v (.int .i64 x3.2.1)], .agg [.v (.int .i64 x4.1), .v (.int .i64 x4.2.1)]] [] (.v (.bool false)) [] from by have q := s_laws_equalArm x3.1 x3.2.1 x4.1 x4.2.1 x9 e14; rw [b15] at q; exact q) (.cons (.c1 (.agg (.cons (.same _ (by kernel_rfl) (by kernel_rfl)) (.cons (.same _ (by kernel_rfl) (by kernel_rfl)) (.nil))))) (.cons (.c1 (.agg (.cons (.same _ (by kernel_rfl) (by kernel_rfl)) (.cons (.same _ (by kernel_rfl) (by kernel_rfl)) (.nil))))) (.nil))) (by kernel_rfl) trivial, trivial⟩ ?_
            refine AX.ret ?_
            refine fin_wk (Wk.forget [2] [] (s' := ⟨[(2, .v (.bool false))], []⟩) (by kernel_rfl)) ?_
            have hr := Option.some.inj h
            subst hr
            exact ⟨_, Wk.refl _, .inr rfl, ⟨[], by kernel_rfl, trivial, [.v (.bool false)], by kernel_rfl, by kernel_rfl⟩⟩
        · replace h := cd_f b13 h
          refine AX.condF ((!x3.2.2)) (by kernel_rfl) b13 ?_
          refine AX.skip ?_
          refine AX.seq ?_
          obtain ⟨x10, e16, h⟩ := bd_e h
          rcases bool_cases (decide (x10 = x2.2.2)) with b17 | b17
          · replace h := cd_t b17 h
            obtain ⟨x11, e18, h⟩ := bd_e h
            refine AX.reg (its := [.auto {}, .auto {}, .call 11 [.agg [.sl 0 0 x2.1.length, .v (.int .i64 x2.2.1)], .agg [.v (.int .i64 x3.1), .v (.int .i64 x3.2.1)]] (handO (rho ([] ++ [])) [] [] ++ [(0, .arr 2 (List.map enc_si x2.1))]) (callEv [] [] (.v (.string x10)) []), .auto {}, .auto { y := some (.v (.bool true)) }, .auto {}, .auto {}, .auto {}, .call 12 [.agg [.sl 0 0 x2.1.length, .v (.int .i64 x2.2.1)], .agg [.v (.int .i64 x3.1), .v (.int .i64 x3.2.1)]] (handO (rho ([] ++ [])) [] [] ++ [(0, .arr 2 (List.map enc_si x2.1))]) (callEv [] [] (.v (.bool x11)) [])]) [2] [] (s1 := ⟨[(2, .v (.bool x11))], []⟩) (C := ((([.agg [.sl 0 0 x2.1.length, .v (.int .i64 x2.2.1)], .agg [.v (.int .i64 x3.1), .v (.int .i64 x3.2.1)]] : List AV) = [.agg [.sl 0 0 x2.1.length, .v (.int .i64 x2.2.1)], .agg [.v (.int .i64 x3.1), .v (.int .i64 x3.2.1)]]) ∧ (AO.arr 2 (List.map enc_si x2.1) = AO.arr 2 (List.map enc_si x2.1)) ∧ True) ∧ ((True) ∧ ((.v (.bool (decide (x10 = x2.2.2))) : AV) = (.v (.bool true) : AV))) ∧ ((([.agg [.sl 0 0 x2.1.length, .v (.int .i64 x2.2.1)], .agg [.v (.int .i64 x3.1), .v (.int .i64 x3.2.1)]] : List AV) = [.agg [.sl 0 0 x2.1.length, .v (.int .i64 x2.2.1)], .agg [.v (.int .i64 x3.1), .v (.int .i64 x3.2.1)]]) ∧ (AO.arr 2 (List.map enc_si x2.1) = AO.arr 2 (List.map enc_si x2.1)) ∧ True) ∧ True) (by kernel_rfl) ⟨⟨rfl, rfl, trivial⟩, ⟨⟨trivial, (congrArg (fun z => AV.v (.bool z)) b17)⟩, ⟨⟨rfl, rfl, trivial⟩, trivial⟩⟩⟩ ⟨call_ok (ks := []) (ns := []) (bor := [0]) (bobjs := [(0, .arr 2 (List.map enc_si x2.1))]) (s_impl_ArmText x2.1 x2.2.1 x3.1 x3.2.1 x10 e16) (.cons (.c1 (.agg (.cons (.arr rfl rfl ((rfl).trans (List.length_map ..).symm)) (.cons (.same _ (by kernel_rfl) (by kernel_rfl)) (.nil))))) (.cons (.c1 (.agg (.cons (.same _ (by kernel_rfl) (by kernel_rfl)) (.cons (.same _ (by kernel_rfl) (by kernel_rfl)) (.nil))))) (.nil))) (by kernel_rfl) trivial, ⟨call_ok (ks := []) (ns := []) (bor := [0]) (bobjs := [(0, .arr 2 (List.map enc_si x2.1))]) (s_impl_ValidArm x2.1 x2.2.1 x3.1 x3.2.1 x11 e18) (.cons (.c1 (.agg (.cons (.arr rfl rfl ((rfl).trans (List.length_map ..).symm)) (.cons (.same _ (by kernel_rfl) (by kernel_rfl)) (.nil))))) (.cons (.c1 (.agg (.cons (.same _ (by kernel_rfl) (by kernel_rfl)) (.cons (.same _ (by kernel_rfl) (by kernel_rfl)) (.nil))))) (.nil))) (by kernel_rfl) trivial, trivial⟩⟩ ?_
            refine AX.ret ?_
            refine fin_wk (Wk.forget [2] [] (s' := ⟨[(2, .v (.bool x11))], []⟩) (by kernel_rfl)) ?_
            have hr := Option.some.inj h
            subst hr
            exact ⟨_, Wk.refl _, .inr rfl, ⟨[], by kernel_rfl, trivial, [.v (.bool x11)], by kernel_rfl, by kernel_rfl⟩⟩
          · replace h := cd_f b17 h
            refine AX.reg (its := [.auto {}, .auto {}, .call 11 [.agg [.sl 0 0 x2.1.length, .v (.int .i64 x2.2.1)], .agg [.v (.int .i64 x3.1), .v (.int .i64 x3.2.1)]] (handO (rho ([] ++ [])) [] [] ++ [(0, .arr 2 (List.map enc_si x2.1))]) (callEv [] [] (.v (.string x10)) []), .auto {}, .auto { y := some (.v (.bool false)) }]) [2] [] (s1 := ⟨[(2, .v (.bool false))], []⟩) (C := ((([.agg [.sl 0 0 x2.1.length, .v (.int .i64 x2.2.1)], .agg [.v (.int .i64 x3.1), .v (.int .i64 x3.2.1)]] : List AV) = [.agg [.sl 0 0 x2.1.length, .v (.int .i64 x2.2.1)], .agg [.v (.int .i64 x3.1), .v (.int .i64 x3.2.1)]]) ∧ (AO.arr 2 (List.map enc_si x2.1) = AO.arr 2 (List.map enc_si x2.1)) ∧ True) ∧ ((True) ∧ ((.v (.bool (decide (x10 = x2.2.2))) : AV) = (.v (.bool false) : AV))) ∧ True) (by kernel_rfl) ⟨⟨rfl, rfl, trivial⟩, ⟨⟨trivial, (congrArg (fun z => AV.v (.bool z)) b17)⟩, trivial⟩⟩ ⟨call_ok (ks := []) (ns := []) (bor := [0]) (bobjs := [(0, .arr 2 (List.map enc_si x2.1))]) (s_impl_ArmText x2.1 x2.2.1 x3.1 x3.2.1 x10 e16) (.cons (.c1 (.agg (.cons (.arr rfl rfl ((rfl).trans (List.length_map ..).symm)) (.cons (.same _ (by kernel_rfl) (by kernel_rfl)) (.nil))))) (.cons (.c1 (.agg (.cons (.same _ (by kernel_rfl) (by kernel_rfl)) (.cons (.same _ (by kernel_rfl) (by kernel_rfl)) (.nil))))) (.nil))) (by kernel_rfl) trivial, trivial⟩ ?_
            refine AX.ret ?_
            refine fin_wk (Wk.forget [2] [] (s' := ⟨[(2, .v (.bool false))], []⟩) (by kernel_rfl)) ?_
            have hr := Option.some.inj h
            subst hr
            exact ⟨_, Wk.refl _, .inr rfl, ⟨[], by kernel_rfl, trivial, [.v (.bool false)], by kernel_rfl, by kernel_rfl⟩⟩

end Go.Eng
