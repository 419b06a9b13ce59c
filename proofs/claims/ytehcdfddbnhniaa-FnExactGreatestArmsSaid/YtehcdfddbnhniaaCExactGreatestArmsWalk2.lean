/- What is proved here: each function keeps to its model, whatever its arguments, wherever the model has an answer. Printed by gen.py. -/
import Derived.Test.YtehcdfddbnhniaaCExactGreatestArmsWalk1
import Derived.Test.YtehcdfddbnhniaaProg
import Derived.KernelRfl
set_option linter.unusedVariables false
namespace Go.Eng
open Go Go.Proofs


theorem s_spec_GreatestArms_L2 (x13 : List (Int × Int)) (n : Nat) (g : (List (Int × Int)) × Int) (out : List (Int × Int)) (h : m_spec_GreatestArms_L2 x13 n g.1 g.2 = some out) :
    AX Try.prog 92 0 (codeAt [1, 1, 1, 1, 1, 1, 0, 1, 1] (bodyOf Try.f16)) ((fun g : (List (Int × Int)) × Int => (⟨[(7, .sl 0 0 x13.length), (8, .sl 1 0 g.1.length), (9, .v (.int .i64 g.2))], [(0, .arr 2 (List.map enc_ii x13)), (1, .arr 2 (List.map enc_ii g.1))]⟩ : S)) g) (fun ex s => ex = .exit 2 ∧ s = (fun o : List (Int × Int) => (⟨[(8, .sl 0 0 o.length)], [(0, .arr 2 (List.map enc_ii o))]⟩ : S)) out) := by
  refine AX.wkpost ?_
  refine AX.loop (G := Nat × ((List (Int × Int)) × Int)) (fun q => (fun g : (List (Int × Int)) × Int => (⟨[(7, .sl 0 0 x13.length), (8, .sl 1 0 g.1.length), (9, .v (.int .i64 g.2))], [(0, .arr 2 (List.map enc_ii x13)), (1, .arr 2 (List.map enc_ii g.1))]⟩ : S)) q.2) (fun q => m_spec_GreatestArms_L2 x13 q.1 q.2.1 q.2.2 = some out) (fun q => q.1) (n, g) h (Wk.refl _) ?_
  clear h
  rintro ⟨fu, v14, v15⟩ h
  cases fu with
  | zero => cases h
  | succ fu =>
    rw [m_spec_GreatestArms_L2] at h
    refine AX.seq ?_
    refine AX.seq ?_
    refine AX.reg (its := []) [7, 8, 9, 56] [0, 1] (s1 := ⟨[(7, .sl 0 0 x13.length), (8, .sl 1 0 v14.length), (9, .v (.int .i64 v15)), (56, .v (.bool (decide (v15 < (x13.length : Int)))))], [(0, .arr 2 (List.map enc_ii x13)), (1, .arr 2 (List.map enc_ii v14))]⟩) (C := True) (by kernel_rfl) trivial trivial ?_
    rcases bool_cases (decide (v15 < (x13.length : Int))) with b15 | b15
    · replace h := cd_t b15 h
      refine AX.condT (decide (v15 < (x13.length : Int))) (by kernel_rfl) b15 ?_
      refine AX.skip ?_
      refine AX.seq ?_
      refine AX.block ?_
      refine AX.seq ?_
      refine AX.reg (its := []) [7, 8, 9, 10] [0, 1] (s1 := ⟨[(7, .sl 0 0 x13.length), (8, .sl 1 0 v14.length), (9, .v (.int .i64 v15)), (10, .v (.bool false))], [(0, .arr 2 (List.map enc_ii x13)), (1, .arr 2 (List.map enc_ii v14))]⟩) (C := True) (by kernel_rfl) trivial trivial ?_
      refine AX.seq ?_
      refine AX.seq ?_
      refine AX.reg (its := []) [7, 8, 9, 10, 11] [0, 1] (s1 := ⟨[(7, .sl 0 0 x13.length), (8, .sl 1 0 v14.length), (9, .v (.int .i64 v15)), (10, .v (.bool false)), (11, .v (.int .i64 0))], [(0, .arr 2 (List.map enc_ii x13)), (1, .arr 2 (List.map enc_ii v14))]⟩) (C := True) (by kernel_rfl) trivial trivial ?_
      refine AX.block ?_
      obtain ⟨x19, e22, h⟩ := bd_e h
      refine AX.wk (Wk.forget [7, 8, 9, 10, 11] [0, 1] (s' := ⟨[(7, .sl 0 0 x13.length), (8, .sl 1 0 v14.length), (9, .v (.int .i64 v15)), (10, .v (.bool false)), (11, .v (.int .i64 0))], [(0, .arr 2 (List.map enc_ii x13)), (1, .arr 2 (List.map enc_ii v14))]⟩) (by kernel_rfl)) ?_
      refine AX.mono (s_spec_GreatestArms_L3 x13 v14 v15 FU (false, 0) x19 e22) ?_
      rintro _ _ ⟨rfl, rfl⟩
      skip
      refine AX.seq ?_
      refine AX.reg (its := []) [7, 8, 9, 83] [0, 1] (s1 := ⟨[(7, .sl 0 0 x13.length), (8, .sl 1 0 v14.length), (9, .v (.int .i64 v15)), (83, .v (.bool (!x19)))], [(0, .arr 2 (List.map enc_ii x13)), (1, .arr 2 (List.map enc_ii v14))]⟩) (C := True) (by kernel_rfl) trivial trivial ?_
      rcases bool_cases ((!x19)) with b23 | b23
      · replace h := cd_t b23 h
        refine AX.condT ((!x19)) (by kernel_rfl) b23 ?_
        obtain ⟨g24, h⟩ := gd_e h
        obtain ⟨g25, h⟩ := gd_e h
        refine AX.reg (its := [.auto {}, .auto {}, .auto {}, .auto {}, .auto { y := some (.agg [.v (.int .i64 ((gt x13 v15).1)), .v (.int .i64 ((gt x13 v15).2))]) }, .auto { nk := 2 }, .auto { y := some (.sl 3 0 ((v14 ++ ([((gt x13 v15).1, (gt x13 v15).2)] : List (Int × Int))).length)), els := some (List.map enc_ii v14), els2 := some (List.map enc_ii ([((gt x13 v15).1, (gt x13 v15).2)] : List (Int × Int))), nk := 3 }]) [7, 8, 9] [0, 3] (s1 := ⟨[(7, .sl 0 0 x13.length), (8, .sl 3 0 ((v14 ++ ([((gt x13 v15).1, (gt x13 v15).2)] : List (Int × Int))).length)), (9, .v (.int .i64 v15))], [(0, .arr 2 (List.map enc_ii x13)), (3, .arr 2 (List.map enc_ii v14 ++ List.map enc_ii ([((gt x13 v15).1, (gt x13 v15).2)] : List (Int × Int))))]⟩) (C := (0 ≤ v15 ∧ v15 < (x13.length : Int)) ∧ (True ∧ (AV.agg ((((List.map enc_ii x13).getD (0 + v15.toNat) []).drop 0 |>.take 2).map .v) = .agg [.v (.int .i64 ((gt x13 v15).1)), .v (.int .i64 ((gt x13 v15).2))])) ∧ ((((((List.map enc_ii v14).drop 0).take (v14.length) = List.map enc_ii v14) ∧ (((List.map enc_ii ([((gt x13 v15).1, (gt x13 v15).2)] : List (Int × Int))).drop 0).take (([((gt x13 v15).1, (gt x13 v15).2)] : List (Int × Int)).length) = List.map enc_ii ([((gt x13 v15).1, (gt x13 v15).2)] : List (Int × Int)))) ∧ (List.map enc_ii v14).length + (List.map enc_ii ([((gt x13 v15).1, (gt x13 v15).2)] : List (Int × Int))).length ≤ 1099511627776) ∧ (AV.sl 3 0 (List.map enc_ii v14 ++ List.map enc_ii ([((gt x13 v15).1, (gt x13 v15).2)] : List (Int × Int))).length = AV.sl 3 0 (v14 ++ ([((gt x13 v15).1, (gt x13 v15).2)] : List (Int × Int))).length)) ∧ True) (by kernel_rfl) ⟨g24, ⟨⟨trivial, (congrArg (fun z : List Value => AV.agg (((z.drop 0).take 2).map .v)) (idx_arr (enc := enc_ii) rfl g24))⟩, ⟨⟨⟨⟨(dt_all (enc := enc_ii) rfl rfl), (dt_all (enc := enc_ii) rfl rfl)⟩, (by simp only [List.length_map, List.length_nil]; simpa using g25)⟩, sl_len (enc := enc_ii) (app_can (enc := enc_ii) rfl rfl)⟩, trivial⟩⟩⟩ trivial ?_
        refine AX.reg (its := [.auto {}, .auto { raw := true }]) [7, 8, 9] [0, 3] (s1 := ⟨[(7, .sl 0 0 x13.length), (8, .sl 3 0 ((v14 ++ ([((gt x13 v15).1, (gt x13 v15).2)] : List (Int × Int))).length)), (9, .v (.int .i64 (IntKind.wrap .i64 (v15 + 1))))], [(0, .arr 2 (List.map enc_ii x13)), (3, .arr 2 (List.map enc_ii v14 ++ List.map enc_ii ([((gt x13 v15).1, (gt x13 v15).2)] : List (Int × Int))))]⟩) (C := True) (by kernel_rfl) trivial trivial ?_
        refine ⟨(fu, (v14 ++ ([((gt x13 v15).1, (gt x13 v15).2)] : List (Int × Int)), IntKind.wrap .i64 (v15 + 1))), h, Nat.lt_succ_self _, ?_⟩
        refine Wk.trans (Wk.swap 1 3 (Nat.le_of_ble_eq_true (by kernel_rfl)) (Nat.le_of_ble_eq_true (by kernel_rfl)) rfl) ?_
        refine Wk.trans (Wk.forget [7, 8, 9] [0, 1] (s' := ⟨[(7, .sl 0 0 x13.length), (8, .sl 1 0 ((v14 ++ ([((gt x13 v15).1, (gt x13 v15).2)] : List (Int × Int))).length)), (9, .v (.int .i64 (IntKind.wrap .i64 (v15 + 1))))], [(0, .arr 2 (List.map enc_ii x13)), (1, .arr 2 (List.map enc_ii v14 ++ List.map enc_ii ([((gt x13 v15).1, (gt x13 v15).2)] : List (Int × Int))))]⟩) (by kernel_rfl)) ?_
        refine Wk.trans (Wk.of_eq (congrArg (fun z => (⟨[(7, .sl 0 0 x13.length), (8, .sl 1 0 ((v14 ++ ([((gt x13 v15).1, (gt x13 v15).2)] : List (Int × Int))).length)), (9, .v (.int .i64 (IntKind.wrap .i64 (v15 + 1))))], [(0, .arr 2 (List.map enc_ii x13)), (1, .arr 2 (z))]⟩ : S)) (app_can (enc := enc_ii) rfl rfl : List.map enc_ii v14 ++ List.map enc_ii ([((gt x13 v15).1, (gt x13 v15).2)] : List (Int × Int)) = List.map enc_ii (v14 ++ ([((gt x13 v15).1, (gt x13 v15).2)] : List (Int × Int)))))) ?_
        exact Wk.refl _
      · replace h := cd_f b23 h
        refine AX.condF ((!x19)) (by kernel_rfl) b23 ?_
        refine AX.skip ?_
        refine AX.reg (its := [.auto {}, .auto { raw := true }]) [7, 8, 9] [0, 1] (s1 := ⟨[(7, .sl 0 0 x13.length), (8, .sl 1 0 v14.length), (9, .v (.int .i64 (IntKind.wrap .i64 (v15 + 1))))], [(0, .arr 2 (List.map enc_ii x13)), (1, .arr 2 (List.map enc_ii v14))]⟩) (C := True) (by kernel_rfl) trivial trivial ?_
        refine ⟨(fu, (v14, IntKind.wrap .i64 (v15 + 1))), h, Nat.lt_succ_self _, ?_⟩
        refine Wk.trans (Wk.forget [7, 8, 9] [0, 1] (s' := ⟨[(7, .sl 0 0 x13.length), (8, .sl 1 0 v14.length), (9, .v (.int .i64 (IntKind.wrap .i64 (v15 + 1))))], [(0, .arr 2 (List.map enc_ii x13)), (1, .arr 2 (List.map enc_ii v14))]⟩) (by kernel_rfl)) ?_
        exact Wk.refl _
    · replace h := cd_f b15 h
      refine AX.condF (decide (v15 < (x13.length : Int))) (by kernel_rfl) b15 ?_
      refine AX.exit ?_
      refine fin_wk (Wk.swap 0 1 (Nat.le_of_ble_eq_true (by kernel_rfl)) (Nat.le_of_ble_eq_true (by kernel_rfl)) rfl) ?_
      refine fin_wk (Wk.forget [8] [0] (s' := ⟨[(8, .sl 0 0 v14.length)], [(0, .arr 2 (List.map enc_ii v14))]⟩) (by kernel_rfl)) ?_
      have hr := Option.some.inj h
      subst hr
      exact ⟨_, Wk.refl _, ⟨rfl, rfl⟩⟩

theorem s_spec_GreatestArms (p1 : List (ByteArray × Int)) (p2 : Int) (p3 : List (Int)) (r : List (Int × Int)) (h : m_spec_GreatestArms p1 p2 p3 = some r) :
    Eng.Spec Try.prog 16 [.agg [.bs false 2 (List.map enc_si p1), .v (.int .i64 p2)], .bs false 1 (List.map enc_i p3)] [] (.sl 0 0 r.length) [.arr 2 (List.map enc_ii r)] := by
  unfold m_spec_GreatestArms at h
  refine Eng.Spec.body Try.func16 (by kernel_rfl) rfl (by kernel_rfl) ?_
  refine AX.wkpost ?_
  refine AX.seq ?_
  refine AX.reg (its := [.auto { nk := 0 }]) [1, 2] [0] (s1 := ⟨[(1, .bs false 1 (List.map enc_i p3)), (2, .pt 0 0)], [(0, .box [.bs false 2 (List.map enc_si p1), .v (.int .i64 p2)])]⟩) (C := True) (by kernel_rfl) trivial trivial ?_
  refine AX.seq ?_
  obtain ⟨x4, e1, h⟩ := bd_e h
  refine AX.reg (its := [.auto {}, .auto {}, .call 76 [.bs false 2 (List.map enc_si p1)] (handO (rho ([] ++ [])) [] [] ++ []) (callEv [] [] (.v (.int .i64 x4)) [])]) [1, 2, 5] [0] (s1 := ⟨[(1, .bs false 1 (List.map enc_i p3)), (2, .pt 0 0), (5, .v (.int .i64 x4))], [(0, .box [.bs false 2 (List.map enc_si p1), .v (.int .i64 p2)])]⟩) (C := ((([.bs false 2 (List.map enc_si p1)] : List AV) = [.bs false 2 (List.map enc_si p1)]) ∧ True) ∧ True) (by kernel_rfl) ⟨⟨rfl, trivial⟩, trivial⟩ ⟨call_ok (ks := []) (ns := []) (bor := []) (bobjs := []) (s_spec_mask p1 x4 e1) (.cons (.c1 (.c0 (.same _ (by kernel_rfl) (by kernel_rfl)))) (.nil)) (by kernel_rfl) trivial, trivial⟩ ?_
  refine AX.seq ?_
  refine AX.seq ?_
  obtain ⟨x5, e2, h⟩ := bd_e h
  rcases bool_cases ((!x5)) with b3 | b3
  · replace h := cd_t b3 h
    refine AX.reg (its := [.auto {}, .call 74 [.agg [.bs false 2 (List.map enc_si p1), .v (.int .i64 p2)]] (handO (rho ([] ++ [])) [] [] ++ []) (callEv [] [] (.v (.bool x5)) []), .auto { y := some (.v (.bool true)) }]) [1, 5, 27] [] (s1 := ⟨[(1, .bs false 1 (List.map enc_i p3)), (5, .v (.int .i64 x4)), (27, .v (.bool true))], []⟩) (C := ((([.agg [.bs false 2 (List.map enc_si p1), .v (.int .i64 p2)]] : List AV) = [.agg [.bs false 2 (List.map enc_si p1), .v (.int .i64 p2)]]) ∧ True) ∧ ((True) ∧ ((.v (.bool (!x5)) : AV) = (.v (.bool true) : AV))) ∧ True) (by kernel_rfl) ⟨⟨rfl, trivial⟩, ⟨⟨trivial, (congrArg (fun z => AV.v (.bool z)) b3)⟩, trivial⟩⟩ ⟨call_ok (ks := []) (ns := []) (bor := []) (bobjs := []) (s_spec_validFlag p1 p2 x5 e2) (.cons (.c1 (.agg (.cons (.same _ (by kernel_rfl) (by kernel_rfl)) (.cons (.same _ (by kernel_rfl) (by kernel_rfl)) (.nil))))) (.nil)) (by kernel_rfl) trivial, trivial⟩ ?_
    refine AX.cond_true (by kernel_rfl) ?_
    refine AX.seq ?_
    refine AX.reg (its := []) [4] [] (s1 := ⟨[(4, .v (.slice none 0 0))], []⟩) (C := True) (by kernel_rfl) trivial trivial ?_
    refine AX.ret ?_
    refine fin_wk (Wk.mat 4 0 2 (by kernel_rfl) (Nat.le_of_ble_eq_true (by kernel_rfl)) (by kernel_rfl) rfl) ?_
    refine fin_wk (Wk.forget [4] [0] (s' := ⟨[(4, .sl 0 0 (([] : List (Int × Int)).length))], [(0, .arr 2 (List.map enc_ii ([] : List (Int × Int))))]⟩) (by kernel_rfl)) ?_
    have hr := Option.some.inj h
    subst hr
    exact ⟨_, Wk.refl _, .inr rfl, ⟨[0], by kernel_rfl, ⟨rfl, trivial⟩, [.sl 0 0 (([] : List (Int × Int)).length)], by kernel_rfl, by kernel_rfl⟩⟩
  · replace h := cd_f b3 h
    obtain ⟨x6, e4, h⟩ := bd_e h
    rcases bool_cases (decide (6 < x6)) with b5 | b5
    · replace h := cd_t b5 h
      refine AX.reg (its := [.auto {}, .call 74 [.agg [.bs false 2 (List.map enc_si p1), .v (.int .i64 p2)]] (handO (rho ([] ++ [])) [] [] ++ []) (callEv [] [] (.v (.bool x5)) []), .auto { y := some (.v (.bool false)) }, .auto {}, .auto {}, .call 75 [.v (.int .i64 x4)] (handO (rho ([] ++ [])) [] [] ++ []) (callEv [] [] (.v (.int .i64 x6)) []), .auto { y := some (.v (.bool true)) }]) [1, 5, 27] [] (s1 := ⟨[(1, .bs false 1 (List.map enc_i p3)), (5, .v (.int .i64 x4)), (27, .v (.bool true))], []⟩) (C := ((([.agg [.bs false 2 (List.map enc_si p1), .v (.int .i64 p2)]] : List AV) = [.agg [.bs false 2 (List.map enc_si p1), .v (.int .i64 p2)]]) ∧ True) ∧ ((True) ∧ ((.v (.bool (!x5)) : AV) = (.v (.bool false) : AV))) ∧ ((([.v (.int .i64 x4)] : List AV) = [.v (.int .i64 x4)]) ∧ True) ∧ ((True) ∧ ((.v (.bool (decide (6 < x6))) : AV) = (.v (.bool true) : AV))) ∧ True) (by kernel_rfl) ⟨⟨rfl, trivial⟩, ⟨⟨trivial, (congrArg (fun z => AV.v (.bool z)) b3)⟩, ⟨⟨rfl, trivial⟩, ⟨⟨trivial, (congrArg (fun z => AV.v (.bool z)) b5)⟩, trivial⟩⟩⟩⟩ ⟨call_ok (ks := []) (ns := []) (bor := []) (bobjs := []) (s_spec_validFlag p1 p2 x5 e2) (.cons (.c1 (.agg (.cons (.same _ (by kernel_rfl) (by kernel_rfl)) (.cons (.same _ (by kernel_rfl) (by kernel_rfl)) (.nil))))) (.nil)) (by kernel_rfl) trivial, ⟨call_ok (ks := []) (ns := []) (bor := []) (bobjs := []) (s_spec_bitCount x4 x6 e4) (.cons (.c1 (.c0 (.same _ (by kernel_rfl) (by kernel_rfl)))) (.nil)) (by kernel_rfl) trivial, trivial⟩⟩ ?_
      refine AX.cond_true (by kernel_rfl) ?_
      refine AX.seq ?_
      refine AX.reg (its := []) [4] [] (s1 := ⟨[(4, .v (.slice none 0 0))], []⟩) (C := True) (by kernel_rfl) trivial trivial ?_
      refine AX.ret ?_
      refine fin_wk (Wk.mat 4 0 2 (by kernel_rfl) (Nat.le_of_ble_eq_true (by kernel_rfl)) (by kernel_rfl) rfl) ?_
      refine fin_wk (Wk.forget [4] [0] (s' := ⟨[(4, .sl 0 0 (([] : List (Int × Int)).length))], [(0, .arr 2 (List.map enc_ii ([] : List (Int × Int))))]⟩) (by kernel_rfl)) ?_
      have hr := Option.some.inj h
      subst hr
      exact ⟨_, Wk.refl _, .inr rfl, ⟨[0], by kernel_rfl, ⟨rfl, trivial⟩, [.sl 0 0 (([] : List (Int × Int)).length)], by kernel_rfl, by kernel_rfl⟩⟩
    · replace h := cd_f b5 h
      refine AX.reg (its := [.auto {}, .call 74 [.agg [.bs false 2 (List.map enc_si p1), .v (.int .i64 p2)]] (handO (rho ([] ++ [])) [] [] ++ []) (callEv [] [] (.v (.bool x5)) []), .auto { y := some (.v (.bool false)) }, .auto {}, .auto {}, .call 75 [.v (.int .i64 x4)] (handO (rho ([] ++ [])) [] [] ++ []) (callEv [] [] (.v (.int .i64 x6)) []), .auto { y := some (.v (.bool false)) }, .auto {}, .auto {}, .auto {}, .auto { y := some (.v (.int .i64 (p3.length : Int))) }]) [1, 5, 27] [] (s1 := ⟨[(1, .bs false 1 (List.map enc_i p3)), (5, .v (.int .i64 x4)), (27, .v (.bool (decide (64 < (p3.length : Int)))))], []⟩) (C := ((([.agg [.bs false 2 (List.map enc_si p1), .v (.int .i64 p2)]] : List AV) = [.agg [.bs false 2 (List.map enc_si p1), .v (.int .i64 p2)]]) ∧ True) ∧ ((True) ∧ ((.v (.bool (!x5)) : AV) = (.v (.bool false) : AV))) ∧ ((([.v (.int .i64 x4)] : List AV) = [.v (.int .i64 x4)]) ∧ True) ∧ ((True) ∧ ((.v (.bool (decide (6 < x6))) : AV) = (.v (.bool false) : AV))) ∧ (True ∧ (AV.v (.int .i64 ((List.map enc_i p3).length : Int)) = AV.v (.int .i64 (p3.length : Int)))) ∧ True) (by kernel_rfl) ⟨⟨rfl, trivial⟩, ⟨⟨trivial, (congrArg (fun z => AV.v (.bool z)) b3)⟩, ⟨⟨rfl, trivial⟩, ⟨⟨trivial, (congrArg (fun z => AV.v (.bool z)) b5)⟩, ⟨⟨trivial, len_map enc_i p3⟩, trivial⟩⟩⟩⟩⟩ ⟨call_ok (ks := []) (ns := []) (bor := []) (bobjs := []) (s_spec_validFlag p1 p2 x5 e2) (.cons (.c1 (.agg (.cons (.same _ (by kernel_rfl) (by kernel_rfl)) (.cons (.same _ (by kernel_rfl) (by kernel_rfl)) (.nil))))) (.nil)) (by kernel_rfl) trivial, ⟨call_ok (ks := []) (ns := []) (bor := []) (bobjs := []) (s_spec_bitCount x4 x6 e4) (.cons (.c1 (.c0 (.same _ (by kernel_rfl) (by kernel_rfl)))) (.nil)) (by kernel_rfl) trivial, trivial⟩⟩ ?_
      rcases bool_cases (decide (64 < (p3.length : Int))) with b6 | b6
      · replace h := cd_t b6 h
        refine AX.condT (decide (64 < (p3.length : Int))) (by kernel_rfl) b6 ?_
        refine AX.seq ?_
        refine AX.reg (its := []) [4] [] (s1 := ⟨[(4, .v (.slice none 0 0))], []⟩) (C := True) (by kernel_rfl) trivial trivial ?_
        refine AX.ret ?_
        refine fin_wk (Wk.mat 4 0 2 (by kernel_rfl) (Nat.le_of_ble_eq_true (by kernel_rfl)) (by kernel_rfl) rfl) ?_
        refine fin_wk (Wk.forget [4] [0] (s' := ⟨[(4, .sl 0 0 (([] : List (Int × Int)).length))], [(0, .arr 2 (List.map enc_ii ([] : List (Int × Int))))]⟩) (by kernel_rfl)) ?_
        have hr := Option.some.inj h
        subst hr
        exact ⟨_, Wk.refl _, .inr rfl, ⟨[0], by kernel_rfl, ⟨rfl, trivial⟩, [.sl 0 0 (([] : List (Int × Int)).length)], by kernel_rfl, by kernel_rfl⟩⟩
      · replace h := cd_f b6 h
        refine AX.condF (decide (64 < (p3.length : Int))) (by kernel_rfl) b6 ?_
        refine AX.skip ?_
        refine AX.seq ?_
        refine AX.seq ?_
        refine AX.reg (its := []) [1, 5, 6] [] (s1 := ⟨[(1, .bs false 1 (List.map enc_i p3)), (5, .v (.int .i64 x4)), (6, .v (.int .i64 0))], []⟩) (C := True) (by kernel_rfl) trivial trivial ?_
        refine AX.block ?_
        obtain ⟨x10, e13, h⟩ := bd_e h
        refine AX.wk (Wk.forget [1, 5, 6] [] (s' := ⟨[(1, .bs false 1 (List.map enc_i p3)), (5, .v (.int .i64 x4)), (6, .v (.int .i64 0))], []⟩) (by kernel_rfl)) ?_
        refine AX.mono (s_spec_GreatestArms_L1 p3 x4 FU 0 x10 e13) ?_
        rintro _ _ (⟨x11, rfl, rfl, rfl⟩ | ⟨x12, rfl, rfl, rfl⟩)
        · replace h := sm_l h
          refine fin_wk (Wk.mat 4 0 2 (by kernel_rfl) (Nat.le_of_ble_eq_true (by kernel_rfl)) (by kernel_rfl) rfl) ?_
          refine fin_wk (Wk.forget [4] [0] (s' := ⟨[(4, .sl 0 0 (([] : List (Int × Int)).length))], [(0, .arr 2 (List.map enc_ii ([] : List (Int × Int))))]⟩) (by kernel_rfl)) ?_
          have hr := Option.some.inj h
          subst hr
          exact ⟨_, Wk.refl _, .inr rfl, ⟨[0], by kernel_rfl, ⟨rfl, trivial⟩, [.sl 0 0 (([] : List (Int × Int)).length)], by kernel_rfl, by kernel_rfl⟩⟩
        · replace h := sm_r h
          refine AX.seq ?_
          obtain ⟨x13, e14, h⟩ := bd_e h
          refine AX.reg (its := [.auto {}, .auto {}, .call 95 [.v (.int .i64 x4), .bs false 1 (List.map enc_i p3)] (handO (rho ([] ++ [0])) [] [] ++ []) (callEv [] [0] (.sl 0 0 x13.length) [.arr 2 (List.map enc_ii x13)])]) [7] [0] (s1 := ⟨[(7, .sl 0 0 x13.length)], [(0, .arr 2 (List.map enc_ii x13))]⟩) (C := ((([.v (.int .i64 x4), .bs false 1 (List.map enc_i p3)] : List AV) = [.v (.int .i64 x4), .bs false 1 (List.map enc_i p3)]) ∧ True) ∧ True) (by kernel_rfl) ⟨⟨rfl, trivial⟩, trivial⟩ ⟨call_ok (ks := []) (ns := [0]) (bor := []) (bobjs := []) (s_spec_armsIn x4 p3 x13 e14) (.cons (.c1 (.c0 (.same _ (by kernel_rfl) (by kernel_rfl)))) (.cons (.c1 (.c0 (.same _ (by kernel_rfl) (by kernel_rfl)))) (.nil))) (by kernel_rfl) trivial, trivial⟩ ?_
          refine AX.seq ?_
          refine AX.reg (its := [.auto { nk := 1 }]) [7, 8] [0, 1] (s1 := ⟨[(7, .sl 0 0 x13.length), (8, .sl 1 0 (([] : List (Int × Int)).length))], [(0, .arr 2 (List.map enc_ii x13)), (1, .arr 2 (List.map enc_ii ([] : List (Int × Int))))]⟩) (C := True) (by kernel_rfl) trivial trivial ?_
          refine AX.seq ?_
          refine AX.seq ?_
          refine AX.reg (its := []) [7, 8, 9] [0, 1] (s1 := ⟨[(7, .sl 0 0 x13.length), (8, .sl 1 0 (([] : List (Int × Int)).length)), (9, .v (.int .i64 0))], [(0, .arr 2 (List.map enc_ii x13)), (1, .arr 2 (List.map enc_ii ([] : List (Int × Int))))]⟩) (C := True) (by kernel_rfl) trivial trivial ?_
          refine AX.block ?_
          obtain ⟨x20, e26, h⟩ := bd_e h
          refine AX.wk (Wk.forget [7, 8, 9] [0, 1] (s' := ⟨[(7, .sl 0 0 x13.length), (8, .sl 1 0 (([] : List (Int × Int)).length)), (9, .v (.int .i64 0))], [(0, .arr 2 (List.map enc_ii x13)), (1, .arr 2 (List.map enc_ii ([] : List (Int × Int))))]⟩) (by kernel_rfl)) ?_
          refine AX.mono (s_spec_GreatestArms_L2 x13 FU (([] : List (Int × Int)), 0) x20 e26) ?_
          rintro _ _ ⟨rfl, rfl⟩
          skip
          refine AX.seq ?_
          refine AX.reg (its := []) [4] [0] (s1 := ⟨[(4, .sl 0 0 x20.length)], [(0, .arr 2 (List.map enc_ii x20))]⟩) (C := True) (by kernel_rfl) trivial trivial ?_
          refine AX.ret ?_
          refine fin_wk (Wk.forget [4] [0] (s' := ⟨[(4, .sl 0 0 x20.length)], [(0, .arr 2 (List.map enc_ii x20))]⟩) (by kernel_rfl)) ?_
          have hr := Option.some.inj h
          subst hr
          exact ⟨_, Wk.refl _, .inr rfl, ⟨[0], by kernel_rfl, ⟨rfl, trivial⟩, [.sl 0 0 x20.length], by kernel_rfl, by kernel_rfl⟩⟩

theorem s_impl_in (p1 : Int) (p2 : Int) (p3 : Int) (r : Bool) (h : m_impl_in p1 p2 p3 = some r) :
    Eng.Spec Try.prog 130 [.v (.int .i64 p1), .v (.int .i64 p2), .v (.int .i64 p3)] [] (.v (.bool r)) [] := by
  unfold m_impl_in at h
  refine Eng.Spec.body Try.func130 (by kernel_rfl) rfl (by kernel_rfl) ?_
  refine AX.wkpost ?_
  refine AX.seq ?_
  refine AX.reg (its := []) [0, 1, 2] [] (s1 := ⟨[(0, .v (.int .i64 p1)), (1, .v (.int .i64 p2)), (2, .v (.int .i64 p3))], []⟩) (C := True) (by kernel_rfl) trivial trivial ?_
  refine AX.seq ?_
  rcases bool_cases (decide (p2 ≤ p1)) with b1 | b1
  · replace h := cd_t b1 h
    refine AX.reg (its := [.auto {}, .auto {}, .auto { y := some (.v (.bool true)) }]) [6] [] (s1 := ⟨[(6, .v (.bool (decide (p1 ≤ p3))))], []⟩) (C := ((True) ∧ ((.v (.bool (decide (p2 ≤ p1))) : AV) = (.v (.bool true) : AV))) ∧ True) (by kernel_rfl) ⟨⟨trivial, (congrArg (fun z => AV.v (.bool z)) b1)⟩, trivial⟩ trivial ?_
    refine AX.ret ?_
    refine fin_wk (Wk.forget [6] [] (s' := ⟨[(6, .v (.bool (decide (p1 ≤ p3))))], []⟩) (by kernel_rfl)) ?_
    have hr := Option.some.inj h
    subst hr
    exact ⟨_, Wk.refl _, .inr rfl, ⟨[], by kernel_rfl, trivial, [.v (.bool (decide (p1 ≤ p3)))], by kernel_rfl, by kernel_rfl⟩⟩
  · replace h := cd_f b1 h
    refine AX.reg (its := [.auto {}, .auto {}, .auto { y := some (.v (.bool false)) }]) [6] [] (s1 := ⟨[(6, .v (.bool false))], []⟩) (C := ((True) ∧ ((.v (.bool (decide (p2 ≤ p1))) : AV) = (.v (.bool false) : AV))) ∧ True) (by kernel_rfl) ⟨⟨trivial, (congrArg (fun z => AV.v (.bool z)) b1)⟩, trivial⟩ trivial ?_
    refine AX.ret ?_
    refine fin_wk (Wk.forget [6] [] (s' := ⟨[(6, .v (.bool false))], []⟩) (by kernel_rfl)) ?_
    have hr := Option.some.inj h
    subst hr
    exact ⟨_, Wk.refl _, .inr rfl, ⟨[], by kernel_rfl, trivial, [.v (.bool false)], by kernel_rfl, by kernel_rfl⟩⟩

theorem s_impl_ValidName_L1 (p1 : ByteArray) (n : Nat) (g : Int) (out : Unit ⊕ Unit) (h : m_impl_ValidName_L1 p1 n g = some out) :
    AX Try.prog 23 0 (codeAt [1, 0, 1, 1] (bodyOf Try.f169)) ((fun g : Int => (⟨[(0, .v (.string p1)), (3, .v (.int .i64 g))], []⟩ : S)) g) (fun ex s => (∃ o : Unit, out = Sum.inl o ∧ ex = .ret ∧ s = ⟨[(2, .v (.bool false))], []⟩) ∨ (∃ o : Unit, out = Sum.inr o ∧ ex = .exit 0 ∧ s = ⟨[(0, .v (.string p1))], []⟩)) := by
  refine AX.wkpost ?_
  refine AX.loop (G := Nat × (Int)) (fun q => (fun g : Int => (⟨[(0, .v (.string p1)), (3, .v (.int .i64 g))], []⟩ : S)) q.2) (fun q => m_impl_ValidName_L1 p1 q.1 q.2 = some out) (fun q => q.1) (n, g) h (Wk.refl _) ?_
  clear h
  rintro ⟨fu, v2⟩ h
  cases fu with
  | zero => cases h
  | succ fu =>
    rw [m_impl_ValidName_L1] at h
    refine AX.seq ?_
    refine AX.seq ?_
    refine AX.reg (its := []) [0, 3, 7] [] (s1 := ⟨[(0, .v (.string p1)), (3, .v (.int .i64 v2)), (7, .v (.bool (decide (v2 < (p1.size : Int)))))], []⟩) (C := True) (by kernel_rfl) trivial trivial ?_
    rcases bool_cases (decide (v2 < (p1.size : Int))) with b1 | b1
    · replace h := cd_t b1 h
      refine AX.condT (decide (v2 < (p1.size : Int))) (by kernel_rfl) b1 ?_
      refine AX.skip ?_
      refine AX.seq ?_
      refine AX.block ?_
      refine AX.seq ?_
      obtain ⟨g2, h⟩ := gd_e h
      rcases bool_cases (decide ((byteAt p1 v2.toNat) < 97)) with b3 | b3
      · replace h := cd_t b3 h
        refine AX.reg (its := [.auto {}, .auto {}, .auto {}, .auto { y := some (.v (.bool true)) }]) [0, 3, 19] [] (s1 := ⟨[(0, .v (.string p1)), (3, .v (.int .i64 v2)), (19, .v (.bool true))], []⟩) (C := (0 ≤ v2 ∧ v2 < (p1.size : Int)) ∧ ((True) ∧ ((.v (.bool (decide ((byteAt p1 v2.toNat) < 97))) : AV) = (.v (.bool true) : AV))) ∧ True) (by kernel_rfl) ⟨g2, ⟨⟨trivial, (congrArg (fun z => AV.v (.bool z)) b3)⟩, trivial⟩⟩ trivial ?_
        refine AX.cond_true (by kernel_rfl) ?_
        refine AX.seq ?_
        refine AX.reg (its := []) [2] [] (s1 := ⟨[(2, .v (.bool false))], []⟩) (C := True) (by kernel_rfl) trivial trivial ?_
        refine AX.ret ?_
        refine fin_wk (Wk.forget [2] [] (s' := ⟨[(2, .v (.bool false))], []⟩) (by kernel_rfl)) ?_
        have hr := Option.some.inj h
        subst hr
        exact ⟨_, Wk.refl _, .inl ⟨(), rfl, rfl, rfl⟩⟩
      · replace h := cd_f b3 h
        refine AX.reg (its := [.auto {}, .auto {}, .auto {}, .auto { y := some (.v (.bool false)) }]) [0, 3, 19] [] (s1 := ⟨[(0, .v (.string p1)), (3, .v (.int .i64 v2)), (19, .v (.bool (decide (122 < (byteAt p1 v2.toNat)))))], []⟩) (C := (0 ≤ v2 ∧ v2 < (p1.size : Int)) ∧ ((True) ∧ ((.v (.bool (decide ((byteAt p1 v2.toNat) < 97))) : AV) = (.v (.bool false) : AV))) ∧ (0 ≤ v2 ∧ v2 < (p1.size : Int)) ∧ True) (by kernel_rfl) ⟨g2, ⟨⟨trivial, (congrArg (fun z => AV.v (.bool z)) b3)⟩, ⟨g2, trivial⟩⟩⟩ trivial ?_
        rcases bool_cases (decide (122 < (byteAt p1 v2.toNat))) with b4 | b4
        · replace h := cd_t b4 h
          refine AX.condT (decide (122 < (byteAt p1 v2.toNat))) (by kernel_rfl) b4 ?_
          refine AX.seq ?_
          refine AX.reg (its := []) [2] [] (s1 := ⟨[(2, .v (.bool false))], []⟩) (C := True) (by kernel_rfl) trivial trivial ?_
          refine AX.ret ?_
          refine fin_wk (Wk.forget [2] [] (s' := ⟨[(2, .v (.bool false))], []⟩) (by kernel_rfl)) ?_
          have hr := Option.some.inj h
          subst hr
          exact ⟨_, Wk.refl _, .inl ⟨(), rfl, rfl, rfl⟩⟩
        · replace h := cd_f b4 h
          refine AX.condF (decide (122 < (byteAt p1 v2.toNat))) (by kernel_rfl) b4 ?_
          refine AX.skip ?_
          refine AX.reg (its := [.auto {}, .auto { raw := true }]) [0, 3] [] (s1 := ⟨[(0, .v (.string p1)), (3, .v (.int .i64 (IntKind.wrap .i64 (v2 + 1))))], []⟩) (C := True) (by kernel_rfl) trivial trivial ?_
          refine ⟨(fu, IntKind.wrap .i64 (v2 + 1)), h, Nat.lt_succ_self _, ?_⟩
          refine Wk.trans (Wk.forget [0, 3] [] (s' := ⟨[(0, .v (.string p1)), (3, .v (.int .i64 (IntKind.wrap .i64 (v2 + 1))))], []⟩) (by kernel_rfl)) ?_
          exact Wk.refl _
    · replace h := cd_f b1 h
      refine AX.condF (decide (v2 < (p1.size : Int))) (by kernel_rfl) b1 ?_
      refine AX.exit ?_
      refine fin_wk (Wk.forget [0] [] (s' := ⟨[(0, .v (.string p1))], []⟩) (by kernel_rfl)) ?_
      have hr := Option.some.inj h
      subst hr
      exact ⟨_, Wk.refl _, .inr ⟨(), rfl, rfl, rfl⟩⟩

theorem s_impl_ValidName (p1 : ByteArray) (r : Bool) (h : m_impl_ValidName p1 = some r) :
    Eng.Spec Try.prog 169 [.v (.string p1)] [] (.v (.bool r)) [] := by
  unfold m_impl_ValidName at h
  refine Eng.Spec.body Try.func169 (by kernel_rfl) rfl (by kernel_rfl) ?_
  refine AX.wkpost ?_
  refine AX.seq ?_
  refine AX.reg (its := []) [0] [] (s1 := ⟨[(0, .v (.string p1))], []⟩) (C := True) (by kernel_rfl) trivial trivial ?_
  refine AX.seq ?_
  refine AX.seq ?_
  refine AX.reg (its := []) [0, 3] [] (s1 := ⟨[(0, .v (.string p1)), (3, .v (.int .i64 0))], []⟩) (C := True) (by kernel_rfl) trivial trivial ?_
  refine AX.block ?_
  obtain ⟨x3, e5, h⟩ := bd_e h
  refine AX.wk (Wk.forget [0, 3] [] (s' := ⟨[(0, .v (.string p1)), (3, .v (.int .i64 0))], []⟩) (by kernel_rfl)) ?_
  refine AX.mono (s_impl_ValidName_L1 p1 FU 0 x3 e5) ?_
  rintro _ _ (⟨x4, rfl, rfl, rfl⟩ | ⟨x5, rfl, rfl, rfl⟩)
  · replace h := sm_l h
    refine fin_wk (Wk.forget [2] [] (s' := ⟨[(2, .v (.bool false))], []⟩) (by kernel_rfl)) ?_
    have hr := Option.some.inj h
    subst hr
    exact ⟨_, Wk.refl _, .inr rfl, ⟨[], by kernel_rfl, trivial, [.v (.bool false)], by kernel_rfl, by kernel_rfl⟩⟩
  · replace h := sm_r h
    refine AX.seq ?_
    obtain ⟨x6, e6, h⟩ := bd_e h
    refine AX.reg (its := [.auto {}, .auto {}, .call 130 [.v (.int .i64 (p1.size : Int)), .v (.int .i64 1), .v (.int .i64 6)] (handO (rho ([] ++ [])) [] [] ++ []) (callEv [] [] (.v (.bool x6)) [])]) [2] [] (s1 := ⟨[(2, .v (.bool x6))], []⟩) (C := ((([.v (.int .i64 (p1.size : Int)), .v (.int .i64 1), .v (.int .i64 6)] : List AV) = [.v (.int .i64 (p1.size : Int)), .v (.int .i64 1), .v (.int .i64 6)]) ∧ True) ∧ True) (by kernel_rfl) ⟨⟨rfl, trivial⟩, trivial⟩ ⟨call_ok (ks := []) (ns := []) (bor := []) (bobjs := []) (s_impl_in (p1.size : Int) 1 6 x6 e6) (.cons (.c1 (.c0 (.same _ (by kernel_rfl) (by kernel_rfl)))) (.cons (.c1 (.c0 (.same _ (by kernel_rfl) (by kernel_rfl)))) (.cons (.c1 (.c0 (.same _ (by kernel_rfl) (by kernel_rfl)))) (.nil)))) (by kernel_rfl) trivial, trivial⟩ ?_
    refine AX.ret ?_
    refine fin_wk (Wk.forget [2] [] (s' := ⟨[(2, .v (.bool x6))], []⟩) (by kernel_rfl)) ?_
    have hr := Option.some.inj h
    subst hr
    exact ⟨_, Wk.refl _, .inr rfl, ⟨[], by kernel_rfl, trivial, [.v (.bool x6)], by kernel_rfl, by kernel_rfl⟩⟩

theorem s_impl_named_1_l (p1 : ByteArray) (p2 : Int) (p3 : ByteArray) (r : Unit) (h : m_impl_named_1_l p1 p2 p3 = some r) :
    Eng.Spec Try.prog 171 [.agg [.v (.string p1), .v (.int .i64 p2)], .bp [.v (.string p3)] 0] [] (.v (.bool (decide (p1 = p3)))) [] := by
  unfold m_impl_named_1_l at h
  refine Eng.Spec.body Try.func171 (by kernel_rfl) rfl (by kernel_rfl) ?_
  refine AX.wkpost ?_
  refine AX.seq ?_
  refine AX.reg (its := [.auto { nk := 0 }]) [1, 2] [0] (s1 := ⟨[(1, .bp [.v (.string p3)] 0), (2, .pt 0 0)], [(0, .box [.v (.string p1), .v (.int .i64 p2)])]⟩) (C := True) (by kernel_rfl) trivial trivial ?_
  refine AX.seq ?_
  refine AX.reg (its := []) [3] [] (s1 := ⟨[(3, .v (.bool (decide (p1 = p3))))], []⟩) (C := True) (by kernel_rfl) trivial trivial ?_
  refine AX.ret ?_
  refine fin_wk (Wk.forget [3] [] (s' := ⟨[(3, .v (.bool (decide (p1 = p3))))], []⟩) (by kernel_rfl)) ?_
  have hr := Option.some.inj h
  subst hr
  exact ⟨_, Wk.refl _, .inr rfl, ⟨[], by kernel_rfl, trivial, [.v (.bool (decide (p1 = p3)))], by kernel_rfl, by kernel_rfl⟩⟩

theorem s_slices_IndexFunc_si_named_1_l_L1 (p1 : List (ByteArray × Int)) (p2 : ByteArray) (n : Nat) (g : Int) (out : Int ⊕ Unit) (h : m_slices_IndexFunc_si_named_1_l_L1 p1 p2 n g = some out) :
    AX Try.prog 19 0 (codeAt [1, 0, 1, 1] (bodyOf Try.f170)) ((fun g : Int => (⟨[(0, .bs false 2 (List.map enc_si p1)), (1, .fn 171 [.bp [.v (.string p2)] 0]), (7, .v (.int .i64 (p1.length : Int))), (8, .v (.int .i64 g))], []⟩ : S)) g) (fun ex s => (∃ o : Int, out = Sum.inl o ∧ ex = .ret ∧ s = ⟨[(4, .v (.int .i64 o))], []⟩) ∨ (∃ o : Unit, out = Sum.inr o ∧ ex = .exit 0 ∧ s = ⟨[], []⟩)) := by
  refine AX.wkpost ?_
  refine AX.loop (G := Nat × (Int)) (fun q => (fun g : Int => (⟨[(0, .bs false 2 (List.map enc_si p1)), (1, .fn 171 [.bp [.v (.string p2)] 0]), (7, .v (.int .i64 (p1.length : Int))), (8, .v (.int .i64 g))], []⟩ : S)) q.2) (fun q => m_slices_IndexFunc_si_named_1_l_L1 p1 p2 q.1 q.2 = some out) (fun q => q.1) (n, g) h (Wk.refl _) ?_
  clear h
  rintro ⟨fu, v3⟩ h
  cases fu with
  | zero => cases h
  | succ fu =>
    rw [m_slices_IndexFunc_si_named_1_l_L1] at h
    refine AX.seq ?_
    refine AX.reg (its := []) [0, 1, 7, 8, 9] [] (s1 := ⟨[(0, .bs false 2 (List.map enc_si p1)), (1, .fn 171 [.bp [.v (.string p2)] 0]), (7, .v (.int .i64 (p1.length : Int))), (8, .v (.int .i64 v3)), (9, .v (.bool (decide (v3 < (p1.length : Int)))))], []⟩) (C := True) (by kernel_rfl) trivial trivial ?_
    refine AX.seq ?_
    rcases bool_cases (decide (v3 < (p1.length : Int))) with b1 | b1
    · replace h := cd_t b1 h
      refine AX.condT (decide (v3 < (p1.length : Int))) (by kernel_rfl) b1 ?_
      refine AX.skip ?_
      refine AX.seq ?_
      refine AX.block ?_
      refine AX.seq ?_
      refine AX.reg (its := []) [0, 1, 5, 7, 8] [] (s1 := ⟨[(0, .bs false 2 (List.map enc_si p1)), (1, .fn 171 [.bp [.v (.string p2)] 0]), (5, .v (.int .i64 v3)), (7, .v (.int .i64 (p1.length : Int))), (8, .v (.int .i64 v3))], []⟩) (C := True) (by kernel_rfl) trivial trivial ?_
      refine AX.seq ?_
      obtain ⟨g2, h⟩ := gd_e h
      obtain ⟨x4, e3, h⟩ := bd_e h
      refine AX.reg (its := [.auto {}, .auto {}, .auto {}, .auto { y := some (.be 2 (enc_si (gt p1 v3)) 0) }, .auto {}, .call 171 [.agg [.v (.string ((gt p1 v3).1)), .v (.int .i64 ((gt p1 v3).2))], .bp [.v (.string p2)] 0] (handO (rho ([] ++ [])) [] [] ++ []) (callEv [] [] (.v (.bool (decide (((gt p1 v3).1) = p2)))) [])]) [0, 1, 5, 7, 8, 16] [] (s1 := ⟨[(0, .bs false 2 (List.map enc_si p1)), (1, .fn 171 [.bp [.v (.string p2)] 0]), (5, .v (.int .i64 v3)), (7, .v (.int .i64 (p1.length : Int))), (8, .v (.int .i64 v3)), (16, .v (.bool (decide (((gt p1 v3).1) = p2))))], []⟩) (C := ((0 ≤ v3 ∧ v3 < ((List.map enc_si p1).length : Int)) ∧ (AV.be 2 ((List.map enc_si p1).getD v3.toNat []) 0 = AV.be 2 (enc_si (gt p1 v3)) 0)) ∧ ((([.agg [.v (.string ((gt p1 v3).1)), .v (.int .i64 ((gt p1 v3).2))], .bp [.v (.string p2)] 0] : List AV) = [.agg [.v (.string ((gt p1 v3).1)), .v (.int .i64 ((gt p1 v3).2))], .bp [.v (.string p2)] 0]) ∧ True) ∧ True) (by kernel_rfl) ⟨idx_bs enc_si p1 v3 2 g2, ⟨⟨rfl, trivial⟩, trivial⟩⟩ ⟨call_ok (ks := []) (ns := []) (bor := []) (bobjs := []) (s_impl_named_1_l ((gt p1 v3).1) ((gt p1 v3).2) p2 x4 e3) (.cons (.c1 (.agg (.cons (.same _ (by kernel_rfl) (by kernel_rfl)) (.cons (.same _ (by kernel_rfl) (by kernel_rfl)) (.nil))))) (.cons (.c1 (.bp (.cons (.same _ (by kernel_rfl) (by kernel_rfl)) (.nil)))) (.nil))) (by kernel_rfl) trivial, trivial⟩ ?_
      rcases bool_cases (decide (((gt p1 v3).1) = p2)) with b4 | b4
      · replace h := cd_t b4 h
        refine AX.condT (decide (((gt p1 v3).1) = p2)) (by kernel_rfl) b4 ?_
        refine AX.seq ?_
        refine AX.reg (its := []) [4] [] (s1 := ⟨[(4, .v (.int .i64 v3))], []⟩) (C := True) (by kernel_rfl) trivial trivial ?_
        refine AX.ret ?_
        refine fin_wk (Wk.forget [4] [] (s' := ⟨[(4, .v (.int .i64 v3))], []⟩) (by kernel_rfl)) ?_
        have hr := Option.some.inj h
        subst hr
        exact ⟨_, Wk.refl _, .inl ⟨v3, rfl, rfl, rfl⟩⟩
      · replace h := cd_f b4 h
        refine AX.condF (decide (((gt p1 v3).1) = p2)) (by kernel_rfl) b4 ?_
        refine AX.skip ?_
        refine AX.reg (its := [.auto { raw := true }]) [0, 1, 7, 8] [] (s1 := ⟨[(0, .bs false 2 (List.map enc_si p1)), (1, .fn 171 [.bp [.v (.string p2)] 0]), (7, .v (.int .i64 (p1.length : Int))), (8, .v (.int .i64 (IntKind.wrap .i64 (v3 + 1))))], []⟩) (C := True) (by kernel_rfl) trivial trivial ?_
        refine ⟨(fu, IntKind.wrap .i64 (v3 + 1)), h, Nat.lt_succ_self _, ?_⟩
        refine Wk.trans (Wk.forget [0, 1, 7, 8] [] (s' := ⟨[(0, .bs false 2 (List.map enc_si p1)), (1, .fn 171 [.bp [.v (.string p2)] 0]), (7, .v (.int .i64 (p1.length : Int))), (8, .v (.int .i64 (IntKind.wrap .i64 (v3 + 1))))], []⟩) (by kernel_rfl)) ?_
        exact Wk.refl _
    · replace h := cd_f b1 h
      refine AX.condF (decide (v3 < (p1.length : Int))) (by kernel_rfl) b1 ?_
      refine AX.exit ?_
      refine fin_wk (Wk.forget [] [] (s' := ⟨[], []⟩) (by kernel_rfl)) ?_
      have hr := Option.some.inj h
      subst hr
      exact ⟨_, Wk.refl _, .inr ⟨(), rfl, rfl, rfl⟩⟩

theorem s_slices_IndexFunc_si_named_1_l (p1 : List (ByteArray × Int)) (p2 : ByteArray) (r : Int) (h : m_slices_IndexFunc_si_named_1_l p1 p2 = some r) :
    Eng.Spec Try.prog 170 [.bs false 2 (List.map enc_si p1), .fn 171 [.bp [.v (.string p2)] 0]] [] (.v (.int .i64 r)) [] := by
  unfold m_slices_IndexFunc_si_named_1_l at h
  refine Eng.Spec.body Try.func170 (by kernel_rfl) rfl (by kernel_rfl) ?_
  refine AX.wkpost ?_
  refine AX.seq ?_
  refine AX.reg (its := []) [0, 1] [] (s1 := ⟨[(0, .bs false 2 (List.map enc_si p1)), (1, .fn 171 [.bp [.v (.string p2)] 0])], []⟩) (C := True) (by kernel_rfl) trivial trivial ?_
  refine AX.seq ?_
  refine AX.seq ?_
  refine AX.reg (its := [.auto {}, .auto { y := some (.v (.int .i64 (p1.length : Int))) }]) [0, 1, 7, 8] [] (s1 := ⟨[(0, .bs false 2 (List.map enc_si p1)), (1, .fn 171 [.bp [.v (.string p2)] 0]), (7, .v (.int .i64 (p1.length : Int))), (8, .v (.int .i64 0))], []⟩) (C := (True ∧ (AV.v (.int .i64 ((List.map enc_si p1).length : Int)) = AV.v (.int .i64 (p1.length : Int)))) ∧ True) (by kernel_rfl) ⟨⟨trivial, len_map enc_si p1⟩, trivial⟩ trivial ?_
  refine AX.block ?_
  obtain ⟨x5, e5, h⟩ := bd_e h
  refine AX.wk (Wk.forget [0, 1, 7, 8] [] (s' := ⟨[(0, .bs false 2 (List.map enc_si p1)), (1, .fn 171 [.bp [.v (.string p2)] 0]), (7, .v (.int .i64 (p1.length : Int))), (8, .v (.int .i64 0))], []⟩) (by kernel_rfl)) ?_
  refine AX.mono (s_slices_IndexFunc_si_named_1_l_L1 p1 p2 FU 0 x5 e5) ?_
  rintro _ _ (⟨x6, rfl, rfl, rfl⟩ | ⟨x7, rfl, rfl, rfl⟩)
  · replace h := sm_l h
    refine fin_wk (Wk.forget [4] [] (s' := ⟨[(4, .v (.int .i64 x6))], []⟩) (by kernel_rfl)) ?_
    have hr := Option.some.inj h
    subst hr
    exact ⟨_, Wk.refl _, .inr rfl, ⟨[], by kernel_rfl, trivial, [.v (.int .i64 x6)], by kernel_rfl, by kernel_rfl⟩⟩
  · replace h := sm_r h
    refine AX.seq ?_
    refine AX.reg (its := []) [4] [] (s1 := ⟨[(4, .v (.int .i64 (-1)))], []⟩) (C := True) (by kernel_rfl) trivial trivial ?_
    refine AX.ret ?_
    refine fin_wk (Wk.forget [4] [] (s' := ⟨[(4, .v (.int .i64 (-1)))], []⟩) (by kernel_rfl)) ?_
    have hr := Option.some.inj h
    subst hr
    exact ⟨_, Wk.refl _, .inr rfl, ⟨[], by kernel_rfl, trivial, [.v (.int .i64 (-1))], by kernel_rfl, by kernel_rfl⟩⟩

theorem s_impl_named (p1 : List (ByteArray × Int)) (p2 : ByteArray) (r : Int) (h : m_impl_named p1 p2 = some r) :
    Eng.Spec Try.prog 131 [.bs false 2 (List.map enc_si p1), .v (.string p2)] [] (.v (.int .i64 r)) [] := by
  unfold m_impl_named at h
  refine Eng.Spec.body Try.func131 (by kernel_rfl) rfl (by kernel_rfl) ?_
  refine AX.wkpost ?_
  refine AX.seq ?_
  refine AX.reg (its := [.auto { nk := 0 }]) [0, 3] [0] (s1 := ⟨[(0, .bs false 2 (List.map enc_si p1)), (3, .pt 0 0)], [(0, .box [.v (.string p2)])]⟩) (C := True) (by kernel_rfl) trivial trivial ?_
  refine AX.seq ?_
  obtain ⟨x3, e1, h⟩ := bd_e h
  refine AX.reg (its := [.auto {}, .auto {}, .call 170 [.bs false 2 (List.map enc_si p1), .fn 171 [.pt 0 0]] (handO (rho ([] ++ [])) [] [] ++ [(0, .box [.v (.string p2)])]) (callEv [] [] (.v (.int .i64 x3)) [])]) [4] [] (s1 := ⟨[(4, .v (.int .i64 x3))], []⟩) (C := ((([.bs false 2 (List.map enc_si p1), .fn 171 [.pt 0 0]] : List AV) = [.bs false 2 (List.map enc_si p1), .fn 171 [.pt 0 0]]) ∧ (AO.box [.v (.string p2)] = AO.box [.v (.string p2)]) ∧ True) ∧ True) (by kernel_rfl) ⟨⟨rfl, rfl, trivial⟩, trivial⟩ ⟨call_ok (ks := []) (ns := []) (bor := [0]) (bobjs := [(0, .box [.v (.string p2)])]) (s_slices_IndexFunc_si_named_1_l p1 p2 x3 e1) (.cons (.c1 (.c0 (.same _ (by kernel_rfl) (by kernel_rfl)))) (.cons (.fn (.cons (.box rfl rfl (.cons (.same _ (by kernel_rfl) (by kernel_rfl)) (.nil))) (.nil))) (.nil))) (by kernel_rfl) trivial, trivial⟩ ?_
  refine AX.ret ?_
  refine fin_wk (Wk.forget [4] [] (s' := ⟨[(4, .v (.int .i64 x3))], []⟩) (by kernel_rfl)) ?_
  have hr := Option.some.inj h
  subst hr
  exact ⟨_, Wk.refl _, .inr rfl, ⟨[], by kernel_rfl, trivial, [.v (.int .i64 x3)], by kernel_rfl, by kernel_rfl⟩⟩

theorem s_impl_defsValid_L1 (p1 : List (ByteArray × Int)) (p2 : Int) (p3 : Int) (n : Nat) (g : Int) (out : Unit ⊕ Unit) (h : m_impl_defsValid_L1 p1 p2 p3 n g = some out) :
    AX Try.prog 41 0 (codeAt [1, 0, 1, 1] (bodyOf Try.f129)) ((fun g : Int => (⟨[(0, .bs false 2 (List.map enc_si p1)), (1, .v (.int .i64 p2)), (2, .v (.int .i64 p3)), (9, .bs false 2 (List.map enc_si p1)), (10, .v (.int .i64 (p1.length : Int))), (11, .v (.int .i64 g))], []⟩ : S)) g) (fun ex s => (∃ o : Unit, out = Sum.inl o ∧ ex = .ret ∧ s = ⟨[(6, .v (.bool false))], []⟩) ∨ (∃ o : Unit, out = Sum.inr o ∧ ex = .exit 0 ∧ s = ⟨[(0, .bs false 2 (List.map enc_si p1))], []⟩)) := by
  refine AX.wkpost ?_
  refine AX.loop (G := Nat × (Int)) (fun q => (fun g : Int => (⟨[(0, .bs false 2 (List.map enc_si p1)), (1, .v (.int .i64 p2)), (2, .v (.int .i64 p3)), (9, .bs false 2 (List.map enc_si p1)), (10, .v (.int .i64 (p1.length : Int))), (11, .v (.int .i64 g))], []⟩ : S)) q.2) (fun q => m_impl_defsValid_L1 p1 p2 p3 q.1 q.2 = some out) (fun q => q.1) (n, g) h (Wk.refl _) ?_
  clear h
  rintro ⟨fu, v4⟩ h
  cases fu with
  | zero => cases h
  | succ fu =>
    rw [m_impl_defsValid_L1] at h
    refine AX.seq ?_
    refine AX.reg (its := []) [0, 1, 2, 9, 10, 11, 12] [] (s1 := ⟨[(0, .bs false 2 (List.map enc_si p1)), (1, .v (.int .i64 p2)), (2, .v (.int .i64 p3)), (9, .bs false 2 (List.map enc_si p1)), (10, .v (.int .i64 (p1.length : Int))), (11, .v (.int .i64 v4)), (12, .v (.bool (decide (v4 < (p1.length : Int)))))], []⟩) (C := True) (by kernel_rfl) trivial trivial ?_
    refine AX.seq ?_
    rcases bool_cases (decide (v4 < (p1.length : Int))) with b1 | b1
    · replace h := cd_t b1 h
      refine AX.condT (decide (v4 < (p1.length : Int))) (by kernel_rfl) b1 ?_
      refine AX.skip ?_
      refine AX.seq ?_
      refine AX.block ?_
      refine AX.seq ?_
      obtain ⟨g2, h⟩ := gd_e h
      refine AX.reg (its := [.auto {}, .auto { y := some (.be 2 (enc_si (gt p1 v4)) 0) }, .auto {}, .auto { nk := 0 }]) [0, 1, 2, 7, 8, 9, 10, 11] [0] (s1 := ⟨[(0, .bs false 2 (List.map enc_si p1)), (1, .v (.int .i64 p2)), (2, .v (.int .i64 p3)), (7, .v (.int .i64 v4)), (8, .pt 0 0), (9, .bs false 2 (List.map enc_si p1)), (10, .v (.int .i64 (p1.length : Int))), (11, .v (.int .i64 v4))], [(0, .box [.v (.string ((gt p1 v4).1)), .v (.int .i64 ((gt p1 v4).2))])]⟩) (C := ((0 ≤ v4 ∧ v4 < ((List.map enc_si p1).length : Int)) ∧ (AV.be 2 ((List.map enc_si p1).getD v4.toNat []) 0 = AV.be 2 (enc_si (gt p1 v4)) 0)) ∧ True) (by kernel_rfl) ⟨idx_bs enc_si p1 v4 2 g2, trivial⟩ trivial ?_
      refine AX.seq ?_
      obtain ⟨x5, e3, h⟩ := bd_e h
      rcases bool_cases ((!x5)) with b4 | b4
      · replace h := cd_t b4 h
        refine AX.drw mixed (its := [.auto {}, .auto {}, .call 169 [.v (.string ((gt p1 v4).1))] (handO (rho ([] ++ [])) [] [] ++ []) (callEv [] [] (.v (.bool x5)) []), .auto { y := some (.v (.bool true)) }]) [0, 1, 2, 9, 10, 11, 36] [] (s1 := ⟨[(0, .bs false 2 (List.map enc_si p1)), (1, .v (.int .i64 p2)), (2, .v (.int .i64 p3)), (9, .bs false 2 (List.map enc_si p1)), (10, .v (.int .i64 (p1.length : Int))), (11, .v (.int .i64 v4)), (36, .v (.bool true))], []⟩) (C := ((([.v (.string ((gt p1 v4).1))] : List AV) = [.v (.string ((gt p1 v4).1))]) ∧ True) ∧ ((True) ∧ ((.v (.bool (!x5)) : AV) = (.v (.bool true) : AV))) ∧ True) (by kernel_rfl) ⟨⟨rfl, trivial⟩, ⟨⟨trivial, (congrArg (fun z => AV.v (.bool z)) b4)⟩, trivial⟩⟩ ⟨call_ok (ks := []) (ns := []) (bor := []) (bobjs := []) (s_impl_ValidName ((gt p1 v4).1) x5 e3) (.cons (.c1 (.c0 (.same _ (by kernel_rfl) (by kernel_rfl)))) (.nil)) (by kernel_rfl) trivial, trivial⟩ ?_
        refine AX.cond_true (by kernel_rfl) ?_
        refine AX.seq ?_
        refine AX.reg (its := []) [6] [] (s1 := ⟨[(6, .v (.bool false))], []⟩) (C := True) (by kernel_rfl) trivial trivial ?_
        refine AX.ret ?_
        refine fin_wk (Wk.forget [6] [] (s' := ⟨[(6, .v (.bool false))], []⟩) (by kernel_rfl)) ?_
        have hr := Option.some.inj h
        subst hr
        exact ⟨_, Wk.refl _, .inl ⟨(), rfl, rfl, rfl⟩⟩
      · replace h := cd_f b4 h
        obtain ⟨x6, e5, h⟩ := bd_e h
        rcases bool_cases ((!x6)) with b6 | b6
        · replace h := cd_t b6 h
          refine AX.drw mixed (its := [.auto {}, .auto {}, .call 169 [.v (.string ((gt p1 v4).1))] (handO (rho ([] ++ [])) [] [] ++ []) (callEv [] [] (.v (.bool x5)) []), .auto { y := some (.v (.bool false)) }, .auto {}, .auto {}, .auto {}, .auto {}, .auto {}, .call 130 [.v (.int .i64 ((gt p1 v4).2)), .v (.int .i64 p2), .v (.int .i64 p3)] (handO (rho ([] ++ [])) [] [] ++ []) (callEv [] [] (.v (.bool x6)) []), .auto { y := some (.v (.bool true)) }]) [0, 1, 2, 9, 10, 11, 36] [] (s1 := ⟨[(0, .bs false 2 (List.map enc_si p1)), (1, .v (.int .i64 p2)), (2, .v (.int .i64 p3)), (9, .bs false 2 (List.map enc_si p1)), (10, .v (.int .i64 (p1.length : Int))), (11, .v (.int .i64 v4)), (36, .v (.bool true))], []⟩) (C := ((([.v (.string ((gt p1 v4).1))] : List AV) = [.v (.string ((gt p1 v4).1))]) ∧ True) ∧ ((True) ∧ ((.v (.bool (!x5)) : AV) = (.v (.bool false) : AV))) ∧ ((([.v (.int .i64 ((gt p1 v4).2)), .v (.int .i64 p2), .v (.int .i64 p3)] : List AV) = [.v (.int .i64 ((gt p1 v4).2)), .v (.int .i64 p2), .v (.int .i64 p3)]) ∧ True) ∧ ((True) ∧ ((.v (.bool (!x6)) : AV) = (.v (.bool true) : AV))) ∧ True) (by kernel_rfl) ⟨⟨rfl, trivial⟩, ⟨⟨trivial, (congrArg (fun z => AV.v (.bool z)) b4)⟩, ⟨⟨rfl, trivial⟩, ⟨⟨trivial, (congrArg (fun z => AV.v (.bool z)) b6)⟩, trivial⟩⟩⟩⟩ ⟨call_ok (ks := []) (ns := []) (bor := []) (bobjs := []) (s_impl_ValidName ((gt p1 v4).1) x5 e3) (.cons (.c1 (.c0 (.same _ (by kernel_rfl) (by kernel_rfl)))) (.nil)) (by kernel_rfl) trivial, ⟨call_ok (ks := []) (ns := []) (bor := []) (bobjs := []) (s_impl_in ((gt p1 v4).2) p2 p3 x6 e5) (.cons (.c1 (.c0 (.same _ (by kernel_rfl) (by kernel_rfl)))) (.cons (.c1 (.c0 (.same _ (by kernel_rfl) (by kernel_rfl)))) (.cons (.c1 (.c0 (.same _ (by kernel_rfl) (by kernel_rfl)))) (.nil)))) (by kernel_rfl) trivial, trivial⟩⟩ ?_
          refine AX.cond_true (by kernel_rfl) ?_
          refine AX.seq ?_
          refine AX.reg (its := []) [6] [] (s1 := ⟨[(6, .v (.bool false))], []⟩) (C := True) (by kernel_rfl) trivial trivial ?_
          refine AX.ret ?_
          refine fin_wk (Wk.forget [6] [] (s' := ⟨[(6, .v (.bool false))], []⟩) (by kernel_rfl)) ?_
          have hr := Option.some.inj h
          subst hr
          exact ⟨_, Wk.refl _, .inl ⟨(), rfl, rfl, rfl⟩⟩
        · replace h := cd_f b6 h
          obtain ⟨g7, h⟩ := gd_e h
          obtain ⟨x7, e8, h⟩ := bd_e h
          refine AX.drw mixed (its := [.auto {}, .auto {}, .call 169 [.v (.string ((gt p1 v4).1))] (handO (rho ([] ++ [])) [] [] ++ []) (callEv [] [] (.v (.bool x5)) []), .auto { y := some (.v (.bool false)) }, .auto {}, .auto {}, .auto {}, .auto {}, .auto {}, .call 130 [.v (.int .i64 ((gt p1 v4).2)), .v (.int .i64 p2), .v (.int .i64 p3)] (handO (rho ([] ++ [])) [] [] ++ []) (callEv [] [] (.v (.bool x6)) []), .auto { y := some (.v (.bool false)) }, .auto {}, .auto {}, .auto {}, .auto {}, .auto { y := some (.bs false 2 (List.map enc_si (sub p1 (0 : Int) v4))) }, .auto {}, .auto {}, .call 131 [.bs false 2 (List.map enc_si (sub p1 (0 : Int) v4)), .v (.string ((gt p1 v4).1))] (handO (rho ([] ++ [])) [] [] ++ []) (callEv [] [] (.v (.int .i64 x7)) [])]) [0, 1, 2, 9, 10, 11, 36] [] (s1 := ⟨[(0, .bs false 2 (List.map enc_si p1)), (1, .v (.int .i64 p2)), (2, .v (.int .i64 p3)), (9, .bs false 2 (List.map enc_si p1)), (10, .v (.int .i64 (p1.length : Int))), (11, .v (.int .i64 v4)), (36, .v (.bool (decide (0 ≤ x7))))], []⟩) (C := ((([.v (.string ((gt p1 v4).1))] : List AV) = [.v (.string ((gt p1 v4).1))]) ∧ True) ∧ ((True) ∧ ((.v (.bool (!x5)) : AV) = (.v (.bool false) : AV))) ∧ ((([.v (.int .i64 ((gt p1 v4).2)), .v (.int .i64 p2), .v (.int .i64 p3)] : List AV) = [.v (.int .i64 ((gt p1 v4).2)), .v (.int .i64 p2), .v (.int .i64 p3)]) ∧ True) ∧ ((True) ∧ ((.v (.bool (!x6)) : AV) = (.v (.bool false) : AV))) ∧ ((0 ≤ (0 : Int) ∧ (0 : Int) ≤ v4 ∧ v4 ≤ ((List.map enc_si p1).length : Int) ∧ ((List.map enc_si p1).length : Int) ≤ ((List.map enc_si p1).length : Int)) ∧ (AV.bs false 2 (((List.map enc_si p1).drop (0 : Int).toNat).take (v4.toNat - (0 : Int).toNat)) = (.bs false 2 (List.map enc_si (sub p1 (0 : Int) v4)) : AV))) ∧ ((([.bs false 2 (List.map enc_si (sub p1 (0 : Int) v4)), .v (.string ((gt p1 v4).1))] : List AV) = [.bs false 2 (List.map enc_si (sub p1 (0 : Int) v4)), .v (.string ((gt p1 v4).1))]) ∧ True) ∧ True) (by kernel_rfl) ⟨⟨rfl, trivial⟩, ⟨⟨trivial, (congrArg (fun z => AV.v (.bool z)) b4)⟩, ⟨⟨rfl, trivial⟩, ⟨⟨trivial, (congrArg (fun z => AV.v (.bool z)) b6)⟩, ⟨⟨by first | exact g7 | simpa only [List.length_map] using g7, by first | exact sub_can enc_si p1 (0 : Int) v4 false 2 | (simp only [List.length_map]; exact sub_can enc_si p1 (0 : Int) v4 false 2)⟩, ⟨⟨rfl, trivial⟩, trivial⟩⟩⟩⟩⟩⟩ ⟨call_ok (ks := []) (ns := []) (bor := []) (bobjs := []) (s_impl_ValidName ((gt p1 v4).1) x5 e3) (.cons (.c1 (.c0 (.same _ (by kernel_rfl) (by kernel_rfl)))) (.nil)) (by kernel_rfl) trivial, ⟨call_ok (ks := []) (ns := []) (bor := []) (bobjs := []) (s_impl_in ((gt p1 v4).2) p2 p3 x6 e5) (.cons (.c1 (.c0 (.same _ (by kernel_rfl) (by kernel_rfl)))) (.cons (.c1 (.c0 (.same _ (by kernel_rfl) (by kernel_rfl)))) (.cons (.c1 (.c0 (.same _ (by kernel_rfl) (by kernel_rfl)))) (.nil)))) (by kernel_rfl) trivial, ⟨call_ok (ks := []) (ns := []) (bor := []) (bobjs := []) (s_impl_named (sub p1 (0 : Int) v4) ((gt p1 v4).1) x7 e8) (.cons (.c1 (.c0 (.same _ (by kernel_rfl) (by kernel_rfl)))) (.cons (.c1 (.c0 (.same _ (by kernel_rfl) (by kernel_rfl)))) (.nil))) (by kernel_rfl) trivial, trivial⟩⟩⟩ ?_
          rcases bool_cases (decide (0 ≤ x7)) with b9 | b9
          · replace h := cd_t b9 h
            refine AX.condT (decide (0 ≤ x7)) (by kernel_rfl) b9 ?_
            refine AX.seq ?_
            refine AX.reg (its := []) [6] [] (s1 := ⟨[(6, .v (.bool false))], []⟩) (C := True) (by kernel_rfl) trivial trivial ?_
            refine AX.ret ?_
            refine fin_wk (Wk.forget [6] [] (s' := ⟨[(6, .v (.bool false))], []⟩) (by kernel_rfl)) ?_
            have hr := Option.some.inj h
            subst hr
            exact ⟨_, Wk.refl _, .inl ⟨(), rfl, rfl, rfl⟩⟩
          · replace h := cd_f b9 h
            refine AX.condF (decide (0 ≤ x7)) (by kernel_rfl) b9 ?_
            refine AX.skip ?_
            refine AX.reg (its := [.auto { raw := true }]) [0, 1, 2, 9, 10, 11] [] (s1 := ⟨[(0, .bs false 2 (List.map enc_si p1)), (1, .v (.int .i64 p2)), (2, .v (.int .i64 p3)), (9, .bs false 2 (List.map enc_si p1)), (10, .v (.int .i64 (p1.length : Int))), (11, .v (.int .i64 (IntKind.wrap .i64 (v4 + 1))))], []⟩) (C := True) (by kernel_rfl) trivial trivial ?_
            refine ⟨(fu, IntKind.wrap .i64 (v4 + 1)), h, Nat.lt_succ_self _, ?_⟩
            refine Wk.trans (Wk.forget [0, 1, 2, 9, 10, 11] [] (s' := ⟨[(0, .bs false 2 (List.map enc_si p1)), (1, .v (.int .i64 p2)), (2, .v (.int .i64 p3)), (9, .bs false 2 (List.map enc_si p1)), (10, .v (.int .i64 (p1.length : Int))), (11, .v (.int .i64 (IntKind.wrap .i64 (v4 + 1))))], []⟩) (by kernel_rfl)) ?_
            exact Wk.refl _
    · replace h := cd_f b1 h
      refine AX.condF (decide (v4 < (p1.length : Int))) (by kernel_rfl) b1 ?_
      refine AX.exit ?_
      refine fin_wk (Wk.forget [0] [] (s' := ⟨[(0, .bs false 2 (List.map enc_si p1))], []⟩) (by kernel_rfl)) ?_
      have hr := Option.some.inj h
      subst hr
      exact ⟨_, Wk.refl _, .inr ⟨(), rfl, rfl, rfl⟩⟩

theorem s_impl_defsValid (p1 : List (ByteArray × Int)) (p2 : Int) (p3 : Int) (r : Bool) (h : m_impl_defsValid p1 p2 p3 = some r) :
    Eng.Spec Try.prog 129 [.bs false 2 (List.map enc_si p1), .v (.int .i64 p2), .v (.int .i64 p3)] [] (.v (.bool r)) [] := by
  unfold m_impl_defsValid at h
  refine Eng.Spec.body Try.func129 (by kernel_rfl) rfl (by kernel_rfl) ?_
  refine AX.wkpost ?_
  refine AX.seq ?_
  refine AX.reg (its := []) [0, 1, 2] [] (s1 := ⟨[(0, .bs false 2 (List.map enc_si p1)), (1, .v (.int .i64 p2)), (2, .v (.int .i64 p3))], []⟩) (C := True) (by kernel_rfl) trivial trivial ?_
  refine AX.seq ?_
  refine AX.seq ?_
  refine AX.reg (its := [.auto {}, .auto { y := some (.v (.int .i64 (p1.length : Int))) }]) [0, 1, 2, 9, 10, 11] [] (s1 := ⟨[(0, .bs false 2 (List.map enc_si p1)), (1, .v (.int .i64 p2)), (2, .v (.int .i64 p3)), (9, .bs false 2 (List.map enc_si p1)), (10, .v (.int .i64 (p1.length : Int))), (11, .v (.int .i64 0))], []⟩) (C := (True ∧ (AV.v (.int .i64 ((List.map enc_si p1).length : Int)) = AV.v (.int .i64 (p1.length : Int)))) ∧ True) (by kernel_rfl) ⟨⟨trivial, len_map enc_si p1⟩, trivial⟩ trivial ?_
  refine AX.block ?_
  obtain ⟨x8, e10, h⟩ := bd_e h
  refine AX.wk (Wk.forget [0, 1, 2, 9, 10, 11] [] (s' := ⟨[(0, .bs false 2 (List.map enc_si p1)), (1, .v (.int .i64 p2)), (2, .v (.int .i64 p3)), (9, .bs false 2 (List.map enc_si p1)), (10, .v (.int .i64 (p1.length : Int))), (11, .v (.int .i64 0))], []⟩) (by kernel_rfl)) ?_
  refine AX.mono (s_impl_defsValid_L1 p1 p2 p3 FU 0 x8 e10) ?_
  rintro _ _ (⟨x9, rfl, rfl, rfl⟩ | ⟨x10, rfl, rfl, rfl⟩)
  · replace h := sm_l h
    refine fin_wk (Wk.forget [6] [] (s' := ⟨[(6, .v (.bool false))], []⟩) (by kernel_rfl)) ?_
    have hr := Option.some.inj h
    subst hr
    exact ⟨_, Wk.refl _, .inr rfl, ⟨[], by kernel_rfl, trivial, [.v (.bool false)], by kernel_rfl, by kernel_rfl⟩⟩
  · replace h := sm_r h
    refine AX.seq ?_
    refine AX.reg (its := [.auto {}, .auto { y := some (.v (.int .i64 (p1.length : Int))) }]) [6] [] (s1 := ⟨[(6, .v (.bool (decide ((p1.length : Int) ≤ 12))))], []⟩) (C := (True ∧ (AV.v (.int .i64 ((List.map enc_si p1).length : Int)) = AV.v (.int .i64 (p1.length : Int)))) ∧ True) (by kernel_rfl) ⟨⟨trivial, len_map enc_si p1⟩, trivial⟩ trivial ?_
    refine AX.ret ?_
    refine fin_wk (Wk.forget [6] [] (s' := ⟨[(6, .v (.bool (decide ((p1.length : Int) ≤ 12))))], []⟩) (by kernel_rfl)) ?_
    have hr := Option.some.inj h
    subst hr
    exact ⟨_, Wk.refl _, .inr rfl, ⟨[], by kernel_rfl, trivial, [.v (.bool (decide ((p1.length : Int) ≤ 12)))], by kernel_rfl, by kernel_rfl⟩⟩

theorem s_impl_ValidFlag (p1 : List (ByteArray × Int)) (p2 : Int) (r : Bool) (h : m_impl_ValidFlag p1 p2 = some r) :
    Eng.Spec Try.prog 60 [.agg [.bs false 2 (List.map enc_si p1), .v (.int .i64 p2)]] [] (.v (.bool r)) [] := by
  unfold m_impl_ValidFlag at h
  refine Eng.Spec.body Try.func60 (by kernel_rfl) rfl (by kernel_rfl) ?_
  refine AX.wkpost ?_
  refine AX.seq ?_
  refine AX.reg (its := [.auto { nk := 0 }]) [1] [0] (s1 := ⟨[(1, .pt 0 0)], [(0, .box [.bs false 2 (List.map enc_si p1), .v (.int .i64 p2)])]⟩) (C := True) (by kernel_rfl) trivial trivial ?_
  refine AX.seq ?_
  obtain ⟨x3, e1, h⟩ := bd_e h
  rcases bool_cases (x3) with b2 | b2
  · replace h := cd_t b2 h
    obtain ⟨x4, e3, h⟩ := bd_e h
    refine AX.reg (its := [.auto {}, .auto {}, .call 129 [.bs false 2 (List.map enc_si p1), .v (.int .i64 0), .v (.int .i64 4095)] (handO (rho ([] ++ [])) [] [] ++ []) (callEv [] [] (.v (.bool true)) []), .auto {}, .auto {}, .auto {}, .call 130 [.v (.int .i64 p2), .v (.int .i64 0), .v (.int .i64 3)] (handO (rho ([] ++ [])) [] [] ++ []) (callEv [] [] (.v (.bool x4)) [])]) [2] [] (s1 := ⟨[(2, .v (.bool x4))], []⟩) (C := ((([.bs false 2 (List.map enc_si p1), .v (.int .i64 0), .v (.int .i64 4095)] : List AV) = [.bs false 2 (List.map enc_si p1), .v (.int .i64 0), .v (.int .i64 4095)]) ∧ True) ∧ ((([.v (.int .i64 p2), .v (.int .i64 0), .v (.int .i64 3)] : List AV) = [.v (.int .i64 p2), .v (.int .i64 0), .v (.int .i64 3)]) ∧ True) ∧ True) (by kernel_rfl) ⟨⟨rfl, trivial⟩, ⟨⟨rfl, trivial⟩, trivial⟩⟩ ⟨call_ok (ks := []) (ns := []) (bor := []) (bobjs := []) (show Eng.Spec Try.prog 129 [.bs false 2 (List.map enc_si p1), .v (.int .i64 0), .v (.int .i64 4095)] [] (.v (.bool true)) [] from by have q := s_impl_defsValid p1 0 4095 x3 e1; rw [b2] at q; exact q) (.cons (.c1 (.c0 (.same _ (by kernel_rfl) (by kernel_rfl)))) (.cons (.c1 (.c0 (.same _ (by kernel_rfl) (by kernel_rfl)))) (.cons (.c1 (.c0 (.same _ (by kernel_rfl) (by kernel_rfl)))) (.nil)))) (by kernel_rfl) trivial, ⟨call_ok (ks := []) (ns := []) (bor := []) (bobjs := []) (s_impl_in p2 0 3 x4 e3) (.cons (.c1 (.c0 (.same _ (by kernel_rfl) (by kernel_rfl)))) (.cons (.c1 (.c0 (.same _ (by kernel_rfl) (by kernel_rfl)))) (.cons (.c1 (.c0 (.same _ (by kernel_rfl) (by kernel_rfl)))) (.nil)))) (by kernel_rfl) trivial, trivial⟩⟩ ?_
    refine AX.ret ?_
    refine fin_wk (Wk.forget [2] [] (s' := ⟨[(2, .v (.bool x4))], []⟩) (by kernel_rfl)) ?_
    have hr := Option.some.inj h
    subst hr
    exact ⟨_, Wk.refl _, .inr rfl, ⟨[], by kernel_rfl, trivial, [.v (.bool x4)], by kernel_rfl, by kernel_rfl⟩⟩
  · replace h := cd_f b2 h
    refine AX.reg (its := [.auto {}, .auto {}, .call 129 [.bs false 2 (List.map enc_si p1), .v (.int .i64 0), .v (.int .i64 4095)] (handO (rho ([] ++ [])) [] [] ++ []) (callEv [] [] (.v (.bool false)) [])]) [2] [] (s1 := ⟨[(2, .v (.bool false))], []⟩) (C := ((([.bs false 2 (List.map enc_si p1), .v (.int .i64 0), .v (.int .i64 4095)] : List AV) = [.bs false 2 (List.map enc_si p1), .v (.int .i64 0), .v (.int .i64 4095)]) ∧ True) ∧ True) (by kernel_rfl) ⟨⟨rfl, trivial⟩, trivial⟩ ⟨call_ok (ks := []) (ns := []) (bor := []) (bobjs := []) (show Eng.Spec Try.prog 129 [.bs false 2 (List.map enc_si p1), .v (.int .i64 0), .v (.int .i64 4095)] [] (.v (.bool false)) [] from by have q := s_impl_defsValid p1 0 4095 x3 e1; rw [b2] at q; exact q) (.cons (.c1 (.c0 (.same _ (by kernel_rfl) (by kernel_rfl)))) (.cons (.c1 (.c0 (.same _ (by kernel_rfl) (by kernel_rfl)))) (.cons (.c1 (.c0 (.same _ (by kernel_rfl) (by kernel_rfl)))) (.nil)))) (by kernel_rfl) trivial, trivial⟩ ?_
    refine AX.ret ?_
    refine fin_wk (Wk.forget [2] [] (s' := ⟨[(2, .v (.bool false))], []⟩) (by kernel_rfl)) ?_
    have hr := Option.some.inj h
    subst hr
    exact ⟨_, Wk.refl _, .inr rfl, ⟨[], by kernel_rfl, trivial, [.v (.bool false)], by kernel_rfl, by kernel_rfl⟩⟩

theorem s_impl_Flag_mask_L1 (p1 : List (ByteArray × Int)) (n : Nat) (g : Int × Int) (out : Int) (h : m_impl_Flag_mask_L1 p1 n g.1 g.2 = some out) :
    AX Try.prog 19 0 (codeAt [1, 1, 0, 1, 1] (bodyOf Try.f81)) ((fun g : Int × Int => (⟨[(3, .v (.int .i64 g.1)), (7, .bs false 2 (List.map enc_si p1)), (8, .v (.int .i64 (p1.length : Int))), (9, .v (.int .i64 g.2))], []⟩ : S)) g) (fun ex s => ex = .exit 0 ∧ s = (fun o : Int => (⟨[(3, .v (.int .i64 o))], []⟩ : S)) out) := by
  refine AX.wkpost ?_
  refine AX.loop (G := Nat × (Int × Int)) (fun q => (fun g : Int × Int => (⟨[(3, .v (.int .i64 g.1)), (7, .bs false 2 (List.map enc_si p1)), (8, .v (.int .i64 (p1.length : Int))), (9, .v (.int .i64 g.2))], []⟩ : S)) q.2) (fun q => m_impl_Flag_mask_L1 p1 q.1 q.2.1 q.2.2 = some out) (fun q => q.1) (n, g) h (Wk.refl _) ?_
  clear h
  rintro ⟨fu, v3, v4⟩ h
  cases fu with
  | zero => cases h
  | succ fu =>
    rw [m_impl_Flag_mask_L1] at h
    refine AX.seq ?_
    refine AX.reg (its := []) [3, 7, 8, 9, 10] [] (s1 := ⟨[(3, .v (.int .i64 v3)), (7, .bs false 2 (List.map enc_si p1)), (8, .v (.int .i64 (p1.length : Int))), (9, .v (.int .i64 v4)), (10, .v (.bool (decide (v4 < (p1.length : Int)))))], []⟩) (C := True) (by kernel_rfl) trivial trivial ?_
    refine AX.seq ?_
    rcases bool_cases (decide (v4 < (p1.length : Int))) with b1 | b1
    · replace h := cd_t b1 h
      refine AX.condT (decide (v4 < (p1.length : Int))) (by kernel_rfl) b1 ?_
      refine AX.skip ?_
      refine AX.seq ?_
      refine AX.block ?_
      refine AX.seq ?_
      obtain ⟨g2, h⟩ := gd_e h
      refine AX.reg (its := [.auto { y := some (.be 2 (enc_si (gt p1 v4)) 0) }, .auto {}, .auto { nk := 0 }]) [3, 5, 7, 8, 9] [0] (s1 := ⟨[(3, .v (.int .i64 v3)), (5, .pt 0 0), (7, .bs false 2 (List.map enc_si p1)), (8, .v (.int .i64 (p1.length : Int))), (9, .v (.int .i64 v4))], [(0, .box [.v (.string ((gt p1 v4).1)), .v (.int .i64 ((gt p1 v4).2))])]⟩) (C := ((0 ≤ v4 ∧ v4 < ((List.map enc_si p1).length : Int)) ∧ (AV.be 2 ((List.map enc_si p1).getD v4.toNat []) 0 = AV.be 2 (enc_si (gt p1 v4)) 0)) ∧ True) (by kernel_rfl) ⟨idx_bs enc_si p1 v4 2 g2, trivial⟩ trivial ?_
      refine AX.reg (its := []) [3, 7, 8, 9] [] (s1 := ⟨[(3, .v (.int .i64 (Go.bits .or .i64 v3 ((gt p1 v4).2)))), (7, .bs false 2 (List.map enc_si p1)), (8, .v (.int .i64 (p1.length : Int))), (9, .v (.int .i64 v4))], []⟩) (C := True) (by kernel_rfl) trivial trivial ?_
      refine AX.reg (its := [.auto { raw := true }]) [3, 7, 8, 9] [] (s1 := ⟨[(3, .v (.int .i64 (Go.bits .or .i64 v3 ((gt p1 v4).2)))), (7, .bs false 2 (List.map enc_si p1)), (8, .v (.int .i64 (p1.length : Int))), (9, .v (.int .i64 (IntKind.wrap .i64 (v4 + 1))))], []⟩) (C := True) (by kernel_rfl) trivial trivial ?_
      refine ⟨(fu, (Go.bits .or .i64 v3 ((gt p1 v4).2), IntKind.wrap .i64 (v4 + 1))), h, Nat.lt_succ_self _, ?_⟩
      refine Wk.trans (Wk.forget [3, 7, 8, 9] [] (s' := ⟨[(3, .v (.int .i64 (Go.bits .or .i64 v3 ((gt p1 v4).2)))), (7, .bs false 2 (List.map enc_si p1)), (8, .v (.int .i64 (p1.length : Int))), (9, .v (.int .i64 (IntKind.wrap .i64 (v4 + 1))))], []⟩) (by kernel_rfl)) ?_
      exact Wk.refl _
    · replace h := cd_f b1 h
      refine AX.condF (decide (v4 < (p1.length : Int))) (by kernel_rfl) b1 ?_
      refine AX.exit ?_
      refine fin_wk (Wk.forget [3] [] (s' := ⟨[(3, .v (.int .i64 v3))], []⟩) (by kernel_rfl)) ?_
      have hr := Option.some.inj h
      subst hr
      exact ⟨_, Wk.refl _, ⟨rfl, rfl⟩⟩

theorem s_impl_Flag_mask (p1 : List (ByteArray × Int)) (p2 : Int) (r : Int) (h : m_impl_Flag_mask p1 p2 = some r) :
    Eng.Spec Try.prog 81 [.agg [.bs false 2 (List.map enc_si p1), .v (.int .i64 p2)]] [] (.v (.int .i64 r)) [] := by
  unfold m_impl_Flag_mask at h
  refine Eng.Spec.body Try.func81 (by kernel_rfl) rfl (by kernel_rfl) ?_
  refine AX.wkpost ?_
  refine AX.seq ?_
  refine AX.reg (its := [.auto { nk := 0 }]) [1] [0] (s1 := ⟨[(1, .pt 0 0)], [(0, .box [.bs false 2 (List.map enc_si p1), .v (.int .i64 p2)])]⟩) (C := True) (by kernel_rfl) trivial trivial ?_
  refine AX.seq ?_
  refine AX.reg (its := []) [1, 3] [0] (s1 := ⟨[(1, .pt 0 0), (3, .v (.int .i64 0))], [(0, .box [.bs false 2 (List.map enc_si p1), .v (.int .i64 p2)])]⟩) (C := True) (by kernel_rfl) trivial trivial ?_
  refine AX.seq ?_
  refine AX.seq ?_
  refine AX.reg (its := [.auto {}, .auto {}, .auto { y := some (.v (.int .i64 (p1.length : Int))) }]) [3, 7, 8, 9] [] (s1 := ⟨[(3, .v (.int .i64 0)), (7, .bs false 2 (List.map enc_si p1)), (8, .v (.int .i64 (p1.length : Int))), (9, .v (.int .i64 0))], []⟩) (C := (True ∧ (AV.v (.int .i64 ((List.map enc_si p1).length : Int)) = AV.v (.int .i64 (p1.length : Int)))) ∧ True) (by kernel_rfl) ⟨⟨trivial, len_map enc_si p1⟩, trivial⟩ trivial ?_
  refine AX.block ?_
  obtain ⟨x5, e3, h⟩ := bd_e h
  refine AX.wk (Wk.forget [3, 7, 8, 9] [] (s' := ⟨[(3, .v (.int .i64 0)), (7, .bs false 2 (List.map enc_si p1)), (8, .v (.int .i64 (p1.length : Int))), (9, .v (.int .i64 0))], []⟩) (by kernel_rfl)) ?_
  refine AX.mono (s_impl_Flag_mask_L1 p1 FU (0, 0) x5 e3) ?_
  rintro _ _ ⟨rfl, rfl⟩
  skip
  refine AX.seq ?_
  refine AX.reg (its := []) [2] [] (s1 := ⟨[(2, .v (.int .i64 x5))], []⟩) (C := True) (by kernel_rfl) trivial trivial ?_
  refine AX.ret ?_
  refine fin_wk (Wk.forget [2] [] (s' := ⟨[(2, .v (.int .i64 x5))], []⟩) (by kernel_rfl)) ?_
  have hr := Option.some.inj h
  subst hr
  exact ⟨_, Wk.refl _, .inr rfl, ⟨[], by kernel_rfl, trivial, [.v (.int .i64 x5)], by kernel_rfl, by kernel_rfl⟩⟩

theorem s_math_bits_OnesCount64 (p1 : Int) (r : Int) (h : m_math_bits_OnesCount64 p1 = some r) :
    Eng.Spec Try.prog 144 [.v (.int .u64 p1)] [] (.v (.int .i64 r)) [] := by
  unfold m_math_bits_OnesCount64 at h
  refine Eng.Spec.body Try.func144 (by kernel_rfl) rfl (by kernel_rfl) ?_
  refine AX.wkpost ?_
  refine AX.seq ?_
  refine AX.reg (its := []) [0] [] (s1 := ⟨[(0, .v (.int .u64 p1))], []⟩) (C := True) (by kernel_rfl) trivial trivial ?_
  refine AX.seq ?_
  obtain ⟨g1, h⟩ := gd_e h
  obtain ⟨v2, q2, h⟩ := nm_e h
  obtain ⟨v3, q3, h⟩ := nm_e h
  refine AX.reg (its := [.auto {}, .auto {}, .auto { y := some (.v (.int .u64 v2)) }, .auto {}, .auto {}, .auto { y := some (.v (.int .u64 v3)), raw := true }]) [0] [] (s1 := ⟨[(0, .v (.int .u64 v3))], []⟩) (C := (0 ≤ (1 : Int) ∧ (1 : Int) ≤ (IntKind.bits .u64 : Int)) ∧ ((True) ∧ ((.v (.int .u64 (Go.bits .and .u64 (p1 / 2 ^ (1 : Int).toNat) 6148914691236517205)) : AV) = (.v (.int .u64 v2) : AV))) ∧ ((True) ∧ ((.v (.int .u64 (IntKind.wrap .u64 (v2 + (Go.bits .and .u64 p1 6148914691236517205)))) : AV) = (.v (.int .u64 v3) : AV))) ∧ True) (by kernel_rfl) ⟨g1, ⟨⟨trivial, (congrArg (fun z => AV.v (.int .u64 z)) q2)⟩, ⟨⟨trivial, (congrArg (fun z => AV.v (.int .u64 z)) q3)⟩, trivial⟩⟩⟩ trivial ?_
  refine AX.seq ?_
  obtain ⟨g4, h⟩ := gd_e h
  obtain ⟨v4, q5, h⟩ := nm_e h
  obtain ⟨v5, q6, h⟩ := nm_e h
  refine AX.reg (its := [.auto {}, .auto {}, .auto { y := some (.v (.int .u64 v4)) }, .auto {}, .auto {}, .auto { y := some (.v (.int .u64 v5)), raw := true }]) [0] [] (s1 := ⟨[(0, .v (.int .u64 v5))], []⟩) (C := (0 ≤ (2 : Int) ∧ (2 : Int) ≤ (IntKind.bits .u64 : Int)) ∧ ((True) ∧ ((.v (.int .u64 (Go.bits .and .u64 (v3 / 2 ^ (2 : Int).toNat) 3689348814741910323)) : AV) = (.v (.int .u64 v4) : AV))) ∧ ((True) ∧ ((.v (.int .u64 (IntKind.wrap .u64 (v4 + (Go.bits .and .u64 v3 3689348814741910323)))) : AV) = (.v (.int .u64 v5) : AV))) ∧ True) (by kernel_rfl) ⟨g4, ⟨⟨trivial, (congrArg (fun z => AV.v (.int .u64 z)) q5)⟩, ⟨⟨trivial, (congrArg (fun z => AV.v (.int .u64 z)) q6)⟩, trivial⟩⟩⟩ trivial ?_
  refine AX.seq ?_
  obtain ⟨g7, h⟩ := gd_e h
  obtain ⟨v6, q8, h⟩ := nm_e h
  refine AX.reg (its := [.auto {}, .auto {}, .auto {}, .auto { raw := true }, .auto { y := some (.v (.int .u64 v6)) }]) [0] [] (s1 := ⟨[(0, .v (.int .u64 v6))], []⟩) (C := (0 ≤ (4 : Int) ∧ (4 : Int) ≤ (IntKind.bits .u64 : Int)) ∧ ((True) ∧ ((.v (.int .u64 (Go.bits .and .u64 (IntKind.wrap .u64 ((v5 / 2 ^ (4 : Int).toNat) + v5)) 1085102592571150095)) : AV) = (.v (.int .u64 v6) : AV))) ∧ True) (by kernel_rfl) ⟨g7, ⟨⟨trivial, (congrArg (fun z => AV.v (.int .u64 z)) q8)⟩, trivial⟩⟩ trivial ?_
  refine AX.seq ?_
  obtain ⟨g9, h⟩ := gd_e h
  refine AX.reg (its := [.auto {}, .auto {}, .auto {}, .auto { raw := true }]) [0] [] (s1 := ⟨[(0, .v (.int .u64 (IntKind.wrap .u64 (v6 + (v6 / 2 ^ (8 : Int).toNat)))))], []⟩) (C := (0 ≤ (8 : Int) ∧ (8 : Int) ≤ (IntKind.bits .u64 : Int)) ∧ True) (by kernel_rfl) ⟨g9, trivial⟩ trivial ?_
  refine AX.seq ?_
  obtain ⟨g10, h⟩ := gd_e h
  obtain ⟨v7, q11, h⟩ := nm_e h
  obtain ⟨v8, q12, h⟩ := nm_e h
  refine AX.reg (its := [.auto {}, .auto {}, .auto { y := some (.v (.int .u64 v7)) }, .auto { y := some (.v (.int .u64 v8)), raw := true }]) [0] [] (s1 := ⟨[(0, .v (.int .u64 v8))], []⟩) (C := ((0 ≤ (16 : Int) ∧ (16 : Int) ≤ (IntKind.bits .u64 : Int)) ∧ ((.v (.int .u64 ((IntKind.wrap .u64 (v6 + (v6 / 2 ^ (8 : Int).toNat))) / 2 ^ (16 : Int).toNat)) : AV) = (.v (.int .u64 v7) : AV))) ∧ ((True) ∧ ((.v (.int .u64 (IntKind.wrap .u64 ((IntKind.wrap .u64 (v6 + (v6 / 2 ^ (8 : Int).toNat))) + v7))) : AV) = (.v (.int .u64 v8) : AV))) ∧ True) (by kernel_rfl) ⟨⟨g10, (congrArg (fun z => AV.v (.int .u64 z)) q11)⟩, ⟨⟨trivial, (congrArg (fun z => AV.v (.int .u64 z)) q12)⟩, trivial⟩⟩ trivial ?_
  refine AX.seq ?_
  obtain ⟨g13, h⟩ := gd_e h
  refine AX.reg (its := [.auto {}, .auto {}, .auto {}, .auto { raw := true }]) [0] [] (s1 := ⟨[(0, .v (.int .u64 (IntKind.wrap .u64 (v8 + (v8 / 2 ^ (32 : Int).toNat)))))], []⟩) (C := (0 ≤ (32 : Int) ∧ (32 : Int) ≤ (IntKind.bits .u64 : Int)) ∧ True) (by kernel_rfl) ⟨g13, trivial⟩ trivial ?_
  refine AX.seq ?_
  obtain ⟨v9, q14, h⟩ := nm_e h
  refine AX.reg (its := [.auto {}, .auto { y := some (.v (.int .i64 v9)), raw := true }]) [2] [] (s1 := ⟨[(2, .v (.int .i64 (Go.bits .and .i64 v9 127)))], []⟩) (C := ((True) ∧ ((.v (.int .i64 (IntKind.wrap .i64 (IntKind.wrap .u64 (v8 + (v8 / 2 ^ (32 : Int).toNat))))) : AV) = (.v (.int .i64 v9) : AV))) ∧ True) (by kernel_rfl) ⟨⟨trivial, (congrArg (fun z => AV.v (.int .i64 z)) q14)⟩, trivial⟩ trivial ?_
  refine AX.ret ?_
  refine fin_wk (Wk.forget [2] [] (s' := ⟨[(2, .v (.int .i64 (Go.bits .and .i64 v9 127)))], []⟩) (by kernel_rfl)) ?_
  have hr := Option.some.inj h
  subst hr
  exact ⟨_, Wk.refl _, .inr rfl, ⟨[], by kernel_rfl, trivial, [.v (.int .i64 (Go.bits .and .i64 v9 127))], by kernel_rfl, by kernel_rfl⟩⟩

theorem s_math_bits_OnesCount (p1 : Int) (r : Int) (h : m_math_bits_OnesCount p1 = some r) :
    Eng.Spec Try.prog 80 [.v (.int .u64 p1)] [] (.v (.int .i64 r)) [] := by
  unfold m_math_bits_OnesCount at h
  refine Eng.Spec.body Try.func80 (by kernel_rfl) rfl (by kernel_rfl) ?_
  refine AX.wkpost ?_
  refine AX.seq ?_
  refine AX.reg (its := []) [0] [] (s1 := ⟨[(0, .v (.int .u64 p1))], []⟩) (C := True) (by kernel_rfl) trivial trivial ?_
  refine AX.seq ?_
  refine AX.cond_false (by kernel_rfl) ?_
  refine AX.skip ?_
  refine AX.seq ?_
  obtain ⟨x2, e1, h⟩ := bd_e h
  refine AX.reg (its := [.auto {}, .call 144 [.v (.int .u64 p1)] (handO (rho ([] ++ [])) [] [] ++ []) (callEv [] [] (.v (.int .i64 x2)) [])]) [2] [] (s1 := ⟨[(2, .v (.int .i64 x2))], []⟩) (C := ((([.v (.int .u64 p1)] : List AV) = [.v (.int .u64 p1)]) ∧ True) ∧ True) (by kernel_rfl) ⟨⟨rfl, trivial⟩, trivial⟩ ⟨call_ok (ks := []) (ns := []) (bor := []) (bobjs := []) (s_math_bits_OnesCount64 p1 x2 e1) (.cons (.c1 (.c0 (.same _ (by kernel_rfl) (by kernel_rfl)))) (.nil)) (by kernel_rfl) trivial, trivial⟩ ?_
  refine AX.ret ?_
  refine fin_wk (Wk.forget [2] [] (s' := ⟨[(2, .v (.int .i64 x2))], []⟩) (by kernel_rfl)) ?_
  have hr := Option.some.inj h
  subst hr
  exact ⟨_, Wk.refl _, .inr rfl, ⟨[], by kernel_rfl, trivial, [.v (.int .i64 x2)], by kernel_rfl, by kernel_rfl⟩⟩

theorem s_impl_GreatestArms_1_l (p1 : Int) (p2 : List (ByteArray × Int)) (p3 : Int) (r : Bool) (h : m_impl_GreatestArms_1_l p1 p2 p3 = some r) :
    Eng.Spec Try.prog 83 [.v (.int .i64 p1), .bp [.bs false 2 (List.map enc_si p2), .v (.int .i64 p3)] 0] [] (.v (.bool r)) [] := by
  unfold m_impl_GreatestArms_1_l at h
  refine Eng.Spec.body Try.func83 (by kernel_rfl) rfl (by kernel_rfl) ?_
  refine AX.wkpost ?_
  refine AX.seq ?_
  refine AX.reg (its := []) [0, 1] [] (s1 := ⟨[(0, .v (.int .i64 p1)), (1, .bp [.bs false 2 (List.map enc_si p2), .v (.int .i64 p3)] 0)], []⟩) (C := True) (by kernel_rfl) trivial trivial ?_
  refine AX.seq ?_
  rcases bool_cases (decide (p1 < 0)) with b1 | b1
  · replace h := cd_t b1 h
    refine AX.reg (its := [.auto {}, .auto { y := some (.v (.bool true)) }]) [3] [] (s1 := ⟨[(3, .v (.bool true))], []⟩) (C := ((True) ∧ ((.v (.bool (decide (p1 < 0))) : AV) = (.v (.bool true) : AV))) ∧ True) (by kernel_rfl) ⟨⟨trivial, (congrArg (fun z => AV.v (.bool z)) b1)⟩, trivial⟩ trivial ?_
    refine AX.ret ?_
    refine fin_wk (Wk.forget [3] [] (s' := ⟨[(3, .v (.bool true))], []⟩) (by kernel_rfl)) ?_
    have hr := Option.some.inj h
    subst hr
    exact ⟨_, Wk.refl _, .inr rfl, ⟨[], by kernel_rfl, trivial, [.v (.bool true)], by kernel_rfl, by kernel_rfl⟩⟩
  · replace h := cd_f b1 h
    obtain ⟨x4, e2, h⟩ := bd_e h
    refine AX.reg (its := [.auto {}, .auto { y := some (.v (.bool false)) }, .auto {}, .auto {}, .auto {}, .call 81 [.agg [.bs false 2 (List.map enc_si p2), .v (.int .i64 p3)]] (handO (rho ([] ++ [])) [] [] ++ []) (callEv [] [] (.v (.int .i64 x4)) [])]) [3] [] (s1 := ⟨[(3, .v (.bool (!decide ((Go.bits .andNot .i64 p1 x4) = 0))))], []⟩) (C := ((True) ∧ ((.v (.bool (decide (p1 < 0))) : AV) = (.v (.bool false) : AV))) ∧ ((([.agg [.bs false 2 (List.map enc_si p2), .v (.int .i64 p3)]] : List AV) = [.agg [.bs false 2 (List.map enc_si p2), .v (.int .i64 p3)]]) ∧ True) ∧ True) (by kernel_rfl) ⟨⟨trivial, (congrArg (fun z => AV.v (.bool z)) b1)⟩, ⟨⟨rfl, trivial⟩, trivial⟩⟩ ⟨call_ok (ks := []) (ns := []) (bor := []) (bobjs := []) (s_impl_Flag_mask p2 p3 x4 e2) (.cons (.c1 (.agg (.cons (.same _ (by kernel_rfl) (by kernel_rfl)) (.cons (.same _ (by kernel_rfl) (by kernel_rfl)) (.nil))))) (.nil)) (by kernel_rfl) trivial, trivial⟩ ?_
    refine AX.ret ?_
    refine fin_wk (Wk.forget [3] [] (s' := ⟨[(3, .v (.bool (!decide ((Go.bits .andNot .i64 p1 x4) = 0))))], []⟩) (by kernel_rfl)) ?_
    have hr := Option.some.inj h
    subst hr
    exact ⟨_, Wk.refl _, .inr rfl, ⟨[], by kernel_rfl, trivial, [.v (.bool (!decide ((Go.bits .andNot .i64 p1 x4) = 0)))], by kernel_rfl, by kernel_rfl⟩⟩

theorem s_slices_IndexFunc_i_GreatestArms_1_lsi_L1 (p1 : List (Int)) (p2 : List (ByteArray × Int)) (p3 : Int) (n : Nat) (g : Int) (out : Int ⊕ Unit) (h : m_slices_IndexFunc_i_GreatestArms_1_lsi_L1 p1 p2 p3 n g = some out) :
    AX Try.prog 19 0 (codeAt [1, 0, 1, 1] (bodyOf Try.f145)) ((fun g : Int => (⟨[(0, .bs false 1 (List.map enc_i p1)), (1, .fn 83 [.bp [.bs false 2 (List.map enc_si p2), .v (.int .i64 p3)] 0]), (7, .v (.int .i64 (p1.length : Int))), (8, .v (.int .i64 g))], []⟩ : S)) g) (fun ex s => (∃ o : Int, out = Sum.inl o ∧ ex = .ret ∧ s = ⟨[(4, .v (.int .i64 o))], []⟩) ∨ (∃ o : Unit, out = Sum.inr o ∧ ex = .exit 0 ∧ s = ⟨[], []⟩)) := by
  refine AX.wkpost ?_
  refine AX.loop (G := Nat × (Int)) (fun q => (fun g : Int => (⟨[(0, .bs false 1 (List.map enc_i p1)), (1, .fn 83 [.bp [.bs false 2 (List.map enc_si p2), .v (.int .i64 p3)] 0]), (7, .v (.int .i64 (p1.length : Int))), (8, .v (.int .i64 g))], []⟩ : S)) q.2) (fun q => m_slices_IndexFunc_i_GreatestArms_1_lsi_L1 p1 p2 p3 q.1 q.2 = some out) (fun q => q.1) (n, g) h (Wk.refl _) ?_
  clear h
  rintro ⟨fu, v4⟩ h
  cases fu with
  | zero => cases h
  | succ fu =>
    rw [m_slices_IndexFunc_i_GreatestArms_1_lsi_L1] at h
    refine AX.seq ?_
    refine AX.reg (its := []) [0, 1, 7, 8, 9] [] (s1 := ⟨[(0, .bs false 1 (List.map enc_i p1)), (1, .fn 83 [.bp [.bs false 2 (List.map enc_si p2), .v (.int .i64 p3)] 0]), (7, .v (.int .i64 (p1.length : Int))), (8, .v (.int .i64 v4)), (9, .v (.bool (decide (v4 < (p1.length : Int)))))], []⟩) (C := True) (by kernel_rfl) trivial trivial ?_
    refine AX.seq ?_
    rcases bool_cases (decide (v4 < (p1.length : Int))) with b1 | b1
    · replace h := cd_t b1 h
      refine AX.condT (decide (v4 < (p1.length : Int))) (by kernel_rfl) b1 ?_
      refine AX.skip ?_
      refine AX.seq ?_
      refine AX.block ?_
      refine AX.seq ?_
      refine AX.reg (its := []) [0, 1, 5, 7, 8] [] (s1 := ⟨[(0, .bs false 1 (List.map enc_i p1)), (1, .fn 83 [.bp [.bs false 2 (List.map enc_si p2), .v (.int .i64 p3)] 0]), (5, .v (.int .i64 v4)), (7, .v (.int .i64 (p1.length : Int))), (8, .v (.int .i64 v4))], []⟩) (C := True) (by kernel_rfl) trivial trivial ?_
      refine AX.seq ?_
      obtain ⟨g2, h⟩ := gd_e h
      obtain ⟨x5, e3, h⟩ := bd_e h
      refine AX.reg (its := [.auto {}, .auto {}, .auto {}, .auto { y := some (.be 1 (enc_i (gt p1 v4)) 0) }, .auto {}, .call 83 [.v (.int .i64 (gt p1 v4)), .bp [.bs false 2 (List.map enc_si p2), .v (.int .i64 p3)] 0] (handO (rho ([] ++ [])) [] [] ++ []) (callEv [] [] (.v (.bool x5)) [])]) [0, 1, 5, 7, 8, 16] [] (s1 := ⟨[(0, .bs false 1 (List.map enc_i p1)), (1, .fn 83 [.bp [.bs false 2 (List.map enc_si p2), .v (.int .i64 p3)] 0]), (5, .v (.int .i64 v4)), (7, .v (.int .i64 (p1.length : Int))), (8, .v (.int .i64 v4)), (16, .v (.bool x5))], []⟩) (C := ((0 ≤ v4 ∧ v4 < ((List.map enc_i p1).length : Int)) ∧ (AV.be 1 ((List.map enc_i p1).getD v4.toNat []) 0 = AV.be 1 (enc_i (gt p1 v4)) 0)) ∧ ((([.v (.int .i64 (gt p1 v4)), .bp [.bs false 2 (List.map enc_si p2), .v (.int .i64 p3)] 0] : List AV) = [.v (.int .i64 (gt p1 v4)), .bp [.bs false 2 (List.map enc_si p2), .v (.int .i64 p3)] 0]) ∧ True) ∧ True) (by kernel_rfl) ⟨idx_bs enc_i p1 v4 1 g2, ⟨⟨rfl, trivial⟩, trivial⟩⟩ ⟨call_ok (ks := []) (ns := []) (bor := []) (bobjs := []) (s_impl_GreatestArms_1_l (gt p1 v4) p2 p3 x5 e3) (.cons (.c1 (.c0 (.same _ (by kernel_rfl) (by kernel_rfl)))) (.cons (.c1 (.bp (.cons (.same _ (by kernel_rfl) (by kernel_rfl)) (.cons (.same _ (by kernel_rfl) (by kernel_rfl)) (.nil))))) (.nil))) (by kernel_rfl) trivial, trivial⟩ ?_
      rcases bool_cases (x5) with b4 | b4
      · replace h := cd_t b4 h
        refine AX.condT (x5) (by kernel_rfl) b4 ?_
        refine AX.seq ?_
        refine AX.reg (its := []) [4] [] (s1 := ⟨[(4, .v (.int .i64 v4))], []⟩) (C := True) (by kernel_rfl) trivial trivial ?_
        refine AX.ret ?_
        refine fin_wk (Wk.forget [4] [] (s' := ⟨[(4, .v (.int .i64 v4))], []⟩) (by kernel_rfl)) ?_
        have hr := Option.some.inj h
        subst hr
        exact ⟨_, Wk.refl _, .inl ⟨v4, rfl, rfl, rfl⟩⟩
      · replace h := cd_f b4 h
        refine AX.condF (x5) (by kernel_rfl) b4 ?_
        refine AX.skip ?_
        refine AX.reg (its := [.auto { raw := true }]) [0, 1, 7, 8] [] (s1 := ⟨[(0, .bs false 1 (List.map enc_i p1)), (1, .fn 83 [.bp [.bs false 2 (List.map enc_si p2), .v (.int .i64 p3)] 0]), (7, .v (.int .i64 (p1.length : Int))), (8, .v (.int .i64 (IntKind.wrap .i64 (v4 + 1))))], []⟩) (C := True) (by kernel_rfl) trivial trivial ?_
        refine ⟨(fu, IntKind.wrap .i64 (v4 + 1)), h, Nat.lt_succ_self _, ?_⟩
        refine Wk.trans (Wk.forget [0, 1, 7, 8] [] (s' := ⟨[(0, .bs false 1 (List.map enc_i p1)), (1, .fn 83 [.bp [.bs false 2 (List.map enc_si p2), .v (.int .i64 p3)] 0]), (7, .v (.int .i64 (p1.length : Int))), (8, .v (.int .i64 (IntKind.wrap .i64 (v4 + 1))))], []⟩) (by kernel_rfl)) ?_
        exact Wk.refl _
    · replace h := cd_f b1 h
      refine AX.condF (decide (v4 < (p1.length : Int))) (by kernel_rfl) b1 ?_
      refine AX.exit ?_
      refine fin_wk (Wk.forget [] [] (s' := ⟨[], []⟩) (by kernel_rfl)) ?_
      have hr := Option.some.inj h
      subst hr
      exact ⟨_, Wk.refl _, .inr ⟨(), rfl, rfl, rfl⟩⟩

theorem s_slices_IndexFunc_i_GreatestArms_1_lsi (p1 : List (Int)) (p2 : List (ByteArray × Int)) (p3 : Int) (r : Int) (h : m_slices_IndexFunc_i_GreatestArms_1_lsi p1 p2 p3 = some r) :
    Eng.Spec Try.prog 145 [.bs false 1 (List.map enc_i p1), .fn 83 [.bp [.bs false 2 (List.map enc_si p2), .v (.int .i64 p3)] 0]] [] (.v (.int .i64 r)) [] := by
  unfold m_slices_IndexFunc_i_GreatestArms_1_lsi at h
  refine Eng.Spec.body Try.func145 (by kernel_rfl) rfl (by kernel_rfl) ?_
  refine AX.wkpost ?_
  refine AX.seq ?_
  refine AX.reg (its := []) [0, 1] [] (s1 := ⟨[(0, .bs false 1 (List.map enc_i p1)), (1, .fn 83 [.bp [.bs false 2 (List.map enc_si p2), .v (.int .i64 p3)] 0])], []⟩) (C := True) (by kernel_rfl) trivial trivial ?_
  refine AX.seq ?_
  refine AX.seq ?_
  refine AX.reg (its := [.auto {}, .auto { y := some (.v (.int .i64 (p1.length : Int))) }]) [0, 1, 7, 8] [] (s1 := ⟨[(0, .bs false 1 (List.map enc_i p1)), (1, .fn 83 [.bp [.bs false 2 (List.map enc_si p2), .v (.int .i64 p3)] 0]), (7, .v (.int .i64 (p1.length : Int))), (8, .v (.int .i64 0))], []⟩) (C := (True ∧ (AV.v (.int .i64 ((List.map enc_i p1).length : Int)) = AV.v (.int .i64 (p1.length : Int)))) ∧ True) (by kernel_rfl) ⟨⟨trivial, len_map enc_i p1⟩, trivial⟩ trivial ?_
  refine AX.block ?_
  obtain ⟨x6, e5, h⟩ := bd_e h
  refine AX.wk (Wk.forget [0, 1, 7, 8] [] (s' := ⟨[(0, .bs false 1 (List.map enc_i p1)), (1, .fn 83 [.bp [.bs false 2 (List.map enc_si p2), .v (.int .i64 p3)] 0]), (7, .v (.int .i64 (p1.length : Int))), (8, .v (.int .i64 0))], []⟩) (by kernel_rfl)) ?_
  refine AX.mono (s_slices_IndexFunc_i_GreatestArms_1_lsi_L1 p1 p2 p3 FU 0 x6 e5) ?_
  rintro _ _ (⟨x7, rfl, rfl, rfl⟩ | ⟨x8, rfl, rfl, rfl⟩)
  · replace h := sm_l h
    refine fin_wk (Wk.forget [4] [] (s' := ⟨[(4, .v (.int .i64 x7))], []⟩) (by kernel_rfl)) ?_
    have hr := Option.some.inj h
    subst hr
    exact ⟨_, Wk.refl _, .inr rfl, ⟨[], by kernel_rfl, trivial, [.v (.int .i64 x7)], by kernel_rfl, by kernel_rfl⟩⟩
  · replace h := sm_r h
    refine AX.seq ?_
    refine AX.reg (its := []) [4] [] (s1 := ⟨[(4, .v (.int .i64 (-1)))], []⟩) (C := True) (by kernel_rfl) trivial trivial ?_
    refine AX.ret ?_
    refine fin_wk (Wk.forget [4] [] (s' := ⟨[(4, .v (.int .i64 (-1)))], []⟩) (by kernel_rfl)) ?_
    have hr := Option.some.inj h
    subst hr
    exact ⟨_, Wk.refl _, .inr rfl, ⟨[], by kernel_rfl, trivial, [.v (.int .i64 (-1))], by kernel_rfl, by kernel_rfl⟩⟩

theorem s_slices_ContainsFunc_i_GreatestArms_1_lsi (p1 : List (Int)) (p2 : List (ByteArray × Int)) (p3 : Int) (r : Bool) (h : m_slices_ContainsFunc_i_GreatestArms_1_lsi p1 p2 p3 = some r) :
    Eng.Spec Try.prog 82 [.bs false 1 (List.map enc_i p1), .fn 83 [.bp [.bs false 2 (List.map enc_si p2), .v (.int .i64 p3)] 0]] [] (.v (.bool r)) [] := by
  unfold m_slices_ContainsFunc_i_GreatestArms_1_lsi at h
  refine Eng.Spec.body Try.func82 (by kernel_rfl) rfl (by kernel_rfl) ?_
  refine AX.wkpost ?_
  refine AX.seq ?_
  refine AX.reg (its := []) [0, 1] [] (s1 := ⟨[(0, .bs false 1 (List.map enc_i p1)), (1, .fn 83 [.bp [.bs false 2 (List.map enc_si p2), .v (.int .i64 p3)] 0])], []⟩) (C := True) (by kernel_rfl) trivial trivial ?_
  refine AX.seq ?_
  obtain ⟨x4, e1, h⟩ := bd_e h
  refine AX.reg (its := [.auto {}, .auto {}, .call 145 [.bs false 1 (List.map enc_i p1), .fn 83 [.bp [.bs false 2 (List.map enc_si p2), .v (.int .i64 p3)] 0]] (handO (rho ([] ++ [])) [] [] ++ []) (callEv [] [] (.v (.int .i64 x4)) [])]) [4] [] (s1 := ⟨[(4, .v (.bool (decide (0 ≤ x4))))], []⟩) (C := ((([.bs false 1 (List.map enc_i p1), .fn 83 [.bp [.bs false 2 (List.map enc_si p2), .v (.int .i64 p3)] 0]] : List AV) = [.bs false 1 (List.map enc_i p1), .fn 83 [.bp [.bs false 2 (List.map enc_si p2), .v (.int .i64 p3)] 0]]) ∧ True) ∧ True) (by kernel_rfl) ⟨⟨rfl, trivial⟩, trivial⟩ ⟨call_ok (ks := []) (ns := []) (bor := []) (bobjs := []) (s_slices_IndexFunc_i_GreatestArms_1_lsi p1 p2 p3 x4 e1) (.cons (.c1 (.c0 (.same _ (by kernel_rfl) (by kernel_rfl)))) (.cons (.fn (.cons (.bp (.cons (.same _ (by kernel_rfl) (by kernel_rfl)) (.cons (.same _ (by kernel_rfl) (by kernel_rfl)) (.nil)))) (.nil))) (.nil))) (by kernel_rfl) trivial, trivial⟩ ?_
  refine AX.ret ?_
  refine fin_wk (Wk.forget [4] [] (s' := ⟨[(4, .v (.bool (decide (0 ≤ x4))))], []⟩) (by kernel_rfl)) ?_
  have hr := Option.some.inj h
  subst hr
  exact ⟨_, Wk.refl _, .inr rfl, ⟨[], by kernel_rfl, trivial, [.v (.bool (decide (0 ≤ x4)))], by kernel_rfl, by kernel_rfl⟩⟩

theorem s_impl_inside_L1 (p1 : Int) (n : Nat) (g : List (Int) × Int) (out : List (Int)) (h : m_impl_inside_L1 p1 n g.1 g.2 = some out) :
    AX Try.prog 19 0 (codeAt [1, 1, 0, 1, 1] (bodyOf Try.f84)) ((fun g : List (Int) × Int => (⟨[(0, .v (.int .i64 p1)), (3, .sl 0 0 g.1.length), (4, .v (.int .i64 g.2))], [(0, .arr 1 (List.map enc_i g.1))]⟩ : S)) g) (fun ex s => ex = .exit 0 ∧ s = (fun o : List (Int) => (⟨[(3, .sl 0 0 o.length)], [(0, .arr 1 (List.map enc_i o))]⟩ : S)) out) := by
  refine AX.wkpost ?_
  refine AX.loop (G := Nat × (List (Int) × Int)) (fun q => (fun g : List (Int) × Int => (⟨[(0, .v (.int .i64 p1)), (3, .sl 0 0 g.1.length), (4, .v (.int .i64 g.2))], [(0, .arr 1 (List.map enc_i g.1))]⟩ : S)) q.2) (fun q => m_impl_inside_L1 p1 q.1 q.2.1 q.2.2 = some out) (fun q => q.1) (n, g) h (Wk.refl _) ?_
  clear h
  rintro ⟨fu, v2, v3⟩ h
  cases fu with
  | zero => cases h
  | succ fu =>
    rw [m_impl_inside_L1] at h
    refine AX.seq ?_
    refine AX.seq ?_
    refine AX.reg (its := []) [0, 3, 4, 7] [0] (s1 := ⟨[(0, .v (.int .i64 p1)), (3, .sl 0 0 v2.length), (4, .v (.int .i64 v3)), (7, .v (.bool (decide (v3 ≤ p1))))], [(0, .arr 1 (List.map enc_i v2))]⟩) (C := True) (by kernel_rfl) trivial trivial ?_
    rcases bool_cases (decide (v3 ≤ p1)) with b1 | b1
    · replace h := cd_t b1 h
      refine AX.condT (decide (v3 ≤ p1)) (by kernel_rfl) b1 ?_
      refine AX.skip ?_
      refine AX.seq ?_
      refine AX.block ?_
      refine AX.seq ?_
      refine AX.reg (its := []) [0, 3, 4, 13] [0] (s1 := ⟨[(0, .v (.int .i64 p1)), (3, .sl 0 0 v2.length), (4, .v (.int .i64 v3)), (13, .v (.bool (decide ((Go.bits .andNot .i64 v3 p1) = 0))))], [(0, .arr 1 (List.map enc_i v2))]⟩) (C := True) (by kernel_rfl) trivial trivial ?_
      rcases bool_cases (decide ((Go.bits .andNot .i64 v3 p1) = 0)) with b2 | b2
      · replace h := cd_t b2 h
        refine AX.condT (decide ((Go.bits .andNot .i64 v3 p1) = 0)) (by kernel_rfl) b2 ?_
        obtain ⟨g3, h⟩ := gd_e h
        refine AX.reg (its := [.auto {}, .auto {}, .auto { nk := 1 }, .auto { y := some (.sl 2 0 ((v2 ++ ([v3] : List (Int))).length)), els := some (List.map enc_i v2), els2 := some (List.map enc_i ([v3] : List (Int))), nk := 2 }]) [0, 3, 4] [2] (s1 := ⟨[(0, .v (.int .i64 p1)), (3, .sl 2 0 ((v2 ++ ([v3] : List (Int))).length)), (4, .v (.int .i64 v3))], [(2, .arr 1 (List.map enc_i v2 ++ List.map enc_i ([v3] : List (Int))))]⟩) (C := ((((((List.map enc_i v2).drop 0).take (v2.length) = List.map enc_i v2) ∧ (((List.map enc_i ([v3] : List (Int))).drop 0).take (([v3] : List (Int)).length) = List.map enc_i ([v3] : List (Int)))) ∧ (List.map enc_i v2).length + (List.map enc_i ([v3] : List (Int))).length ≤ 1099511627776) ∧ (AV.sl 2 0 (List.map enc_i v2 ++ List.map enc_i ([v3] : List (Int))).length = AV.sl 2 0 (v2 ++ ([v3] : List (Int))).length)) ∧ True) (by kernel_rfl) ⟨⟨⟨⟨(dt_all (enc := enc_i) rfl rfl), (dt_all (enc := enc_i) rfl rfl)⟩, (by simp only [List.length_map, List.length_nil]; simpa using g3)⟩, sl_len (enc := enc_i) (app_can (enc := enc_i) rfl rfl)⟩, trivial⟩ trivial ?_
        refine AX.reg (its := [.auto {}, .auto { raw := true }]) [0, 3, 4] [2] (s1 := ⟨[(0, .v (.int .i64 p1)), (3, .sl 2 0 ((v2 ++ ([v3] : List (Int))).length)), (4, .v (.int .i64 (IntKind.wrap .i64 (v3 + 1))))], [(2, .arr 1 (List.map enc_i v2 ++ List.map enc_i ([v3] : List (Int))))]⟩) (C := True) (by kernel_rfl) trivial trivial ?_
        refine ⟨(fu, (v2 ++ ([v3] : List (Int)), IntKind.wrap .i64 (v3 + 1))), h, Nat.lt_succ_self _, ?_⟩
        refine Wk.trans (Wk.swap 0 2 (Nat.le_of_ble_eq_true (by kernel_rfl)) (Nat.le_of_ble_eq_true (by kernel_rfl)) rfl) ?_
        refine Wk.trans (Wk.forget [0, 3, 4] [0] (s' := ⟨[(0, .v (.int .i64 p1)), (3, .sl 0 0 ((v2 ++ ([v3] : List (Int))).length)), (4, .v (.int .i64 (IntKind.wrap .i64 (v3 + 1))))], [(0, .arr 1 (List.map enc_i v2 ++ List.map enc_i ([v3] : List (Int))))]⟩) (by kernel_rfl)) ?_
        refine Wk.trans (Wk.of_eq (congrArg (fun z => (⟨[(0, .v (.int .i64 p1)), (3, .sl 0 0 ((v2 ++ ([v3] : List (Int))).length)), (4, .v (.int .i64 (IntKind.wrap .i64 (v3 + 1))))], [(0, .arr 1 (z))]⟩ : S)) (app_can (enc := enc_i) rfl rfl : List.map enc_i v2 ++ List.map enc_i ([v3] : List (Int)) = List.map enc_i (v2 ++ ([v3] : List (Int)))))) ?_
        exact Wk.refl _
      · replace h := cd_f b2 h
        refine AX.condF (decide ((Go.bits .andNot .i64 v3 p1) = 0)) (by kernel_rfl) b2 ?_
        refine AX.skip ?_
        refine AX.reg (its := [.auto {}, .auto { raw := true }]) [0, 3, 4] [0] (s1 := ⟨[(0, .v (.int .i64 p1)), (3, .sl 0 0 v2.length), (4, .v (.int .i64 (IntKind.wrap .i64 (v3 + 1))))], [(0, .arr 1 (List.map enc_i v2))]⟩) (C := True) (by kernel_rfl) trivial trivial ?_
        refine ⟨(fu, (v2, IntKind.wrap .i64 (v3 + 1))), h, Nat.lt_succ_self _, ?_⟩
        refine Wk.trans (Wk.forget [0, 3, 4] [0] (s' := ⟨[(0, .v (.int .i64 p1)), (3, .sl 0 0 v2.length), (4, .v (.int .i64 (IntKind.wrap .i64 (v3 + 1))))], [(0, .arr 1 (List.map enc_i v2))]⟩) (by kernel_rfl)) ?_
        exact Wk.refl _
    · replace h := cd_f b1 h
      refine AX.condF (decide (v3 ≤ p1)) (by kernel_rfl) b1 ?_
      refine AX.exit ?_
      refine fin_wk (Wk.forget [3] [0] (s' := ⟨[(3, .sl 0 0 v2.length)], [(0, .arr 1 (List.map enc_i v2))]⟩) (by kernel_rfl)) ?_
      have hr := Option.some.inj h
      subst hr
      exact ⟨_, Wk.refl _, ⟨rfl, rfl⟩⟩

theorem s_impl_inside (p1 : Int) (r : List (Int)) (h : m_impl_inside p1 = some r) :
    Eng.Spec Try.prog 84 [.v (.int .i64 p1)] [] (.sl 0 0 r.length) [.arr 1 (List.map enc_i r)] := by
  unfold m_impl_inside at h
  refine Eng.Spec.body Try.func84 (by kernel_rfl) rfl (by kernel_rfl) ?_
  refine AX.wkpost ?_
  refine AX.seq ?_
  refine AX.reg (its := []) [0] [] (s1 := ⟨[(0, .v (.int .i64 p1))], []⟩) (C := True) (by kernel_rfl) trivial trivial ?_
  refine AX.seq ?_
  refine AX.reg (its := []) [0, 3] [] (s1 := ⟨[(0, .v (.int .i64 p1)), (3, .v (.slice none 0 0))], []⟩) (C := True) (by kernel_rfl) trivial trivial ?_
  refine AX.seq ?_
  refine AX.seq ?_
  refine AX.reg (its := []) [0, 3, 4] [] (s1 := ⟨[(0, .v (.int .i64 p1)), (3, .v (.slice none 0 0)), (4, .v (.int .i64 0))], []⟩) (C := True) (by kernel_rfl) trivial trivial ?_
  refine AX.block ?_
  obtain ⟨x4, e4, h⟩ := bd_e h
  refine AX.wk (Wk.mat 3 0 1 (by kernel_rfl) (Nat.le_of_ble_eq_true (by kernel_rfl)) (by kernel_rfl) rfl) ?_
  refine AX.wk (Wk.forget [0, 3, 4] [0] (s' := ⟨[(0, .v (.int .i64 p1)), (3, .sl 0 0 (([] : List (Int)).length)), (4, .v (.int .i64 0))], [(0, .arr 1 (List.map enc_i ([] : List (Int))))]⟩) (by kernel_rfl)) ?_
  refine AX.mono (s_impl_inside_L1 p1 FU (([] : List (Int)), 0) x4 e4) ?_
  rintro _ _ ⟨rfl, rfl⟩
  skip
  refine AX.seq ?_
  refine AX.reg (its := []) [2] [0] (s1 := ⟨[(2, .sl 0 0 x4.length)], [(0, .arr 1 (List.map enc_i x4))]⟩) (C := True) (by kernel_rfl) trivial trivial ?_
  refine AX.ret ?_
  refine fin_wk (Wk.forget [2] [0] (s' := ⟨[(2, .sl 0 0 x4.length)], [(0, .arr 1 (List.map enc_i x4))]⟩) (by kernel_rfl)) ?_
  have hr := Option.some.inj h
  subst hr
  exact ⟨_, Wk.refl _, .inr rfl, ⟨[0], by kernel_rfl, ⟨rfl, trivial⟩, [.sl 0 0 x4.length], by kernel_rfl, by kernel_rfl⟩⟩

theorem s_impl_Arm_ok (p1 : Int) (p2 : Int) (p3 : List (ByteArray × Int)) (p4 : Int) (r : Bool) (h : m_impl_Arm_ok p1 p2 p3 p4 = some r) :
    Eng.Spec Try.prog 85 [.agg [.v (.int .i64 p1), .v (.int .i64 p2)], .agg [.bs false 2 (List.map enc_si p3), .v (.int .i64 p4)]] [] (.v (.bool r)) [] := by
  unfold m_impl_Arm_ok at h
  refine Eng.Spec.body Try.func85 (by kernel_rfl) rfl (by kernel_rfl) ?_
  refine AX.wkpost ?_
  refine AX.seq ?_
  refine AX.reg (its := [.auto { nk := 0 }, .auto { nk := 1 }]) [2, 3] [0, 1] (s1 := ⟨[(2, .pt 0 0), (3, .pt 1 0)], [(0, .box [.v (.int .i64 p1), .v (.int .i64 p2)]), (1, .box [.bs false 2 (List.map enc_si p3), .v (.int .i64 p4)])]⟩) (C := True) (by kernel_rfl) trivial trivial ?_
  refine AX.seq ?_
  obtain ⟨x5, e1, h⟩ := bd_e h
  obtain ⟨v6, q2, h⟩ := nm_e h
  rcases bool_cases (v6) with b3 | b3
  · replace h := cd_t b3 h
    refine AX.drw mixed (its := [.auto {}, .auto {}, .auto {}, .auto {}, .auto {}, .auto {}, .call 81 [.agg [.bs false 2 (List.map enc_si p3), .v (.int .i64 p4)]] (handO (rho ([] ++ [])) [] [] ++ []) (callEv [] [] (.v (.int .i64 x5)) []), .auto {}, .auto { y := some (.v (.bool v6)) }, .auto { y := some (.v (.bool true)) }]) [4] [] (s1 := ⟨[(4, .v (.bool (decide ((Go.bits .and .i64 p1 p2) = 0))))], []⟩) (C := ((([.agg [.bs false 2 (List.map enc_si p3), .v (.int .i64 p4)]] : List AV) = [.agg [.bs false 2 (List.map enc_si p3), .v (.int .i64 p4)]]) ∧ True) ∧ ((True) ∧ ((.v (.bool (decide ((Go.bits .andNot .i64 (Go.bits .or .i64 p1 p2) x5) = 0))) : AV) = (.v (.bool v6) : AV))) ∧ ((True) ∧ ((.v (.bool v6) : AV) = (.v (.bool true) : AV))) ∧ True) (by kernel_rfl) ⟨⟨rfl, trivial⟩, ⟨⟨trivial, (congrArg (fun z => AV.v (.bool z)) q2)⟩, ⟨⟨trivial, (congrArg (fun z => AV.v (.bool z)) b3)⟩, trivial⟩⟩⟩ ⟨call_ok (ks := []) (ns := []) (bor := []) (bobjs := []) (s_impl_Flag_mask p3 p4 x5 e1) (.cons (.c1 (.agg (.cons (.same _ (by kernel_rfl) (by kernel_rfl)) (.cons (.same _ (by kernel_rfl) (by kernel_rfl)) (.nil))))) (.nil)) (by kernel_rfl) trivial, trivial⟩ ?_
    refine AX.ret ?_
    refine fin_wk (Wk.forget [4] [] (s' := ⟨[(4, .v (.bool (decide ((Go.bits .and .i64 p1 p2) = 0))))], []⟩) (by kernel_rfl)) ?_
    have hr := Option.some.inj h
    subst hr
    exact ⟨_, Wk.refl _, .inr rfl, ⟨[], by kernel_rfl, trivial, [.v (.bool (decide ((Go.bits .and .i64 p1 p2) = 0)))], by kernel_rfl, by kernel_rfl⟩⟩
  · replace h := cd_f b3 h
    refine AX.drw mixed (its := [.auto {}, .auto {}, .auto {}, .auto {}, .auto {}, .auto {}, .call 81 [.agg [.bs false 2 (List.map enc_si p3), .v (.int .i64 p4)]] (handO (rho ([] ++ [])) [] [] ++ []) (callEv [] [] (.v (.int .i64 x5)) []), .auto {}, .auto { y := some (.v (.bool v6)) }, .auto { y := some (.v (.bool false)) }]) [4] [] (s1 := ⟨[(4, .v (.bool false))], []⟩) (C := ((([.agg [.bs false 2 (List.map enc_si p3), .v (.int .i64 p4)]] : List AV) = [.agg [.bs false 2 (List.map enc_si p3), .v (.int .i64 p4)]]) ∧ True) ∧ ((True) ∧ ((.v (.bool (decide ((Go.bits .andNot .i64 (Go.bits .or .i64 p1 p2) x5) = 0))) : AV) = (.v (.bool v6) : AV))) ∧ ((True) ∧ ((.v (.bool v6) : AV) = (.v (.bool false) : AV))) ∧ True) (by kernel_rfl) ⟨⟨rfl, trivial⟩, ⟨⟨trivial, (congrArg (fun z => AV.v (.bool z)) q2)⟩, ⟨⟨trivial, (congrArg (fun z => AV.v (.bool z)) b3)⟩, trivial⟩⟩⟩ ⟨call_ok (ks := []) (ns := []) (bor := []) (bobjs := []) (s_impl_Flag_mask p3 p4 x5 e1) (.cons (.c1 (.agg (.cons (.same _ (by kernel_rfl) (by kernel_rfl)) (.cons (.same _ (by kernel_rfl) (by kernel_rfl)) (.nil))))) (.nil)) (by kernel_rfl) trivial, trivial⟩ ?_
    refine AX.ret ?_
    refine fin_wk (Wk.forget [4] [] (s' := ⟨[(4, .v (.bool false))], []⟩) (by kernel_rfl)) ?_
    have hr := Option.some.inj h
    subst hr
    exact ⟨_, Wk.refl _, .inr rfl, ⟨[], by kernel_rfl, trivial, [.v (.bool false)], by kernel_rfl, by kernel_rfl⟩⟩

theorem s_impl_Arm_matches (p1 : Int) (p2 : Int) (p3 : Int) (r : Bool) (h : m_impl_Arm_matches p1 p2 p3 = some r) :
    Eng.Spec Try.prog 87 [.agg [.v (.int .i64 p1), .v (.int .i64 p2)], .v (.int .i64 p3)] [] (.v (.bool r)) [] := by
  unfold m_impl_Arm_matches at h
  refine Eng.Spec.body Try.func87 (by kernel_rfl) rfl (by kernel_rfl) ?_
  refine AX.wkpost ?_
  refine AX.seq ?_
  refine AX.reg (its := [.auto { nk := 0 }]) [1, 2] [0] (s1 := ⟨[(1, .v (.int .i64 p3)), (2, .pt 0 0)], [(0, .box [.v (.int .i64 p1), .v (.int .i64 p2)])]⟩) (C := True) (by kernel_rfl) trivial trivial ?_
  refine AX.seq ?_
  rcases bool_cases (decide ((Go.bits .andNot .i64 p1 p3) = 0)) with b1 | b1
  · replace h := cd_t b1 h
    refine AX.reg (its := [.auto {}, .auto {}, .auto {}, .auto {}, .auto { y := some (.v (.bool true)) }]) [4] [] (s1 := ⟨[(4, .v (.bool (decide ((Go.bits .and .i64 p2 p3) = 0))))], []⟩) (C := ((True) ∧ ((.v (.bool (decide ((Go.bits .andNot .i64 p1 p3) = 0))) : AV) = (.v (.bool true) : AV))) ∧ True) (by kernel_rfl) ⟨⟨trivial, (congrArg (fun z => AV.v (.bool z)) b1)⟩, trivial⟩ trivial ?_
    refine AX.ret ?_
    refine fin_wk (Wk.forget [4] [] (s' := ⟨[(4, .v (.bool (decide ((Go.bits .and .i64 p2 p3) = 0))))], []⟩) (by kernel_rfl)) ?_
    have hr := Option.some.inj h
    subst hr
    exact ⟨_, Wk.refl _, .inr rfl, ⟨[], by kernel_rfl, trivial, [.v (.bool (decide ((Go.bits .and .i64 p2 p3) = 0)))], by kernel_rfl, by kernel_rfl⟩⟩
  · replace h := cd_f b1 h
    refine AX.reg (its := [.auto {}, .auto {}, .auto {}, .auto {}, .auto { y := some (.v (.bool false)) }]) [4] [] (s1 := ⟨[(4, .v (.bool false))], []⟩) (C := ((True) ∧ ((.v (.bool (decide ((Go.bits .andNot .i64 p1 p3) = 0))) : AV) = (.v (.bool false) : AV))) ∧ True) (by kernel_rfl) ⟨⟨trivial, (congrArg (fun z => AV.v (.bool z)) b1)⟩, trivial⟩ trivial ?_
    refine AX.ret ?_
    refine fin_wk (Wk.forget [4] [] (s' := ⟨[(4, .v (.bool false))], []⟩) (by kernel_rfl)) ?_
    have hr := Option.some.inj h
    subst hr
    exact ⟨_, Wk.refl _, .inr rfl, ⟨[], by kernel_rfl, trivial, [.v (.bool false)], by kernel_rfl, by kernel_rfl⟩⟩

theorem s_slices_Index_i_L1 (p1 : List (Int)) (p2 : Int) (n : Nat) (g : Int) (out : Int ⊕ Unit) (h : m_slices_Index_i_L1 p1 p2 n g = some out) :
    AX Try.prog 19 0 (codeAt [1, 0, 1, 1] (bodyOf Try.f146)) ((fun g : Int => (⟨[(0, .bs false 1 (List.map enc_i p1)), (1, .v (.int .i64 p2)), (7, .v (.int .i64 (p1.length : Int))), (8, .v (.int .i64 g))], []⟩ : S)) g) (fun ex s => (∃ o : Int, out = Sum.inl o ∧ ex = .ret ∧ s = ⟨[(4, .v (.int .i64 o))], []⟩) ∨ (∃ o : Unit, out = Sum.inr o ∧ ex = .exit 0 ∧ s = ⟨[], []⟩)) := by
  refine AX.wkpost ?_
  refine AX.loop (G := Nat × (Int)) (fun q => (fun g : Int => (⟨[(0, .bs false 1 (List.map enc_i p1)), (1, .v (.int .i64 p2)), (7, .v (.int .i64 (p1.length : Int))), (8, .v (.int .i64 g))], []⟩ : S)) q.2) (fun q => m_slices_Index_i_L1 p1 p2 q.1 q.2 = some out) (fun q => q.1) (n, g) h (Wk.refl _) ?_
  clear h
  rintro ⟨fu, v3⟩ h
  cases fu with
  | zero => cases h
  | succ fu =>
    rw [m_slices_Index_i_L1] at h
    refine AX.seq ?_
    refine AX.reg (its := []) [0, 1, 7, 8, 9] [] (s1 := ⟨[(0, .bs false 1 (List.map enc_i p1)), (1, .v (.int .i64 p2)), (7, .v (.int .i64 (p1.length : Int))), (8, .v (.int .i64 v3)), (9, .v (.bool (decide (v3 < (p1.length : Int)))))], []⟩) (C := True) (by kernel_rfl) trivial trivial ?_
    refine AX.seq ?_
    rcases bool_cases (decide (v3 < (p1.length : Int))) with b1 | b1
    · replace h := cd_t b1 h
      refine AX.condT (decide (v3 < (p1.length : Int))) (by kernel_rfl) b1 ?_
      refine AX.skip ?_
      refine AX.seq ?_
      refine AX.block ?_
      refine AX.seq ?_
      refine AX.reg (its := []) [0, 1, 5, 7, 8] [] (s1 := ⟨[(0, .bs false 1 (List.map enc_i p1)), (1, .v (.int .i64 p2)), (5, .v (.int .i64 v3)), (7, .v (.int .i64 (p1.length : Int))), (8, .v (.int .i64 v3))], []⟩) (C := True) (by kernel_rfl) trivial trivial ?_
      refine AX.seq ?_
      obtain ⟨g2, h⟩ := gd_e h
      refine AX.reg (its := [.auto {}, .auto {}, .auto {}, .auto { y := some (.be 1 (enc_i (gt p1 v3)) 0) }]) [0, 1, 5, 7, 8, 16] [] (s1 := ⟨[(0, .bs false 1 (List.map enc_i p1)), (1, .v (.int .i64 p2)), (5, .v (.int .i64 v3)), (7, .v (.int .i64 (p1.length : Int))), (8, .v (.int .i64 v3)), (16, .v (.bool (decide (p2 = (gt p1 v3)))))], []⟩) (C := ((0 ≤ v3 ∧ v3 < ((List.map enc_i p1).length : Int)) ∧ (AV.be 1 ((List.map enc_i p1).getD v3.toNat []) 0 = AV.be 1 (enc_i (gt p1 v3)) 0)) ∧ True) (by kernel_rfl) ⟨idx_bs enc_i p1 v3 1 g2, trivial⟩ trivial ?_
      rcases bool_cases (decide (p2 = (gt p1 v3))) with b3 | b3
      · replace h := cd_t b3 h
        refine AX.condT (decide (p2 = (gt p1 v3))) (by kernel_rfl) b3 ?_
        refine AX.seq ?_
        refine AX.reg (its := []) [4] [] (s1 := ⟨[(4, .v (.int .i64 v3))], []⟩) (C := True) (by kernel_rfl) trivial trivial ?_
        refine AX.ret ?_
        refine fin_wk (Wk.forget [4] [] (s' := ⟨[(4, .v (.int .i64 v3))], []⟩) (by kernel_rfl)) ?_
        have hr := Option.some.inj h
        subst hr
        exact ⟨_, Wk.refl _, .inl ⟨v3, rfl, rfl, rfl⟩⟩
      · replace h := cd_f b3 h
        refine AX.condF (decide (p2 = (gt p1 v3))) (by kernel_rfl) b3 ?_
        refine AX.skip ?_
        refine AX.reg (its := [.auto { raw := true }]) [0, 1, 7, 8] [] (s1 := ⟨[(0, .bs false 1 (List.map enc_i p1)), (1, .v (.int .i64 p2)), (7, .v (.int .i64 (p1.length : Int))), (8, .v (.int .i64 (IntKind.wrap .i64 (v3 + 1))))], []⟩) (C := True) (by kernel_rfl) trivial trivial ?_
        refine ⟨(fu, IntKind.wrap .i64 (v3 + 1)), h, Nat.lt_succ_self _, ?_⟩
        refine Wk.trans (Wk.forget [0, 1, 7, 8] [] (s' := ⟨[(0, .bs false 1 (List.map enc_i p1)), (1, .v (.int .i64 p2)), (7, .v (.int .i64 (p1.length : Int))), (8, .v (.int .i64 (IntKind.wrap .i64 (v3 + 1))))], []⟩) (by kernel_rfl)) ?_
        exact Wk.refl _
    · replace h := cd_f b1 h
      refine AX.condF (decide (v3 < (p1.length : Int))) (by kernel_rfl) b1 ?_
      refine AX.exit ?_
      refine fin_wk (Wk.forget [] [] (s' := ⟨[], []⟩) (by kernel_rfl)) ?_
      have hr := Option.some.inj h
      subst hr
      exact ⟨_, Wk.refl _, .inr ⟨(), rfl, rfl, rfl⟩⟩

theorem s_slices_Index_i (p1 : List (Int)) (p2 : Int) (r : Int) (h : m_slices_Index_i p1 p2 = some r) :
    Eng.Spec Try.prog 146 [.bs false 1 (List.map enc_i p1), .v (.int .i64 p2)] [] (.v (.int .i64 r)) [] := by
  unfold m_slices_Index_i at h
  refine Eng.Spec.body Try.func146 (by kernel_rfl) rfl (by kernel_rfl) ?_
  refine AX.wkpost ?_
  refine AX.seq ?_
  refine AX.reg (its := []) [0, 1] [] (s1 := ⟨[(0, .bs false 1 (List.map enc_i p1)), (1, .v (.int .i64 p2))], []⟩) (C := True) (by kernel_rfl) trivial trivial ?_
  refine AX.seq ?_
  refine AX.seq ?_
  refine AX.reg (its := [.auto {}, .auto { y := some (.v (.int .i64 (p1.length : Int))) }]) [0, 1, 7, 8] [] (s1 := ⟨[(0, .bs false 1 (List.map enc_i p1)), (1, .v (.int .i64 p2)), (7, .v (.int .i64 (p1.length : Int))), (8, .v (.int .i64 0))], []⟩) (C := (True ∧ (AV.v (.int .i64 ((List.map enc_i p1).length : Int)) = AV.v (.int .i64 (p1.length : Int)))) ∧ True) (by kernel_rfl) ⟨⟨trivial, len_map enc_i p1⟩, trivial⟩ trivial ?_
  refine AX.block ?_
  obtain ⟨x4, e4, h⟩ := bd_e h
  refine AX.wk (Wk.forget [0, 1, 7, 8] [] (s' := ⟨[(0, .bs false 1 (List.map enc_i p1)), (1, .v (.int .i64 p2)), (7, .v (.int .i64 (p1.length : Int))), (8, .v (.int .i64 0))], []⟩) (by kernel_rfl)) ?_
  refine AX.mono (s_slices_Index_i_L1 p1 p2 FU 0 x4 e4) ?_
  rintro _ _ (⟨x5, rfl, rfl, rfl⟩ | ⟨x6, rfl, rfl, rfl⟩)
  · replace h := sm_l h
    refine fin_wk (Wk.forget [4] [] (s' := ⟨[(4, .v (.int .i64 x5))], []⟩) (by kernel_rfl)) ?_
    have hr := Option.some.inj h
    subst hr
    exact ⟨_, Wk.refl _, .inr rfl, ⟨[], by kernel_rfl, trivial, [.v (.int .i64 x5)], by kernel_rfl, by kernel_rfl⟩⟩
  · replace h := sm_r h
    refine AX.seq ?_
    refine AX.reg (its := []) [4] [] (s1 := ⟨[(4, .v (.int .i64 (-1)))], []⟩) (C := True) (by kernel_rfl) trivial trivial ?_
    refine AX.ret ?_
    refine fin_wk (Wk.forget [4] [] (s' := ⟨[(4, .v (.int .i64 (-1)))], []⟩) (by kernel_rfl)) ?_
    have hr := Option.some.inj h
    subst hr
    exact ⟨_, Wk.refl _, .inr rfl, ⟨[], by kernel_rfl, trivial, [.v (.int .i64 (-1))], by kernel_rfl, by kernel_rfl⟩⟩

theorem s_slices_Contains_i (p1 : List (Int)) (p2 : Int) (r : Bool) (h : m_slices_Contains_i p1 p2 = some r) :
    Eng.Spec Try.prog 88 [.bs false 1 (List.map enc_i p1), .v (.int .i64 p2)] [] (.v (.bool r)) [] := by
  unfold m_slices_Contains_i at h
  refine Eng.Spec.body Try.func88 (by kernel_rfl) rfl (by kernel_rfl) ?_
  refine AX.wkpost ?_
  refine AX.seq ?_
  refine AX.reg (its := []) [0, 1] [] (s1 := ⟨[(0, .bs false 1 (List.map enc_i p1)), (1, .v (.int .i64 p2))], []⟩) (C := True) (by kernel_rfl) trivial trivial ?_
  refine AX.seq ?_
  obtain ⟨x3, e1, h⟩ := bd_e h
  refine AX.reg (its := [.auto {}, .auto {}, .call 146 [.bs false 1 (List.map enc_i p1), .v (.int .i64 p2)] (handO (rho ([] ++ [])) [] [] ++ []) (callEv [] [] (.v (.int .i64 x3)) [])]) [4] [] (s1 := ⟨[(4, .v (.bool (decide (0 ≤ x3))))], []⟩) (C := ((([.bs false 1 (List.map enc_i p1), .v (.int .i64 p2)] : List AV) = [.bs false 1 (List.map enc_i p1), .v (.int .i64 p2)]) ∧ True) ∧ True) (by kernel_rfl) ⟨⟨rfl, trivial⟩, trivial⟩ ⟨call_ok (ks := []) (ns := []) (bor := []) (bobjs := []) (s_slices_Index_i p1 p2 x3 e1) (.cons (.c1 (.c0 (.same _ (by kernel_rfl) (by kernel_rfl)))) (.cons (.c1 (.c0 (.same _ (by kernel_rfl) (by kernel_rfl)))) (.nil))) (by kernel_rfl) trivial, trivial⟩ ?_
  refine AX.ret ?_
  refine fin_wk (Wk.forget [4] [] (s' := ⟨[(4, .v (.bool (decide (0 ≤ x3))))], []⟩) (by kernel_rfl)) ?_
  have hr := Option.some.inj h
  subst hr
  exact ⟨_, Wk.refl _, .inr rfl, ⟨[], by kernel_rfl, trivial, [.v (.bool (decide (0 ≤ x3)))], by kernel_rfl, by kernel_rfl⟩⟩

theorem s_impl_GreatestArms_2_ll (p1 : Int) (p2 : Int) (p3 : Int) (p4 : List (Int)) (r : Bool) (h : m_impl_GreatestArms_2_ll p1 p2 p3 p4 = some r) :
    Eng.Spec Try.prog 86 [.v (.int .i64 p1), .bp [.v (.int .i64 p2), .v (.int .i64 p3)] 0, .bp [.bs false 1 (List.map enc_i p4)] 0] [] (.v (.bool r)) [] := by
  unfold m_impl_GreatestArms_2_ll at h
  refine Eng.Spec.body Try.func86 (by kernel_rfl) rfl (by kernel_rfl) ?_
  refine AX.wkpost ?_
  refine AX.seq ?_
  refine AX.reg (its := []) [0, 1, 2] [] (s1 := ⟨[(0, .v (.int .i64 p1)), (1, .bp [.v (.int .i64 p2), .v (.int .i64 p3)] 0), (2, .bp [.bs false 1 (List.map enc_i p4)] 0)], []⟩) (C := True) (by kernel_rfl) trivial trivial ?_
  refine AX.seq ?_
  obtain ⟨x5, e1, h⟩ := bd_e h
  rcases bool_cases (x5) with b2 | b2
  · replace h := cd_t b2 h
    obtain ⟨x6, e3, h⟩ := bd_e h
    refine AX.reg (its := [.auto {}, .auto {}, .call 87 [.agg [.v (.int .i64 p2), .v (.int .i64 p3)], .v (.int .i64 p1)] (handO (rho ([] ++ [])) [] [] ++ []) (callEv [] [] (.v (.bool true)) []), .auto {}, .auto {}, .auto {}, .call 88 [.bs false 1 (List.map enc_i p4), .v (.int .i64 p1)] (handO (rho ([] ++ [])) [] [] ++ []) (callEv [] [] (.v (.bool x6)) [])]) [4] [] (s1 := ⟨[(4, .v (.bool (!x6)))], []⟩) (C := ((([.agg [.v (.int .i64 p2), .v (.int .i64 p3)], .v (.int .i64 p1)] : List AV) = [.agg [.v (.int .i64 p2), .v (.int .i64 p3)], .v (.int .i64 p1)]) ∧ True) ∧ ((([.bs false 1 (List.map enc_i p4), .v (.int .i64 p1)] : List AV) = [.bs false 1 (List.map enc_i p4), .v (.int .i64 p1)]) ∧ True) ∧ True) (by kernel_rfl) ⟨⟨rfl, trivial⟩, ⟨⟨rfl, trivial⟩, trivial⟩⟩ ⟨call_ok (ks := []) (ns := []) (bor := []) (bobjs := []) (show Eng.Spec Try.prog 87 [.agg [.v (.int .i64 p2), .v (.int .i64 p3)], .v (.int .i64 p1)] [] (.v (.bool true)) [] from by have q := s_impl_Arm_matches p2 p3 p1 x5 e1; rw [b2] at q; exact q) (.cons (.c1 (.agg (.cons (.same _ (by kernel_rfl) (by kernel_rfl)) (.cons (.same _ (by kernel_rfl) (by kernel_rfl)) (.nil))))) (.cons (.c1 (.c0 (.same _ (by kernel_rfl) (by kernel_rfl)))) (.nil))) (by kernel_rfl) trivial, ⟨call_ok (ks := []) (ns := []) (bor := []) (bobjs := []) (s_slices_Contains_i p4 p1 x6 e3) (.cons (.c1 (.c0 (.same _ (by kernel_rfl) (by kernel_rfl)))) (.cons (.c1 (.c0 (.same _ (by kernel_rfl) (by kernel_rfl)))) (.nil))) (by kernel_rfl) trivial, trivial⟩⟩ ?_
    refine AX.ret ?_
    refine fin_wk (Wk.forget [4] [] (s' := ⟨[(4, .v (.bool (!x6)))], []⟩) (by kernel_rfl)) ?_
    have hr := Option.some.inj h
    subst hr
    exact ⟨_, Wk.refl _, .inr rfl, ⟨[], by kernel_rfl, trivial, [.v (.bool (!x6))], by kernel_rfl, by kernel_rfl⟩⟩
  · replace h := cd_f b2 h
    refine AX.reg (its := [.auto {}, .auto {}, .call 87 [.agg [.v (.int .i64 p2), .v (.int .i64 p3)], .v (.int .i64 p1)] (handO (rho ([] ++ [])) [] [] ++ []) (callEv [] [] (.v (.bool false)) [])]) [4] [] (s1 := ⟨[(4, .v (.bool false))], []⟩) (C := ((([.agg [.v (.int .i64 p2), .v (.int .i64 p3)], .v (.int .i64 p1)] : List AV) = [.agg [.v (.int .i64 p2), .v (.int .i64 p3)], .v (.int .i64 p1)]) ∧ True) ∧ True) (by kernel_rfl) ⟨⟨rfl, trivial⟩, trivial⟩ ⟨call_ok (ks := []) (ns := []) (bor := []) (bobjs := []) (show Eng.Spec Try.prog 87 [.agg [.v (.int .i64 p2), .v (.int .i64 p3)], .v (.int .i64 p1)] [] (.v (.bool false)) [] from by have q := s_impl_Arm_matches p2 p3 p1 x5 e1; rw [b2] at q; exact q) (.cons (.c1 (.agg (.cons (.same _ (by kernel_rfl) (by kernel_rfl)) (.cons (.same _ (by kernel_rfl) (by kernel_rfl)) (.nil))))) (.cons (.c1 (.c0 (.same _ (by kernel_rfl) (by kernel_rfl)))) (.nil))) (by kernel_rfl) trivial, trivial⟩ ?_
    refine AX.ret ?_
    refine fin_wk (Wk.forget [4] [] (s' := ⟨[(4, .v (.bool false))], []⟩) (by kernel_rfl)) ?_
    have hr := Option.some.inj h
    subst hr
    exact ⟨_, Wk.refl _, .inr rfl, ⟨[], by kernel_rfl, trivial, [.v (.bool false)], by kernel_rfl, by kernel_rfl⟩⟩

theorem s_slices_IndexFunc_i_GreatestArms_2_lli_L1 (p1 : List (Int)) (p2 : Int) (p3 : Int) (p4 : List (Int)) (n : Nat) (g : Int) (out : Int ⊕ Unit) (h : m_slices_IndexFunc_i_GreatestArms_2_lli_L1 p1 p2 p3 p4 n g = some out) :
    AX Try.prog 19 0 (codeAt [1, 0, 1, 1] (bodyOf Try.f145)) ((fun g : Int => (⟨[(0, .bs false 1 (List.map enc_i p1)), (1, .fn 86 [.bp [.v (.int .i64 p2), .v (.int .i64 p3)] 0, .bp [.bs false 1 (List.map enc_i p4)] 0]), (7, .v (.int .i64 (p1.length : Int))), (8, .v (.int .i64 g))], []⟩ : S)) g) (fun ex s => (∃ o : Int, out = Sum.inl o ∧ ex = .ret ∧ s = ⟨[(4, .v (.int .i64 o))], []⟩) ∨ (∃ o : Unit, out = Sum.inr o ∧ ex = .exit 0 ∧ s = ⟨[], []⟩)) := by
  refine AX.wkpost ?_
  refine AX.loop (G := Nat × (Int)) (fun q => (fun g : Int => (⟨[(0, .bs false 1 (List.map enc_i p1)), (1, .fn 86 [.bp [.v (.int .i64 p2), .v (.int .i64 p3)] 0, .bp [.bs false 1 (List.map enc_i p4)] 0]), (7, .v (.int .i64 (p1.length : Int))), (8, .v (.int .i64 g))], []⟩ : S)) q.2) (fun q => m_slices_IndexFunc_i_GreatestArms_2_lli_L1 p1 p2 p3 p4 q.1 q.2 = some out) (fun q => q.1) (n, g) h (Wk.refl _) ?_
  clear h
  rintro ⟨fu, v5⟩ h
  cases fu with
  | zero => cases h
  | succ fu =>
    rw [m_slices_IndexFunc_i_GreatestArms_2_lli_L1] at h
    refine AX.seq ?_
    refine AX.reg (its := []) [0, 1, 7, 8, 9] [] (s1 := ⟨[(0, .bs false 1 (List.map enc_i p1)), (1, .fn 86 [.bp [.v (.int .i64 p2), .v (.int .i64 p3)] 0, .bp [.bs false 1 (List.map enc_i p4)] 0]), (7, .v (.int .i64 (p1.length : Int))), (8, .v (.int .i64 v5)), (9, .v (.bool (decide (v5 < (p1.length : Int)))))], []⟩) (C := True) (by kernel_rfl) trivial trivial ?_
    refine AX.seq ?_
    rcases bool_cases (decide (v5 < (p1.length : Int))) with b1 | b1
    · replace h := cd_t b1 h
      refine AX.condT (decide (v5 < (p1.length : Int))) (by kernel_rfl) b1 ?_
      refine AX.skip ?_
      refine AX.seq ?_
      refine AX.block ?_
      refine AX.seq ?_
      refine AX.reg (its := []) [0, 1, 5, 7, 8] [] (s1 := ⟨[(0, .bs false 1 (List.map enc_i p1)), (1, .fn 86 [.bp [.v (.int .i64 p2), .v (.int .i64 p3)] 0, .bp [.bs false 1 (List.map enc_i p4)] 0]), (5, .v (.int .i64 v5)), (7, .v (.int .i64 (p1.length : Int))), (8, .v (.int .i64 v5))], []⟩) (C := True) (by kernel_rfl) trivial trivial ?_
      refine AX.seq ?_
      obtain ⟨g2, h⟩ := gd_e h
      obtain ⟨x6, e3, h⟩ := bd_e h
      refine AX.reg (its := [.auto {}, .auto {}, .auto {}, .auto { y := some (.be 1 (enc_i (gt p1 v5)) 0) }, .auto {}, .call 86 [.v (.int .i64 (gt p1 v5)), .bp [.v (.int .i64 p2), .v (.int .i64 p3)] 0, .bp [.bs false 1 (List.map enc_i p4)] 0] (handO (rho ([] ++ [])) [] [] ++ []) (callEv [] [] (.v (.bool x6)) [])]) [0, 1, 5, 7, 8, 16] [] (s1 := ⟨[(0, .bs false 1 (List.map enc_i p1)), (1, .fn 86 [.bp [.v (.int .i64 p2), .v (.int .i64 p3)] 0, .bp [.bs false 1 (List.map enc_i p4)] 0]), (5, .v (.int .i64 v5)), (7, .v (.int .i64 (p1.length : Int))), (8, .v (.int .i64 v5)), (16, .v (.bool x6))], []⟩) (C := ((0 ≤ v5 ∧ v5 < ((List.map enc_i p1).length : Int)) ∧ (AV.be 1 ((List.map enc_i p1).getD v5.toNat []) 0 = AV.be 1 (enc_i (gt p1 v5)) 0)) ∧ ((([.v (.int .i64 (gt p1 v5)), .bp [.v (.int .i64 p2), .v (.int .i64 p3)] 0, .bp [.bs false 1 (List.map enc_i p4)] 0] : List AV) = [.v (.int .i64 (gt p1 v5)), .bp [.v (.int .i64 p2), .v (.int .i64 p3)] 0, .bp [.bs false 1 (List.map enc_i p4)] 0]) ∧ True) ∧ True) (by kernel_rfl) ⟨idx_bs enc_i p1 v5 1 g2, ⟨⟨rfl, trivial⟩, trivial⟩⟩ ⟨call_ok (ks := []) (ns := []) (bor := []) (bobjs := []) (s_impl_GreatestArms_2_ll (gt p1 v5) p2 p3 p4 x6 e3) (.cons (.c1 (.c0 (.same _ (by kernel_rfl) (by kernel_rfl)))) (.cons (.c1 (.bp (.cons (.same _ (by kernel_rfl) (by kernel_rfl)) (.cons (.same _ (by kernel_rfl) (by kernel_rfl)) (.nil))))) (.cons (.c1 (.bp (.cons (.same _ (by kernel_rfl) (by kernel_rfl)) (.nil)))) (.nil)))) (by kernel_rfl) trivial, trivial⟩ ?_
      rcases bool_cases (x6) with b4 | b4
      · replace h := cd_t b4 h
        refine AX.condT (x6) (by kernel_rfl) b4 ?_
        refine AX.seq ?_
        refine AX.reg (its := []) [4] [] (s1 := ⟨[(4, .v (.int .i64 v5))], []⟩) (C := True) (by kernel_rfl) trivial trivial ?_
        refine AX.ret ?_
        refine fin_wk (Wk.forget [4] [] (s' := ⟨[(4, .v (.int .i64 v5))], []⟩) (by kernel_rfl)) ?_
        have hr := Option.some.inj h
        subst hr
        exact ⟨_, Wk.refl _, .inl ⟨v5, rfl, rfl, rfl⟩⟩
      · replace h := cd_f b4 h
        refine AX.condF (x6) (by kernel_rfl) b4 ?_
        refine AX.skip ?_
        refine AX.reg (its := [.auto { raw := true }]) [0, 1, 7, 8] [] (s1 := ⟨[(0, .bs false 1 (List.map enc_i p1)), (1, .fn 86 [.bp [.v (.int .i64 p2), .v (.int .i64 p3)] 0, .bp [.bs false 1 (List.map enc_i p4)] 0]), (7, .v (.int .i64 (p1.length : Int))), (8, .v (.int .i64 (IntKind.wrap .i64 (v5 + 1))))], []⟩) (C := True) (by kernel_rfl) trivial trivial ?_
        refine ⟨(fu, IntKind.wrap .i64 (v5 + 1)), h, Nat.lt_succ_self _, ?_⟩
        refine Wk.trans (Wk.forget [0, 1, 7, 8] [] (s' := ⟨[(0, .bs false 1 (List.map enc_i p1)), (1, .fn 86 [.bp [.v (.int .i64 p2), .v (.int .i64 p3)] 0, .bp [.bs false 1 (List.map enc_i p4)] 0]), (7, .v (.int .i64 (p1.length : Int))), (8, .v (.int .i64 (IntKind.wrap .i64 (v5 + 1))))], []⟩) (by kernel_rfl)) ?_
        exact Wk.refl _
    · replace h := cd_f b1 h
      refine AX.condF (decide (v5 < (p1.length : Int))) (by kernel_rfl) b1 ?_
      refine AX.exit ?_
      refine fin_wk (Wk.forget [] [] (s' := ⟨[], []⟩) (by kernel_rfl)) ?_
      have hr := Option.some.inj h
      subst hr
      exact ⟨_, Wk.refl _, .inr ⟨(), rfl, rfl, rfl⟩⟩

theorem s_slices_IndexFunc_i_GreatestArms_2_lli (p1 : List (Int)) (p2 : Int) (p3 : Int) (p4 : List (Int)) (r : Int) (h : m_slices_IndexFunc_i_GreatestArms_2_lli p1 p2 p3 p4 = some r) :
    Eng.Spec Try.prog 145 [.bs false 1 (List.map enc_i p1), .fn 86 [.bp [.v (.int .i64 p2), .v (.int .i64 p3)] 0, .bp [.bs false 1 (List.map enc_i p4)] 0]] [] (.v (.int .i64 r)) [] := by
  unfold m_slices_IndexFunc_i_GreatestArms_2_lli at h
  refine Eng.Spec.body Try.func145 (by kernel_rfl) rfl (by kernel_rfl) ?_
  refine AX.wkpost ?_
  refine AX.seq ?_
  refine AX.reg (its := []) [0, 1] [] (s1 := ⟨[(0, .bs false 1 (List.map enc_i p1)), (1, .fn 86 [.bp [.v (.int .i64 p2), .v (.int .i64 p3)] 0, .bp [.bs false 1 (List.map enc_i p4)] 0])], []⟩) (C := True) (by kernel_rfl) trivial trivial ?_
  refine AX.seq ?_
  refine AX.seq ?_
  refine AX.reg (its := [.auto {}, .auto { y := some (.v (.int .i64 (p1.length : Int))) }]) [0, 1, 7, 8] [] (s1 := ⟨[(0, .bs false 1 (List.map enc_i p1)), (1, .fn 86 [.bp [.v (.int .i64 p2), .v (.int .i64 p3)] 0, .bp [.bs false 1 (List.map enc_i p4)] 0]), (7, .v (.int .i64 (p1.length : Int))), (8, .v (.int .i64 0))], []⟩) (C := (True ∧ (AV.v (.int .i64 ((List.map enc_i p1).length : Int)) = AV.v (.int .i64 (p1.length : Int)))) ∧ True) (by kernel_rfl) ⟨⟨trivial, len_map enc_i p1⟩, trivial⟩ trivial ?_
  refine AX.block ?_
  obtain ⟨x7, e5, h⟩ := bd_e h
  refine AX.wk (Wk.forget [0, 1, 7, 8] [] (s' := ⟨[(0, .bs false 1 (List.map enc_i p1)), (1, .fn 86 [.bp [.v (.int .i64 p2), .v (.int .i64 p3)] 0, .bp [.bs false 1 (List.map enc_i p4)] 0]), (7, .v (.int .i64 (p1.length : Int))), (8, .v (.int .i64 0))], []⟩) (by kernel_rfl)) ?_
  refine AX.mono (s_slices_IndexFunc_i_GreatestArms_2_lli_L1 p1 p2 p3 p4 FU 0 x7 e5) ?_
  rintro _ _ (⟨x8, rfl, rfl, rfl⟩ | ⟨x9, rfl, rfl, rfl⟩)
  · replace h := sm_l h
    refine fin_wk (Wk.forget [4] [] (s' := ⟨[(4, .v (.int .i64 x8))], []⟩) (by kernel_rfl)) ?_
    have hr := Option.some.inj h
    subst hr
    exact ⟨_, Wk.refl _, .inr rfl, ⟨[], by kernel_rfl, trivial, [.v (.int .i64 x8)], by kernel_rfl, by kernel_rfl⟩⟩
  · replace h := sm_r h
    refine AX.seq ?_
    refine AX.reg (its := []) [4] [] (s1 := ⟨[(4, .v (.int .i64 (-1)))], []⟩) (C := True) (by kernel_rfl) trivial trivial ?_
    refine AX.ret ?_
    refine fin_wk (Wk.forget [4] [] (s' := ⟨[(4, .v (.int .i64 (-1)))], []⟩) (by kernel_rfl)) ?_
    have hr := Option.some.inj h
    subst hr
    exact ⟨_, Wk.refl _, .inr rfl, ⟨[], by kernel_rfl, trivial, [.v (.int .i64 (-1))], by kernel_rfl, by kernel_rfl⟩⟩

theorem s_slices_ContainsFunc_i_GreatestArms_2_lli (p1 : List (Int)) (p2 : Int) (p3 : Int) (p4 : List (Int)) (r : Bool) (h : m_slices_ContainsFunc_i_GreatestArms_2_lli p1 p2 p3 p4 = some r) :
    Eng.Spec Try.prog 82 [.bs false 1 (List.map enc_i p1), .fn 86 [.bp [.v (.int .i64 p2), .v (.int .i64 p3)] 0, .bp [.bs false 1 (List.map enc_i p4)] 0]] [] (.v (.bool r)) [] := by
  unfold m_slices_ContainsFunc_i_GreatestArms_2_lli at h
  refine Eng.Spec.body Try.func82 (by kernel_rfl) rfl (by kernel_rfl) ?_
  refine AX.wkpost ?_
  refine AX.seq ?_
  refine AX.reg (its := []) [0, 1] [] (s1 := ⟨[(0, .bs false 1 (List.map enc_i p1)), (1, .fn 86 [.bp [.v (.int .i64 p2), .v (.int .i64 p3)] 0, .bp [.bs false 1 (List.map enc_i p4)] 0])], []⟩) (C := True) (by kernel_rfl) trivial trivial ?_
  refine AX.seq ?_
  obtain ⟨x5, e1, h⟩ := bd_e h
  refine AX.reg (its := [.auto {}, .auto {}, .call 145 [.bs false 1 (List.map enc_i p1), .fn 86 [.bp [.v (.int .i64 p2), .v (.int .i64 p3)] 0, .bp [.bs false 1 (List.map enc_i p4)] 0]] (handO (rho ([] ++ [])) [] [] ++ []) (callEv [] [] (.v (.int .i64 x5)) [])]) [4] [] (s1 := ⟨[(4, .v (.bool (decide (0 ≤ x5))))], []⟩) (C := ((([.bs false 1 (List.map enc_i p1), .fn 86 [.bp [.v (.int .i64 p2), .v (.int .i64 p3)] 0, .bp [.bs false 1 (List.map enc_i p4)] 0]] : List AV) = [.bs false 1 (List.map enc_i p1), .fn 86 [.bp [.v (.int .i64 p2), .v (.int .i64 p3)] 0, .bp [.bs false 1 (List.map enc_i p4)] 0]]) ∧ True) ∧ True) (by kernel_rfl) ⟨⟨rfl, trivial⟩, trivial⟩ ⟨call_ok (ks := []) (ns := []) (bor := []) (bobjs := []) (s_slices_IndexFunc_i_GreatestArms_2_lli p1 p2 p3 p4 x5 e1) (.cons (.c1 (.c0 (.same _ (by kernel_rfl) (by kernel_rfl)))) (.cons (.fn (.cons (.bp (.cons (.same _ (by kernel_rfl) (by kernel_rfl)) (.cons (.same _ (by kernel_rfl) (by kernel_rfl)) (.nil)))) (.cons (.bp (.cons (.same _ (by kernel_rfl) (by kernel_rfl)) (.nil))) (.nil)))) (.nil))) (by kernel_rfl) trivial, trivial⟩ ?_
  refine AX.ret ?_
  refine fin_wk (Wk.forget [4] [] (s' := ⟨[(4, .v (.bool (decide (0 ≤ x5))))], []⟩) (by kernel_rfl)) ?_
  have hr := Option.some.inj h
  subst hr
  exact ⟨_, Wk.refl _, .inr rfl, ⟨[], by kernel_rfl, trivial, [.v (.bool (decide (0 ≤ x5)))], by kernel_rfl, by kernel_rfl⟩⟩

theorem s_impl_Arm_covers (p1 : Int) (p2 : Int) (p3 : Int) (p4 : Int) (r : Bool) (h : m_impl_Arm_covers p1 p2 p3 p4 = some r) :
    Eng.Spec Try.prog 91 [.agg [.v (.int .i64 p1), .v (.int .i64 p2)], .agg [.v (.int .i64 p3), .v (.int .i64 p4)]] [] (.v (.bool r)) [] := by
  unfold m_impl_Arm_covers at h
  refine Eng.Spec.body Try.func91 (by kernel_rfl) rfl (by kernel_rfl) ?_
  refine AX.wkpost ?_
  refine AX.seq ?_
  refine AX.reg (its := [.auto { nk := 0 }, .auto { nk := 1 }]) [2, 3] [0, 1] (s1 := ⟨[(2, .pt 0 0), (3, .pt 1 0)], [(0, .box [.v (.int .i64 p1), .v (.int .i64 p2)]), (1, .box [.v (.int .i64 p3), .v (.int .i64 p4)])]⟩) (C := True) (by kernel_rfl) trivial trivial ?_
  refine AX.seq ?_
  rcases bool_cases (decide ((Go.bits .andNot .i64 p1 p3) = 0)) with b1 | b1
  · replace h := cd_t b1 h
    refine AX.reg (its := [.auto {}, .auto {}, .auto {}, .auto {}, .auto {}, .auto { y := some (.v (.bool true)) }]) [4] [] (s1 := ⟨[(4, .v (.bool (decide ((Go.bits .andNot .i64 p2 p4) = 0))))], []⟩) (C := ((True) ∧ ((.v (.bool (decide ((Go.bits .andNot .i64 p1 p3) = 0))) : AV) = (.v (.bool true) : AV))) ∧ True) (by kernel_rfl) ⟨⟨trivial, (congrArg (fun z => AV.v (.bool z)) b1)⟩, trivial⟩ trivial ?_
    refine AX.ret ?_
    refine fin_wk (Wk.forget [4] [] (s' := ⟨[(4, .v (.bool (decide ((Go.bits .andNot .i64 p2 p4) = 0))))], []⟩) (by kernel_rfl)) ?_
    have hr := Option.some.inj h
    subst hr
    exact ⟨_, Wk.refl _, .inr rfl, ⟨[], by kernel_rfl, trivial, [.v (.bool (decide ((Go.bits .andNot .i64 p2 p4) = 0)))], by kernel_rfl, by kernel_rfl⟩⟩
  · replace h := cd_f b1 h
    refine AX.reg (its := [.auto {}, .auto {}, .auto {}, .auto {}, .auto {}, .auto { y := some (.v (.bool false)) }]) [4] [] (s1 := ⟨[(4, .v (.bool false))], []⟩) (C := ((True) ∧ ((.v (.bool (decide ((Go.bits .andNot .i64 p1 p3) = 0))) : AV) = (.v (.bool false) : AV))) ∧ True) (by kernel_rfl) ⟨⟨trivial, (congrArg (fun z => AV.v (.bool z)) b1)⟩, trivial⟩ trivial ?_
    refine AX.ret ?_
    refine fin_wk (Wk.forget [4] [] (s' := ⟨[(4, .v (.bool false))], []⟩) (by kernel_rfl)) ?_
    have hr := Option.some.inj h
    subst hr
    exact ⟨_, Wk.refl _, .inr rfl, ⟨[], by kernel_rfl, trivial, [.v (.bool false)], by kernel_rfl, by kernel_rfl⟩⟩

theorem s_impl_GreatestArms_3_l (p1 : Int) (p2 : Int) (p3 : Int) (p4 : Int) (r : Bool) (h : m_impl_GreatestArms_3_l p1 p2 p3 p4 = some r) :
    Eng.Spec Try.prog 90 [.agg [.v (.int .i64 p1), .v (.int .i64 p2)], .bp [.v (.int .i64 p3), .v (.int .i64 p4)] 0] [] (.v (.bool r)) [] := by
  unfold m_impl_GreatestArms_3_l at h
  refine Eng.Spec.body Try.func90 (by kernel_rfl) rfl (by kernel_rfl) ?_
  refine AX.wkpost ?_
  refine AX.seq ?_
  refine AX.reg (its := [.auto { nk := 0 }]) [1, 2] [0] (s1 := ⟨[(1, .bp [.v (.int .i64 p3), .v (.int .i64 p4)] 0), (2, .pt 0 0)], [(0, .box [.v (.int .i64 p1), .v (.int .i64 p2)])]⟩) (C := True) (by kernel_rfl) trivial trivial ?_
  refine AX.seq ?_
  rcases bool_cases ((!(decide (p3 = p1) && (decide (p4 = p2) && true)))) with b1 | b1
  · replace h := cd_t b1 h
    obtain ⟨x5, e2, h⟩ := bd_e h
    refine AX.reg (its := [.auto {}, .auto {}, .auto { y := some (.v (.bool true)) }, .auto {}, .auto {}, .auto {}, .call 91 [.agg [.v (.int .i64 p1), .v (.int .i64 p2)], .agg [.v (.int .i64 p3), .v (.int .i64 p4)]] (handO (rho ([] ++ [])) [] [] ++ []) (callEv [] [] (.v (.bool x5)) [])]) [3] [] (s1 := ⟨[(3, .v (.bool x5))], []⟩) (C := ((True) ∧ ((.v (.bool (!(decide (p3 = p1) && (decide (p4 = p2) && true)))) : AV) = (.v (.bool true) : AV))) ∧ ((([.agg [.v (.int .i64 p1), .v (.int .i64 p2)], .agg [.v (.int .i64 p3), .v (.int .i64 p4)]] : List AV) = [.agg [.v (.int .i64 p1), .v (.int .i64 p2)], .agg [.v (.int .i64 p3), .v (.int .i64 p4)]]) ∧ True) ∧ True) (by kernel_rfl) ⟨⟨trivial, (congrArg (fun z => AV.v (.bool z)) b1)⟩, ⟨⟨rfl, trivial⟩, trivial⟩⟩ ⟨call_ok (ks := []) (ns := []) (bor := []) (bobjs := []) (s_impl_Arm_covers p1 p2 p3 p4 x5 e2) (.cons (.c1 (.agg (.cons (.same _ (by kernel_rfl) (by kernel_rfl)) (.cons (.same _ (by kernel_rfl) (by kernel_rfl)) (.nil))))) (.cons (.c1 (.agg (.cons (.same _ (by kernel_rfl) (by kernel_rfl)) (.cons (.same _ (by kernel_rfl) (by kernel_rfl)) (.nil))))) (.nil))) (by kernel_rfl) trivial, trivial⟩ ?_
    refine AX.ret ?_
    refine fin_wk (Wk.forget [3] [] (s' := ⟨[(3, .v (.bool x5))], []⟩) (by kernel_rfl)) ?_
    have hr := Option.some.inj h
    subst hr
    exact ⟨_, Wk.refl _, .inr rfl, ⟨[], by kernel_rfl, trivial, [.v (.bool x5)], by kernel_rfl, by kernel_rfl⟩⟩
  · replace h := cd_f b1 h
    refine AX.reg (its := [.auto {}, .auto {}, .auto { y := some (.v (.bool false)) }]) [3] [] (s1 := ⟨[(3, .v (.bool false))], []⟩) (C := ((True) ∧ ((.v (.bool (!(decide (p3 = p1) && (decide (p4 = p2) && true)))) : AV) = (.v (.bool false) : AV))) ∧ True) (by kernel_rfl) ⟨⟨trivial, (congrArg (fun z => AV.v (.bool z)) b1)⟩, trivial⟩ trivial ?_
    refine AX.ret ?_
    refine fin_wk (Wk.forget [3] [] (s' := ⟨[(3, .v (.bool false))], []⟩) (by kernel_rfl)) ?_
    have hr := Option.some.inj h
    subst hr
    exact ⟨_, Wk.refl _, .inr rfl, ⟨[], by kernel_rfl, trivial, [.v (.bool false)], by kernel_rfl, by kernel_rfl⟩⟩

theorem s_slices_IndexFunc_ii_GreatestArms_3_l_L1 (p1 : List (Int × Int)) (p2 : Int) (p3 : Int) (n : Nat) (g : Int) (out : Int ⊕ Unit) (h : m_slices_IndexFunc_ii_GreatestArms_3_l_L1 p1 p2 p3 n g = some out) :
    AX Try.prog 19 0 (codeAt [1, 0, 1, 1] (bodyOf Try.f147)) ((fun g : Int => (⟨[(0, .bs false 2 (List.map enc_ii p1)), (1, .fn 90 [.bp [.v (.int .i64 p2), .v (.int .i64 p3)] 0]), (7, .v (.int .i64 (p1.length : Int))), (8, .v (.int .i64 g))], []⟩ : S)) g) (fun ex s => (∃ o : Int, out = Sum.inl o ∧ ex = .ret ∧ s = ⟨[(4, .v (.int .i64 o))], []⟩) ∨ (∃ o : Unit, out = Sum.inr o ∧ ex = .exit 0 ∧ s = ⟨[], []⟩)) := by
  refine AX.wkpost ?_
  refine AX.loop (G := Nat × (Int)) (fun q => (fun g : Int => (⟨[(0, .bs false 2 (List.map enc_ii p1)), (1, .fn 90 [.bp [.v (.int .i64 p2), .v (.int .i64 p3)] 0]), (7, .v (.int .i64 (p1.length : Int))), (8, .v (.int .i64 g))], []⟩ : S)) q.2) (fun q => m_slices_IndexFunc_ii_GreatestArms_3_l_L1 p1 p2 p3 q.1 q.2 = some out) (fun q => q.1) (n, g) h (Wk.refl _) ?_
  clear h
  rintro ⟨fu, v4⟩ h
  cases fu with
  | zero => cases h
  | succ fu =>
    rw [m_slices_IndexFunc_ii_GreatestArms_3_l_L1] at h
    refine AX.seq ?_
    refine AX.reg (its := []) [0, 1, 7, 8, 9] [] (s1 := ⟨[(0, .bs false 2 (List.map enc_ii p1)), (1, .fn 90 [.bp [.v (.int .i64 p2), .v (.int .i64 p3)] 0]), (7, .v (.int .i64 (p1.length : Int))), (8, .v (.int .i64 v4)), (9, .v (.bool (decide (v4 < (p1.length : Int)))))], []⟩) (C := True) (by kernel_rfl) trivial trivial ?_
    refine AX.seq ?_
    rcases bool_cases (decide (v4 < (p1.length : Int))) with b1 | b1
    · replace h := cd_t b1 h
      refine AX.condT (decide (v4 < (p1.length : Int))) (by kernel_rfl) b1 ?_
      refine AX.skip ?_
      refine AX.seq ?_
      refine AX.block ?_
      refine AX.seq ?_
      refine AX.reg (its := []) [0, 1, 5, 7, 8] [] (s1 := ⟨[(0, .bs false 2 (List.map enc_ii p1)), (1, .fn 90 [.bp [.v (.int .i64 p2), .v (.int .i64 p3)] 0]), (5, .v (.int .i64 v4)), (7, .v (.int .i64 (p1.length : Int))), (8, .v (.int .i64 v4))], []⟩) (C := True) (by kernel_rfl) trivial trivial ?_
      refine AX.seq ?_
      obtain ⟨g2, h⟩ := gd_e h
      obtain ⟨x5, e3, h⟩ := bd_e h
      refine AX.reg (its := [.auto {}, .auto {}, .auto {}, .auto { y := some (.be 2 (enc_ii (gt p1 v4)) 0) }, .auto {}, .call 90 [.agg [.v (.int .i64 ((gt p1 v4).1)), .v (.int .i64 ((gt p1 v4).2))], .bp [.v (.int .i64 p2), .v (.int .i64 p3)] 0] (handO (rho ([] ++ [])) [] [] ++ []) (callEv [] [] (.v (.bool x5)) [])]) [0, 1, 5, 7, 8, 16] [] (s1 := ⟨[(0, .bs false 2 (List.map enc_ii p1)), (1, .fn 90 [.bp [.v (.int .i64 p2), .v (.int .i64 p3)] 0]), (5, .v (.int .i64 v4)), (7, .v (.int .i64 (p1.length : Int))), (8, .v (.int .i64 v4)), (16, .v (.bool x5))], []⟩) (C := ((0 ≤ v4 ∧ v4 < ((List.map enc_ii p1).length : Int)) ∧ (AV.be 2 ((List.map enc_ii p1).getD v4.toNat []) 0 = AV.be 2 (enc_ii (gt p1 v4)) 0)) ∧ ((([.agg [.v (.int .i64 ((gt p1 v4).1)), .v (.int .i64 ((gt p1 v4).2))], .bp [.v (.int .i64 p2), .v (.int .i64 p3)] 0] : List AV) = [.agg [.v (.int .i64 ((gt p1 v4).1)), .v (.int .i64 ((gt p1 v4).2))], .bp [.v (.int .i64 p2), .v (.int .i64 p3)] 0]) ∧ True) ∧ True) (by kernel_rfl) ⟨idx_bs enc_ii p1 v4 2 g2, ⟨⟨rfl, trivial⟩, trivial⟩⟩ ⟨call_ok (ks := []) (ns := []) (bor := []) (bobjs := []) (s_impl_GreatestArms_3_l ((gt p1 v4).1) ((gt p1 v4).2) p2 p3 x5 e3) (.cons (.c1 (.agg (.cons (.same _ (by kernel_rfl) (by kernel_rfl)) (.cons (.same _ (by kernel_rfl) (by kernel_rfl)) (.nil))))) (.cons (.c1 (.bp (.cons (.same _ (by kernel_rfl) (by kernel_rfl)) (.cons (.same _ (by kernel_rfl) (by kernel_rfl)) (.nil))))) (.nil))) (by kernel_rfl) trivial, trivial⟩ ?_
      rcases bool_cases (x5) with b4 | b4
      · replace h := cd_t b4 h
        refine AX.condT (x5) (by kernel_rfl) b4 ?_
        refine AX.seq ?_
        refine AX.reg (its := []) [4] [] (s1 := ⟨[(4, .v (.int .i64 v4))], []⟩) (C := True) (by kernel_rfl) trivial trivial ?_
        refine AX.ret ?_
        refine fin_wk (Wk.forget [4] [] (s' := ⟨[(4, .v (.int .i64 v4))], []⟩) (by kernel_rfl)) ?_
        have hr := Option.some.inj h
        subst hr
        exact ⟨_, Wk.refl _, .inl ⟨v4, rfl, rfl, rfl⟩⟩
      · replace h := cd_f b4 h
        refine AX.condF (x5) (by kernel_rfl) b4 ?_
        refine AX.skip ?_
        refine AX.reg (its := [.auto { raw := true }]) [0, 1, 7, 8] [] (s1 := ⟨[(0, .bs false 2 (List.map enc_ii p1)), (1, .fn 90 [.bp [.v (.int .i64 p2), .v (.int .i64 p3)] 0]), (7, .v (.int .i64 (p1.length : Int))), (8, .v (.int .i64 (IntKind.wrap .i64 (v4 + 1))))], []⟩) (C := True) (by kernel_rfl) trivial trivial ?_
        refine ⟨(fu, IntKind.wrap .i64 (v4 + 1)), h, Nat.lt_succ_self _, ?_⟩
        refine Wk.trans (Wk.forget [0, 1, 7, 8] [] (s' := ⟨[(0, .bs false 2 (List.map enc_ii p1)), (1, .fn 90 [.bp [.v (.int .i64 p2), .v (.int .i64 p3)] 0]), (7, .v (.int .i64 (p1.length : Int))), (8, .v (.int .i64 (IntKind.wrap .i64 (v4 + 1))))], []⟩) (by kernel_rfl)) ?_
        exact Wk.refl _
    · replace h := cd_f b1 h
      refine AX.condF (decide (v4 < (p1.length : Int))) (by kernel_rfl) b1 ?_
      refine AX.exit ?_
      refine fin_wk (Wk.forget [] [] (s' := ⟨[], []⟩) (by kernel_rfl)) ?_
      have hr := Option.some.inj h
      subst hr
      exact ⟨_, Wk.refl _, .inr ⟨(), rfl, rfl, rfl⟩⟩

theorem s_slices_IndexFunc_ii_GreatestArms_3_l (p1 : List (Int × Int)) (p2 : Int) (p3 : Int) (r : Int) (h : m_slices_IndexFunc_ii_GreatestArms_3_l p1 p2 p3 = some r) :
    Eng.Spec Try.prog 147 [.bs false 2 (List.map enc_ii p1), .fn 90 [.bp [.v (.int .i64 p2), .v (.int .i64 p3)] 0]] [] (.v (.int .i64 r)) [] := by
  unfold m_slices_IndexFunc_ii_GreatestArms_3_l at h
  refine Eng.Spec.body Try.func147 (by kernel_rfl) rfl (by kernel_rfl) ?_
  refine AX.wkpost ?_
  refine AX.seq ?_
  refine AX.reg (its := []) [0, 1] [] (s1 := ⟨[(0, .bs false 2 (List.map enc_ii p1)), (1, .fn 90 [.bp [.v (.int .i64 p2), .v (.int .i64 p3)] 0])], []⟩) (C := True) (by kernel_rfl) trivial trivial ?_
  refine AX.seq ?_
  refine AX.seq ?_
  refine AX.reg (its := [.auto {}, .auto { y := some (.v (.int .i64 (p1.length : Int))) }]) [0, 1, 7, 8] [] (s1 := ⟨[(0, .bs false 2 (List.map enc_ii p1)), (1, .fn 90 [.bp [.v (.int .i64 p2), .v (.int .i64 p3)] 0]), (7, .v (.int .i64 (p1.length : Int))), (8, .v (.int .i64 0))], []⟩) (C := (True ∧ (AV.v (.int .i64 ((List.map enc_ii p1).length : Int)) = AV.v (.int .i64 (p1.length : Int)))) ∧ True) (by kernel_rfl) ⟨⟨trivial, len_map enc_ii p1⟩, trivial⟩ trivial ?_
  refine AX.block ?_
  obtain ⟨x6, e5, h⟩ := bd_e h
  refine AX.wk (Wk.forget [0, 1, 7, 8] [] (s' := ⟨[(0, .bs false 2 (List.map enc_ii p1)), (1, .fn 90 [.bp [.v (.int .i64 p2), .v (.int .i64 p3)] 0]), (7, .v (.int .i64 (p1.length : Int))), (8, .v (.int .i64 0))], []⟩) (by kernel_rfl)) ?_
  refine AX.mono (s_slices_IndexFunc_ii_GreatestArms_3_l_L1 p1 p2 p3 FU 0 x6 e5) ?_
  rintro _ _ (⟨x7, rfl, rfl, rfl⟩ | ⟨x8, rfl, rfl, rfl⟩)
  · replace h := sm_l h
    refine fin_wk (Wk.forget [4] [] (s' := ⟨[(4, .v (.int .i64 x7))], []⟩) (by kernel_rfl)) ?_
    have hr := Option.some.inj h
    subst hr
    exact ⟨_, Wk.refl _, .inr rfl, ⟨[], by kernel_rfl, trivial, [.v (.int .i64 x7)], by kernel_rfl, by kernel_rfl⟩⟩
  · replace h := sm_r h
    refine AX.seq ?_
    refine AX.reg (its := []) [4] [] (s1 := ⟨[(4, .v (.int .i64 (-1)))], []⟩) (C := True) (by kernel_rfl) trivial trivial ?_
    refine AX.ret ?_
    refine fin_wk (Wk.forget [4] [] (s' := ⟨[(4, .v (.int .i64 (-1)))], []⟩) (by kernel_rfl)) ?_
    have hr := Option.some.inj h
    subst hr
    exact ⟨_, Wk.refl _, .inr rfl, ⟨[], by kernel_rfl, trivial, [.v (.int .i64 (-1))], by kernel_rfl, by kernel_rfl⟩⟩

theorem s_slices_ContainsFunc_ii_GreatestArms_3_l (p1 : List (Int × Int)) (p2 : Int) (p3 : Int) (r : Bool) (h : m_slices_ContainsFunc_ii_GreatestArms_3_l p1 p2 p3 = some r) :
    Eng.Spec Try.prog 89 [.bs false 2 (List.map enc_ii p1), .fn 90 [.bp [.v (.int .i64 p2), .v (.int .i64 p3)] 0]] [] (.v (.bool r)) [] := by
  unfold m_slices_ContainsFunc_ii_GreatestArms_3_l at h
  refine Eng.Spec.body Try.func89 (by kernel_rfl) rfl (by kernel_rfl) ?_
  refine AX.wkpost ?_
  refine AX.seq ?_
  refine AX.reg (its := []) [0, 1] [] (s1 := ⟨[(0, .bs false 2 (List.map enc_ii p1)), (1, .fn 90 [.bp [.v (.int .i64 p2), .v (.int .i64 p3)] 0])], []⟩) (C := True) (by kernel_rfl) trivial trivial ?_
  refine AX.seq ?_
  obtain ⟨x4, e1, h⟩ := bd_e h
  refine AX.reg (its := [.auto {}, .auto {}, .call 147 [.bs false 2 (List.map enc_ii p1), .fn 90 [.bp [.v (.int .i64 p2), .v (.int .i64 p3)] 0]] (handO (rho ([] ++ [])) [] [] ++ []) (callEv [] [] (.v (.int .i64 x4)) [])]) [4] [] (s1 := ⟨[(4, .v (.bool (decide (0 ≤ x4))))], []⟩) (C := ((([.bs false 2 (List.map enc_ii p1), .fn 90 [.bp [.v (.int .i64 p2), .v (.int .i64 p3)] 0]] : List AV) = [.bs false 2 (List.map enc_ii p1), .fn 90 [.bp [.v (.int .i64 p2), .v (.int .i64 p3)] 0]]) ∧ True) ∧ True) (by kernel_rfl) ⟨⟨rfl, trivial⟩, trivial⟩ ⟨call_ok (ks := []) (ns := []) (bor := []) (bobjs := []) (s_slices_IndexFunc_ii_GreatestArms_3_l p1 p2 p3 x4 e1) (.cons (.c1 (.c0 (.same _ (by kernel_rfl) (by kernel_rfl)))) (.cons (.fn (.cons (.bp (.cons (.same _ (by kernel_rfl) (by kernel_rfl)) (.cons (.same _ (by kernel_rfl) (by kernel_rfl)) (.nil)))) (.nil))) (.nil))) (by kernel_rfl) trivial, trivial⟩ ?_
  refine AX.ret ?_
  refine fin_wk (Wk.forget [4] [] (s' := ⟨[(4, .v (.bool (decide (0 ≤ x4))))], []⟩) (by kernel_rfl)) ?_
  have hr := Option.some.inj h
  subst hr
  exact ⟨_, Wk.refl _, .inr rfl, ⟨[], by kernel_rfl, trivial, [.v (.bool (decide (0 ≤ x4)))], by kernel_rfl, by kernel_rfl⟩⟩

theorem s_slices_Clip_ii (p1 : List (Int × Int)) (r : Unit) (h : m_slices_Clip_ii p1 = some r) :
    Eng.Spec Try.prog 92 [.bs false 2 (List.map enc_ii p1)] [] (.bs false 2 (List.map enc_ii (sub p1 (0 : Int) (p1.length : Int)))) [] := by
  unfold m_slices_Clip_ii at h
  refine Eng.Spec.body Try.func92 (by kernel_rfl) rfl (by kernel_rfl) ?_
  refine AX.wkpost ?_
  refine AX.seq ?_
  refine AX.reg (its := []) [0] [] (s1 := ⟨[(0, .bs false 2 (List.map enc_ii p1))], []⟩) (C := True) (by kernel_rfl) trivial trivial ?_
  refine AX.seq ?_
  obtain ⟨g1, h⟩ := gd_e h
  refine AX.reg (its := [.auto {}, .auto {}, .auto { y := some (.v (.int .i64 (p1.length : Int))) }, .auto {}, .auto { y := some (.v (.int .i64 (p1.length : Int))) }, .auto { y := some (.bs false 2 (List.map enc_ii (sub p1 (0 : Int) (p1.length : Int)))) }]) [2] [] (s1 := ⟨[(2, .bs false 2 (List.map enc_ii (sub p1 (0 : Int) (p1.length : Int))))], []⟩) (C := (True ∧ (AV.v (.int .i64 ((List.map enc_ii p1).length : Int)) = AV.v (.int .i64 (p1.length : Int)))) ∧ (True ∧ (AV.v (.int .i64 ((List.map enc_ii p1).length : Int)) = AV.v (.int .i64 (p1.length : Int)))) ∧ ((0 ≤ (0 : Int) ∧ (0 : Int) ≤ (p1.length : Int) ∧ (p1.length : Int) ≤ (p1.length : Int) ∧ (p1.length : Int) ≤ ((List.map enc_ii p1).length : Int)) ∧ (AV.bs false 2 (((List.map enc_ii p1).drop (0 : Int).toNat).take ((p1.length : Int).toNat - (0 : Int).toNat)) = (.bs false 2 (List.map enc_ii (sub p1 (0 : Int) (p1.length : Int))) : AV))) ∧ True) (by kernel_rfl) ⟨⟨trivial, len_map enc_ii p1⟩, ⟨⟨trivial, len_map enc_ii p1⟩, ⟨⟨by first | exact g1 | simpa only [List.length_map] using g1, by first | exact sub_can enc_ii p1 (0 : Int) (p1.length : Int) false 2 | (simp only [List.length_map]; exact sub_can enc_ii p1 (0 : Int) (p1.length : Int) false 2)⟩, trivial⟩⟩⟩ trivial ?_
  refine AX.ret ?_
  refine fin_wk (Wk.forget [2] [] (s' := ⟨[(2, .bs false 2 (List.map enc_ii (sub p1 (0 : Int) (p1.length : Int))))], []⟩) (by kernel_rfl)) ?_
  have hr := Option.some.inj h
  subst hr
  exact ⟨_, Wk.refl _, .inr rfl, ⟨[], by kernel_rfl, trivial, [.bs false 2 (List.map enc_ii (sub p1 (0 : Int) (p1.length : Int)))], by kernel_rfl, by kernel_rfl⟩⟩

theorem s_slices_Clip_hii (p1 : List (Int × Int)) (r : Unit) (h : m_slices_Clip_hii p1 = some r) :
    Eng.Spec Try.prog 92 [.sl 0 0 p1.length] [.arr 2 (List.map enc_ii p1)] (.sl 0 0 p1.length) [.arr 2 (List.map enc_ii p1)] := by
  unfold m_slices_Clip_hii at h
  refine Eng.Spec.body Try.func92 (by kernel_rfl) rfl (by kernel_rfl) ?_
  refine AX.wkpost ?_
  refine AX.seq ?_
  refine AX.reg (its := []) [0] [0] (s1 := ⟨[(0, .sl 0 0 p1.length)], [(0, .arr 2 (List.map enc_ii p1))]⟩) (C := True) (by kernel_rfl) trivial trivial ?_
  refine AX.seq ?_
  refine AX.reg (its := [.auto {}, .auto {}, .auto {}, .auto {}, .auto {}, .auto { y := some (.sl 0 0 p1.length) }]) [2] [0] (s1 := ⟨[(2, .sl 0 0 p1.length)], [(0, .arr 2 (List.map enc_ii p1))]⟩) (C := ((0 ≤ (0 : Int) ∧ (0 : Int) ≤ (p1.length : Int) ∧ (p1.length : Int) ≤ (p1.length : Int) ∧ (p1.length : Int) ≤ (p1.length : Int)) ∧ (AV.sl 0 (0 + (0 : Int).toNat) ((p1.length : Int).toNat - (0 : Int).toNat) = AV.sl 0 0 p1.length)) ∧ True) (by kernel_rfl) ⟨⟨⟨by omega, by omega, by omega, by omega⟩, rfl⟩, trivial⟩ trivial ?_
  refine AX.ret ?_
  refine fin_wk (Wk.forget [2] [0] (s' := ⟨[(2, .sl 0 0 p1.length)], [(0, .arr 2 (List.map enc_ii p1))]⟩) (by kernel_rfl)) ?_
  have hr := Option.some.inj h
  subst hr
  exact ⟨_, Wk.refl _, .inr rfl, ⟨[], by kernel_rfl, ⟨rfl, trivial⟩, [.sl 0 0 p1.length], by kernel_rfl, by kernel_rfl⟩⟩

theorem s_impl_GreatestArms_L2 (p1 : List (ByteArray × Int)) (p2 : Int) (p3 : List (Int)) (x9 : List (Int)) (v11 : Int) (n : Nat) (g : (List (Int × Int)) × Int) (out : List (Int × Int)) (h : m_impl_GreatestArms_L2 p1 p2 p3 x9 v11 n g.1 g.2 = some out) :
    AX Try.prog 85 0 (codeAt [1, 1, 1, 1, 0, 1, 1, 1, 1, 1, 0, 1, 1, 1, 1] (bodyOf Try.f14)) ((fun g : (List (Int × Int)) × Int => (⟨[(2, .pt 0 0), (3, .pt 1 0), (5, .sl 2 0 x9.length), (6, .sl 3 0 g.1.length), (8, .v (.int .i64 (gt x9 v11))), (38, .sl 2 0 x9.length), (39, .v (.int .i64 (x9.length : Int))), (40, .v (.int .i64 v11)), (44, .sl 2 0 x9.length), (45, .v (.int .i64 (x9.length : Int))), (46, .v (.int .i64 g.2))], [(0, .box [.bs false 2 (List.map enc_si p1), .v (.int .i64 p2)]), (1, .box [.bs false 1 (List.map enc_i p3)]), (2, .arr 1 (List.map enc_i x9)), (3, .arr 2 (List.map enc_ii g.1))]⟩ : S)) g) (fun ex s => ex = .exit 2 ∧ s = (fun o : List (Int × Int) => (⟨[(2, .pt 0 0), (3, .pt 1 0), (5, .sl 2 0 x9.length), (6, .sl 3 0 o.length), (38, .sl 2 0 x9.length), (39, .v (.int .i64 (x9.length : Int))), (40, .v (.int .i64 v11))], [(0, .box [.bs false 2 (List.map enc_si p1), .v (.int .i64 p2)]), (1, .box [.bs false 1 (List.map enc_i p3)]), (2, .arr 1 (List.map enc_i x9)), (3, .arr 2 (List.map enc_ii o))]⟩ : S)) out) := by
  refine AX.wkpost ?_
  refine AX.loop (G := Nat × ((List (Int × Int)) × Int)) (fun q => (fun g : (List (Int × Int)) × Int => (⟨[(2, .pt 0 0), (3, .pt 1 0), (5, .sl 2 0 x9.length), (6, .sl 3 0 g.1.length), (8, .v (.int .i64 (gt x9 v11))), (38, .sl 2 0 x9.length), (39, .v (.int .i64 (x9.length : Int))), (40, .v (.int .i64 v11)), (44, .sl 2 0 x9.length), (45, .v (.int .i64 (x9.length : Int))), (46, .v (.int .i64 g.2))], [(0, .box [.bs false 2 (List.map enc_si p1), .v (.int .i64 p2)]), (1, .box [.bs false 1 (List.map enc_i p3)]), (2, .arr 1 (List.map enc_i x9)), (3, .arr 2 (List.map enc_ii g.1))]⟩ : S)) q.2) (fun q => m_impl_GreatestArms_L2 p1 p2 p3 x9 v11 q.1 q.2.1 q.2.2 = some out) (fun q => q.1) (n, g) h (Wk.refl _) ?_
  clear h
  rintro ⟨fu, v12, v13⟩ h
  cases fu with
  | zero => cases h
  | succ fu =>
    rw [m_impl_GreatestArms_L2] at h
    refine AX.seq ?_
    refine AX.reg (its := []) [2, 3, 5, 6, 8, 38, 39, 40, 44, 45, 46, 47] [0, 1, 2, 3] (s1 := ⟨[(2, .pt 0 0), (3, .pt 1 0), (5, .sl 2 0 x9.length), (6, .sl 3 0 v12.length), (8, .v (.int .i64 (gt x9 v11))), (38, .sl 2 0 x9.length), (39, .v (.int .i64 (x9.length : Int))), (40, .v (.int .i64 v11)), (44, .sl 2 0 x9.length), (45, .v (.int .i64 (x9.length : Int))), (46, .v (.int .i64 v13)), (47, .v (.bool (decide (v13 < (x9.length : Int)))))], [(0, .box [.bs false 2 (List.map enc_si p1), .v (.int .i64 p2)]), (1, .box [.bs false 1 (List.map enc_i p3)]), (2, .arr 1 (List.map enc_i x9)), (3, .arr 2 (List.map enc_ii v12))]⟩) (C := True) (by kernel_rfl) trivial trivial ?_
    refine AX.seq ?_
    rcases bool_cases (decide (v13 < (x9.length : Int))) with b13 | b13
    · replace h := cd_t b13 h
      refine AX.condT (decide (v13 < (x9.length : Int))) (by kernel_rfl) b13 ?_
      refine AX.skip ?_
      refine AX.seq ?_
      refine AX.block ?_
      refine AX.seq ?_
      obtain ⟨g14, h⟩ := gd_e h
      refine AX.reg (its := [.auto {}, .auto { y := some (.v (.int .i64 (gt x9 v13))) }]) [2, 3, 5, 6, 8, 10, 38, 39, 40, 44, 45, 46] [0, 1, 2, 3] (s1 := ⟨[(2, .pt 0 0), (3, .pt 1 0), (5, .sl 2 0 x9.length), (6, .sl 3 0 v12.length), (8, .v (.int .i64 (gt x9 v11))), (10, .v (.int .i64 (gt x9 v13))), (38, .sl 2 0 x9.length), (39, .v (.int .i64 (x9.length : Int))), (40, .v (.int .i64 v11)), (44, .sl 2 0 x9.length), (45, .v (.int .i64 (x9.length : Int))), (46, .v (.int .i64 v13))], [(0, .box [.bs false 2 (List.map enc_si p1), .v (.int .i64 p2)]), (1, .box [.bs false 1 (List.map enc_i p3)]), (2, .arr 1 (List.map enc_i x9)), (3, .arr 2 (List.map enc_ii v12))]⟩) (C := (0 ≤ v13 ∧ v13 < (x9.length : Int)) ∧ (True ∧ (AV.v (((List.map enc_i x9).getD (0 + v13.toNat) []).getD 0 undef) = .v (.int .i64 (gt x9 v13)))) ∧ True) (by kernel_rfl) ⟨g14, ⟨⟨trivial, (congrArg (fun z : List Value => AV.v (z.getD 0 undef)) (idx_arr (enc := enc_i) rfl g14))⟩, trivial⟩⟩ trivial ?_
      refine AX.seq ?_
      refine AX.reg (its := [.auto {}, .auto {}, .auto {}, .auto { nk := 4 }]) [2, 3, 5, 6, 8, 11, 38, 39, 40, 44, 45, 46] [0, 1, 2, 3, 4] (s1 := ⟨[(2, .pt 0 0), (3, .pt 1 0), (5, .sl 2 0 x9.length), (6, .sl 3 0 v12.length), (8, .v (.int .i64 (gt x9 v11))), (11, .pt 4 0), (38, .sl 2 0 x9.length), (39, .v (.int .i64 (x9.length : Int))), (40, .v (.int .i64 v11)), (44, .sl 2 0 x9.length), (45, .v (.int .i64 (x9.length : Int))), (46, .v (.int .i64 v13))], [(0, .box [.bs false 2 (List.map enc_si p1), .v (.int .i64 p2)]), (1, .box [.bs false 1 (List.map enc_i p3)]), (2, .arr 1 (List.map enc_i x9)), (3, .arr 2 (List.map enc_ii v12)), (4, .box [.v (.int .i64 (gt x9 v11)), .v (.int .i64 (gt x9 v13))])]⟩) (C := True) (by kernel_rfl) trivial trivial ?_
      refine AX.seq ?_
      obtain ⟨x14, e15, h⟩ := bd_e h
      rcases bool_cases (x14) with b16 | b16
      · replace h := cd_t b16 h
        obtain ⟨x15, e17, h⟩ := bd_e h
        refine AX.reg (its := [.auto {}, .auto {}, .call 85 [.agg [.v (.int .i64 (gt x9 v11)), .v (.int .i64 (gt x9 v13))], .agg [.bs false 2 (List.map enc_si p1), .v (.int .i64 p2)]] (handO (rho ([] ++ [])) [] [] ++ []) (callEv [] [] (.v (.bool true)) []), .auto {}, .auto {}, .auto {}, .call 82 [.sl 2 0 x9.length, .fn 86 [.pt 4 0, .pt 1 0]] (handO (rho ([] ++ [])) [] [] ++ [(2, .arr 1 (List.map enc_i x9)), (4, .box [.v (.int .i64 (gt x9 v11)), .v (.int .i64 (gt x9 v13))]), (1, .box [.bs false 1 (List.map enc_i p3)])]) (callEv [] [] (.v (.bool x15)) [])]) [2, 3, 5, 6, 8, 11, 38, 39, 40, 44, 45, 46, 61] [0, 1, 2, 3, 4] (s1 := ⟨[(2, .pt 0 0), (3, .pt 1 0), (5, .sl 2 0 x9.length), (6, .sl 3 0 v12.length), (8, .v (.int .i64 (gt x9 v11))), (11, .pt 4 0), (38, .sl 2 0 x9.length), (39, .v (.int .i64 (x9.length : Int))), (40, .v (.int .i64 v11)), (44, .sl 2 0 x9.length), (45, .v (.int .i64 (x9.length : Int))), (46, .v (.int .i64 v13)), (61, .v (.bool (!x15)))], [(0, .box [.bs false 2 (List.map enc_si p1), .v (.int .i64 p2)]), (1, .box [.bs false 1 (List.map enc_i p3)]), (2, .arr 1 (List.map enc_i x9)), (3, .arr 2 (List.map enc_ii v12)), (4, .box [.v (.int .i64 (gt x9 v11)), .v (.int .i64 (gt x9 v13))])]⟩) (C := ((([.agg [.v (.int .i64 (gt x9 v11)), .v (.int .i64 (gt x9 v13))], .agg [.bs false 2 (List.map enc_si p1), .v (.int .i64 p2)]] : List AV) = [.agg [.v (.int .i64 (gt x9 v11)), .v (.int .i64 (gt x9 v13))], .agg [.bs false 2 (List.map enc_si p1), .v (.int .i64 p2)]]) ∧ True) ∧ ((([.sl 2 0 x9.length, .fn 86 [.pt 4 0, .pt 1 0]] : List AV) = [.sl 2 0 x9.length, .fn 86 [.pt 4 0, .pt 1 0]]) ∧ (AO.arr 1 (List.map enc_i x9) = AO.arr 1 (List.map enc_i x9)) ∧ (AO.box [.v (.int .i64 (gt x9 v11)), .v (.int .i64 (gt x9 v13))] = AO.box [.v (.int .i64 (gt x9 v11)), .v (.int .i64 (gt x9 v13))]) ∧ (AO.box [.bs false 1 (List.map enc_i p3)] = AO.box [.bs false 1 (List.map enc_i p3)]) ∧ True) ∧ True) (by kernel_rfl) ⟨⟨rfl, trivial⟩, ⟨⟨rfl, rfl, rfl, rfl, trivial⟩, trivial⟩⟩ ⟨call_ok (ks := []) (ns := []) (bor := []) (bobjs := []) (show Eng.Spec Try.prog 85 [.agg [.v (.int .i64 (gt x9 v11)), .v (.int .i64 (gt x9 v13))], .agg [.bs false 2 (List.map enc_si p1), .v (.int .i64 p2)]] [] (.v (.bool true)) [] from by have q := s_impl_Arm_ok (gt x9 v11) (gt x9 v13) p1 p2 x14 e15; rw [b16] at q; exact q) (.cons (.c1 (.agg (.cons (.same _ (by kernel_rfl) (by kernel_rfl)) (.cons (.same _ (by kernel_rfl) (by kernel_rfl)) (.nil))))) (.cons (.c1 (.agg (.cons (.same _ (by kernel_rfl) (by kernel_rfl)) (.cons (.same _ (by kernel_rfl) (by kernel_rfl)) (.nil))))) (.nil))) (by kernel_rfl) trivial, ⟨call_ok (ks := []) (ns := []) (bor := [2, 4, 1]) (bobjs := [(2, .arr 1 (List.map enc_i x9)), (4, .box [.v (.int .i64 (gt x9 v11)), .v (.int .i64 (gt x9 v13))]), (1, .box [.bs false 1 (List.map enc_i p3)])]) (s_slices_ContainsFunc_i_GreatestArms_2_lli x9 (gt x9 v11) (gt x9 v13) p3 x15 e17) (.cons (.c1 (.c0 (.arr rfl rfl ((rfl).trans (List.length_map ..).symm)))) (.cons (.fn (.cons (.box rfl rfl (.cons (.same _ (by kernel_rfl) (by kernel_rfl)) (.cons (.same _ (by kernel_rfl) (by kernel_rfl)) (.nil)))) (.cons (.box rfl rfl (.cons (.same _ (by kernel_rfl) (by kernel_rfl)) (.nil))) (.nil)))) (.nil))) (by kernel_rfl) trivial, trivial⟩⟩ ?_
        rcases bool_cases ((!x15)) with b18 | b18
        · replace h := cd_t b18 h
          refine AX.condT ((!x15)) (by kernel_rfl) b18 ?_
          obtain ⟨g19, h⟩ := gd_e h
          refine AX.reg (its := [.auto {}, .auto {}, .auto { nk := 5 }, .auto { y := some (.sl 6 0 ((v12 ++ ([((gt x9 v11), (gt x9 v13))] : List (Int × Int))).length)), els := some (List.map enc_ii v12), els2 := some (List.map enc_ii ([((gt x9 v11), (gt x9 v13))] : List (Int × Int))), nk := 6 }]) [2, 3, 5, 6, 8, 38, 39, 40, 44, 45, 46] [0, 1, 2, 6] (s1 := ⟨[(2, .pt 0 0), (3, .pt 1 0), (5, .sl 2 0 x9.length), (6, .sl 6 0 ((v12 ++ ([((gt x9 v11), (gt x9 v13))] : List (Int × Int))).length)), (8, .v (.int .i64 (gt x9 v11))), (38, .sl 2 0 x9.length), (39, .v (.int .i64 (x9.length : Int))), (40, .v (.int .i64 v11)), (44, .sl 2 0 x9.length), (45, .v (.int .i64 (x9.length : Int))), (46, .v (.int .i64 v13))], [(0, .box [.bs false 2 (List.map enc_si p1), .v (.int .i64 p2)]), (1, .box [.bs false 1 (List.map enc_i p3)]), (2, .arr 1 (List.map enc_i x9)), (6, .arr 2 (List.map enc_ii v12 ++ List.map enc_ii ([((gt x9 v11), (gt x9 v13))] : List (Int × Int))))]⟩) (C := ((((((List.map enc_ii v12).drop 0).take (v12.length) = List.map enc_ii v12) ∧ (((List.map enc_ii ([((gt x9 v11), (gt x9 v13))] : List (Int × Int))).drop 0).take (([((gt x9 v11), (gt x9 v13))] : List (Int × Int)).length) = List.map enc_ii ([((gt x9 v11), (gt x9 v13))] : List (Int × Int)))) ∧ (List.map enc_ii v12).length + (List.map enc_ii ([((gt x9 v11), (gt x9 v13))] : List (Int × Int))).length ≤ 1099511627776) ∧ (AV.sl 6 0 (List.map enc_ii v12 ++ List.map enc_ii ([((gt x9 v11), (gt x9 v13))] : List (Int × Int))).length = AV.sl 6 0 (v12 ++ ([((gt x9 v11), (gt x9 v13))] : List (Int × Int))).length)) ∧ True) (by kernel_rfl) ⟨⟨⟨⟨(dt_all (enc := enc_ii) rfl rfl), (dt_all (enc := enc_ii) rfl rfl)⟩, (by simp only [List.length_map, List.length_nil]; simpa using g19)⟩, sl_len (enc := enc_ii) (app_can (enc := enc_ii) rfl rfl)⟩, trivial⟩ trivial ?_
          refine AX.reg (its := [.auto { raw := true }]) [2, 3, 5, 6, 8, 38, 39, 40, 44, 45, 46] [0, 1, 2, 6] (s1 := ⟨[(2, .pt 0 0), (3, .pt 1 0), (5, .sl 2 0 x9.length), (6, .sl 6 0 ((v12 ++ ([((gt x9 v11), (gt x9 v13))] : List (Int × Int))).length)), (8, .v (.int .i64 (gt x9 v11))), (38, .sl 2 0 x9.length), (39, .v (.int .i64 (x9.length : Int))), (40, .v (.int .i64 v11)), (44, .sl 2 0 x9.length), (45, .v (.int .i64 (x9.length : Int))), (46, .v (.int .i64 (IntKind.wrap .i64 (v13 + 1))))], [(0, .box [.bs false 2 (List.map enc_si p1), .v (.int .i64 p2)]), (1, .box [.bs false 1 (List.map enc_i p3)]), (2, .arr 1 (List.map enc_i x9)), (6, .arr 2 (List.map enc_ii v12 ++ List.map enc_ii ([((gt x9 v11), (gt x9 v13))] : List (Int × Int))))]⟩) (C := True) (by kernel_rfl) trivial trivial ?_
          refine ⟨(fu, (v12 ++ ([((gt x9 v11), (gt x9 v13))] : List (Int × Int)), IntKind.wrap .i64 (v13 + 1))), h, Nat.lt_succ_self _, ?_⟩
          refine Wk.trans (Wk.swap 3 6 (Nat.le_of_ble_eq_true (by kernel_rfl)) (Nat.le_of_ble_eq_true (by kernel_rfl)) rfl) ?_
          refine Wk.trans (Wk.forget [2, 3, 5, 6, 8, 38, 39, 40, 44, 45, 46] [0, 1, 2, 3] (s' := ⟨[(2, .pt 0 0), (3, .pt 1 0), (5, .sl 2 0 x9.length), (6, .sl 3 0 ((v12 ++ ([((gt x9 v11), (gt x9 v13))] : List (Int × Int))).length)), (8, .v (.int .i64 (gt x9 v11))), (38, .sl 2 0 x9.length), (39, .v (.int .i64 (x9.length : Int))), (40, .v (.int .i64 v11)), (44, .sl 2 0 x9.length), (45, .v (.int .i64 (x9.length : Int))), (46, .v (.int .i64 (IntKind.wrap .i64 (v13 + 1))))], [(0, .box [.bs false 2 (List.map enc_si p1), .v (.int .i64 p2)]), (1, .box [.bs false 1 (List.map enc_i p3)]), (2, .arr 1 (List.map enc_i x9)), (3, .arr 2 (List.map enc_ii v12 ++ List.map enc_ii ([((gt x9 v11), (gt x9 v13))] : List (Int × Int))))]⟩) (by kernel_rfl)) ?_
          refine Wk.trans (Wk.of_eq (congrArg (fun z => (⟨[(2, .pt 0 0), (3, .pt 1 0), (5, .sl 2 0 x9.length), (6, .sl 3 0 ((v12 ++ ([((gt x9 v11), (gt x9 v13))] : List (Int × Int))).length)), (8, .v (.int .i64 (gt x9 v11))), (38, .sl 2 0 x9.length), (39, .v (.int .i64 (x9.length : Int))), (40, .v (.int .i64 v11)), (44, .sl 2 0 x9.length), (45, .v (.int .i64 (x9.length : Int))), (46, .v (.int .i64 (IntKind.wrap .i64 (v13 + 1))))], [(0, .box [.bs false 2 (List.map enc_si p1), .v (.int .i64 p2)]), (1, .box [.bs false 1 (List.map enc_i p3)]), (2, .arr 1 (List.map enc_i x9)), (3, .arr 2 (z))]⟩ : S)) (app_can (enc := enc_ii) rfl rfl : List.map enc_ii v12 ++ List.map enc_ii ([((gt x9 v11), (gt x9 v13))] : List (Int × Int)) = List.map enc_ii (v12 ++ ([((gt x9 v11), (gt x9 v13))] : List (Int × Int)))))) ?_
          exact Wk.refl _
        · replace h := cd_f b18 h
          refine AX.condF ((!x15)) (by kernel_rfl) b18 ?_
          refine AX.skip ?_
          refine AX.reg (its := [.auto { raw := true }]) [2, 3, 5, 6, 8, 38, 39, 40, 44, 45, 46] [0, 1, 2, 3] (s1 := ⟨[(2, .pt 0 0), (3, .pt 1 0), (5, .sl 2 0 x9.length), (6, .sl 3 0 v12.length), (8, .v (.int .i64 (gt x9 v11))), (38, .sl 2 0 x9.length), (39, .v (.int .i64 (x9.length : Int))), (40, .v (.int .i64 v11)), (44, .sl 2 0 x9.length), (45, .v (.int .i64 (x9.length : Int))), (46, .v (.int .i64 (IntKind.wrap .i64 (v13 + 1))))], [(0, .box [.bs false 2 (List.map enc_si p1), .v (.int .i64 p2)]), (1, .box [.bs false 1 (List.map enc_i p3)]), (2, .arr 1 (List.map enc_i x9)), (3, .arr 2 (List.map enc_ii v12))]⟩) (C := True) (by kernel_rfl) trivial trivial ?_
          refine ⟨(fu, (v12, IntKind.wrap .i64 (v13 + 1))), h, Nat.lt_succ_self _, ?_⟩
          refine Wk.trans (Wk.forget [2, 3, 5, 6, 8, 38, 39, 40, 44, 45, 46] [0, 1, 2, 3] (s' := ⟨[(2, .pt 0 0), (3, .pt 1 0), (5, .sl 2 0 x9.length), (6, .sl 3 0 v12.length), (8, .v (.int .i64 (gt x9 v11))), (38, .sl 2 0 x9.length), (39, .v (.int .i64 (x9.length : Int))), (40, .v (.int .i64 v11)), (44, .sl 2 0 x9.length), (45, .v (.int .i64 (x9.length : Int))), (46, .v (.int .i64 (IntKind.wrap .i64 (v13 + 1))))], [(0, .box [.bs false 2 (List.map enc_si p1), .v (.int .i64 p2)]), (1, .box [.bs false 1 (List.map enc_i p3)]), (2, .arr 1 (List.map enc_i x9)), (3, .arr 2 (List.map enc_ii v12))]⟩) (by kernel_rfl)) ?_
          exact Wk.refl _
      · replace h := cd_f b16 h
        refine AX.reg (its := [.auto {}, .auto {}, .call 85 [.agg [.v (.int .i64 (gt x9 v11)), .v (.int .i64 (gt x9 v13))], .agg [.bs false 2 (List.map enc_si p1), .v (.int .i64 p2)]] (handO (rho ([] ++ [])) [] [] ++ []) (callEv [] [] (.v (.bool false)) [])]) [2, 3, 5, 6, 8, 11, 38, 39, 40, 44, 45, 46, 61] [0, 1, 2, 3, 4] (s1 := ⟨[(2, .pt 0 0), (3, .pt 1 0), (5, .sl 2 0 x9.length), (6, .sl 3 0 v12.length), (8, .v (.int .i64 (gt x9 v11))), (11, .pt 4 0), (38, .sl 2 0 x9.length), (39, .v (.int .i64 (x9.length : Int))), (40, .v (.int .i64 v11)), (44, .sl 2 0 x9.length), (45, .v (.int .i64 (x9.length : Int))), (46, .v (.int .i64 v13)), (61, .v (.bool false))], [(0, .box [.bs false 2 (List.map enc_si p1), .v (.int .i64 p2)]), (1, .box [.bs false 1 (List.map enc_i p3)]), (2, .arr 1 (List.map enc_i x9)), (3, .arr 2 (List.map enc_ii v12)), (4, .box [.v (.int .i64 (gt x9 v11)), .v (.int .i64 (gt x9 v13))])]⟩) (C := ((([.agg [.v (.int .i64 (gt x9 v11)), .v (.int .i64 (gt x9 v13))], .agg [.bs false 2 (List.map enc_si p1), .v (.int .i64 p2)]] : List AV) = [.agg [.v (.int .i64 (gt x9 v11)), .v (.int .i64 (gt x9 v13))], .agg [.bs false 2 (List.map enc_si p1), .v (.int .i64 p2)]]) ∧ True) ∧ True) (by kernel_rfl) ⟨⟨rfl, trivial⟩, trivial⟩ ⟨call_ok (ks := []) (ns := []) (bor := []) (bobjs := []) (show Eng.Spec Try.prog 85 [.agg [.v (.int .i64 (gt x9 v11)), .v (.int .i64 (gt x9 v13))], .agg [.bs false 2 (List.map enc_si p1), .v (.int .i64 p2)]] [] (.v (.bool false)) [] from by have q := s_impl_Arm_ok (gt x9 v11) (gt x9 v13) p1 p2 x14 e15; rw [b16] at q; exact q) (.cons (.c1 (.agg (.cons (.same _ (by kernel_rfl) (by kernel_rfl)) (.cons (.same _ (by kernel_rfl) (by kernel_rfl)) (.nil))))) (.cons (.c1 (.agg (.cons (.same _ (by kernel_rfl) (by kernel_rfl)) (.cons (.same _ (by kernel_rfl) (by kernel_rfl)) (.nil))))) (.nil))) (by kernel_rfl) trivial, trivial⟩ ?_
        refine AX.cond_false (by kernel_rfl) ?_
        refine AX.skip ?_
        refine AX.reg (its := [.auto { raw := true }]) [2, 3, 5, 6, 8, 38, 39, 40, 44, 45, 46] [0, 1, 2, 3] (s1 := ⟨[(2, .pt 0 0), (3, .pt 1 0), (5, .sl 2 0 x9.length), (6, .sl 3 0 v12.length), (8, .v (.int .i64 (gt x9 v11))), (38, .sl 2 0 x9.length), (39, .v (.int .i64 (x9.length : Int))), (40, .v (.int .i64 v11)), (44, .sl 2 0 x9.length), (45, .v (.int .i64 (x9.length : Int))), (46, .v (.int .i64 (IntKind.wrap .i64 (v13 + 1))))], [(0, .box [.bs false 2 (List.map enc_si p1), .v (.int .i64 p2)]), (1, .box [.bs false 1 (List.map enc_i p3)]), (2, .arr 1 (List.map enc_i x9)), (3, .arr 2 (List.map enc_ii v12))]⟩) (C := True) (by kernel_rfl) trivial trivial ?_
        refine ⟨(fu, (v12, IntKind.wrap .i64 (v13 + 1))), h, Nat.lt_succ_self _, ?_⟩
        refine Wk.trans (Wk.forget [2, 3, 5, 6, 8, 38, 39, 40, 44, 45, 46] [0, 1, 2, 3] (s' := ⟨[(2, .pt 0 0), (3, .pt 1 0), (5, .sl 2 0 x9.length), (6, .sl 3 0 v12.length), (8, .v (.int .i64 (gt x9 v11))), (38, .sl 2 0 x9.length), (39, .v (.int .i64 (x9.length : Int))), (40, .v (.int .i64 v11)), (44, .sl 2 0 x9.length), (45, .v (.int .i64 (x9.length : Int))), (46, .v (.int .i64 (IntKind.wrap .i64 (v13 + 1))))], [(0, .box [.bs false 2 (List.map enc_si p1), .v (.int .i64 p2)]), (1, .box [.bs false 1 (List.map enc_i p3)]), (2, .arr 1 (List.map enc_i x9)), (3, .arr 2 (List.map enc_ii v12))]⟩) (by kernel_rfl)) ?_
        exact Wk.refl _
    · replace h := cd_f b13 h
      refine AX.condF (decide (v13 < (x9.length : Int))) (by kernel_rfl) b13 ?_
      refine AX.exit ?_
      refine fin_wk (Wk.forget [2, 3, 5, 6, 38, 39, 40] [0, 1, 2, 3] (s' := ⟨[(2, .pt 0 0), (3, .pt 1 0), (5, .sl 2 0 x9.length), (6, .sl 3 0 v12.length), (38, .sl 2 0 x9.length), (39, .v (.int .i64 (x9.length : Int))), (40, .v (.int .i64 v11))], [(0, .box [.bs false 2 (List.map enc_si p1), .v (.int .i64 p2)]), (1, .box [.bs false 1 (List.map enc_i p3)]), (2, .arr 1 (List.map enc_i x9)), (3, .arr 2 (List.map enc_ii v12))]⟩) (by kernel_rfl)) ?_
      have hr := Option.some.inj h
      subst hr
      exact ⟨_, Wk.refl _, ⟨rfl, rfl⟩⟩

end Go.Eng
