/- What is proved here: each function keeps to its model, whatever its arguments, wherever the model has an answer. Printed by gen.py. -/
import Derived.Test.YtehcdfddbnhniaaCGreatestArmsWalk2
import Derived.Test.YtehcdfddbnhniaaProg
import Derived.KernelRfl
set_option linter.unusedVariables false
namespace Go.Eng
open Go Go.Proofs


theorem s_slices_IndexFunc_i_GreatestArms_2_lli (p1 : List (Int)) (p2 : Int) (p3 : Int) (p4 : List (Int)) (r : Int) (h : m_slices_IndexFunc_i_GreatestArms_2_lli p1 p2 p3 p4 = some r) :
    Eng.Spec Try.prog 145 [.bs false 1 (List.map enc_i p1), .fn 86 [.bp [.v (.int .i64 p2), .v (.int .i64 p3)] 0, .bp [.bs false 1 (List.map enc_i p4)] 0]] [] (.v (.int .i64 r)) [] := by
  unfold m_slices_IndexFunc_i_GreatestArms_2_lli at h
  refine Eng.Spec.body Try.func145 (by kernel_rfl) rfl (by kernel_rfl) ?_
  refine AX.wkpost ?_
  refine AX.seq ?_
  refine AX.reg (its := []) [0, 1] [] (s1 := ⟨[(0, .bs false 1 (List.map enc_i p1)), (1, .fn 86 [.bp [.v (.int .i64 p2), .v (.int .i64 p3)] 0, .bp [.bs false 1 (List.map enc_i p4)] 0])], []⟩) (C := True) (by kernel_rfl) trivial trivial ?_
  refine AX.seq ?_
  refine AX.seq ?_
  refine AX.reg (its := [.auto {}, .auto { y := some (.v (.int .i64 (p1.length : Int))) }]) [0, 1, 7, 8] [] (s1 := ⟨[(0, .bs false 1 (List.map enc_i p1)), (1, .fn 86 [.bp [.v (.int .i64 p2), .v (.int .i64 p3)] 0, .bp [.bs false 1 (List.map enc_i p4)] 0]), (7, .v (.int .i64 (p1.length : Int))), (8, .v (.int .i64 0))], []⟩) (C := (True ∧ (AV.v (.int .i64 ((List.map enc_i p1).length : Int)) = AV.v (.int .i64 (p1.length : Int)))) ∧ True) (by kernel_rfl) ⟨⟨trivial, len_map enc_i p1⟩, trivial⟩ trivial ?_
  refine AX.block ?_
  obtain ⟨x7, e5, h⟩ := bd_e h
  refine AX.wk (Wk.forget [0, 1, 7, 8] [] (s' := ⟨[(0, .bs false 1 (List.map enc_i p1)), (1, .fn 86 [.bp [.v (.int .i64 p2), .v (.int .i64 p3)] 0, .bp [.bs false 1 (List.map enc_i p4)] 0]), (7, .v (.int .i64 (p1.length : Int))), (8, .v (.int .i64 0))], []⟩) (by kernel_rfl)) ?_
  refine AX.mono (s_slices_IndexFunc_i_GreatestArms_2_lli_L1 p1 p2 p3 p4 FU 0 x7 e5) ?_
  rintro _ _ (⟨x8, rfl, rfl, rfl⟩ | ⟨x9, rfl, rfl, rfl⟩)
  · replace h := sm_l h
    refine fin_wk (Wk.forget [4] [] (s' := ⟨[(4, .v (.int .i64 x8))], []⟩) (by kernel_rfl)) ?_
    have hr := Option.some.inj h
    subst hr
    exact ⟨_, Wk.refl _, .inr rfl, ⟨[], by kernel_rfl, trivial, [.v (.int .i64 x8)], by kernel_rfl, by kernel_rfl⟩⟩
  · replace h := sm_r h
    refine AX.seq ?_
    refine AX.reg (its := []) [4] [] (s1 := ⟨[(4, .v (.int .i64 (-1)))], []⟩) (C := True) (by kernel_rfl) trivial trivial ?_
    refine AX.ret ?_
    refine fin_wk (Wk.forget [4] [] (s' := ⟨[(4, .v (.int .i64 (-1)))], []⟩) (by kernel_rfl)) ?_
    have hr := Option.some.inj h
    subst hr
    exact ⟨_, Wk.refl _, .inr rfl, ⟨[], by kernel_rfl, trivial, [.v (.int .i64 (-1))], by kernel_rfl, by kernel_rfl⟩⟩

theorem s_slices_ContainsFunc_i_GreatestArms_2_lli (p1 : List (Int)) (p2 : Int) (p3 : Int) (p4 : List (Int)) (r : Bool) (h : m_slices_ContainsFunc_i_GreatestArms_2_lli p1 p2 p3 p4 = some r) :
    Eng.Spec Try.prog 82 [.bs false 1 (List.map enc_i p1), .fn 86 [.bp [.v (.int .i64 p2), .v (.int .i64 p3)] 0, .bp [.bs false 1 (List.map enc_i p4)] 0]] [] (.v (.bool r)) [] := by
  unfold m_slices_ContainsFunc_i_GreatestArms_2_lli at h
  refine Eng.Spec.body Try.func82 (by kernel_rfl) rfl (by kernel_rfl) ?_
  refine AX.wkpost ?_
  refine AX.seq ?_
  refine AX.reg (its := []) [0, 1] [] (s1 := ⟨[(0, .bs false 1 (List.map enc_i p1)), (1, .fn 86 [.bp [.v (.int .i64 p2), .v (.int .i64 p3)] 0, .bp [.bs false 1 (List.map enc_i p4)] 0])], []⟩) (C := True) (by kernel_rfl) trivial trivial ?_
  refine AX.seq ?_
  obtain ⟨x5, e1, h⟩ := bd_e h
  refine AX.reg (its := [.auto {}, .auto {}, .call 145 [.bs false 1 (List.map enc_i p1), .fn 86 [.bp [.v (.int .i64 p2), .v (.int .i64 p3)] 0, .bp [.bs false 1 (List.map enc_i p4)] 0]] (handO (rho ([] ++ [])) [] [] ++ []) (callEv [] [] (.v (.int .i64 x5)) [])]) [4] [] (s1 := ⟨[(4, .v (.bool (decide (0 ≤ x5))))], []⟩) (C := ((([.bs false 1 (List.map enc_i p1), .fn 86 [.bp [.v (.int .i64 p2), .v (.int .i64 p3)] 0, .bp [.bs false 1 (List.map enc_i p4)] 0]] : List AV) = [.bs false 1 (List.map enc_i p1), .fn 86 [.bp [.v (.int .i64 p2), .v (.int .i64 p3)] 0, .bp [.bs false 1 (List.map enc_i p4)] 0]]) ∧ True) ∧ True) (by kernel_rfl) ⟨⟨rfl, trivial⟩, trivial⟩ ⟨call_ok (ks := []) (ns := []) (bor := []) (bobjs := []) (s_slices_IndexFunc_i_GreatestArms_2_lli p1 p2 p3 p4 x5 e1) (.cons (.c1 (.c0 (.same _ (by kernel_rfl) (by kernel_rfl)))) (.cons (.fn (.cons (.bp (.cons (.same _ (by kernel_rfl) (by kernel_rfl)) (.cons (.same _ (by kernel_rfl) (by kernel_rfl)) (.nil)))) (.cons (.bp (.cons (.same _ (by kernel_rfl) (by kernel_rfl)) (.nil))) (.nil)))) (.nil))) (by kernel_rfl) trivial, trivial⟩ ?_
  refine AX.ret ?_
  refine fin_wk (Wk.forget [4] [] (s' := ⟨[(4, .v (.bool (decide (0 ≤ x5))))], []⟩) (by kernel_rfl)) ?_
  have hr := Option.some.inj h
  subst hr
  exact ⟨_, Wk.refl _, .inr rfl, ⟨[], by kernel_rfl, trivial, [.v (.bool (decide (0 ≤ x5)))], by kernel_rfl, by kernel_rfl⟩⟩

theorem s_impl_Arm_covers (p1 : Int) (p2 : Int) (p3 : Int) (p4 : Int) (r : Bool) (h : m_impl_Arm_covers p1 p2 p3 p4 = some r) :
    Eng.Spec Try.prog 91 [.agg [.v (.int .i64 p1), .v (.int .i64 p2)], .agg [.v (.int .i64 p3), .v (.int .i64 p4)]] [] (.v (.bool r)) [] := by
  unfold m_impl_Arm_covers at h
  refine Eng.Spec.body Try.func91 (by kernel_rfl) rfl (by kernel_rfl) ?_
  refine AX.wkpost ?_
  refine AX.seq ?_
  refine AX.reg (its := [.auto { nk := 0 }, .auto { nk := 1 }]) [2, 3] [0, 1] (s1 := ⟨[(2, .pt 0 0), (3, .pt 1 0)], [(0, .box [.v (.int .i64 p1), .v (.int .i64 p2)]), (1, .box [.v (.int .i64 p3), .v (.int .i64 p4)])]⟩) (C := True) (by kernel_rfl) trivial trivial ?_
  refine AX.seq ?_
  rcases bool_cases (decide ((Go.bits .andNot .i64 p1 p3) = 0)) with b1 | b1
  · replace h := cd_t b1 h
    refine AX.reg (its := [.auto {}, .auto {}, .auto {}, .auto {}, .auto {}, .auto { y := some (.v (.bool true)) }]) [4] [] (s1 := ⟨[(4, .v (.bool (decide ((Go.bits .andNot .i64 p2 p4) = 0))))], []⟩) (C := ((True) ∧ ((.v (.bool (decide ((Go.bits .andNot .i64 p1 p3) = 0))) : AV) = (.v (.bool true) : AV))) ∧ True) (by kernel_rfl) ⟨⟨trivial, (congrArg (fun z => AV.v (.bool z)) b1)⟩, trivial⟩ trivial ?_
    refine AX.ret ?_
    refine fin_wk (Wk.forget [4] [] (s' := ⟨[(4, .v (.bool (decide ((Go.bits .andNot .i64 p2 p4) = 0))))], []⟩) (by kernel_rfl)) ?_
    have hr := Option.some.inj h
    subst hr
    exact ⟨_, Wk.refl _, .inr rfl, ⟨[], by kernel_rfl, trivial, [.v (.bool (decide ((Go.bits .andNot .i64 p2 p4) = 0)))], by kernel_rfl, by kernel_rfl⟩⟩
  · replace h := cd_f b1 h
    refine AX.reg (its := [.auto {}, .auto {}, .auto {}, .auto {}, .auto {}, .auto { y := some (.v (.bool false)) }]) [4] [] (s1 := ⟨[(4, .v (.bool false))], []⟩) (C := ((True) ∧ ((.v (.bool (decide ((Go.bits .andNot .i64 p1 p3) = 0))) : AV) = (.v (.bool false) : AV))) ∧ True) (by kernel_rfl) ⟨⟨trivial, (congrArg (fun z => AV.v (.bool z)) b1)⟩, trivial⟩ trivial ?_
    refine AX.ret ?_
    refine fin_wk (Wk.forget [4] [] (s' := ⟨[(4, .v (.bool false))], []⟩) (by kernel_rfl)) ?_
    have hr := Option.some.inj h
    subst hr
    exact ⟨_, Wk.refl _, .inr rfl, ⟨[], by kernel_rfl, trivial, [.v (.bool false)], by kernel_rfl, by kernel_rfl⟩⟩

theorem s_impl_GreatestArms_3_l (p1 : Int) (p2 : Int) (p3 : Int) (p4 : Int) (r : Bool) (h : m_impl_GreatestArms_3_l p1 p2 p3 p4 = some r) :
    Eng.Spec Try.prog 90 [.agg [.v (.int .i64 p1), .v (.int .i64 p2)], .bp [.v (.int .i64 p3), .v (.int .i64 p4)] 0] [] (.v (.bool r)) [] := by
  unfold m_impl_GreatestArms_3_l at h
  refine Eng.Spec.body Try.func90 (by kernel_rfl) rfl (by kernel_rfl) ?_
  refine AX.wkpost ?_
  refine AX.seq ?_
  refine AX.reg (its := [.auto { nk := 0 }]) [1, 2] [0] (s1 := ⟨[(1, .bp [.v (.int .i64 p3), .v (.int .i64 p4)] 0), (2, .pt 0 0)], [(0, .box [.v (.int .i64 p1), .v (.int .i64 p2)])]⟩) (C := True) (by kernel_rfl) trivial trivial ?_
  refine AX.seq ?_
  rcases bool_cases ((!(decide (p3 = p1) && (decide (p4 = p2) && true)))) with b1 | b1
  · replace h := cd_t b1 h
    obtain ⟨x5, e2, h⟩ := bd_e h
    refine AX.reg (its := [.auto {}, .auto {}, .auto { y := some (.v (.bool true)) }, .auto {}, .auto {}, .auto {}, .call 91 [.agg [.v (.int .i64 p1), .v (.int .i64 p2)], .agg [.v (.int .i64 p3), .v (.int .i64 p4)]] (handO (rho ([] ++ [])) [] [] ++ []) (callEv [] [] (.v (.bool x5)) [])]) [3] [] (s1 := ⟨[(3, .v (.bool x5))], []⟩) (C := ((True) ∧ ((.v (.bool (!(decide (p3 = p1) && (decide (p4 = p2) && true)))) : AV) = (.v (.bool true) : AV))) ∧ ((([.agg [.v (.int .i64 p1), .v (.int .i64 p2)], .agg [.v (.int .i64 p3), .v (.int .i64 p4)]] : List AV) = [.agg [.v (.int .i64 p1), .v (.int .i64 p2)], .agg [.v (.int .i64 p3), .v (.int .i64 p4)]]) ∧ True) ∧ True) (by kernel_rfl) ⟨⟨trivial, (congrArg (fun z => AV.v (.bool z)) b1)⟩, ⟨⟨rfl, trivial⟩, trivial⟩⟩ ⟨call_ok (ks := []) (ns := []) (bor := []) (bobjs := []) (s_impl_Arm_covers p1 p2 p3 p4 x5 e2) (.cons (.c1 (.agg (.cons (.same _ (by kernel_rfl) (by kernel_rfl)) (.cons (.same _ (by kernel_rfl) (by kernel_rfl)) (.nil))))) (.cons (.c1 (.agg (.cons (.same _ (by kernel_rfl) (by kernel_rfl)) (.cons (.same _ (by kernel_rfl) (by kernel_rfl)) (.nil))))) (.nil))) (by kernel_rfl) trivial, trivial⟩ ?_
    refine AX.ret ?_
    refine fin_wk (Wk.forget [3] [] (s' := ⟨[(3, .v (.bool x5))], []⟩) (by kernel_rfl)) ?_
    have hr := Option.some.inj h
    subst hr
    exact ⟨_, Wk.refl _, .inr rfl, ⟨[], by kernel_rfl, trivial, [.v (.bool x5)], by kernel_rfl, by kernel_rfl⟩⟩
  · replace h := cd_f b1 h
    refine AX.reg (its := [.auto {}, .auto {}, .auto { y := some (.v (.bool false)) }]) [3] [] (s1 := ⟨[(3, .v (.bool false))], []⟩) (C := ((True) ∧ ((.v (.bool (!(decide (p3 = p1) && (decide (p4 = p2) && true)))) : AV) = (.v (.bool false) : AV))) ∧ True) (by kernel_rfl) ⟨⟨trivial, (congrArg (fun z => AV.v (.bool z)) b1)⟩, trivial⟩ trivial ?_
    refine AX.ret ?_
    refine fin_wk (Wk.forget [3] [] (s' := ⟨[(3, .v (.bool false))], []⟩) (by kernel_rfl)) ?_
    have hr := Option.some.inj h
    subst hr
    exact ⟨_, Wk.refl _, .inr rfl, ⟨[], by kernel_rfl, trivial, [.v (.bool false)], by kernel_rfl, by kernel_rfl⟩⟩

theorem s_slices_IndexFunc_ii_GreatestArms_3_l_L1 (p1 : List (Int × Int)) (p2 : Int) (p3 : Int) (n : Nat) (g : Int) (out : Int ⊕ Unit) (h : m_slices_IndexFunc_ii_GreatestArms_3_l_L1 p1 p2 p3 n g = some out) :
    AX Try.prog 19 0 (codeAt [1, 0, 1, 1] (bodyOf Try.f147)) ((fun g : Int => (⟨[(0, .bs false 2 (List.map enc_ii p1)), (1, .fn 90 [.bp [.v (.int .i64 p2), .v (.int .i64 p3)] 0]), (7, .v (.int .i64 (p1.length : Int))), (8, .v (.int .i64 g))], []⟩ : S)) g) (fun ex s => (∃ o : Int, out = Sum.inl o ∧ ex = .ret ∧ s = ⟨[(4, .v (.int .i64 o))], []⟩) ∨ (∃ o : Unit, out = Sum.inr o ∧ ex = .exit 0 ∧ s = ⟨[], []⟩)) := by
  refine AX.wkpost ?_
  refine AX.loop (G := Nat × (Int)) (fun q => (fun g : Int => (⟨[(0, .bs false 2 (List.map enc_ii p1)), (1, .fn 90 [.bp [.v (.int .i64 p2), .v (.int .i64 p3)] 0]), (7, .v (.int .i64 (p1.length : Int))), (8, .v (.int .i64 g))], []⟩ : S)) q.2) (fun q => m_slices_IndexFunc_ii_GreatestArms_3_l_L1 p1 p2 p3 q.1 q.2 = some out) (fun q => q.1) (n, g) h (Wk.refl _) ?_
  clear h
  rintro ⟨fu, v4⟩ h
  cases fu with
  | zero => cases h
  | succ fu =>
    rw [m_slices_IndexFunc_ii_GreatestArms_3_l_L1] at h
    refine AX.seq ?_
    refine AX.reg (its := []) [0, 1, 7, 8, 9] [] (s1 := ⟨[(0, .bs false 2 (List.map enc_ii p1)), (1, .fn 90 [.bp [.v (.int .i64 p2), .v (.int .i64 p3)] 0]), (7, .v (.int .i64 (p1.length : Int))), (8, .v (.int .i64 v4)), (9, .v (.bool (decide (v4 < (p1.length : Int)))))], []⟩) (C := True) (by kernel_rfl) trivial trivial ?_
    refine AX.seq ?_
    rcases bool_cases (decide (v4 < (p1.length : Int))) with b1 | b1
    · replace h := cd_t b1 h
      refine AX.condT (decide (v4 < (p1.length : Int))) (by kernel_rfl) b1 ?_
      refine AX.skip ?_
      refine AX.seq ?_
      refine AX.block ?_
      refine AX.seq ?_
      refine AX.reg (its := []) [0, 1, 5, 7, 8] [] (s1 := ⟨[(0, .bs false 2 (List.map enc_ii p1)), (1, .fn 90 [.bp [.v (.int .i64 p2), .v (.int .i64 p3)] 0]), (5, .v (.int .i64 v4)), (7, .v (.int .i64 (p1.length : Int))), (8, .v (.int .i64 v4))], []⟩) (C := True) (by kernel_rfl) trivial trivial ?_
      refine AX.seq ?_
      obtain ⟨g2, h⟩ := gd_e h
      obtain ⟨x5, e3, h⟩ := bd_e h
      refine AX.reg (its := [.auto {}, .auto {}, .auto {}, .auto { y := some (.be 2 (enc_ii (gt p1 v4)) 0) }, .auto {}, .call 90 [.agg [.v (.int .i64 ((gt p1 v4).1)), .v (.int .i64 ((gt p1 v4).2))], .bp [.v (.int .i64 p2), .v (.int .i64 p3)] 0] (handO (rho ([] ++ [])) [] [] ++ []) (callEv [] [] (.v (.bool x5)) [])]) [0, 1, 5, 7, 8, 16] [] (s1 := ⟨[(0, .bs false 2 (List.map enc_ii p1)), (1, .fn 90 [.bp [.v (.int .i64 p2), .v (.int .i64 p3)] 0]), (5, .v (.int .i64 v4)), (7, .v (.int .i64 (p1.length : Int))), (8, .v (.int .i64 v4)), (16, .v (.bool x5))], []⟩) (C := ((0 ≤ v4 ∧ v4 < ((List.map enc_ii p1).length : Int)) ∧ (AV.be 2 ((List.map enc_ii p1).getD v4.toNat []) 0 = AV.be 2 (enc_ii (gt p1 v4)) 0)) ∧ ((([.agg [.v (.int .i64 ((gt p1 v4).1)), .v (.int .i64 ((gt p1 v4).2))], .bp [.v (.int .i64 p2), .v (.int .i64 p3)] 0] : List AV) = [.agg [.v (.int .i64 ((gt p1 v4).1)), .v (.int .i64 ((gt p1 v4).2))], .bp [.v (.int .i64 p2), .v (.int .i64 p3)] 0]) ∧ True) ∧ True) (by kernel_rfl) ⟨idx_bs enc_ii p1 v4 2 g2, ⟨⟨rfl, trivial⟩, trivial⟩⟩ ⟨call_ok (ks := []) (ns := []) (bor := []) (bobjs := []) (s_impl_GreatestArms_3_l ((gt p1 v4).1) ((gt p1 v4).2) p2 p3 x5 e3) (.cons (.c1 (.agg (.cons (.same _ (by kernel_rfl) (by kernel_rfl)) (.cons (.same _ (by kernel_rfl) (by kernel_rfl)) (.nil))))) (.cons (.c1 (.bp (.cons (.same _ (by kernel_rfl) (by kernel_rfl)) (.cons (.same _ (by kernel_rfl) (by kernel_rfl)) (.nil))))) (.nil))) (by kernel_rfl) trivial, trivial⟩ ?_
      rcases bool_cases (x5) with b4 | b4
      · replace h := cd_t b4 h
        refine AX.condT (x5) (by kernel_rfl) b4 ?_
        refine AX.seq ?_
        refine AX.reg (its := []) [4] [] (s1 := ⟨[(4, .v (.int .i64 v4))], []⟩) (C := True) (by kernel_rfl) trivial trivial ?_
        refine AX.ret ?_
        refine fin_wk (Wk.forget [4] [] (s' := ⟨[(4, .v (.int .i64 v4))], []⟩) (by kernel_rfl)) ?_
        have hr := Option.some.inj h
        subst hr
        exact ⟨_, Wk.refl _, .inl ⟨v4, rfl, rfl, rfl⟩⟩
      · replace h := cd_f b4 h
        refine AX.condF (x5) (by kernel_rfl) b4 ?_
        refine AX.skip ?_
        refine AX.reg (its := [.auto { raw := true }]) [0, 1, 7, 8] [] (s1 := ⟨[(0, .bs false 2 (List.map enc_ii p1)), (1, .fn 90 [.bp [.v (.int .i64 p2), .v (.int .i64 p3)] 0]), (7, .v (.int .i64 (p1.length : Int))), (8, .v (.int .i64 (IntKind.wrap .i64 (v4 + 1))))], []⟩) (C := True) (by kernel_rfl) trivial trivial ?_
        refine ⟨(fu, IntKind.wrap .i64 (v4 + 1)), h, Nat.lt_succ_self _, ?_⟩
        refine Wk.trans (Wk.forget [0, 1, 7, 8] [] (s' := ⟨[(0, .bs false 2 (List.map enc_ii p1)), (1, .fn 90 [.bp [.v (.int .i64 p2), .v (.int .i64 p3)] 0]), (7, .v (.int .i64 (p1.length : Int))), (8, .v (.int .i64 (IntKind.wrap .i64 (v4 + 1))))], []⟩) (by kernel_rfl)) ?_
        exact Wk.refl _
    · replace h := cd_f b1 h
      refine AX.condF (decide (v4 < (p1.length : Int))) (by kernel_rfl) b1 ?_
      refine AX.exit ?_
      refine fin_wk (Wk.forget [] [] (s' := ⟨[], []⟩) (by kernel_rfl)) ?_
      have hr := Option.some.inj h
      subst hr
      exact ⟨_, Wk.refl _, .inr ⟨(), rfl, rfl, rfl⟩⟩

theorem s_slices_IndexFunc_ii_GreatestArms_3_l (p1 : List (Int × Int)) (p2 : Int) (p3 : Int) (r : Int) (h : m_slices_IndexFunc_ii_GreatestArms_3_l p1 p2 p3 = some r) :
    Eng.Spec Try.prog 147 [.bs false 2 (List.map enc_ii p1), .fn 90 [.bp [.v (.int .i64 p2), .v (.int .i64 p3)] 0]] [] (.v (.int .i64 r)) [] := by
  unfold m_slices_IndexFunc_ii_GreatestArms_3_l at h
  refine Eng.Spec.body Try.func147 (by kernel_rfl) rfl (by kernel_rfl) ?_
  refine AX.wkpost ?_
  refine AX.seq ?_
  refine AX.reg (its := []) [0, 1] [] (s1 := ⟨[(0, .bs false 2 (List.map enc_ii p1)), (1, .fn 90 [.bp [.v (.int .i64 p2), .v (.int .i64 p3)] 0])], []⟩) (C := True) (by kernel_rfl) trivial trivial ?_
  refine AX.seq ?_
  refine AX.seq ?_
  refine AX.reg (its := [.auto {}, .auto { y := some (.v (.int .i64 (p1.length : Int))) }]) [0, 1, 7, 8] [] (s1 := ⟨[(0, .bs false 2 (List.map enc_ii p1)), (1, .fn 90 [.bp [.v (.int .i64 p2), .v (.int .i64 p3)] 0]), (7, .v (.int .i64 (p1.length : Int))), (8, .v (.int .i64 0))], []⟩) (C := (True ∧ (AV.v (.int .i64 ((List.map enc_ii p1).length : Int)) = AV.v (.int .i64 (p1.length : Int)))) ∧ True) (by kernel_rfl) ⟨⟨trivial, len_map enc_ii p1⟩, trivial⟩ trivial ?_
  refine AX.block ?_
  obtain ⟨x6, e5, h⟩ := bd_e h
  refine AX.wk (Wk.forget [0, 1, 7, 8] [] (s' := ⟨[(0, .bs false 2 (List.map enc_ii p1)), (1, .fn 90 [.bp [.v (.int .i64 p2), .v (.int .i64 p3)] 0]), (7, .v (.int .i64 (p1.length : Int))), (8, .v (.int .i64 0))], []⟩) (by kernel_rfl)) ?_
  refine AX.mono (s_slices_IndexFunc_ii_GreatestArms_3_l_L1 p1 p2 p3 FU 0 x6 e5) ?_
  rintro _ _ (⟨x7, rfl, rfl, rfl⟩ | ⟨x8, rfl, rfl, rfl⟩)
  · replace h := sm_l h
    refine fin_wk (Wk.forget [4] [] (s' := ⟨[(4, .v (.int .i64 x7))], []⟩) (by kernel_rfl)) ?_
    have hr := Option.some.inj h
    subst hr
    exact ⟨_, Wk.refl _, .inr rfl, ⟨[], by kernel_rfl, trivial, [.v (.int .i64 x7)], by kernel_rfl, by kernel_rfl⟩⟩
  · replace h := sm_r h
    refine AX.seq ?_
    refine AX.reg (its := []) [4] [] (s1 := ⟨[(4, .v (.int .i64 (-1)))], []⟩) (C := True) (by kernel_rfl) trivial trivial ?_
    refine AX.ret ?_
    refine fin_wk (Wk.forget [4] [] (s' := ⟨[(4, .v (.int .i64 (-1)))], []⟩) (by kernel_rfl)) ?_
    have hr := Option.some.inj h
    subst hr
    exact ⟨_, Wk.refl _, .inr rfl, ⟨[], by kernel_rfl, trivial, [.v (.int .i64 (-1))], by kernel_rfl, by kernel_rfl⟩⟩

theorem s_slices_ContainsFunc_ii_GreatestArms_3_l (p1 : List (Int × Int)) (p2 : Int) (p3 : Int) (r : Bool) (h : m_slices_ContainsFunc_ii_GreatestArms_3_l p1 p2 p3 = some r) :
    Eng.Spec Try.prog 89 [.bs false 2 (List.map enc_ii p1), .fn 90 [.bp [.v (.int .i64 p2), .v (.int .i64 p3)] 0]] [] (.v (.bool r)) [] := by
  unfold m_slices_ContainsFunc_ii_GreatestArms_3_l at h
  refine Eng.Spec.body Try.func89 (by kernel_rfl) rfl (by kernel_rfl) ?_
  refine AX.wkpost ?_
  refine AX.seq ?_
  refine AX.reg (its := []) [0, 1] [] (s1 := ⟨[(0, .bs false 2 (List.map enc_ii p1)), (1, .fn 90 [.bp [.v (.int .i64 p2), .v (.int .i64 p3)] 0])], []⟩) (C := True) (by kernel_rfl) trivial trivial ?_
  refine AX.seq ?_
  obtain ⟨x4, e1, h⟩ := bd_e h
  refine AX.reg (its := [.auto {}, .auto {}, .call 147 [.bs false 2 (List.map enc_ii p1), .fn 90 [.bp [.v (.int .i64 p2), .v (.int .i64 p3)] 0]] (handO (rho ([] ++ [])) [] [] ++ []) (callEv [] [] (.v (.int .i64 x4)) [])]) [4] [] (s1 := ⟨[(4, .v (.bool (decide (0 ≤ x4))))], []⟩) (C := ((([.bs false 2 (List.map enc_ii p1), .fn 90 [.bp [.v (.int .i64 p2), .v (.int .i64 p3)] 0]] : List AV) = [.bs false 2 (List.map enc_ii p1), .fn 90 [.bp [.v (.int .i64 p2), .v (.int .i64 p3)] 0]]) ∧ True) ∧ True) (by kernel_rfl) ⟨⟨rfl, trivial⟩, trivial⟩ ⟨call_ok (ks := []) (ns := []) (bor := []) (bobjs := []) (s_slices_IndexFunc_ii_GreatestArms_3_l p1 p2 p3 x4 e1) (.cons (.c1 (.c0 (.same _ (by kernel_rfl) (by kernel_rfl)))) (.cons (.fn (.cons (.bp (.cons (.same _ (by kernel_rfl) (by kernel_rfl)) (.cons (.same _ (by kernel_rfl) (by kernel_rfl)) (.nil)))) (.nil))) (.nil))) (by kernel_rfl) trivial, trivial⟩ ?_
  refine AX.ret ?_
  refine fin_wk (Wk.forget [4] [] (s' := ⟨[(4, .v (.bool (decide (0 ≤ x4))))], []⟩) (by kernel_rfl)) ?_
  have hr := Option.some.inj h
  subst hr
  exact ⟨_, Wk.refl _, .inr rfl, ⟨[], by kernel_rfl, trivial, [.v (.bool (decide (0 ≤ x4)))], by kernel_rfl, by kernel_rfl⟩⟩

theorem s_slices_Clip_ii (p1 : List (Int × Int)) (r : Unit) (h : m_slices_Clip_ii p1 = some r) :
    Eng.Spec Try.prog 92 [.bs false 2 (List.map enc_ii p1)] [] (.bs false 2 (List.map enc_ii (sub p1 (0 : Int) (p1.length : Int)))) [] := by
  unfold m_slices_Clip_ii at h
  refine Eng.Spec.body Try.func92 (by kernel_rfl) rfl (by kernel_rfl) ?_
  refine AX.wkpost ?_
  refine AX.seq ?_
  refine AX.reg (its := []) [0] [] (s1 := ⟨[(0, .bs false 2 (List.map enc_ii p1))], []⟩) (C := True) (by kernel_rfl) trivial trivial ?_
  refine AX.seq ?_
  obtain ⟨g1, h⟩ := gd_e h
  refine AX.reg (its := [.auto {}, .auto {}, .auto { y := some (.v (.int .i64 (p1.length : Int))) }, .auto {}, .auto { y := some (.v (.int .i64 (p1.length : Int))) }, .auto { y := some (.bs false 2 (List.map enc_ii (sub p1 (0 : Int) (p1.length : Int)))) }]) [2] [] (s1 := ⟨[(2, .bs false 2 (List.map enc_ii (sub p1 (0 : Int) (p1.length : Int))))], []⟩) (C := (True ∧ (AV.v (.int .i64 ((List.map enc_ii p1).length : Int)) = AV.v (.int .i64 (p1.length : Int)))) ∧ (True ∧ (AV.v (.int .i64 ((List.map enc_ii p1).length : Int)) = AV.v (.int .i64 (p1.length : Int)))) ∧ ((0 ≤ (0 : Int) ∧ (0 : Int) ≤ (p1.length : Int) ∧ (p1.length : Int) ≤ (p1.length : Int) ∧ (p1.length : Int) ≤ ((List.map enc_ii p1).length : Int)) ∧ (AV.bs false 2 (((List.map enc_ii p1).drop (0 : Int).toNat).take ((p1.length : Int).toNat - (0 : Int).toNat)) = (.bs false 2 (List.map enc_ii (sub p1 (0 : Int) (p1.length : Int))) : AV))) ∧ True) (by kernel_rfl) ⟨⟨trivial, len_map enc_ii p1⟩, ⟨⟨trivial, len_map enc_ii p1⟩, ⟨⟨by first | exact g1 | simpa only [List.length_map] using g1, by first | exact sub_can enc_ii p1 (0 : Int) (p1.length : Int) false 2 | (simp only [List.length_map]; exact sub_can enc_ii p1 (0 : Int) (p1.length : Int) false 2)⟩, trivial⟩⟩⟩ trivial ?_
  refine AX.ret ?_
  refine fin_wk (Wk.forget [2] [] (s' := ⟨[(2, .bs false 2 (List.map enc_ii (sub p1 (0 : Int) (p1.length : Int))))], []⟩) (by kernel_rfl)) ?_
  have hr := Option.some.inj h
  subst hr
  exact ⟨_, Wk.refl _, .inr rfl, ⟨[], by kernel_rfl, trivial, [.bs false 2 (List.map enc_ii (sub p1 (0 : Int) (p1.length : Int)))], by kernel_rfl, by kernel_rfl⟩⟩

theorem s_slices_Clip_hii (p1 : List (Int × Int)) (r : Unit) (h : m_slices_Clip_hii p1 = some r) :
    Eng.Spec Try.prog 92 [.sl 0 0 p1.length] [.arr 2 (List.map enc_ii p1)] (.sl 0 0 p1.length) [.arr 2 (List.map enc_ii p1)] := by
  unfold m_slices_Clip_hii at h
  refine Eng.Spec.body Try.func92 (by kernel_rfl) rfl (by kernel_rfl) ?_
  refine AX.wkpost ?_
  refine AX.seq ?_
  refine AX.reg (its := []) [0] [0] (s1 := ⟨[(0, .sl 0 0 p1.length)], [(0, .arr 2 (List.map enc_ii p1))]⟩) (C := True) (by kernel_rfl) trivial trivial ?_
  refine AX.seq ?_
  refine AX.reg (its := [.auto {}, .auto {}, .auto {}, .auto {}, .auto {}, .auto { y := some (.sl 0 0 p1.length) }]) [2] [0] (s1 := ⟨[(2, .sl 0 0 p1.length)], [(0, .arr 2 (List.map enc_ii p1))]⟩) (C := ((0 ≤ (0 : Int) ∧ (0 : Int) ≤ (p1.length : Int) ∧ (p1.length : Int) ≤ (p1.length : Int) ∧ (p1.length : Int) ≤ (p1.length : Int)) ∧ (AV.sl 0 (0 + (0 : Int).toNat) ((p1.length : Int).toNat - (0 : Int).toNat) = AV.sl 0 0 p1.length)) ∧ True) (by kernel_rfl) ⟨⟨⟨by omega, by omega, by omega, by omega⟩, rfl⟩, trivial⟩ trivial ?_
  refine AX.ret ?_
  refine fin_wk (Wk.forget [2] [0] (s' := ⟨[(2, .sl 0 0 p1.length)], [(0, .arr 2 (List.map enc_ii p1))]⟩) (by kernel_rfl)) ?_
  have hr := Option.some.inj h
  subst hr
  exact ⟨_, Wk.refl _, .inr rfl, ⟨[], by kernel_rfl, ⟨rfl, trivial⟩, [.sl 0 0 p1.length], by kernel_rfl, by kernel_rfl⟩⟩

theorem s_impl_GreatestArms_L2 (p1 : List (ByteArray × Int)) (p2 : Int) (p3 : List (Int)) (x9 : List (Int)) (v11 : Int) (n : Nat) (g : (List (Int × Int)) × Int) (out : List (Int × Int)) (h : m_impl_GreatestArms_L2 p1 p2 p3 x9 v11 n g.1 g.2 = some out) :
    AX Try.prog 85 0 (codeAt [1, 1, 1, 1, 0, 1, 1, 1, 1, 1, 0, 1, 1, 1, 1] (bodyOf Try.f14)) ((fun g : (List (Int × Int)) × Int => (⟨[(2, .pt 0 0), (3, .pt 1 0), (5, .sl 2 0 x9.length), (6, .sl 3 0 g.1.length), (8, .v (.int .i64 (gt x9 v11))), (38, .sl 2 0 x9.length), (39, .v (.int .i64 (x9.length : Int))), (40, .v (.int .i64 v11)), (44, .sl 2 0 x9.length), (45, .v (.int .i64 (x9.length : Int))), (46, .v (.int .i64 g.2))], [(0, .box [.bs false 2 (List.map enc_si p1), .v (.int .i64 p2)]), (1, .box [.bs false 1 (List.map enc_i p3)]), (2, .arr 1 (List.map enc_i x9)), (3, .arr 2 (List.map enc_ii g.1))]⟩ : S)) g) (fun ex s => ex = .exit 2 ∧ s = (fun o : List (Int × Int) => (⟨[(2, .pt 0 0), (3, .pt 1 0), (5, .sl 2 0 x9.length), (6, .sl 3 0 o.length), (38, .sl 2 0 x9.length), (39, .v (.int .i64 (x9.length : Int))), (40, .v (.int .i64 v11))], [(0, .box [.bs false 2 (List.map enc_si p1), .v (.int .i64 p2)]), (1, .box [.bs false 1 (List.map enc_i p3)]), (2, .arr 1 (List.map enc_i x9)), (3, .arr 2 (List.map enc_ii o))]⟩ : S)) out) := by
  refine AX.wkpost ?_
  refine AX.loop (G := Nat × ((List (Int × Int)) × Int)) (fun q => (fun g : (List (Int × Int)) × Int => (⟨[(2, .pt 0 0), (3, .pt 1 0), (5, .sl 2 0 x9.length), (6, .sl 3 0 g.1.length), (8, .v (.int .i64 (gt x9 v11))), (38, .sl 2 0 x9.length), (39, .v (.int .i64 (x9.length : Int))), (40, .v (.int .i64 v11)), (44, .sl 2 0 x9.length), (45, .v (.int .i64 (x9.length : Int))), (46, .v (.int .i64 g.2))], [(0, .box [.bs false 2 (List.map enc_si p1), .v (.int .i64 p2)]), (1, .box [.bs false 1 (List.map enc_i p3)]), (2, .arr 1 (List.map enc_i x9)), (3, .arr 2 (List.map enc_ii g.1))]⟩ : S)) q.2) (fun q => m_impl_GreatestArms_L2 p1 p2 p3 x9 v11 q.1 q.2.1 q.2.2 = some out) (fun q => q.1) (n, g) h (Wk.refl _) ?_
  clear h
  rintro ⟨fu, v12, v13⟩ h
  cases fu with
  | zero => cases h
  | succ fu =>
    rw [m_impl_GreatestArms_L2] at h
    refine AX.seq ?_
    refine AX.reg (its := []) [2, 3, 5, 6, 8, 38, 39, 40, 44, 45, 46, 47] [0, 1, 2, 3] (s1 := ⟨[(2, .pt 0 0), (3, .pt 1 0), (5, .sl 2 0 x9.length), (6, .sl 3 0 v12.length), (8, .v (.int .i64 (gt x9 v11))), (38, .sl 2 0 x9.length), (39, .v (.int .i64 (x9.length : Int))), (40, .v (.int .i64 v11)), (44, .sl 2 0 x9.length), (45, .v (.int .i64 (x9.length : Int))), (46, .v (.int .i64 v13)), (47, .v (.bool (decide (v13 < (x9.length : Int)))))], [(0, .box [.bs false 2 (List.map enc_si p1), .v (.int .i64 p2)]), (1, .box [.bs false 1 (List.map enc_i p3)]), (2, .arr 1 (List.map enc_i x9)), (3, .arr 2 (List.map enc_ii v12))]⟩) (C := True) (by kernel_rfl) trivial trivial ?_
    refine AX.seq ?_
    rcases bool_cases (decide (v13 < (x9.length : Int))) with b13 | b13
    · replace h := cd_t b13 h
      refine AX.condT (decide (v13 < (x9.length : Int))) (by kernel_rfl) b13 ?_
      refine AX.skip ?_
      refine AX.seq ?_
      refine AX.block ?_
      refine AX.seq ?_
      obtain ⟨g14, h⟩ := gd_e h
      refine AX.reg (its := [.auto {}, .auto { y := some (.v (.int .i64 (gt x9 v13))) }]) [2, 3, 5, 6, 8, 10, 38, 39, 40, 44, 45, 46] [0, 1, 2, 3] (s1 := ⟨[(2, .pt 0 0), (3, .pt 1 0), (5, .sl 2 0 x9.length), (6, .sl 3 0 v12.length), (8, .v (.int .i64 (gt x9 v11))), (10, .v (.int .i64 (gt x9 v13))), (38, .sl 2 0 x9.length), (39, .v (.int .i64 (x9.length : Int))), (40, .v (.int .i64 v11)), (44, .sl 2 0 x9.length), (45, .v (.int .i64 (x9.length : Int))), (46, .v (.int .i64 v13))], [(0, .box [.bs false 2 (List.map enc_si p1), .v (.int .i64 p2)]), (1, .box [.bs false 1 (List.map enc_i p3)]), (2, .arr 1 (List.map enc_i x9)), (3, .arr 2 (List.map enc_ii v12))]⟩) (C := (0 ≤ v13 ∧ v13 < (x9.length : Int)) ∧ (True ∧ (AV.v (((List.map enc_i x9).getD (0 + v13.toNat) []).getD 0 undef) = .v (.int .i64 (gt x9 v13)))) ∧ True) (by kernel_rfl) ⟨g14, ⟨⟨trivial, (congrArg (fun z : List Value => AV.v (z.getD 0 undef)) (idx_arr (enc := enc_i) rfl g14))⟩, trivial⟩⟩ trivial ?_
      refine AX.seq ?_
      refine AX.reg (its := [.auto {}, .auto {}, .auto {}, .auto { nk := 4 }]) [2, 3, 5, 6, 8, 11, 38, 39, 40, 44, 45, 46] [0, 1, 2, 3, 4] (s1 := ⟨[(2, .pt 0 0), (3, .pt 1 0), (5, .sl 2 0 x9.length), (6, .sl 3 0 v12.length), (8, .v (.int .i64 (gt x9 v11))), (11, .pt 4 0), (38, .sl 2 0 x9.length), (39, .v (.int .i64 (x9.length : Int))), (40, .v (.int .i64 v11)), (44, .sl 2 0 x9.length), (45, .v (.int .i64 (x9.length : Int))), (46, .v (.int .i64 v13))], [(0, .box [.bs false 2 (List.map enc_si p1), .v (.int .i64 p2)]), (1, .box [.bs false 1 (List.map enc_i p3)]), (2, .arr 1 (List.map enc_i x9)), (3, .arr 2 (List.map enc_ii v12)), (4, .box [.v (.int .i64 (gt x9 v11)), .v (.int .i64 (gt x9 v13))])]⟩) (C := True) (by kernel_rfl) trivial trivial ?_
      refine AX.seq ?_
      obtain ⟨x14, e15, h⟩ := bd_e h
      rcases bool_cases (x14) with b16 | b16
      · replace h := cd_t b16 h
        obtain ⟨x15, e17, h⟩ := bd_e h
        refine AX.reg (its := [.auto {}, .auto {}, .call 85 [.agg [.v (.int .i64 (gt x9 v11)), .v (.int .i64 (gt x9 v13))], .agg [.bs false 2 (List.map enc_si p1), .v (.int .i64 p2)]] (handO (rho ([] ++ [])) [] [] ++ []) (callEv [] [] (.v (.bool true)) []), .auto {}, .auto {}, .auto {}, .call 82 [.sl 2 0 x9.length, .fn 86 [.pt 4 0, .pt 1 0]] (handO (rho ([] ++ [])) [] [] ++ [(2, .arr 1 (List.map enc_i x9)), (4, .box [.v (.int .i64 (gt x9 v11)), .v (.int .i64 (gt x9 v13))]), (1, .box [.bs false 1 (List.map enc_i p3)])]) (callEv [] [] (.v (.bool x15)) [])]) [2, 3, 5, 6, 8, 11, 38, 39, 40, 44, 45, 46, 61] [0, 1, 2, 3, 4] (s1 := ⟨[(2, .pt 0 0), (3, .pt 1 0), (5, .sl 2 0 x9.length), (6, .sl 3 0 v12.length), (8, .v (.int .i64 (gt x9 v11))), (11, .pt 4 0), (38, .sl 2 0 x9.length), (39, .v (.int .i64 (x9.length : Int))), (40, .v (.int .i64 v11)), (44, .sl 2 0 x9.length), (45, .v (.int .i64 (x9.length : Int))), (46, .v (.int .i64 v13)), (61, .v (.bool (!x15)))], [(0, .box [.bs false 2 (List.map enc_si p1), .v (.int .i64 p2)]), (1, .box [.bs false 1 (List.map enc_i p3)]), (2, .arr 1 (List.map enc_i x9)), (3, .arr 2 (List.map enc_ii v12)), (4, .box [.v (.int .i64 (gt x9 v11)), .v (.int .i64 (gt x9 v13))])]⟩) (C := ((([.agg [.v (.int .i64 (gt x9 v11)), .v (.int .i64 (gt x9 v13))], .agg [.bs false 2 (List.map enc_si p1), .v (.int .i64 p2)]] : List AV) = [.agg [.v (.int .i64 (gt x9 v11)), .v (.int .i64 (gt x9 v13))], .agg [.bs false 2 (List.map enc_si p1), .v (.int .i64 p2)]]) ∧ True) ∧ ((([.sl 2 0 x9.length, .fn 86 [.pt 4 0, .pt 1 0]] : List AV) = [.sl 2 0 x9.length, .fn 86 [.pt 4 0, .pt 1 0]]) ∧ (AO.arr 1 (List.map enc_i x9) = AO.arr 1 (List.map enc_i x9)) ∧ (AO.box [.v (.int .i64 (gt x9 v11)), .v (.int .i64 (gt x9 v13))] = AO.box [.v (.int .i64 (gt x9 v11)), .v (.int .i64 (gt x9 v13))]) ∧ (AO.box [.bs false 1 (List.map enc_i p3)] = AO.box [.bs false 1 (List.map enc_i p3)]) ∧ True) ∧ True) (by kernel_rfl) ⟨⟨rfl, trivial⟩, ⟨⟨rfl, rfl, rfl, rfl, trivial⟩, trivial⟩⟩ ⟨call_ok (ks := []) (ns := []) (bor := []) (bobjs := []) (show Eng.Spec Try.prog 85 [.agg [.v (.int .i64 (gt x9 v11)), .v (.int .i64 (gt x9 v13))], .agg [.bs false 2 (List.map enc_si p1), .v (.int .i64 p2)]] [] (.v (.bool true)) [] from by have q := s_impl_Arm_ok (gt x9 v11) (gt x9 v13) p1 p2 x14 e15; rw [b16] at q; exact q) (.cons (.c1 (.agg (.cons (.same _ (by kernel_rfl) (by kernel_rfl)) (.cons (.same _ (by kernel_rfl) (by kernel_rfl)) (.nil))))) (.cons (.c1 (.agg (.cons (.same _ (by kernel_rfl) (by kernel_rfl)) (.cons (.same _ (by kernel_rfl) (by kernel_rfl)) (.nil))))) (.nil))) (by kernel_rfl) trivial, ⟨call_ok (ks := []) (ns := []) (bor := [2, 4, 1]) (bobjs := [(2, .arr 1 (List.map enc_i x9)), (4, .box [.v (.int .i64 (gt x9 v11)), .v (.int .i64 (gt x9 v13))]), (1, .box [.bs false 1 (List.map enc_i p3)])]) (s_slices_ContainsFunc_i_GreatestArms_2_lli x9 (gt x9 v11) (gt x9 v13) p3 x15 e17) (.cons (.c1 (.c0 (.arr rfl rfl ((rfl).trans (List.length_map ..).symm)))) (.cons (.fn (.cons (.box rfl rfl (.cons (.same _ (by kernel_rfl) (by kernel_rfl)) (.cons (.same _ (by kernel_rfl) (by kernel_rfl)) (.nil)))) (.cons (.box rfl rfl (.cons (.same _ (by kernel_rfl) (by kernel_rfl)) (.nil))) (.nil)))) (.nil))) (by kernel_rfl) trivial, trivial⟩⟩ ?_
        rcases bool_cases ((!x15)) with b18 | b18
        · replace h := cd_t b18 h
          refine AX.condT ((!x15)) (by kernel_rfl) b18 ?_
          obtain ⟨g19, h⟩ := gd_e h
          refine AX.reg (its := [.auto {}, .auto {}, .auto { nk := 5 }, .auto { y := some (.sl 6 0 ((v12 ++ ([((gt x9 v11), (gt x9 v13))] : List (Int × Int))).length)), els := some (List.map enc_ii v12), els2 := some (List.map enc_ii ([((gt x9 v11), (gt x9 v13))] : List (Int × Int))), nk := 6 }]) [2, 3, 5, 6, 8, 38, 39, 40, 44, 45, 46] [0, 1, 2, 6] (s1 := ⟨[(2, .pt 0 0), (3, .pt 1 0), (5, .sl 2 0 x9.length), (6, .sl 6 0 ((v12 ++ ([((gt x9 v11), (gt x9 v13))] : List (Int × Int))).length)), (8, .v (.int .i64 (gt x9 v11))), (38, .sl 2 0 x9.length), (39, .v (.int .i64 (x9.length : Int))), (40, .v (.int .i64 v11)), (44, .sl 2 0 x9.length), (45, .v (.int .i64 (x9.length : Int))), (46, .v (.int .i64 v13))], [(0, .box [.bs false 2 (List.map enc_si p1), .v (.int .i64 p2)]), (1, .box [.bs false 1 (List.map enc_i p3)]), (2, .arr 1 (List.map enc_i x9)), (6, .arr 2 (List.map enc_ii v12 ++ List.map enc_ii ([((gt x9 v11), (gt x9 v13))] : List (Int × Int))))]⟩) (C := ((((((List.map enc_ii v12).drop 0).take (v12.length) = List.map enc_ii v12) ∧ (((List.map enc_ii ([((gt x9 v11), (gt x9 v13))] : List (Int × Int))).drop 0).take (([((gt x9 v11), (gt x9 v13))] : List (Int × Int)).length) = List.map enc_ii ([((gt x9 v11), (gt x9 v13))] : List (Int × Int)))) ∧ (List.map enc_ii v12).length + (List.map enc_ii ([((gt x9 v11), (gt x9 v13))] : List (Int × Int))).length ≤ 1099511627776) ∧ (AV.sl 6 0 (List.map enc_ii v12 ++ List.map enc_ii ([((gt x9 v11), (gt x9 v13))] : List (Int × Int))).length = AV.sl 6 0 (v12 ++ ([((gt x9 v11), (gt x9 v13))] : List (Int × Int))).length)) ∧ True) (by kernel_rfl) ⟨⟨⟨⟨(dt_all (enc := enc_ii) rfl rfl), (dt_all (enc := enc_ii) rfl rfl)⟩, (by simp only [List.length_map, List.length_nil]; simpa using g19)⟩, sl_len (enc := enc_ii) (app_can (enc := enc_ii) rfl rfl)⟩, trivial⟩ trivial ?_
          refine AX.reg (its := [.auto { raw := true }]) [2, 3, 5, 6, 8, 38, 39, 40, 44, 45, 46] [0, 1, 2, 6] (s1 := ⟨[(2, .pt 0 0), (3, .pt 1 0), (5, .sl 2 0 x9.length), (6, .sl 6 0 ((v12 ++ ([((gt x9 v11), (gt x9 v13))] : List (Int × Int))).length)), (8, .v (.int .i64 (gt x9 v11))), (38, .sl 2 0 x9.length), (39, .v (.int .i64 (x9.length : Int))), (40, .v (.int .i64 v11)), (44, .sl 2 0 x9.length), (45, .v (.int .i64 (x9.length : Int))), (46, .v (.int .i64 (IntKind.wrap .i64 (v13 + 1))))], [(0, .box [.bs false 2 (List.map enc_si p1), .v (.int .i64 p2)]), (1, .box [.bs false 1 (List.map enc_i p3)]), (2, .arr 1 (List.map enc_i x9)), (6, .arr 2 (List.map enc_ii v12 ++ List.map enc_ii ([((gt x9 v11), (gt x9 v13))] : List (Int × Int))))]⟩) (C := True) (by kernel_rfl) trivial trivial ?_
          refine ⟨(fu, (v12 ++ ([((gt x9 v11), (gt x9 v13))] : List (Int × Int)), IntKind.wrap .i64 (v13 + 1))), h, Nat.lt_succ_self _, ?_⟩
          refine Wk.trans (Wk.swap 3 6 (Nat.le_of_ble_eq_true (by kernel_rfl)) (Nat.le_of_ble_eq_true (by kernel_rfl)) rfl) ?_
          refine Wk.trans (Wk.forget [2, 3, 5, 6, 8, 38, 39, 40, 44, 45, 46] [0, 1, 2, 3] (s' := ⟨[(2, .pt 0 0), (3, .pt 1 0), (5, .sl 2 0 x9.length), (6, .sl 3 0 ((v12 ++ ([((gt x9 v11), (gt x9 v13))] : List (Int × Int))).length)), (8, .v (.int .i64 (gt x9 v11))), (38, .sl 2 0 x9.length), (39, .v (.int .i64 (x9.length : Int))), (40, .v (.int .i64 v11)), (44, .sl 2 0 x9.length), (45, .v (.int .i64 (x9.length : Int))), (46, .v (.int .i64 (IntKind.wrap .i64 (v13 + 1))))], [(0, .box [.bs false 2 (List.map enc_si p1), .v (.int .i64 p2)]), (1, .box [.bs false 1 (List.map enc_i p3)]), (2, .arr 1 (List.map enc_i x9)), (3, .arr 2 (List.map enc_ii v12 ++ List.map enc_ii ([((gt x9 v11), (gt x9 v13))] : List (Int × Int))))]⟩) (by kernel_rfl)) ?_
          refine Wk.trans (Wk.of_eq (congrArg (fun z => (⟨[(2, .pt 0 0), (3, .pt 1 0), (5, .sl 2 0 x9.length), (6, .sl 3 0 ((v12 ++ ([((gt x9 v11), (gt x9 v13))] : List (Int × Int))).length)), (8, .v (.int .i64 (gt x9 v11))), (38, .sl 2 0 x9.length), (39, .v (.int .i64 (x9.length : Int))), (40, .v (.int .i64 v11)), (44, .sl 2 0 x9.length), (45, .v (.int .i64 (x9.length : Int))), (46, .v (.int .i64 (IntKind.wrap .i64 (v13 + 1))))], [(0, .box [.bs false 2 (List.map enc_si p1), .v (.int .i64 p2)]), (1, .box [.bs false 1 (List.map enc_i p3)]), (2, .arr 1 (List.map enc_i x9)), (3, .arr 2 (z))]⟩ : S)) (app_can (enc := enc_ii) rfl rfl : List.map enc_ii v12 ++ List.map enc_ii ([((gt x9 v11), (gt x9 v13))] : List (Int × Int)) = List.map enc_ii (v12 ++ ([((gt x9 v11), (gt x9 v13))] : List (Int × Int)))))) ?_
          exact Wk.refl _
        · replace h := cd_f b18 h
          refine AX.condF ((!x15)) (by kernel_rfl) b18 ?_
          refine AX.skip ?_
          refine AX.reg (its := [.auto { raw := true }]) [2, 3, 5, 6, 8, 38, 39, 40, 44, 45, 46] [0, 1, 2, 3] (s1 := ⟨[(2, .pt 0 0), (3, .pt 1 0), (5, .sl 2 0 x9.length), (6, .sl 3 0 v12.length), (8, .v (.int .i64 (gt x9 v11))), (38, .sl 2 0 x9.length), (39, .v (.int .i64 (x9.length : Int))), (40, .v (.int .i64 v11)), (44, .sl 2 0 x9.length), (45, .v (.int .i64 (x9.length : Int))), (46, .v (.int .i64 (IntKind.wrap .i64 (v13 + 1))))], [(0, .box [.bs false 2 (List.map enc_si p1), .v (.int .i64 p2)]), (1, .box [.bs false 1 (List.map enc_i p3)]), (2, .arr 1 (List.map enc_i x9)), (3, .arr 2 (List.map enc_ii v12))]⟩) (C := True) (by kernel_rfl) trivial trivial ?_
          refine ⟨(fu, (v12, IntKind.wrap .i64 (v13 + 1))), h, Nat.lt_succ_self _, ?_⟩
          refine Wk.trans (Wk.forget [2, 3, 5, 6, 8, 38, 39, 40, 44, 45, 46] [0, 1, 2, 3] (s' := ⟨[(2, .pt 0 0), (3, .pt 1 0), (5, .sl 2 0 x9.length), (6, .sl 3 0 v12.length), (8, .v (.int .i64 (gt x9 v11))), (38, .sl 2 0 x9.length), (39, .v (.int .i64 (x9.length : Int))), (40, .v (.int .i64 v11)), (44, .sl 2 0 x9.length), (45, .v (.int .i64 (x9.length : Int))), (46, .v (.int .i64 (IntKind.wrap .i64 (v13 + 1))))], [(0, .box [.bs false 2 (List.map enc_si p1), .v (.int .i64 p2)]), (1, .box [.bs false 1 (List.map enc_i p3)]), (2, .arr 1 (List.map enc_i x9)), (3, .arr 2 (List.map enc_ii v12))]⟩) (by kernel_rfl)) ?_
          exact Wk.refl _
      · replace h := cd_f b16 h
        refine AX.reg (its := [.auto {}, .auto {}, .call 85 [.agg [.v (.int .i64 (gt x9 v11)), .v (.int .i64 (gt x9 v13))], .agg [.bs false 2 (List.map enc_si p1), .v (.int .i64 p2)]] (handO (rho ([] ++ [])) [] [] ++ []) (callEv [] [] (.v (.bool false)) [])]) [2, 3, 5, 6, 8, 11, 38, 39, 40, 44, 45, 46, 61] [0, 1, 2, 3, 4] (s1 := ⟨[(2, .pt 0 0), (3, .pt 1 0), (5, .sl 2 0 x9.length), (6, .sl 3 0 v12.length), (8, .v (.int .i64 (gt x9 v11))), (11, .pt 4 0), (38, .sl 2 0 x9.length), (39, .v (.int .i64 (x9.length : Int))), (40, .v (.int .i64 v11)), (44, .sl 2 0 x9.length), (45, .v (.int .i64 (x9.length : Int))), (46, .v (.int .i64 v13)), (61, .v (.bool false))], [(0, .box [.bs false 2 (List.map enc_si p1), .v (.int .i64 p2)]), (1, .box [.bs false 1 (List.map enc_i p3)]), (2, .arr 1 (List.map enc_i x9)), (3, .arr 2 (List.map enc_ii v12)), (4, .box [.v (.int .i64 (gt x9 v11)), .v (.int .i64 (gt x9 v13))])]⟩) (C := ((([.agg [.v (.int .i64 (gt x9 v11)), .v (.int .i64 (gt x9 v13))], .agg [.bs false 2 (List.map enc_si p1), .v (.int .i64 p2)]] : List AV) = [.agg [.v (.int .i64 (gt x9 v11)), .v (.int .i64 (gt x9 v13))], .agg [.bs false 2 (List.map enc_si p1), .v (.int .i64 p2)]]) ∧ True) ∧ True) (by kernel_rfl) ⟨⟨rfl, trivial⟩, trivial⟩ ⟨call_ok (ks := []) (ns := []) (bor := []) (bobjs := []) (show Eng.Spec Try.prog 85 [.agg [.v (.int .i64 (gt x9 v11)), .v (.int .i64 (gt x9 v13))], .agg [.bs false 2 (List.map enc_si p1), .v (.int .i64 p2)]] [] (.v (.bool false)) [] from by have q := s_impl_Arm_ok (gt x9 v11) (gt x9 v13) p1 p2 x14 e15; rw [b16] at q; exact q) (.cons (.c1 (.agg (.cons (.same _ (by kernel_rfl) (by kernel_rfl)) (.cons (.same _ (by kernel_rfl) (by kernel_rfl)) (.nil))))) (.cons (.c1 (.agg (.cons (.same _ (by kernel_rfl) (by kernel_rfl)) (.cons (.same _ (by kernel_rfl) (by kernel_rfl)) (.nil))))) (.nil))) (by kernel_rfl) trivial, trivial⟩ ?_
        refine AX.cond_false (by kernel_rfl) ?_
        refine AX.skip ?_
        refine AX.reg (its := [.auto { raw := true }]) [2, 3, 5, 6, 8, 38, 39, 40, 44, 45, 46] [0, 1, 2, 3] (s1 := ⟨[(2, .pt 0 0), (3, .pt 1 0), (5, .sl 2 0 x9.length), (6, .sl 3 0 v12.length), (8, .v (.int .i64 (gt x9 v11))), (38, .sl 2 0 x9.length), (39, .v (.int .i64 (x9.length : Int))), (40, .v (.int .i64 v11)), (44, .sl 2 0 x9.length), (45, .v (.int .i64 (x9.length : Int))), (46, .v (.int .i64 (IntKind.wrap .i64 (v13 + 1))))], [(0, .box [.bs false 2 (List.map enc_si p1), .v (.int .i64 p2)]), (1, .box [.bs false 1 (List.map enc_i p3)]), (2, .arr 1 (List.map enc_i x9)), (3, .arr 2 (List.map enc_ii v12))]⟩) (C := True) (by kernel_rfl) trivial trivial ?_
        refine ⟨(fu, (v12, IntKind.wrap .i64 (v13 + 1))), h, Nat.lt_succ_self _, ?_⟩
        refine Wk.trans (Wk.forget [2, 3, 5, 6, 8, 38, 39, 40, 44, 45, 46] [0, 1, 2, 3] (s' := ⟨[(2, .pt 0 0), (3, .pt 1 0), (5, .sl 2 0 x9.length), (6, .sl 3 0 v12.length), (8, .v (.int .i64 (gt x9 v11))), (38, .sl 2 0 x9.length), (39, .v (.int .i64 (x9.length : Int))), (40, .v (.int .i64 v11)), (44, .sl 2 0 x9.length), (45, .v (.int .i64 (x9.length : Int))), (46, .v (.int .i64 (IntKind.wrap .i64 (v13 + 1))))], [(0, .box [.bs false 2 (List.map enc_si p1), .v (.int .i64 p2)]), (1, .box [.bs false 1 (List.map enc_i p3)]), (2, .arr 1 (List.map enc_i x9)), (3, .arr 2 (List.map enc_ii v12))]⟩) (by kernel_rfl)) ?_
        exact Wk.refl _
    · replace h := cd_f b13 h
      refine AX.condF (decide (v13 < (x9.length : Int))) (by kernel_rfl) b13 ?_
      refine AX.exit ?_
      refine fin_wk (Wk.forget [2, 3, 5, 6, 38, 39, 40] [0, 1, 2, 3] (s' := ⟨[(2, .pt 0 0), (3, .pt 1 0), (5, .sl 2 0 x9.length), (6, .sl 3 0 v12.length), (38, .sl 2 0 x9.length), (39, .v (.int .i64 (x9.length : Int))), (40, .v (.int .i64 v11))], [(0, .box [.bs false 2 (List.map enc_si p1), .v (.int .i64 p2)]), (1, .box [.bs false 1 (List.map enc_i p3)]), (2, .arr 1 (List.map enc_i x9)), (3, .arr 2 (List.map enc_ii v12))]⟩) (by kernel_rfl)) ?_
      have hr := Option.some.inj h
      subst hr
      exact ⟨_, Wk.refl _, ⟨rfl, rfl⟩⟩

theorem s_impl_GreatestArms_L1 (p1 : List (ByteArray × Int)) (p2 : Int) (p3 : List (Int)) (x9 : List (Int)) (n : Nat) (g : (List (Int × Int)) × Int) (out : List (Int × Int)) (h : m_impl_GreatestArms_L1 p1 p2 p3 x9 n g.1 g.2 = some out) :
    AX Try.prog 85 0 (codeAt [1, 1, 1, 1, 0, 1, 1] (bodyOf Try.f14)) ((fun g : (List (Int × Int)) × Int => (⟨[(2, .pt 0 0), (3, .pt 1 0), (5, .sl 2 0 x9.length), (6, .sl 3 0 g.1.length), (38, .sl 2 0 x9.length), (39, .v (.int .i64 (x9.length : Int))), (40, .v (.int .i64 g.2))], [(0, .box [.bs false 2 (List.map enc_si p1), .v (.int .i64 p2)]), (1, .box [.bs false 1 (List.map enc_i p3)]), (2, .arr 1 (List.map enc_i x9)), (3, .arr 2 (List.map enc_ii g.1))]⟩ : S)) g) (fun ex s => ex = .exit 0 ∧ s = (fun o : List (Int × Int) => (⟨[(6, .sl 0 0 o.length)], [(0, .arr 2 (List.map enc_ii o))]⟩ : S)) out) := by
  refine AX.wkpost ?_
  refine AX.loop (G := Nat × ((List (Int × Int)) × Int)) (fun q => (fun g : (List (Int × Int)) × Int => (⟨[(2, .pt 0 0), (3, .pt 1 0), (5, .sl 2 0 x9.length), (6, .sl 3 0 g.1.length), (38, .sl 2 0 x9.length), (39, .v (.int .i64 (x9.length : Int))), (40, .v (.int .i64 g.2))], [(0, .box [.bs false 2 (List.map enc_si p1), .v (.int .i64 p2)]), (1, .box [.bs false 1 (List.map enc_i p3)]), (2, .arr 1 (List.map enc_i x9)), (3, .arr 2 (List.map enc_ii g.1))]⟩ : S)) q.2) (fun q => m_impl_GreatestArms_L1 p1 p2 p3 x9 q.1 q.2.1 q.2.2 = some out) (fun q => q.1) (n, g) h (Wk.refl _) ?_
  clear h
  rintro ⟨fu, v10, v11⟩ h
  cases fu with
  | zero => cases h
  | succ fu =>
    rw [m_impl_GreatestArms_L1] at h
    refine AX.seq ?_
    refine AX.reg (its := []) [2, 3, 5, 6, 38, 39, 40, 41] [0, 1, 2, 3] (s1 := ⟨[(2, .pt 0 0), (3, .pt 1 0), (5, .sl 2 0 x9.length), (6, .sl 3 0 v10.length), (38, .sl 2 0 x9.length), (39, .v (.int .i64 (x9.length : Int))), (40, .v (.int .i64 v11)), (41, .v (.bool (decide (v11 < (x9.length : Int)))))], [(0, .box [.bs false 2 (List.map enc_si p1), .v (.int .i64 p2)]), (1, .box [.bs false 1 (List.map enc_i p3)]), (2, .arr 1 (List.map enc_i x9)), (3, .arr 2 (List.map enc_ii v10))]⟩) (C := True) (by kernel_rfl) trivial trivial ?_
    refine AX.seq ?_
    rcases bool_cases (decide (v11 < (x9.length : Int))) with b11 | b11
    · replace h := cd_t b11 h
      refine AX.condT (decide (v11 < (x9.length : Int))) (by kernel_rfl) b11 ?_
      refine AX.skip ?_
      refine AX.seq ?_
      refine AX.block ?_
      refine AX.seq ?_
      obtain ⟨g12, h⟩ := gd_e h
      refine AX.reg (its := [.auto {}, .auto { y := some (.v (.int .i64 (gt x9 v11))) }]) [2, 3, 5, 6, 8, 38, 39, 40] [0, 1, 2, 3] (s1 := ⟨[(2, .pt 0 0), (3, .pt 1 0), (5, .sl 2 0 x9.length), (6, .sl 3 0 v10.length), (8, .v (.int .i64 (gt x9 v11))), (38, .sl 2 0 x9.length), (39, .v (.int .i64 (x9.length : Int))), (40, .v (.int .i64 v11))], [(0, .box [.bs false 2 (List.map enc_si p1), .v (.int .i64 p2)]), (1, .box [.bs false 1 (List.map enc_i p3)]), (2, .arr 1 (List.map enc_i x9)), (3, .arr 2 (List.map enc_ii v10))]⟩) (C := (0 ≤ v11 ∧ v11 < (x9.length : Int)) ∧ (True ∧ (AV.v (((List.map enc_i x9).getD (0 + v11.toNat) []).getD 0 undef) = .v (.int .i64 (gt x9 v11)))) ∧ True) (by kernel_rfl) ⟨g12, ⟨⟨trivial, (congrArg (fun z : List Value => AV.v (z.getD 0 undef)) (idx_arr (enc := enc_i) rfl g12))⟩, trivial⟩⟩ trivial ?_
      refine AX.seq ?_
      refine AX.reg (its := []) [2, 3, 5, 6, 8, 38, 39, 40, 44, 45, 46] [0, 1, 2, 3] (s1 := ⟨[(2, .pt 0 0), (3, .pt 1 0), (5, .sl 2 0 x9.length), (6, .sl 3 0 v10.length), (8, .v (.int .i64 (gt x9 v11))), (38, .sl 2 0 x9.length), (39, .v (.int .i64 (x9.length : Int))), (40, .v (.int .i64 v11)), (44, .sl 2 0 x9.length), (45, .v (.int .i64 (x9.length : Int))), (46, .v (.int .i64 0))], [(0, .box [.bs false 2 (List.map enc_si p1), .v (.int .i64 p2)]), (1, .box [.bs false 1 (List.map enc_i p3)]), (2, .arr 1 (List.map enc_i x9)), (3, .arr 2 (List.map enc_ii v10))]⟩) (C := True) (by kernel_rfl) trivial trivial ?_
      refine AX.block ?_
      obtain ⟨x16, e20, h⟩ := bd_e h
      refine AX.wk (Wk.forget [2, 3, 5, 6, 8, 38, 39, 40, 44, 45, 46] [0, 1, 2, 3] (s' := ⟨[(2, .pt 0 0), (3, .pt 1 0), (5, .sl 2 0 x9.length), (6, .sl 3 0 v10.length), (8, .v (.int .i64 (gt x9 v11))), (38, .sl 2 0 x9.length), (39, .v (.int .i64 (x9.length : Int))), (40, .v (.int .i64 v11)), (44, .sl 2 0 x9.length), (45, .v (.int .i64 (x9.length : Int))), (46, .v (.int .i64 0))], [(0, .box [.bs false 2 (List.map enc_si p1), .v (.int .i64 p2)]), (1, .box [.bs false 1 (List.map enc_i p3)]), (2, .arr 1 (List.map enc_i x9)), (3, .arr 2 (List.map enc_ii v10))]⟩) (by kernel_rfl)) ?_
      refine AX.mono (s_impl_GreatestArms_L2 p1 p2 p3 x9 v11 FU (v10, 0) x16 e20) ?_
      rintro _ _ ⟨rfl, rfl⟩
      skip
      refine AX.reg (its := [.auto { raw := true }]) [2, 3, 5, 6, 38, 39, 40] [0, 1, 2, 3] (s1 := ⟨[(2, .pt 0 0), (3, .pt 1 0), (5, .sl 2 0 x9.length), (6, .sl 3 0 x16.length), (38, .sl 2 0 x9.length), (39, .v (.int .i64 (x9.length : Int))), (40, .v (.int .i64 (IntKind.wrap .i64 (v11 + 1))))], [(0, .box [.bs false 2 (List.map enc_si p1), .v (.int .i64 p2)]), (1, .box [.bs false 1 (List.map enc_i p3)]), (2, .arr 1 (List.map enc_i x9)), (3, .arr 2 (List.map enc_ii x16))]⟩) (C := True) (by kernel_rfl) trivial trivial ?_
      refine ⟨(fu, (x16, IntKind.wrap .i64 (v11 + 1))), h, Nat.lt_succ_self _, ?_⟩
      refine Wk.trans (Wk.forget [2, 3, 5, 6, 38, 39, 40] [0, 1, 2, 3] (s' := ⟨[(2, .pt 0 0), (3, .pt 1 0), (5, .sl 2 0 x9.length), (6, .sl 3 0 x16.length), (38, .sl 2 0 x9.length), (39, .v (.int .i64 (x9.length : Int))), (40, .v (.int .i64 (IntKind.wrap .i64 (v11 + 1))))], [(0, .box [.bs false 2 (List.map enc_si p1), .v (.int .i64 p2)]), (1, .box [.bs false 1 (List.map enc_i p3)]), (2, .arr 1 (List.map enc_i x9)), (3, .arr 2 (List.map enc_ii x16))]⟩) (by kernel_rfl)) ?_
      exact Wk.refl _
    · replace h := cd_f b11 h
      refine AX.condF (decide (v11 < (x9.length : Int))) (by kernel_rfl) b11 ?_
      refine AX.exit ?_
      refine fin_wk (Wk.swap 0 3 (Nat.le_of_ble_eq_true (by kernel_rfl)) (Nat.le_of_ble_eq_true (by kernel_rfl)) rfl) ?_
      refine fin_wk (Wk.forget [6] [0] (s' := ⟨[(6, .sl 0 0 v10.length)], [(0, .arr 2 (List.map enc_ii v10))]⟩) (by kernel_rfl)) ?_
      have hr := Option.some.inj h
      subst hr
      exact ⟨_, Wk.refl _, ⟨rfl, rfl⟩⟩

theorem s_impl_GreatestArms_L3 (x17 : List (Int × Int)) (n : Nat) (g : (List (Int × Int)) × Int) (out : List (Int × Int)) (h : m_impl_GreatestArms_L3 x17 n g.1 g.2 = some out) :
    AX Try.prog 85 0 (codeAt [1, 1, 1, 1, 1, 1, 0, 1, 1] (bodyOf Try.f14)) ((fun g : (List (Int × Int)) × Int => (⟨[(6, .sl 0 0 x17.length), (12, .sl 1 0 g.1.length), (68, .sl 0 0 x17.length), (69, .v (.int .i64 (x17.length : Int))), (70, .v (.int .i64 g.2))], [(0, .arr 2 (List.map enc_ii x17)), (1, .arr 2 (List.map enc_ii g.1))]⟩ : S)) g) (fun ex s => ex = .exit 4 ∧ s = (fun o : List (Int × Int) => (⟨[(12, .sl 0 0 o.length)], [(0, .arr 2 (List.map enc_ii o))]⟩ : S)) out) := by
  refine AX.wkpost ?_
  refine AX.loop (G := Nat × ((List (Int × Int)) × Int)) (fun q => (fun g : (List (Int × Int)) × Int => (⟨[(6, .sl 0 0 x17.length), (12, .sl 1 0 g.1.length), (68, .sl 0 0 x17.length), (69, .v (.int .i64 (x17.length : Int))), (70, .v (.int .i64 g.2))], [(0, .arr 2 (List.map enc_ii x17)), (1, .arr 2 (List.map enc_ii g.1))]⟩ : S)) q.2) (fun q => m_impl_GreatestArms_L3 x17 q.1 q.2.1 q.2.2 = some out) (fun q => q.1) (n, g) h (Wk.refl _) ?_
  clear h
  rintro ⟨fu, v18, v19⟩ h
  cases fu with
  | zero => cases h
  | succ fu =>
    rw [m_impl_GreatestArms_L3] at h
    refine AX.seq ?_
    refine AX.reg (its := []) [6, 12, 68, 69, 70, 71] [0, 1] (s1 := ⟨[(6, .sl 0 0 x17.length), (12, .sl 1 0 v18.length), (68, .sl 0 0 x17.length), (69, .v (.int .i64 (x17.length : Int))), (70, .v (.int .i64 v19)), (71, .v (.bool (decide (v19 < (x17.length : Int)))))], [(0, .arr 2 (List.map enc_ii x17)), (1, .arr 2 (List.map enc_ii v18))]⟩) (C := True) (by kernel_rfl) trivial trivial ?_
    refine AX.seq ?_
    rcases bool_cases (decide (v19 < (x17.length : Int))) with b22 | b22
    · replace h := cd_t b22 h
      refine AX.condT (decide (v19 < (x17.length : Int))) (by kernel_rfl) b22 ?_
      refine AX.skip ?_
      refine AX.seq ?_
      refine AX.block ?_
      refine AX.seq ?_
      obtain ⟨g23, h⟩ := gd_e h
      refine AX.reg (its := [.auto {}, .auto { y := some (.agg [.v (.int .i64 ((gt x17 v19).1)), .v (.int .i64 ((gt x17 v19).2))]) }, .auto { nk := 2 }]) [6, 12, 14, 68, 69, 70] [0, 1, 2] (s1 := ⟨[(6, .sl 0 0 x17.length), (12, .sl 1 0 v18.length), (14, .pt 2 0), (68, .sl 0 0 x17.length), (69, .v (.int .i64 (x17.length : Int))), (70, .v (.int .i64 v19))], [(0, .arr 2 (List.map enc_ii x17)), (1, .arr 2 (List.map enc_ii v18)), (2, .box [.v (.int .i64 ((gt x17 v19).1)), .v (.int .i64 ((gt x17 v19).2))])]⟩) (C := (0 ≤ v19 ∧ v19 < (x17.length : Int)) ∧ (True ∧ (AV.agg ((((List.map enc_ii x17).getD (0 + v19.toNat) []).drop 0 |>.take 2).map .v) = .agg [.v (.int .i64 ((gt x17 v19).1)), .v (.int .i64 ((gt x17 v19).2))])) ∧ True) (by kernel_rfl) ⟨g23, ⟨⟨trivial, (congrArg (fun z : List Value => AV.agg (((z.drop 0).take 2).map .v)) (idx_arr (enc := enc_ii) rfl g23))⟩, trivial⟩⟩ trivial ?_
      refine AX.seq ?_
      obtain ⟨x20, e24, h⟩ := bd_e h
      refine AX.reg (its := [.auto {}, .auto {}, .call 89 [.sl 0 0 x17.length, .fn 90 [.pt 2 0]] (handO (rho ([] ++ [])) [] [] ++ [(0, .arr 2 (List.map enc_ii x17)), (2, .box [.v (.int .i64 ((gt x17 v19).1)), .v (.int .i64 ((gt x17 v19).2))])]) (callEv [] [] (.v (.bool x20)) [])]) [6, 12, 14, 68, 69, 70, 77] [0, 1, 2] (s1 := ⟨[(6, .sl 0 0 x17.length), (12, .sl 1 0 v18.length), (14, .pt 2 0), (68, .sl 0 0 x17.length), (69, .v (.int .i64 (x17.length : Int))), (70, .v (.int .i64 v19)), (77, .v (.bool (!x20)))], [(0, .arr 2 (List.map enc_ii x17)), (1, .arr 2 (List.map enc_ii v18)), (2, .box [.v (.int .i64 ((gt x17 v19).1)), .v (.int .i64 ((gt x17 v19).2))])]⟩) (C := ((([.sl 0 0 x17.length, .fn 90 [.pt 2 0]] : List AV) = [.sl 0 0 x17.length, .fn 90 [.pt 2 0]]) ∧ (AO.arr 2 (List.map enc_ii x17) = AO.arr 2 (List.map enc_ii x17)) ∧ (AO.box [.v (.int .i64 ((gt x17 v19).1)), .v (.int .i64 ((gt x17 v19).2))] = AO.box [.v (.int .i64 ((gt x17 v19).1)), .v (.int .i64 ((gt x17 v19).2))]) ∧ True) ∧ True) (by kernel_rfl) ⟨⟨rfl, rfl, rfl, trivial⟩, trivial⟩ ⟨call_ok (ks := []) (ns := []) (bor := [0, 2]) (bobjs := [(0, .arr 2 (List.map enc_ii x17)), (2, .box [.v (.int .i64 ((gt x17 v19).1)), .v (.int .i64 ((gt x17 v19).2))])]) (s_slices_ContainsFunc_ii_GreatestArms_3_l x17 ((gt x17 v19).1) ((gt x17 v19).2) x20 e24) (.cons (.c1 (.c0 (.arr rfl rfl ((rfl).trans (List.length_map ..).symm)))) (.cons (.fn (.cons (.box rfl rfl (.cons (.same _ (by kernel_rfl) (by kernel_rfl)) (.cons (.same _ (by kernel_rfl) (by kernel_rfl)) (.nil)))) (.nil))) (.nil))) (by kernel_rfl) trivial, trivial⟩ ?_
      rcases bool_cases ((!x20)) with b25 | b25
      · replace h := cd_t b25 h
        refine AX.condT ((!x20)) (by kernel_rfl) b25 ?_
        obtain ⟨g26, h⟩ := gd_e h
        refine AX.reg (its := [.auto {}, .auto {}, .auto { nk := 3 }, .auto { y := some (.sl 4 0 ((v18 ++ ([((gt x17 v19).1, (gt x17 v19).2)] : List (Int × Int))).length)), els := some (List.map enc_ii v18), els2 := some (List.map enc_ii ([((gt x17 v19).1, (gt x17 v19).2)] : List (Int × Int))), nk := 4 }]) [6, 12, 68, 69, 70] [0, 4] (s1 := ⟨[(6, .sl 0 0 x17.length), (12, .sl 4 0 ((v18 ++ ([((gt x17 v19).1, (gt x17 v19).2)] : List (Int × Int))).length)), (68, .sl 0 0 x17.length), (69, .v (.int .i64 (x17.length : Int))), (70, .v (.int .i64 v19))], [(0, .arr 2 (List.map enc_ii x17)), (4, .arr 2 (List.map enc_ii v18 ++ List.map enc_ii ([((gt x17 v19).1, (gt x17 v19).2)] : List (Int × Int))))]⟩) (C := ((((((List.map enc_ii v18).drop 0).take (v18.length) = List.map enc_ii v18) ∧ (((List.map enc_ii ([((gt x17 v19).1, (gt x17 v19).2)] : List (Int × Int))).drop 0).take (([((gt x17 v19).1, (gt x17 v19).2)] : List (Int × Int)).length) = List.map enc_ii ([((gt x17 v19).1, (gt x17 v19).2)] : List (Int × Int)))) ∧ (List.map enc_ii v18).length + (List.map enc_ii ([((gt x17 v19).1, (gt x17 v19).2)] : List (Int × Int))).length ≤ 1099511627776) ∧ (AV.sl 4 0 (List.map enc_ii v18 ++ List.map enc_ii ([((gt x17 v19).1, (gt x17 v19).2)] : List (Int × Int))).length = AV.sl 4 0 (v18 ++ ([((gt x17 v19).1, (gt x17 v19).2)] : List (Int × Int))).length)) ∧ True) (by kernel_rfl) ⟨⟨⟨⟨(dt_all (enc := enc_ii) rfl rfl), (dt_all (enc := enc_ii) rfl rfl)⟩, (by simp only [List.length_map, List.length_nil]; simpa using g26)⟩, sl_len (enc := enc_ii) (app_can (enc := enc_ii) rfl rfl)⟩, trivial⟩ trivial ?_
        refine AX.reg (its := [.auto { raw := true }]) [6, 12, 68, 69, 70] [0, 4] (s1 := ⟨[(6, .sl 0 0 x17.length), (12, .sl 4 0 ((v18 ++ ([((gt x17 v19).1, (gt x17 v19).2)] : List (Int × Int))).length)), (68, .sl 0 0 x17.length), (69, .v (.int .i64 (x17.length : Int))), (70, .v (.int .i64 (IntKind.wrap .i64 (v19 + 1))))], [(0, .arr 2 (List.map enc_ii x17)), (4, .arr 2 (List.map enc_ii v18 ++ List.map enc_ii ([((gt x17 v19).1, (gt x17 v19).2)] : List (Int × Int))))]⟩) (C := True) (by kernel_rfl) trivial trivial ?_
        refine ⟨(fu, (v18 ++ ([((gt x17 v19).1, (gt x17 v19).2)] : List (Int × Int)), IntKind.wrap .i64 (v19 + 1))), h, Nat.lt_succ_self _, ?_⟩
        refine Wk.trans (Wk.swap 1 4 (Nat.le_of_ble_eq_true (by kernel_rfl)) (Nat.le_of_ble_eq_true (by kernel_rfl)) rfl) ?_
        refine Wk.trans (Wk.forget [6, 12, 68, 69, 70] [0, 1] (s' := ⟨[(6, .sl 0 0 x17.length), (12, .sl 1 0 ((v18 ++ ([((gt x17 v19).1, (gt x17 v19).2)] : List (Int × Int))).length)), (68, .sl 0 0 x17.length), (69, .v (.int .i64 (x17.length : Int))), (70, .v (.int .i64 (IntKind.wrap .i64 (v19 + 1))))], [(0, .arr 2 (List.map enc_ii x17)), (1, .arr 2 (List.map enc_ii v18 ++ List.map enc_ii ([((gt x17 v19).1, (gt x17 v19).2)] : List (Int × Int))))]⟩) (by kernel_rfl)) ?_
        refine Wk.trans (Wk.of_eq (congrArg (fun z => (⟨[(6, .sl 0 0 x17.length), (12, .sl 1 0 ((v18 ++ ([((gt x17 v19).1, (gt x17 v19).2)] : List (Int × Int))).length)), (68, .sl 0 0 x17.length), (69, .v (.int .i64 (x17.length : Int))), (70, .v (.int .i64 (IntKind.wrap .i64 (v19 + 1))))], [(0, .arr 2 (List.map enc_ii x17)), (1, .arr 2 (z))]⟩ : S)) (app_can (enc := enc_ii) rfl rfl : List.map enc_ii v18 ++ List.map enc_ii ([((gt x17 v19).1, (gt x17 v19).2)] : List (Int × Int)) = List.map enc_ii (v18 ++ ([((gt x17 v19).1, (gt x17 v19).2)] : List (Int × Int)))))) ?_
        exact Wk.refl _
      · replace h := cd_f b25 h
        refine AX.condF ((!x20)) (by kernel_rfl) b25 ?_
        refine AX.skip ?_
        refine AX.reg (its := [.auto { raw := true }]) [6, 12, 68, 69, 70] [0, 1] (s1 := ⟨[(6, .sl 0 0 x17.length), (12, .sl 1 0 v18.length), (68, .sl 0 0 x17.length), (69, .v (.int .i64 (x17.length : Int))), (70, .v (.int .i64 (IntKind.wrap .i64 (v19 + 1))))], [(0, .arr 2 (List.map enc_ii x17)), (1, .arr 2 (List.map enc_ii v18))]⟩) (C := True) (by kernel_rfl) trivial trivial ?_
        refine ⟨(fu, (v18, IntKind.wrap .i64 (v19 + 1))), h, Nat.lt_succ_self _, ?_⟩
        refine Wk.trans (Wk.forget [6, 12, 68, 69, 70] [0, 1] (s' := ⟨[(6, .sl 0 0 x17.length), (12, .sl 1 0 v18.length), (68, .sl 0 0 x17.length), (69, .v (.int .i64 (x17.length : Int))), (70, .v (.int .i64 (IntKind.wrap .i64 (v19 + 1))))], [(0, .arr 2 (List.map enc_ii x17)), (1, .arr 2 (List.map enc_ii v18))]⟩) (by kernel_rfl)) ?_
        exact Wk.refl _
    · replace h := cd_f b22 h
      refine AX.condF (decide (v19 < (x17.length : Int))) (by kernel_rfl) b22 ?_
      refine AX.exit ?_
      refine fin_wk (Wk.swap 0 1 (Nat.le_of_ble_eq_true (by kernel_rfl)) (Nat.le_of_ble_eq_true (by kernel_rfl)) rfl) ?_
      refine fin_wk (Wk.forget [12] [0] (s' := ⟨[(12, .sl 0 0 v18.length)], [(0, .arr 2 (List.map enc_ii v18))]⟩) (by kernel_rfl)) ?_
      have hr := Option.some.inj h
      subst hr
      exact ⟨_, Wk.refl _, ⟨rfl, rfl⟩⟩

theorem s_impl_GreatestArms (p1 : List (ByteArray × Int)) (p2 : Int) (p3 : List (Int)) (r : List (Int × Int)) (h : m_impl_GreatestArms p1 p2 p3 = some r) :
    Eng.Spec Try.prog 14 [.agg [.bs false 2 (List.map enc_si p1), .v (.int .i64 p2)], .bs false 1 (List.map enc_i p3)] [] (.sl 0 0 r.length) [.arr 2 (List.map enc_ii r)] := by
  unfold m_impl_GreatestArms at h
  refine Eng.Spec.body Try.func14 (by kernel_rfl) rfl (by kernel_rfl) ?_
  refine AX.wkpost ?_
  refine AX.seq ?_
  refine AX.reg (its := [.auto { nk := 0 }, .auto { nk := 1 }]) [2, 3] [0, 1] (s1 := ⟨[(2, .pt 0 0), (3, .pt 1 0)], [(0, .box [.bs false 2 (List.map enc_si p1), .v (.int .i64 p2)]), (1, .box [.bs false 1 (List.map enc_i p3)])]⟩) (C := True) (by kernel_rfl) trivial trivial ?_
  refine AX.seq ?_
  refine AX.seq ?_
  obtain ⟨x4, e1, h⟩ := bd_e h
  rcases bool_cases ((!x4)) with b2 | b2
  · replace h := cd_t b2 h
    refine AX.reg (its := [.auto {}, .call 60 [.agg [.bs false 2 (List.map enc_si p1), .v (.int .i64 p2)]] (handO (rho ([] ++ [])) [] [] ++ []) (callEv [] [] (.v (.bool x4)) []), .auto { y := some (.v (.bool true)) }]) [2, 3, 34] [0, 1] (s1 := ⟨[(2, .pt 0 0), (3, .pt 1 0), (34, .v (.bool true))], [(0, .box [.bs false 2 (List.map enc_si p1), .v (.int .i64 p2)]), (1, .box [.bs false 1 (List.map enc_i p3)])]⟩) (C := ((([.agg [.bs false 2 (List.map enc_si p1), .v (.int .i64 p2)]] : List AV) = [.agg [.bs false 2 (List.map enc_si p1), .v (.int .i64 p2)]]) ∧ True) ∧ ((True) ∧ ((.v (.bool (!x4)) : AV) = (.v (.bool true) : AV))) ∧ True) (by kernel_rfl) ⟨⟨rfl, trivial⟩, ⟨⟨trivial, (congrArg (fun z => AV.v (.bool z)) b2)⟩, trivial⟩⟩ ⟨call_ok (ks := []) (ns := []) (bor := []) (bobjs := []) (s_impl_ValidFlag p1 p2 x4 e1) (.cons (.c1 (.agg (.cons (.same _ (by kernel_rfl) (by kernel_rfl)) (.cons (.same _ (by kernel_rfl) (by kernel_rfl)) (.nil))))) (.nil)) (by kernel_rfl) trivial, trivial⟩ ?_
    refine AX.cond_true (by kernel_rfl) ?_
    refine AX.seq ?_
    refine AX.reg (its := []) [4] [] (s1 := ⟨[(4, .v (.slice none 0 0))], []⟩) (C := True) (by kernel_rfl) trivial trivial ?_
    refine AX.ret ?_
    refine fin_wk (Wk.mat 4 0 2 (by kernel_rfl) (Nat.le_of_ble_eq_true (by kernel_rfl)) (by kernel_rfl) rfl) ?_
    refine fin_wk (Wk.forget [4] [0] (s' := ⟨[(4, .sl 0 0 (([] : List (Int × Int)).length))], [(0, .arr 2 (List.map enc_ii ([] : List (Int × Int))))]⟩) (by kernel_rfl)) ?_
    have hr := Option.some.inj h
    subst hr
    exact ⟨_, Wk.refl _, .inr rfl, ⟨[0], by kernel_rfl, ⟨rfl, trivial⟩, [.sl 0 0 (([] : List (Int × Int)).length)], by kernel_rfl, by kernel_rfl⟩⟩
  · replace h := cd_f b2 h
    obtain ⟨x5, e3, h⟩ := bd_e h
    obtain ⟨x6, e4, h⟩ := bd_e h
    rcases bool_cases (decide (6 < x6)) with b5 | b5
    · replace h := cd_t b5 h
      refine AX.reg (its := [.auto {}, .call 60 [.agg [.bs false 2 (List.map enc_si p1), .v (.int .i64 p2)]] (handO (rho ([] ++ [])) [] [] ++ []) (callEv [] [] (.v (.bool x4)) []), .auto { y := some (.v (.bool false)) }, .auto {}, .auto {}, .call 81 [.agg [.bs false 2 (List.map enc_si p1), .v (.int .i64 p2)]] (handO (rho ([] ++ [])) [] [] ++ []) (callEv [] [] (.v (.int .i64 x5)) []), .auto { raw := true }, .call 80 [.v (.int .u64 (IntKind.wrap .u64 (x5)))] (handO (rho ([] ++ [])) [] [] ++ []) (callEv [] [] (.v (.int .i64 x6)) []), .auto { y := some (.v (.bool true)) }]) [2, 3, 34] [0, 1] (s1 := ⟨[(2, .pt 0 0), (3, .pt 1 0), (34, .v (.bool true))], [(0, .box [.bs false 2 (List.map enc_si p1), .v (.int .i64 p2)]), (1, .box [.bs false 1 (List.map enc_i p3)])]⟩) (C := ((([.agg [.bs false 2 (List.map enc_si p1), .v (.int .i64 p2)]] : List AV) = [.agg [.bs false 2 (List.map enc_si p1), .v (.int .i64 p2)]]) ∧ True) ∧ ((True) ∧ ((.v (.bool (!x4)) : AV) = (.v (.bool false) : AV))) ∧ ((([.agg [.bs false 2 (List.map enc_si p1), .v (.int .i64 p2)]] : List AV) = [.agg [.bs false 2 (List.map enc_si p1), .v (.int .i64 p2)]]) ∧ True) ∧ ((([.v (.int .u64 (IntKind.wrap .u64 (x5)))] : List AV) = [.v (.int .u64 (IntKind.wrap .u64 (x5)))]) ∧ True) ∧ ((True) ∧ ((.v (.bool (decide (6 < x6))) : AV) = (.v (.bool true) : AV))) ∧ True) (by kernel_rfl) ⟨⟨rfl, trivial⟩, ⟨⟨trivial, (congrArg (fun z => AV.v (.bool z)) b2)⟩, ⟨⟨rfl, trivial⟩, ⟨⟨rfl, trivial⟩, ⟨⟨trivial, (congrArg (fun z => AV.v (.bool z)) b5)⟩, trivial⟩⟩⟩⟩⟩ ⟨call_ok (ks := []) (ns := []) (bor := []) (bobjs := []) (s_impl_ValidFlag p1 p2 x4 e1) (.cons (.c1 (.agg (.cons (.same _ (by kernel_rfl) (by kernel_rfl)) (.cons (.same _ (by kernel_rfl) (by kernel_rfl)) (.nil))))) (.nil)) (by kernel_rfl) trivial, ⟨call_ok (ks := []) (ns := []) (bor := []) (bobjs := []) (s_impl_Flag_mask p1 p2 x5 e3) (.cons (.c1 (.agg (.cons (.same _ (by kernel_rfl) (by kernel_rfl)) (.cons (.same _ (by kernel_rfl) (by kernel_rfl)) (.nil))))) (.nil)) (by kernel_rfl) trivial, ⟨call_ok (ks := []) (ns := []) (bor := []) (bobjs := []) (s_math_bits_OnesCount (IntKind.wrap .u64 (x5)) x6 e4) (.cons (.c1 (.c0 (.same _ (by kernel_rfl) (by kernel_rfl)))) (.nil)) (by kernel_rfl) trivial, trivial⟩⟩⟩ ?_
      refine AX.cond_true (by kernel_rfl) ?_
      refine AX.seq ?_
      refine AX.reg (its := []) [4] [] (s1 := ⟨[(4, .v (.slice none 0 0))], []⟩) (C := True) (by kernel_rfl) trivial trivial ?_
      refine AX.ret ?_
      refine fin_wk (Wk.mat 4 0 2 (by kernel_rfl) (Nat.le_of_ble_eq_true (by kernel_rfl)) (by kernel_rfl) rfl) ?_
      refine fin_wk (Wk.forget [4] [0] (s' := ⟨[(4, .sl 0 0 (([] : List (Int × Int)).length))], [(0, .arr 2 (List.map enc_ii ([] : List (Int × Int))))]⟩) (by kernel_rfl)) ?_
      have hr := Option.some.inj h
      subst hr
      exact ⟨_, Wk.refl _, .inr rfl, ⟨[0], by kernel_rfl, ⟨rfl, trivial⟩, [.sl 0 0 (([] : List (Int × Int)).length)], by kernel_rfl, by kernel_rfl⟩⟩
    · replace h := cd_f b5 h
      rcases bool_cases (decide (64 < (p3.length : Int))) with b6 | b6
      · replace h := cd_t b6 h
        refine AX.reg (its := [.auto {}, .call 60 [.agg [.bs false 2 (List.map enc_si p1), .v (.int .i64 p2)]] (handO (rho ([] ++ [])) [] [] ++ []) (callEv [] [] (.v (.bool x4)) []), .auto { y := some (.v (.bool false)) }, .auto {}, .auto {}, .call 81 [.agg [.bs false 2 (List.map enc_si p1), .v (.int .i64 p2)]] (handO (rho ([] ++ [])) [] [] ++ []) (callEv [] [] (.v (.int .i64 x5)) []), .auto { raw := true }, .call 80 [.v (.int .u64 (IntKind.wrap .u64 (x5)))] (handO (rho ([] ++ [])) [] [] ++ []) (callEv [] [] (.v (.int .i64 x6)) []), .auto { y := some (.v (.bool false)) }, .auto {}, .auto {}, .auto {}, .auto { y := some (.v (.int .i64 (p3.length : Int))) }, .auto { y := some (.v (.bool true)) }]) [2, 3, 34] [0, 1] (s1 := ⟨[(2, .pt 0 0), (3, .pt 1 0), (34, .v (.bool true))], [(0, .box [.bs false 2 (List.map enc_si p1), .v (.int .i64 p2)]), (1, .box [.bs false 1 (List.map enc_i p3)])]⟩) (C := ((([.agg [.bs false 2 (List.map enc_si p1), .v (.int .i64 p2)]] : List AV) = [.agg [.bs false 2 (List.map enc_si p1), .v (.int .i64 p2)]]) ∧ True) ∧ ((True) ∧ ((.v (.bool (!x4)) : AV) = (.v (.bool false) : AV))) ∧ ((([.agg [.bs false 2 (List.map enc_si p1), .v (.int .i64 p2)]] : List AV) = [.agg [.bs false 2 (List.map enc_si p1), .v (.int .i64 p2)]]) ∧ True) ∧ ((([.v (.int .u64 (IntKind.wrap .u64 (x5)))] : List AV) = [.v (.int .u64 (IntKind.wrap .u64 (x5)))]) ∧ True) ∧ ((True) ∧ ((.v (.bool (decide (6 < x6))) : AV) = (.v (.bool false) : AV))) ∧ (True ∧ (AV.v (.int .i64 ((List.map enc_i p3).length : Int)) = AV.v (.int .i64 (p3.length : Int)))) ∧ ((True) ∧ ((.v (.bool (decide (64 < (p3.length : Int)))) : AV) = (.v (.bool true) : AV))) ∧ True) (by kernel_rfl) ⟨⟨rfl, trivial⟩, ⟨⟨trivial, (congrArg (fun z => AV.v (.bool z)) b2)⟩, ⟨⟨rfl, trivial⟩, ⟨⟨rfl, trivial⟩, ⟨⟨trivial, (congrArg (fun z => AV.v (.bool z)) b5)⟩, ⟨⟨trivial, len_map enc_i p3⟩, ⟨⟨trivial, (congrArg (fun z => AV.v (.bool z)) b6)⟩, trivial⟩⟩⟩⟩⟩⟩⟩ ⟨call_ok (ks := []) (ns := []) (bor := []) (bobjs := []) (s_impl_ValidFlag p1 p2 x4 e1) (.cons (.c1 (.agg (.cons (.same _ (by kernel_rfl) (by kernel_rfl)) (.cons (.same _ (by kernel_rfl) (by kernel_rfl)) (.nil))))) (.nil)) (by kernel_rfl) trivial, ⟨call_ok (ks := []) (ns := []) (bor := []) (bobjs := []) (s_impl_Flag_mask p1 p2 x5 e3) (.cons (.c1 (.agg (.cons (.same _ (by kernel_rfl) (by kernel_rfl)) (.cons (.same _ (by kernel_rfl) (by kernel_rfl)) (.nil))))) (.nil)) (by kernel_rfl) trivial, ⟨call_ok (ks := []) (ns := []) (bor := []) (bobjs := []) (s_math_bits_OnesCount (IntKind.wrap .u64 (x5)) x6 e4) (.cons (.c1 (.c0 (.same _ (by kernel_rfl) (by kernel_rfl)))) (.nil)) (by kernel_rfl) trivial, trivial⟩⟩⟩ ?_
        refine AX.cond_true (by kernel_rfl) ?_
        refine AX.seq ?_
        refine AX.reg (its := []) [4] [] (s1 := ⟨[(4, .v (.slice none 0 0))], []⟩) (C := True) (by kernel_rfl) trivial trivial ?_
        refine AX.ret ?_
        refine fin_wk (Wk.mat 4 0 2 (by kernel_rfl) (Nat.le_of_ble_eq_true (by kernel_rfl)) (by kernel_rfl) rfl) ?_
        refine fin_wk (Wk.forget [4] [0] (s' := ⟨[(4, .sl 0 0 (([] : List (Int × Int)).length))], [(0, .arr 2 (List.map enc_ii ([] : List (Int × Int))))]⟩) (by kernel_rfl)) ?_
        have hr := Option.some.inj h
        subst hr
        exact ⟨_, Wk.refl _, .inr rfl, ⟨[0], by kernel_rfl, ⟨rfl, trivial⟩, [.sl 0 0 (([] : List (Int × Int)).length)], by kernel_rfl, by kernel_rfl⟩⟩
      · replace h := cd_f b6 h
        obtain ⟨x7, e7, h⟩ := bd_e h
        refine AX.reg (its := [.auto {}, .call 60 [.agg [.bs false 2 (List.map enc_si p1), .v (.int .i64 p2)]] (handO (rho ([] ++ [])) [] [] ++ []) (callEv [] [] (.v (.bool x4)) []), .auto { y := some (.v (.bool false)) }, .auto {}, .auto {}, .call 81 [.agg [.bs false 2 (List.map enc_si p1), .v (.int .i64 p2)]] (handO (rho ([] ++ [])) [] [] ++ []) (callEv [] [] (.v (.int .i64 x5)) []), .auto { raw := true }, .call 80 [.v (.int .u64 (IntKind.wrap .u64 (x5)))] (handO (rho ([] ++ [])) [] [] ++ []) (callEv [] [] (.v (.int .i64 x6)) []), .auto { y := some (.v (.bool false)) }, .auto {}, .auto {}, .auto {}, .auto { y := some (.v (.int .i64 (p3.length : Int))) }, .auto { y := some (.v (.bool false)) }, .auto {}, .auto {}, .auto {}, .auto {}, .call 82 [.bs false 1 (List.map enc_i p3), .fn 83 [.pt 0 0]] (handO (rho ([] ++ [])) [] [] ++ [(0, .box [.bs false 2 (List.map enc_si p1), .v (.int .i64 p2)])]) (callEv [] [] (.v (.bool x7)) [])]) [2, 3, 34] [0, 1] (s1 := ⟨[(2, .pt 0 0), (3, .pt 1 0), (34, .v (.bool x7))], [(0, .box [.bs false 2 (List.map enc_si p1), .v (.int .i64 p2)]), (1, .box [.bs false 1 (List.map enc_i p3)])]⟩) (C := ((([.agg [.bs false 2 (List.map enc_si p1), .v (.int .i64 p2)]] : List AV) = [.agg [.bs false 2 (List.map enc_si p1), .v (.int .i64 p2)]]) ∧ True) ∧ ((True) ∧ ((.v (.bool (!x4)) : AV) = (.v (.bool false) : AV))) ∧ ((([.agg [.bs false 2 (List.map enc_si p1), .v (.int .i64 p2)]] : List AV) = [.agg [.bs false 2 (List.map enc_si p1), .v (.int .i64 p2)]]) ∧ True) ∧ ((([.v (.int .u64 (IntKind.wrap .u64 (x5)))] : List AV) = [.v (.int .u64 (IntKind.wrap .u64 (x5)))]) ∧ True) ∧ ((True) ∧ ((.v (.bool (decide (6 < x6))) : AV) = (.v (.bool false) : AV))) ∧ (True ∧ (AV.v (.int .i64 ((List.map enc_i p3).length : Int)) = AV.v (.int .i64 (p3.length : Int)))) ∧ ((True) ∧ ((.v (.bool (decide (64 < (p3.length : Int)))) : AV) = (.v (.bool false) : AV))) ∧ ((([.bs false 1 (List.map enc_i p3), .fn 83 [.pt 0 0]] : List AV) = [.bs false 1 (List.map enc_i p3), .fn 83 [.pt 0 0]]) ∧ (AO.box [.bs false 2 (List.map enc_si p1), .v (.int .i64 p2)] = AO.box [.bs false 2 (List.map enc_si p1), .v (.int .i64 p2)]) ∧ True) ∧ True) (by kernel_rfl) ⟨⟨rfl, trivial⟩, ⟨⟨trivial, (congrArg (fun z => AV.v (.bool z)) b2)⟩, ⟨⟨rfl, trivial⟩, ⟨⟨rfl, trivial⟩, ⟨⟨trivial, (congrArg (fun z => AV.v (.bool z)) b5)⟩, ⟨⟨trivial, len_map enc_i p3⟩, ⟨⟨trivial, (congrArg (fun z => AV.v (.bool z)) b6)⟩, ⟨⟨rfl, rfl, trivial⟩, trivial⟩⟩⟩⟩⟩⟩⟩⟩ ⟨call_ok (ks := []) (ns := []) (bor := []) (bobjs := []) (s_impl_ValidFlag p1 p2 x4 e1) (.cons (.c1 (.agg (.cons (.same _ (by kernel_rfl) (by kernel_rfl)) (.cons (.same _ (by kernel_rfl) (by kernel_rfl)) (.nil))))) (.nil)) (by kernel_rfl) trivial, ⟨call_ok (ks := []) (ns := []) (bor := []) (bobjs := []) (s_impl_Flag_mask p1 p2 x5 e3) (.cons (.c1 (.agg (.cons (.same _ (by kernel_rfl) (by kernel_rfl)) (.cons (.same _ (by kernel_rfl) (by kernel_rfl)) (.nil))))) (.nil)) (by kernel_rfl) trivial, ⟨call_ok (ks := []) (ns := []) (bor := []) (bobjs := []) (s_math_bits_OnesCount (IntKind.wrap .u64 (x5)) x6 e4) (.cons (.c1 (.c0 (.same _ (by kernel_rfl) (by kernel_rfl)))) (.nil)) (by kernel_rfl) trivial, ⟨call_ok (ks := []) (ns := []) (bor := [0]) (bobjs := [(0, .box [.bs false 2 (List.map enc_si p1), .v (.int .i64 p2)])]) (s_slices_ContainsFunc_i_GreatestArms_1_lsi p3 p1 p2 x7 e7) (.cons (.c1 (.c0 (.same _ (by kernel_rfl) (by kernel_rfl)))) (.cons (.fn (.cons (.box rfl rfl (.cons (.same _ (by kernel_rfl) (by kernel_rfl)) (.cons (.same _ (by kernel_rfl) (by kernel_rfl)) (.nil)))) (.nil))) (.nil))) (by kernel_rfl) trivial, trivial⟩⟩⟩⟩ ?_
        rcases bool_cases (x7) with b8 | b8
        · replace h := cd_t b8 h
          refine AX.condT (x7) (by kernel_rfl) b8 ?_
          refine AX.seq ?_
          refine AX.reg (its := []) [4] [] (s1 := ⟨[(4, .v (.slice none 0 0))], []⟩) (C := True) (by kernel_rfl) trivial trivial ?_
          refine AX.ret ?_
          refine fin_wk (Wk.mat 4 0 2 (by kernel_rfl) (Nat.le_of_ble_eq_true (by kernel_rfl)) (by kernel_rfl) rfl) ?_
          refine fin_wk (Wk.forget [4] [0] (s' := ⟨[(4, .sl 0 0 (([] : List (Int × Int)).length))], [(0, .arr 2 (List.map enc_ii ([] : List (Int × Int))))]⟩) (by kernel_rfl)) ?_
          have hr := Option.some.inj h
          subst hr
          exact ⟨_, Wk.refl _, .inr rfl, ⟨[0], by kernel_rfl, ⟨rfl, trivial⟩, [.sl 0 0 (([] : List (Int × Int)).length)], by kernel_rfl, by kernel_rfl⟩⟩
        · replace h := cd_f b8 h
          refine AX.condF (x7) (by kernel_rfl) b8 ?_
          refine AX.skip ?_
          refine AX.seq ?_
          obtain ⟨x8, e9, h⟩ := bd_e h
          obtain ⟨x9, e10, h⟩ := bd_e h
          refine AX.reg (its := [.auto {}, .call 81 [.agg [.bs false 2 (List.map enc_si p1), .v (.int .i64 p2)]] (handO (rho ([] ++ [])) [] [] ++ []) (callEv [] [] (.v (.int .i64 x8)) []), .call 84 [.v (.int .i64 x8)] (handO (rho ([] ++ [2])) [] [] ++ []) (callEv [] [2] (.sl 0 0 x9.length) [.arr 1 (List.map enc_i x9)])]) [2, 3, 5] [0, 1, 2] (s1 := ⟨[(2, .pt 0 0), (3, .pt 1 0), (5, .sl 2 0 x9.length)], [(0, .box [.bs false 2 (List.map enc_si p1), .v (.int .i64 p2)]), (1, .box [.bs false 1 (List.map enc_i p3)]), (2, .arr 1 (List.map enc_i x9))]⟩) (C := ((([.agg [.bs false 2 (List.map enc_si p1), .v (.int .i64 p2)]] : List AV) = [.agg [.bs false 2 (List.map enc_si p1), .v (.int .i64 p2)]]) ∧ True) ∧ ((([.v (.int .i64 x8)] : List AV) = [.v (.int .i64 x8)]) ∧ True) ∧ True) (by kernel_rfl) ⟨⟨rfl, trivial⟩, ⟨⟨rfl, trivial⟩, trivial⟩⟩ ⟨call_ok (ks := []) (ns := []) (bor := []) (bobjs := []) (s_impl_Flag_mask p1 p2 x8 e9) (.cons (.c1 (.agg (.cons (.same _ (by kernel_rfl) (by kernel_rfl)) (.cons (.same _ (by kernel_rfl) (by kernel_rfl)) (.nil))))) (.nil)) (by kernel_rfl) trivial, ⟨call_ok (ks := []) (ns := [2]) (bor := []) (bobjs := []) (s_impl_inside x8 x9 e10) (.cons (.c1 (.c0 (.same _ (by kernel_rfl) (by kernel_rfl)))) (.nil)) (by kernel_rfl) trivial, trivial⟩⟩ ?_
          refine AX.seq ?_
          refine AX.reg (its := []) [2, 3, 5, 6] [0, 1, 2] (s1 := ⟨[(2, .pt 0 0), (3, .pt 1 0), (5, .sl 2 0 x9.length), (6, .v (.slice none 0 0))], [(0, .box [.bs false 2 (List.map enc_si p1), .v (.int .i64 p2)]), (1, .box [.bs false 1 (List.map enc_i p3)]), (2, .arr 1 (List.map enc_i x9))]⟩) (C := True) (by kernel_rfl) trivial trivial ?_
          refine AX.seq ?_
          refine AX.seq ?_
          refine AX.reg (its := []) [2, 3, 5, 6, 38, 39, 40] [0, 1, 2] (s1 := ⟨[(2, .pt 0 0), (3, .pt 1 0), (5, .sl 2 0 x9.length), (6, .v (.slice none 0 0)), (38, .sl 2 0 x9.length), (39, .v (.int .i64 (x9.length : Int))), (40, .v (.int .i64 0))], [(0, .box [.bs false 2 (List.map enc_si p1), .v (.int .i64 p2)]), (1, .box [.bs false 1 (List.map enc_i p3)]), (2, .arr 1 (List.map enc_i x9))]⟩) (C := True) (by kernel_rfl) trivial trivial ?_
          refine AX.block ?_
          obtain ⟨x17, e21, h⟩ := bd_e h
          refine AX.wk (Wk.mat 6 3 2 (by kernel_rfl) (Nat.le_of_ble_eq_true (by kernel_rfl)) (by kernel_rfl) rfl) ?_
          refine AX.wk (Wk.forget [2, 3, 5, 6, 38, 39, 40] [0, 1, 2, 3] (s' := ⟨[(2, .pt 0 0), (3, .pt 1 0), (5, .sl 2 0 x9.length), (6, .sl 3 0 (([] : List (Int × Int)).length)), (38, .sl 2 0 x9.length), (39, .v (.int .i64 (x9.length : Int))), (40, .v (.int .i64 0))], [(0, .box [.bs false 2 (List.map enc_si p1), .v (.int .i64 p2)]), (1, .box [.bs false 1 (List.map enc_i p3)]), (2, .arr 1 (List.map enc_i x9)), (3, .arr 2 (List.map enc_ii ([] : List (Int × Int))))]⟩) (by kernel_rfl)) ?_
          refine AX.mono (s_impl_GreatestArms_L1 p1 p2 p3 x9 FU (([] : List (Int × Int)), 0) x17 e21) ?_
          rintro _ _ ⟨rfl, rfl⟩
          skip
          refine AX.seq ?_
          refine AX.reg (its := []) [6, 12] [0] (s1 := ⟨[(6, .sl 0 0 x17.length), (12, .v (.slice none 0 0))], [(0, .arr 2 (List.map enc_ii x17))]⟩) (C := True) (by kernel_rfl) trivial trivial ?_
          refine AX.seq ?_
          refine AX.seq ?_
          refine AX.reg (its := []) [6, 12, 68, 69, 70] [0] (s1 := ⟨[(6, .sl 0 0 x17.length), (12, .v (.slice none 0 0)), (68, .sl 0 0 x17.length), (69, .v (.int .i64 (x17.length : Int))), (70, .v (.int .i64 0))], [(0, .arr 2 (List.map enc_ii x17))]⟩) (C := True) (by kernel_rfl) trivial trivial ?_
          refine AX.block ?_
          obtain ⟨x21, e27, h⟩ := bd_e h
          refine AX.wk (Wk.mat 12 1 2 (by kernel_rfl) (Nat.le_of_ble_eq_true (by kernel_rfl)) (by kernel_rfl) rfl) ?_
          refine AX.wk (Wk.forget [6, 12, 68, 69, 70] [0, 1] (s' := ⟨[(6, .sl 0 0 x17.length), (12, .sl 1 0 (([] : List (Int × Int)).length)), (68, .sl 0 0 x17.length), (69, .v (.int .i64 (x17.length : Int))), (70, .v (.int .i64 0))], [(0, .arr 2 (List.map enc_ii x17)), (1, .arr 2 (List.map enc_ii ([] : List (Int × Int))))]⟩) (by kernel_rfl)) ?_
          refine AX.mono (s_impl_GreatestArms_L3 x17 FU (([] : List (Int × Int)), 0) x21 e27) ?_
          rintro _ _ ⟨rfl, rfl⟩
          skip
          refine AX.seq ?_
          obtain ⟨x22, e28, h⟩ := bd_e h
          refine AX.reg (its := [.auto {}, .call 92 [.sl 0 0 x21.length] (handO (rho ([0] ++ [])) [0] [.arr 2 (List.map enc_ii x21)] ++ []) (callEv [0] [] (.sl 0 0 x21.length) [.arr 2 (List.map enc_ii x21)])]) [4] [0] (s1 := ⟨[(4, .sl 0 0 x21.length)], [(0, .arr 2 (List.map enc_ii x21))]⟩) (C := ((([.sl 0 0 x21.length] : List AV) = [.sl 0 0 x21.length]) ∧ (AO.arr 2 (List.map enc_ii x21) = AO.arr 2 (List.map enc_ii x21)) ∧ True) ∧ True) (by kernel_rfl) ⟨⟨rfl, rfl, trivial⟩, trivial⟩ ⟨call_ok (ks := [0]) (ns := []) (bor := []) (bobjs := []) (s_slices_Clip_hii x21 x22 e28) (.cons (.c1 (.c0 (.same _ (by kernel_rfl) (by kernel_rfl)))) (.nil)) (by kernel_rfl) ⟨.inr rfl, trivial⟩, trivial⟩ ?_
          refine AX.ret ?_
          refine fin_wk (Wk.forget [4] [0] (s' := ⟨[(4, .sl 0 0 x21.length)], [(0, .arr 2 (List.map enc_ii x21))]⟩) (by kernel_rfl)) ?_
          have hr := Option.some.inj h
          subst hr
          exact ⟨_, Wk.refl _, .inr rfl, ⟨[0], by kernel_rfl, ⟨rfl, trivial⟩, [.sl 0 0 x21.length], by kernel_rfl, by kernel_rfl⟩⟩

theorem s_spec_less (p1 : Int) (p2 : Int) (r : Int) (h : m_spec_less p1 p2 = some r) :
    Eng.Spec Try.prog 94 [.v (.int .i64 p1), .v (.int .i64 p2)] [] (.v (.int .i64 r)) [] := by
  unfold m_spec_less at h
  refine Eng.Spec.body Try.func94 (by kernel_rfl) rfl (by kernel_rfl) ?_
  refine AX.wkpost ?_
  refine AX.seq ?_
  refine AX.reg (its := []) [0, 1] [] (s1 := ⟨[(0, .v (.int .i64 p1)), (1, .v (.int .i64 p2))], []⟩) (C := True) (by kernel_rfl) trivial trivial ?_
  refine AX.seq ?_
  obtain ⟨x3, e1, h⟩ := bd_e h
  refine AX.reg (its := [.auto {}, .auto {}, .auto {}, .call 142 [.v (.int .i64 p1), .v (.int .i64 p2)] (handO (rho ([] ++ [])) [] [] ++ []) (callEv [] [] (.v (.int .i64 x3)) []), .auto { raw := true }]) [4] [] (s1 := ⟨[(4, .v (.int .i64 (IntKind.wrap .i64 (p1 - x3))))], []⟩) (C := ((([.v (.int .i64 p1), .v (.int .i64 p2)] : List AV) = [.v (.int .i64 p1), .v (.int .i64 p2)]) ∧ True) ∧ True) (by kernel_rfl) ⟨⟨rfl, trivial⟩, trivial⟩ ⟨call_ok (ks := []) (ns := []) (bor := []) (bobjs := []) (s_spec_both p1 p2 x3 e1) (.cons (.c1 (.c0 (.same _ (by kernel_rfl) (by kernel_rfl)))) (.cons (.c1 (.c0 (.same _ (by kernel_rfl) (by kernel_rfl)))) (.nil))) (by kernel_rfl) trivial, trivial⟩ ?_
  refine AX.ret ?_
  refine fin_wk (Wk.forget [4] [] (s' := ⟨[(4, .v (.int .i64 (IntKind.wrap .i64 (p1 - x3))))], []⟩) (by kernel_rfl)) ?_
  have hr := Option.some.inj h
  subst hr
  exact ⟨_, Wk.refl _, .inr rfl, ⟨[], by kernel_rfl, trivial, [.v (.int .i64 (IntKind.wrap .i64 (p1 - x3)))], by kernel_rfl, by kernel_rfl⟩⟩

theorem s_spec_partsIn_L1 (p1 : Int) (n : Nat) (g : List (Int) × Int) (out : List (Int)) (h : m_spec_partsIn_L1 p1 n g.1 g.2 = some out) :
    AX Try.prog 20 0 (codeAt [1, 1, 0, 1, 1] (bodyOf Try.f108)) ((fun g : List (Int) × Int => (⟨[(0, .v (.int .i64 p1)), (3, .sl 0 0 g.1.length), (4, .v (.int .i64 g.2))], [(0, .arr 1 (List.map enc_i g.1))]⟩ : S)) g) (fun ex s => ex = .exit 0 ∧ s = (fun o : List (Int) => (⟨[(3, .sl 0 0 o.length)], [(0, .arr 1 (List.map enc_i o))]⟩ : S)) out) := by
  refine AX.wkpost ?_
  refine AX.loop (G := Nat × (List (Int) × Int)) (fun q => (fun g : List (Int) × Int => (⟨[(0, .v (.int .i64 p1)), (3, .sl 0 0 g.1.length), (4, .v (.int .i64 g.2))], [(0, .arr 1 (List.map enc_i g.1))]⟩ : S)) q.2) (fun q => m_spec_partsIn_L1 p1 q.1 q.2.1 q.2.2 = some out) (fun q => q.1) (n, g) h (Wk.refl _) ?_
  clear h
  rintro ⟨fu, v2, v3⟩ h
  cases fu with
  | zero => cases h
  | succ fu =>
    rw [m_spec_partsIn_L1] at h
    refine AX.seq ?_
    refine AX.seq ?_
    refine AX.reg (its := []) [0, 3, 4, 8] [0] (s1 := ⟨[(0, .v (.int .i64 p1)), (3, .sl 0 0 v2.length), (4, .v (.int .i64 v3)), (8, .v (.bool (decide (v3 ≤ p1))))], [(0, .arr 1 (List.map enc_i v2))]⟩) (C := True) (by kernel_rfl) trivial trivial ?_
    rcases bool_cases (decide (v3 ≤ p1)) with b1 | b1
    · replace h := cd_t b1 h
      refine AX.condT (decide (v3 ≤ p1)) (by kernel_rfl) b1 ?_
      refine AX.skip ?_
      refine AX.seq ?_
      refine AX.block ?_
      refine AX.seq ?_
      obtain ⟨x4, e2, h⟩ := bd_e h
      refine AX.reg (its := [.auto {}, .auto {}, .call 94 [.v (.int .i64 v3), .v (.int .i64 p1)] (handO (rho ([] ++ [])) [] [] ++ []) (callEv [] [] (.v (.int .i64 x4)) [])]) [0, 3, 4, 14] [0] (s1 := ⟨[(0, .v (.int .i64 p1)), (3, .sl 0 0 v2.length), (4, .v (.int .i64 v3)), (14, .v (.bool (decide (x4 = 0))))], [(0, .arr 1 (List.map enc_i v2))]⟩) (C := ((([.v (.int .i64 v3), .v (.int .i64 p1)] : List AV) = [.v (.int .i64 v3), .v (.int .i64 p1)]) ∧ True) ∧ True) (by kernel_rfl) ⟨⟨rfl, trivial⟩, trivial⟩ ⟨call_ok (ks := []) (ns := []) (bor := []) (bobjs := []) (s_spec_less v3 p1 x4 e2) (.cons (.c1 (.c0 (.same _ (by kernel_rfl) (by kernel_rfl)))) (.cons (.c1 (.c0 (.same _ (by kernel_rfl) (by kernel_rfl)))) (.nil))) (by kernel_rfl) trivial, trivial⟩ ?_
      rcases bool_cases (decide (x4 = 0)) with b3 | b3
      · replace h := cd_t b3 h
        refine AX.condT (decide (x4 = 0)) (by kernel_rfl) b3 ?_
        obtain ⟨g4, h⟩ := gd_e h
        refine AX.reg (its := [.auto {}, .auto {}, .auto { nk := 1 }, .auto { y := some (.sl 2 0 ((v2 ++ ([v3] : List (Int))).length)), els := some (List.map enc_i v2), els2 := some (List.map enc_i ([v3] : List (Int))), nk := 2 }]) [0, 3, 4] [2] (s1 := ⟨[(0, .v (.int .i64 p1)), (3, .sl 2 0 ((v2 ++ ([v3] : List (Int))).length)), (4, .v (.int .i64 v3))], [(2, .arr 1 (List.map enc_i v2 ++ List.map enc_i ([v3] : List (Int))))]⟩) (C := ((((((List.map enc_i v2).drop 0).take (v2.length) = List.map enc_i v2) ∧ (((List.map enc_i ([v3] : List (Int))).drop 0).take (([v3] : List (Int)).length) = List.map enc_i ([v3] : List (Int)))) ∧ (List.map enc_i v2).length + (List.map enc_i ([v3] : List (Int))).length ≤ 1099511627776) ∧ (AV.sl 2 0 (List.map enc_i v2 ++ List.map enc_i ([v3] : List (Int))).length = AV.sl 2 0 (v2 ++ ([v3] : List (Int))).length)) ∧ True) (by kernel_rfl) ⟨⟨⟨⟨(dt_all (enc := enc_i) rfl rfl), (dt_all (enc := enc_i) rfl rfl)⟩, (by simp only [List.length_map, List.length_nil]; simpa using g4)⟩, sl_len (enc := enc_i) (app_can (enc := enc_i) rfl rfl)⟩, trivial⟩ trivial ?_
        refine AX.reg (its := [.auto {}, .auto { raw := true }]) [0, 3, 4] [2] (s1 := ⟨[(0, .v (.int .i64 p1)), (3, .sl 2 0 ((v2 ++ ([v3] : List (Int))).length)), (4, .v (.int .i64 (IntKind.wrap .i64 (v3 + 1))))], [(2, .arr 1 (List.map enc_i v2 ++ List.map enc_i ([v3] : List (Int))))]⟩) (C := True) (by kernel_rfl) trivial trivial ?_
        refine ⟨(fu, (v2 ++ ([v3] : List (Int)), IntKind.wrap .i64 (v3 + 1))), h, Nat.lt_succ_self _, ?_⟩
        refine Wk.trans (Wk.swap 0 2 (Nat.le_of_ble_eq_true (by kernel_rfl)) (Nat.le_of_ble_eq_true (by kernel_rfl)) rfl) ?_
        refine Wk.trans (Wk.forget [0, 3, 4] [0] (s' := ⟨[(0, .v (.int .i64 p1)), (3, .sl 0 0 ((v2 ++ ([v3] : List (Int))).length)), (4, .v (.int .i64 (IntKind.wrap .i64 (v3 + 1))))], [(0, .arr 1 (List.map enc_i v2 ++ List.map enc_i ([v3] : List (Int))))]⟩) (by kernel_rfl)) ?_
        refine Wk.trans (Wk.of_eq (congrArg (fun z => (⟨[(0, .v (.int .i64 p1)), (3, .sl 0 0 ((v2 ++ ([v3] : List (Int))).length)), (4, .v (.int .i64 (IntKind.wrap .i64 (v3 + 1))))], [(0, .arr 1 (z))]⟩ : S)) (app_can (enc := enc_i) rfl rfl : List.map enc_i v2 ++ List.map enc_i ([v3] : List (Int)) = List.map enc_i (v2 ++ ([v3] : List (Int)))))) ?_
        exact Wk.refl _
      · replace h := cd_f b3 h
        refine AX.condF (decide (x4 = 0)) (by kernel_rfl) b3 ?_
        refine AX.skip ?_
        refine AX.reg (its := [.auto {}, .auto { raw := true }]) [0, 3, 4] [0] (s1 := ⟨[(0, .v (.int .i64 p1)), (3, .sl 0 0 v2.length), (4, .v (.int .i64 (IntKind.wrap .i64 (v3 + 1))))], [(0, .arr 1 (List.map enc_i v2))]⟩) (C := True) (by kernel_rfl) trivial trivial ?_
        refine ⟨(fu, (v2, IntKind.wrap .i64 (v3 + 1))), h, Nat.lt_succ_self _, ?_⟩
        refine Wk.trans (Wk.forget [0, 3, 4] [0] (s' := ⟨[(0, .v (.int .i64 p1)), (3, .sl 0 0 v2.length), (4, .v (.int .i64 (IntKind.wrap .i64 (v3 + 1))))], [(0, .arr 1 (List.map enc_i v2))]⟩) (by kernel_rfl)) ?_
        exact Wk.refl _
    · replace h := cd_f b1 h
      refine AX.condF (decide (v3 ≤ p1)) (by kernel_rfl) b1 ?_
      refine AX.exit ?_
      refine fin_wk (Wk.forget [3] [0] (s' := ⟨[(3, .sl 0 0 v2.length)], [(0, .arr 1 (List.map enc_i v2))]⟩) (by kernel_rfl)) ?_
      have hr := Option.some.inj h
      subst hr
      exact ⟨_, Wk.refl _, ⟨rfl, rfl⟩⟩

theorem s_spec_partsIn (p1 : Int) (r : List (Int)) (h : m_spec_partsIn p1 = some r) :
    Eng.Spec Try.prog 108 [.v (.int .i64 p1)] [] (.sl 0 0 r.length) [.arr 1 (List.map enc_i r)] := by
  unfold m_spec_partsIn at h
  refine Eng.Spec.body Try.func108 (by kernel_rfl) rfl (by kernel_rfl) ?_
  refine AX.wkpost ?_
  refine AX.seq ?_
  refine AX.reg (its := []) [0] [] (s1 := ⟨[(0, .v (.int .i64 p1))], []⟩) (C := True) (by kernel_rfl) trivial trivial ?_
  refine AX.seq ?_
  refine AX.reg (its := [.auto { nk := 0 }]) [0, 3] [0] (s1 := ⟨[(0, .v (.int .i64 p1)), (3, .sl 0 0 (([] : List (Int)).length))], [(0, .arr 1 (List.map enc_i ([] : List (Int))))]⟩) (C := True) (by kernel_rfl) trivial trivial ?_
  refine AX.seq ?_
  refine AX.seq ?_
  refine AX.reg (its := []) [0, 3, 4] [0] (s1 := ⟨[(0, .v (.int .i64 p1)), (3, .sl 0 0 (([] : List (Int)).length)), (4, .v (.int .i64 0))], [(0, .arr 1 (List.map enc_i ([] : List (Int))))]⟩) (C := True) (by kernel_rfl) trivial trivial ?_
  refine AX.block ?_
  obtain ⟨x5, e5, h⟩ := bd_e h
  refine AX.wk (Wk.forget [0, 3, 4] [0] (s' := ⟨[(0, .v (.int .i64 p1)), (3, .sl 0 0 (([] : List (Int)).length)), (4, .v (.int .i64 0))], [(0, .arr 1 (List.map enc_i ([] : List (Int))))]⟩) (by kernel_rfl)) ?_
  refine AX.mono (s_spec_partsIn_L1 p1 FU (([] : List (Int)), 0) x5 e5) ?_
  rintro _ _ ⟨rfl, rfl⟩
  skip
  refine AX.seq ?_
  refine AX.reg (its := []) [2] [0] (s1 := ⟨[(2, .sl 0 0 x5.length)], [(0, .arr 1 (List.map enc_i x5))]⟩) (C := True) (by kernel_rfl) trivial trivial ?_
  refine AX.ret ?_
  refine fin_wk (Wk.forget [2] [0] (s' := ⟨[(2, .sl 0 0 x5.length)], [(0, .arr 1 (List.map enc_i x5))]⟩) (by kernel_rfl)) ?_
  have hr := Option.some.inj h
  subst hr
  exact ⟨_, Wk.refl _, .inr rfl, ⟨[0], by kernel_rfl, ⟨rfl, trivial⟩, [.sl 0 0 x5.length], by kernel_rfl, by kernel_rfl⟩⟩

theorem s_spec_matches (p1 : Int) (p2 : Int) (p3 : Int) (r : Bool) (h : m_spec_matches p1 p2 p3 = some r) :
    Eng.Spec Try.prog 156 [.agg [.v (.int .i64 p1), .v (.int .i64 p2)], .v (.int .i64 p3)] [] (.v (.bool r)) [] := by
  unfold m_spec_matches at h
  refine Eng.Spec.body Try.func156 (by kernel_rfl) rfl (by kernel_rfl) ?_
  refine AX.wkpost ?_
  refine AX.seq ?_
  refine AX.reg (its := [.auto { nk := 0 }]) [1, 2] [0] (s1 := ⟨[(1, .v (.int .i64 p3)), (2, .pt 0 0)], [(0, .box [.v (.int .i64 p1), .v (.int .i64 p2)])]⟩) (C := True) (by kernel_rfl) trivial trivial ?_
  refine AX.seq ?_
  obtain ⟨x4, e1, h⟩ := bd_e h
  rcases bool_cases (decide (x4 = 0)) with b2 | b2
  · replace h := cd_t b2 h
    obtain ⟨x5, e3, h⟩ := bd_e h
    refine AX.reg (its := [.auto {}, .auto {}, .auto {}, .call 94 [.v (.int .i64 p1), .v (.int .i64 p3)] (handO (rho ([] ++ [])) [] [] ++ []) (callEv [] [] (.v (.int .i64 x4)) []), .auto { y := some (.v (.bool true)) }, .auto {}, .auto {}, .auto {}, .auto {}, .call 142 [.v (.int .i64 p2), .v (.int .i64 p3)] (handO (rho ([] ++ [])) [] [] ++ []) (callEv [] [] (.v (.int .i64 x5)) [])]) [4] [] (s1 := ⟨[(4, .v (.bool (decide (x5 = 0))))], []⟩) (C := ((([.v (.int .i64 p1), .v (.int .i64 p3)] : List AV) = [.v (.int .i64 p1), .v (.int .i64 p3)]) ∧ True) ∧ ((True) ∧ ((.v (.bool (decide (x4 = 0))) : AV) = (.v (.bool true) : AV))) ∧ ((([.v (.int .i64 p2), .v (.int .i64 p3)] : List AV) = [.v (.int .i64 p2), .v (.int .i64 p3)]) ∧ True) ∧ True) (by kernel_rfl) ⟨⟨rfl, trivial⟩, ⟨⟨trivial, (congrArg (fun z => AV.v (.bool z)) b2)⟩, ⟨⟨rfl, trivial⟩, trivial⟩⟩⟩ ⟨call_ok (ks := []) (ns := []) (bor := []) (bobjs := []) (s_spec_less p1 p3 x4 e1) (.cons (.c1 (.c0 (.same _ (by kernel_rfl) (by kernel_rfl)))) (.cons (.c1 (.c0 (.same _ (by kernel_rfl) (by kernel_rfl)))) (.nil))) (by kernel_rfl) trivial, ⟨call_ok (ks := []) (ns := []) (bor := []) (bobjs := []) (s_spec_both p2 p3 x5 e3) (.cons (.c1 (.c0 (.same _ (by kernel_rfl) (by kernel_rfl)))) (.cons (.c1 (.c0 (.same _ (by kernel_rfl) (by kernel_rfl)))) (.nil))) (by kernel_rfl) trivial, trivial⟩⟩ ?_
    refine AX.ret ?_
    refine fin_wk (Wk.forget [4] [] (s' := ⟨[(4, .v (.bool (decide (x5 = 0))))], []⟩) (by kernel_rfl)) ?_
    have hr := Option.some.inj h
    subst hr
    exact ⟨_, Wk.refl _, .inr rfl, ⟨[], by kernel_rfl, trivial, [.v (.bool (decide (x5 = 0)))], by kernel_rfl, by kernel_rfl⟩⟩
  · replace h := cd_f b2 h
    refine AX.reg (its := [.auto {}, .auto {}, .auto {}, .call 94 [.v (.int .i64 p1), .v (.int .i64 p3)] (handO (rho ([] ++ [])) [] [] ++ []) (callEv [] [] (.v (.int .i64 x4)) []), .auto { y := some (.v (.bool false)) }]) [4] [] (s1 := ⟨[(4, .v (.bool false))], []⟩) (C := ((([.v (.int .i64 p1), .v (.int .i64 p3)] : List AV) = [.v (.int .i64 p1), .v (.int .i64 p3)]) ∧ True) ∧ ((True) ∧ ((.v (.bool (decide (x4 = 0))) : AV) = (.v (.bool false) : AV))) ∧ True) (by kernel_rfl) ⟨⟨rfl, trivial⟩, ⟨⟨trivial, (congrArg (fun z => AV.v (.bool z)) b2)⟩, trivial⟩⟩ ⟨call_ok (ks := []) (ns := []) (bor := []) (bobjs := []) (s_spec_less p1 p3 x4 e1) (.cons (.c1 (.c0 (.same _ (by kernel_rfl) (by kernel_rfl)))) (.cons (.c1 (.c0 (.same _ (by kernel_rfl) (by kernel_rfl)))) (.nil))) (by kernel_rfl) trivial, trivial⟩ ?_
    refine AX.ret ?_
    refine fin_wk (Wk.forget [4] [] (s' := ⟨[(4, .v (.bool false))], []⟩) (by kernel_rfl)) ?_
    have hr := Option.some.inj h
    subst hr
    exact ⟨_, Wk.refl _, .inr rfl, ⟨[], by kernel_rfl, trivial, [.v (.bool false)], by kernel_rfl, by kernel_rfl⟩⟩

theorem s_spec_hasInt_L1 (p1 : List (Int)) (p2 : Int) (n : Nat) (g : Int) (out : Unit ⊕ Unit) (h : m_spec_hasInt_L1 p1 p2 n g = some out) :
    AX Try.prog 18 0 (codeAt [1, 0, 1, 1] (bodyOf Try.f180)) ((fun g : Int => (⟨[(0, .bs false 1 (List.map enc_i p1)), (1, .v (.int .i64 p2)), (5, .v (.int .i64 g))], []⟩ : S)) g) (fun ex s => (∃ o : Unit, out = Sum.inl o ∧ ex = .ret ∧ s = ⟨[(4, .v (.bool true))], []⟩) ∨ (∃ o : Unit, out = Sum.inr o ∧ ex = .exit 0 ∧ s = ⟨[], []⟩)) := by
  refine AX.wkpost ?_
  refine AX.loop (G := Nat × (Int)) (fun q => (fun g : Int => (⟨[(0, .bs false 1 (List.map enc_i p1)), (1, .v (.int .i64 p2)), (5, .v (.int .i64 g))], []⟩ : S)) q.2) (fun q => m_spec_hasInt_L1 p1 p2 q.1 q.2 = some out) (fun q => q.1) (n, g) h (Wk.refl _) ?_
  clear h
  rintro ⟨fu, v3⟩ h
  cases fu with
  | zero => cases h
  | succ fu =>
    rw [m_spec_hasInt_L1] at h
    refine AX.seq ?_
    refine AX.seq ?_
    refine AX.reg (its := [.auto {}, .auto {}, .auto { y := some (.v (.int .i64 (p1.length : Int))) }]) [0, 1, 5, 9] [] (s1 := ⟨[(0, .bs false 1 (List.map enc_i p1)), (1, .v (.int .i64 p2)), (5, .v (.int .i64 v3)), (9, .v (.bool (decide (v3 < (p1.length : Int)))))], []⟩) (C := (True ∧ (AV.v (.int .i64 ((List.map enc_i p1).length : Int)) = AV.v (.int .i64 (p1.length : Int)))) ∧ True) (by kernel_rfl) ⟨⟨trivial, len_map enc_i p1⟩, trivial⟩ trivial ?_
    rcases bool_cases (decide (v3 < (p1.length : Int))) with b1 | b1
    · replace h := cd_t b1 h
      refine AX.condT (decide (v3 < (p1.length : Int))) (by kernel_rfl) b1 ?_
      refine AX.skip ?_
      refine AX.seq ?_
      refine AX.block ?_
      refine AX.seq ?_
      obtain ⟨g2, h⟩ := gd_e h
      refine AX.reg (its := [.auto {}, .auto {}, .auto { y := some (.be 1 (enc_i (gt p1 v3)) 0) }]) [0, 1, 5, 17] [] (s1 := ⟨[(0, .bs false 1 (List.map enc_i p1)), (1, .v (.int .i64 p2)), (5, .v (.int .i64 v3)), (17, .v (.bool (decide ((gt p1 v3) = p2))))], []⟩) (C := ((0 ≤ v3 ∧ v3 < ((List.map enc_i p1).length : Int)) ∧ (AV.be 1 ((List.map enc_i p1).getD v3.toNat []) 0 = AV.be 1 (enc_i (gt p1 v3)) 0)) ∧ True) (by kernel_rfl) ⟨idx_bs enc_i p1 v3 1 g2, trivial⟩ trivial ?_
      rcases bool_cases (decide ((gt p1 v3) = p2)) with b3 | b3
      · replace h := cd_t b3 h
        refine AX.condT (decide ((gt p1 v3) = p2)) (by kernel_rfl) b3 ?_
        refine AX.seq ?_
        refine AX.reg (its := []) [4] [] (s1 := ⟨[(4, .v (.bool true))], []⟩) (C := True) (by kernel_rfl) trivial trivial ?_
        refine AX.ret ?_
        refine fin_wk (Wk.forget [4] [] (s' := ⟨[(4, .v (.bool true))], []⟩) (by kernel_rfl)) ?_
        have hr := Option.some.inj h
        subst hr
        exact ⟨_, Wk.refl _, .inl ⟨(), rfl, rfl, rfl⟩⟩
      · replace h := cd_f b3 h
        refine AX.condF (decide ((gt p1 v3) = p2)) (by kernel_rfl) b3 ?_
        refine AX.skip ?_
        refine AX.reg (its := [.auto {}, .auto { raw := true }]) [0, 1, 5] [] (s1 := ⟨[(0, .bs false 1 (List.map enc_i p1)), (1, .v (.int .i64 p2)), (5, .v (.int .i64 (IntKind.wrap .i64 (v3 + 1))))], []⟩) (C := True) (by kernel_rfl) trivial trivial ?_
        refine ⟨(fu, IntKind.wrap .i64 (v3 + 1)), h, Nat.lt_succ_self _, ?_⟩
        refine Wk.trans (Wk.forget [0, 1, 5] [] (s' := ⟨[(0, .bs false 1 (List.map enc_i p1)), (1, .v (.int .i64 p2)), (5, .v (.int .i64 (IntKind.wrap .i64 (v3 + 1))))], []⟩) (by kernel_rfl)) ?_
        exact Wk.refl _
    · replace h := cd_f b1 h
      refine AX.condF (decide (v3 < (p1.length : Int))) (by kernel_rfl) b1 ?_
      refine AX.exit ?_
      refine fin_wk (Wk.forget [] [] (s' := ⟨[], []⟩) (by kernel_rfl)) ?_
      have hr := Option.some.inj h
      subst hr
      exact ⟨_, Wk.refl _, .inr ⟨(), rfl, rfl, rfl⟩⟩

theorem s_spec_hasInt (p1 : List (Int)) (p2 : Int) (r : Bool) (h : m_spec_hasInt p1 p2 = some r) :
    Eng.Spec Try.prog 180 [.bs false 1 (List.map enc_i p1), .v (.int .i64 p2)] [] (.v (.bool r)) [] := by
  unfold m_spec_hasInt at h
  refine Eng.Spec.body Try.func180 (by kernel_rfl) rfl (by kernel_rfl) ?_
  refine AX.wkpost ?_
  refine AX.seq ?_
  refine AX.reg (its := []) [0, 1] [] (s1 := ⟨[(0, .bs false 1 (List.map enc_i p1)), (1, .v (.int .i64 p2))], []⟩) (C := True) (by kernel_rfl) trivial trivial ?_
  refine AX.seq ?_
  refine AX.seq ?_
  refine AX.reg (its := []) [0, 1, 5] [] (s1 := ⟨[(0, .bs false 1 (List.map enc_i p1)), (1, .v (.int .i64 p2)), (5, .v (.int .i64 0))], []⟩) (C := True) (by kernel_rfl) trivial trivial ?_
  refine AX.block ?_
  obtain ⟨x4, e4, h⟩ := bd_e h
  refine AX.wk (Wk.forget [0, 1, 5] [] (s' := ⟨[(0, .bs false 1 (List.map enc_i p1)), (1, .v (.int .i64 p2)), (5, .v (.int .i64 0))], []⟩) (by kernel_rfl)) ?_
  refine AX.mono (s_spec_hasInt_L1 p1 p2 FU 0 x4 e4) ?_
  rintro _ _ (⟨x5, rfl, rfl, rfl⟩ | ⟨x6, rfl, rfl, rfl⟩)
  · replace h := sm_l h
    refine fin_wk (Wk.forget [4] [] (s' := ⟨[(4, .v (.bool true))], []⟩) (by kernel_rfl)) ?_
    have hr := Option.some.inj h
    subst hr
    exact ⟨_, Wk.refl _, .inr rfl, ⟨[], by kernel_rfl, trivial, [.v (.bool true)], by kernel_rfl, by kernel_rfl⟩⟩
  · replace h := sm_r h
    refine AX.seq ?_
    refine AX.reg (its := []) [4] [] (s1 := ⟨[(4, .v (.bool false))], []⟩) (C := True) (by kernel_rfl) trivial trivial ?_
    refine AX.ret ?_
    refine fin_wk (Wk.forget [4] [] (s' := ⟨[(4, .v (.bool false))], []⟩) (by kernel_rfl)) ?_
    have hr := Option.some.inj h
    subst hr
    exact ⟨_, Wk.refl _, .inr rfl, ⟨[], by kernel_rfl, trivial, [.v (.bool false)], by kernel_rfl, by kernel_rfl⟩⟩

theorem s_spec_allIn_L1 (p1 : List (Int)) (p2 : List (Int)) (p3 : Int) (p4 : Int) (n : Nat) (g : Int) (out : Unit ⊕ Unit) (h : m_spec_allIn_L1 p1 p2 p3 p4 n g = some out) :
    AX Try.prog 29 0 (codeAt [1, 0, 1, 1] (bodyOf Try.f148)) ((fun g : Int => (⟨[(0, .bs false 1 (List.map enc_i p1)), (1, .bs false 1 (List.map enc_i p2)), (5, .pt 0 0), (7, .v (.int .i64 g))], [(0, .box [.v (.int .i64 p3), .v (.int .i64 p4)])]⟩ : S)) g) (fun ex s => (∃ o : Unit, out = Sum.inl o ∧ ex = .ret ∧ s = ⟨[(6, .v (.bool false))], []⟩) ∨ (∃ o : Unit, out = Sum.inr o ∧ ex = .exit 0 ∧ s = ⟨[], []⟩)) := by
  refine AX.wkpost ?_
  refine AX.loop (G := Nat × (Int)) (fun q => (fun g : Int => (⟨[(0, .bs false 1 (List.map enc_i p1)), (1, .bs false 1 (List.map enc_i p2)), (5, .pt 0 0), (7, .v (.int .i64 g))], [(0, .box [.v (.int .i64 p3), .v (.int .i64 p4)])]⟩ : S)) q.2) (fun q => m_spec_allIn_L1 p1 p2 p3 p4 q.1 q.2 = some out) (fun q => q.1) (n, g) h (Wk.refl _) ?_
  clear h
  rintro ⟨fu, v5⟩ h
  cases fu with
  | zero => cases h
  | succ fu =>
    rw [m_spec_allIn_L1] at h
    refine AX.seq ?_
    refine AX.seq ?_
    refine AX.reg (its := [.auto {}, .auto {}, .auto { y := some (.v (.int .i64 (p1.length : Int))) }]) [0, 1, 5, 7, 11] [0] (s1 := ⟨[(0, .bs false 1 (List.map enc_i p1)), (1, .bs false 1 (List.map enc_i p2)), (5, .pt 0 0), (7, .v (.int .i64 v5)), (11, .v (.bool (decide (v5 < (p1.length : Int)))))], [(0, .box [.v (.int .i64 p3), .v (.int .i64 p4)])]⟩) (C := (True ∧ (AV.v (.int .i64 ((List.map enc_i p1).length : Int)) = AV.v (.int .i64 (p1.length : Int)))) ∧ True) (by kernel_rfl) ⟨⟨trivial, len_map enc_i p1⟩, trivial⟩ trivial ?_
    rcases bool_cases (decide (v5 < (p1.length : Int))) with b1 | b1
    · replace h := cd_t b1 h
      refine AX.condT (decide (v5 < (p1.length : Int))) (by kernel_rfl) b1 ?_
      refine AX.skip ?_
      refine AX.seq ?_
      refine AX.block ?_
      refine AX.seq ?_
      obtain ⟨g2, h⟩ := gd_e h
      obtain ⟨x6, e3, h⟩ := bd_e h
      rcases bool_cases (x6) with b4 | b4
      · replace h := cd_t b4 h
        obtain ⟨x7, e5, h⟩ := bd_e h
        refine AX.drw mixed (its := [.auto {}, .auto {}, .auto {}, .auto { y := some (.be 1 (enc_i (gt p1 v5)) 0) }, .auto {}, .call 156 [.agg [.v (.int .i64 p3), .v (.int .i64 p4)], .v (.int .i64 (gt p1 v5))] (handO (rho ([] ++ [])) [] [] ++ []) (callEv [] [] (.v (.bool true)) []), .auto {}, .auto {}, .auto {}, .auto {}, .auto { y := some (.be 1 (enc_i (gt p1 v5)) 0) }, .auto {}, .call 180 [.bs false 1 (List.map enc_i p2), .v (.int .i64 (gt p1 v5))] (handO (rho ([] ++ [])) [] [] ++ []) (callEv [] [] (.v (.bool x7)) [])]) [0, 1, 5, 7, 28] [0] (s1 := ⟨[(0, .bs false 1 (List.map enc_i p1)), (1, .bs false 1 (List.map enc_i p2)), (5, .pt 0 0), (7, .v (.int .i64 v5)), (28, .v (.bool (!x7)))], [(0, .box [.v (.int .i64 p3), .v (.int .i64 p4)])]⟩) (C := ((0 ≤ v5 ∧ v5 < ((List.map enc_i p1).length : Int)) ∧ (AV.be 1 ((List.map enc_i p1).getD v5.toNat []) 0 = AV.be 1 (enc_i (gt p1 v5)) 0)) ∧ ((([.agg [.v (.int .i64 p3), .v (.int .i64 p4)], .v (.int .i64 (gt p1 v5))] : List AV) = [.agg [.v (.int .i64 p3), .v (.int .i64 p4)], .v (.int .i64 (gt p1 v5))]) ∧ True) ∧ ((0 ≤ v5 ∧ v5 < ((List.map enc_i p1).length : Int)) ∧ (AV.be 1 ((List.map enc_i p1).getD v5.toNat []) 0 = AV.be 1 (enc_i (gt p1 v5)) 0)) ∧ ((([.bs false 1 (List.map enc_i p2), .v (.int .i64 (gt p1 v5))] : List AV) = [.bs false 1 (List.map enc_i p2), .v (.int .i64 (gt p1 v5))]) ∧ True) ∧ True) (by kernel_rfl) ⟨idx_bs enc_i p1 v5 1 g2, ⟨⟨rfl, trivial⟩, ⟨idx_bs enc_i p1 v5 1 g2, ⟨⟨rfl, trivial⟩, trivial⟩⟩⟩⟩ ⟨call_ok (ks := []) (ns := []) (bor := []) (bobjs := []) (show Eng.Spec Try.prog 156 [.agg [.v (.int .i64 p3), .v (.int .i64 p4)], .v (.int .i64 (gt p1 v5))] [] (.v (.bool true)) [] from by have q := s_spec_matches p3 p4 (gt p1 v5) x6 e3; rw [b4] at q; exact q) (.cons (.c1 (.agg (.cons (.same _ (by kernel_rfl) (by kernel_rfl)) (.cons (.same _ (by kernel_rfl) (by kernel_rfl)) (.nil))))) (.cons (.c1 (.c0 (.same _ (by kernel_rfl) (by kernel_rfl)))) (.nil))) (by kernel_rfl) trivial, ⟨call_ok (ks := []) (ns := []) (bor := []) (bobjs := []) (s_spec_hasInt p2 (gt p1 v5) x7 e5) (.cons (.c1 (.c0 (.same _ (by kernel_rfl) (by kernel_rfl)))) (.cons (.c1 (.c0 (.same _ (by kernel_rfl) (by kernel_rfl)))) (.nil))) (by kernel_rfl) trivial, trivial⟩⟩ ?_
        rcases bool_cases ((!x7)) with b6 | b6
        · replace h := cd_t b6 h
          refine AX.condT ((!x7)) (by kernel_rfl) b6 ?_
          refine AX.seq ?_
          refine AX.reg (its := []) [6] [] (s1 := ⟨[(6, .v (.bool false))], []⟩) (C := True) (by kernel_rfl) trivial trivial ?_
          refine AX.ret ?_
          refine fin_wk (Wk.forget [6] [] (s' := ⟨[(6, .v (.bool false))], []⟩) (by kernel_rfl)) ?_
          have hr := Option.some.inj h
          subst hr
          exact ⟨_, Wk.refl _, .inl ⟨(), rfl, rfl, rfl⟩⟩
        · replace h := cd_f b6 h
          refine AX.condF ((!x7)) (by kernel_rfl) b6 ?_
          refine AX.skip ?_
          refine AX.reg (its := [.auto {}, .auto { raw := true }]) [0, 1, 5, 7] [0] (s1 := ⟨[(0, .bs false 1 (List.map enc_i p1)), (1, .bs false 1 (List.map enc_i p2)), (5, .pt 0 0), (7, .v (.int .i64 (IntKind.wrap .i64 (v5 + 1))))], [(0, .box [.v (.int .i64 p3), .v (.int .i64 p4)])]⟩) (C := True) (by kernel_rfl) trivial trivial ?_
          refine ⟨(fu, IntKind.wrap .i64 (v5 + 1)), h, Nat.lt_succ_self _, ?_⟩
          refine Wk.trans (Wk.forget [0, 1, 5, 7] [0] (s' := ⟨[(0, .bs false 1 (List.map enc_i p1)), (1, .bs false 1 (List.map enc_i p2)), (5, .pt 0 0), (7, .v (.int .i64 (IntKind.wrap .i64 (v5 + 1))))], [(0, .box [.v (.int .i64 p3), .v (.int .i64 p4)])]⟩) (by kernel_rfl)) ?_
          exact Wk.refl _
      · replace h := cd_f b4 h
        refine AX.drw mixed (its := [.auto {}, .auto {}, .auto {}, .auto { y := some (.be 1 (enc_i (gt p1 v5)) 0) }, .auto {}, .call 156 [.agg [.v (.int .i64 p3), .v (.int .i64 p4)], .v (.int .i64 (gt p1 v5))] (handO (rho ([] ++ [])) [] [] ++ []) (callEv [] [] (.v (.bool false)) [])]) [0, 1, 5, 7, 28] [0] (s1 := ⟨[(0, .bs false 1 (List.map enc_i p1)), (1, .bs false 1 (List.map enc_i p2)), (5, .pt 0 0), (7, .v (.int .i64 v5)), (28, .v (.bool false))], [(0, .box [.v (.int .i64 p3), .v (.int .i64 p4)])]⟩) (C := ((0 ≤ v5 ∧ v5 < ((List.map enc_i p1).length : Int)) ∧ (AV.be 1 ((List.map enc_i p1).getD v5.toNat []) 0 = AV.be 1 (enc_i (gt p1 v5)) 0)) ∧ ((([.agg [.v (.int .i64 p3), .v (.int .i64 p4)], .v (.int .i64 (gt p1 v5))] : List AV) = [.agg [.v (.int .i64 p3), .v (.int .i64 p4)], .v (.int .i64 (gt p1 v5))]) ∧ True) ∧ True) (by kernel_rfl) ⟨idx_bs enc_i p1 v5 1 g2, ⟨⟨rfl, trivial⟩, trivial⟩⟩ ⟨call_ok (ks := []) (ns := []) (bor := []) (bobjs := []) (show Eng.Spec Try.prog 156 [.agg [.v (.int .i64 p3), .v (.int .i64 p4)], .v (.int .i64 (gt p1 v5))] [] (.v (.bool false)) [] from by have q := s_spec_matches p3 p4 (gt p1 v5) x6 e3; rw [b4] at q; exact q) (.cons (.c1 (.agg (.cons (.same _ (by kernel_rfl) (by kernel_rfl)) (.cons (.same _ (by kernel_rfl) (by kernel_rfl)) (.nil))))) (.cons (.c1 (.c0 (.same _ (by kernel_rfl) (by kernel_rfl)))) (.nil))) (by kernel_rfl) trivial, trivial⟩ ?_
        refine AX.cond_false (by kernel_rfl) ?_
        refine AX.skip ?_
        refine AX.reg (its := [.auto {}, .auto { raw := true }]) [0, 1, 5, 7] [0] (s1 := ⟨[(0, .bs false 1 (List.map enc_i p1)), (1, .bs false 1 (List.map enc_i p2)), (5, .pt 0 0), (7, .v (.int .i64 (IntKind.wrap .i64 (v5 + 1))))], [(0, .box [.v (.int .i64 p3), .v (.int .i64 p4)])]⟩) (C := True) (by kernel_rfl) trivial trivial ?_
        refine ⟨(fu, IntKind.wrap .i64 (v5 + 1)), h, Nat.lt_succ_self _, ?_⟩
        refine Wk.trans (Wk.forget [0, 1, 5, 7] [0] (s' := ⟨[(0, .bs false 1 (List.map enc_i p1)), (1, .bs false 1 (List.map enc_i p2)), (5, .pt 0 0), (7, .v (.int .i64 (IntKind.wrap .i64 (v5 + 1))))], [(0, .box [.v (.int .i64 p3), .v (.int .i64 p4)])]⟩) (by kernel_rfl)) ?_
        exact Wk.refl _
    · replace h := cd_f b1 h
      refine AX.condF (decide (v5 < (p1.length : Int))) (by kernel_rfl) b1 ?_
      refine AX.exit ?_
      refine fin_wk (Wk.forget [] [] (s' := ⟨[], []⟩) (by kernel_rfl)) ?_
      have hr := Option.some.inj h
      subst hr
      exact ⟨_, Wk.refl _, .inr ⟨(), rfl, rfl, rfl⟩⟩

theorem s_spec_allIn (p1 : List (Int)) (p2 : List (Int)) (p3 : Int) (p4 : Int) (r : Bool) (h : m_spec_allIn p1 p2 p3 p4 = some r) :
    Eng.Spec Try.prog 148 [.bs false 1 (List.map enc_i p1), .bs false 1 (List.map enc_i p2), .agg [.v (.int .i64 p3), .v (.int .i64 p4)]] [] (.v (.bool r)) [] := by
  unfold m_spec_allIn at h
  refine Eng.Spec.body Try.func148 (by kernel_rfl) rfl (by kernel_rfl) ?_
  refine AX.wkpost ?_
  refine AX.seq ?_
  refine AX.reg (its := [.auto { nk := 0 }]) [0, 1, 5] [0] (s1 := ⟨[(0, .bs false 1 (List.map enc_i p1)), (1, .bs false 1 (List.map enc_i p2)), (5, .pt 0 0)], [(0, .box [.v (.int .i64 p3), .v (.int .i64 p4)])]⟩) (C := True) (by kernel_rfl) trivial trivial ?_
  refine AX.seq ?_
  refine AX.seq ?_
  refine AX.reg (its := []) [0, 1, 5, 7] [0] (s1 := ⟨[(0, .bs false 1 (List.map enc_i p1)), (1, .bs false 1 (List.map enc_i p2)), (5, .pt 0 0), (7, .v (.int .i64 0))], [(0, .box [.v (.int .i64 p3), .v (.int .i64 p4)])]⟩) (C := True) (by kernel_rfl) trivial trivial ?_
  refine AX.block ?_
  obtain ⟨x8, e7, h⟩ := bd_e h
  refine AX.wk (Wk.forget [0, 1, 5, 7] [0] (s' := ⟨[(0, .bs false 1 (List.map enc_i p1)), (1, .bs false 1 (List.map enc_i p2)), (5, .pt 0 0), (7, .v (.int .i64 0))], [(0, .box [.v (.int .i64 p3), .v (.int .i64 p4)])]⟩) (by kernel_rfl)) ?_
  refine AX.mono (s_spec_allIn_L1 p1 p2 p3 p4 FU 0 x8 e7) ?_
  rintro _ _ (⟨x9, rfl, rfl, rfl⟩ | ⟨x10, rfl, rfl, rfl⟩)
  · replace h := sm_l h
    refine fin_wk (Wk.forget [6] [] (s' := ⟨[(6, .v (.bool false))], []⟩) (by kernel_rfl)) ?_
    have hr := Option.some.inj h
    subst hr
    exact ⟨_, Wk.refl _, .inr rfl, ⟨[], by kernel_rfl, trivial, [.v (.bool false)], by kernel_rfl, by kernel_rfl⟩⟩
  · replace h := sm_r h
    refine AX.seq ?_
    refine AX.reg (its := []) [6] [] (s1 := ⟨[(6, .v (.bool true))], []⟩) (C := True) (by kernel_rfl) trivial trivial ?_
    refine AX.ret ?_
    refine fin_wk (Wk.forget [6] [] (s' := ⟨[(6, .v (.bool true))], []⟩) (by kernel_rfl)) ?_
    have hr := Option.some.inj h
    subst hr
    exact ⟨_, Wk.refl _, .inr rfl, ⟨[], by kernel_rfl, trivial, [.v (.bool true)], by kernel_rfl, by kernel_rfl⟩⟩

theorem s_spec_armsIn_L2 (p1 : Int) (p2 : List (Int)) (x3 : List (Int)) (v5 : Int) (x7 : List (Int)) (n : Nat) (g : (List (Int × Int)) × Int) (out : List (Int × Int)) (h : m_spec_armsIn_L2 p1 p2 x3 v5 x7 n g.1 g.2 = some out) :
    AX Try.prog 51 0 (codeAt [1, 1, 1, 0, 1, 1, 1, 1, 0, 1, 1, 1, 1] (bodyOf Try.f95)) ((fun g : (List (Int × Int)) × Int => (⟨[(0, .v (.int .i64 p1)), (1, .bs false 1 (List.map enc_i p2)), (5, .sl 0 0 g.1.length), (6, .sl 1 0 x3.length), (7, .v (.int .i64 v5)), (8, .sl 2 0 x7.length), (9, .v (.int .i64 g.2))], [(0, .arr 2 (List.map enc_ii g.1)), (1, .arr 1 (List.map enc_i x3)), (2, .arr 1 (List.map enc_i x7))]⟩ : S)) g) (fun ex s => ex = .exit 2 ∧ s = (fun o : List (Int × Int) => (⟨[(0, .v (.int .i64 p1)), (1, .bs false 1 (List.map enc_i p2)), (5, .sl 0 0 o.length), (6, .sl 1 0 x3.length), (7, .v (.int .i64 v5))], [(0, .arr 2 (List.map enc_ii o)), (1, .arr 1 (List.map enc_i x3))]⟩ : S)) out) := by
  refine AX.wkpost ?_
  refine AX.loop (G := Nat × ((List (Int × Int)) × Int)) (fun q => (fun g : (List (Int × Int)) × Int => (⟨[(0, .v (.int .i64 p1)), (1, .bs false 1 (List.map enc_i p2)), (5, .sl 0 0 g.1.length), (6, .sl 1 0 x3.length), (7, .v (.int .i64 v5)), (8, .sl 2 0 x7.length), (9, .v (.int .i64 g.2))], [(0, .arr 2 (List.map enc_ii g.1)), (1, .arr 1 (List.map enc_i x3)), (2, .arr 1 (List.map enc_i x7))]⟩ : S)) q.2) (fun q => m_spec_armsIn_L2 p1 p2 x3 v5 x7 q.1 q.2.1 q.2.2 = some out) (fun q => q.1) (n, g) h (Wk.refl _) ?_
  clear h
  rintro ⟨fu, v8, v9⟩ h
  cases fu with
  | zero => cases h
  | succ fu =>
    rw [m_spec_armsIn_L2] at h
    refine AX.seq ?_
    refine AX.seq ?_
    refine AX.reg (its := []) [0, 1, 5, 6, 7, 8, 9, 30] [0, 1, 2] (s1 := ⟨[(0, .v (.int .i64 p1)), (1, .bs false 1 (List.map enc_i p2)), (5, .sl 0 0 v8.length), (6, .sl 1 0 x3.length), (7, .v (.int .i64 v5)), (8, .sl 2 0 x7.length), (9, .v (.int .i64 v9)), (30, .v (.bool (decide (v9 < (x7.length : Int)))))], [(0, .arr 2 (List.map enc_ii v8)), (1, .arr 1 (List.map enc_i x3)), (2, .arr 1 (List.map enc_i x7))]⟩) (C := True) (by kernel_rfl) trivial trivial ?_
    rcases bool_cases (decide (v9 < (x7.length : Int))) with b6 | b6
    · replace h := cd_t b6 h
      refine AX.condT (decide (v9 < (x7.length : Int))) (by kernel_rfl) b6 ?_
      refine AX.skip ?_
      refine AX.seq ?_
      refine AX.block ?_
      refine AX.seq ?_
      obtain ⟨g7, h⟩ := gd_e h
      obtain ⟨g8, h⟩ := gd_e h
      refine AX.drw mixed (its := [.auto {}, .auto {}, .auto {}, .auto { y := some (.v (.int .i64 (gt x3 v5))) }, .auto {}, .auto {}, .auto {}, .auto { y := some (.v (.int .i64 (gt x7 v9))) }, .auto {}, .auto { nk := 3 }]) [0, 1, 5, 6, 7, 8, 9, 10] [0, 1, 2, 3] (s1 := ⟨[(0, .v (.int .i64 p1)), (1, .bs false 1 (List.map enc_i p2)), (5, .sl 0 0 v8.length), (6, .sl 1 0 x3.length), (7, .v (.int .i64 v5)), (8, .sl 2 0 x7.length), (9, .v (.int .i64 v9)), (10, .pt 3 0)], [(0, .arr 2 (List.map enc_ii v8)), (1, .arr 1 (List.map enc_i x3)), (2, .arr 1 (List.map enc_i x7)), (3, .box [.v (.int .i64 (gt x3 v5)), .v (.int .i64 (gt x7 v9))])]⟩) (C := (0 ≤ v5 ∧ v5 < (x3.length : Int)) ∧ (True ∧ (AV.v (((List.map enc_i x3).getD (0 + v5.toNat) []).getD 0 undef) = .v (.int .i64 (gt x3 v5)))) ∧ (0 ≤ v9 ∧ v9 < (x7.length : Int)) ∧ (True ∧ (AV.v (((List.map enc_i x7).getD (0 + v9.toNat) []).getD 0 undef) = .v (.int .i64 (gt x7 v9)))) ∧ True) (by kernel_rfl) ⟨g7, ⟨⟨trivial, (congrArg (fun z : List Value => AV.v (z.getD 0 undef)) (idx_arr (enc := enc_i) rfl g7))⟩, ⟨g8, ⟨⟨trivial, (congrArg (fun z : List Value => AV.v (z.getD 0 undef)) (idx_arr (enc := enc_i) rfl g8))⟩, trivial⟩⟩⟩⟩ trivial ?_
      refine AX.seq ?_
      obtain ⟨x10, e9, h⟩ := bd_e h
      refine AX.reg (its := [.auto {}, .auto {}, .auto {}, .call 148 [.sl 1 0 x3.length, .bs false 1 (List.map enc_i p2), .agg [.v (.int .i64 (gt x3 v5)), .v (.int .i64 (gt x7 v9))]] (handO (rho ([] ++ [])) [] [] ++ [(1, .arr 1 (List.map enc_i x3))]) (callEv [] [] (.v (.bool x10)) [])]) [0, 1, 5, 6, 7, 8, 9, 10, 45] [0, 1, 2, 3] (s1 := ⟨[(0, .v (.int .i64 p1)), (1, .bs false 1 (List.map enc_i p2)), (5, .sl 0 0 v8.length), (6, .sl 1 0 x3.length), (7, .v (.int .i64 v5)), (8, .sl 2 0 x7.length), (9, .v (.int .i64 v9)), (10, .pt 3 0), (45, .v (.bool x10))], [(0, .arr 2 (List.map enc_ii v8)), (1, .arr 1 (List.map enc_i x3)), (2, .arr 1 (List.map enc_i x7)), (3, .box [.v (.int .i64 (gt x3 v5)), .v (.int .i64 (gt x7 v9))])]⟩) (C := ((([.sl 1 0 x3.length, .bs false 1 (List.map enc_i p2), .agg [.v (.int .i64 (gt x3 v5)), .v (.int .i64 (gt x7 v9))]] : List AV) = [.sl 1 0 x3.length, .bs false 1 (List.map enc_i p2), .agg [.v (.int .i64 (gt x3 v5)), .v (.int .i64 (gt x7 v9))]]) ∧ (AO.arr 1 (List.map enc_i x3) = AO.arr 1 (List.map enc_i x3)) ∧ True) ∧ True) (by kernel_rfl) ⟨⟨rfl, rfl, trivial⟩, trivial⟩ ⟨call_ok (ks := []) (ns := []) (bor := [1]) (bobjs := [(1, .arr 1 (List.map enc_i x3))]) (s_spec_allIn x3 p2 (gt x3 v5) (gt x7 v9) x10 e9) (.cons (.c1 (.c0 (.arr rfl rfl ((rfl).trans (List.length_map ..).symm)))) (.cons (.c1 (.c0 (.same _ (by kernel_rfl) (by kernel_rfl)))) (.cons (.c1 (.agg (.cons (.same _ (by kernel_rfl) (by kernel_rfl)) (.cons (.same _ (by kernel_rfl) (by kernel_rfl)) (.nil))))) (.nil)))) (by kernel_rfl) trivial, trivial⟩ ?_
      rcases bool_cases (x10) with b10 | b10
      · replace h := cd_t b10 h
        refine AX.condT (x10) (by kernel_rfl) b10 ?_
        obtain ⟨g11, h⟩ := gd_e h
        refine AX.reg (its := [.auto {}, .auto {}, .auto { nk := 4 }, .auto { y := some (.sl 5 0 ((v8 ++ ([((gt x3 v5), (gt x7 v9))] : List (Int × Int))).length)), els := some (List.map enc_ii v8), els2 := some (List.map enc_ii ([((gt x3 v5), (gt x7 v9))] : List (Int × Int))), nk := 5 }]) [0, 1, 5, 6, 7, 8, 9] [1, 2, 5] (s1 := ⟨[(0, .v (.int .i64 p1)), (1, .bs false 1 (List.map enc_i p2)), (5, .sl 5 0 ((v8 ++ ([((gt x3 v5), (gt x7 v9))] : List (Int × Int))).length)), (6, .sl 1 0 x3.length), (7, .v (.int .i64 v5)), (8, .sl 2 0 x7.length), (9, .v (.int .i64 v9))], [(1, .arr 1 (List.map enc_i x3)), (2, .arr 1 (List.map enc_i x7)), (5, .arr 2 (List.map enc_ii v8 ++ List.map enc_ii ([((gt x3 v5), (gt x7 v9))] : List (Int × Int))))]⟩) (C := ((((((List.map enc_ii v8).drop 0).take (v8.length) = List.map enc_ii v8) ∧ (((List.map enc_ii ([((gt x3 v5), (gt x7 v9))] : List (Int × Int))).drop 0).take (([((gt x3 v5), (gt x7 v9))] : List (Int × Int)).length) = List.map enc_ii ([((gt x3 v5), (gt x7 v9))] : List (Int × Int)))) ∧ (List.map enc_ii v8).length + (List.map enc_ii ([((gt x3 v5), (gt x7 v9))] : List (Int × Int))).length ≤ 1099511627776) ∧ (AV.sl 5 0 (List.map enc_ii v8 ++ List.map enc_ii ([((gt x3 v5), (gt x7 v9))] : List (Int × Int))).length = AV.sl 5 0 (v8 ++ ([((gt x3 v5), (gt x7 v9))] : List (Int × Int))).length)) ∧ True) (by kernel_rfl) ⟨⟨⟨⟨(dt_all (enc := enc_ii) rfl rfl), (dt_all (enc := enc_ii) rfl rfl)⟩, (by simp only [List.length_map, List.length_nil]; simpa using g11)⟩, sl_len (enc := enc_ii) (app_can (enc := enc_ii) rfl rfl)⟩, trivial⟩ trivial ?_
        refine AX.reg (its := [.auto {}, .auto { raw := true }]) [0, 1, 5, 6, 7, 8, 9] [1, 2, 5] (s1 := ⟨[(0, .v (.int .i64 p1)), (1, .bs false 1 (List.map enc_i p2)), (5, .sl 5 0 ((v8 ++ ([((gt x3 v5), (gt x7 v9))] : List (Int × Int))).length)), (6, .sl 1 0 x3.length), (7, .v (.int .i64 v5)), (8, .sl 2 0 x7.length), (9, .v (.int .i64 (IntKind.wrap .i64 (v9 + 1))))], [(1, .arr 1 (List.map enc_i x3)), (2, .arr 1 (List.map enc_i x7)), (5, .arr 2 (List.map enc_ii v8 ++ List.map enc_ii ([((gt x3 v5), (gt x7 v9))] : List (Int × Int))))]⟩) (C := True) (by kernel_rfl) trivial trivial ?_
        refine ⟨(fu, (v8 ++ ([((gt x3 v5), (gt x7 v9))] : List (Int × Int)), IntKind.wrap .i64 (v9 + 1))), h, Nat.lt_succ_self _, ?_⟩
        refine Wk.trans (Wk.swap 0 5 (Nat.le_of_ble_eq_true (by kernel_rfl)) (Nat.le_of_ble_eq_true (by kernel_rfl)) rfl) ?_
        refine Wk.trans (Wk.forget [0, 1, 5, 6, 7, 8, 9] [0, 1, 2] (s' := ⟨[(0, .v (.int .i64 p1)), (1, .bs false 1 (List.map enc_i p2)), (5, .sl 0 0 ((v8 ++ ([((gt x3 v5), (gt x7 v9))] : List (Int × Int))).length)), (6, .sl 1 0 x3.length), (7, .v (.int .i64 v5)), (8, .sl 2 0 x7.length), (9, .v (.int .i64 (IntKind.wrap .i64 (v9 + 1))))], [(0, .arr 2 (List.map enc_ii v8 ++ List.map enc_ii ([((gt x3 v5), (gt x7 v9))] : List (Int × Int)))), (1, .arr 1 (List.map enc_i x3)), (2, .arr 1 (List.map enc_i x7))]⟩) (by kernel_rfl)) ?_
        refine Wk.trans (Wk.of_eq (congrArg (fun z => (⟨[(0, .v (.int .i64 p1)), (1, .bs false 1 (List.map enc_i p2)), (5, .sl 0 0 ((v8 ++ ([((gt x3 v5), (gt x7 v9))] : List (Int × Int))).length)), (6, .sl 1 0 x3.length), (7, .v (.int .i64 v5)), (8, .sl 2 0 x7.length), (9, .v (.int .i64 (IntKind.wrap .i64 (v9 + 1))))], [(0, .arr 2 (z)), (1, .arr 1 (List.map enc_i x3)), (2, .arr 1 (List.map enc_i x7))]⟩ : S)) (app_can (enc := enc_ii) rfl rfl : List.map enc_ii v8 ++ List.map enc_ii ([((gt x3 v5), (gt x7 v9))] : List (Int × Int)) = List.map enc_ii (v8 ++ ([((gt x3 v5), (gt x7 v9))] : List (Int × Int)))))) ?_
        exact Wk.refl _
      · replace h := cd_f b10 h
        refine AX.condF (x10) (by kernel_rfl) b10 ?_
        refine AX.skip ?_
        refine AX.reg (its := [.auto {}, .auto { raw := true }]) [0, 1, 5, 6, 7, 8, 9] [0, 1, 2] (s1 := ⟨[(0, .v (.int .i64 p1)), (1, .bs false 1 (List.map enc_i p2)), (5, .sl 0 0 v8.length), (6, .sl 1 0 x3.length), (7, .v (.int .i64 v5)), (8, .sl 2 0 x7.length), (9, .v (.int .i64 (IntKind.wrap .i64 (v9 + 1))))], [(0, .arr 2 (List.map enc_ii v8)), (1, .arr 1 (List.map enc_i x3)), (2, .arr 1 (List.map enc_i x7))]⟩) (C := True) (by kernel_rfl) trivial trivial ?_
        refine ⟨(fu, (v8, IntKind.wrap .i64 (v9 + 1))), h, Nat.lt_succ_self _, ?_⟩
        refine Wk.trans (Wk.forget [0, 1, 5, 6, 7, 8, 9] [0, 1, 2] (s' := ⟨[(0, .v (.int .i64 p1)), (1, .bs false 1 (List.map enc_i p2)), (5, .sl 0 0 v8.length), (6, .sl 1 0 x3.length), (7, .v (.int .i64 v5)), (8, .sl 2 0 x7.length), (9, .v (.int .i64 (IntKind.wrap .i64 (v9 + 1))))], [(0, .arr 2 (List.map enc_ii v8)), (1, .arr 1 (List.map enc_i x3)), (2, .arr 1 (List.map enc_i x7))]⟩) (by kernel_rfl)) ?_
        exact Wk.refl _
    · replace h := cd_f b6 h
      refine AX.condF (decide (v9 < (x7.length : Int))) (by kernel_rfl) b6 ?_
      refine AX.exit ?_
      refine fin_wk (Wk.forget [0, 1, 5, 6, 7] [0, 1] (s' := ⟨[(0, .v (.int .i64 p1)), (1, .bs false 1 (List.map enc_i p2)), (5, .sl 0 0 v8.length), (6, .sl 1 0 x3.length), (7, .v (.int .i64 v5))], [(0, .arr 2 (List.map enc_ii v8)), (1, .arr 1 (List.map enc_i x3))]⟩) (by kernel_rfl)) ?_
      have hr := Option.some.inj h
      subst hr
      exact ⟨_, Wk.refl _, ⟨rfl, rfl⟩⟩

theorem s_spec_armsIn_L1 (p1 : Int) (p2 : List (Int)) (x3 : List (Int)) (n : Nat) (g : (List (Int × Int)) × Int) (out : List (Int × Int)) (h : m_spec_armsIn_L1 p1 p2 x3 n g.1 g.2 = some out) :
    AX Try.prog 51 0 (codeAt [1, 1, 1, 0, 1, 1] (bodyOf Try.f95)) ((fun g : (List (Int × Int)) × Int => (⟨[(0, .v (.int .i64 p1)), (1, .bs false 1 (List.map enc_i p2)), (5, .sl 0 0 g.1.length), (6, .sl 1 0 x3.length), (7, .v (.int .i64 g.2))], [(0, .arr 2 (List.map enc_ii g.1)), (1, .arr 1 (List.map enc_i x3))]⟩ : S)) g) (fun ex s => ex = .exit 0 ∧ s = (fun o : List (Int × Int) => (⟨[(5, .sl 0 0 o.length)], [(0, .arr 2 (List.map enc_ii o))]⟩ : S)) out) := by
  refine AX.wkpost ?_
  refine AX.loop (G := Nat × ((List (Int × Int)) × Int)) (fun q => (fun g : (List (Int × Int)) × Int => (⟨[(0, .v (.int .i64 p1)), (1, .bs false 1 (List.map enc_i p2)), (5, .sl 0 0 g.1.length), (6, .sl 1 0 x3.length), (7, .v (.int .i64 g.2))], [(0, .arr 2 (List.map enc_ii g.1)), (1, .arr 1 (List.map enc_i x3))]⟩ : S)) q.2) (fun q => m_spec_armsIn_L1 p1 p2 x3 q.1 q.2.1 q.2.2 = some out) (fun q => q.1) (n, g) h (Wk.refl _) ?_
  clear h
  rintro ⟨fu, v4, v5⟩ h
  cases fu with
  | zero => cases h
  | succ fu =>
    rw [m_spec_armsIn_L1] at h
    refine AX.seq ?_
    refine AX.seq ?_
    refine AX.reg (its := []) [0, 1, 5, 6, 7, 17] [0, 1] (s1 := ⟨[(0, .v (.int .i64 p1)), (1, .bs false 1 (List.map enc_i p2)), (5, .sl 0 0 v4.length), (6, .sl 1 0 x3.length), (7, .v (.int .i64 v5)), (17, .v (.bool (decide (v5 < (x3.length : Int)))))], [(0, .arr 2 (List.map enc_ii v4)), (1, .arr 1 (List.map enc_i x3))]⟩) (C := True) (by kernel_rfl) trivial trivial ?_
    rcases bool_cases (decide (v5 < (x3.length : Int))) with b2 | b2
    · replace h := cd_t b2 h
      refine AX.condT (decide (v5 < (x3.length : Int))) (by kernel_rfl) b2 ?_
      refine AX.skip ?_
      refine AX.seq ?_
      refine AX.block ?_
      refine AX.seq ?_
      obtain ⟨g3, h⟩ := gd_e h
      obtain ⟨x6, e4, h⟩ := bd_e h
      obtain ⟨x7, e5, h⟩ := bd_e h
      refine AX.reg (its := [.auto {}, .auto {}, .auto {}, .auto {}, .auto { y := some (.v (.int .i64 (gt x3 v5))) }, .call 94 [.v (.int .i64 p1), .v (.int .i64 (gt x3 v5))] (handO (rho ([] ++ [])) [] [] ++ []) (callEv [] [] (.v (.int .i64 x6)) []), .call 108 [.v (.int .i64 x6)] (handO (rho ([] ++ [2])) [] [] ++ []) (callEv [] [2] (.sl 0 0 x7.length) [.arr 1 (List.map enc_i x7)])]) [0, 1, 5, 6, 7, 8] [0, 1, 2] (s1 := ⟨[(0, .v (.int .i64 p1)), (1, .bs false 1 (List.map enc_i p2)), (5, .sl 0 0 v4.length), (6, .sl 1 0 x3.length), (7, .v (.int .i64 v5)), (8, .sl 2 0 x7.length)], [(0, .arr 2 (List.map enc_ii v4)), (1, .arr 1 (List.map enc_i x3)), (2, .arr 1 (List.map enc_i x7))]⟩) (C := (0 ≤ v5 ∧ v5 < (x3.length : Int)) ∧ (True ∧ (AV.v (((List.map enc_i x3).getD (0 + v5.toNat) []).getD 0 undef) = .v (.int .i64 (gt x3 v5)))) ∧ ((([.v (.int .i64 p1), .v (.int .i64 (gt x3 v5))] : List AV) = [.v (.int .i64 p1), .v (.int .i64 (gt x3 v5))]) ∧ True) ∧ ((([.v (.int .i64 x6)] : List AV) = [.v (.int .i64 x6)]) ∧ True) ∧ True) (by kernel_rfl) ⟨g3, ⟨⟨trivial, (congrArg (fun z : List Value => AV.v (z.getD 0 undef)) (idx_arr (enc := enc_i) rfl g3))⟩, ⟨⟨rfl, trivial⟩, ⟨⟨rfl, trivial⟩, trivial⟩⟩⟩⟩ ⟨call_ok (ks := []) (ns := []) (bor := []) (bobjs := []) (s_spec_less p1 (gt x3 v5) x6 e4) (.cons (.c1 (.c0 (.same _ (by kernel_rfl) (by kernel_rfl)))) (.cons (.c1 (.c0 (.same _ (by kernel_rfl) (by kernel_rfl)))) (.nil))) (by kernel_rfl) trivial, ⟨call_ok (ks := []) (ns := [2]) (bor := []) (bobjs := []) (s_spec_partsIn x6 x7 e5) (.cons (.c1 (.c0 (.same _ (by kernel_rfl) (by kernel_rfl)))) (.nil)) (by kernel_rfl) trivial, trivial⟩⟩ ?_
      refine AX.seq ?_
      refine AX.reg (its := []) [0, 1, 5, 6, 7, 8, 9] [0, 1, 2] (s1 := ⟨[(0, .v (.int .i64 p1)), (1, .bs false 1 (List.map enc_i p2)), (5, .sl 0 0 v4.length), (6, .sl 1 0 x3.length), (7, .v (.int .i64 v5)), (8, .sl 2 0 x7.length), (9, .v (.int .i64 0))], [(0, .arr 2 (List.map enc_ii v4)), (1, .arr 1 (List.map enc_i x3)), (2, .arr 1 (List.map enc_i x7))]⟩) (C := True) (by kernel_rfl) trivial trivial ?_
      refine AX.block ?_
      obtain ⟨x11, e12, h⟩ := bd_e h
      refine AX.wk (Wk.forget [0, 1, 5, 6, 7, 8, 9] [0, 1, 2] (s' := ⟨[(0, .v (.int .i64 p1)), (1, .bs false 1 (List.map enc_i p2)), (5, .sl 0 0 v4.length), (6, .sl 1 0 x3.length), (7, .v (.int .i64 v5)), (8, .sl 2 0 x7.length), (9, .v (.int .i64 0))], [(0, .arr 2 (List.map enc_ii v4)), (1, .arr 1 (List.map enc_i x3)), (2, .arr 1 (List.map enc_i x7))]⟩) (by kernel_rfl)) ?_
      refine AX.mono (s_spec_armsIn_L2 p1 p2 x3 v5 x7 FU (v4, 0) x11 e12) ?_
      rintro _ _ ⟨rfl, rfl⟩
      skip
      refine AX.reg (its := [.auto {}, .auto { raw := true }]) [0, 1, 5, 6, 7] [0, 1] (s1 := ⟨[(0, .v (.int .i64 p1)), (1, .bs false 1 (List.map enc_i p2)), (5, .sl 0 0 x11.length), (6, .sl 1 0 x3.length), (7, .v (.int .i64 (IntKind.wrap .i64 (v5 + 1))))], [(0, .arr 2 (List.map enc_ii x11)), (1, .arr 1 (List.map enc_i x3))]⟩) (C := True) (by kernel_rfl) trivial trivial ?_
      refine ⟨(fu, (x11, IntKind.wrap .i64 (v5 + 1))), h, Nat.lt_succ_self _, ?_⟩
      refine Wk.trans (Wk.forget [0, 1, 5, 6, 7] [0, 1] (s' := ⟨[(0, .v (.int .i64 p1)), (1, .bs false 1 (List.map enc_i p2)), (5, .sl 0 0 x11.length), (6, .sl 1 0 x3.length), (7, .v (.int .i64 (IntKind.wrap .i64 (v5 + 1))))], [(0, .arr 2 (List.map enc_ii x11)), (1, .arr 1 (List.map enc_i x3))]⟩) (by kernel_rfl)) ?_
      exact Wk.refl _
    · replace h := cd_f b2 h
      refine AX.condF (decide (v5 < (x3.length : Int))) (by kernel_rfl) b2 ?_
      refine AX.exit ?_
      refine fin_wk (Wk.forget [5] [0] (s' := ⟨[(5, .sl 0 0 v4.length)], [(0, .arr 2 (List.map enc_ii v4))]⟩) (by kernel_rfl)) ?_
      have hr := Option.some.inj h
      subst hr
      exact ⟨_, Wk.refl _, ⟨rfl, rfl⟩⟩

theorem s_spec_armsIn (p1 : Int) (p2 : List (Int)) (r : List (Int × Int)) (h : m_spec_armsIn p1 p2 = some r) :
    Eng.Spec Try.prog 95 [.v (.int .i64 p1), .bs false 1 (List.map enc_i p2)] [] (.sl 0 0 r.length) [.arr 2 (List.map enc_ii r)] := by
  unfold m_spec_armsIn at h
  refine Eng.Spec.body Try.func95 (by kernel_rfl) rfl (by kernel_rfl) ?_
  refine AX.wkpost ?_
  refine AX.seq ?_
  refine AX.reg (its := []) [0, 1] [] (s1 := ⟨[(0, .v (.int .i64 p1)), (1, .bs false 1 (List.map enc_i p2))], []⟩) (C := True) (by kernel_rfl) trivial trivial ?_
  refine AX.seq ?_
  refine AX.reg (its := [.auto { nk := 0 }]) [0, 1, 5] [0] (s1 := ⟨[(0, .v (.int .i64 p1)), (1, .bs false 1 (List.map enc_i p2)), (5, .sl 0 0 (([] : List (Int × Int)).length))], [(0, .arr 2 (List.map enc_ii ([] : List (Int × Int))))]⟩) (C := True) (by kernel_rfl) trivial trivial ?_
  refine AX.seq ?_
  obtain ⟨x3, e1, h⟩ := bd_e h
  refine AX.reg (its := [.auto {}, .call 108 [.v (.int .i64 p1)] (handO (rho ([] ++ [1])) [] [] ++ []) (callEv [] [1] (.sl 0 0 x3.length) [.arr 1 (List.map enc_i x3)])]) [0, 1, 5, 6] [0, 1] (s1 := ⟨[(0, .v (.int .i64 p1)), (1, .bs false 1 (List.map enc_i p2)), (5, .sl 0 0 (([] : List (Int × Int)).length)), (6, .sl 1 0 x3.length)], [(0, .arr 2 (List.map enc_ii ([] : List (Int × Int)))), (1, .arr 1 (List.map enc_i x3))]⟩) (C := ((([.v (.int .i64 p1)] : List AV) = [.v (.int .i64 p1)]) ∧ True) ∧ True) (by kernel_rfl) ⟨⟨rfl, trivial⟩, trivial⟩ ⟨call_ok (ks := []) (ns := [1]) (bor := []) (bobjs := []) (s_spec_partsIn p1 x3 e1) (.cons (.c1 (.c0 (.same _ (by kernel_rfl) (by kernel_rfl)))) (.nil)) (by kernel_rfl) trivial, trivial⟩ ?_
  refine AX.seq ?_
  refine AX.seq ?_
  refine AX.reg (its := []) [0, 1, 5, 6, 7] [0, 1] (s1 := ⟨[(0, .v (.int .i64 p1)), (1, .bs false 1 (List.map enc_i p2)), (5, .sl 0 0 (([] : List (Int × Int)).length)), (6, .sl 1 0 x3.length), (7, .v (.int .i64 0))], [(0, .arr 2 (List.map enc_ii ([] : List (Int × Int)))), (1, .arr 1 (List.map enc_i x3))]⟩) (C := True) (by kernel_rfl) trivial trivial ?_
  refine AX.block ?_
  obtain ⟨x12, e13, h⟩ := bd_e h
  refine AX.wk (Wk.forget [0, 1, 5, 6, 7] [0, 1] (s' := ⟨[(0, .v (.int .i64 p1)), (1, .bs false 1 (List.map enc_i p2)), (5, .sl 0 0 (([] : List (Int × Int)).length)), (6, .sl 1 0 x3.length), (7, .v (.int .i64 0))], [(0, .arr 2 (List.map enc_ii ([] : List (Int × Int)))), (1, .arr 1 (List.map enc_i x3))]⟩) (by kernel_rfl)) ?_
  refine AX.mono (s_spec_armsIn_L1 p1 p2 x3 FU (([] : List (Int × Int)), 0) x12 e13) ?_
  rintro _ _ ⟨rfl, rfl⟩
  skip
  refine AX.seq ?_
  refine AX.reg (its := []) [4] [0] (s1 := ⟨[(4, .sl 0 0 x12.length)], [(0, .arr 2 (List.map enc_ii x12))]⟩) (C := True) (by kernel_rfl) trivial trivial ?_
  refine AX.ret ?_
  refine fin_wk (Wk.forget [4] [0] (s' := ⟨[(4, .sl 0 0 x12.length)], [(0, .arr 2 (List.map enc_ii x12))]⟩) (by kernel_rfl)) ?_
  have hr := Option.some.inj h
  subst hr
  exact ⟨_, Wk.refl _, .inr rfl, ⟨[0], by kernel_rfl, ⟨rfl, trivial⟩, [.sl 0 0 x12.length], by kernel_rfl, by kernel_rfl⟩⟩

theorem s_spec_covers (p1 : Int) (p2 : Int) (p3 : Int) (p4 : Int) (r : Bool) (h : m_spec_covers p1 p2 p3 p4 = some r) :
    Eng.Spec Try.prog 96 [.agg [.v (.int .i64 p1), .v (.int .i64 p2)], .agg [.v (.int .i64 p3), .v (.int .i64 p4)]] [] (.v (.bool r)) [] := by
  unfold m_spec_covers at h
  refine Eng.Spec.body Try.func96 (by kernel_rfl) rfl (by kernel_rfl) ?_
  refine AX.wkpost ?_
  refine AX.seq ?_
  refine AX.reg (its := [.auto { nk := 0 }, .auto { nk := 1 }]) [2, 3] [0, 1] (s1 := ⟨[(2, .pt 0 0), (3, .pt 1 0)], [(0, .box [.v (.int .i64 p1), .v (.int .i64 p2)]), (1, .box [.v (.int .i64 p3), .v (.int .i64 p4)])]⟩) (C := True) (by kernel_rfl) trivial trivial ?_
  refine AX.seq ?_
  obtain ⟨x5, e1, h⟩ := bd_e h
  rcases bool_cases (decide (x5 = 0)) with b2 | b2
  · replace h := cd_t b2 h
    obtain ⟨x6, e3, h⟩ := bd_e h
    refine AX.reg (its := [.auto {}, .auto {}, .auto {}, .auto {}, .call 94 [.v (.int .i64 p1), .v (.int .i64 p3)] (handO (rho ([] ++ [])) [] [] ++ []) (callEv [] [] (.v (.int .i64 x5)) []), .auto { y := some (.v (.bool true)) }, .auto {}, .auto {}, .auto {}, .auto {}, .auto {}, .call 94 [.v (.int .i64 p2), .v (.int .i64 p4)] (handO (rho ([] ++ [])) [] [] ++ []) (callEv [] [] (.v (.int .i64 x6)) [])]) [4] [] (s1 := ⟨[(4, .v (.bool (decide (x6 = 0))))], []⟩) (C := ((([.v (.int .i64 p1), .v (.int .i64 p3)] : List AV) = [.v (.int .i64 p1), .v (.int .i64 p3)]) ∧ True) ∧ ((True) ∧ ((.v (.bool (decide (x5 = 0))) : AV) = (.v (.bool true) : AV))) ∧ ((([.v (.int .i64 p2), .v (.int .i64 p4)] : List AV) = [.v (.int .i64 p2), .v (.int .i64 p4)]) ∧ True) ∧ True) (by kernel_rfl) ⟨⟨rfl, trivial⟩, ⟨⟨trivial, (congrArg (fun z => AV.v (.bool z)) b2)⟩, ⟨⟨rfl, trivial⟩, trivial⟩⟩⟩ ⟨call_ok (ks := []) (ns := []) (bor := []) (bobjs := []) (s_spec_less p1 p3 x5 e1) (.cons (.c1 (.c0 (.same _ (by kernel_rfl) (by kernel_rfl)))) (.cons (.c1 (.c0 (.same _ (by kernel_rfl) (by kernel_rfl)))) (.nil))) (by kernel_rfl) trivial, ⟨call_ok (ks := []) (ns := []) (bor := []) (bobjs := []) (s_spec_less p2 p4 x6 e3) (.cons (.c1 (.c0 (.same _ (by kernel_rfl) (by kernel_rfl)))) (.cons (.c1 (.c0 (.same _ (by kernel_rfl) (by kernel_rfl)))) (.nil))) (by kernel_rfl) trivial, trivial⟩⟩ ?_
    refine AX.ret ?_
    refine fin_wk (Wk.forget [4] [] (s' := ⟨[(4, .v (.bool (decide (x6 = 0))))], []⟩) (by kernel_rfl)) ?_
    have hr := Option.some.inj h
    subst hr
    exact ⟨_, Wk.refl _, .inr rfl, ⟨[], by kernel_rfl, trivial, [.v (.bool (decide (x6 = 0)))], by kernel_rfl, by kernel_rfl⟩⟩
  · replace h := cd_f b2 h
    refine AX.reg (its := [.auto {}, .auto {}, .auto {}, .auto {}, .call 94 [.v (.int .i64 p1), .v (.int .i64 p3)] (handO (rho ([] ++ [])) [] [] ++ []) (callEv [] [] (.v (.int .i64 x5)) []), .auto { y := some (.v (.bool false)) }]) [4] [] (s1 := ⟨[(4, .v (.bool false))], []⟩) (C := ((([.v (.int .i64 p1), .v (.int .i64 p3)] : List AV) = [.v (.int .i64 p1), .v (.int .i64 p3)]) ∧ True) ∧ ((True) ∧ ((.v (.bool (decide (x5 = 0))) : AV) = (.v (.bool false) : AV))) ∧ True) (by kernel_rfl) ⟨⟨rfl, trivial⟩, ⟨⟨trivial, (congrArg (fun z => AV.v (.bool z)) b2)⟩, trivial⟩⟩ ⟨call_ok (ks := []) (ns := []) (bor := []) (bobjs := []) (s_spec_less p1 p3 x5 e1) (.cons (.c1 (.c0 (.same _ (by kernel_rfl) (by kernel_rfl)))) (.cons (.c1 (.c0 (.same _ (by kernel_rfl) (by kernel_rfl)))) (.nil))) (by kernel_rfl) trivial, trivial⟩ ?_
    refine AX.ret ?_
    refine fin_wk (Wk.forget [4] [] (s' := ⟨[(4, .v (.bool false))], []⟩) (by kernel_rfl)) ?_
    have hr := Option.some.inj h
    subst hr
    exact ⟨_, Wk.refl _, .inr rfl, ⟨[], by kernel_rfl, trivial, [.v (.bool false)], by kernel_rfl, by kernel_rfl⟩⟩

theorem s_spec_GreatestArms_L1 (p3 : List (Int)) (x4 : Int) (n : Nat) (g : Int) (out : Unit ⊕ Unit) (h : m_spec_GreatestArms_L1 p3 x4 n g = some out) :
    AX Try.prog 92 0 (codeAt [1, 1, 1, 0, 1, 1] (bodyOf Try.f16)) ((fun g : Int => (⟨[(1, .bs false 1 (List.map enc_i p3)), (5, .v (.int .i64 x4)), (6, .v (.int .i64 g))], []⟩ : S)) g) (fun ex s => (∃ o : Unit, out = Sum.inl o ∧ ex = .ret ∧ s = ⟨[(4, .v (.slice none 0 0))], []⟩) ∨ (∃ o : Unit, out = Sum.inr o ∧ ex = .exit 0 ∧ s = ⟨[(1, .bs false 1 (List.map enc_i p3)), (5, .v (.int .i64 x4))], []⟩)) := by
  refine AX.wkpost ?_
  refine AX.loop (G := Nat × (Int)) (fun q => (fun g : Int => (⟨[(1, .bs false 1 (List.map enc_i p3)), (5, .v (.int .i64 x4)), (6, .v (.int .i64 g))], []⟩ : S)) q.2) (fun q => m_spec_GreatestArms_L1 p3 x4 q.1 q.2 = some out) (fun q => q.1) (n, g) h (Wk.refl _) ?_
  clear h
  rintro ⟨fu, v7⟩ h
  cases fu with
  | zero => cases h
  | succ fu =>
    rw [m_spec_GreatestArms_L1] at h
    refine AX.seq ?_
    refine AX.seq ?_
    refine AX.reg (its := [.auto {}, .auto {}, .auto { y := some (.v (.int .i64 (p3.length : Int))) }]) [1, 5, 6, 31] [] (s1 := ⟨[(1, .bs false 1 (List.map enc_i p3)), (5, .v (.int .i64 x4)), (6, .v (.int .i64 v7)), (31, .v (.bool (decide (v7 < (p3.length : Int)))))], []⟩) (C := (True ∧ (AV.v (.int .i64 ((List.map enc_i p3).length : Int)) = AV.v (.int .i64 (p3.length : Int)))) ∧ True) (by kernel_rfl) ⟨⟨trivial, len_map enc_i p3⟩, trivial⟩ trivial ?_
    rcases bool_cases (decide (v7 < (p3.length : Int))) with b7 | b7
    · replace h := cd_t b7 h
      refine AX.condT (decide (v7 < (p3.length : Int))) (by kernel_rfl) b7 ?_
      refine AX.skip ?_
      refine AX.seq ?_
      refine AX.block ?_
      refine AX.seq ?_
      obtain ⟨g8, h⟩ := gd_e h
      obtain ⟨x8, e9, h⟩ := bd_e h
      rcases bool_cases ((!x8)) with b10 | b10
      · replace h := cd_t b10 h
        refine AX.reg (its := [.auto {}, .auto {}, .auto { y := some (.be 1 (enc_i (gt p3 v7)) 0) }, .auto {}, .call 93 [.v (.int .i64 (gt p3 v7)), .v (.int .i64 0), .v (.int .i64 4095)] (handO (rho ([] ++ [])) [] [] ++ []) (callEv [] [] (.v (.bool x8)) []), .auto { y := some (.v (.bool true)) }]) [1, 5, 6, 48] [] (s1 := ⟨[(1, .bs false 1 (List.map enc_i p3)), (5, .v (.int .i64 x4)), (6, .v (.int .i64 v7)), (48, .v (.bool true))], []⟩) (C := ((0 ≤ v7 ∧ v7 < ((List.map enc_i p3).length : Int)) ∧ (AV.be 1 ((List.map enc_i p3).getD v7.toNat []) 0 = AV.be 1 (enc_i (gt p3 v7)) 0)) ∧ ((([.v (.int .i64 (gt p3 v7)), .v (.int .i64 0), .v (.int .i64 4095)] : List AV) = [.v (.int .i64 (gt p3 v7)), .v (.int .i64 0), .v (.int .i64 4095)]) ∧ True) ∧ ((True) ∧ ((.v (.bool (!x8)) : AV) = (.v (.bool true) : AV))) ∧ True) (by kernel_rfl) ⟨idx_bs enc_i p3 v7 1 g8, ⟨⟨rfl, trivial⟩, ⟨⟨trivial, (congrArg (fun z => AV.v (.bool z)) b10)⟩, trivial⟩⟩⟩ ⟨call_ok (ks := []) (ns := []) (bor := []) (bobjs := []) (s_spec_inRange (gt p3 v7) 0 4095 x8 e9) (.cons (.c1 (.c0 (.same _ (by kernel_rfl) (by kernel_rfl)))) (.cons (.c1 (.c0 (.same _ (by kernel_rfl) (by kernel_rfl)))) (.cons (.c1 (.c0 (.same _ (by kernel_rfl) (by kernel_rfl)))) (.nil)))) (by kernel_rfl) trivial, trivial⟩ ?_
        refine AX.cond_true (by kernel_rfl) ?_
        refine AX.seq ?_
        refine AX.reg (its := []) [4] [] (s1 := ⟨[(4, .v (.slice none 0 0))], []⟩) (C := True) (by kernel_rfl) trivial trivial ?_
        refine AX.ret ?_
        refine fin_wk (Wk.forget [4] [] (s' := ⟨[(4, .v (.slice none 0 0))], []⟩) (by kernel_rfl)) ?_
        have hr := Option.some.inj h
        subst hr
        exact ⟨_, Wk.refl _, .inl ⟨(), rfl, rfl, rfl⟩⟩
      · replace h := cd_f b10 h
        obtain ⟨x9, e11, h⟩ := bd_e h
        refine AX.reg (its := [.auto {}, .auto {}, .auto { y := some (.be 1 (enc_i (gt p3 v7)) 0) }, .auto {}, .call 93 [.v (.int .i64 (gt p3 v7)), .v (.int .i64 0), .v (.int .i64 4095)] (handO (rho ([] ++ [])) [] [] ++ []) (callEv [] [] (.v (.bool x8)) []), .auto { y := some (.v (.bool false)) }, .auto {}, .auto {}, .auto {}, .auto { y := some (.be 1 (enc_i (gt p3 v7)) 0) }, .auto {}, .auto {}, .call 94 [.v (.int .i64 (gt p3 v7)), .v (.int .i64 x4)] (handO (rho ([] ++ [])) [] [] ++ []) (callEv [] [] (.v (.int .i64 x9)) [])]) [1, 5, 6, 48] [] (s1 := ⟨[(1, .bs false 1 (List.map enc_i p3)), (5, .v (.int .i64 x4)), (6, .v (.int .i64 v7)), (48, .v (.bool (decide (0 < x9))))], []⟩) (C := ((0 ≤ v7 ∧ v7 < ((List.map enc_i p3).length : Int)) ∧ (AV.be 1 ((List.map enc_i p3).getD v7.toNat []) 0 = AV.be 1 (enc_i (gt p3 v7)) 0)) ∧ ((([.v (.int .i64 (gt p3 v7)), .v (.int .i64 0), .v (.int .i64 4095)] : List AV) = [.v (.int .i64 (gt p3 v7)), .v (.int .i64 0), .v (.int .i64 4095)]) ∧ True) ∧ ((True) ∧ ((.v (.bool (!x8)) : AV) = (.v (.bool false) : AV))) ∧ ((0 ≤ v7 ∧ v7 < ((List.map enc_i p3).length : Int)) ∧ (AV.be 1 ((List.map enc_i p3).getD v7.toNat []) 0 = AV.be 1 (enc_i (gt p3 v7)) 0)) ∧ ((([.v (.int .i64 (gt p3 v7)), .v (.int .i64 x4)] : List AV) = [.v (.int .i64 (gt p3 v7)), .v (.int .i64 x4)]) ∧ True) ∧ True) (by kernel_rfl) ⟨idx_bs enc_i p3 v7 1 g8, ⟨⟨rfl, trivial⟩, ⟨⟨trivial, (congrArg (fun z => AV.v (.bool z)) b10)⟩, ⟨idx_bs enc_i p3 v7 1 g8, ⟨⟨rfl, trivial⟩, trivial⟩⟩⟩⟩⟩ ⟨call_ok (ks := []) (ns := []) (bor := []) (bobjs := []) (s_spec_inRange (gt p3 v7) 0 4095 x8 e9) (.cons (.c1 (.c0 (.same _ (by kernel_rfl) (by kernel_rfl)))) (.cons (.c1 (.c0 (.same _ (by kernel_rfl) (by kernel_rfl)))) (.cons (.c1 (.c0 (.same _ (by kernel_rfl) (by kernel_rfl)))) (.nil)))) (by kernel_rfl) trivial, ⟨call_ok (ks := []) (ns := []) (bor := []) (bobjs := []) (s_spec_less (gt p3 v7) x4 x9 e11) (.cons (.c1 (.c0 (.same _ (by kernel_rfl) (by kernel_rfl)))) (.cons (.c1 (.c0 (.same _ (by kernel_rfl) (by kernel_rfl)))) (.nil))) (by kernel_rfl) trivial, trivial⟩⟩ ?_
        rcases bool_cases (decide (0 < x9)) with b12 | b12
        · replace h := cd_t b12 h
          refine AX.condT (decide (0 < x9)) (by kernel_rfl) b12 ?_
          refine AX.seq ?_
          refine AX.reg (its := []) [4] [] (s1 := ⟨[(4, .v (.slice none 0 0))], []⟩) (C := True) (by kernel_rfl) trivial trivial ?_
          refine AX.ret ?_
          refine fin_wk (Wk.forget [4] [] (s' := ⟨[(4, .v (.slice none 0 0))], []⟩) (by kernel_rfl)) ?_
          have hr := Option.some.inj h
          subst hr
          exact ⟨_, Wk.refl _, .inl ⟨(), rfl, rfl, rfl⟩⟩
        · replace h := cd_f b12 h
          refine AX.condF (decide (0 < x9)) (by kernel_rfl) b12 ?_
          refine AX.skip ?_
          refine AX.reg (its := [.auto {}, .auto { raw := true }]) [1, 5, 6] [] (s1 := ⟨[(1, .bs false 1 (List.map enc_i p3)), (5, .v (.int .i64 x4)), (6, .v (.int .i64 (IntKind.wrap .i64 (v7 + 1))))], []⟩) (C := True) (by kernel_rfl) trivial trivial ?_
          refine ⟨(fu, IntKind.wrap .i64 (v7 + 1)), h, Nat.lt_succ_self _, ?_⟩
          refine Wk.trans (Wk.forget [1, 5, 6] [] (s' := ⟨[(1, .bs false 1 (List.map enc_i p3)), (5, .v (.int .i64 x4)), (6, .v (.int .i64 (IntKind.wrap .i64 (v7 + 1))))], []⟩) (by kernel_rfl)) ?_
          exact Wk.refl _
    · replace h := cd_f b7 h
      refine AX.condF (decide (v7 < (p3.length : Int))) (by kernel_rfl) b7 ?_
      refine AX.exit ?_
      refine fin_wk (Wk.forget [1, 5] [] (s' := ⟨[(1, .bs false 1 (List.map enc_i p3)), (5, .v (.int .i64 x4))], []⟩) (by kernel_rfl)) ?_
      have hr := Option.some.inj h
      subst hr
      exact ⟨_, Wk.refl _, .inr ⟨(), rfl, rfl, rfl⟩⟩

theorem s_spec_GreatestArms_L3 (x13 : List (Int × Int)) (v14 : List (Int × Int)) (v15 : Int) (n : Nat) (g : Bool × Int) (out : Bool) (h : m_spec_GreatestArms_L3 x13 v14 v15 n g.1 g.2 = some out) :
    AX Try.prog 92 0 (codeAt [1, 1, 1, 1, 1, 1, 0, 1, 1, 1, 1, 0, 1, 1, 0, 1, 1] (bodyOf Try.f16)) ((fun g : Bool × Int => (⟨[(7, .sl 0 0 x13.length), (8, .sl 1 0 v14.length), (9, .v (.int .i64 v15)), (10, .v (.bool g.1)), (11, .v (.int .i64 g.2))], [(0, .arr 2 (List.map enc_ii x13)), (1, .arr 2 (List.map enc_ii v14))]⟩ : S)) g) (fun ex s => ex = .exit 4 ∧ s = (fun o : Bool => (⟨[(7, .sl 0 0 x13.length), (8, .sl 1 0 v14.length), (9, .v (.int .i64 v15)), (10, .v (.bool o))], [(0, .arr 2 (List.map enc_ii x13)), (1, .arr 2 (List.map enc_ii v14))]⟩ : S)) out) := by
  refine AX.wkpost ?_
  refine AX.loop (G := Nat × (Bool × Int)) (fun q => (fun g : Bool × Int => (⟨[(7, .sl 0 0 x13.length), (8, .sl 1 0 v14.length), (9, .v (.int .i64 v15)), (10, .v (.bool g.1)), (11, .v (.int .i64 g.2))], [(0, .arr 2 (List.map enc_ii x13)), (1, .arr 2 (List.map enc_ii v14))]⟩ : S)) q.2) (fun q => m_spec_GreatestArms_L3 x13 v14 v15 q.1 q.2.1 q.2.2 = some out) (fun q => q.1) (n, g) h (Wk.refl _) ?_
  clear h
  rintro ⟨fu, v16, v17⟩ h
  cases fu with
  | zero => cases h
  | succ fu =>
    rw [m_spec_GreatestArms_L3] at h
    refine AX.seq ?_
    refine AX.seq ?_
    refine AX.reg (its := []) [7, 8, 9, 10, 11, 62] [0, 1] (s1 := ⟨[(7, .sl 0 0 x13.length), (8, .sl 1 0 v14.length), (9, .v (.int .i64 v15)), (10, .v (.bool v16)), (11, .v (.int .i64 v17)), (62, .v (.bool (decide (v17 < (x13.length : Int)))))], [(0, .arr 2 (List.map enc_ii x13)), (1, .arr 2 (List.map enc_ii v14))]⟩) (C := True) (by kernel_rfl) trivial trivial ?_
    rcases bool_cases (decide (v17 < (x13.length : Int))) with b16 | b16
    · replace h := cd_t b16 h
      refine AX.condT (decide (v17 < (x13.length : Int))) (by kernel_rfl) b16 ?_
      refine AX.skip ?_
      refine AX.seq ?_
      refine AX.block ?_
      rcases bool_cases (v16) with b17 | b17
      · replace h := cd_t b17 h
        refine AX.drw mixed (its := [.auto { y := some (.v (.bool true)) }]) [7, 8, 9, 10, 11] [0, 1] (s1 := ⟨[(7, .sl 0 0 x13.length), (8, .sl 1 0 v14.length), (9, .v (.int .i64 v15)), (10, .v (.bool true)), (11, .v (.int .i64 v17))], [(0, .arr 2 (List.map enc_ii x13)), (1, .arr 2 (List.map enc_ii v14))]⟩) (C := ((True) ∧ ((.v (.bool v16) : AV) = (.v (.bool true) : AV))) ∧ True) (by kernel_rfl) ⟨⟨trivial, (congrArg (fun z => AV.v (.bool z)) b17)⟩, trivial⟩ trivial ?_
        refine AX.reg (its := [.auto {}, .auto { raw := true }]) [7, 8, 9, 10, 11] [0, 1] (s1 := ⟨[(7, .sl 0 0 x13.length), (8, .sl 1 0 v14.length), (9, .v (.int .i64 v15)), (10, .v (.bool true)), (11, .v (.int .i64 (IntKind.wrap .i64 (v17 + 1))))], [(0, .arr 2 (List.map enc_ii x13)), (1, .arr 2 (List.map enc_ii v14))]⟩) (C := True) (by kernel_rfl) trivial trivial ?_
        refine ⟨(fu, (true, IntKind.wrap .i64 (v17 + 1))), h, Nat.lt_succ_self _, ?_⟩
        refine Wk.trans (Wk.forget [7, 8, 9, 10, 11] [0, 1] (s' := ⟨[(7, .sl 0 0 x13.length), (8, .sl 1 0 v14.length), (9, .v (.int .i64 v15)), (10, .v (.bool true)), (11, .v (.int .i64 (IntKind.wrap .i64 (v17 + 1))))], [(0, .arr 2 (List.map enc_ii x13)), (1, .arr 2 (List.map enc_ii v14))]⟩) (by kernel_rfl)) ?_
        exact Wk.refl _
      · replace h := cd_f b17 h
        rcases bool_cases ((!decide (v17 = v15))) with b18 | b18
        · replace h := cd_t b18 h
          obtain ⟨g19, h⟩ := gd_e h
          obtain ⟨g20, h⟩ := gd_e h
          obtain ⟨x18, e21, h⟩ := bd_e h
          refine AX.drw mixed (its := [.auto { y := some (.v (.bool false)) }, .auto {}, .auto {}, .auto {}, .auto { y := some (.v (.bool true)) }, .auto {}, .auto {}, .auto {}, .auto {}, .auto { y := some (.agg [.v (.int .i64 ((gt x13 v17).1)), .v (.int .i64 ((gt x13 v17).2))]) }, .auto {}, .auto {}, .auto {}, .auto { y := some (.agg [.v (.int .i64 ((gt x13 v15).1)), .v (.int .i64 ((gt x13 v15).2))]) }, .call 96 [.agg [.v (.int .i64 ((gt x13 v17).1)), .v (.int .i64 ((gt x13 v17).2))], .agg [.v (.int .i64 ((gt x13 v15).1)), .v (.int .i64 ((gt x13 v15).2))]] (handO (rho ([] ++ [])) [] [] ++ []) (callEv [] [] (.v (.bool x18)) [])]) [7, 8, 9, 10, 11] [0, 1] (s1 := ⟨[(7, .sl 0 0 x13.length), (8, .sl 1 0 v14.length), (9, .v (.int .i64 v15)), (10, .v (.bool x18)), (11, .v (.int .i64 v17))], [(0, .arr 2 (List.map enc_ii x13)), (1, .arr 2 (List.map enc_ii v14))]⟩) (C := ((True) ∧ ((.v (.bool v16) : AV) = (.v (.bool false) : AV))) ∧ ((True) ∧ ((.v (.bool (!decide (v17 = v15))) : AV) = (.v (.bool true) : AV))) ∧ (0 ≤ v17 ∧ v17 < (x13.length : Int)) ∧ (True ∧ (AV.agg ((((List.map enc_ii x13).getD (0 + v17.toNat) []).drop 0 |>.take 2).map .v) = .agg [.v (.int .i64 ((gt x13 v17).1)), .v (.int .i64 ((gt x13 v17).2))])) ∧ (0 ≤ v15 ∧ v15 < (x13.length : Int)) ∧ (True ∧ (AV.agg ((((List.map enc_ii x13).getD (0 + v15.toNat) []).drop 0 |>.take 2).map .v) = .agg [.v (.int .i64 ((gt x13 v15).1)), .v (.int .i64 ((gt x13 v15).2))])) ∧ ((([.agg [.v (.int .i64 ((gt x13 v17).1)), .v (.int .i64 ((gt x13 v17).2))], .agg [.v (.int .i64 ((gt x13 v15).1)), .v (.int .i64 ((gt x13 v15).2))]] : List AV) = [.agg [.v (.int .i64 ((gt x13 v17).1)), .v (.int .i64 ((gt x13 v17).2))], .agg [.v (.int .i64 ((gt x13 v15).1)), .v (.int .i64 ((gt x13 v15).2))]]) ∧ True) ∧ True) (by kernel_rfl) ⟨⟨trivial, (congrArg (fun z => AV.v (.bool z)) b17)⟩, ⟨⟨trivial, (congrArg (fun z => AV.v (.bool z)) b18)⟩, ⟨g19, ⟨⟨trivial, (congrArg (fun z : List Value => AV.agg (((z.drop 0).take 2).map .v)) (idx_arr (enc := enc_ii) rfl g19))⟩, ⟨g20, ⟨⟨trivial, (congrArg (fun z : List Value => AV.agg (((z.drop 0).take 2).map .v)) (idx_arr (enc := enc_ii) rfl g20))⟩, ⟨⟨rfl, trivial⟩, trivial⟩⟩⟩⟩⟩⟩⟩ ⟨call_ok (ks := []) (ns := []) (bor := []) (bobjs := []) (s_spec_covers ((gt x13 v17).1) ((gt x13 v17).2) ((gt x13 v15).1) ((gt x13 v15).2) x18 e21) (.cons (.c1 (.agg (.cons (.same _ (by kernel_rfl) (by kernel_rfl)) (.cons (.same _ (by kernel_rfl) (by kernel_rfl)) (.nil))))) (.cons (.c1 (.agg (.cons (.same _ (by kernel_rfl) (by kernel_rfl)) (.cons (.same _ (by kernel_rfl) (by kernel_rfl)) (.nil))))) (.nil))) (by kernel_rfl) trivial, trivial⟩ ?_
          refine AX.reg (its := [.auto {}, .auto { raw := true }]) [7, 8, 9, 10, 11] [0, 1] (s1 := ⟨[(7, .sl 0 0 x13.length), (8, .sl 1 0 v14.length), (9, .v (.int .i64 v15)), (10, .v (.bool x18)), (11, .v (.int .i64 (IntKind.wrap .i64 (v17 + 1))))], [(0, .arr 2 (List.map enc_ii x13)), (1, .arr 2 (List.map enc_ii v14))]⟩) (C := True) (by kernel_rfl) trivial trivial ?_
          refine ⟨(fu, (x18, IntKind.wrap .i64 (v17 + 1))), h, Nat.lt_succ_self _, ?_⟩
          refine Wk.trans (Wk.forget [7, 8, 9, 10, 11] [0, 1] (s' := ⟨[(7, .sl 0 0 x13.length), (8, .sl 1 0 v14.length), (9, .v (.int .i64 v15)), (10, .v (.bool x18)), (11, .v (.int .i64 (IntKind.wrap .i64 (v17 + 1))))], [(0, .arr 2 (List.map enc_ii x13)), (1, .arr 2 (List.map enc_ii v14))]⟩) (by kernel_rfl)) ?_
          exact Wk.refl _
        · replace h := cd_f b18 h
          refine AX.drw mixed (its := [.auto { y := some (.v (.bool false)) }, .auto {}, .auto {}, .auto {}, .auto { y := some (.v (.bool false)) }]) [7, 8, 9, 10, 11] [0, 1] (s1 := ⟨[(7, .sl 0 0 x13.length), (8, .sl 1 0 v14.length), (9, .v (.int .i64 v15)), (10, .v (.bool false)), (11, .v (.int .i64 v17))], [(0, .arr 2 (List.map enc_ii x13)), (1, .arr 2 (List.map enc_ii v14))]⟩) (C := ((True) ∧ ((.v (.bool v16) : AV) = (.v (.bool false) : AV))) ∧ ((True) ∧ ((.v (.bool (!decide (v17 = v15))) : AV) = (.v (.bool false) : AV))) ∧ True) (by kernel_rfl) ⟨⟨trivial, (congrArg (fun z => AV.v (.bool z)) b17)⟩, ⟨⟨trivial, (congrArg (fun z => AV.v (.bool z)) b18)⟩, trivial⟩⟩ trivial ?_
          refine AX.reg (its := [.auto {}, .auto { raw := true }]) [7, 8, 9, 10, 11] [0, 1] (s1 := ⟨[(7, .sl 0 0 x13.length), (8, .sl 1 0 v14.length), (9, .v (.int .i64 v15)), (10, .v (.bool false)), (11, .v (.int .i64 (IntKind.wrap .i64 (v17 + 1))))], [(0, .arr 2 (List.map enc_ii x13)), (1, .arr 2 (List.map enc_ii v14))]⟩) (C := True) (by kernel_rfl) trivial trivial ?_
          refine ⟨(fu, (false, IntKind.wrap .i64 (v17 + 1))), h, Nat.lt_succ_self _, ?_⟩
          refine Wk.trans (Wk.forget [7, 8, 9, 10, 11] [0, 1] (s' := ⟨[(7, .sl 0 0 x13.length), (8, .sl 1 0 v14.length), (9, .v (.int .i64 v15)), (10, .v (.bool false)), (11, .v (.int .i64 (IntKind.wrap .i64 (v17 + 1))))], [(0, .arr 2 (List.map enc_ii x13)), (1, .arr 2 (List.map enc_ii v14))]⟩) (by kernel_rfl)) ?_
          exact Wk.refl _
    · replace h := cd_f b16 h
      refine AX.condF (decide (v17 < (x13.length : Int))) (by kernel_rfl) b16 ?_
      refine AX.exit ?_
      refine fin_wk (Wk.forget [7, 8, 9, 10] [0, 1] (s' := ⟨[(7, .sl 0 0 x13.length), (8, .sl 1 0 v14.length), (9, .v (.int .i64 v15)), (10, .v (.bool v16))], [(0, .arr 2 (List.map enc_ii x13)), (1, .arr 2 (List.map enc_ii v14))]⟩) (by kernel_rfl)) ?_
      have hr := Option.some.inj h
      subst hr
      exact ⟨_, Wk.refl _, ⟨rfl, rfl⟩⟩

theorem s_spec_GreatestArms_L2 (x13 : List (Int × Int)) (n : Nat) (g : (List (Int × Int)) × Int) (out : List (Int × Int)) (h : m_spec_GreatestArms_L2 x13 n g.1 g.2 = some out) :
    AX Try.prog 92 0 (codeAt [1, 1, 1, 1, 1, 1, 0, 1, 1] (bodyOf Try.f16)) ((fun g : (List (Int × Int)) × Int => (⟨[(7, .sl 0 0 x13.length), (8, .sl 1 0 g.1.length), (9, .v (.int .i64 g.2))], [(0, .arr 2 (List.map enc_ii x13)), (1, .arr 2 (List.map enc_ii g.1))]⟩ : S)) g) (fun ex s => ex = .exit 2 ∧ s = (fun o : List (Int × Int) => (⟨[(8, .sl 0 0 o.length)], [(0, .arr 2 (List.map enc_ii o))]⟩ : S)) out) := by
  refine AX.wkpost ?_
  refine AX.loop (G := Nat × ((List (Int × Int)) × Int)) (fun q => (fun g : (List (Int × Int)) × Int => (⟨[(7, .sl 0 0 x13.length), (8, .sl 1 0 g.1.length), (9, .v (.int .i64 g.2))], [(0, .arr 2 (List.map enc_ii x13)), (1, .arr 2 (List.map enc_ii g.1))]⟩ : S)) q.2) (fun q => m_spec_GreatestArms_L2 x13 q.1 q.2.1 q.2.2 = some out) (fun q => q.1) (n, g) h (Wk.refl _) ?_
  clear h
  rintro ⟨fu, v14, v15⟩ h
  cases fu with
  | zero => cases h
  | succ fu =>
    rw [m_spec_GreatestArms_L2] at h
    refine AX.seq ?_
    refine AX.seq ?_
    refine AX.reg (its := []) [7, 8, 9, 56] [0, 1] (s1 := ⟨[(7, .sl 0 0 x13.length), (8, .sl 1 0 v14.length), (9, .v (.int .i64 v15)), (56, .v (.bool (decide (v15 < (x13.length : Int)))))], [(0, .arr 2 (List.map enc_ii x13)), (1, .arr 2 (List.map enc_ii v14))]⟩) (C := True) (by kernel_rfl) trivial trivial ?_
    rcases bool_cases (decide (v15 < (x13.length : Int))) with b15 | b15
    · replace h := cd_t b15 h
      refine AX.condT (decide (v15 < (x13.length : Int))) (by kernel_rfl) b15 ?_
      refine AX.skip ?_
      refine AX.seq ?_
      refine AX.block ?_
      refine AX.seq ?_
      refine AX.reg (its := []) [7, 8, 9, 10] [0, 1] (s1 := ⟨[(7, .sl 0 0 x13.length), (8, .sl 1 0 v14.length), (9, .v (.int .i64 v15)), (10, .v (.bool false))], [(0, .arr 2 (List.map enc_ii x13)), (1, .arr 2 (List.map enc_ii v14))]⟩) (C := True) (by kernel_rfl) trivial trivial ?_
      refine AX.seq ?_
      refine AX.seq ?_
      refine AX.reg (its := []) [7, 8, 9, 10, 11] [0, 1] (s1 := ⟨[(7, .sl 0 0 x13.length), (8, .sl 1 0 v14.length), (9, .v (.int .i64 v15)), (10, .v (.bool false)), (11, .v (.int .i64 0))], [(0, .arr 2 (List.map enc_ii x13)), (1, .arr 2 (List.map enc_ii v14))]⟩) (C := True) (by kernel_rfl) trivial trivial ?_
      refine AX.block ?_
      obtain ⟨x19, e22, h⟩ := bd_e h
      refine AX.wk (Wk.forget [7, 8, 9, 10, 11] [0, 1] (s' := ⟨[(7, .sl 0 0 x13.length), (8, .sl 1 0 v14.length), (9, .v (.int .i64 v15)), (10, .v (.bool false)), (11, .v (.int .i64 0))], [(0, .arr 2 (List.map enc_ii x13)), (1, .arr 2 (List.map enc_ii v14))]⟩) (by kernel_rfl)) ?_
      refine AX.mono (s_spec_GreatestArms_L3 x13 v14 v15 FU (false, 0) x19 e22) ?_
      rintro _ _ ⟨rfl, rfl⟩
      skip
      refine AX.seq ?_
      refine AX.reg (its := []) [7, 8, 9, 83] [0, 1] (s1 := ⟨[(7, .sl 0 0 x13.length), (8, .sl 1 0 v14.length), (9, .v (.int .i64 v15)), (83, .v (.bool (!x19)))], [(0, .arr 2 (List.map enc_ii x13)), (1, .arr 2 (List.map enc_ii v14))]⟩) (C := True) (by kernel_rfl) trivial trivial ?_
      rcases bool_cases ((!x19)) with b23 | b23
      · replace h := cd_t b23 h
        refine AX.condT ((!x19)) (by kernel_rfl) b23 ?_
        obtain ⟨g24, h⟩ := gd_e h
        obtain ⟨g25, h⟩ := gd_e h
        refine AX.reg (its := [.auto {}, .auto {}, .auto {}, .auto {}, .auto { y := some (.agg [.v (.int .i64 ((gt x13 v15).1)), .v (.int .i64 ((gt x13 v15).2))]) }, .auto { nk := 2 }, .auto { y := some (.sl 3 0 ((v14 ++ ([((gt x13 v15).1, (gt x13 v15).2)] : List (Int × Int))).length)), els := some (List.map enc_ii v14), els2 := some (List.map enc_ii ([((gt x13 v15).1, (gt x13 v15).2)] : List (Int × Int))), nk := 3 }]) [7, 8, 9] [0, 3] (s1 := ⟨[(7, .sl 0 0 x13.length), (8, .sl 3 0 ((v14 ++ ([((gt x13 v15).1, (gt x13 v15).2)] : List (Int × Int))).length)), (9, .v (.int .i64 v15))], [(0, .arr 2 (List.map enc_ii x13)), (3, .arr 2 (List.map enc_ii v14 ++ List.map enc_ii ([((gt x13 v15).1, (gt x13 v15).2)] : List (Int × Int))))]⟩) (C := (0 ≤ v15 ∧ v15 < (x13.length : Int)) ∧ (True ∧ (AV.agg ((((List.map enc_ii x13).getD (0 + v15.toNat) []).drop 0 |>.take 2).map .v) = .agg [.v (.int .i64 ((gt x13 v15).1)), .v (.int .i64 ((gt x13 v15).2))])) ∧ ((((((List.map enc_ii v14).drop 0).take (v14.length) = List.map enc_ii v14) ∧ (((List.map enc_ii ([((gt x13 v15).1, (gt x13 v15).2)] : List (Int × Int))).drop 0).take (([((gt x13 v15).1, (gt x13 v15).2)] : List (Int × Int)).length) = List.map enc_ii ([((gt x13 v15).1, (gt x13 v15).2)] : List (Int × Int)))) ∧ (List.map enc_ii v14).length + (List.map enc_ii ([((gt x13 v15).1, (gt x13 v15).2)] : List (Int × Int))).length ≤ 1099511627776) ∧ (AV.sl 3 0 (List.map enc_ii v14 ++ List.map enc_ii ([((gt x13 v15).1, (gt x13 v15).2)] : List (Int × Int))).length = AV.sl 3 0 (v14 ++ ([((gt x13 v15).1, (gt x13 v15).2)] : List (Int × Int))).length)) ∧ True) (by kernel_rfl) ⟨g24, ⟨⟨trivial, (congrArg (fun z : List Value => AV.agg (((z.drop 0).take 2).map .v)) (idx_arr (enc := enc_ii) rfl g24))⟩, ⟨⟨⟨⟨(dt_all (enc := enc_ii) rfl rfl), (dt_all (enc := enc_ii) rfl rfl)⟩, (by simp only [List.length_map, List.length_nil]; simpa using g25)⟩, sl_len (enc := enc_ii) (app_can (enc := enc_ii) rfl rfl)⟩, trivial⟩⟩⟩ trivial ?_
        refine AX.reg (its := [.auto {}, .auto { raw := true }]) [7, 8, 9] [0, 3] (s1 := ⟨[(7, .sl 0 0 x13.length), (8, .sl 3 0 ((v14 ++ ([((gt x13 v15).1, (gt x13 v15).2)] : List (Int × Int))).length)), (9, .v (.int .i64 (IntKind.wrap .i64 (v15 + 1))))], [(0, .arr 2 (List.map enc_ii x13)), (3, .arr 2 (List.map enc_ii v14 ++ List.map enc_ii ([((gt x13 v15).1, (gt x13 v15).2)] : List (Int × Int))))]⟩) (C := True) (by kernel_rfl) trivial trivial ?_
        refine ⟨(fu, (v14 ++ ([((gt x13 v15).1, (gt x13 v15).2)] : List (Int × Int)), IntKind.wrap .i64 (v15 + 1))), h, Nat.lt_succ_self _, ?_⟩
        refine Wk.trans (Wk.swap 1 3 (Nat.le_of_ble_eq_true (by kernel_rfl)) (Nat.le_of_ble_eq_true (by kernel_rfl)) rfl) ?_
        refine Wk.trans (Wk.forget [7, 8, 9] [0, 1] (s' := ⟨[(7, .sl 0 0 x13.length), (8, .sl 1 0 ((v14 ++ ([((gt x13 v15).1, (gt x13 v15).2)] : List (Int × Int))).length)), (9, .v (.int .i64 (IntKind.wrap .i64 (v15 + 1))))], [(0, .arr 2 (List.map enc_ii x13)), (1, .arr 2 (List.map enc_ii v14 ++ List.map enc_ii ([((gt x13 v15).1, (gt x13 v15).2)] : List (Int × Int))))]⟩) (by kernel_rfl)) ?_
        refine Wk.trans (Wk.of_eq (congrArg (fun z => (⟨[(7, .sl 0 0 x13.length), (8, .sl 1 0 ((v14 ++ ([((gt x13 v15).1, (gt x13 v15).2)] : List (Int × Int))).length)), (9, .v (.int .i64 (IntKind.wrap .i64 (v15 + 1))))], [(0, .arr 2 (List.map enc_ii x13)), (1, .arr 2 (z))]⟩ : S)) (app_can (enc := enc_ii) rfl rfl : List.map enc_ii v14 ++ List.map enc_ii ([((gt x13 v15).1, (gt x13 v15).2)] : List (Int × Int)) = List.map enc_ii (v14 ++ ([((gt x13 v15).1, (gt x13 v15).2)] : List (Int × Int)))))) ?_
        exact Wk.refl _
      · replace h := cd_f b23 h
        refine AX.condF ((!x19)) (by kernel_rfl) b23 ?_
        refine AX.skip ?_
        refine AX.reg (its := [.auto {}, .auto { raw := true }]) [7, 8, 9] [0, 1] (s1 := ⟨[(7, .sl 0 0 x13.length), (8, .sl 1 0 v14.length), (9, .v (.int .i64 (IntKind.wrap .i64 (v15 + 1))))], [(0, .arr 2 (List.map enc_ii x13)), (1, .arr 2 (List.map enc_ii v14))]⟩) (C := True) (by kernel_rfl) trivial trivial ?_
        refine ⟨(fu, (v14, IntKind.wrap .i64 (v15 + 1))), h, Nat.lt_succ_self _, ?_⟩
        refine Wk.trans (Wk.forget [7, 8, 9] [0, 1] (s' := ⟨[(7, .sl 0 0 x13.length), (8, .sl 1 0 v14.length), (9, .v (.int .i64 (IntKind.wrap .i64 (v15 + 1))))], [(0, .arr 2 (List.map enc_ii x13)), (1, .arr 2 (List.map enc_ii v14))]⟩) (by kernel_rfl)) ?_
        exact Wk.refl _
    · replace h := cd_f b15 h
      refine AX.condF (decide (v15 < (x13.length : Int))) (by kernel_rfl) b15 ?_
      refine AX.exit ?_
      refine fin_wk (Wk.swap 0 1 (Nat.le_of_ble_eq_true (by kernel_rfl)) (Nat.le_of_ble_eq_true (by kernel_rfl)) rfl) ?_
      refine fin_wk (Wk.forget [8] [0] (s' := ⟨[(8, .sl 0 0 v14.length)], [(0, .arr 2 (List.map enc_ii v14))]⟩) (by kernel_rfl)) ?_
      have hr := Option.some.inj h
      subst hr
      exact ⟨_, Wk.refl _, ⟨rfl, rfl⟩⟩

end Go.Eng
