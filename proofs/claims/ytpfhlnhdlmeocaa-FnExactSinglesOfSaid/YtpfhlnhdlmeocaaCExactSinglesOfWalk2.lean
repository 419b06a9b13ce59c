/- What is proved here: each function keeps to its model, whatever its arguments, wherever the model has an answer. Printed by gen.py. -/
import Derived.Test.YtpfhlnhdlmeocaaCExactSinglesOfWalk1
import Derived.Test.YtpfhlnhdlmeocaaProg
import Derived.KernelRfl
set_option linter.unusedVariables false
namespace Go.Eng
open Go Go.Proofs


theorem s_math_bits_Len (p1 : Int) (r : Int) (h : m_math_bits_Len p1 = some r) :
    Eng.Spec Try.prog 115 [.v (.int .u64 p1)] [] (.v (.int .i64 r)) [] := by
  unfold m_math_bits_Len at h
  refine Eng.Spec.body Try.func115 (by kernel_rfl) rfl (by kernel_rfl) ?_
  refine AX.wkpost ?_
  refine AX.seq ?_
  refine AX.reg (its := []) [0] [] (s1 := ⟨[(0, .v (.int .u64 p1))], []⟩) (C := True) (by kernel_rfl) trivial trivial ?_
  refine AX.seq ?_
  refine AX.cond_false (by kernel_rfl) ?_
  refine AX.skip ?_
  refine AX.seq ?_
  obtain ⟨x2, e1, h⟩ := bd_e h
  refine AX.reg (its := [.auto {}, .call 130 [.v (.int .u64 p1)] (handO (rho ([] ++ [])) [] [] ++ []) (callEv [] [] (.v (.int .i64 x2)) [])]) [2] [] (s1 := ⟨[(2, .v (.int .i64 x2))], []⟩) (C := ((([.v (.int .u64 p1)] : List AV) = [.v (.int .u64 p1)]) ∧ True) ∧ True) (by kernel_rfl) ⟨⟨rfl, trivial⟩, trivial⟩ ⟨call_ok (ks := []) (ns := []) (bor := []) (bobjs := []) (s_math_bits_Len64 p1 x2 e1) (.cons (.c1 (.c0 (.same _ (by kernel_rfl) (by kernel_rfl)))) (.nil)) (by kernel_rfl) trivial, trivial⟩ ?_
  refine AX.ret ?_
  refine fin_wk (Wk.forget [2] [] (s' := ⟨[(2, .v (.int .i64 x2))], []⟩) (by kernel_rfl)) ?_
  have hr := Option.some.inj h
  subst hr
  exact ⟨_, Wk.refl _, .inr rfl, ⟨[], by kernel_rfl, trivial, [.v (.int .i64 x2)], by kernel_rfl, by kernel_rfl⟩⟩

theorem s_cmp_isNaN (p1 : Int) (r : Unit) (h : m_cmp_isNaN p1 = some r) :
    Eng.Spec Try.prog 116 [.v (.int .i64 p1)] [] (.v (.bool (!decide (p1 = p1)))) [] := by
  unfold m_cmp_isNaN at h
  refine Eng.Spec.body Try.func116 (by kernel_rfl) rfl (by kernel_rfl) ?_
  refine AX.wkpost ?_
  refine AX.seq ?_
  refine AX.reg (its := []) [0] [] (s1 := ⟨[(0, .v (.int .i64 p1))], []⟩) (C := True) (by kernel_rfl) trivial trivial ?_
  refine AX.seq ?_
  refine AX.reg (its := []) [2] [] (s1 := ⟨[(2, .v (.bool (!decide (p1 = p1))))], []⟩) (C := True) (by kernel_rfl) trivial trivial ?_
  refine AX.ret ?_
  refine fin_wk (Wk.forget [2] [] (s' := ⟨[(2, .v (.bool (!decide (p1 = p1))))], []⟩) (by kernel_rfl)) ?_
  have hr := Option.some.inj h
  subst hr
  exact ⟨_, Wk.refl _, .inr rfl, ⟨[], by kernel_rfl, trivial, [.v (.bool (!decide (p1 = p1)))], by kernel_rfl, by kernel_rfl⟩⟩

theorem s_cmp_Compare (p1 : Int) (p2 : Int) (r : Int) (h : m_cmp_Compare p1 p2 = some r) :
    Eng.Spec Try.prog 96 [.v (.int .i64 p1), .v (.int .i64 p2)] [] (.v (.int .i64 r)) [] := by
  unfold m_cmp_Compare at h
  refine Eng.Spec.body Try.func96 (by kernel_rfl) rfl (by kernel_rfl) ?_
  refine AX.wkpost ?_
  refine AX.seq ?_
  refine AX.reg (its := []) [0, 1] [] (s1 := ⟨[(0, .v (.int .i64 p1)), (1, .v (.int .i64 p2))], []⟩) (C := True) (by kernel_rfl) trivial trivial ?_
  refine AX.seq ?_
  obtain ⟨x3, e1, h⟩ := bd_e h
  refine AX.reg (its := [.auto {}, .call 116 [.v (.int .i64 p1)] (handO (rho ([] ++ [])) [] [] ++ []) (callEv [] [] (.v (.bool (!decide (p1 = p1)))) [])]) [0, 1, 5] [] (s1 := ⟨[(0, .v (.int .i64 p1)), (1, .v (.int .i64 p2)), (5, .v (.bool (!decide (p1 = p1))))], []⟩) (C := ((([.v (.int .i64 p1)] : List AV) = [.v (.int .i64 p1)]) ∧ True) ∧ True) (by kernel_rfl) ⟨⟨rfl, trivial⟩, trivial⟩ ⟨call_ok (ks := []) (ns := []) (bor := []) (bobjs := []) (s_cmp_isNaN p1 x3 e1) (.cons (.c1 (.c0 (.same _ (by kernel_rfl) (by kernel_rfl)))) (.nil)) (by kernel_rfl) trivial, trivial⟩ ?_
  refine AX.seq ?_
  obtain ⟨x4, e2, h⟩ := bd_e h
  refine AX.reg (its := [.auto {}, .call 116 [.v (.int .i64 p2)] (handO (rho ([] ++ [])) [] [] ++ []) (callEv [] [] (.v (.bool (!decide (p2 = p2)))) [])]) [0, 1, 5, 6] [] (s1 := ⟨[(0, .v (.int .i64 p1)), (1, .v (.int .i64 p2)), (5, .v (.bool (!decide (p1 = p1)))), (6, .v (.bool (!decide (p2 = p2))))], []⟩) (C := ((([.v (.int .i64 p2)] : List AV) = [.v (.int .i64 p2)]) ∧ True) ∧ True) (by kernel_rfl) ⟨⟨rfl, trivial⟩, trivial⟩ ⟨call_ok (ks := []) (ns := []) (bor := []) (bobjs := []) (s_cmp_isNaN p2 x4 e2) (.cons (.c1 (.c0 (.same _ (by kernel_rfl) (by kernel_rfl)))) (.nil)) (by kernel_rfl) trivial, trivial⟩ ?_
  refine AX.seq ?_
  refine AX.seq ?_
  refine AX.reg (its := []) [0, 1, 6, 11] [] (s1 := ⟨[(0, .v (.int .i64 p1)), (1, .v (.int .i64 p2)), (6, .v (.bool (!decide (p2 = p2)))), (11, .v (.bool (!decide (p1 = p1))))], []⟩) (C := True) (by kernel_rfl) trivial trivial ?_
  rcases bool_cases ((!decide (p1 = p1))) with b3 | b3
  · replace h := cd_t b3 h
    refine AX.condT ((!decide (p1 = p1))) (by kernel_rfl) b3 ?_
    refine AX.seq ?_
    refine AX.seq ?_
    refine AX.reg (its := []) [12] [] (s1 := ⟨[(12, .v (.bool (!decide (p2 = p2))))], []⟩) (C := True) (by kernel_rfl) trivial trivial ?_
    rcases bool_cases ((!decide (p2 = p2))) with b4 | b4
    · replace h := cd_t b4 h
      refine AX.condT ((!decide (p2 = p2))) (by kernel_rfl) b4 ?_
      refine AX.seq ?_
      refine AX.reg (its := []) [4] [] (s1 := ⟨[(4, .v (.int .i64 0))], []⟩) (C := True) (by kernel_rfl) trivial trivial ?_
      refine AX.ret ?_
      refine fin_wk (Wk.forget [4] [] (s' := ⟨[(4, .v (.int .i64 0))], []⟩) (by kernel_rfl)) ?_
      have hr := Option.some.inj h
      subst hr
      exact ⟨_, Wk.refl _, .inr rfl, ⟨[], by kernel_rfl, trivial, [.v (.int .i64 0)], by kernel_rfl, by kernel_rfl⟩⟩
    · replace h := cd_f b4 h
      refine AX.condF ((!decide (p2 = p2))) (by kernel_rfl) b4 ?_
      refine AX.skip ?_
      refine AX.seq ?_
      refine AX.reg (its := []) [4] [] (s1 := ⟨[(4, .v (.int .i64 (-1)))], []⟩) (C := True) (by kernel_rfl) trivial trivial ?_
      refine AX.ret ?_
      refine fin_wk (Wk.forget [4] [] (s' := ⟨[(4, .v (.int .i64 (-1)))], []⟩) (by kernel_rfl)) ?_
      have hr := Option.some.inj h
      subst hr
      exact ⟨_, Wk.refl _, .inr rfl, ⟨[], by kernel_rfl, trivial, [.v (.int .i64 (-1))], by kernel_rfl, by kernel_rfl⟩⟩
  · replace h := cd_f b3 h
    refine AX.condF ((!decide (p1 = p1))) (by kernel_rfl) b3 ?_
    refine AX.skip ?_
    refine AX.seq ?_
    refine AX.seq ?_
    refine AX.reg (its := []) [0, 1, 13] [] (s1 := ⟨[(0, .v (.int .i64 p1)), (1, .v (.int .i64 p2)), (13, .v (.bool (!decide (p2 = p2))))], []⟩) (C := True) (by kernel_rfl) trivial trivial ?_
    rcases bool_cases ((!decide (p2 = p2))) with b5 | b5
    · replace h := cd_t b5 h
      refine AX.condT ((!decide (p2 = p2))) (by kernel_rfl) b5 ?_
      refine AX.seq ?_
      refine AX.reg (its := []) [4] [] (s1 := ⟨[(4, .v (.int .i64 1))], []⟩) (C := True) (by kernel_rfl) trivial trivial ?_
      refine AX.ret ?_
      refine fin_wk (Wk.forget [4] [] (s' := ⟨[(4, .v (.int .i64 1))], []⟩) (by kernel_rfl)) ?_
      have hr := Option.some.inj h
      subst hr
      exact ⟨_, Wk.refl _, .inr rfl, ⟨[], by kernel_rfl, trivial, [.v (.int .i64 1)], by kernel_rfl, by kernel_rfl⟩⟩
    · replace h := cd_f b5 h
      refine AX.condF ((!decide (p2 = p2))) (by kernel_rfl) b5 ?_
      refine AX.skip ?_
      refine AX.seq ?_
      refine AX.seq ?_
      refine AX.reg (its := []) [0, 1, 16] [] (s1 := ⟨[(0, .v (.int .i64 p1)), (1, .v (.int .i64 p2)), (16, .v (.bool (decide (p1 < p2))))], []⟩) (C := True) (by kernel_rfl) trivial trivial ?_
      rcases bool_cases (decide (p1 < p2)) with b6 | b6
      · replace h := cd_t b6 h
        refine AX.condT (decide (p1 < p2)) (by kernel_rfl) b6 ?_
        refine AX.seq ?_
        refine AX.reg (its := []) [4] [] (s1 := ⟨[(4, .v (.int .i64 (-1)))], []⟩) (C := True) (by kernel_rfl) trivial trivial ?_
        refine AX.ret ?_
        refine fin_wk (Wk.forget [4] [] (s' := ⟨[(4, .v (.int .i64 (-1)))], []⟩) (by kernel_rfl)) ?_
        have hr := Option.some.inj h
        subst hr
        exact ⟨_, Wk.refl _, .inr rfl, ⟨[], by kernel_rfl, trivial, [.v (.int .i64 (-1))], by kernel_rfl, by kernel_rfl⟩⟩
      · replace h := cd_f b6 h
        refine AX.condF (decide (p1 < p2)) (by kernel_rfl) b6 ?_
        refine AX.skip ?_
        refine AX.seq ?_
        refine AX.seq ?_
        refine AX.reg (its := []) [19] [] (s1 := ⟨[(19, .v (.bool (decide (p2 < p1))))], []⟩) (C := True) (by kernel_rfl) trivial trivial ?_
        rcases bool_cases (decide (p2 < p1)) with b7 | b7
        · replace h := cd_t b7 h
          refine AX.condT (decide (p2 < p1)) (by kernel_rfl) b7 ?_
          refine AX.seq ?_
          refine AX.reg (its := []) [4] [] (s1 := ⟨[(4, .v (.int .i64 1))], []⟩) (C := True) (by kernel_rfl) trivial trivial ?_
          refine AX.ret ?_
          refine fin_wk (Wk.forget [4] [] (s' := ⟨[(4, .v (.int .i64 1))], []⟩) (by kernel_rfl)) ?_
          have hr := Option.some.inj h
          subst hr
          exact ⟨_, Wk.refl _, .inr rfl, ⟨[], by kernel_rfl, trivial, [.v (.int .i64 1)], by kernel_rfl, by kernel_rfl⟩⟩
        · replace h := cd_f b7 h
          refine AX.condF (decide (p2 < p1)) (by kernel_rfl) b7 ?_
          refine AX.skip ?_
          refine AX.seq ?_
          refine AX.reg (its := []) [4] [] (s1 := ⟨[(4, .v (.int .i64 0))], []⟩) (C := True) (by kernel_rfl) trivial trivial ?_
          refine AX.ret ?_
          refine fin_wk (Wk.forget [4] [] (s' := ⟨[(4, .v (.int .i64 0))], []⟩) (by kernel_rfl)) ?_
          have hr := Option.some.inj h
          subst hr
          exact ⟨_, Wk.refl _, .inr rfl, ⟨[], by kernel_rfl, trivial, [.v (.int .i64 0)], by kernel_rfl, by kernel_rfl⟩⟩

theorem s_impl_Flag_singles_1 (p1 : ByteArray) (p2 : Int) (p3 : ByteArray) (p4 : Int) (r : Int) (h : m_impl_Flag_singles_1 p1 p2 p3 p4 = some r) :
    Eng.Spec Try.prog 95 [.agg [.v (.string p1), .v (.int .i64 p2)], .agg [.v (.string p3), .v (.int .i64 p4)]] [] (.v (.int .i64 r)) [] := by
  unfold m_impl_Flag_singles_1 at h
  refine Eng.Spec.body Try.func95 (by kernel_rfl) rfl (by kernel_rfl) ?_
  refine AX.wkpost ?_
  refine AX.seq ?_
  refine AX.reg (its := [.auto { nk := 0 }, .auto { nk := 1 }]) [2, 3] [0, 1] (s1 := ⟨[(2, .pt 0 0), (3, .pt 1 0)], [(0, .box [.v (.string p1), .v (.int .i64 p2)]), (1, .box [.v (.string p3), .v (.int .i64 p4)])]⟩) (C := True) (by kernel_rfl) trivial trivial ?_
  refine AX.seq ?_
  obtain ⟨x5, e1, h⟩ := bd_e h
  refine AX.reg (its := [.auto {}, .auto {}, .auto {}, .auto {}, .call 96 [.v (.int .i64 p2), .v (.int .i64 p4)] (handO (rho ([] ++ [])) [] [] ++ []) (callEv [] [] (.v (.int .i64 x5)) [])]) [4] [] (s1 := ⟨[(4, .v (.int .i64 x5))], []⟩) (C := ((([.v (.int .i64 p2), .v (.int .i64 p4)] : List AV) = [.v (.int .i64 p2), .v (.int .i64 p4)]) ∧ True) ∧ True) (by kernel_rfl) ⟨⟨rfl, trivial⟩, trivial⟩ ⟨call_ok (ks := []) (ns := []) (bor := []) (bobjs := []) (s_cmp_Compare p2 p4 x5 e1) (.cons (.c1 (.c0 (.same _ (by kernel_rfl) (by kernel_rfl)))) (.cons (.c1 (.c0 (.same _ (by kernel_rfl) (by kernel_rfl)))) (.nil))) (by kernel_rfl) trivial, trivial⟩ ?_
  refine AX.ret ?_
  refine fin_wk (Wk.forget [4] [] (s' := ⟨[(4, .v (.int .i64 x5))], []⟩) (by kernel_rfl)) ?_
  have hr := Option.some.inj h
  subst hr
  exact ⟨_, Wk.refl _, .inr rfl, ⟨[], by kernel_rfl, trivial, [.v (.int .i64 x5)], by kernel_rfl, by kernel_rfl⟩⟩

theorem s_slices_insertionSortCmpFunc_h_Flag_singles_1_si_L2 (p1 : Int) (p2 : Int) (v4 : Int) (n : Nat) (g : Int × (List (ByteArray × Int))) (out : List (ByteArray × Int)) (h : m_slices_insertionSortCmpFunc_h_Flag_singles_1_si_L2 p1 p2 v4 n g.1 g.2 = some out) :
    AX Try.prog 53 1 (codeAt [1, 1, 1, 1, 0, 1, 1, 1] (bodyOf Try.f121)) ((fun g : Int × (List (ByteArray × Int)) => (⟨[(0, .sl 0 0 g.2.length), (1, .v (.int .i64 p1)), (2, .v (.int .i64 p2)), (3, .fn 95 []), (8, .v (.int .i64 v4)), (9, .v (.int .i64 g.1))], [(0, .arr 2 (List.map enc_si g.2))]⟩ : S)) g) (fun ex s => ex = .exit 2 ∧ s = (fun o : List (ByteArray × Int) => (⟨[(0, .sl 0 0 o.length), (1, .v (.int .i64 p1)), (2, .v (.int .i64 p2)), (3, .fn 95 []), (8, .v (.int .i64 v4))], [(0, .arr 2 (List.map enc_si o))]⟩ : S)) out) := by
  refine AX.wkpost ?_
  refine AX.loop (G := Nat × (Int × (List (ByteArray × Int)))) (fun q => (fun g : Int × (List (ByteArray × Int)) => (⟨[(0, .sl 0 0 g.2.length), (1, .v (.int .i64 p1)), (2, .v (.int .i64 p2)), (3, .fn 95 []), (8, .v (.int .i64 v4)), (9, .v (.int .i64 g.1))], [(0, .arr 2 (List.map enc_si g.2))]⟩ : S)) q.2) (fun q => m_slices_insertionSortCmpFunc_h_Flag_singles_1_si_L2 p1 p2 v4 q.1 q.2.1 q.2.2 = some out) (fun q => q.1) (n, g) h (Wk.refl _) ?_
  clear h
  rintro ⟨fu, v6, v7⟩ h
  cases fu with
  | zero => cases h
  | succ fu =>
    rw [m_slices_insertionSortCmpFunc_h_Flag_singles_1_si_L2] at h
    refine AX.seq ?_
    refine AX.seq ?_
    rcases bool_cases (decide (p1 < v6)) with b2 | b2
    · replace h := cd_t b2 h
      obtain ⟨g3, h⟩ := gd_e h
      obtain ⟨g4, h⟩ := gd_e h
      obtain ⟨x8, e5, h⟩ := bd_e h
      refine AX.drw mixed (its := [.auto {}, .auto {}, .auto { y := some (.v (.bool true)) }, .auto {}, .auto {}, .auto {}, .auto {}, .auto {}, .auto { y := some (.agg [.v (.string ((gt v7 v6).1)), .v (.int .i64 ((gt v7 v6).2))]) }, .auto {}, .auto {}, .auto { raw := true }, .auto {}, .auto { y := some (.agg [.v (.string ((gt v7 (IntKind.wrap .i64 (v6 - 1))).1)), .v (.int .i64 ((gt v7 (IntKind.wrap .i64 (v6 - 1))).2))]) }, .call 95 [.agg [.v (.string ((gt v7 v6).1)), .v (.int .i64 ((gt v7 v6).2))], .agg [.v (.string ((gt v7 (IntKind.wrap .i64 (v6 - 1))).1)), .v (.int .i64 ((gt v7 (IntKind.wrap .i64 (v6 - 1))).2))]] (handO (rho ([] ++ [])) [] [] ++ []) (callEv [] [] (.v (.int .i64 x8)) [])]) [0, 1, 2, 3, 8, 9, 34] [0] (s1 := ⟨[(0, .sl 0 0 v7.length), (1, .v (.int .i64 p1)), (2, .v (.int .i64 p2)), (3, .fn 95 []), (8, .v (.int .i64 v4)), (9, .v (.int .i64 v6)), (34, .v (.bool (decide (x8 < 0))))], [(0, .arr 2 (List.map enc_si v7))]⟩) (C := ((True) ∧ ((.v (.bool (decide (p1 < v6))) : AV) = (.v (.bool true) : AV))) ∧ (0 ≤ v6 ∧ v6 < (v7.length : Int)) ∧ (True ∧ (AV.agg ((((List.map enc_si v7).getD (0 + v6.toNat) []).drop 0 |>.take 2).map .v) = .agg [.v (.string ((gt v7 v6).1)), .v (.int .i64 ((gt v7 v6).2))])) ∧ (0 ≤ (IntKind.wrap .i64 (v6 - 1)) ∧ (IntKind.wrap .i64 (v6 - 1)) < (v7.length : Int)) ∧ (True ∧ (AV.agg ((((List.map enc_si v7).getD (0 + (IntKind.wrap .i64 (v6 - 1)).toNat) []).drop 0 |>.take 2).map .v) = .agg [.v (.string ((gt v7 (IntKind.wrap .i64 (v6 - 1))).1)), .v (.int .i64 ((gt v7 (IntKind.wrap .i64 (v6 - 1))).2))])) ∧ ((([.agg [.v (.string ((gt v7 v6).1)), .v (.int .i64 ((gt v7 v6).2))], .agg [.v (.string ((gt v7 (IntKind.wrap .i64 (v6 - 1))).1)), .v (.int .i64 ((gt v7 (IntKind.wrap .i64 (v6 - 1))).2))]] : List AV) = [.agg [.v (.string ((gt v7 v6).1)), .v (.int .i64 ((gt v7 v6).2))], .agg [.v (.string ((gt v7 (IntKind.wrap .i64 (v6 - 1))).1)), .v (.int .i64 ((gt v7 (IntKind.wrap .i64 (v6 - 1))).2))]]) ∧ True) ∧ True) (by kernel_rfl) ⟨⟨trivial, (congrArg (fun z => AV.v (.bool z)) b2)⟩, ⟨g3, ⟨⟨trivial, (congrArg (fun z : List Value => AV.agg (((z.drop 0).take 2).map .v)) (idx_arr (enc := enc_si) rfl g3))⟩, ⟨g4, ⟨⟨trivial, (congrArg (fun z : List Value => AV.agg (((z.drop 0).take 2).map .v)) (idx_arr (enc := enc_si) rfl g4))⟩, ⟨⟨rfl, trivial⟩, trivial⟩⟩⟩⟩⟩⟩ ⟨call_ok (ks := []) (ns := []) (bor := []) (bobjs := []) (s_impl_Flag_singles_1 ((gt v7 v6).1) ((gt v7 v6).2) ((gt v7 (IntKind.wrap .i64 (v6 - 1))).1) ((gt v7 (IntKind.wrap .i64 (v6 - 1))).2) x8 e5) (.cons (.c1 (.agg (.cons (.same _ (by kernel_rfl) (by kernel_rfl)) (.cons (.same _ (by kernel_rfl) (by kernel_rfl)) (.nil))))) (.cons (.c1 (.agg (.cons (.same _ (by kernel_rfl) (by kernel_rfl)) (.cons (.same _ (by kernel_rfl) (by kernel_rfl)) (.nil))))) (.nil))) (by kernel_rfl) trivial, trivial⟩ ?_
      rcases bool_cases (decide (x8 < 0)) with b6 | b6
      · replace h := cd_t b6 h
        refine AX.condT (decide (x8 < 0)) (by kernel_rfl) b6 ?_
        refine AX.skip ?_
        refine AX.seq ?_
        refine AX.block ?_
        refine AX.drw mixed (its := [.auto {}, .auto {}, .auto {}, .auto {}, .auto { raw := true }, .auto {}, .auto {}, .auto { raw := true }, .auto {}, .auto { y := some (.agg [.v (.string ((gt v7 (IntKind.wrap .i64 (v6 - 1))).1)), .v (.int .i64 ((gt v7 (IntKind.wrap .i64 (v6 - 1))).2))]) }, .auto {}, .auto {}, .auto {}, .auto { y := some (.agg [.v (.string ((gt v7 v6).1)), .v (.int .i64 ((gt v7 v6).2))]) }]) [0, 1, 2, 3, 8, 9] [0] (s1 := ⟨[(0, .sl 0 0 v7.length), (1, .v (.int .i64 p1)), (2, .v (.int .i64 p2)), (3, .fn 95 []), (8, .v (.int .i64 v4)), (9, .v (.int .i64 v6))], [(0, .arr 2 (((List.map enc_si v7).set (0 + v6.toNat) [(.string ((gt v7 (IntKind.wrap .i64 (v6 - 1))).1)), (.int .i64 ((gt v7 (IntKind.wrap .i64 (v6 - 1))).2))]).set (0 + (IntKind.wrap .i64 (v6 - 1)).toNat) [(.string ((gt v7 v6).1)), (.int .i64 ((gt v7 v6).2))]))]⟩) (C := (0 ≤ (IntKind.wrap .i64 (v6 - 1)) ∧ (IntKind.wrap .i64 (v6 - 1)) < (v7.length : Int)) ∧ (True ∧ (AV.agg ((((List.map enc_si v7).getD (0 + (IntKind.wrap .i64 (v6 - 1)).toNat) []).drop 0 |>.take 2).map .v) = .agg [.v (.string ((gt v7 (IntKind.wrap .i64 (v6 - 1))).1)), .v (.int .i64 ((gt v7 (IntKind.wrap .i64 (v6 - 1))).2))])) ∧ (0 ≤ v6 ∧ v6 < (v7.length : Int)) ∧ (True ∧ (AV.agg ((((List.map enc_si v7).getD (0 + v6.toNat) []).drop 0 |>.take 2).map .v) = .agg [.v (.string ((gt v7 v6).1)), .v (.int .i64 ((gt v7 v6).2))])) ∧ (0 ≤ v6 ∧ v6 < (v7.length : Int)) ∧ (0 ≤ (IntKind.wrap .i64 (v6 - 1)) ∧ (IntKind.wrap .i64 (v6 - 1)) < (v7.length : Int)) ∧ True) (by kernel_rfl) ⟨g4, ⟨⟨trivial, (congrArg (fun z : List Value => AV.agg (((z.drop 0).take 2).map .v)) (idx_arr (enc := enc_si) rfl g4))⟩, ⟨g3, ⟨⟨trivial, (congrArg (fun z : List Value => AV.agg (((z.drop 0).take 2).map .v)) (idx_arr (enc := enc_si) rfl g3))⟩, ⟨g3, ⟨g4, trivial⟩⟩⟩⟩⟩⟩ trivial ?_
        refine AX.reg (its := [.auto {}, .auto { raw := true }]) [0, 1, 2, 3, 8, 9] [0] (s1 := ⟨[(0, .sl 0 0 v7.length), (1, .v (.int .i64 p1)), (2, .v (.int .i64 p2)), (3, .fn 95 []), (8, .v (.int .i64 v4)), (9, .v (.int .i64 (IntKind.wrap .i64 (v6 - 1))))], [(0, .arr 2 (((List.map enc_si v7).set (0 + v6.toNat) [(.string ((gt v7 (IntKind.wrap .i64 (v6 - 1))).1)), (.int .i64 ((gt v7 (IntKind.wrap .i64 (v6 - 1))).2))]).set (0 + (IntKind.wrap .i64 (v6 - 1)).toNat) [(.string ((gt v7 v6).1)), (.int .i64 ((gt v7 v6).2))]))]⟩) (C := True) (by kernel_rfl) trivial trivial ?_
        refine ⟨(fu, (IntKind.wrap .i64 (v6 - 1), (v7.set (0 + v6.toNat) ((gt v7 (IntKind.wrap .i64 (v6 - 1))).1, (gt v7 (IntKind.wrap .i64 (v6 - 1))).2)).set (0 + (IntKind.wrap .i64 (v6 - 1)).toNat) ((gt v7 v6).1, (gt v7 v6).2))), h, Nat.lt_succ_self _, ?_⟩
        refine Wk.trans (Wk.forget [0, 1, 2, 3, 8, 9] [0] (s' := ⟨[(0, .sl 0 0 v7.length), (1, .v (.int .i64 p1)), (2, .v (.int .i64 p2)), (3, .fn 95 []), (8, .v (.int .i64 v4)), (9, .v (.int .i64 (IntKind.wrap .i64 (v6 - 1))))], [(0, .arr 2 (((List.map enc_si v7).set (0 + v6.toNat) [(.string ((gt v7 (IntKind.wrap .i64 (v6 - 1))).1)), (.int .i64 ((gt v7 (IntKind.wrap .i64 (v6 - 1))).2))]).set (0 + (IntKind.wrap .i64 (v6 - 1)).toNat) [(.string ((gt v7 v6).1)), (.int .i64 ((gt v7 v6).2))]))]⟩) (by kernel_rfl)) ?_
        refine Wk.trans (Wk.of_eq (congrArg (fun z => (⟨[(0, .sl 0 0 v7.length), (1, .v (.int .i64 p1)), (2, .v (.int .i64 p2)), (3, .fn 95 []), (8, .v (.int .i64 v4)), (9, .v (.int .i64 (IntKind.wrap .i64 (v6 - 1))))], [(0, .arr 2 (z))]⟩ : S)) (set_can (enc := enc_si) (set_can (enc := enc_si) rfl (0 + v6.toNat) ((gt v7 (IntKind.wrap .i64 (v6 - 1))).1, (gt v7 (IntKind.wrap .i64 (v6 - 1))).2)) (0 + (IntKind.wrap .i64 (v6 - 1)).toNat) ((gt v7 v6).1, (gt v7 v6).2)))) ?_
        refine Wk.trans (Wk.of_eq (congrArg (fun z => (⟨[(0, .sl 0 0 z), (1, .v (.int .i64 p1)), (2, .v (.int .i64 p2)), (3, .fn 95 []), (8, .v (.int .i64 v4)), (9, .v (.int .i64 (IntKind.wrap .i64 (v6 - 1))))], [(0, .arr 2 (List.map enc_si ((v7.set (0 + v6.toNat) ((gt v7 (IntKind.wrap .i64 (v6 - 1))).1, (gt v7 (IntKind.wrap .i64 (v6 - 1))).2)).set (0 + (IntKind.wrap .i64 (v6 - 1)).toNat) ((gt v7 v6).1, (gt v7 v6).2))))]⟩ : S)) (set_len ((set_len ((rfl : v7.length = v7.length)) (0 + v6.toNat) ((gt v7 (IntKind.wrap .i64 (v6 - 1))).1, (gt v7 (IntKind.wrap .i64 (v6 - 1))).2) : v7.length = (v7.set (0 + v6.toNat) ((gt v7 (IntKind.wrap .i64 (v6 - 1))).1, (gt v7 (IntKind.wrap .i64 (v6 - 1))).2)).length)) (0 + (IntKind.wrap .i64 (v6 - 1)).toNat) ((gt v7 v6).1, (gt v7 v6).2)))) ?_
        exact Wk.refl _
      · replace h := cd_f b6 h
        refine AX.condF (decide (x8 < 0)) (by kernel_rfl) b6 ?_
        refine AX.exit ?_
        refine fin_wk (Wk.forget [0, 1, 2, 3, 8] [0] (s' := ⟨[(0, .sl 0 0 v7.length), (1, .v (.int .i64 p1)), (2, .v (.int .i64 p2)), (3, .fn 95 []), (8, .v (.int .i64 v4))], [(0, .arr 2 (List.map enc_si v7))]⟩) (by kernel_rfl)) ?_
        have hr := Option.some.inj h
        subst hr
        exact ⟨_, Wk.refl _, ⟨rfl, rfl⟩⟩
    · replace h := cd_f b2 h
      refine AX.drw mixed (its := [.auto {}, .auto {}, .auto { y := some (.v (.bool false)) }]) [0, 1, 2, 3, 8, 9, 34] [0] (s1 := ⟨[(0, .sl 0 0 v7.length), (1, .v (.int .i64 p1)), (2, .v (.int .i64 p2)), (3, .fn 95 []), (8, .v (.int .i64 v4)), (9, .v (.int .i64 v6)), (34, .v (.bool false))], [(0, .arr 2 (List.map enc_si v7))]⟩) (C := ((True) ∧ ((.v (.bool (decide (p1 < v6))) : AV) = (.v (.bool false) : AV))) ∧ True) (by kernel_rfl) ⟨⟨trivial, (congrArg (fun z => AV.v (.bool z)) b2)⟩, trivial⟩ trivial ?_
      refine AX.cond_false (by kernel_rfl) ?_
      refine AX.exit ?_
      refine fin_wk (Wk.forget [0, 1, 2, 3, 8] [0] (s' := ⟨[(0, .sl 0 0 v7.length), (1, .v (.int .i64 p1)), (2, .v (.int .i64 p2)), (3, .fn 95 []), (8, .v (.int .i64 v4))], [(0, .arr 2 (List.map enc_si v7))]⟩) (by kernel_rfl)) ?_
      have hr := Option.some.inj h
      subst hr
      exact ⟨_, Wk.refl _, ⟨rfl, rfl⟩⟩

theorem s_slices_insertionSortCmpFunc_h_Flag_singles_1_si_L1 (p1 : Int) (p2 : Int) (n : Nat) (g : Int × (List (ByteArray × Int))) (out : List (ByteArray × Int)) (h : m_slices_insertionSortCmpFunc_h_Flag_singles_1_si_L1 p1 p2 n g.1 g.2 = some out) :
    AX Try.prog 53 1 (codeAt [1, 1] (bodyOf Try.f121)) ((fun g : Int × (List (ByteArray × Int)) => (⟨[(0, .sl 0 0 g.2.length), (1, .v (.int .i64 p1)), (2, .v (.int .i64 p2)), (3, .fn 95 []), (8, .v (.int .i64 g.1))], [(0, .arr 2 (List.map enc_si g.2))]⟩ : S)) g) (fun ex s => ex = .exit 0 ∧ s = (fun o : List (ByteArray × Int) => (⟨[], [(0, .arr 2 (List.map enc_si o))]⟩ : S)) out) := by
  refine AX.wkpost ?_
  refine AX.loop (G := Nat × (Int × (List (ByteArray × Int)))) (fun q => (fun g : Int × (List (ByteArray × Int)) => (⟨[(0, .sl 0 0 g.2.length), (1, .v (.int .i64 p1)), (2, .v (.int .i64 p2)), (3, .fn 95 []), (8, .v (.int .i64 g.1))], [(0, .arr 2 (List.map enc_si g.2))]⟩ : S)) q.2) (fun q => m_slices_insertionSortCmpFunc_h_Flag_singles_1_si_L1 p1 p2 q.1 q.2.1 q.2.2 = some out) (fun q => q.1) (n, g) h (Wk.refl _) ?_
  clear h
  rintro ⟨fu, v4, v5⟩ h
  cases fu with
  | zero => cases h
  | succ fu =>
    rw [m_slices_insertionSortCmpFunc_h_Flag_singles_1_si_L1] at h
    refine AX.seq ?_
    refine AX.seq ?_
    refine AX.reg (its := []) [0, 1, 2, 3, 8, 14] [0] (s1 := ⟨[(0, .sl 0 0 v5.length), (1, .v (.int .i64 p1)), (2, .v (.int .i64 p2)), (3, .fn 95 []), (8, .v (.int .i64 v4)), (14, .v (.bool (decide (v4 < p2))))], [(0, .arr 2 (List.map enc_si v5))]⟩) (C := True) (by kernel_rfl) trivial trivial ?_
    rcases bool_cases (decide (v4 < p2)) with b1 | b1
    · replace h := cd_t b1 h
      refine AX.condT (decide (v4 < p2)) (by kernel_rfl) b1 ?_
      refine AX.skip ?_
      refine AX.seq ?_
      refine AX.block ?_
      refine AX.seq ?_
      refine AX.reg (its := []) [0, 1, 2, 3, 8, 9] [0] (s1 := ⟨[(0, .sl 0 0 v5.length), (1, .v (.int .i64 p1)), (2, .v (.int .i64 p2)), (3, .fn 95 []), (8, .v (.int .i64 v4)), (9, .v (.int .i64 v4))], [(0, .arr 2 (List.map enc_si v5))]⟩) (C := True) (by kernel_rfl) trivial trivial ?_
      refine AX.block ?_
      obtain ⟨x9, e7, h⟩ := bd_e h
      refine AX.wk (Wk.forget [0, 1, 2, 3, 8, 9] [0] (s' := ⟨[(0, .sl 0 0 v5.length), (1, .v (.int .i64 p1)), (2, .v (.int .i64 p2)), (3, .fn 95 []), (8, .v (.int .i64 v4)), (9, .v (.int .i64 v4))], [(0, .arr 2 (List.map enc_si v5))]⟩) (by kernel_rfl)) ?_
      refine AX.mono (s_slices_insertionSortCmpFunc_h_Flag_singles_1_si_L2 p1 p2 v4 FU (v4, v5) x9 e7) ?_
      rintro _ _ ⟨rfl, rfl⟩
      skip
      refine AX.reg (its := [.auto {}, .auto { raw := true }]) [0, 1, 2, 3, 8] [0] (s1 := ⟨[(0, .sl 0 0 x9.length), (1, .v (.int .i64 p1)), (2, .v (.int .i64 p2)), (3, .fn 95 []), (8, .v (.int .i64 (IntKind.wrap .i64 (v4 + 1))))], [(0, .arr 2 (List.map enc_si x9))]⟩) (C := True) (by kernel_rfl) trivial trivial ?_
      refine ⟨(fu, (IntKind.wrap .i64 (v4 + 1), x9)), h, Nat.lt_succ_self _, ?_⟩
      refine Wk.trans (Wk.forget [0, 1, 2, 3, 8] [0] (s' := ⟨[(0, .sl 0 0 x9.length), (1, .v (.int .i64 p1)), (2, .v (.int .i64 p2)), (3, .fn 95 []), (8, .v (.int .i64 (IntKind.wrap .i64 (v4 + 1))))], [(0, .arr 2 (List.map enc_si x9))]⟩) (by kernel_rfl)) ?_
      exact Wk.refl _
    · replace h := cd_f b1 h
      refine AX.condF (decide (v4 < p2)) (by kernel_rfl) b1 ?_
      refine AX.exit ?_
      refine fin_wk (Wk.forget [] [0] (s' := ⟨[], [(0, .arr 2 (List.map enc_si v5))]⟩) (by kernel_rfl)) ?_
      have hr := Option.some.inj h
      subst hr
      exact ⟨_, Wk.refl _, ⟨rfl, rfl⟩⟩

theorem s_slices_insertionSortCmpFunc_h_Flag_singles_1_si (p1 : Int) (p2 : Int) (p3 : List (ByteArray × Int)) (r : List (ByteArray × Int)) (h : m_slices_insertionSortCmpFunc_h_Flag_singles_1_si p1 p2 p3 = some r) :
    Eng.Spec Try.prog 121 [.sl 0 0 p3.length, .v (.int .i64 p1), .v (.int .i64 p2), .fn 95 []] [.arr 2 (List.map enc_si p3)] (.tup []) [.arr 2 (List.map enc_si r)] := by
  unfold m_slices_insertionSortCmpFunc_h_Flag_singles_1_si at h
  refine Eng.Spec.body Try.func121 (by kernel_rfl) rfl (by kernel_rfl) ?_
  refine AX.wkpost ?_
  refine AX.seq ?_
  refine AX.reg (its := [.auto {}, .auto { raw := true }]) [0, 1, 2, 3, 8] [0] (s1 := ⟨[(0, .sl 0 0 p3.length), (1, .v (.int .i64 p1)), (2, .v (.int .i64 p2)), (3, .fn 95 []), (8, .v (.int .i64 (IntKind.wrap .i64 (p1 + 1))))], [(0, .arr 2 (List.map enc_si p3))]⟩) (C := True) (by kernel_rfl) trivial trivial ?_
  refine AX.block ?_
  obtain ⟨x10, e8, h⟩ := bd_e h
  refine AX.wk (Wk.forget [0, 1, 2, 3, 8] [0] (s' := ⟨[(0, .sl 0 0 p3.length), (1, .v (.int .i64 p1)), (2, .v (.int .i64 p2)), (3, .fn 95 []), (8, .v (.int .i64 (IntKind.wrap .i64 (p1 + 1))))], [(0, .arr 2 (List.map enc_si p3))]⟩) (by kernel_rfl)) ?_
  refine AX.mono (s_slices_insertionSortCmpFunc_h_Flag_singles_1_si_L1 p1 p2 FU (IntKind.wrap .i64 (p1 + 1), p3) x10 e8) ?_
  rintro _ _ ⟨rfl, rfl⟩
  skip
  refine fin_wk (Wk.forget [] [0] (s' := ⟨[], [(0, .arr 2 (List.map enc_si x10))]⟩) (by kernel_rfl)) ?_
  have hr := Option.some.inj h
  subst hr
  exact ⟨_, Wk.refl _, .inl rfl, ⟨[], by kernel_rfl, ⟨rfl, trivial⟩, [], by kernel_rfl, by kernel_rfl⟩⟩

theorem s_slices_pdqsortCmpFunc_h_Flag_singles_1_si_L1 (p1 : Int) (p2 : Int) (p3 : Int) (p4 : List (ByteArray × Int)) (n : Nat) (g : Unit) (out : List (ByteArray × Int)) (h : m_slices_pdqsortCmpFunc_h_Flag_singles_1_si_L1 p1 p2 p3 p4 n = some out) :
    AX Try.prog 148 1 (codeAt [1, 1, 1] (bodyOf Try.f114)) ((fun g : Unit => (⟨[(0, .sl 0 0 p4.length), (1, .v (.int .i64 p1)), (2, .v (.int .i64 p2)), (3, .v (.int .i64 p3)), (4, .fn 95 []), (10, .v (.bool true)), (11, .v (.bool true))], [(0, .arr 2 (List.map enc_si p4))]⟩ : S)) g) (fun ex s => ex = .ret ∧ s = (fun o : List (ByteArray × Int) => (⟨[], [(0, .arr 2 (List.map enc_si o))]⟩ : S)) out) := by
  refine AX.wkpost ?_
  refine AX.loop (G := Nat × (Unit)) (fun q => (fun g : Unit => (⟨[(0, .sl 0 0 p4.length), (1, .v (.int .i64 p1)), (2, .v (.int .i64 p2)), (3, .v (.int .i64 p3)), (4, .fn 95 []), (10, .v (.bool true)), (11, .v (.bool true))], [(0, .arr 2 (List.map enc_si p4))]⟩ : S)) q.2) (fun q => m_slices_pdqsortCmpFunc_h_Flag_singles_1_si_L1 p1 p2 p3 p4 q.1 = some out) (fun q => q.1) (n, g) h (Wk.refl _) ?_
  clear h
  rintro ⟨fu, _⟩ h
  cases fu with
  | zero => cases h
  | succ fu =>
    rw [m_slices_pdqsortCmpFunc_h_Flag_singles_1_si_L1] at h
    refine AX.block ?_
    refine AX.seq ?_
    refine AX.reg (its := [.auto {}, .auto {}, .auto { raw := true }]) [0, 1, 2, 3, 4, 10, 11, 12] [0] (s1 := ⟨[(0, .sl 0 0 p4.length), (1, .v (.int .i64 p1)), (2, .v (.int .i64 p2)), (3, .v (.int .i64 p3)), (4, .fn 95 []), (10, .v (.bool true)), (11, .v (.bool true)), (12, .v (.int .i64 (IntKind.wrap .i64 (p2 - p1))))], [(0, .arr 2 (List.map enc_si p4))]⟩) (C := True) (by kernel_rfl) trivial trivial ?_
    refine AX.seq ?_
    refine AX.seq ?_
    refine AX.reg (its := []) [0, 1, 2, 3, 4, 10, 11, 12, 25] [0] (s1 := ⟨[(0, .sl 0 0 p4.length), (1, .v (.int .i64 p1)), (2, .v (.int .i64 p2)), (3, .v (.int .i64 p3)), (4, .fn 95 []), (10, .v (.bool true)), (11, .v (.bool true)), (12, .v (.int .i64 (IntKind.wrap .i64 (p2 - p1)))), (25, .v (.bool (decide ((IntKind.wrap .i64 (p2 - p1)) ≤ 12))))], [(0, .arr 2 (List.map enc_si p4))]⟩) (C := True) (by kernel_rfl) trivial trivial ?_
    rcases bool_cases (decide ((IntKind.wrap .i64 (p2 - p1)) ≤ 12)) with b1 | b1
    · replace h := cd_t b1 h
      refine AX.condT (decide ((IntKind.wrap .i64 (p2 - p1)) ≤ 12)) (by kernel_rfl) b1 ?_
      refine AX.seq ?_
      obtain ⟨x5, e2, h⟩ := bd_e h
      obtain ⟨g3, h⟩ := gd_e h
      refine AX.reg (its := [.auto {}, .auto {}, .auto {}, .auto {}, .call 121 [.sl 0 0 p4.length, .v (.int .i64 p1), .v (.int .i64 p2), .fn 95 []] (handO (rho ([0] ++ [])) [0] [.arr 2 (List.map enc_si p4)] ++ []) (callEv [0] [] (.tup []) [.arr 2 (List.map enc_si x5)])]) [] [0] (s1 := ⟨[], [(0, .arr 2 (List.map enc_si x5))]⟩) (C := ((([.sl 0 0 p4.length, .v (.int .i64 p1), .v (.int .i64 p2), .fn 95 []] : List AV) = [.sl 0 0 p4.length, .v (.int .i64 p1), .v (.int .i64 p2), .fn 95 []]) ∧ (AO.arr 2 (List.map enc_si p4) = AO.arr 2 (List.map enc_si p4)) ∧ True) ∧ True) (by kernel_rfl) ⟨⟨rfl, rfl, trivial⟩, trivial⟩ ⟨call_ok (ks := [0]) (ns := []) (bor := []) (bobjs := []) (s_slices_insertionSortCmpFunc_h_Flag_singles_1_si p1 p2 p4 x5 e2) (.cons (.c1 (.c0 (.same _ (by kernel_rfl) (by kernel_rfl)))) (.cons (.c1 (.c0 (.same _ (by kernel_rfl) (by kernel_rfl)))) (.cons (.c1 (.c0 (.same _ (by kernel_rfl) (by kernel_rfl)))) (.cons (.fn (.nil)) (.nil))))) (by kernel_rfl) ⟨.inr (arr_sh (enc := enc_si) g3), trivial⟩, trivial⟩ ?_
      refine AX.ret ?_
      refine fin_wk (Wk.forget [] [0] (s' := ⟨[], [(0, .arr 2 (List.map enc_si x5))]⟩) (by kernel_rfl)) ?_
      refine fin_wk (Wk.of_eq (congrArg (fun z => (⟨[], [(0, .arr 2 (List.map enc_si x5))]⟩ : S)) (((rfl : p4.length = p4.length)).trans (g3).symm))) ?_
      have hr := Option.some.inj h
      subst hr
      exact ⟨_, Wk.refl _, ⟨rfl, rfl⟩⟩
    · replace h := cd_f b1 h
      refine AX.condF (decide ((IntKind.wrap .i64 (p2 - p1)) ≤ 12)) (by kernel_rfl) b1 ?_
      refine AX.skip ?_
      refine AX.seq ?_
      refine AX.seq ?_
      refine AX.reg (its := []) [0, 1, 2, 3, 4, 10, 11, 12, 32] [0] (s1 := ⟨[(0, .sl 0 0 p4.length), (1, .v (.int .i64 p1)), (2, .v (.int .i64 p2)), (3, .v (.int .i64 p3)), (4, .fn 95 []), (10, .v (.bool true)), (11, .v (.bool true)), (12, .v (.int .i64 (IntKind.wrap .i64 (p2 - p1)))), (32, .v (.bool (decide (p3 = 0))))], [(0, .arr 2 (List.map enc_si p4))]⟩) (C := True) (by kernel_rfl) trivial trivial ?_
      rcases bool_cases (decide (p3 = 0)) with b4 | b4
      · replace h := cd_t b4 h
        refine AX.condT (decide (p3 = 0)) (by kernel_rfl) b4 ?_
        refine AX.seq ?_
        cases h
      · replace h := cd_f b4 h
        refine AX.condF (decide (p3 = 0)) (by kernel_rfl) b4 ?_
        refine AX.skip ?_
        refine AX.seq ?_
        refine AX.seq ?_
        refine AX.reg (its := []) [0, 1, 2, 3, 4, 10, 11, 12, 39] [0] (s1 := ⟨[(0, .sl 0 0 p4.length), (1, .v (.int .i64 p1)), (2, .v (.int .i64 p2)), (3, .v (.int .i64 p3)), (4, .fn 95 []), (10, .v (.bool true)), (11, .v (.bool true)), (12, .v (.int .i64 (IntKind.wrap .i64 (p2 - p1)))), (39, .v (.bool false))], [(0, .arr 2 (List.map enc_si p4))]⟩) (C := True) (by kernel_rfl) trivial trivial ?_
        refine AX.cond_false (by kernel_rfl) ?_
        refine AX.skip ?_
        refine AX.seq ?_
        cases h

theorem s_slices_pdqsortCmpFunc_h_Flag_singles_1_si (p1 : Int) (p2 : Int) (p3 : Int) (p4 : List (ByteArray × Int)) (r : List (ByteArray × Int)) (h : m_slices_pdqsortCmpFunc_h_Flag_singles_1_si p1 p2 p3 p4 = some r) :
    Eng.Spec Try.prog 114 [.sl 0 0 p4.length, .v (.int .i64 p1), .v (.int .i64 p2), .v (.int .i64 p3), .fn 95 []] [.arr 2 (List.map enc_si p4)] (.tup []) [.arr 2 (List.map enc_si r)] := by
  unfold m_slices_pdqsortCmpFunc_h_Flag_singles_1_si at h
  refine Eng.Spec.body Try.func114 (by kernel_rfl) rfl (by kernel_rfl) ?_
  refine AX.wkpost ?_
  refine AX.seq ?_
  refine AX.reg (its := []) [0, 1, 2, 3, 4, 10] [0] (s1 := ⟨[(0, .sl 0 0 p4.length), (1, .v (.int .i64 p1)), (2, .v (.int .i64 p2)), (3, .v (.int .i64 p3)), (4, .fn 95 []), (10, .v (.bool true))], [(0, .arr 2 (List.map enc_si p4))]⟩) (C := True) (by kernel_rfl) trivial trivial ?_
  refine AX.seq ?_
  refine AX.reg (its := []) [0, 1, 2, 3, 4, 10, 11] [0] (s1 := ⟨[(0, .sl 0 0 p4.length), (1, .v (.int .i64 p1)), (2, .v (.int .i64 p2)), (3, .v (.int .i64 p3)), (4, .fn 95 []), (10, .v (.bool true)), (11, .v (.bool true))], [(0, .arr 2 (List.map enc_si p4))]⟩) (C := True) (by kernel_rfl) trivial trivial ?_
  refine AX.block ?_
  obtain ⟨x6, e5, h⟩ := bd_e h
  refine AX.wk (Wk.forget [0, 1, 2, 3, 4, 10, 11] [0] (s' := ⟨[(0, .sl 0 0 p4.length), (1, .v (.int .i64 p1)), (2, .v (.int .i64 p2)), (3, .v (.int .i64 p3)), (4, .fn 95 []), (10, .v (.bool true)), (11, .v (.bool true))], [(0, .arr 2 (List.map enc_si p4))]⟩) (by kernel_rfl)) ?_
  refine AX.mono (s_slices_pdqsortCmpFunc_h_Flag_singles_1_si_L1 p1 p2 p3 p4 FU () x6 e5) ?_
  rintro _ _ ⟨rfl, rfl⟩
  skip
  refine fin_wk (Wk.forget [] [0] (s' := ⟨[], [(0, .arr 2 (List.map enc_si x6))]⟩) (by kernel_rfl)) ?_
  have hr := Option.some.inj h
  subst hr
  exact ⟨_, Wk.refl _, .inr rfl, ⟨[], by kernel_rfl, ⟨rfl, trivial⟩, [], by kernel_rfl, by kernel_rfl⟩⟩

theorem s_slices_SortFunc_h_Flag_singles_1_si (p1 : List (ByteArray × Int)) (r : List (ByteArray × Int)) (h : m_slices_SortFunc_h_Flag_singles_1_si p1 = some r) :
    Eng.Spec Try.prog 94 [.sl 0 0 p1.length, .fn 95 []] [.arr 2 (List.map enc_si p1)] (.tup []) [.arr 2 (List.map enc_si r)] := by
  unfold m_slices_SortFunc_h_Flag_singles_1_si at h
  refine Eng.Spec.body Try.func94 (by kernel_rfl) rfl (by kernel_rfl) ?_
  refine AX.wkpost ?_
  refine AX.seq ?_
  refine AX.reg (its := []) [0, 1, 4] [0] (s1 := ⟨[(0, .sl 0 0 p1.length), (1, .fn 95 []), (4, .v (.int .i64 (p1.length : Int)))], [(0, .arr 2 (List.map enc_si p1))]⟩) (C := True) (by kernel_rfl) trivial trivial ?_
  obtain ⟨x2, e1, h⟩ := bd_e h
  obtain ⟨x3, e2, h⟩ := bd_e h
  obtain ⟨g3, h⟩ := gd_e h
  refine AX.reg (its := [.auto {}, .auto {}, .auto {}, .auto { raw := true }, .call 115 [.v (.int .u64 (IntKind.wrap .u64 ((p1.length : Int))))] (handO (rho ([] ++ [])) [] [] ++ []) (callEv [] [] (.v (.int .i64 x2)) []), .auto {}, .call 114 [.sl 0 0 p1.length, .v (.int .i64 0), .v (.int .i64 (p1.length : Int)), .v (.int .i64 x2), .fn 95 []] (handO (rho ([0] ++ [])) [0] [.arr 2 (List.map enc_si p1)] ++ []) (callEv [0] [] (.tup []) [.arr 2 (List.map enc_si x3)])]) [] [0] (s1 := ⟨[], [(0, .arr 2 (List.map enc_si x3))]⟩) (C := ((([.v (.int .u64 (IntKind.wrap .u64 ((p1.length : Int))))] : List AV) = [.v (.int .u64 (IntKind.wrap .u64 ((p1.length : Int))))]) ∧ True) ∧ ((([.sl 0 0 p1.length, .v (.int .i64 0), .v (.int .i64 (p1.length : Int)), .v (.int .i64 x2), .fn 95 []] : List AV) = [.sl 0 0 p1.length, .v (.int .i64 0), .v (.int .i64 (p1.length : Int)), .v (.int .i64 x2), .fn 95 []]) ∧ (AO.arr 2 (List.map enc_si p1) = AO.arr 2 (List.map enc_si p1)) ∧ True) ∧ True) (by kernel_rfl) ⟨⟨rfl, trivial⟩, ⟨⟨rfl, rfl, trivial⟩, trivial⟩⟩ ⟨call_ok (ks := []) (ns := []) (bor := []) (bobjs := []) (s_math_bits_Len (IntKind.wrap .u64 ((p1.length : Int))) x2 e1) (.cons (.c1 (.c0 (.same _ (by kernel_rfl) (by kernel_rfl)))) (.nil)) (by kernel_rfl) trivial, ⟨call_ok (ks := [0]) (ns := []) (bor := []) (bobjs := []) (s_slices_pdqsortCmpFunc_h_Flag_singles_1_si 0 (p1.length : Int) x2 p1 x3 e2) (.cons (.c1 (.c0 (.same _ (by kernel_rfl) (by kernel_rfl)))) (.cons (.c1 (.c0 (.same _ (by kernel_rfl) (by kernel_rfl)))) (.cons (.c1 (.c0 (.same _ (by kernel_rfl) (by kernel_rfl)))) (.cons (.c1 (.c0 (.same _ (by kernel_rfl) (by kernel_rfl)))) (.cons (.fn (.nil)) (.nil)))))) (by kernel_rfl) ⟨.inr (arr_sh (enc := enc_si) g3), trivial⟩, trivial⟩⟩ ?_
  refine fin_wk (Wk.forget [] [0] (s' := ⟨[], [(0, .arr 2 (List.map enc_si x3))]⟩) (by kernel_rfl)) ?_
  refine fin_wk (Wk.of_eq (congrArg (fun z => (⟨[], [(0, .arr 2 (List.map enc_si x3))]⟩ : S)) (((rfl : p1.length = p1.length)).trans (g3).symm))) ?_
  have hr := Option.some.inj h
  subst hr
  exact ⟨_, Wk.refl _, .inl rfl, ⟨[], by kernel_rfl, ⟨rfl, trivial⟩, [], by kernel_rfl, by kernel_rfl⟩⟩

theorem s_impl_Flag_singles_L1 (p1 : List (ByteArray × Int)) (n : Nat) (g : (List (ByteArray × Int)) × Int) (out : List (ByteArray × Int)) (h : m_impl_Flag_singles_L1 p1 n g.1 g.2 = some out) :
    AX Try.prog 31 0 (codeAt [1, 1, 0, 1, 1] (bodyOf Try.f56)) ((fun g : (List (ByteArray × Int)) × Int => (⟨[(3, .sl 0 0 g.1.length), (7, .bs false 2 (List.map enc_si p1)), (8, .v (.int .i64 (p1.length : Int))), (9, .v (.int .i64 g.2))], [(0, .arr 2 (List.map enc_si g.1))]⟩ : S)) g) (fun ex s => ex = .exit 0 ∧ s = (fun o : List (ByteArray × Int) => (⟨[(3, .sl 0 0 o.length)], [(0, .arr 2 (List.map enc_si o))]⟩ : S)) out) := by
  refine AX.wkpost ?_
  refine AX.loop (G := Nat × ((List (ByteArray × Int)) × Int)) (fun q => (fun g : (List (ByteArray × Int)) × Int => (⟨[(3, .sl 0 0 g.1.length), (7, .bs false 2 (List.map enc_si p1)), (8, .v (.int .i64 (p1.length : Int))), (9, .v (.int .i64 g.2))], [(0, .arr 2 (List.map enc_si g.1))]⟩ : S)) q.2) (fun q => m_impl_Flag_singles_L1 p1 q.1 q.2.1 q.2.2 = some out) (fun q => q.1) (n, g) h (Wk.refl _) ?_
  clear h
  rintro ⟨fu, v3, v4⟩ h
  cases fu with
  | zero => cases h
  | succ fu =>
    rw [m_impl_Flag_singles_L1] at h
    refine AX.seq ?_
    refine AX.reg (its := []) [3, 7, 8, 9, 10] [0] (s1 := ⟨[(3, .sl 0 0 v3.length), (7, .bs false 2 (List.map enc_si p1)), (8, .v (.int .i64 (p1.length : Int))), (9, .v (.int .i64 v4)), (10, .v (.bool (decide (v4 < (p1.length : Int)))))], [(0, .arr 2 (List.map enc_si v3))]⟩) (C := True) (by kernel_rfl) trivial trivial ?_
    refine AX.seq ?_
    rcases bool_cases (decide (v4 < (p1.length : Int))) with b1 | b1
    · replace h := cd_t b1 h
      refine AX.condT (decide (v4 < (p1.length : Int))) (by kernel_rfl) b1 ?_
      refine AX.skip ?_
      refine AX.seq ?_
      refine AX.block ?_
      refine AX.seq ?_
      obtain ⟨g2, h⟩ := gd_e h
      refine AX.reg (its := [.auto { y := some (.be 2 (enc_si (gt p1 v4)) 0) }, .auto {}, .auto { nk := 1 }]) [3, 5, 7, 8, 9] [0, 1] (s1 := ⟨[(3, .sl 0 0 v3.length), (5, .pt 1 0), (7, .bs false 2 (List.map enc_si p1)), (8, .v (.int .i64 (p1.length : Int))), (9, .v (.int .i64 v4))], [(0, .arr 2 (List.map enc_si v3)), (1, .box [.v (.string ((gt p1 v4).1)), .v (.int .i64 ((gt p1 v4).2))])]⟩) (C := ((0 ≤ v4 ∧ v4 < ((List.map enc_si p1).length : Int)) ∧ (AV.be 2 ((List.map enc_si p1).getD v4.toNat []) 0 = AV.be 2 (enc_si (gt p1 v4)) 0)) ∧ True) (by kernel_rfl) ⟨idx_bs enc_si p1 v4 2 g2, trivial⟩ trivial ?_
      refine AX.seq ?_
      obtain ⟨x5, e3, h⟩ := bd_e h
      rcases bool_cases (x5) with b4 | b4
      · replace h := cd_t b4 h
        obtain ⟨x6, e5, h⟩ := bd_e h
        refine AX.reg (its := [.auto {}, .auto {}, .call 92 [.v (.int .i64 ((gt p1 v4).2))] (handO (rho ([] ++ [])) [] [] ++ []) (callEv [] [] (.v (.bool true)) []), .auto {}, .auto {}, .auto {}, .auto {}, .call 93 [.sl 0 0 v3.length, .v (.int .i64 ((gt p1 v4).2))] (handO (rho ([] ++ [])) [] [] ++ [(0, .arr 2 (List.map enc_si v3))]) (callEv [] [] (.v (.int .i64 x6)) [])]) [3, 5, 7, 8, 9, 22] [0, 1] (s1 := ⟨[(3, .sl 0 0 v3.length), (5, .pt 1 0), (7, .bs false 2 (List.map enc_si p1)), (8, .v (.int .i64 (p1.length : Int))), (9, .v (.int .i64 v4)), (22, .v (.bool (decide (x6 < 0))))], [(0, .arr 2 (List.map enc_si v3)), (1, .box [.v (.string ((gt p1 v4).1)), .v (.int .i64 ((gt p1 v4).2))])]⟩) (C := ((([.v (.int .i64 ((gt p1 v4).2))] : List AV) = [.v (.int .i64 ((gt p1 v4).2))]) ∧ True) ∧ ((([.sl 0 0 v3.length, .v (.int .i64 ((gt p1 v4).2))] : List AV) = [.sl 0 0 v3.length, .v (.int .i64 ((gt p1 v4).2))]) ∧ (AO.arr 2 (List.map enc_si v3) = AO.arr 2 (List.map enc_si v3)) ∧ True) ∧ True) (by kernel_rfl) ⟨⟨rfl, trivial⟩, ⟨⟨rfl, rfl, trivial⟩, trivial⟩⟩ ⟨call_ok (ks := []) (ns := []) (bor := []) (bobjs := []) (show Eng.Spec Try.prog 92 [.v (.int .i64 ((gt p1 v4).2))] [] (.v (.bool true)) [] from by have q := s_impl_single ((gt p1 v4).2) x5 e3; rw [b4] at q; exact q) (.cons (.c1 (.c0 (.same _ (by kernel_rfl) (by kernel_rfl)))) (.nil)) (by kernel_rfl) trivial, ⟨call_ok (ks := []) (ns := []) (bor := [0]) (bobjs := [(0, .arr 2 (List.map enc_si v3))]) (s_impl_valued v3 ((gt p1 v4).2) x6 e5) (.cons (.c1 (.c0 (.arr rfl rfl ((rfl).trans (List.length_map ..).symm)))) (.cons (.c1 (.c0 (.same _ (by kernel_rfl) (by kernel_rfl)))) (.nil))) (by kernel_rfl) trivial, trivial⟩⟩ ?_
        rcases bool_cases (decide (x6 < 0)) with b6 | b6
        · replace h := cd_t b6 h
          refine AX.condT (decide (x6 < 0)) (by kernel_rfl) b6 ?_
          obtain ⟨g7, h⟩ := gd_e h
          refine AX.reg (its := [.auto {}, .auto {}, .auto { nk := 2 }, .auto { y := some (.sl 3 0 ((v3 ++ ([((gt p1 v4).1, (gt p1 v4).2)] : List (ByteArray × Int))).length)), els := some (List.map enc_si v3), els2 := some (List.map enc_si ([((gt p1 v4).1, (gt p1 v4).2)] : List (ByteArray × Int))), nk := 3 }]) [3, 7, 8, 9] [3] (s1 := ⟨[(3, .sl 3 0 ((v3 ++ ([((gt p1 v4).1, (gt p1 v4).2)] : List (ByteArray × Int))).length)), (7, .bs false 2 (List.map enc_si p1)), (8, .v (.int .i64 (p1.length : Int))), (9, .v (.int .i64 v4))], [(3, .arr 2 (List.map enc_si v3 ++ List.map enc_si ([((gt p1 v4).1, (gt p1 v4).2)] : List (ByteArray × Int))))]⟩) (C := ((((((List.map enc_si v3).drop 0).take (v3.length) = List.map enc_si v3) ∧ (((List.map enc_si ([((gt p1 v4).1, (gt p1 v4).2)] : List (ByteArray × Int))).drop 0).take (([((gt p1 v4).1, (gt p1 v4).2)] : List (ByteArray × Int)).length) = List.map enc_si ([((gt p1 v4).1, (gt p1 v4).2)] : List (ByteArray × Int)))) ∧ (List.map enc_si v3).length + (List.map enc_si ([((gt p1 v4).1, (gt p1 v4).2)] : List (ByteArray × Int))).length ≤ 1099511627776) ∧ (AV.sl 3 0 (List.map enc_si v3 ++ List.map enc_si ([((gt p1 v4).1, (gt p1 v4).2)] : List (ByteArray × Int))).length = AV.sl 3 0 (v3 ++ ([((gt p1 v4).1, (gt p1 v4).2)] : List (ByteArray × Int))).length)) ∧ True) (by kernel_rfl) ⟨⟨⟨⟨(dt_all (enc := enc_si) rfl rfl), (dt_all (enc := enc_si) rfl rfl)⟩, (by simp only [List.length_map, List.length_nil, List.length_replicate]; simpa using g7)⟩, sl_len (enc := enc_si) (app_can (enc := enc_si) rfl (rfl))⟩, trivial⟩ trivial ?_
          refine AX.reg (its := [.auto { raw := true }]) [3, 7, 8, 9] [3] (s1 := ⟨[(3, .sl 3 0 ((v3 ++ ([((gt p1 v4).1, (gt p1 v4).2)] : List (ByteArray × Int))).length)), (7, .bs false 2 (List.map enc_si p1)), (8, .v (.int .i64 (p1.length : Int))), (9, .v (.int .i64 (IntKind.wrap .i64 (v4 + 1))))], [(3, .arr 2 (List.map enc_si v3 ++ List.map enc_si ([((gt p1 v4).1, (gt p1 v4).2)] : List (ByteArray × Int))))]⟩) (C := True) (by kernel_rfl) trivial trivial ?_
          refine ⟨(fu, (v3 ++ ([((gt p1 v4).1, (gt p1 v4).2)] : List (ByteArray × Int)), IntKind.wrap .i64 (v4 + 1))), h, Nat.lt_succ_self _, ?_⟩
          refine Wk.trans (Wk.swap 0 3 (Nat.le_of_ble_eq_true (by kernel_rfl)) (Nat.le_of_ble_eq_true (by kernel_rfl)) rfl) ?_
          refine Wk.trans (Wk.forget [3, 7, 8, 9] [0] (s' := ⟨[(3, .sl 0 0 ((v3 ++ ([((gt p1 v4).1, (gt p1 v4).2)] : List (ByteArray × Int))).length)), (7, .bs false 2 (List.map enc_si p1)), (8, .v (.int .i64 (p1.length : Int))), (9, .v (.int .i64 (IntKind.wrap .i64 (v4 + 1))))], [(0, .arr 2 (List.map enc_si v3 ++ List.map enc_si ([((gt p1 v4).1, (gt p1 v4).2)] : List (ByteArray × Int))))]⟩) (by kernel_rfl)) ?_
          refine Wk.trans (Wk.of_eq (congrArg (fun z => (⟨[(3, .sl 0 0 ((v3 ++ ([((gt p1 v4).1, (gt p1 v4).2)] : List (ByteArray × Int))).length)), (7, .bs false 2 (List.map enc_si p1)), (8, .v (.int .i64 (p1.length : Int))), (9, .v (.int .i64 (IntKind.wrap .i64 (v4 + 1))))], [(0, .arr 2 (z))]⟩ : S)) (app_can (enc := enc_si) rfl (rfl) : List.map enc_si v3 ++ List.map enc_si ([((gt p1 v4).1, (gt p1 v4).2)] : List (ByteArray × Int)) = List.map enc_si (v3 ++ ([((gt p1 v4).1, (gt p1 v4).2)] : List (ByteArray × Int)))))) ?_
          exact Wk.refl _
        · replace h := cd_f b6 h
          refine AX.condF (decide (x6 < 0)) (by kernel_rfl) b6 ?_
          refine AX.skip ?_
          refine AX.reg (its := [.auto { raw := true }]) [3, 7, 8, 9] [0] (s1 := ⟨[(3, .sl 0 0 v3.length), (7, .bs false 2 (List.map enc_si p1)), (8, .v (.int .i64 (p1.length : Int))), (9, .v (.int .i64 (IntKind.wrap .i64 (v4 + 1))))], [(0, .arr 2 (List.map enc_si v3))]⟩) (C := True) (by kernel_rfl) trivial trivial ?_
          refine ⟨(fu, (v3, IntKind.wrap .i64 (v4 + 1))), h, Nat.lt_succ_self _, ?_⟩
          refine Wk.trans (Wk.forget [3, 7, 8, 9] [0] (s' := ⟨[(3, .sl 0 0 v3.length), (7, .bs false 2 (List.map enc_si p1)), (8, .v (.int .i64 (p1.length : Int))), (9, .v (.int .i64 (IntKind.wrap .i64 (v4 + 1))))], [(0, .arr 2 (List.map enc_si v3))]⟩) (by kernel_rfl)) ?_
          exact Wk.refl _
      · replace h := cd_f b4 h
        refine AX.reg (its := [.auto {}, .auto {}, .call 92 [.v (.int .i64 ((gt p1 v4).2))] (handO (rho ([] ++ [])) [] [] ++ []) (callEv [] [] (.v (.bool false)) [])]) [3, 5, 7, 8, 9, 22] [0, 1] (s1 := ⟨[(3, .sl 0 0 v3.length), (5, .pt 1 0), (7, .bs false 2 (List.map enc_si p1)), (8, .v (.int .i64 (p1.length : Int))), (9, .v (.int .i64 v4)), (22, .v (.bool false))], [(0, .arr 2 (List.map enc_si v3)), (1, .box [.v (.string ((gt p1 v4).1)), .v (.int .i64 ((gt p1 v4).2))])]⟩) (C := ((([.v (.int .i64 ((gt p1 v4).2))] : List AV) = [.v (.int .i64 ((gt p1 v4).2))]) ∧ True) ∧ True) (by kernel_rfl) ⟨⟨rfl, trivial⟩, trivial⟩ ⟨call_ok (ks := []) (ns := []) (bor := []) (bobjs := []) (show Eng.Spec Try.prog 92 [.v (.int .i64 ((gt p1 v4).2))] [] (.v (.bool false)) [] from by have q := s_impl_single ((gt p1 v4).2) x5 e3; rw [b4] at q; exact q) (.cons (.c1 (.c0 (.same _ (by kernel_rfl) (by kernel_rfl)))) (.nil)) (by kernel_rfl) trivial, trivial⟩ ?_
        refine AX.cond_false (by kernel_rfl) ?_
        refine AX.skip ?_
        refine AX.reg (its := [.auto { raw := true }]) [3, 7, 8, 9] [0] (s1 := ⟨[(3, .sl 0 0 v3.length), (7, .bs false 2 (List.map enc_si p1)), (8, .v (.int .i64 (p1.length : Int))), (9, .v (.int .i64 (IntKind.wrap .i64 (v4 + 1))))], [(0, .arr 2 (List.map enc_si v3))]⟩) (C := True) (by kernel_rfl) trivial trivial ?_
        refine ⟨(fu, (v3, IntKind.wrap .i64 (v4 + 1))), h, Nat.lt_succ_self _, ?_⟩
        refine Wk.trans (Wk.forget [3, 7, 8, 9] [0] (s' := ⟨[(3, .sl 0 0 v3.length), (7, .bs false 2 (List.map enc_si p1)), (8, .v (.int .i64 (p1.length : Int))), (9, .v (.int .i64 (IntKind.wrap .i64 (v4 + 1))))], [(0, .arr 2 (List.map enc_si v3))]⟩) (by kernel_rfl)) ?_
        exact Wk.refl _
    · replace h := cd_f b1 h
      refine AX.condF (decide (v4 < (p1.length : Int))) (by kernel_rfl) b1 ?_
      refine AX.exit ?_
      refine fin_wk (Wk.forget [3] [0] (s' := ⟨[(3, .sl 0 0 v3.length)], [(0, .arr 2 (List.map enc_si v3))]⟩) (by kernel_rfl)) ?_
      have hr := Option.some.inj h
      subst hr
      exact ⟨_, Wk.refl _, ⟨rfl, rfl⟩⟩

theorem s_impl_Flag_singles (p1 : List (ByteArray × Int)) (p2 : Int) (r : List (ByteArray × Int)) (h : m_impl_Flag_singles p1 p2 = some r) :
    Eng.Spec Try.prog 56 [.agg [.bs false 2 (List.map enc_si p1), .v (.int .i64 p2)]] [] (.sl 0 0 r.length) [.arr 2 (List.map enc_si r)] := by
  unfold m_impl_Flag_singles at h
  refine Eng.Spec.body Try.func56 (by kernel_rfl) rfl (by kernel_rfl) ?_
  refine AX.wkpost ?_
  refine AX.seq ?_
  refine AX.reg (its := [.auto { nk := 0 }]) [1] [0] (s1 := ⟨[(1, .pt 0 0)], [(0, .box [.bs false 2 (List.map enc_si p1), .v (.int .i64 p2)])]⟩) (C := True) (by kernel_rfl) trivial trivial ?_
  refine AX.seq ?_
  refine AX.reg (its := []) [1, 3] [0] (s1 := ⟨[(1, .pt 0 0), (3, .v (.slice none 0 0))], [(0, .box [.bs false 2 (List.map enc_si p1), .v (.int .i64 p2)])]⟩) (C := True) (by kernel_rfl) trivial trivial ?_
  refine AX.seq ?_
  refine AX.seq ?_
  refine AX.reg (its := [.auto {}, .auto {}, .auto { y := some (.v (.int .i64 (p1.length : Int))) }]) [3, 7, 8, 9] [] (s1 := ⟨[(3, .v (.slice none 0 0)), (7, .bs false 2 (List.map enc_si p1)), (8, .v (.int .i64 (p1.length : Int))), (9, .v (.int .i64 0))], []⟩) (C := (True ∧ (AV.v (.int .i64 ((List.map enc_si p1).length : Int)) = AV.v (.int .i64 (p1.length : Int)))) ∧ True) (by kernel_rfl) ⟨⟨trivial, len_map enc_si p1⟩, trivial⟩ trivial ?_
  refine AX.block ?_
  obtain ⟨x7, e8, h⟩ := bd_e h
  refine AX.wk (Wk.mat 3 0 2 (by kernel_rfl) (Nat.le_of_ble_eq_true (by kernel_rfl)) (by kernel_rfl) rfl) ?_
  refine AX.wk (Wk.forget [3, 7, 8, 9] [0] (s' := ⟨[(3, .sl 0 0 (([] : List (ByteArray × Int)).length)), (7, .bs false 2 (List.map enc_si p1)), (8, .v (.int .i64 (p1.length : Int))), (9, .v (.int .i64 0))], [(0, .arr 2 (List.map enc_si ([] : List (ByteArray × Int))))]⟩) (by kernel_rfl)) ?_
  refine AX.mono (s_impl_Flag_singles_L1 p1 FU (([] : List (ByteArray × Int)), 0) x7 e8) ?_
  rintro _ _ ⟨rfl, rfl⟩
  skip
  refine AX.seq ?_
  obtain ⟨x8, e9, h⟩ := bd_e h
  obtain ⟨g10, h⟩ := gd_e h
  refine AX.reg (its := [.auto {}, .call 94 [.sl 0 0 x7.length, .fn 95 []] (handO (rho ([0] ++ [])) [0] [.arr 2 (List.map enc_si x7)] ++ []) (callEv [0] [] (.tup []) [.arr 2 (List.map enc_si x8)])]) [3] [0] (s1 := ⟨[(3, .sl 0 0 x7.length)], [(0, .arr 2 (List.map enc_si x8))]⟩) (C := ((([.sl 0 0 x7.length, .fn 95 []] : List AV) = [.sl 0 0 x7.length, .fn 95 []]) ∧ (AO.arr 2 (List.map enc_si x7) = AO.arr 2 (List.map enc_si x7)) ∧ True) ∧ True) (by kernel_rfl) ⟨⟨rfl, rfl, trivial⟩, trivial⟩ ⟨call_ok (ks := [0]) (ns := []) (bor := []) (bobjs := []) (s_slices_SortFunc_h_Flag_singles_1_si x7 x8 e9) (.cons (.c1 (.c0 (.same _ (by kernel_rfl) (by kernel_rfl)))) (.cons (.fn (.nil)) (.nil))) (by kernel_rfl) ⟨.inr (arr_sh (enc := enc_si) g10), trivial⟩, trivial⟩ ?_
  refine AX.seq ?_
  refine AX.reg (its := []) [2] [0] (s1 := ⟨[(2, .sl 0 0 x7.length)], [(0, .arr 2 (List.map enc_si x8))]⟩) (C := True) (by kernel_rfl) trivial trivial ?_
  refine AX.ret ?_
  refine fin_wk (Wk.forget [2] [0] (s' := ⟨[(2, .sl 0 0 x7.length)], [(0, .arr 2 (List.map enc_si x8))]⟩) (by kernel_rfl)) ?_
  refine fin_wk (Wk.of_eq (congrArg (fun z => (⟨[(2, .sl 0 0 z)], [(0, .arr 2 (List.map enc_si x8))]⟩ : S)) (((rfl : x7.length = x7.length)).trans (g10).symm))) ?_
  have hr := Option.some.inj h
  subst hr
  exact ⟨_, Wk.refl _, .inr rfl, ⟨[0], by kernel_rfl, ⟨rfl, trivial⟩, [.sl 0 0 x8.length], by kernel_rfl, by kernel_rfl⟩⟩

theorem s_impl_anyDef (p1 : ByteArray) (p2 : Int) (r : Unit) (h : m_impl_anyDef p1 p2 = some r) :
    Eng.Spec Try.prog 66 [.agg [.v (.string p1), .v (.int .i64 p2)]] [] (.v (.bool true)) [] := by
  unfold m_impl_anyDef at h
  refine Eng.Spec.body Try.func66 (by kernel_rfl) rfl (by kernel_rfl) ?_
  refine AX.wkpost ?_
  refine AX.seq ?_
  refine AX.reg (its := [.auto { nk := 0 }]) [] [] (s1 := ⟨[], []⟩) (C := True) (by kernel_rfl) trivial trivial ?_
  refine AX.seq ?_
  refine AX.reg (its := []) [2] [] (s1 := ⟨[(2, .v (.bool true))], []⟩) (C := True) (by kernel_rfl) trivial trivial ?_
  refine AX.ret ?_
  refine fin_wk (Wk.forget [2] [] (s' := ⟨[(2, .v (.bool true))], []⟩) (by kernel_rfl)) ?_
  have hr := Option.some.inj h
  subst hr
  exact ⟨_, Wk.refl _, .inr rfl, ⟨[], by kernel_rfl, trivial, [.v (.bool true)], by kernel_rfl, by kernel_rfl⟩⟩

theorem s_slices_Clip_s (p1 : List (ByteArray)) (r : Unit) (h : m_slices_Clip_s p1 = some r) :
    Eng.Spec Try.prog 101 [.bs false 1 (List.map enc_s p1)] [] (.bs false 1 (List.map enc_s (sub p1 (0 : Int) (p1.length : Int)))) [] := by
  unfold m_slices_Clip_s at h
  refine Eng.Spec.body Try.func101 (by kernel_rfl) rfl (by kernel_rfl) ?_
  refine AX.wkpost ?_
  refine AX.seq ?_
  refine AX.reg (its := []) [0] [] (s1 := ⟨[(0, .bs false 1 (List.map enc_s p1))], []⟩) (C := True) (by kernel_rfl) trivial trivial ?_
  refine AX.seq ?_
  obtain ⟨g1, h⟩ := gd_e h
  refine AX.reg (its := [.auto {}, .auto {}, .auto { y := some (.v (.int .i64 (p1.length : Int))) }, .auto {}, .auto { y := some (.v (.int .i64 (p1.length : Int))) }, .auto { y := some (.bs false 1 (List.map enc_s (sub p1 (0 : Int) (p1.length : Int)))) }]) [2] [] (s1 := ⟨[(2, .bs false 1 (List.map enc_s (sub p1 (0 : Int) (p1.length : Int))))], []⟩) (C := (True ∧ (AV.v (.int .i64 ((List.map enc_s p1).length : Int)) = AV.v (.int .i64 (p1.length : Int)))) ∧ (True ∧ (AV.v (.int .i64 ((List.map enc_s p1).length : Int)) = AV.v (.int .i64 (p1.length : Int)))) ∧ ((0 ≤ (0 : Int) ∧ (0 : Int) ≤ (p1.length : Int) ∧ (p1.length : Int) ≤ (p1.length : Int) ∧ (p1.length : Int) ≤ ((List.map enc_s p1).length : Int)) ∧ (AV.bs false 1 (((List.map enc_s p1).drop (0 : Int).toNat).take ((p1.length : Int).toNat - (0 : Int).toNat)) = (.bs false 1 (List.map enc_s (sub p1 (0 : Int) (p1.length : Int))) : AV))) ∧ True) (by kernel_rfl) ⟨⟨trivial, len_map enc_s p1⟩, ⟨⟨trivial, len_map enc_s p1⟩, ⟨⟨by first | exact g1 | simpa only [List.length_map] using g1, by first | exact sub_can enc_s p1 (0 : Int) (p1.length : Int) false 1 | (simp only [List.length_map]; exact sub_can enc_s p1 (0 : Int) (p1.length : Int) false 1)⟩, trivial⟩⟩⟩ trivial ?_
  refine AX.ret ?_
  refine fin_wk (Wk.forget [2] [] (s' := ⟨[(2, .bs false 1 (List.map enc_s (sub p1 (0 : Int) (p1.length : Int))))], []⟩) (by kernel_rfl)) ?_
  have hr := Option.some.inj h
  subst hr
  exact ⟨_, Wk.refl _, .inr rfl, ⟨[], by kernel_rfl, trivial, [.bs false 1 (List.map enc_s (sub p1 (0 : Int) (p1.length : Int)))], by kernel_rfl, by kernel_rfl⟩⟩

theorem s_slices_Clip_hs (p1 : List (ByteArray)) (r : Unit) (h : m_slices_Clip_hs p1 = some r) :
    Eng.Spec Try.prog 101 [.sl 0 0 p1.length] [.arr 1 (List.map enc_s p1)] (.sl 0 0 p1.length) [.arr 1 (List.map enc_s p1)] := by
  unfold m_slices_Clip_hs at h
  refine Eng.Spec.body Try.func101 (by kernel_rfl) rfl (by kernel_rfl) ?_
  refine AX.wkpost ?_
  refine AX.seq ?_
  refine AX.reg (its := []) [0] [0] (s1 := ⟨[(0, .sl 0 0 p1.length)], [(0, .arr 1 (List.map enc_s p1))]⟩) (C := True) (by kernel_rfl) trivial trivial ?_
  refine AX.seq ?_
  refine AX.reg (its := [.auto {}, .auto {}, .auto {}, .auto {}, .auto {}, .auto { y := some (.sl 0 0 p1.length) }]) [2] [0] (s1 := ⟨[(2, .sl 0 0 p1.length)], [(0, .arr 1 (List.map enc_s p1))]⟩) (C := ((0 ≤ (0 : Int) ∧ (0 : Int) ≤ (p1.length : Int) ∧ (p1.length : Int) ≤ (p1.length : Int) ∧ (p1.length : Int) ≤ (p1.length : Int)) ∧ (AV.sl 0 (0 + (0 : Int).toNat) ((p1.length : Int).toNat - (0 : Int).toNat) = AV.sl 0 0 p1.length)) ∧ True) (by kernel_rfl) ⟨⟨⟨by omega, by omega, by omega, by omega⟩, rfl⟩, trivial⟩ trivial ?_
  refine AX.ret ?_
  refine fin_wk (Wk.forget [2] [0] (s' := ⟨[(2, .sl 0 0 p1.length)], [(0, .arr 1 (List.map enc_s p1))]⟩) (by kernel_rfl)) ?_
  have hr := Option.some.inj h
  subst hr
  exact ⟨_, Wk.refl _, .inr rfl, ⟨[], by kernel_rfl, ⟨rfl, trivial⟩, [.sl 0 0 p1.length], by kernel_rfl, by kernel_rfl⟩⟩

theorem s_impl_names_anyDef_L1 (p1 : List (ByteArray × Int)) (n : Nat) (g : List (ByteArray) × Int) (out : List (ByteArray)) (h : m_impl_names_anyDef_L1 p1 n g.1 g.2 = some out) :
    AX Try.prog 25 0 (codeAt [1, 1, 0, 1, 1] (bodyOf Try.f65)) ((fun g : List (ByteArray) × Int => (⟨[(1, .fn 66 []), (5, .sl 0 0 g.1.length), (8, .bs false 2 (List.map enc_si p1)), (9, .v (.int .i64 (p1.length : Int))), (10, .v (.int .i64 g.2))], [(0, .arr 1 (List.map enc_s g.1))]⟩ : S)) g) (fun ex s => ex = .exit 0 ∧ s = (fun o : List (ByteArray) => (⟨[(5, .sl 0 0 o.length)], [(0, .arr 1 (List.map enc_s o))]⟩ : S)) out) := by
  refine AX.wkpost ?_
  refine AX.loop (G := Nat × (List (ByteArray) × Int)) (fun q => (fun g : List (ByteArray) × Int => (⟨[(1, .fn 66 []), (5, .sl 0 0 g.1.length), (8, .bs false 2 (List.map enc_si p1)), (9, .v (.int .i64 (p1.length : Int))), (10, .v (.int .i64 g.2))], [(0, .arr 1 (List.map enc_s g.1))]⟩ : S)) q.2) (fun q => m_impl_names_anyDef_L1 p1 q.1 q.2.1 q.2.2 = some out) (fun q => q.1) (n, g) h (Wk.refl _) ?_
  clear h
  rintro ⟨fu, v2, v3⟩ h
  cases fu with
  | zero => cases h
  | succ fu =>
    rw [m_impl_names_anyDef_L1] at h
    refine AX.seq ?_
    refine AX.reg (its := []) [1, 5, 8, 9, 10, 11] [0] (s1 := ⟨[(1, .fn 66 []), (5, .sl 0 0 v2.length), (8, .bs false 2 (List.map enc_si p1)), (9, .v (.int .i64 (p1.length : Int))), (10, .v (.int .i64 v3)), (11, .v (.bool (decide (v3 < (p1.length : Int)))))], [(0, .arr 1 (List.map enc_s v2))]⟩) (C := True) (by kernel_rfl) trivial trivial ?_
    refine AX.seq ?_
    rcases bool_cases (decide (v3 < (p1.length : Int))) with b1 | b1
    · replace h := cd_t b1 h
      refine AX.condT (decide (v3 < (p1.length : Int))) (by kernel_rfl) b1 ?_
      refine AX.skip ?_
      refine AX.seq ?_
      refine AX.block ?_
      refine AX.seq ?_
      obtain ⟨g2, h⟩ := gd_e h
      refine AX.reg (its := [.auto { y := some (.be 2 (enc_si (gt p1 v3)) 0) }, .auto {}, .auto { nk := 1 }]) [1, 5, 7, 8, 9, 10] [0, 1] (s1 := ⟨[(1, .fn 66 []), (5, .sl 0 0 v2.length), (7, .pt 1 0), (8, .bs false 2 (List.map enc_si p1)), (9, .v (.int .i64 (p1.length : Int))), (10, .v (.int .i64 v3))], [(0, .arr 1 (List.map enc_s v2)), (1, .box [.v (.string ((gt p1 v3).1)), .v (.int .i64 ((gt p1 v3).2))])]⟩) (C := ((0 ≤ v3 ∧ v3 < ((List.map enc_si p1).length : Int)) ∧ (AV.be 2 ((List.map enc_si p1).getD v3.toNat []) 0 = AV.be 2 (enc_si (gt p1 v3)) 0)) ∧ True) (by kernel_rfl) ⟨idx_bs enc_si p1 v3 2 g2, trivial⟩ trivial ?_
      refine AX.seq ?_
      obtain ⟨x4, e3, h⟩ := bd_e h
      refine AX.reg (its := [.auto {}, .auto {}, .call 66 [.agg [.v (.string ((gt p1 v3).1)), .v (.int .i64 ((gt p1 v3).2))]] (handO (rho ([] ++ [])) [] [] ++ []) (callEv [] [] (.v (.bool true)) [])]) [1, 5, 7, 8, 9, 10, 16] [0, 1] (s1 := ⟨[(1, .fn 66 []), (5, .sl 0 0 v2.length), (7, .pt 1 0), (8, .bs false 2 (List.map enc_si p1)), (9, .v (.int .i64 (p1.length : Int))), (10, .v (.int .i64 v3)), (16, .v (.bool true))], [(0, .arr 1 (List.map enc_s v2)), (1, .box [.v (.string ((gt p1 v3).1)), .v (.int .i64 ((gt p1 v3).2))])]⟩) (C := ((([.agg [.v (.string ((gt p1 v3).1)), .v (.int .i64 ((gt p1 v3).2))]] : List AV) = [.agg [.v (.string ((gt p1 v3).1)), .v (.int .i64 ((gt p1 v3).2))]]) ∧ True) ∧ True) (by kernel_rfl) ⟨⟨rfl, trivial⟩, trivial⟩ ⟨call_ok (ks := []) (ns := []) (bor := []) (bobjs := []) (s_impl_anyDef ((gt p1 v3).1) ((gt p1 v3).2) x4 e3) (.cons (.c1 (.agg (.cons (.same _ (by kernel_rfl) (by kernel_rfl)) (.cons (.same _ (by kernel_rfl) (by kernel_rfl)) (.nil))))) (.nil)) (by kernel_rfl) trivial, trivial⟩ ?_
      refine AX.cond_true (by kernel_rfl) ?_
      obtain ⟨g4, h⟩ := gd_e h
      refine AX.reg (its := [.auto {}, .auto {}, .auto {}, .auto { nk := 2 }, .auto { y := some (.sl 3 0 ((v2 ++ ([(gt p1 v3).1] : List (ByteArray))).length)), els := some (List.map enc_s v2), els2 := some (List.map enc_s ([(gt p1 v3).1] : List (ByteArray))), nk := 3 }]) [1, 5, 8, 9, 10] [3] (s1 := ⟨[(1, .fn 66 []), (5, .sl 3 0 ((v2 ++ ([(gt p1 v3).1] : List (ByteArray))).length)), (8, .bs false 2 (List.map enc_si p1)), (9, .v (.int .i64 (p1.length : Int))), (10, .v (.int .i64 v3))], [(3, .arr 1 (List.map enc_s v2 ++ List.map enc_s ([(gt p1 v3).1] : List (ByteArray))))]⟩) (C := ((((((List.map enc_s v2).drop 0).take (v2.length) = List.map enc_s v2) ∧ (((List.map enc_s ([(gt p1 v3).1] : List (ByteArray))).drop 0).take (([(gt p1 v3).1] : List (ByteArray)).length) = List.map enc_s ([(gt p1 v3).1] : List (ByteArray)))) ∧ (List.map enc_s v2).length + (List.map enc_s ([(gt p1 v3).1] : List (ByteArray))).length ≤ 1099511627776) ∧ (AV.sl 3 0 (List.map enc_s v2 ++ List.map enc_s ([(gt p1 v3).1] : List (ByteArray))).length = AV.sl 3 0 (v2 ++ ([(gt p1 v3).1] : List (ByteArray))).length)) ∧ True) (by kernel_rfl) ⟨⟨⟨⟨(dt_all (enc := enc_s) rfl rfl), (dt_all (enc := enc_s) rfl rfl)⟩, (by simp only [List.length_map, List.length_nil, List.length_replicate]; simpa using g4)⟩, sl_len (enc := enc_s) (app_can (enc := enc_s) rfl (rfl))⟩, trivial⟩ trivial ?_
      refine AX.reg (its := [.auto { raw := true }]) [1, 5, 8, 9, 10] [3] (s1 := ⟨[(1, .fn 66 []), (5, .sl 3 0 ((v2 ++ ([(gt p1 v3).1] : List (ByteArray))).length)), (8, .bs false 2 (List.map enc_si p1)), (9, .v (.int .i64 (p1.length : Int))), (10, .v (.int .i64 (IntKind.wrap .i64 (v3 + 1))))], [(3, .arr 1 (List.map enc_s v2 ++ List.map enc_s ([(gt p1 v3).1] : List (ByteArray))))]⟩) (C := True) (by kernel_rfl) trivial trivial ?_
      refine ⟨(fu, (v2 ++ ([(gt p1 v3).1] : List (ByteArray)), IntKind.wrap .i64 (v3 + 1))), h, Nat.lt_succ_self _, ?_⟩
      refine Wk.trans (Wk.swap 0 3 (Nat.le_of_ble_eq_true (by kernel_rfl)) (Nat.le_of_ble_eq_true (by kernel_rfl)) rfl) ?_
      refine Wk.trans (Wk.forget [1, 5, 8, 9, 10] [0] (s' := ⟨[(1, .fn 66 []), (5, .sl 0 0 ((v2 ++ ([(gt p1 v3).1] : List (ByteArray))).length)), (8, .bs false 2 (List.map enc_si p1)), (9, .v (.int .i64 (p1.length : Int))), (10, .v (.int .i64 (IntKind.wrap .i64 (v3 + 1))))], [(0, .arr 1 (List.map enc_s v2 ++ List.map enc_s ([(gt p1 v3).1] : List (ByteArray))))]⟩) (by kernel_rfl)) ?_
      refine Wk.trans (Wk.of_eq (congrArg (fun z => (⟨[(1, .fn 66 []), (5, .sl 0 0 ((v2 ++ ([(gt p1 v3).1] : List (ByteArray))).length)), (8, .bs false 2 (List.map enc_si p1)), (9, .v (.int .i64 (p1.length : Int))), (10, .v (.int .i64 (IntKind.wrap .i64 (v3 + 1))))], [(0, .arr 1 (z))]⟩ : S)) (app_can (enc := enc_s) rfl (rfl) : List.map enc_s v2 ++ List.map enc_s ([(gt p1 v3).1] : List (ByteArray)) = List.map enc_s (v2 ++ ([(gt p1 v3).1] : List (ByteArray)))))) ?_
      exact Wk.refl _
    · replace h := cd_f b1 h
      refine AX.condF (decide (v3 < (p1.length : Int))) (by kernel_rfl) b1 ?_
      refine AX.exit ?_
      refine fin_wk (Wk.forget [5] [0] (s' := ⟨[(5, .sl 0 0 v2.length)], [(0, .arr 1 (List.map enc_s v2))]⟩) (by kernel_rfl)) ?_
      have hr := Option.some.inj h
      subst hr
      exact ⟨_, Wk.refl _, ⟨rfl, rfl⟩⟩

theorem s_impl_names_anyDef (p1 : List (ByteArray × Int)) (r : List (ByteArray)) (h : m_impl_names_anyDef p1 = some r) :
    Eng.Spec Try.prog 65 [.bs false 2 (List.map enc_si p1), .fn 66 []] [] (.sl 0 0 r.length) [.arr 1 (List.map enc_s r)] := by
  unfold m_impl_names_anyDef at h
  refine Eng.Spec.body Try.func65 (by kernel_rfl) rfl (by kernel_rfl) ?_
  refine AX.wkpost ?_
  refine AX.seq ?_
  refine AX.reg (its := []) [0, 1] [] (s1 := ⟨[(0, .bs false 2 (List.map enc_si p1)), (1, .fn 66 [])], []⟩) (C := True) (by kernel_rfl) trivial trivial ?_
  refine AX.seq ?_
  refine AX.reg (its := []) [0, 1, 5] [] (s1 := ⟨[(0, .bs false 2 (List.map enc_si p1)), (1, .fn 66 []), (5, .v (.slice none 0 0))], []⟩) (C := True) (by kernel_rfl) trivial trivial ?_
  refine AX.seq ?_
  refine AX.seq ?_
  refine AX.reg (its := [.auto {}, .auto { y := some (.v (.int .i64 (p1.length : Int))) }]) [1, 5, 8, 9, 10] [] (s1 := ⟨[(1, .fn 66 []), (5, .v (.slice none 0 0)), (8, .bs false 2 (List.map enc_si p1)), (9, .v (.int .i64 (p1.length : Int))), (10, .v (.int .i64 0))], []⟩) (C := (True ∧ (AV.v (.int .i64 ((List.map enc_si p1).length : Int)) = AV.v (.int .i64 (p1.length : Int)))) ∧ True) (by kernel_rfl) ⟨⟨trivial, len_map enc_si p1⟩, trivial⟩ trivial ?_
  refine AX.block ?_
  obtain ⟨x5, e5, h⟩ := bd_e h
  refine AX.wk (Wk.mat 5 0 1 (by kernel_rfl) (Nat.le_of_ble_eq_true (by kernel_rfl)) (by kernel_rfl) rfl) ?_
  refine AX.wk (Wk.forget [1, 5, 8, 9, 10] [0] (s' := ⟨[(1, .fn 66 []), (5, .sl 0 0 (([] : List (ByteArray)).length)), (8, .bs false 2 (List.map enc_si p1)), (9, .v (.int .i64 (p1.length : Int))), (10, .v (.int .i64 0))], [(0, .arr 1 (List.map enc_s ([] : List (ByteArray))))]⟩) (by kernel_rfl)) ?_
  refine AX.mono (s_impl_names_anyDef_L1 p1 FU (([] : List (ByteArray)), 0) x5 e5) ?_
  rintro _ _ ⟨rfl, rfl⟩
  skip
  refine AX.seq ?_
  obtain ⟨x6, e6, h⟩ := bd_e h
  refine AX.reg (its := [.auto {}, .call 101 [.sl 0 0 x5.length] (handO (rho ([0] ++ [])) [0] [.arr 1 (List.map enc_s x5)] ++ []) (callEv [0] [] (.sl 0 0 x5.length) [.arr 1 (List.map enc_s x5)])]) [4] [0] (s1 := ⟨[(4, .sl 0 0 x5.length)], [(0, .arr 1 (List.map enc_s x5))]⟩) (C := ((([.sl 0 0 x5.length] : List AV) = [.sl 0 0 x5.length]) ∧ (AO.arr 1 (List.map enc_s x5) = AO.arr 1 (List.map enc_s x5)) ∧ True) ∧ True) (by kernel_rfl) ⟨⟨rfl, rfl, trivial⟩, trivial⟩ ⟨call_ok (ks := [0]) (ns := []) (bor := []) (bobjs := []) (s_slices_Clip_hs x5 x6 e6) (.cons (.c1 (.c0 (.same _ (by kernel_rfl) (by kernel_rfl)))) (.nil)) (by kernel_rfl) ⟨.inr rfl, trivial⟩, trivial⟩ ?_
  refine AX.ret ?_
  refine fin_wk (Wk.forget [4] [0] (s' := ⟨[(4, .sl 0 0 x5.length)], [(0, .arr 1 (List.map enc_s x5))]⟩) (by kernel_rfl)) ?_
  have hr := Option.some.inj h
  subst hr
  exact ⟨_, Wk.refl _, .inr rfl, ⟨[0], by kernel_rfl, ⟨rfl, trivial⟩, [.sl 0 0 x5.length], by kernel_rfl, by kernel_rfl⟩⟩

theorem s_impl_SinglesOf (p1 : List (ByteArray × Int)) (p2 : Int) (r : List (ByteArray)) (h : m_impl_SinglesOf p1 p2 = some r) :
    Eng.Spec Try.prog 23 [.agg [.bs false 2 (List.map enc_si p1), .v (.int .i64 p2)]] [] (.sl 0 0 r.length) [.arr 1 (List.map enc_s r)] := by
  unfold m_impl_SinglesOf at h
  refine Eng.Spec.body Try.func23 (by kernel_rfl) rfl (by kernel_rfl) ?_
  refine AX.wkpost ?_
  refine AX.seq ?_
  refine AX.reg (its := [.auto { nk := 0 }]) [1] [0] (s1 := ⟨[(1, .pt 0 0)], [(0, .box [.bs false 2 (List.map enc_si p1), .v (.int .i64 p2)])]⟩) (C := True) (by kernel_rfl) trivial trivial ?_
  refine AX.seq ?_
  refine AX.seq ?_
  obtain ⟨x3, e1, h⟩ := bd_e h
  refine AX.reg (its := [.auto {}, .call 54 [.agg [.bs false 2 (List.map enc_si p1), .v (.int .i64 p2)]] (handO (rho ([] ++ [])) [] [] ++ []) (callEv [] [] (.v (.bool x3)) [])]) [1, 5] [0] (s1 := ⟨[(1, .pt 0 0), (5, .v (.bool (!x3)))], [(0, .box [.bs false 2 (List.map enc_si p1), .v (.int .i64 p2)])]⟩) (C := ((([.agg [.bs false 2 (List.map enc_si p1), .v (.int .i64 p2)]] : List AV) = [.agg [.bs false 2 (List.map enc_si p1), .v (.int .i64 p2)]]) ∧ True) ∧ True) (by kernel_rfl) ⟨⟨rfl, trivial⟩, trivial⟩ ⟨call_ok (ks := []) (ns := []) (bor := []) (bobjs := []) (s_impl_ValidFlag p1 p2 x3 e1) (.cons (.c1 (.agg (.cons (.same _ (by kernel_rfl) (by kernel_rfl)) (.cons (.same _ (by kernel_rfl) (by kernel_rfl)) (.nil))))) (.nil)) (by kernel_rfl) trivial, trivial⟩ ?_
  rcases bool_cases ((!x3)) with b2 | b2
  · replace h := cd_t b2 h
    refine AX.condT ((!x3)) (by kernel_rfl) b2 ?_
    refine AX.seq ?_
    refine AX.reg (its := []) [2] [] (s1 := ⟨[(2, .v (.slice none 0 0))], []⟩) (C := True) (by kernel_rfl) trivial trivial ?_
    refine AX.ret ?_
    refine fin_wk (Wk.mat 2 0 1 (by kernel_rfl) (Nat.le_of_ble_eq_true (by kernel_rfl)) (by kernel_rfl) rfl) ?_
    refine fin_wk (Wk.forget [2] [0] (s' := ⟨[(2, .sl 0 0 (([] : List (ByteArray)).length))], [(0, .arr 1 (List.map enc_s ([] : List (ByteArray))))]⟩) (by kernel_rfl)) ?_
    have hr := Option.some.inj h
    subst hr
    exact ⟨_, Wk.refl _, .inr rfl, ⟨[0], by kernel_rfl, ⟨rfl, trivial⟩, [.sl 0 0 (([] : List (ByteArray)).length)], by kernel_rfl, by kernel_rfl⟩⟩
  · replace h := cd_f b2 h
    refine AX.condF ((!x3)) (by kernel_rfl) b2 ?_
    refine AX.skip ?_
    refine AX.seq ?_
    obtain ⟨x4, e3, h⟩ := bd_e h
    obtain ⟨x5, e4, h⟩ := bd_e h
    refine AX.reg (its := [.auto {}, .call 56 [.agg [.bs false 2 (List.map enc_si p1), .v (.int .i64 p2)]] (handO (rho ([] ++ [1])) [] [] ++ []) (callEv [] [1] (.sl 0 0 x4.length) [.arr 2 (List.map enc_si x4)]), .call 65 [.sl 1 0 x4.length, .fn 66 []] (handO (rho ([] ++ [2])) [] [] ++ [(1, .arr 2 (List.map enc_si x4))]) (callEv [] [2] (.sl 0 0 x5.length) [.arr 1 (List.map enc_s x5)])]) [2] [2] (s1 := ⟨[(2, .sl 2 0 x5.length)], [(2, .arr 1 (List.map enc_s x5))]⟩) (C := ((([.agg [.bs false 2 (List.map enc_si p1), .v (.int .i64 p2)]] : List AV) = [.agg [.bs false 2 (List.map enc_si p1), .v (.int .i64 p2)]]) ∧ True) ∧ ((([.sl 1 0 x4.length, .fn 66 []] : List AV) = [.sl 1 0 x4.length, .fn 66 []]) ∧ (AO.arr 2 (List.map enc_si x4) = AO.arr 2 (List.map enc_si x4)) ∧ True) ∧ True) (by kernel_rfl) ⟨⟨rfl, trivial⟩, ⟨⟨rfl, rfl, trivial⟩, trivial⟩⟩ ⟨call_ok (ks := []) (ns := [1]) (bor := []) (bobjs := []) (s_impl_Flag_singles p1 p2 x4 e3) (.cons (.c1 (.agg (.cons (.same _ (by kernel_rfl) (by kernel_rfl)) (.cons (.same _ (by kernel_rfl) (by kernel_rfl)) (.nil))))) (.nil)) (by kernel_rfl) trivial, ⟨call_ok (ks := []) (ns := [2]) (bor := [1]) (bobjs := [(1, .arr 2 (List.map enc_si x4))]) (s_impl_names_anyDef x4 x5 e4) (.cons (.c1 (.c0 (.arr rfl rfl ((rfl).trans (List.length_map ..).symm)))) (.cons (.fn (.nil)) (.nil))) (by kernel_rfl) trivial, trivial⟩⟩ ?_
    refine AX.ret ?_
    refine fin_wk (Wk.swap 0 2 (Nat.le_of_ble_eq_true (by kernel_rfl)) (Nat.le_of_ble_eq_true (by kernel_rfl)) rfl) ?_
    refine fin_wk (Wk.forget [2] [0] (s' := ⟨[(2, .sl 0 0 x5.length)], [(0, .arr 1 (List.map enc_s x5))]⟩) (by kernel_rfl)) ?_
    have hr := Option.some.inj h
    subst hr
    exact ⟨_, Wk.refl _, .inr rfl, ⟨[0], by kernel_rfl, ⟨rfl, trivial⟩, [.sl 0 0 x5.length], by kernel_rfl, by kernel_rfl⟩⟩

theorem s_laws_eqStringS_L1 (p1 : List (ByteArray)) (p2 : List (ByteArray)) (n : Nat) (g : Int) (out : Unit ⊕ Unit) (h : m_laws_eqStringS_L1 p1 p2 n g = some out) :
    AX Try.prog 26 0 (codeAt [1, 1, 0, 1, 1] (bodyOf Try.f24)) ((fun g : Int => (⟨[(0, .bs false 1 (List.map enc_s p1)), (1, .bs false 1 (List.map enc_s p2)), (5, .v (.int .i64 g))], []⟩ : S)) g) (fun ex s => (∃ o : Unit, out = Sum.inl o ∧ ex = .ret ∧ s = ⟨[(4, .v (.bool false))], []⟩) ∨ (∃ o : Unit, out = Sum.inr o ∧ ex = .exit 0 ∧ s = ⟨[], []⟩)) := by
  refine AX.wkpost ?_
  refine AX.loop (G := Nat × (Int)) (fun q => (fun g : Int => (⟨[(0, .bs false 1 (List.map enc_s p1)), (1, .bs false 1 (List.map enc_s p2)), (5, .v (.int .i64 g))], []⟩ : S)) q.2) (fun q => m_laws_eqStringS_L1 p1 p2 q.1 q.2 = some out) (fun q => q.1) (n, g) h (Wk.refl _) ?_
  clear h
  rintro ⟨fu, v3⟩ h
  cases fu with
  | zero => cases h
  | succ fu =>
    rw [m_laws_eqStringS_L1] at h
    refine AX.seq ?_
    refine AX.seq ?_
    refine AX.reg (its := [.auto {}, .auto {}, .auto { y := some (.v (.int .i64 (p1.length : Int))) }]) [0, 1, 5, 14] [] (s1 := ⟨[(0, .bs false 1 (List.map enc_s p1)), (1, .bs false 1 (List.map enc_s p2)), (5, .v (.int .i64 v3)), (14, .v (.bool (decide (v3 < (p1.length : Int)))))], []⟩) (C := (True ∧ (AV.v (.int .i64 ((List.map enc_s p1).length : Int)) = AV.v (.int .i64 (p1.length : Int)))) ∧ True) (by kernel_rfl) ⟨⟨trivial, len_map enc_s p1⟩, trivial⟩ trivial ?_
    rcases bool_cases (decide (v3 < (p1.length : Int))) with b2 | b2
    · replace h := cd_t b2 h
      refine AX.condT (decide (v3 < (p1.length : Int))) (by kernel_rfl) b2 ?_
      refine AX.skip ?_
      refine AX.seq ?_
      refine AX.block ?_
      refine AX.seq ?_
      obtain ⟨g3, h⟩ := gd_e h
      obtain ⟨g4, h⟩ := gd_e h
      refine AX.drw mixed (its := [.auto {}, .auto {}, .auto { y := some (.be 1 (enc_s (gt p1 v3)) 0) }, .auto {}, .auto {}, .auto {}, .auto { y := some (.be 1 (enc_s (gt p2 v3)) 0) }]) [0, 1, 5, 25] [] (s1 := ⟨[(0, .bs false 1 (List.map enc_s p1)), (1, .bs false 1 (List.map enc_s p2)), (5, .v (.int .i64 v3)), (25, .v (.bool (!decide ((gt p1 v3) = (gt p2 v3)))))], []⟩) (C := ((0 ≤ v3 ∧ v3 < ((List.map enc_s p1).length : Int)) ∧ (AV.be 1 ((List.map enc_s p1).getD v3.toNat []) 0 = AV.be 1 (enc_s (gt p1 v3)) 0)) ∧ ((0 ≤ v3 ∧ v3 < ((List.map enc_s p2).length : Int)) ∧ (AV.be 1 ((List.map enc_s p2).getD v3.toNat []) 0 = AV.be 1 (enc_s (gt p2 v3)) 0)) ∧ True) (by kernel_rfl) ⟨idx_bs enc_s p1 v3 1 g3, ⟨idx_bs enc_s p2 v3 1 g4, trivial⟩⟩ trivial ?_
      rcases bool_cases ((!decide ((gt p1 v3) = (gt p2 v3)))) with b5 | b5
      · replace h := cd_t b5 h
        refine AX.condT ((!decide ((gt p1 v3) = (gt p2 v3)))) (by kernel_rfl) b5 ?_
        refine AX.seq ?_
        refine AX.reg (its := []) [4] [] (s1 := ⟨[(4, .v (.bool false))], []⟩) (C := True) (by kernel_rfl) trivial trivial ?_
        refine AX.ret ?_
        refine fin_wk (Wk.forget [4] [] (s' := ⟨[(4, .v (.bool false))], []⟩) (by kernel_rfl)) ?_
        have hr := Option.some.inj h
        subst hr
        exact ⟨_, Wk.refl _, .inl ⟨(), rfl, rfl, rfl⟩⟩
      · replace h := cd_f b5 h
        refine AX.condF ((!decide ((gt p1 v3) = (gt p2 v3)))) (by kernel_rfl) b5 ?_
        refine AX.skip ?_
        refine AX.reg (its := [.auto {}, .auto { raw := true }]) [0, 1, 5] [] (s1 := ⟨[(0, .bs false 1 (List.map enc_s p1)), (1, .bs false 1 (List.map enc_s p2)), (5, .v (.int .i64 (IntKind.wrap .i64 (v3 + 1))))], []⟩) (C := True) (by kernel_rfl) trivial trivial ?_
        refine ⟨(fu, IntKind.wrap .i64 (v3 + 1)), h, Nat.lt_succ_self _, ?_⟩
        refine Wk.trans (Wk.forget [0, 1, 5] [] (s' := ⟨[(0, .bs false 1 (List.map enc_s p1)), (1, .bs false 1 (List.map enc_s p2)), (5, .v (.int .i64 (IntKind.wrap .i64 (v3 + 1))))], []⟩) (by kernel_rfl)) ?_
        exact Wk.refl _
    · replace h := cd_f b2 h
      refine AX.condF (decide (v3 < (p1.length : Int))) (by kernel_rfl) b2 ?_
      refine AX.exit ?_
      refine fin_wk (Wk.forget [] [] (s' := ⟨[], []⟩) (by kernel_rfl)) ?_
      have hr := Option.some.inj h
      subst hr
      exact ⟨_, Wk.refl _, .inr ⟨(), rfl, rfl, rfl⟩⟩

theorem s_laws_eqStringS (p1 : List (ByteArray)) (p2 : List (ByteArray)) (r : Bool) (h : m_laws_eqStringS p1 p2 = some r) :
    Eng.Spec Try.prog 24 [.bs false 1 (List.map enc_s p1), .bs false 1 (List.map enc_s p2)] [] (.v (.bool r)) [] := by
  unfold m_laws_eqStringS at h
  refine Eng.Spec.body Try.func24 (by kernel_rfl) rfl (by kernel_rfl) ?_
  refine AX.wkpost ?_
  refine AX.seq ?_
  refine AX.reg (its := []) [0, 1] [] (s1 := ⟨[(0, .bs false 1 (List.map enc_s p1)), (1, .bs false 1 (List.map enc_s p2))], []⟩) (C := True) (by kernel_rfl) trivial trivial ?_
  refine AX.seq ?_
  refine AX.seq ?_
  refine AX.reg (its := [.auto {}, .auto { y := some (.v (.int .i64 (p1.length : Int))) }, .auto {}, .auto { y := some (.v (.int .i64 (p2.length : Int))) }]) [0, 1, 10] [] (s1 := ⟨[(0, .bs false 1 (List.map enc_s p1)), (1, .bs false 1 (List.map enc_s p2)), (10, .v (.bool (!decide ((p1.length : Int) = (p2.length : Int)))))], []⟩) (C := (True ∧ (AV.v (.int .i64 ((List.map enc_s p1).length : Int)) = AV.v (.int .i64 (p1.length : Int)))) ∧ (True ∧ (AV.v (.int .i64 ((List.map enc_s p2).length : Int)) = AV.v (.int .i64 (p2.length : Int)))) ∧ True) (by kernel_rfl) ⟨⟨trivial, len_map enc_s p1⟩, ⟨⟨trivial, len_map enc_s p2⟩, trivial⟩⟩ trivial ?_
  rcases bool_cases ((!decide ((p1.length : Int) = (p2.length : Int)))) with b1 | b1
  · replace h := cd_t b1 h
    refine AX.condT ((!decide ((p1.length : Int) = (p2.length : Int)))) (by kernel_rfl) b1 ?_
    refine AX.seq ?_
    refine AX.reg (its := []) [4] [] (s1 := ⟨[(4, .v (.bool false))], []⟩) (C := True) (by kernel_rfl) trivial trivial ?_
    refine AX.ret ?_
    refine fin_wk (Wk.forget [4] [] (s' := ⟨[(4, .v (.bool false))], []⟩) (by kernel_rfl)) ?_
    have hr := Option.some.inj h
    subst hr
    exact ⟨_, Wk.refl _, .inr rfl, ⟨[], by kernel_rfl, trivial, [.v (.bool false)], by kernel_rfl, by kernel_rfl⟩⟩
  · replace h := cd_f b1 h
    refine AX.condF ((!decide ((p1.length : Int) = (p2.length : Int)))) (by kernel_rfl) b1 ?_
    refine AX.skip ?_
    refine AX.seq ?_
    refine AX.seq ?_
    refine AX.reg (its := []) [0, 1, 5] [] (s1 := ⟨[(0, .bs false 1 (List.map enc_s p1)), (1, .bs false 1 (List.map enc_s p2)), (5, .v (.int .i64 0))], []⟩) (C := True) (by kernel_rfl) trivial trivial ?_
    refine AX.block ?_
    obtain ⟨x4, e6, h⟩ := bd_e h
    refine AX.wk (Wk.forget [0, 1, 5] [] (s' := ⟨[(0, .bs false 1 (List.map enc_s p1)), (1, .bs false 1 (List.map enc_s p2)), (5, .v (.int .i64 0))], []⟩) (by kernel_rfl)) ?_
    refine AX.mono (s_laws_eqStringS_L1 p1 p2 FU 0 x4 e6) ?_
    rintro _ _ (⟨x5, rfl, rfl, rfl⟩ | ⟨x6, rfl, rfl, rfl⟩)
    · replace h := sm_l h
      refine fin_wk (Wk.forget [4] [] (s' := ⟨[(4, .v (.bool false))], []⟩) (by kernel_rfl)) ?_
      have hr := Option.some.inj h
      subst hr
      exact ⟨_, Wk.refl _, .inr rfl, ⟨[], by kernel_rfl, trivial, [.v (.bool false)], by kernel_rfl, by kernel_rfl⟩⟩
    · replace h := sm_r h
      refine AX.seq ?_
      refine AX.reg (its := []) [4] [] (s1 := ⟨[(4, .v (.bool true))], []⟩) (C := True) (by kernel_rfl) trivial trivial ?_
      refine AX.ret ?_
      refine fin_wk (Wk.forget [4] [] (s' := ⟨[(4, .v (.bool true))], []⟩) (by kernel_rfl)) ?_
      have hr := Option.some.inj h
      subst hr
      exact ⟨_, Wk.refl _, .inr rfl, ⟨[], by kernel_rfl, trivial, [.v (.bool true)], by kernel_rfl, by kernel_rfl⟩⟩

theorem s_laws_eqDef (p1 : ByteArray) (p2 : Int) (p3 : ByteArray) (p4 : Int) (r : Bool) (h : m_laws_eqDef p1 p2 p3 p4 = some r) :
    Eng.Spec Try.prog 97 [.agg [.v (.string p1), .v (.int .i64 p2)], .agg [.v (.string p3), .v (.int .i64 p4)]] [] (.v (.bool r)) [] := by
  unfold m_laws_eqDef at h
  refine Eng.Spec.body Try.func97 (by kernel_rfl) rfl (by kernel_rfl) ?_
  refine AX.wkpost ?_
  refine AX.seq ?_
  refine AX.reg (its := [.auto { nk := 0 }, .auto { nk := 1 }]) [2, 3] [0, 1] (s1 := ⟨[(2, .pt 0 0), (3, .pt 1 0)], [(0, .box [.v (.string p1), .v (.int .i64 p2)]), (1, .box [.v (.string p3), .v (.int .i64 p4)])]⟩) (C := True) (by kernel_rfl) trivial trivial ?_
  refine AX.seq ?_
  refine AX.seq ?_
  refine AX.reg (its := []) [2, 3, 9] [0, 1] (s1 := ⟨[(2, .pt 0 0), (3, .pt 1 0), (9, .v (.bool (!decide (p1 = p3))))], [(0, .box [.v (.string p1), .v (.int .i64 p2)]), (1, .box [.v (.string p3), .v (.int .i64 p4)])]⟩) (C := True) (by kernel_rfl) trivial trivial ?_
  rcases bool_cases ((!decide (p1 = p3))) with b1 | b1
  · replace h := cd_t b1 h
    refine AX.condT ((!decide (p1 = p3))) (by kernel_rfl) b1 ?_
    refine AX.seq ?_
    refine AX.reg (its := []) [4] [] (s1 := ⟨[(4, .v (.bool false))], []⟩) (C := True) (by kernel_rfl) trivial trivial ?_
    refine AX.ret ?_
    refine fin_wk (Wk.forget [4] [] (s' := ⟨[(4, .v (.bool false))], []⟩) (by kernel_rfl)) ?_
    have hr := Option.some.inj h
    subst hr
    exact ⟨_, Wk.refl _, .inr rfl, ⟨[], by kernel_rfl, trivial, [.v (.bool false)], by kernel_rfl, by kernel_rfl⟩⟩
  · replace h := cd_f b1 h
    refine AX.condF ((!decide (p1 = p3))) (by kernel_rfl) b1 ?_
    refine AX.skip ?_
    refine AX.seq ?_
    refine AX.seq ?_
    refine AX.reg (its := []) [14] [] (s1 := ⟨[(14, .v (.bool (!decide (p2 = p4))))], []⟩) (C := True) (by kernel_rfl) trivial trivial ?_
    rcases bool_cases ((!decide (p2 = p4))) with b2 | b2
    · replace h := cd_t b2 h
      refine AX.condT ((!decide (p2 = p4))) (by kernel_rfl) b2 ?_
      refine AX.seq ?_
      refine AX.reg (its := []) [4] [] (s1 := ⟨[(4, .v (.bool false))], []⟩) (C := True) (by kernel_rfl) trivial trivial ?_
      refine AX.ret ?_
      refine fin_wk (Wk.forget [4] [] (s' := ⟨[(4, .v (.bool false))], []⟩) (by kernel_rfl)) ?_
      have hr := Option.some.inj h
      subst hr
      exact ⟨_, Wk.refl _, .inr rfl, ⟨[], by kernel_rfl, trivial, [.v (.bool false)], by kernel_rfl, by kernel_rfl⟩⟩
    · replace h := cd_f b2 h
      refine AX.condF ((!decide (p2 = p4))) (by kernel_rfl) b2 ?_
      refine AX.skip ?_
      refine AX.seq ?_
      refine AX.reg (its := []) [4] [] (s1 := ⟨[(4, .v (.bool true))], []⟩) (C := True) (by kernel_rfl) trivial trivial ?_
      refine AX.ret ?_
      refine fin_wk (Wk.forget [4] [] (s' := ⟨[(4, .v (.bool true))], []⟩) (by kernel_rfl)) ?_
      have hr := Option.some.inj h
      subst hr
      exact ⟨_, Wk.refl _, .inr rfl, ⟨[], by kernel_rfl, trivial, [.v (.bool true)], by kernel_rfl, by kernel_rfl⟩⟩

theorem s_laws_eqDefS_L1 (p1 : List (ByteArray × Int)) (p2 : List (ByteArray × Int)) (n : Nat) (g : Int) (out : Unit ⊕ Unit) (h : m_laws_eqDefS_L1 p1 p2 n g = some out) :
    AX Try.prog 27 0 (codeAt [1, 1, 0, 1, 1] (bodyOf Try.f57)) ((fun g : Int => (⟨[(0, .bs false 2 (List.map enc_si p1)), (1, .bs false 2 (List.map enc_si p2)), (5, .v (.int .i64 g))], []⟩ : S)) g) (fun ex s => (∃ o : Unit, out = Sum.inl o ∧ ex = .ret ∧ s = ⟨[(4, .v (.bool false))], []⟩) ∨ (∃ o : Unit, out = Sum.inr o ∧ ex = .exit 0 ∧ s = ⟨[], []⟩)) := by
  refine AX.wkpost ?_
  refine AX.loop (G := Nat × (Int)) (fun q => (fun g : Int => (⟨[(0, .bs false 2 (List.map enc_si p1)), (1, .bs false 2 (List.map enc_si p2)), (5, .v (.int .i64 g))], []⟩ : S)) q.2) (fun q => m_laws_eqDefS_L1 p1 p2 q.1 q.2 = some out) (fun q => q.1) (n, g) h (Wk.refl _) ?_
  clear h
  rintro ⟨fu, v3⟩ h
  cases fu with
  | zero => cases h
  | succ fu =>
    rw [m_laws_eqDefS_L1] at h
    refine AX.seq ?_
    refine AX.seq ?_
    refine AX.reg (its := [.auto {}, .auto {}, .auto { y := some (.v (.int .i64 (p1.length : Int))) }]) [0, 1, 5, 14] [] (s1 := ⟨[(0, .bs false 2 (List.map enc_si p1)), (1, .bs false 2 (List.map enc_si p2)), (5, .v (.int .i64 v3)), (14, .v (.bool (decide (v3 < (p1.length : Int)))))], []⟩) (C := (True ∧ (AV.v (.int .i64 ((List.map enc_si p1).length : Int)) = AV.v (.int .i64 (p1.length : Int)))) ∧ True) (by kernel_rfl) ⟨⟨trivial, len_map enc_si p1⟩, trivial⟩ trivial ?_
    rcases bool_cases (decide (v3 < (p1.length : Int))) with b2 | b2
    · replace h := cd_t b2 h
      refine AX.condT (decide (v3 < (p1.length : Int))) (by kernel_rfl) b2 ?_
      refine AX.skip ?_
      refine AX.seq ?_
      refine AX.block ?_
      refine AX.seq ?_
      obtain ⟨g3, h⟩ := gd_e h
      obtain ⟨g4, h⟩ := gd_e h
      obtain ⟨x4, e5, h⟩ := bd_e h
      refine AX.drw mixed (its := [.auto {}, .auto {}, .auto { y := some (.be 2 (enc_si (gt p1 v3)) 0) }, .auto {}, .auto {}, .auto {}, .auto { y := some (.be 2 (enc_si (gt p2 v3)) 0) }, .auto {}, .call 97 [.agg [.v (.string ((gt p1 v3).1)), .v (.int .i64 ((gt p1 v3).2))], .agg [.v (.string ((gt p2 v3).1)), .v (.int .i64 ((gt p2 v3).2))]] (handO (rho ([] ++ [])) [] [] ++ []) (callEv [] [] (.v (.bool x4)) [])]) [0, 1, 5, 26] [] (s1 := ⟨[(0, .bs false 2 (List.map enc_si p1)), (1, .bs false 2 (List.map enc_si p2)), (5, .v (.int .i64 v3)), (26, .v (.bool (!x4)))], []⟩) (C := ((0 ≤ v3 ∧ v3 < ((List.map enc_si p1).length : Int)) ∧ (AV.be 2 ((List.map enc_si p1).getD v3.toNat []) 0 = AV.be 2 (enc_si (gt p1 v3)) 0)) ∧ ((0 ≤ v3 ∧ v3 < ((List.map enc_si p2).length : Int)) ∧ (AV.be 2 ((List.map enc_si p2).getD v3.toNat []) 0 = AV.be 2 (enc_si (gt p2 v3)) 0)) ∧ ((([.agg [.v (.string ((gt p1 v3).1)), .v (.int .i64 ((gt p1 v3).2))], .agg [.v (.string ((gt p2 v3).1)), .v (.int .i64 ((gt p2 v3).2))]] : List AV) = [.agg [.v (.string ((gt p1 v3).1)), .v (.int .i64 ((gt p1 v3).2))], .agg [.v (.string ((gt p2 v3).1)), .v (.int .i64 ((gt p2 v3).2))]]) ∧ True) ∧ True) (by kernel_rfl) ⟨idx_bs enc_si p1 v3 2 g3, ⟨idx_bs enc_si p2 v3 2 g4, ⟨⟨rfl, trivial⟩, trivial⟩⟩⟩ ⟨call_ok (ks := []) (ns := []) (bor := []) (bobjs := []) (s_laws_eqDef ((gt p1 v3).1) ((gt p1 v3).2) ((gt p2 v3).1) ((gt p2 v3).2) x4 e5) (.cons (.c1 (.agg (.cons (.same _ (by kernel_rfl) (by kernel_rfl)) (.cons (.same _ (by kernel_rfl) (by kernel_rfl)) (.nil))))) (.cons (.c1 (.agg (.cons (.same _ (by kernel_rfl) (by kernel_rfl)) (.cons (.same _ (by kernel_rfl) (by kernel_rfl)) (.nil))))) (.nil))) (by kernel_rfl) trivial, trivial⟩ ?_
      rcases bool_cases ((!x4)) with b6 | b6
      · replace h := cd_t b6 h
        refine AX.condT ((!x4)) (by kernel_rfl) b6 ?_
        refine AX.seq ?_
        refine AX.reg (its := []) [4] [] (s1 := ⟨[(4, .v (.bool false))], []⟩) (C := True) (by kernel_rfl) trivial trivial ?_
        refine AX.ret ?_
        refine fin_wk (Wk.forget [4] [] (s' := ⟨[(4, .v (.bool false))], []⟩) (by kernel_rfl)) ?_
        have hr := Option.some.inj h
        subst hr
        exact ⟨_, Wk.refl _, .inl ⟨(), rfl, rfl, rfl⟩⟩
      · replace h := cd_f b6 h
        refine AX.condF ((!x4)) (by kernel_rfl) b6 ?_
        refine AX.skip ?_
        refine AX.reg (its := [.auto {}, .auto { raw := true }]) [0, 1, 5] [] (s1 := ⟨[(0, .bs false 2 (List.map enc_si p1)), (1, .bs false 2 (List.map enc_si p2)), (5, .v (.int .i64 (IntKind.wrap .i64 (v3 + 1))))], []⟩) (C := True) (by kernel_rfl) trivial trivial ?_
        refine ⟨(fu, IntKind.wrap .i64 (v3 + 1)), h, Nat.lt_succ_self _, ?_⟩
        refine Wk.trans (Wk.forget [0, 1, 5] [] (s' := ⟨[(0, .bs false 2 (List.map enc_si p1)), (1, .bs false 2 (List.map enc_si p2)), (5, .v (.int .i64 (IntKind.wrap .i64 (v3 + 1))))], []⟩) (by kernel_rfl)) ?_
        exact Wk.refl _
    · replace h := cd_f b2 h
      refine AX.condF (decide (v3 < (p1.length : Int))) (by kernel_rfl) b2 ?_
      refine AX.exit ?_
      refine fin_wk (Wk.forget [] [] (s' := ⟨[], []⟩) (by kernel_rfl)) ?_
      have hr := Option.some.inj h
      subst hr
      exact ⟨_, Wk.refl _, .inr ⟨(), rfl, rfl, rfl⟩⟩

theorem s_laws_eqDefS (p1 : List (ByteArray × Int)) (p2 : List (ByteArray × Int)) (r : Bool) (h : m_laws_eqDefS p1 p2 = some r) :
    Eng.Spec Try.prog 57 [.bs false 2 (List.map enc_si p1), .bs false 2 (List.map enc_si p2)] [] (.v (.bool r)) [] := by
  unfold m_laws_eqDefS at h
  refine Eng.Spec.body Try.func57 (by kernel_rfl) rfl (by kernel_rfl) ?_
  refine AX.wkpost ?_
  refine AX.seq ?_
  refine AX.reg (its := []) [0, 1] [] (s1 := ⟨[(0, .bs false 2 (List.map enc_si p1)), (1, .bs false 2 (List.map enc_si p2))], []⟩) (C := True) (by kernel_rfl) trivial trivial ?_
  refine AX.seq ?_
  refine AX.seq ?_
  refine AX.reg (its := [.auto {}, .auto { y := some (.v (.int .i64 (p1.length : Int))) }, .auto {}, .auto { y := some (.v (.int .i64 (p2.length : Int))) }]) [0, 1, 10] [] (s1 := ⟨[(0, .bs false 2 (List.map enc_si p1)), (1, .bs false 2 (List.map enc_si p2)), (10, .v (.bool (!decide ((p1.length : Int) = (p2.length : Int)))))], []⟩) (C := (True ∧ (AV.v (.int .i64 ((List.map enc_si p1).length : Int)) = AV.v (.int .i64 (p1.length : Int)))) ∧ (True ∧ (AV.v (.int .i64 ((List.map enc_si p2).length : Int)) = AV.v (.int .i64 (p2.length : Int)))) ∧ True) (by kernel_rfl) ⟨⟨trivial, len_map enc_si p1⟩, ⟨⟨trivial, len_map enc_si p2⟩, trivial⟩⟩ trivial ?_
  rcases bool_cases ((!decide ((p1.length : Int) = (p2.length : Int)))) with b1 | b1
  · replace h := cd_t b1 h
    refine AX.condT ((!decide ((p1.length : Int) = (p2.length : Int)))) (by kernel_rfl) b1 ?_
    refine AX.seq ?_
    refine AX.reg (its := []) [4] [] (s1 := ⟨[(4, .v (.bool false))], []⟩) (C := True) (by kernel_rfl) trivial trivial ?_
    refine AX.ret ?_
    refine fin_wk (Wk.forget [4] [] (s' := ⟨[(4, .v (.bool false))], []⟩) (by kernel_rfl)) ?_
    have hr := Option.some.inj h
    subst hr
    exact ⟨_, Wk.refl _, .inr rfl, ⟨[], by kernel_rfl, trivial, [.v (.bool false)], by kernel_rfl, by kernel_rfl⟩⟩
  · replace h := cd_f b1 h
    refine AX.condF ((!decide ((p1.length : Int) = (p2.length : Int)))) (by kernel_rfl) b1 ?_
    refine AX.skip ?_
    refine AX.seq ?_
    refine AX.seq ?_
    refine AX.reg (its := []) [0, 1, 5] [] (s1 := ⟨[(0, .bs false 2 (List.map enc_si p1)), (1, .bs false 2 (List.map enc_si p2)), (5, .v (.int .i64 0))], []⟩) (C := True) (by kernel_rfl) trivial trivial ?_
    refine AX.block ?_
    obtain ⟨x5, e7, h⟩ := bd_e h
    refine AX.wk (Wk.forget [0, 1, 5] [] (s' := ⟨[(0, .bs false 2 (List.map enc_si p1)), (1, .bs false 2 (List.map enc_si p2)), (5, .v (.int .i64 0))], []⟩) (by kernel_rfl)) ?_
    refine AX.mono (s_laws_eqDefS_L1 p1 p2 FU 0 x5 e7) ?_
    rintro _ _ (⟨x6, rfl, rfl, rfl⟩ | ⟨x7, rfl, rfl, rfl⟩)
    · replace h := sm_l h
      refine fin_wk (Wk.forget [4] [] (s' := ⟨[(4, .v (.bool false))], []⟩) (by kernel_rfl)) ?_
      have hr := Option.some.inj h
      subst hr
      exact ⟨_, Wk.refl _, .inr rfl, ⟨[], by kernel_rfl, trivial, [.v (.bool false)], by kernel_rfl, by kernel_rfl⟩⟩
    · replace h := sm_r h
      refine AX.seq ?_
      refine AX.reg (its := []) [4] [] (s1 := ⟨[(4, .v (.bool true))], []⟩) (C := True) (by kernel_rfl) trivial trivial ?_
      refine AX.ret ?_
      refine fin_wk (Wk.forget [4] [] (s' := ⟨[(4, .v (.bool true))], []⟩) (by kernel_rfl)) ?_
      have hr := Option.some.inj h
      subst hr
      exact ⟨_, Wk.refl _, .inr rfl, ⟨[], by kernel_rfl, trivial, [.v (.bool true)], by kernel_rfl, by kernel_rfl⟩⟩

theorem s_laws_eqFlag (p1 : List (ByteArray × Int)) (p2 : Int) (p3 : List (ByteArray × Int)) (p4 : Int) (r : Bool) (h : m_laws_eqFlag p1 p2 p3 p4 = some r) :
    Eng.Spec Try.prog 19 [.agg [.bs false 2 (List.map enc_si p1), .v (.int .i64 p2)], .agg [.bs false 2 (List.map enc_si p3), .v (.int .i64 p4)]] [] (.v (.bool r)) [] := by
  unfold m_laws_eqFlag at h
  refine Eng.Spec.body Try.func19 (by kernel_rfl) rfl (by kernel_rfl) ?_
  refine AX.wkpost ?_
  refine AX.seq ?_
  refine AX.reg (its := [.auto { nk := 0 }, .auto { nk := 1 }]) [2, 3] [0, 1] (s1 := ⟨[(2, .pt 0 0), (3, .pt 1 0)], [(0, .box [.bs false 2 (List.map enc_si p1), .v (.int .i64 p2)]), (1, .box [.bs false 2 (List.map enc_si p3), .v (.int .i64 p4)])]⟩) (C := True) (by kernel_rfl) trivial trivial ?_
  refine AX.seq ?_
  refine AX.seq ?_
  obtain ⟨x5, e1, h⟩ := bd_e h
  refine AX.reg (its := [.auto {}, .auto {}, .auto {}, .auto {}, .call 57 [.bs false 2 (List.map enc_si p1), .bs false 2 (List.map enc_si p3)] (handO (rho ([] ++ [])) [] [] ++ []) (callEv [] [] (.v (.bool x5)) [])]) [2, 3, 10] [0, 1] (s1 := ⟨[(2, .pt 0 0), (3, .pt 1 0), (10, .v (.bool (!x5)))], [(0, .box [.bs false 2 (List.map enc_si p1), .v (.int .i64 p2)]), (1, .box [.bs false 2 (List.map enc_si p3), .v (.int .i64 p4)])]⟩) (C := ((([.bs false 2 (List.map enc_si p1), .bs false 2 (List.map enc_si p3)] : List AV) = [.bs false 2 (List.map enc_si p1), .bs false 2 (List.map enc_si p3)]) ∧ True) ∧ True) (by kernel_rfl) ⟨⟨rfl, trivial⟩, trivial⟩ ⟨call_ok (ks := []) (ns := []) (bor := []) (bobjs := []) (s_laws_eqDefS p1 p3 x5 e1) (.cons (.c1 (.c0 (.same _ (by kernel_rfl) (by kernel_rfl)))) (.cons (.c1 (.c0 (.same _ (by kernel_rfl) (by kernel_rfl)))) (.nil))) (by kernel_rfl) trivial, trivial⟩ ?_
  rcases bool_cases ((!x5)) with b2 | b2
  · replace h := cd_t b2 h
    refine AX.condT ((!x5)) (by kernel_rfl) b2 ?_
    refine AX.seq ?_
    refine AX.reg (its := []) [4] [] (s1 := ⟨[(4, .v (.bool false))], []⟩) (C := True) (by kernel_rfl) trivial trivial ?_
    refine AX.ret ?_
    refine fin_wk (Wk.forget [4] [] (s' := ⟨[(4, .v (.bool false))], []⟩) (by kernel_rfl)) ?_
    have hr := Option.some.inj h
    subst hr
    exact ⟨_, Wk.refl _, .inr rfl, ⟨[], by kernel_rfl, trivial, [.v (.bool false)], by kernel_rfl, by kernel_rfl⟩⟩
  · replace h := cd_f b2 h
    refine AX.condF ((!x5)) (by kernel_rfl) b2 ?_
    refine AX.skip ?_
    refine AX.seq ?_
    refine AX.seq ?_
    refine AX.reg (its := []) [15] [] (s1 := ⟨[(15, .v (.bool (!decide (p2 = p4))))], []⟩) (C := True) (by kernel_rfl) trivial trivial ?_
    rcases bool_cases ((!decide (p2 = p4))) with b3 | b3
    · replace h := cd_t b3 h
      refine AX.condT ((!decide (p2 = p4))) (by kernel_rfl) b3 ?_
      refine AX.seq ?_
      refine AX.reg (its := []) [4] [] (s1 := ⟨[(4, .v (.bool false))], []⟩) (C := True) (by kernel_rfl) trivial trivial ?_
      refine AX.ret ?_
      refine fin_wk (Wk.forget [4] [] (s' := ⟨[(4, .v (.bool false))], []⟩) (by kernel_rfl)) ?_
      have hr := Option.some.inj h
      subst hr
      exact ⟨_, Wk.refl _, .inr rfl, ⟨[], by kernel_rfl, trivial, [.v (.bool false)], by kernel_rfl, by kernel_rfl⟩⟩
    · replace h := cd_f b3 h
      refine AX.condF ((!decide (p2 = p4))) (by kernel_rfl) b3 ?_
      refine AX.skip ?_
      refine AX.seq ?_
      refine AX.reg (its := []) [4] [] (s1 := ⟨[(4, .v (.bool true))], []⟩) (C := True) (by kernel_rfl) trivial trivial ?_
      refine AX.ret ?_
      refine fin_wk (Wk.forget [4] [] (s' := ⟨[(4, .v (.bool true))], []⟩) (by kernel_rfl)) ?_
      have hr := Option.some.inj h
      subst hr
      exact ⟨_, Wk.refl _, .inr rfl, ⟨[], by kernel_rfl, trivial, [.v (.bool true)], by kernel_rfl, by kernel_rfl⟩⟩

theorem s_laws_markText_L1  (n : Nat) (g : Int × ByteArray) (out : ByteArray) (h : m_laws_markText_L1 n g.1 g.2 = some out) :
    AX Try.prog 20 0 (codeAt [1, 1, 1, 0, 1] (bodyOf Try.f68)) ((fun g : Int × ByteArray => (⟨[(0, .v (.int .i64 g.1)), (3, .v (.string g.2))], []⟩ : S)) g) (fun ex s => ex = .exit 0 ∧ s = (fun o : ByteArray => (⟨[(3, .v (.string o))], []⟩ : S)) out) := by
  refine AX.wkpost ?_
  refine AX.loop (G := Nat × (Int × ByteArray)) (fun q => (fun g : Int × ByteArray => (⟨[(0, .v (.int .i64 g.1)), (3, .v (.string g.2))], []⟩ : S)) q.2) (fun q => m_laws_markText_L1 q.1 q.2.1 q.2.2 = some out) (fun q => q.1) (n, g) h (Wk.refl _) ?_
  clear h
  rintro ⟨fu, v2, v3⟩ h
  cases fu with
  | zero => cases h
  | succ fu =>
    rw [m_laws_markText_L1] at h
    refine AX.seq ?_
    refine AX.seq ?_
    refine AX.reg (its := []) [0, 3, 7] [] (s1 := ⟨[(0, .v (.int .i64 v2)), (3, .v (.string v3)), (7, .v (.bool (decide (0 < v2))))], []⟩) (C := True) (by kernel_rfl) trivial trivial ?_
    rcases bool_cases (decide (0 < v2)) with b2 | b2
    · replace h := cd_t b2 h
      refine AX.condT (decide (0 < v2)) (by kernel_rfl) b2 ?_
      refine AX.skip ?_
      refine AX.block ?_
      refine AX.seq ?_
      obtain ⟨g3, h⟩ := gd_e h
      obtain ⟨v4, q4, h⟩ := nm_e h
      obtain ⟨g5, h⟩ := gd_e h
      refine AX.reg (its := [.auto {}, .auto {}, .auto { raw := true }, .auto { raw := true }, .auto { nk := 0 }, .auto { y := some (.v (.string v4)) }]) [0, 3] [] (s1 := ⟨[(0, .v (.int .i64 v2)), (3, .v (.string (v4 ++ v3)))], []⟩) (C := ((10 : Int) ≠ 0) ∧ ((True) ∧ ((.v (.string (bstr ([IntKind.wrap .u8 (IntKind.wrap .i64 (48 + (Int.tmod v2 10)))] : List (Int)))) : AV) = (.v (.string v4) : AV))) ∧ (v4.size + v3.size ≤ 9223372036854775807) ∧ True) (by kernel_rfl) ⟨g3, ⟨⟨trivial, (congrArg (fun z => AV.v (.string z)) q4)⟩, ⟨g5, trivial⟩⟩⟩ trivial ?_
      obtain ⟨g6, h⟩ := gd_e h
      refine AX.reg (its := []) [0, 3] [] (s1 := ⟨[(0, .v (.int .i64 (Int.tdiv v2 10))), (3, .v (.string (v4 ++ v3)))], []⟩) (C := ((10 : Int) ≠ 0 ∧ IntKind.wrap .i64 (Int.tdiv v2 10) = Int.tdiv v2 10) ∧ True) (by kernel_rfl) ⟨g6, trivial⟩ trivial ?_
      refine ⟨(fu, (Int.tdiv v2 10, v4 ++ v3)), h, Nat.lt_succ_self _, ?_⟩
      refine Wk.trans (Wk.forget [0, 3] [] (s' := ⟨[(0, .v (.int .i64 (Int.tdiv v2 10))), (3, .v (.string (v4 ++ v3)))], []⟩) (by kernel_rfl)) ?_
      exact Wk.refl _
    · replace h := cd_f b2 h
      refine AX.condF (decide (0 < v2)) (by kernel_rfl) b2 ?_
      refine AX.exit ?_
      refine fin_wk (Wk.forget [3] [] (s' := ⟨[(3, .v (.string v3))], []⟩) (by kernel_rfl)) ?_
      have hr := Option.some.inj h
      subst hr
      exact ⟨_, Wk.refl _, ⟨rfl, rfl⟩⟩

theorem s_laws_markText (p1 : Int) (r : ByteArray) (h : m_laws_markText p1 = some r) :
    Eng.Spec Try.prog 68 [.v (.int .i64 p1)] [] (.v (.string r)) [] := by
  unfold m_laws_markText at h
  refine Eng.Spec.body Try.func68 (by kernel_rfl) rfl (by kernel_rfl) ?_
  refine AX.wkpost ?_
  refine AX.seq ?_
  refine AX.reg (its := []) [0] [] (s1 := ⟨[(0, .v (.int .i64 p1))], []⟩) (C := True) (by kernel_rfl) trivial trivial ?_
  refine AX.seq ?_
  refine AX.seq ?_
  refine AX.reg (its := []) [0, 5] [] (s1 := ⟨[(0, .v (.int .i64 p1)), (5, .v (.bool (decide (p1 ≤ 0))))], []⟩) (C := True) (by kernel_rfl) trivial trivial ?_
  rcases bool_cases (decide (p1 ≤ 0)) with b1 | b1
  · replace h := cd_t b1 h
    refine AX.condT (decide (p1 ≤ 0)) (by kernel_rfl) b1 ?_
    refine AX.seq ?_
    refine AX.reg (its := []) [2] [] (s1 := ⟨[(2, .v (.string (ByteArray.mk #[109, 48])))], []⟩) (C := True) (by kernel_rfl) trivial trivial ?_
    refine AX.ret ?_
    refine fin_wk (Wk.forget [2] [] (s' := ⟨[(2, .v (.string (ByteArray.mk #[109, 48])))], []⟩) (by kernel_rfl)) ?_
    have hr := Option.some.inj h
    subst hr
    exact ⟨_, Wk.refl _, .inr rfl, ⟨[], by kernel_rfl, trivial, [.v (.string (ByteArray.mk #[109, 48]))], by kernel_rfl, by kernel_rfl⟩⟩
  · replace h := cd_f b1 h
    refine AX.condF (decide (p1 ≤ 0)) (by kernel_rfl) b1 ?_
    refine AX.skip ?_
    refine AX.seq ?_
    refine AX.reg (its := []) [0, 3] [] (s1 := ⟨[(0, .v (.int .i64 p1)), (3, .v (.string ByteArray.empty))], []⟩) (C := True) (by kernel_rfl) trivial trivial ?_
    refine AX.seq ?_
    refine AX.block ?_
    obtain ⟨x5, e7, h⟩ := bd_e h
    refine AX.wk (Wk.forget [0, 3] [] (s' := ⟨[(0, .v (.int .i64 p1)), (3, .v (.string ByteArray.empty))], []⟩) (by kernel_rfl)) ?_
    refine AX.mono (s_laws_markText_L1  FU (p1, ByteArray.empty) x5 e7) ?_
    rintro _ _ ⟨rfl, rfl⟩
    skip
    refine AX.seq ?_
    obtain ⟨g8, h⟩ := gd_e h
    refine AX.reg (its := []) [2] [] (s1 := ⟨[(2, .v (.string ((ByteArray.mk #[109]) ++ x5)))], []⟩) (C := ((ByteArray.mk #[109]).size + x5.size ≤ 9223372036854775807) ∧ True) (by kernel_rfl) ⟨g8, trivial⟩ trivial ?_
    refine AX.ret ?_
    refine fin_wk (Wk.forget [2] [] (s' := ⟨[(2, .v (.string ((ByteArray.mk #[109]) ++ x5)))], []⟩) (by kernel_rfl)) ?_
    have hr := Option.some.inj h
    subst hr
    exact ⟨_, Wk.refl _, .inr rfl, ⟨[], by kernel_rfl, trivial, [.v (.string ((ByteArray.mk #[109]) ++ x5))], by kernel_rfl, by kernel_rfl⟩⟩

theorem s_laws_markDefS_h_L1  (n : Nat) (g : Int × Int × (List (ByteArray × Int))) (out : Int × (List (ByteArray × Int))) (h : m_laws_markDefS_h_L1 n g.1 g.2.1 g.2.2 = some out) :
    AX Try.prog 28 1 (codeAt [1, 0, 1, 1] (bodyOf Try.f67)) ((fun g : Int × Int × (List (ByteArray × Int)) => (⟨[(0, .sl 0 0 g.2.2.length), (1, .v (.int .i64 g.1)), (5, .v (.int .i64 g.2.1))], [(0, .arr 2 (List.map enc_si g.2.2))]⟩ : S)) g) (fun ex s => ex = .exit 0 ∧ s = (fun o : Int × (List (ByteArray × Int)) => (⟨[(1, .v (.int .i64 o.1))], [(0, .arr 2 (List.map enc_si o.2))]⟩ : S)) out) := by
  refine AX.wkpost ?_
  refine AX.loop (G := Nat × (Int × Int × (List (ByteArray × Int)))) (fun q => (fun g : Int × Int × (List (ByteArray × Int)) => (⟨[(0, .sl 0 0 g.2.2.length), (1, .v (.int .i64 g.1)), (5, .v (.int .i64 g.2.1))], [(0, .arr 2 (List.map enc_si g.2.2))]⟩ : S)) q.2) (fun q => m_laws_markDefS_h_L1 q.1 q.2.1 q.2.2.1 q.2.2.2 = some out) (fun q => q.1) (n, g) h (Wk.refl _) ?_
  clear h
  rintro ⟨fu, v3, v4, v5⟩ h
  cases fu with
  | zero => cases h
  | succ fu =>
    rw [m_laws_markDefS_h_L1] at h
    refine AX.seq ?_
    refine AX.seq ?_
    refine AX.reg (its := []) [0, 1, 5, 9] [0] (s1 := ⟨[(0, .sl 0 0 v5.length), (1, .v (.int .i64 v3)), (5, .v (.int .i64 v4)), (9, .v (.bool (decide (v4 < (v5.length : Int)))))], [(0, .arr 2 (List.map enc_si v5))]⟩) (C := True) (by kernel_rfl) trivial trivial ?_
    rcases bool_cases (decide (v4 < (v5.length : Int))) with b1 | b1
    · replace h := cd_t b1 h
      refine AX.condT (decide (v4 < (v5.length : Int))) (by kernel_rfl) b1 ?_
      refine AX.skip ?_
      refine AX.seq ?_
      refine AX.block ?_
      refine AX.seq ?_
      obtain ⟨x6, e2, h⟩ := bd_e h
      obtain ⟨g3, h⟩ := gd_e h
      refine AX.reg (its := [.auto {}, .auto {}, .auto {}, .call 68 [.v (.int .i64 v3)] (handO (rho ([] ++ [])) [] [] ++ []) (callEv [] [] (.v (.string x6)) []), .auto {}, .auto {}, .auto { els := some ([enc_si (x6, (gt v5 v4).2)]) }]) [0, 1, 5] [0] (s1 := ⟨[(0, .sl 0 0 v5.length), (1, .v (.int .i64 v3)), (5, .v (.int .i64 v4))], [(0, .arr 2 ((List.map enc_si v5).set (0 + v4.toNat) (enc_si (x6, (gt v5 v4).2))))]⟩) (C := ((([.v (.int .i64 v3)] : List AV) = [.v (.int .i64 v3)]) ∧ True) ∧ (0 ≤ v4 ∧ v4 < (v5.length : Int)) ∧ ((((List.map enc_si v5).getD (0 + v4.toNat) []).take 0 ++ [(.string x6)] ++ ((List.map enc_si v5).getD (0 + v4.toNat) []).drop 1 = enc_si (x6, (gt v5 v4).2))) ∧ True) (by kernel_rfl) ⟨⟨rfl, trivial⟩, ⟨g3, ⟨(congrArg (fun z : List Value => z.take 0 ++ [(.string x6)] ++ z.drop 1) (idx_arr (enc := enc_si) rfl g3)), trivial⟩⟩⟩ ⟨call_ok (ks := []) (ns := []) (bor := []) (bobjs := []) (s_laws_markText v3 x6 e2) (.cons (.c1 (.c0 (.same _ (by kernel_rfl) (by kernel_rfl)))) (.nil)) (by kernel_rfl) trivial, trivial⟩ ?_
      refine AX.seq ?_
      refine AX.reg (its := [.auto {}, .auto { raw := true }]) [0, 1, 5] [0] (s1 := ⟨[(0, .sl 0 0 v5.length), (1, .v (.int .i64 (IntKind.wrap .i64 (v3 + 1)))), (5, .v (.int .i64 v4))], [(0, .arr 2 ((List.map enc_si v5).set (0 + v4.toNat) (enc_si (x6, (gt v5 v4).2))))]⟩) (C := True) (by kernel_rfl) trivial trivial ?_
      refine AX.seq ?_
      refine AX.reg (its := [.auto {}, .auto {}, .auto {}, .auto {}, .auto {}, .auto { els := some ([enc_si ((gt (v5.set (0 + v4.toNat) (x6, (gt v5 v4).2)) v4).1, IntKind.wrap .i64 (v3 + 1))]) }]) [0, 1, 5] [0] (s1 := ⟨[(0, .sl 0 0 v5.length), (1, .v (.int .i64 (IntKind.wrap .i64 (v3 + 1)))), (5, .v (.int .i64 v4))], [(0, .arr 2 (((List.map enc_si v5).set (0 + v4.toNat) (enc_si (x6, (gt v5 v4).2))).set (0 + v4.toNat) (enc_si ((gt (v5.set (0 + v4.toNat) (x6, (gt v5 v4).2)) v4).1, IntKind.wrap .i64 (v3 + 1)))))]⟩) (C := (0 ≤ v4 ∧ v4 < (v5.length : Int)) ∧ (((((List.map enc_si v5).set (0 + v4.toNat) (enc_si (x6, (gt v5 v4).2))).getD (0 + v4.toNat) []).take 1 ++ [(.int .i64 (IntKind.wrap .i64 (v3 + 1)))] ++ (((List.map enc_si v5).set (0 + v4.toNat) (enc_si (x6, (gt v5 v4).2))).getD (0 + v4.toNat) []).drop 2 = enc_si ((gt (v5.set (0 + v4.toNat) (x6, (gt v5 v4).2)) v4).1, IntKind.wrap .i64 (v3 + 1)))) ∧ True) (by kernel_rfl) ⟨g3, ⟨(congrArg (fun z : List Value => z.take 1 ++ [(.int .i64 (IntKind.wrap .i64 (v3 + 1)))] ++ z.drop 2) (idx_arr (enc := enc_si) (set_can (enc := enc_si) rfl (0 + v4.toNat) (x6, (gt v5 v4).2)) (idx_len (set_len ((rfl : v5.length = v5.length)) (0 + v4.toNat) (x6, (gt v5 v4).2)) g3))), trivial⟩⟩ trivial ?_
      refine AX.reg (its := [.auto {}, .auto { raw := true }]) [0, 1, 5] [0] (s1 := ⟨[(0, .sl 0 0 v5.length), (1, .v (.int .i64 (IntKind.wrap .i64 ((IntKind.wrap .i64 (v3 + 1)) + 1)))), (5, .v (.int .i64 v4))], [(0, .arr 2 (((List.map enc_si v5).set (0 + v4.toNat) (enc_si (x6, (gt v5 v4).2))).set (0 + v4.toNat) (enc_si ((gt (v5.set (0 + v4.toNat) (x6, (gt v5 v4).2)) v4).1, IntKind.wrap .i64 (v3 + 1)))))]⟩) (C := True) (by kernel_rfl) trivial trivial ?_
      refine AX.reg (its := [.auto {}, .auto { raw := true }]) [0, 1, 5] [0] (s1 := ⟨[(0, .sl 0 0 v5.length), (1, .v (.int .i64 (IntKind.wrap .i64 ((IntKind.wrap .i64 (v3 + 1)) + 1)))), (5, .v (.int .i64 (IntKind.wrap .i64 (v4 + 1))))], [(0, .arr 2 (((List.map enc_si v5).set (0 + v4.toNat) (enc_si (x6, (gt v5 v4).2))).set (0 + v4.toNat) (enc_si ((gt (v5.set (0 + v4.toNat) (x6, (gt v5 v4).2)) v4).1, IntKind.wrap .i64 (v3 + 1)))))]⟩) (C := True) (by kernel_rfl) trivial trivial ?_
      refine ⟨(fu, (IntKind.wrap .i64 ((IntKind.wrap .i64 (v3 + 1)) + 1), IntKind.wrap .i64 (v4 + 1), (v5.set (0 + v4.toNat) (x6, (gt v5 v4).2)).set (0 + v4.toNat) ((gt (v5.set (0 + v4.toNat) (x6, (gt v5 v4).2)) v4).1, IntKind.wrap .i64 (v3 + 1)))), h, Nat.lt_succ_self _, ?_⟩
      refine Wk.trans (Wk.forget [0, 1, 5] [0] (s' := ⟨[(0, .sl 0 0 v5.length), (1, .v (.int .i64 (IntKind.wrap .i64 ((IntKind.wrap .i64 (v3 + 1)) + 1)))), (5, .v (.int .i64 (IntKind.wrap .i64 (v4 + 1))))], [(0, .arr 2 (((List.map enc_si v5).set (0 + v4.toNat) (enc_si (x6, (gt v5 v4).2))).set (0 + v4.toNat) (enc_si ((gt (v5.set (0 + v4.toNat) (x6, (gt v5 v4).2)) v4).1, IntKind.wrap .i64 (v3 + 1)))))]⟩) (by kernel_rfl)) ?_
      refine Wk.trans (Wk.of_eq (congrArg (fun z => (⟨[(0, .sl 0 0 v5.length), (1, .v (.int .i64 (IntKind.wrap .i64 ((IntKind.wrap .i64 (v3 + 1)) + 1)))), (5, .v (.int .i64 (IntKind.wrap .i64 (v4 + 1))))], [(0, .arr 2 (z))]⟩ : S)) (set_can (enc := enc_si) (set_can (enc := enc_si) rfl (0 + v4.toNat) (x6, (gt v5 v4).2)) (0 + v4.toNat) ((gt (v5.set (0 + v4.toNat) (x6, (gt v5 v4).2)) v4).1, IntKind.wrap .i64 (v3 + 1))))) ?_
      refine Wk.trans (Wk.of_eq (congrArg (fun z => (⟨[(0, .sl 0 0 z), (1, .v (.int .i64 (IntKind.wrap .i64 ((IntKind.wrap .i64 (v3 + 1)) + 1)))), (5, .v (.int .i64 (IntKind.wrap .i64 (v4 + 1))))], [(0, .arr 2 (List.map enc_si ((v5.set (0 + v4.toNat) (x6, (gt v5 v4).2)).set (0 + v4.toNat) ((gt (v5.set (0 + v4.toNat) (x6, (gt v5 v4).2)) v4).1, IntKind.wrap .i64 (v3 + 1)))))]⟩ : S)) (set_len ((set_len ((rfl : v5.length = v5.length)) (0 + v4.toNat) (x6, (gt v5 v4).2) : v5.length = (v5.set (0 + v4.toNat) (x6, (gt v5 v4).2)).length)) (0 + v4.toNat) ((gt (v5.set (0 + v4.toNat) (x6, (gt v5 v4).2)) v4).1, IntKind.wrap .i64 (v3 + 1))))) ?_
      exact Wk.refl _
    · replace h := cd_f b1 h
      refine AX.condF (decide (v4 < (v5.length : Int))) (by kernel_rfl) b1 ?_
      refine AX.exit ?_
      refine fin_wk (Wk.forget [1] [0] (s' := ⟨[(1, .v (.int .i64 v3))], [(0, .arr 2 (List.map enc_si v5))]⟩) (by kernel_rfl)) ?_
      have hr := Option.some.inj h
      subst hr
      exact ⟨_, Wk.refl _, ⟨rfl, rfl⟩⟩

theorem s_laws_markDefS_h (p1 : Int) (p2 : List (ByteArray × Int)) (r : Int × (List (ByteArray × Int))) (h : m_laws_markDefS_h p1 p2 = some r) :
    Eng.Spec Try.prog 67 [.sl 0 0 p2.length, .v (.int .i64 p1)] [.arr 2 (List.map enc_si p2)] (.v (.int .i64 r.1)) [.arr 2 (List.map enc_si r.2)] := by
  unfold m_laws_markDefS_h at h
  refine Eng.Spec.body Try.func67 (by kernel_rfl) rfl (by kernel_rfl) ?_
  refine AX.wkpost ?_
  refine AX.seq ?_
  refine AX.reg (its := []) [0, 1] [0] (s1 := ⟨[(0, .sl 0 0 p2.length), (1, .v (.int .i64 p1))], [(0, .arr 2 (List.map enc_si p2))]⟩) (C := True) (by kernel_rfl) trivial trivial ?_
  refine AX.seq ?_
  refine AX.seq ?_
  refine AX.reg (its := []) [0, 1, 5] [0] (s1 := ⟨[(0, .sl 0 0 p2.length), (1, .v (.int .i64 p1)), (5, .v (.int .i64 0))], [(0, .arr 2 (List.map enc_si p2))]⟩) (C := True) (by kernel_rfl) trivial trivial ?_
  refine AX.block ?_
  obtain ⟨x7, e4, h⟩ := bd_e h
  refine AX.wk (Wk.forget [0, 1, 5] [0] (s' := ⟨[(0, .sl 0 0 p2.length), (1, .v (.int .i64 p1)), (5, .v (.int .i64 0))], [(0, .arr 2 (List.map enc_si p2))]⟩) (by kernel_rfl)) ?_
  refine AX.mono (s_laws_markDefS_h_L1  FU (p1, 0, p2) x7 e4) ?_
  rintro _ _ ⟨rfl, rfl⟩
  skip
  refine AX.seq ?_
  refine AX.reg (its := []) [4] [0] (s1 := ⟨[(4, .v (.int .i64 x7.1))], [(0, .arr 2 (List.map enc_si x7.2))]⟩) (C := True) (by kernel_rfl) trivial trivial ?_
  refine AX.ret ?_
  refine fin_wk (Wk.forget [4] [0] (s' := ⟨[(4, .v (.int .i64 x7.1))], [(0, .arr 2 (List.map enc_si x7.2))]⟩) (by kernel_rfl)) ?_
  have hr := Option.some.inj h
  subst hr
  exact ⟨_, Wk.refl _, .inr rfl, ⟨[], by kernel_rfl, ⟨rfl, trivial⟩, [.v (.int .i64 x7.1)], by kernel_rfl, by kernel_rfl⟩⟩

theorem s_laws_markFlag_h (p1 : Int) (p2 : Int) (p3 : List (ByteArray × Int)) (r : Int × (List (ByteArray × Int))) (h : m_laws_markFlag_h p1 p2 p3 = some r) :
    Eng.Spec Try.prog 25 [.agg [.sl 0 0 p3.length, .v (.int .i64 p1)], .v (.int .i64 p2)] [.arr 2 (List.map enc_si p3)] (.v (.int .i64 r.1)) [.arr 2 (List.map enc_si r.2)] := by
  unfold m_laws_markFlag_h at h
  refine Eng.Spec.body Try.func25 (by kernel_rfl) rfl (by kernel_rfl) ?_
  refine AX.wkpost ?_
  refine AX.seq ?_
  refine AX.reg (its := [.auto { nk := 1 }]) [1, 2] [0, 1] (s1 := ⟨[(1, .v (.int .i64 p2)), (2, .pt 1 0)], [(0, .arr 2 (List.map enc_si p3)), (1, .box [.sl 0 0 p3.length, .v (.int .i64 p1)])]⟩) (C := True) (by kernel_rfl) trivial trivial ?_
  refine AX.seq ?_
  obtain ⟨x4, e1, h⟩ := bd_e h
  obtain ⟨g2, h⟩ := gd_e h
  refine AX.reg (its := [.auto {}, .auto {}, .auto {}, .call 67 [.sl 0 0 p3.length, .v (.int .i64 p2)] (handO (rho ([0] ++ [])) [0] [.arr 2 (List.map enc_si p3)] ++ []) (callEv [0] [] (.v (.int .i64 x4.1)) [.arr 2 (List.map enc_si x4.2)])]) [1] [0] (s1 := ⟨[(1, .v (.int .i64 x4.1))], [(0, .arr 2 (List.map enc_si x4.2))]⟩) (C := ((([.sl 0 0 p3.length, .v (.int .i64 p2)] : List AV) = [.sl 0 0 p3.length, .v (.int .i64 p2)]) ∧ (AO.arr 2 (List.map enc_si p3) = AO.arr 2 (List.map enc_si p3)) ∧ True) ∧ True) (by kernel_rfl) ⟨⟨rfl, rfl, trivial⟩, trivial⟩ ⟨call_ok (ks := [0]) (ns := []) (bor := []) (bobjs := []) (s_laws_markDefS_h p2 p3 x4 e1) (.cons (.c1 (.c0 (.same _ (by kernel_rfl) (by kernel_rfl)))) (.cons (.c1 (.c0 (.same _ (by kernel_rfl) (by kernel_rfl)))) (.nil))) (by kernel_rfl) ⟨.inr (arr_sh (enc := enc_si) g2), trivial⟩, trivial⟩ ?_
  refine AX.seq ?_
  refine AX.reg (its := []) [4] [0] (s1 := ⟨[(4, .v (.int .i64 x4.1))], [(0, .arr 2 (List.map enc_si x4.2))]⟩) (C := True) (by kernel_rfl) trivial trivial ?_
  refine AX.ret ?_
  refine fin_wk (Wk.forget [4] [0] (s' := ⟨[(4, .v (.int .i64 x4.1))], [(0, .arr 2 (List.map enc_si x4.2))]⟩) (by kernel_rfl)) ?_
  refine fin_wk (Wk.of_eq (congrArg (fun z => (⟨[(4, .v (.int .i64 x4.1))], [(0, .arr 2 (List.map enc_si x4.2))]⟩ : S)) (((rfl : p3.length = p3.length)).trans (g2).symm))) ?_
  have hr := Option.some.inj h
  subst hr
  exact ⟨_, Wk.refl _, .inr rfl, ⟨[], by kernel_rfl, ⟨rfl, trivial⟩, [.v (.int .i64 x4.1)], by kernel_rfl, by kernel_rfl⟩⟩

theorem s_laws_markStringS_h_L1  (n : Nat) (g : Int × Int × List (ByteArray)) (out : Int × List (ByteArray)) (h : m_laws_markStringS_h_L1 n g.1 g.2.1 g.2.2 = some out) :
    AX Try.prog 20 1 (codeAt [1, 0, 1, 1] (bodyOf Try.f26)) ((fun g : Int × Int × List (ByteArray) => (⟨[(0, .sl 0 0 g.2.2.length), (1, .v (.int .i64 g.1)), (5, .v (.int .i64 g.2.1))], [(0, .arr 1 (List.map enc_s g.2.2))]⟩ : S)) g) (fun ex s => ex = .exit 0 ∧ s = (fun o : Int × List (ByteArray) => (⟨[(1, .v (.int .i64 o.1))], [(0, .arr 1 (List.map enc_s o.2))]⟩ : S)) out) := by
  refine AX.wkpost ?_
  refine AX.loop (G := Nat × (Int × Int × List (ByteArray))) (fun q => (fun g : Int × Int × List (ByteArray) => (⟨[(0, .sl 0 0 g.2.2.length), (1, .v (.int .i64 g.1)), (5, .v (.int .i64 g.2.1))], [(0, .arr 1 (List.map enc_s g.2.2))]⟩ : S)) q.2) (fun q => m_laws_markStringS_h_L1 q.1 q.2.1 q.2.2.1 q.2.2.2 = some out) (fun q => q.1) (n, g) h (Wk.refl _) ?_
  clear h
  rintro ⟨fu, v3, v4, v5⟩ h
  cases fu with
  | zero => cases h
  | succ fu =>
    rw [m_laws_markStringS_h_L1] at h
    refine AX.seq ?_
    refine AX.seq ?_
    refine AX.reg (its := []) [0, 1, 5, 9] [0] (s1 := ⟨[(0, .sl 0 0 v5.length), (1, .v (.int .i64 v3)), (5, .v (.int .i64 v4)), (9, .v (.bool (decide (v4 < (v5.length : Int)))))], [(0, .arr 1 (List.map enc_s v5))]⟩) (C := True) (by kernel_rfl) trivial trivial ?_
    rcases bool_cases (decide (v4 < (v5.length : Int))) with b1 | b1
    · replace h := cd_t b1 h
      refine AX.condT (decide (v4 < (v5.length : Int))) (by kernel_rfl) b1 ?_
      refine AX.skip ?_
      refine AX.seq ?_
      refine AX.block ?_
      refine AX.seq ?_
      obtain ⟨x6, e2, h⟩ := bd_e h
      obtain ⟨g3, h⟩ := gd_e h
      refine AX.reg (its := [.auto {}, .auto {}, .auto {}, .call 68 [.v (.int .i64 v3)] (handO (rho ([] ++ [])) [] [] ++ []) (callEv [] [] (.v (.string x6)) [])]) [0, 1, 5] [0] (s1 := ⟨[(0, .sl 0 0 v5.length), (1, .v (.int .i64 v3)), (5, .v (.int .i64 v4))], [(0, .arr 1 ((List.map enc_s v5).set (0 + v4.toNat) [(.string x6)]))]⟩) (C := ((([.v (.int .i64 v3)] : List AV) = [.v (.int .i64 v3)]) ∧ True) ∧ (0 ≤ v4 ∧ v4 < (v5.length : Int)) ∧ True) (by kernel_rfl) ⟨⟨rfl, trivial⟩, ⟨g3, trivial⟩⟩ ⟨call_ok (ks := []) (ns := []) (bor := []) (bobjs := []) (s_laws_markText v3 x6 e2) (.cons (.c1 (.c0 (.same _ (by kernel_rfl) (by kernel_rfl)))) (.nil)) (by kernel_rfl) trivial, trivial⟩ ?_
      refine AX.reg (its := [.auto {}, .auto { raw := true }]) [0, 1, 5] [0] (s1 := ⟨[(0, .sl 0 0 v5.length), (1, .v (.int .i64 (IntKind.wrap .i64 (v3 + 1)))), (5, .v (.int .i64 v4))], [(0, .arr 1 ((List.map enc_s v5).set (0 + v4.toNat) [(.string x6)]))]⟩) (C := True) (by kernel_rfl) trivial trivial ?_
      refine AX.reg (its := [.auto {}, .auto { raw := true }]) [0, 1, 5] [0] (s1 := ⟨[(0, .sl 0 0 v5.length), (1, .v (.int .i64 (IntKind.wrap .i64 (v3 + 1)))), (5, .v (.int .i64 (IntKind.wrap .i64 (v4 + 1))))], [(0, .arr 1 ((List.map enc_s v5).set (0 + v4.toNat) [(.string x6)]))]⟩) (C := True) (by kernel_rfl) trivial trivial ?_
      refine ⟨(fu, (IntKind.wrap .i64 (v3 + 1), IntKind.wrap .i64 (v4 + 1), v5.set (0 + v4.toNat) x6)), h, Nat.lt_succ_self _, ?_⟩
      refine Wk.trans (Wk.forget [0, 1, 5] [0] (s' := ⟨[(0, .sl 0 0 v5.length), (1, .v (.int .i64 (IntKind.wrap .i64 (v3 + 1)))), (5, .v (.int .i64 (IntKind.wrap .i64 (v4 + 1))))], [(0, .arr 1 ((List.map enc_s v5).set (0 + v4.toNat) [(.string x6)]))]⟩) (by kernel_rfl)) ?_
      refine Wk.trans (Wk.of_eq (congrArg (fun z => (⟨[(0, .sl 0 0 v5.length), (1, .v (.int .i64 (IntKind.wrap .i64 (v3 + 1)))), (5, .v (.int .i64 (IntKind.wrap .i64 (v4 + 1))))], [(0, .arr 1 (z))]⟩ : S)) (set_can (enc := enc_s) rfl (0 + v4.toNat) x6))) ?_
      refine Wk.trans (Wk.of_eq (congrArg (fun z => (⟨[(0, .sl 0 0 z), (1, .v (.int .i64 (IntKind.wrap .i64 (v3 + 1)))), (5, .v (.int .i64 (IntKind.wrap .i64 (v4 + 1))))], [(0, .arr 1 (List.map enc_s (v5.set (0 + v4.toNat) x6)))]⟩ : S)) (set_len ((rfl : v5.length = v5.length)) (0 + v4.toNat) x6))) ?_
      exact Wk.refl _
    · replace h := cd_f b1 h
      refine AX.condF (decide (v4 < (v5.length : Int))) (by kernel_rfl) b1 ?_
      refine AX.exit ?_
      refine fin_wk (Wk.forget [1] [0] (s' := ⟨[(1, .v (.int .i64 v3))], [(0, .arr 1 (List.map enc_s v5))]⟩) (by kernel_rfl)) ?_
      have hr := Option.some.inj h
      subst hr
      exact ⟨_, Wk.refl _, ⟨rfl, rfl⟩⟩

theorem s_laws_markStringS_h (p1 : Int) (p2 : List (ByteArray)) (r : Int × List (ByteArray)) (h : m_laws_markStringS_h p1 p2 = some r) :
    Eng.Spec Try.prog 26 [.sl 0 0 p2.length, .v (.int .i64 p1)] [.arr 1 (List.map enc_s p2)] (.v (.int .i64 r.1)) [.arr 1 (List.map enc_s r.2)] := by
  unfold m_laws_markStringS_h at h
  refine Eng.Spec.body Try.func26 (by kernel_rfl) rfl (by kernel_rfl) ?_
  refine AX.wkpost ?_
  refine AX.seq ?_
  refine AX.reg (its := []) [0, 1] [0] (s1 := ⟨[(0, .sl 0 0 p2.length), (1, .v (.int .i64 p1))], [(0, .arr 1 (List.map enc_s p2))]⟩) (C := True) (by kernel_rfl) trivial trivial ?_
  refine AX.seq ?_
  refine AX.seq ?_
  refine AX.reg (its := []) [0, 1, 5] [0] (s1 := ⟨[(0, .sl 0 0 p2.length), (1, .v (.int .i64 p1)), (5, .v (.int .i64 0))], [(0, .arr 1 (List.map enc_s p2))]⟩) (C := True) (by kernel_rfl) trivial trivial ?_
  refine AX.block ?_
  obtain ⟨x7, e4, h⟩ := bd_e h
  refine AX.wk (Wk.forget [0, 1, 5] [0] (s' := ⟨[(0, .sl 0 0 p2.length), (1, .v (.int .i64 p1)), (5, .v (.int .i64 0))], [(0, .arr 1 (List.map enc_s p2))]⟩) (by kernel_rfl)) ?_
  refine AX.mono (s_laws_markStringS_h_L1  FU (p1, 0, p2) x7 e4) ?_
  rintro _ _ ⟨rfl, rfl⟩
  skip
  refine AX.seq ?_
  refine AX.reg (its := []) [4] [0] (s1 := ⟨[(4, .v (.int .i64 x7.1))], [(0, .arr 1 (List.map enc_s x7.2))]⟩) (C := True) (by kernel_rfl) trivial trivial ?_
  refine AX.ret ?_
  refine fin_wk (Wk.forget [4] [0] (s' := ⟨[(4, .v (.int .i64 x7.1))], [(0, .arr 1 (List.map enc_s x7.2))]⟩) (by kernel_rfl)) ?_
  have hr := Option.some.inj h
  subst hr
  exact ⟨_, Wk.refl _, .inr rfl, ⟨[], by kernel_rfl, ⟨rfl, trivial⟩, [.v (.int .i64 x7.1)], by kernel_rfl, by kernel_rfl⟩⟩

theorem s_laws_heldStringS_L1 (p1 : List (ByteArray)) (n : Nat) (g : Int × Int) (out : Unit ⊕ Int) (h : m_laws_heldStringS_L1 p1 n g.1 g.2 = some out) :
    AX Try.prog 22 0 (codeAt [1, 0, 1, 1] (bodyOf Try.f27)) ((fun g : Int × Int => (⟨[(0, .bs false 1 (List.map enc_s p1)), (1, .v (.int .i64 g.1)), (5, .v (.int .i64 g.2))], []⟩ : S)) g) (fun ex s => (∃ o : Unit, out = Sum.inl o ∧ ex = .ret ∧ s = ⟨[(4, .v (.int .i64 (-1)))], []⟩) ∨ (∃ o : Int, out = Sum.inr o ∧ ex = .exit 0 ∧ s = ⟨[(1, .v (.int .i64 o))], []⟩)) := by
  refine AX.wkpost ?_
  refine AX.loop (G := Nat × (Int × Int)) (fun q => (fun g : Int × Int => (⟨[(0, .bs false 1 (List.map enc_s p1)), (1, .v (.int .i64 g.1)), (5, .v (.int .i64 g.2))], []⟩ : S)) q.2) (fun q => m_laws_heldStringS_L1 p1 q.1 q.2.1 q.2.2 = some out) (fun q => q.1) (n, g) h (Wk.refl _) ?_
  clear h
  rintro ⟨fu, v3, v4⟩ h
  cases fu with
  | zero => cases h
  | succ fu =>
    rw [m_laws_heldStringS_L1] at h
    refine AX.seq ?_
    refine AX.seq ?_
    refine AX.reg (its := [.auto {}, .auto {}, .auto { y := some (.v (.int .i64 (p1.length : Int))) }]) [0, 1, 5, 9] [] (s1 := ⟨[(0, .bs false 1 (List.map enc_s p1)), (1, .v (.int .i64 v3)), (5, .v (.int .i64 v4)), (9, .v (.bool (decide (v4 < (p1.length : Int)))))], []⟩) (C := (True ∧ (AV.v (.int .i64 ((List.map enc_s p1).length : Int)) = AV.v (.int .i64 (p1.length : Int)))) ∧ True) (by kernel_rfl) ⟨⟨trivial, len_map enc_s p1⟩, trivial⟩ trivial ?_
    rcases bool_cases (decide (v4 < (p1.length : Int))) with b1 | b1
    · replace h := cd_t b1 h
      refine AX.condT (decide (v4 < (p1.length : Int))) (by kernel_rfl) b1 ?_
      refine AX.skip ?_
      refine AX.seq ?_
      refine AX.block ?_
      refine AX.seq ?_
      refine AX.seq ?_
      obtain ⟨g2, h⟩ := gd_e h
      obtain ⟨x5, e3, h⟩ := bd_e h
      refine AX.drw mixed (its := [.auto {}, .auto {}, .auto { y := some (.be 1 (enc_s (gt p1 v4)) 0) }, .auto {}, .auto {}, .call 68 [.v (.int .i64 v3)] (handO (rho ([] ++ [])) [] [] ++ []) (callEv [] [] (.v (.string x5)) [])]) [0, 1, 5, 18] [] (s1 := ⟨[(0, .bs false 1 (List.map enc_s p1)), (1, .v (.int .i64 v3)), (5, .v (.int .i64 v4)), (18, .v (.bool (!decide ((gt p1 v4) = x5))))], []⟩) (C := ((0 ≤ v4 ∧ v4 < ((List.map enc_s p1).length : Int)) ∧ (AV.be 1 ((List.map enc_s p1).getD v4.toNat []) 0 = AV.be 1 (enc_s (gt p1 v4)) 0)) ∧ ((([.v (.int .i64 v3)] : List AV) = [.v (.int .i64 v3)]) ∧ True) ∧ True) (by kernel_rfl) ⟨idx_bs enc_s p1 v4 1 g2, ⟨⟨rfl, trivial⟩, trivial⟩⟩ ⟨call_ok (ks := []) (ns := []) (bor := []) (bobjs := []) (s_laws_markText v3 x5 e3) (.cons (.c1 (.c0 (.same _ (by kernel_rfl) (by kernel_rfl)))) (.nil)) (by kernel_rfl) trivial, trivial⟩ ?_
      rcases bool_cases ((!decide ((gt p1 v4) = x5))) with b4 | b4
      · replace h := cd_t b4 h
        refine AX.condT ((!decide ((gt p1 v4) = x5))) (by kernel_rfl) b4 ?_
        refine AX.seq ?_
        refine AX.reg (its := []) [4] [] (s1 := ⟨[(4, .v (.int .i64 (-1)))], []⟩) (C := True) (by kernel_rfl) trivial trivial ?_
        refine AX.ret ?_
        refine fin_wk (Wk.forget [4] [] (s' := ⟨[(4, .v (.int .i64 (-1)))], []⟩) (by kernel_rfl)) ?_
        have hr := Option.some.inj h
        subst hr
        exact ⟨_, Wk.refl _, .inl ⟨(), rfl, rfl, rfl⟩⟩
      · replace h := cd_f b4 h
        refine AX.condF ((!decide ((gt p1 v4) = x5))) (by kernel_rfl) b4 ?_
        refine AX.skip ?_
        refine AX.reg (its := [.auto {}, .auto { raw := true }]) [0, 1, 5] [] (s1 := ⟨[(0, .bs false 1 (List.map enc_s p1)), (1, .v (.int .i64 (IntKind.wrap .i64 (v3 + 1)))), (5, .v (.int .i64 v4))], []⟩) (C := True) (by kernel_rfl) trivial trivial ?_
        refine AX.reg (its := [.auto {}, .auto { raw := true }]) [0, 1, 5] [] (s1 := ⟨[(0, .bs false 1 (List.map enc_s p1)), (1, .v (.int .i64 (IntKind.wrap .i64 (v3 + 1)))), (5, .v (.int .i64 (IntKind.wrap .i64 (v4 + 1))))], []⟩) (C := True) (by kernel_rfl) trivial trivial ?_
        refine ⟨(fu, (IntKind.wrap .i64 (v3 + 1), IntKind.wrap .i64 (v4 + 1))), h, Nat.lt_succ_self _, ?_⟩
        refine Wk.trans (Wk.forget [0, 1, 5] [] (s' := ⟨[(0, .bs false 1 (List.map enc_s p1)), (1, .v (.int .i64 (IntKind.wrap .i64 (v3 + 1)))), (5, .v (.int .i64 (IntKind.wrap .i64 (v4 + 1))))], []⟩) (by kernel_rfl)) ?_
        exact Wk.refl _
    · replace h := cd_f b1 h
      refine AX.condF (decide (v4 < (p1.length : Int))) (by kernel_rfl) b1 ?_
      refine AX.exit ?_
      refine fin_wk (Wk.forget [1] [] (s' := ⟨[(1, .v (.int .i64 v3))], []⟩) (by kernel_rfl)) ?_
      have hr := Option.some.inj h
      subst hr
      exact ⟨_, Wk.refl _, .inr ⟨v3, rfl, rfl, rfl⟩⟩

theorem s_laws_heldStringS (p1 : List (ByteArray)) (p2 : Int) (r : Int) (h : m_laws_heldStringS p1 p2 = some r) :
    Eng.Spec Try.prog 27 [.bs false 1 (List.map enc_s p1), .v (.int .i64 p2)] [] (.v (.int .i64 r)) [] := by
  unfold m_laws_heldStringS at h
  refine Eng.Spec.body Try.func27 (by kernel_rfl) rfl (by kernel_rfl) ?_
  refine AX.wkpost ?_
  refine AX.seq ?_
  refine AX.reg (its := []) [0, 1] [] (s1 := ⟨[(0, .bs false 1 (List.map enc_s p1)), (1, .v (.int .i64 p2))], []⟩) (C := True) (by kernel_rfl) trivial trivial ?_
  refine AX.seq ?_
  refine AX.seq ?_
  refine AX.reg (its := []) [0, 1, 5] [] (s1 := ⟨[(0, .bs false 1 (List.map enc_s p1)), (1, .v (.int .i64 p2)), (5, .v (.int .i64 0))], []⟩) (C := True) (by kernel_rfl) trivial trivial ?_
  refine AX.block ?_
  obtain ⟨x6, e5, h⟩ := bd_e h
  refine AX.wk (Wk.forget [0, 1, 5] [] (s' := ⟨[(0, .bs false 1 (List.map enc_s p1)), (1, .v (.int .i64 p2)), (5, .v (.int .i64 0))], []⟩) (by kernel_rfl)) ?_
  refine AX.mono (s_laws_heldStringS_L1 p1 FU (p2, 0) x6 e5) ?_
  rintro _ _ (⟨x7, rfl, rfl, rfl⟩ | ⟨x8, rfl, rfl, rfl⟩)
  · replace h := sm_l h
    refine fin_wk (Wk.forget [4] [] (s' := ⟨[(4, .v (.int .i64 (-1)))], []⟩) (by kernel_rfl)) ?_
    have hr := Option.some.inj h
    subst hr
    exact ⟨_, Wk.refl _, .inr rfl, ⟨[], by kernel_rfl, trivial, [.v (.int .i64 (-1))], by kernel_rfl, by kernel_rfl⟩⟩
  · replace h := sm_r h
    refine AX.seq ?_
    refine AX.reg (its := []) [4] [] (s1 := ⟨[(4, .v (.int .i64 x8))], []⟩) (C := True) (by kernel_rfl) trivial trivial ?_
    refine AX.ret ?_
    refine fin_wk (Wk.forget [4] [] (s' := ⟨[(4, .v (.int .i64 x8))], []⟩) (by kernel_rfl)) ?_
    have hr := Option.some.inj h
    subst hr
    exact ⟨_, Wk.refl _, .inr rfl, ⟨[], by kernel_rfl, trivial, [.v (.int .i64 x8)], by kernel_rfl, by kernel_rfl⟩⟩

theorem s_laws_FnExactSinglesOf (p1 : List (ByteArray × Int)) (p2 : Int) (r : Bool) (h : m_laws_FnExactSinglesOf p1 p2 = some r) :
    Eng.Spec Try.prog 5 [.agg [.bs true 2 (List.map enc_si p1), .v (.int .i64 p2)]] [] (.v (.bool r)) [] := by
  unfold m_laws_FnExactSinglesOf at h
  refine Eng.Spec.body Try.func5 (by kernel_rfl) rfl (by kernel_rfl) ?_
  refine AX.wkpost ?_
  refine AX.seq ?_
  refine AX.reg (its := [.auto { nk := 0 }]) [1] [0] (s1 := ⟨[(1, .pt 0 0)], [(0, .box [.bs true 2 (List.map enc_si p1), .v (.int .i64 p2)])]⟩) (C := True) (by kernel_rfl) trivial trivial ?_
  refine AX.seq ?_
  refine AX.reg (its := []) [1, 3] [0] (s1 := ⟨[(1, .pt 0 0), (3, .v (.int .i64 1048576))], [(0, .box [.bs true 2 (List.map enc_si p1), .v (.int .i64 p2)])]⟩) (C := True) (by kernel_rfl) trivial trivial ?_
  refine AX.seq ?_
  obtain ⟨x3, e1, h⟩ := bd_e h
  refine AX.reg (its := [.auto {}, .auto {}, .call 15 [.agg [.bs true 2 (List.map enc_si p1), .v (.int .i64 p2)], .v (.int .i64 1048576)] (handO (rho ([] ++ [])) [] [] ++ []) (callEv [] [] (.v (.int .i64 x3)) [])]) [1, 3] [0] (s1 := ⟨[(1, .pt 0 0), (3, .v (.int .i64 x3))], [(0, .box [.bs true 2 (List.map enc_si p1), .v (.int .i64 p2)])]⟩) (C := ((([.agg [.bs true 2 (List.map enc_si p1), .v (.int .i64 p2)], .v (.int .i64 1048576)] : List AV) = [.agg [.bs true 2 (List.map enc_si p1), .v (.int .i64 p2)], .v (.int .i64 1048576)]) ∧ True) ∧ True) (by kernel_rfl) ⟨⟨rfl, trivial⟩, trivial⟩ ⟨call_ok (ks := []) (ns := []) (bor := []) (bobjs := []) (s_laws_szFlag p1 p2 1048576 x3 e1) (.cons (.c1 (.agg (.cons (.same _ (by kernel_rfl) (by kernel_rfl)) (.cons (.same _ (by kernel_rfl) (by kernel_rfl)) (.nil))))) (.cons (.c1 (.c0 (.same _ (by kernel_rfl) (by kernel_rfl)))) (.nil))) (by kernel_rfl) trivial, trivial⟩ ?_
  refine AX.seq ?_
  refine AX.seq ?_
  refine AX.reg (its := []) [1, 15] [0] (s1 := ⟨[(1, .pt 0 0), (15, .v (.bool (decide (x3 < 0))))], [(0, .box [.bs true 2 (List.map enc_si p1), .v (.int .i64 p2)])]⟩) (C := True) (by kernel_rfl) trivial trivial ?_
  rcases bool_cases (decide (x3 < 0)) with b2 | b2
  · replace h := cd_t b2 h
    refine AX.condT (decide (x3 < 0)) (by kernel_rfl) b2 ?_
    refine AX.seq ?_
    refine AX.reg (its := []) [2] [] (s1 := ⟨[(2, .v (.bool true))], []⟩) (C := True) (by kernel_rfl) trivial trivial ?_
    refine AX.ret ?_
    refine fin_wk (Wk.forget [2] [] (s' := ⟨[(2, .v (.bool true))], []⟩) (by kernel_rfl)) ?_
    have hr := Option.some.inj h
    subst hr
    exact ⟨_, Wk.refl _, .inr rfl, ⟨[], by kernel_rfl, trivial, [.v (.bool true)], by kernel_rfl, by kernel_rfl⟩⟩
  · replace h := cd_f b2 h
    refine AX.condF (decide (x3 < 0)) (by kernel_rfl) b2 ?_
    refine AX.skip ?_
    refine AX.seq ?_
    obtain ⟨x4, e3, h⟩ := bd_e h
    obtain ⟨x5, e4, h⟩ := bd_e h
    refine AX.reg (its := [.auto {}, .call 17 [.agg [.bs true 2 (List.map enc_si p1), .v (.int .i64 p2)]] (handO (rho ([] ++ [1])) [] [] ++ []) (callEv [] [1] (.agg [.sl 0 0 x4.length, .v (.int .i64 p2)]) [.arr 2 (List.map enc_si x4)]), .call 22 [.agg [.sl 1 0 x4.length, .v (.int .i64 p2)]] (handO (rho ([] ++ [2])) [] [] ++ [(1, .arr 2 (List.map enc_si x4))]) (callEv [] [2] (.sl 0 0 x5.length) [.arr 1 (List.map enc_s x5)])]) [1, 4] [0, 2] (s1 := ⟨[(1, .pt 0 0), (4, .sl 2 0 x5.length)], [(0, .box [.bs true 2 (List.map enc_si p1), .v (.int .i64 p2)]), (2, .arr 1 (List.map enc_s x5))]⟩) (C := ((([.agg [.bs true 2 (List.map enc_si p1), .v (.int .i64 p2)]] : List AV) = [.agg [.bs true 2 (List.map enc_si p1), .v (.int .i64 p2)]]) ∧ True) ∧ ((([.agg [.sl 1 0 x4.length, .v (.int .i64 p2)]] : List AV) = [.agg [.sl 1 0 x4.length, .v (.int .i64 p2)]]) ∧ (AO.arr 2 (List.map enc_si x4) = AO.arr 2 (List.map enc_si x4)) ∧ True) ∧ True) (by kernel_rfl) ⟨⟨rfl, trivial⟩, ⟨⟨rfl, rfl, trivial⟩, trivial⟩⟩ ⟨call_ok (ks := []) (ns := [1]) (bor := []) (bobjs := []) (s_laws_toFlag p1 p2 x4 e3) (.cons (.c1 (.agg (.cons (.same _ (by kernel_rfl) (by kernel_rfl)) (.cons (.same _ (by kernel_rfl) (by kernel_rfl)) (.nil))))) (.nil)) (by kernel_rfl) trivial, ⟨call_ok (ks := []) (ns := [2]) (bor := [1]) (bobjs := [(1, .arr 2 (List.map enc_si x4))]) (s_spec_SinglesOf x4 p2 x5 e4) (.cons (.c1 (.agg (.cons (.arr rfl rfl ((rfl).trans (List.length_map ..).symm)) (.cons (.same _ (by kernel_rfl) (by kernel_rfl)) (.nil))))) (.nil)) (by kernel_rfl) trivial, trivial⟩⟩ ?_
    refine AX.seq ?_
    obtain ⟨x6, e5, h⟩ := bd_e h
    refine AX.reg (its := [.auto {}, .call 17 [.agg [.bs true 2 (List.map enc_si p1), .v (.int .i64 p2)]] (handO (rho ([] ++ [3])) [] [] ++ []) (callEv [] [3] (.agg [.sl 0 0 x6.length, .v (.int .i64 p2)]) [.arr 2 (List.map enc_si x6)]), .auto { nk := 4 }]) [1, 4, 5] [0, 2, 3, 4] (s1 := ⟨[(1, .pt 0 0), (4, .sl 2 0 x5.length), (5, .pt 4 0)], [(0, .box [.bs true 2 (List.map enc_si p1), .v (.int .i64 p2)]), (2, .arr 1 (List.map enc_s x5)), (3, .arr 2 (List.map enc_si x6)), (4, .box [.sl 3 0 x6.length, .v (.int .i64 p2)])]⟩) (C := ((([.agg [.bs true 2 (List.map enc_si p1), .v (.int .i64 p2)]] : List AV) = [.agg [.bs true 2 (List.map enc_si p1), .v (.int .i64 p2)]]) ∧ True) ∧ True) (by kernel_rfl) ⟨⟨rfl, trivial⟩, trivial⟩ ⟨call_ok (ks := []) (ns := [3]) (bor := []) (bobjs := []) (s_laws_toFlag p1 p2 x6 e5) (.cons (.c1 (.agg (.cons (.same _ (by kernel_rfl) (by kernel_rfl)) (.cons (.same _ (by kernel_rfl) (by kernel_rfl)) (.nil))))) (.nil)) (by kernel_rfl) trivial, trivial⟩ ?_
    refine AX.seq ?_
    obtain ⟨x7, e6, h⟩ := bd_e h
    refine AX.reg (its := [.auto {}, .call 23 [.agg [.sl 3 0 x6.length, .v (.int .i64 p2)]] (handO (rho ([] ++ [5])) [] [] ++ [(3, .arr 2 (List.map enc_si x6))]) (callEv [] [5] (.sl 0 0 x7.length) [.arr 1 (List.map enc_s x7)])]) [1, 4, 5, 6] [0, 2, 3, 4, 5] (s1 := ⟨[(1, .pt 0 0), (4, .sl 2 0 x5.length), (5, .pt 4 0), (6, .sl 5 0 x7.length)], [(0, .box [.bs true 2 (List.map enc_si p1), .v (.int .i64 p2)]), (2, .arr 1 (List.map enc_s x5)), (3, .arr 2 (List.map enc_si x6)), (4, .box [.sl 3 0 x6.length, .v (.int .i64 p2)]), (5, .arr 1 (List.map enc_s x7))]⟩) (C := ((([.agg [.sl 3 0 x6.length, .v (.int .i64 p2)]] : List AV) = [.agg [.sl 3 0 x6.length, .v (.int .i64 p2)]]) ∧ (AO.arr 2 (List.map enc_si x6) = AO.arr 2 (List.map enc_si x6)) ∧ True) ∧ True) (by kernel_rfl) ⟨⟨rfl, rfl, trivial⟩, trivial⟩ ⟨call_ok (ks := []) (ns := [5]) (bor := [3]) (bobjs := [(3, .arr 2 (List.map enc_si x6))]) (s_impl_SinglesOf x6 p2 x7 e6) (.cons (.c1 (.agg (.cons (.arr rfl rfl ((rfl).trans (List.length_map ..).symm)) (.cons (.same _ (by kernel_rfl) (by kernel_rfl)) (.nil))))) (.nil)) (by kernel_rfl) trivial, trivial⟩ ?_
    refine AX.seq ?_
    refine AX.seq ?_
    obtain ⟨x8, e7, h⟩ := bd_e h
    refine AX.reg (its := [.auto {}, .auto {}, .call 24 [.sl 5 0 x7.length, .sl 2 0 x5.length] (handO (rho ([] ++ [])) [] [] ++ [(5, .arr 1 (List.map enc_s x7)), (2, .arr 1 (List.map enc_s x5))]) (callEv [] [] (.v (.bool x8)) [])]) [1, 4, 5, 6, 26] [0, 2, 3, 4, 5] (s1 := ⟨[(1, .pt 0 0), (4, .sl 2 0 x5.length), (5, .pt 4 0), (6, .sl 5 0 x7.length), (26, .v (.bool (!x8)))], [(0, .box [.bs true 2 (List.map enc_si p1), .v (.int .i64 p2)]), (2, .arr 1 (List.map enc_s x5)), (3, .arr 2 (List.map enc_si x6)), (4, .box [.sl 3 0 x6.length, .v (.int .i64 p2)]), (5, .arr 1 (List.map enc_s x7))]⟩) (C := ((([.sl 5 0 x7.length, .sl 2 0 x5.length] : List AV) = [.sl 5 0 x7.length, .sl 2 0 x5.length]) ∧ (AO.arr 1 (List.map enc_s x7) = AO.arr 1 (List.map enc_s x7)) ∧ (AO.arr 1 (List.map enc_s x5) = AO.arr 1 (List.map enc_s x5)) ∧ True) ∧ True) (by kernel_rfl) ⟨⟨rfl, rfl, rfl, trivial⟩, trivial⟩ ⟨call_ok (ks := []) (ns := []) (bor := [5, 2]) (bobjs := [(5, .arr 1 (List.map enc_s x7)), (2, .arr 1 (List.map enc_s x5))]) (s_laws_eqStringS x7 x5 x8 e7) (.cons (.c1 (.c0 (.arr rfl rfl ((rfl).trans (List.length_map ..).symm)))) (.cons (.c1 (.c0 (.arr rfl rfl ((rfl).trans (List.length_map ..).symm)))) (.nil))) (by kernel_rfl) trivial, trivial⟩ ?_
    rcases bool_cases ((!x8)) with b8 | b8
    · replace h := cd_t b8 h
      refine AX.condT ((!x8)) (by kernel_rfl) b8 ?_
      refine AX.seq ?_
      refine AX.reg (its := []) [2] [] (s1 := ⟨[(2, .v (.bool false))], []⟩) (C := True) (by kernel_rfl) trivial trivial ?_
      refine AX.ret ?_
      refine fin_wk (Wk.forget [2] [] (s' := ⟨[(2, .v (.bool false))], []⟩) (by kernel_rfl)) ?_
      have hr := Option.some.inj h
      subst hr
      exact ⟨_, Wk.refl _, .inr rfl, ⟨[], by kernel_rfl, trivial, [.v (.bool false)], by kernel_rfl, by kernel_rfl⟩⟩
    · replace h := cd_f b8 h
      refine AX.condF ((!x8)) (by kernel_rfl) b8 ?_
      refine AX.skip ?_
      refine AX.seq ?_
      refine AX.seq ?_
      obtain ⟨x9, e9, h⟩ := bd_e h
      obtain ⟨x10, e10, h⟩ := bd_e h
      refine AX.drw mixed (its := [.auto {}, .auto {}, .call 17 [.agg [.bs true 2 (List.map enc_si p1), .v (.int .i64 p2)]] (handO (rho ([] ++ [6])) [] [] ++ []) (callEv [] [6] (.agg [.sl 0 0 x9.length, .v (.int .i64 p2)]) [.arr 2 (List.map enc_si x9)]), .call 19 [.agg [.sl 3 0 x6.length, .v (.int .i64 p2)], .agg [.sl 6 0 x9.length, .v (.int .i64 p2)]] (handO (rho ([] ++ [])) [] [] ++ [(3, .arr 2 (List.map enc_si x6)), (6, .arr 2 (List.map enc_si x9))]) (callEv [] [] (.v (.bool x10)) [])]) [1, 4, 5, 6, 31] [0, 2, 3, 4, 5] (s1 := ⟨[(1, .pt 0 0), (4, .sl 2 0 x5.length), (5, .pt 4 0), (6, .sl 5 0 x7.length), (31, .v (.bool (!x10)))], [(0, .box [.bs true 2 (List.map enc_si p1), .v (.int .i64 p2)]), (2, .arr 1 (List.map enc_s x5)), (3, .arr 2 (List.map enc_si x6)), (4, .box [.sl 3 0 x6.length, .v (.int .i64 p2)]), (5, .arr 1 (List.map enc_s x7))]⟩) (C := ((([.agg [.bs true 2 (List.map enc_si p1), .v (.int .i64 p2)]] : List AV) = [.agg [.bs true 2 (List.map enc_si p1), .v (.int .i64 p2)]]) ∧ True) ∧ ((([.agg [.sl 3 0 x6.length, .v (.int .i64 p2)], .agg [.sl 6 0 x9.length, .v (.int .i64 p2)]] : List AV) = [.agg [.sl 3 0 x6.length, .v (.int .i64 p2)], .agg [.sl 6 0 x9.length, .v (.int .i64 p2)]]) ∧ (AO.arr 2 (List.map enc_si x6) = AO.arr 2 (List.map enc_si x6)) ∧ (AO.arr 2 (List.map enc_si x9) = AO.arr 2 (List.map enc_si x9)) ∧ True) ∧ True) (by kernel_rfl) ⟨⟨rfl, trivial⟩, ⟨⟨rfl, rfl, rfl, trivial⟩, trivial⟩⟩ ⟨call_ok (ks := []) (ns := [6]) (bor := []) (bobjs := []) (s_laws_toFlag p1 p2 x9 e9) (.cons (.c1 (.agg (.cons (.same _ (by kernel_rfl) (by kernel_rfl)) (.cons (.same _ (by kernel_rfl) (by kernel_rfl)) (.nil))))) (.nil)) (by kernel_rfl) trivial, ⟨call_ok (ks := []) (ns := []) (bor := [3, 6]) (bobjs := [(3, .arr 2 (List.map enc_si x6)), (6, .arr 2 (List.map enc_si x9))]) (s_laws_eqFlag x6 p2 x9 p2 x10 e10) (.cons (.c1 (.agg (.cons (.arr rfl rfl ((rfl).trans (List.length_map ..).symm)) (.cons (.same _ (by kernel_rfl) (by kernel_rfl)) (.nil))))) (.cons (.c1 (.agg (.cons (.arr rfl rfl ((rfl).trans (List.length_map ..).symm)) (.cons (.same _ (by kernel_rfl) (by kernel_rfl)) (.nil))))) (.nil))) (by kernel_rfl) trivial, trivial⟩⟩ ?_
      rcases bool_cases ((!x10)) with b11 | b11
      · replace h := cd_t b11 h
        refine AX.condT ((!x10)) (by kernel_rfl) b11 ?_
        refine AX.seq ?_
        refine AX.reg (its := []) [2] [] (s1 := ⟨[(2, .v (.bool false))], []⟩) (C := True) (by kernel_rfl) trivial trivial ?_
        refine AX.ret ?_
        refine fin_wk (Wk.forget [2] [] (s' := ⟨[(2, .v (.bool false))], []⟩) (by kernel_rfl)) ?_
        have hr := Option.some.inj h
        subst hr
        exact ⟨_, Wk.refl _, .inr rfl, ⟨[], by kernel_rfl, trivial, [.v (.bool false)], by kernel_rfl, by kernel_rfl⟩⟩
      · replace h := cd_f b11 h
        refine AX.condF ((!x10)) (by kernel_rfl) b11 ?_
        refine AX.skip ?_
        refine AX.seq ?_
        refine AX.reg (its := []) [1, 4, 5, 6, 7] [0, 2, 3, 4, 5] (s1 := ⟨[(1, .pt 0 0), (4, .sl 2 0 x5.length), (5, .pt 4 0), (6, .sl 5 0 x7.length), (7, .v (.int .i64 1))], [(0, .box [.bs true 2 (List.map enc_si p1), .v (.int .i64 p2)]), (2, .arr 1 (List.map enc_s x5)), (3, .arr 2 (List.map enc_si x6)), (4, .box [.sl 3 0 x6.length, .v (.int .i64 p2)]), (5, .arr 1 (List.map enc_s x7))]⟩) (C := True) (by kernel_rfl) trivial trivial ?_
        refine AX.seq ?_
        obtain ⟨x11, e12, h⟩ := bd_e h
        obtain ⟨g13, h⟩ := gd_e h
        refine AX.reg (its := [.auto {}, .auto {}, .call 25 [.agg [.sl 3 0 x6.length, .v (.int .i64 p2)], .v (.int .i64 1)] (handO (rho ([3] ++ [])) [3] [.arr 2 (List.map enc_si x6)] ++ []) (callEv [3] [] (.v (.int .i64 x11.1)) [.arr 2 (List.map enc_si x11.2)])]) [1, 4, 6, 7] [0, 2, 5] (s1 := ⟨[(1, .pt 0 0), (4, .sl 2 0 x5.length), (6, .sl 5 0 x7.length), (7, .v (.int .i64 x11.1))], [(0, .box [.bs true 2 (List.map enc_si p1), .v (.int .i64 p2)]), (2, .arr 1 (List.map enc_s x5)), (5, .arr 1 (List.map enc_s x7))]⟩) (C := ((([.agg [.sl 3 0 x6.length, .v (.int .i64 p2)], .v (.int .i64 1)] : List AV) = [.agg [.sl 3 0 x6.length, .v (.int .i64 p2)], .v (.int .i64 1)]) ∧ (AO.arr 2 (List.map enc_si x6) = AO.arr 2 (List.map enc_si x6)) ∧ True) ∧ True) (by kernel_rfl) ⟨⟨rfl, rfl, trivial⟩, trivial⟩ ⟨call_ok (ks := [3]) (ns := []) (bor := []) (bobjs := []) (s_laws_markFlag_h p2 1 x6 x11 e12) (.cons (.c1 (.agg (.cons (.same _ (by kernel_rfl) (by kernel_rfl)) (.cons (.same _ (by kernel_rfl) (by kernel_rfl)) (.nil))))) (.cons (.c1 (.c0 (.same _ (by kernel_rfl) (by kernel_rfl)))) (.nil))) (by kernel_rfl) ⟨.inr (arr_sh (enc := enc_si) g13), trivial⟩, trivial⟩ ?_
        refine AX.seq ?_
        refine AX.seq ?_
        rcases bool_cases (decide (x11.1 < 0)) with b14 | b14
        · replace h := cd_t b14 h
          refine AX.reg (its := [.auto {}, .auto { y := some (.v (.bool true)) }]) [1, 4, 6, 42] [0, 2, 5] (s1 := ⟨[(1, .pt 0 0), (4, .sl 2 0 x5.length), (6, .sl 5 0 x7.length), (42, .v (.bool true))], [(0, .box [.bs true 2 (List.map enc_si p1), .v (.int .i64 p2)]), (2, .arr 1 (List.map enc_s x5)), (5, .arr 1 (List.map enc_s x7))]⟩) (C := ((True) ∧ ((.v (.bool (decide (x11.1 < 0))) : AV) = (.v (.bool true) : AV))) ∧ True) (by kernel_rfl) ⟨⟨trivial, (congrArg (fun z => AV.v (.bool z)) b14)⟩, trivial⟩ trivial ?_
          refine AX.cond_true (by kernel_rfl) ?_
          refine AX.seq ?_
          refine AX.reg (its := []) [2] [] (s1 := ⟨[(2, .v (.bool false))], []⟩) (C := True) (by kernel_rfl) trivial trivial ?_
          refine AX.ret ?_
          refine fin_wk (Wk.forget [2] [] (s' := ⟨[(2, .v (.bool false))], []⟩) (by kernel_rfl)) ?_
          have hr := Option.some.inj h
          subst hr
          exact ⟨_, Wk.refl _, .inr rfl, ⟨[], by kernel_rfl, trivial, [.v (.bool false)], by kernel_rfl, by kernel_rfl⟩⟩
        · replace h := cd_f b14 h
          obtain ⟨x12, e15, h⟩ := bd_e h
          refine AX.reg (its := [.auto {}, .auto { y := some (.v (.bool false)) }, .auto {}, .auto {}, .auto {}, .call 24 [.sl 5 0 x7.length, .sl 2 0 x5.length] (handO (rho ([] ++ [])) [] [] ++ [(5, .arr 1 (List.map enc_s x7)), (2, .arr 1 (List.map enc_s x5))]) (callEv [] [] (.v (.bool x12)) [])]) [1, 4, 6, 42] [0, 2, 5] (s1 := ⟨[(1, .pt 0 0), (4, .sl 2 0 x5.length), (6, .sl 5 0 x7.length), (42, .v (.bool (!x12)))], [(0, .box [.bs true 2 (List.map enc_si p1), .v (.int .i64 p2)]), (2, .arr 1 (List.map enc_s x5)), (5, .arr 1 (List.map enc_s x7))]⟩) (C := ((True) ∧ ((.v (.bool (decide (x11.1 < 0))) : AV) = (.v (.bool false) : AV))) ∧ ((([.sl 5 0 x7.length, .sl 2 0 x5.length] : List AV) = [.sl 5 0 x7.length, .sl 2 0 x5.length]) ∧ (AO.arr 1 (List.map enc_s x7) = AO.arr 1 (List.map enc_s x7)) ∧ (AO.arr 1 (List.map enc_s x5) = AO.arr 1 (List.map enc_s x5)) ∧ True) ∧ True) (by kernel_rfl) ⟨⟨trivial, (congrArg (fun z => AV.v (.bool z)) b14)⟩, ⟨⟨rfl, rfl, rfl, trivial⟩, trivial⟩⟩ ⟨call_ok (ks := []) (ns := []) (bor := [5, 2]) (bobjs := [(5, .arr 1 (List.map enc_s x7)), (2, .arr 1 (List.map enc_s x5))]) (s_laws_eqStringS x7 x5 x12 e15) (.cons (.c1 (.c0 (.arr rfl rfl ((rfl).trans (List.length_map ..).symm)))) (.cons (.c1 (.c0 (.arr rfl rfl ((rfl).trans (List.length_map ..).symm)))) (.nil))) (by kernel_rfl) trivial, trivial⟩ ?_
          rcases bool_cases ((!x12)) with b16 | b16
          · replace h := cd_t b16 h
            refine AX.condT ((!x12)) (by kernel_rfl) b16 ?_
            refine AX.seq ?_
            refine AX.reg (its := []) [2] [] (s1 := ⟨[(2, .v (.bool false))], []⟩) (C := True) (by kernel_rfl) trivial trivial ?_
            refine AX.ret ?_
            refine fin_wk (Wk.forget [2] [] (s' := ⟨[(2, .v (.bool false))], []⟩) (by kernel_rfl)) ?_
            have hr := Option.some.inj h
            subst hr
            exact ⟨_, Wk.refl _, .inr rfl, ⟨[], by kernel_rfl, trivial, [.v (.bool false)], by kernel_rfl, by kernel_rfl⟩⟩
          · replace h := cd_f b16 h
            refine AX.condF ((!x12)) (by kernel_rfl) b16 ?_
            refine AX.skip ?_
            refine AX.seq ?_
            refine AX.reg (its := []) [1, 4, 6, 8] [0, 2, 5] (s1 := ⟨[(1, .pt 0 0), (4, .sl 2 0 x5.length), (6, .sl 5 0 x7.length), (8, .v (.int .i64 1))], [(0, .box [.bs true 2 (List.map enc_si p1), .v (.int .i64 p2)]), (2, .arr 1 (List.map enc_s x5)), (5, .arr 1 (List.map enc_s x7))]⟩) (C := True) (by kernel_rfl) trivial trivial ?_
            refine AX.seq ?_
            obtain ⟨x13, e17, h⟩ := bd_e h
            obtain ⟨g18, h⟩ := gd_e h
            refine AX.reg (its := [.auto {}, .auto {}, .call 26 [.sl 5 0 x7.length, .v (.int .i64 1)] (handO (rho ([5] ++ [])) [5] [.arr 1 (List.map enc_s x7)] ++ []) (callEv [5] [] (.v (.int .i64 x13.1)) [.arr 1 (List.map enc_s x13.2)])]) [1, 4, 6, 8] [0, 2, 5] (s1 := ⟨[(1, .pt 0 0), (4, .sl 2 0 x5.length), (6, .sl 5 0 x7.length), (8, .v (.int .i64 x13.1))], [(0, .box [.bs true 2 (List.map enc_si p1), .v (.int .i64 p2)]), (2, .arr 1 (List.map enc_s x5)), (5, .arr 1 (List.map enc_s x13.2))]⟩) (C := ((([.sl 5 0 x7.length, .v (.int .i64 1)] : List AV) = [.sl 5 0 x7.length, .v (.int .i64 1)]) ∧ (AO.arr 1 (List.map enc_s x7) = AO.arr 1 (List.map enc_s x7)) ∧ True) ∧ True) (by kernel_rfl) ⟨⟨rfl, rfl, trivial⟩, trivial⟩ ⟨call_ok (ks := [5]) (ns := []) (bor := []) (bobjs := []) (s_laws_markStringS_h 1 x7 x13 e17) (.cons (.c1 (.c0 (.same _ (by kernel_rfl) (by kernel_rfl)))) (.cons (.c1 (.c0 (.same _ (by kernel_rfl) (by kernel_rfl)))) (.nil))) (by kernel_rfl) ⟨.inr (arr_sh (enc := enc_s) g18), trivial⟩, trivial⟩ ?_
            refine AX.seq ?_
            refine AX.reg (its := []) [1, 4, 6, 8, 9] [0, 2, 5] (s1 := ⟨[(1, .pt 0 0), (4, .sl 2 0 x5.length), (6, .sl 5 0 x7.length), (8, .v (.int .i64 x13.1)), (9, .v (.int .i64 1))], [(0, .box [.bs true 2 (List.map enc_si p1), .v (.int .i64 p2)]), (2, .arr 1 (List.map enc_s x5)), (5, .arr 1 (List.map enc_s x13.2))]⟩) (C := True) (by kernel_rfl) trivial trivial ?_
            refine AX.seq ?_
            obtain ⟨x14, e19, h⟩ := bd_e h
            refine AX.reg (its := [.auto {}, .auto {}, .call 27 [.sl 5 0 x7.length, .v (.int .i64 1)] (handO (rho ([] ++ [])) [] [] ++ [(5, .arr 1 (List.map enc_s x13.2))]) (callEv [] [] (.v (.int .i64 x14)) [])]) [1, 4, 6, 8, 9] [0, 2, 5] (s1 := ⟨[(1, .pt 0 0), (4, .sl 2 0 x5.length), (6, .sl 5 0 x7.length), (8, .v (.int .i64 x13.1)), (9, .v (.int .i64 x14))], [(0, .box [.bs true 2 (List.map enc_si p1), .v (.int .i64 p2)]), (2, .arr 1 (List.map enc_s x5)), (5, .arr 1 (List.map enc_s x13.2))]⟩) (C := ((([.sl 5 0 x7.length, .v (.int .i64 1)] : List AV) = [.sl 5 0 x7.length, .v (.int .i64 1)]) ∧ (AO.arr 1 (List.map enc_s x13.2) = AO.arr 1 (List.map enc_s x13.2)) ∧ True) ∧ True) (by kernel_rfl) ⟨⟨rfl, rfl, trivial⟩, trivial⟩ ⟨call_ok (ks := []) (ns := []) (bor := [5]) (bobjs := [(5, .arr 1 (List.map enc_s x13.2))]) (s_laws_heldStringS x13.2 1 x14 e19) (.cons (.c1 (.c0 (.arr rfl rfl ((((rfl : x7.length = x7.length)).trans (g18).symm).trans (List.length_map ..).symm)))) (.cons (.c1 (.c0 (.same _ (by kernel_rfl) (by kernel_rfl)))) (.nil))) (by kernel_rfl) trivial, trivial⟩ ?_
            refine AX.seq ?_
            refine AX.seq ?_
            refine AX.reg (its := []) [1, 4, 6, 8, 9, 50] [0, 2, 5] (s1 := ⟨[(1, .pt 0 0), (4, .sl 2 0 x5.length), (6, .sl 5 0 x7.length), (8, .v (.int .i64 x13.1)), (9, .v (.int .i64 x14)), (50, .v (.bool (decide (x14 < 0))))], [(0, .box [.bs true 2 (List.map enc_si p1), .v (.int .i64 p2)]), (2, .arr 1 (List.map enc_s x5)), (5, .arr 1 (List.map enc_s x13.2))]⟩) (C := True) (by kernel_rfl) trivial trivial ?_
            rcases bool_cases (decide (x14 < 0)) with b20 | b20
            · replace h := cd_t b20 h
              refine AX.condT (decide (x14 < 0)) (by kernel_rfl) b20 ?_
              refine AX.seq ?_
              refine AX.reg (its := []) [2] [] (s1 := ⟨[(2, .v (.bool false))], []⟩) (C := True) (by kernel_rfl) trivial trivial ?_
              refine AX.ret ?_
              refine fin_wk (Wk.forget [2] [] (s' := ⟨[(2, .v (.bool false))], []⟩) (by kernel_rfl)) ?_
              have hr := Option.some.inj h
              subst hr
              exact ⟨_, Wk.refl _, .inr rfl, ⟨[], by kernel_rfl, trivial, [.v (.bool false)], by kernel_rfl, by kernel_rfl⟩⟩
            · replace h := cd_f b20 h
              refine AX.condF (decide (x14 < 0)) (by kernel_rfl) b20 ?_
              refine AX.skip ?_
              refine AX.seq ?_
              refine AX.seq ?_
              refine AX.reg (its := []) [1, 4, 6, 8, 53] [0, 2, 5] (s1 := ⟨[(1, .pt 0 0), (4, .sl 2 0 x5.length), (6, .sl 5 0 x7.length), (8, .v (.int .i64 x13.1)), (53, .v (.bool (!decide (x14 = x13.1))))], [(0, .box [.bs true 2 (List.map enc_si p1), .v (.int .i64 p2)]), (2, .arr 1 (List.map enc_s x5)), (5, .arr 1 (List.map enc_s x13.2))]⟩) (C := True) (by kernel_rfl) trivial trivial ?_
              rcases bool_cases ((!decide (x14 = x13.1))) with b21 | b21
              · replace h := cd_t b21 h
                refine AX.condT ((!decide (x14 = x13.1))) (by kernel_rfl) b21 ?_
                refine AX.seq ?_
                refine AX.reg (its := []) [2] [] (s1 := ⟨[(2, .v (.bool false))], []⟩) (C := True) (by kernel_rfl) trivial trivial ?_
                refine AX.ret ?_
                refine fin_wk (Wk.forget [2] [] (s' := ⟨[(2, .v (.bool false))], []⟩) (by kernel_rfl)) ?_
                have hr := Option.some.inj h
                subst hr
                exact ⟨_, Wk.refl _, .inr rfl, ⟨[], by kernel_rfl, trivial, [.v (.bool false)], by kernel_rfl, by kernel_rfl⟩⟩
              · replace h := cd_f b21 h
                refine AX.condF ((!decide (x14 = x13.1))) (by kernel_rfl) b21 ?_
                refine AX.skip ?_
                refine AX.seq ?_
                obtain ⟨x15, e22, h⟩ := bd_e h
                obtain ⟨x16, e23, h⟩ := bd_e h
                refine AX.reg (its := [.auto {}, .call 17 [.agg [.bs true 2 (List.map enc_si p1), .v (.int .i64 p2)]] (handO (rho ([] ++ [6])) [] [] ++ []) (callEv [] [6] (.agg [.sl 0 0 x15.length, .v (.int .i64 p2)]) [.arr 2 (List.map enc_si x15)]), .call 23 [.agg [.sl 6 0 x15.length, .v (.int .i64 p2)]] (handO (rho ([] ++ [7])) [] [] ++ [(6, .arr 2 (List.map enc_si x15))]) (callEv [] [7] (.sl 0 0 x16.length) [.arr 1 (List.map enc_s x16)])]) [4, 6, 8, 10] [2, 5, 7] (s1 := ⟨[(4, .sl 2 0 x5.length), (6, .sl 5 0 x7.length), (8, .v (.int .i64 x13.1)), (10, .sl 7 0 x16.length)], [(2, .arr 1 (List.map enc_s x5)), (5, .arr 1 (List.map enc_s x13.2)), (7, .arr 1 (List.map enc_s x16))]⟩) (C := ((([.agg [.bs true 2 (List.map enc_si p1), .v (.int .i64 p2)]] : List AV) = [.agg [.bs true 2 (List.map enc_si p1), .v (.int .i64 p2)]]) ∧ True) ∧ ((([.agg [.sl 6 0 x15.length, .v (.int .i64 p2)]] : List AV) = [.agg [.sl 6 0 x15.length, .v (.int .i64 p2)]]) ∧ (AO.arr 2 (List.map enc_si x15) = AO.arr 2 (List.map enc_si x15)) ∧ True) ∧ True) (by kernel_rfl) ⟨⟨rfl, trivial⟩, ⟨⟨rfl, rfl, trivial⟩, trivial⟩⟩ ⟨call_ok (ks := []) (ns := [6]) (bor := []) (bobjs := []) (s_laws_toFlag p1 p2 x15 e22) (.cons (.c1 (.agg (.cons (.same _ (by kernel_rfl) (by kernel_rfl)) (.cons (.same _ (by kernel_rfl) (by kernel_rfl)) (.nil))))) (.nil)) (by kernel_rfl) trivial, ⟨call_ok (ks := []) (ns := [7]) (bor := [6]) (bobjs := [(6, .arr 2 (List.map enc_si x15))]) (s_impl_SinglesOf x15 p2 x16 e23) (.cons (.c1 (.agg (.cons (.arr rfl rfl ((rfl).trans (List.length_map ..).symm)) (.cons (.same _ (by kernel_rfl) (by kernel_rfl)) (.nil))))) (.nil)) (by kernel_rfl) trivial, trivial⟩⟩ ?_
                refine AX.seq ?_
                refine AX.seq ?_
                obtain ⟨x17, e24, h⟩ := bd_e h
                refine AX.reg (its := [.auto {}, .auto {}, .call 24 [.sl 7 0 x16.length, .sl 2 0 x5.length] (handO (rho ([] ++ [])) [] [] ++ [(7, .arr 1 (List.map enc_s x16)), (2, .arr 1 (List.map enc_s x5))]) (callEv [] [] (.v (.bool x17)) [])]) [6, 8, 60] [5] (s1 := ⟨[(6, .sl 5 0 x7.length), (8, .v (.int .i64 x13.1)), (60, .v (.bool (!x17)))], [(5, .arr 1 (List.map enc_s x13.2))]⟩) (C := ((([.sl 7 0 x16.length, .sl 2 0 x5.length] : List AV) = [.sl 7 0 x16.length, .sl 2 0 x5.length]) ∧ (AO.arr 1 (List.map enc_s x16) = AO.arr 1 (List.map enc_s x16)) ∧ (AO.arr 1 (List.map enc_s x5) = AO.arr 1 (List.map enc_s x5)) ∧ True) ∧ True) (by kernel_rfl) ⟨⟨rfl, rfl, rfl, trivial⟩, trivial⟩ ⟨call_ok (ks := []) (ns := []) (bor := [7, 2]) (bobjs := [(7, .arr 1 (List.map enc_s x16)), (2, .arr 1 (List.map enc_s x5))]) (s_laws_eqStringS x16 x5 x17 e24) (.cons (.c1 (.c0 (.arr rfl rfl ((rfl).trans (List.length_map ..).symm)))) (.cons (.c1 (.c0 (.arr rfl rfl ((rfl).trans (List.length_map ..).symm)))) (.nil))) (by kernel_rfl) trivial, trivial⟩ ?_
                rcases bool_cases ((!x17)) with b25 | b25
                · replace h := cd_t b25 h
                  refine AX.condT ((!x17)) (by kernel_rfl) b25 ?_
                  refine AX.seq ?_
                  refine AX.reg (its := []) [2] [] (s1 := ⟨[(2, .v (.bool false))], []⟩) (C := True) (by kernel_rfl) trivial trivial ?_
                  refine AX.ret ?_
                  refine fin_wk (Wk.forget [2] [] (s' := ⟨[(2, .v (.bool false))], []⟩) (by kernel_rfl)) ?_
                  have hr := Option.some.inj h
                  subst hr
                  exact ⟨_, Wk.refl _, .inr rfl, ⟨[], by kernel_rfl, trivial, [.v (.bool false)], by kernel_rfl, by kernel_rfl⟩⟩
                · replace h := cd_f b25 h
                  refine AX.condF ((!x17)) (by kernel_rfl) b25 ?_
                  refine AX.skip ?_
                  refine AX.seq ?_
                  refine AX.reg (its := []) [6, 8, 9] [5] (s1 := ⟨[(6, .sl 5 0 x7.length), (8, .v (.int .i64 x13.1)), (9, .v (.int .i64 1))], [(5, .arr 1 (List.map enc_s x13.2))]⟩) (C := True) (by kernel_rfl) trivial trivial ?_
                  refine AX.seq ?_
                  obtain ⟨x18, e26, h⟩ := bd_e h
                  refine AX.reg (its := [.auto {}, .auto {}, .call 27 [.sl 5 0 x7.length, .v (.int .i64 1)] (handO (rho ([] ++ [])) [] [] ++ [(5, .arr 1 (List.map enc_s x13.2))]) (callEv [] [] (.v (.int .i64 x18)) [])]) [8, 9] [] (s1 := ⟨[(8, .v (.int .i64 x13.1)), (9, .v (.int .i64 x18))], []⟩) (C := ((([.sl 5 0 x7.length, .v (.int .i64 1)] : List AV) = [.sl 5 0 x7.length, .v (.int .i64 1)]) ∧ (AO.arr 1 (List.map enc_s x13.2) = AO.arr 1 (List.map enc_s x13.2)) ∧ True) ∧ True) (by kernel_rfl) ⟨⟨rfl, rfl, trivial⟩, trivial⟩ ⟨call_ok (ks := []) (ns := []) (bor := [5]) (bobjs := [(5, .arr 1 (List.map enc_s x13.2))]) (s_laws_heldStringS x13.2 1 x18 e26) (.cons (.c1 (.c0 (.arr rfl rfl ((((rfl : x7.length = x7.length)).trans (g18).symm).trans (List.length_map ..).symm)))) (.cons (.c1 (.c0 (.same _ (by kernel_rfl) (by kernel_rfl)))) (.nil))) (by kernel_rfl) trivial, trivial⟩ ?_
                  refine AX.seq ?_
                  refine AX.seq ?_
                  refine AX.reg (its := []) [8, 9, 65] [] (s1 := ⟨[(8, .v (.int .i64 x13.1)), (9, .v (.int .i64 x18)), (65, .v (.bool (decide (x18 < 0))))], []⟩) (C := True) (by kernel_rfl) trivial trivial ?_
                  rcases bool_cases (decide (x18 < 0)) with b27 | b27
                  · replace h := cd_t b27 h
                    refine AX.condT (decide (x18 < 0)) (by kernel_rfl) b27 ?_
                    refine AX.seq ?_
                    refine AX.reg (its := []) [2] [] (s1 := ⟨[(2, .v (.bool false))], []⟩) (C := True) (by kernel_rfl) trivial trivial ?_
                    refine AX.ret ?_
                    refine fin_wk (Wk.forget [2] [] (s' := ⟨[(2, .v (.bool false))], []⟩) (by kernel_rfl)) ?_
                    have hr := Option.some.inj h
                    subst hr
                    exact ⟨_, Wk.refl _, .inr rfl, ⟨[], by kernel_rfl, trivial, [.v (.bool false)], by kernel_rfl, by kernel_rfl⟩⟩
                  · replace h := cd_f b27 h
                    refine AX.condF (decide (x18 < 0)) (by kernel_rfl) b27 ?_
                    refine AX.skip ?_
                    refine AX.seq ?_
                    refine AX.seq ?_
                    refine AX.reg (its := []) [68] [] (s1 := ⟨[(68, .v (.bool (!decide (x18 = x13.1))))], []⟩) (C := True) (by kernel_rfl) trivial trivial ?_
                    rcases bool_cases ((!decide (x18 = x13.1))) with b28 | b28
                    · replace h := cd_t b28 h
                      refine AX.condT ((!decide (x18 = x13.1))) (by kernel_rfl) b28 ?_
                      refine AX.seq ?_
                      refine AX.reg (its := []) [2] [] (s1 := ⟨[(2, .v (.bool false))], []⟩) (C := True) (by kernel_rfl) trivial trivial ?_
                      refine AX.ret ?_
                      refine fin_wk (Wk.forget [2] [] (s' := ⟨[(2, .v (.bool false))], []⟩) (by kernel_rfl)) ?_
                      have hr := Option.some.inj h
                      subst hr
                      exact ⟨_, Wk.refl _, .inr rfl, ⟨[], by kernel_rfl, trivial, [.v (.bool false)], by kernel_rfl, by kernel_rfl⟩⟩
                    · replace h := cd_f b28 h
                      refine AX.condF ((!decide (x18 = x13.1))) (by kernel_rfl) b28 ?_
                      refine AX.skip ?_
                      refine AX.seq ?_
                      refine AX.reg (its := []) [2] [] (s1 := ⟨[(2, .v (.bool true))], []⟩) (C := True) (by kernel_rfl) trivial trivial ?_
                      refine AX.ret ?_
                      refine fin_wk (Wk.forget [2] [] (s' := ⟨[(2, .v (.bool true))], []⟩) (by kernel_rfl)) ?_
                      have hr := Option.some.inj h
                      subst hr
                      exact ⟨_, Wk.refl _, .inr rfl, ⟨[], by kernel_rfl, trivial, [.v (.bool true)], by kernel_rfl, by kernel_rfl⟩⟩

end Go.Eng
