/- What is proved here: each function keeps to its model, whatever its arguments, wherever the model has an answer. Printed by gen.py. -/
import Derived.Test.YtehcdfddbnhniaaCGreatestArmsWalk3
import Derived.Test.YtehcdfddbnhniaaProg
import Derived.KernelRfl
set_option linter.unusedVariables false
namespace Go.Eng
open Go Go.Proofs


theorem s_spec_GreatestArms (p1 : List (ByteArray × Int)) (p2 : Int) (p3 : List (Int)) (r : List (Int × Int)) (h : m_spec_GreatestArms p1 p2 p3 = some r) :
    Eng.Spec Try.prog 16 [.agg [.bs false 2 (List.map enc_si p1), .v (.int .i64 p2)], .bs false 1 (List.map enc_i p3)] [] (.sl 0 0 r.length) [.arr 2 (List.map enc_ii r)] := by
  unfold m_spec_GreatestArms at h
  refine Eng.Spec.body Try.func16 (by kernel_rfl) rfl (by kernel_rfl) ?_
  refine AX.wkpost ?_
  refine AX.seq ?_
  refine AX.reg (its := [.auto { nk := 0 }]) [1, 2] [0] (s1 := ⟨[(1, .bs false 1 (List.map enc_i p3)), (2, .pt 0 0)], [(0, .box [.bs false 2 (List.map enc_si p1), .v (.int .i64 p2)])]⟩) (C := True) (by kernel_rfl) trivial trivial ?_
  refine AX.seq ?_
  obtain ⟨x4, e1, h⟩ := bd_e h
  refine AX.reg (its := [.auto {}, .auto {}, .call 76 [.bs false 2 (List.map enc_si p1)] (handO (rho ([] ++ [])) [] [] ++ []) (callEv [] [] (.v (.int .i64 x4)) [])]) [1, 2, 5] [0] (s1 := ⟨[(1, .bs false 1 (List.map enc_i p3)), (2, .pt 0 0), (5, .v (.int .i64 x4))], [(0, .box [.bs false 2 (List.map enc_si p1), .v (.int .i64 p2)])]⟩) (C := ((([.bs false 2 (List.map enc_si p1)] : List AV) = [.bs false 2 (List.map enc_si p1)]) ∧ True) ∧ True) (by kernel_rfl) ⟨⟨rfl, trivial⟩, trivial⟩ ⟨call_ok (ks := []) (ns := []) (bor := []) (bobjs := []) (s_spec_mask p1 x4 e1) (.cons (.c1 (.c0 (.same _ (by kernel_rfl) (by kernel_rfl)))) (.nil)) (by kernel_rfl) trivial, trivial⟩ ?_
  refine AX.seq ?_
  refine AX.seq ?_
  obtain ⟨x5, e2, h⟩ := bd_e h
  rcases bool_cases ((!x5)) with b3 | b3
  · replace h := cd_t b3 h
    refine AX.reg (its := [.auto {}, .call 74 [.agg [.bs false 2 (List.map enc_si p1), .v (.int .i64 p2)]] (handO (rho ([] ++ [])) [] [] ++ []) (callEv [] [] (.v (.bool x5)) []), .auto { y := some (.v (.bool true)) }]) [1, 5, 27] [] (s1 := ⟨[(1, .bs false 1 (List.map enc_i p3)), (5, .v (.int .i64 x4)), (27, .v (.bool true))], []⟩) (C := ((([.agg [.bs false 2 (List.map enc_si p1), .v (.int .i64 p2)]] : List AV) = [.agg [.bs false 2 (List.map enc_si p1), .v (.int .i64 p2)]]) ∧ True) ∧ ((True) ∧ ((.v (.bool (!x5)) : AV) = (.v (.bool true) : AV))) ∧ True) (by kernel_rfl) ⟨⟨rfl, trivial⟩, ⟨⟨trivial, (congrArg (fun z => AV.v (.bool z)) b3)⟩, trivial⟩⟩ ⟨call_ok (ks := []) (ns := []) (bor := []) (bobjs := []) (s_spec_validFlag p1 p2 x5 e2) (.cons (.c1 (.agg (.cons (.same _ (by kernel_rfl) (by kernel_rfl)) (.cons (.same _ (by kernel_rfl) (by kernel_rfl)) (.nil))))) (.nil)) (by kernel_rfl) trivial, trivial⟩ ?_
    refine AX.cond_true (by kernel_rfl) ?_
    refine AX.seq ?_
    refine AX.reg (its := []) [4] [] (s1 := ⟨[(4, .v (.slice none 0 0))], []⟩) (C := True) (by kernel_rfl) trivial trivial ?_
    refine AX.ret ?_
    refine fin_wk (Wk.mat 4 0 2 (by kernel_rfl) (Nat.le_of_ble_eq_true (by kernel_rfl)) (by kernel_rfl) rfl) ?_
    refine fin_wk (Wk.forget [4] [0] (s' := ⟨[(4, .sl 0 0 (([] : List (Int × Int)).length))], [(0, .arr 2 (List.map enc_ii ([] : List (Int × Int))))]⟩) (by kernel_rfl)) ?_
    have hr := Option.some.inj h
    subst hr
    exact ⟨_, Wk.refl _, .inr rfl, ⟨[0], by kernel_rfl, ⟨rfl, trivial⟩, [.sl 0 0 (([] : List (Int × Int)).length)], by kernel_rfl, by kernel_rfl⟩⟩
  · replace h := cd_f b3 h
    obtain ⟨x6, e4, h⟩ := bd_e h
    rcases bool_cases (decide (6 < x6)) with b5 | b5
    · replace h := cd_t b5 h
      refine AX.reg (its := [.auto {}, .call 74 [.agg [.bs false 2 (List.map enc_si p1), .v (.int .i64 p2)]] (handO (rho ([] ++ [])) [] [] ++ []) (callEv [] [] (.v (.bool x5)) []), .auto { y := some (.v (.bool false)) }, .auto {}, .auto {}, .call 75 [.v (.int .i64 x4)] (handO (rho ([] ++ [])) [] [] ++ []) (callEv [] [] (.v (.int .i64 x6)) []), .auto { y := some (.v (.bool true)) }]) [1, 5, 27] [] (s1 := ⟨[(1, .bs false 1 (List.map enc_i p3)), (5, .v (.int .i64 x4)), (27, .v (.bool true))], []⟩) (C := ((([.agg [.bs false 2 (List.map enc_si p1), .v (.int .i64 p2)]] : List AV) = [.agg [.bs false 2 (List.map enc_si p1), .v (.int .i64 p2)]]) ∧ True) ∧ ((True) ∧ ((.v (.bool (!x5)) : AV) = (.v (.bool false) : AV))) ∧ ((([.v (.int .i64 x4)] : List AV) = [.v (.int .i64 x4)]) ∧ True) ∧ ((True) ∧ ((.v (.bool (decide (6 < x6))) : AV) = (.v (.bool true) : AV))) ∧ True) (by kernel_rfl) ⟨⟨rfl, trivial⟩, ⟨⟨trivial, (congrArg (fun z => AV.v (.bool z)) b3)⟩, ⟨⟨rfl, trivial⟩, ⟨⟨trivial, (congrArg (fun z => AV.v (.bool z)) b5)⟩, trivial⟩⟩⟩⟩ ⟨call_ok (ks := []) (ns := []) (bor := []) (bobjs := []) (s_spec_validFlag p1 p2 x5 e2) (.cons (.c1 (.agg (.cons (.same _ (by kernel_rfl) (by kernel_rfl)) (.cons (.same _ (by kernel_rfl) (by kernel_rfl)) (.nil))))) (.nil)) (by kernel_rfl) trivial, ⟨call_ok (ks := []) (ns := []) (bor := []) (bobjs := []) (s_spec_bitCount x4 x6 e4) (.cons (.c1 (.c0 (.same _ (by kernel_rfl) (by kernel_rfl)))) (.nil)) (by kernel_rfl) trivial, trivial⟩⟩ ?_
      refine AX.cond_true (by kernel_rfl) ?_
      refine AX.seq ?_
      refine AX.reg (its := []) [4] [] (s1 := ⟨[(4, .v (.slice none 0 0))], []⟩) (C := True) (by kernel_rfl) trivial trivial ?_
      refine AX.ret ?_
      refine fin_wk (Wk.mat 4 0 2 (by kernel_rfl) (Nat.le_of_ble_eq_true (by kernel_rfl)) (by kernel_rfl) rfl) ?_
      refine fin_wk (Wk.forget [4] [0] (s' := ⟨[(4, .sl 0 0 (([] : List (Int × Int)).length))], [(0, .arr 2 (List.map enc_ii ([] : List (Int × Int))))]⟩) (by kernel_rfl)) ?_
      have hr := Option.some.inj h
      subst hr
      exact ⟨_, Wk.refl _, .inr rfl, ⟨[0], by kernel_rfl, ⟨rfl, trivial⟩, [.sl 0 0 (([] : List (Int × Int)).length)], by kernel_rfl, by kernel_rfl⟩⟩
    · replace h := cd_f b5 h
      refine AX.reg (its := [.auto {}, .call 74 [.agg [.bs false 2 (List.map enc_si p1), .v (.int .i64 p2)]] (handO (rho ([] ++ [])) [] [] ++ []) (callEv [] [] (.v (.bool x5)) []), .auto { y := some (.v (.bool false)) }, .auto {}, .auto {}, .call 75 [.v (.int .i64 x4)] (handO (rho ([] ++ [])) [] [] ++ []) (callEv [] [] (.v (.int .i64 x6)) []), .auto { y := some (.v (.bool false)) }, .auto {}, .auto {}, .auto {}, .auto { y := some (.v (.int .i64 (p3.length : Int))) }]) [1, 5, 27] [] (s1 := ⟨[(1, .bs false 1 (List.map enc_i p3)), (5, .v (.int .i64 x4)), (27, .v (.bool (decide (64 < (p3.length : Int)))))], []⟩) (C := ((([.agg [.bs false 2 (List.map enc_si p1), .v (.int .i64 p2)]] : List AV) = [.agg [.bs false 2 (List.map enc_si p1), .v (.int .i64 p2)]]) ∧ True) ∧ ((True) ∧ ((.v (.bool (!x5)) : AV) = (.v (.bool false) : AV))) ∧ ((([.v (.int .i64 x4)] : List AV) = [.v (.int .i64 x4)]) ∧ True) ∧ ((True) ∧ ((.v (.bool (decide (6 < x6))) : AV) = (.v (.bool false) : AV))) ∧ (True ∧ (AV.v (.int .i64 ((List.map enc_i p3).length : Int)) = AV.v (.int .i64 (p3.length : Int)))) ∧ True) (by kernel_rfl) ⟨⟨rfl, trivial⟩, ⟨⟨trivial, (congrArg (fun z => AV.v (.bool z)) b3)⟩, ⟨⟨rfl, trivial⟩, ⟨⟨trivial, (congrArg (fun z => AV.v (.bool z)) b5)⟩, ⟨⟨trivial, len_map enc_i p3⟩, trivial⟩⟩⟩⟩⟩ ⟨call_ok (ks := []) (ns := []) (bor := []) (bobjs := []) (s_spec_validFlag p1 p2 x5 e2) (.cons (.c1 (.agg (.cons (.same _ (by kernel_rfl) (by kernel_rfl)) (.cons (.same _ (by kernel_rfl) (by kernel_rfl)) (.nil))))) (.nil)) (by kernel_rfl) trivial, ⟨call_ok (ks := []) (ns := []) (bor := []) (bobjs := []) (s_spec_bitCount x4 x6 e4) (.cons (.c1 (.c0 (.same _ (by kernel_rfl) (by kernel_rfl)))) (.nil)) (by kernel_rfl) trivial, trivial⟩⟩ ?_
      rcases bool_cases (decide (64 < (p3.length : Int))) with b6 | b6
      · replace h := cd_t b6 h
        refine AX.condT (decide (64 < (p3.length : Int))) (by kernel_rfl) b6 ?_
        refine AX.seq ?_
        refine AX.reg (its := []) [4] [] (s1 := ⟨[(4, .v (.slice none 0 0))], []⟩) (C := True) (by kernel_rfl) trivial trivial ?_
        refine AX.ret ?_
        refine fin_wk (Wk.mat 4 0 2 (by kernel_rfl) (Nat.le_of_ble_eq_true (by kernel_rfl)) (by kernel_rfl) rfl) ?_
        refine fin_wk (Wk.forget [4] [0] (s' := ⟨[(4, .sl 0 0 (([] : List (Int × Int)).length))], [(0, .arr 2 (List.map enc_ii ([] : List (Int × Int))))]⟩) (by kernel_rfl)) ?_
        have hr := Option.some.inj h
        subst hr
        exact ⟨_, Wk.refl _, .inr rfl, ⟨[0], by kernel_rfl, ⟨rfl, trivial⟩, [.sl 0 0 (([] : List (Int × Int)).length)], by kernel_rfl, by kernel_rfl⟩⟩
      · replace h := cd_f b6 h
        refine AX.condF (decide (64 < (p3.length : Int))) (by kernel_rfl) b6 ?_
        refine AX.skip ?_
        refine AX.seq ?_
        refine AX.seq ?_
        refine AX.reg (its := []) [1, 5, 6] [] (s1 := ⟨[(1, .bs false 1 (List.map enc_i p3)), (5, .v (.int .i64 x4)), (6, .v (.int .i64 0))], []⟩) (C := True) (by kernel_rfl) trivial trivial ?_
        refine AX.block ?_
        obtain ⟨x10, e13, h⟩ := bd_e h
        refine AX.wk (Wk.forget [1, 5, 6] [] (s' := ⟨[(1, .bs false 1 (List.map enc_i p3)), (5, .v (.int .i64 x4)), (6, .v (.int .i64 0))], []⟩) (by kernel_rfl)) ?_
        refine AX.mono (s_spec_GreatestArms_L1 p3 x4 FU 0 x10 e13) ?_
        rintro _ _ (⟨x11, rfl, rfl, rfl⟩ | ⟨x12, rfl, rfl, rfl⟩)
        · replace h := sm_l h
          refine fin_wk (Wk.mat 4 0 2 (by kernel_rfl) (Nat.le_of_ble_eq_true (by kernel_rfl)) (by kernel_rfl) rfl) ?_
          refine fin_wk (Wk.forget [4] [0] (s' := ⟨[(4, .sl 0 0 (([] : List (Int × Int)).length))], [(0, .arr 2 (List.map enc_ii ([] : List (Int × Int))))]⟩) (by kernel_rfl)) ?_
          have hr := Option.some.inj h
          subst hr
          exact ⟨_, Wk.refl _, .inr rfl, ⟨[0], by kernel_rfl, ⟨rfl, trivial⟩, [.sl 0 0 (([] : List (Int × Int)).length)], by kernel_rfl, by kernel_rfl⟩⟩
        · replace h := sm_r h
          refine AX.seq ?_
          obtain ⟨x13, e14, h⟩ := bd_e h
          refine AX.reg (its := [.auto {}, .auto {}, .call 95 [.v (.int .i64 x4), .bs false 1 (List.map enc_i p3)] (handO (rho ([] ++ [0])) [] [] ++ []) (callEv [] [0] (.sl 0 0 x13.length) [.arr 2 (List.map enc_ii x13)])]) [7] [0] (s1 := ⟨[(7, .sl 0 0 x13.length)], [(0, .arr 2 (List.map enc_ii x13))]⟩) (C := ((([.v (.int .i64 x4), .bs false 1 (List.map enc_i p3)] : List AV) = [.v (.int .i64 x4), .bs false 1 (List.map enc_i p3)]) ∧ True) ∧ True) (by kernel_rfl) ⟨⟨rfl, trivial⟩, trivial⟩ ⟨call_ok (ks := []) (ns := [0]) (bor := []) (bobjs := []) (s_spec_armsIn x4 p3 x13 e14) (.cons (.c1 (.c0 (.same _ (by kernel_rfl) (by kernel_rfl)))) (.cons (.c1 (.c0 (.same _ (by kernel_rfl) (by kernel_rfl)))) (.nil))) (by kernel_rfl) trivial, trivial⟩ ?_
          refine AX.seq ?_
          refine AX.reg (its := [.auto { nk := 1 }]) [7, 8] [0, 1] (s1 := ⟨[(7, .sl 0 0 x13.length), (8, .sl 1 0 (([] : List (Int × Int)).length))], [(0, .arr 2 (List.map enc_ii x13)), (1, .arr 2 (List.map enc_ii ([] : List (Int × Int))))]⟩) (C := True) (by kernel_rfl) trivial trivial ?_
          refine AX.seq ?_
          refine AX.seq ?_
          refine AX.reg (its := []) [7, 8, 9] [0, 1] (s1 := ⟨[(7, .sl 0 0 x13.length), (8, .sl 1 0 (([] : List (Int × Int)).length)), (9, .v (.int .i64 0))], [(0, .arr 2 (List.map enc_ii x13)), (1, .arr 2 (List.map enc_ii ([] : List (Int × Int))))]⟩) (C := True) (by kernel_rfl) trivial trivial ?_
          refine AX.block ?_
          obtain ⟨x20, e26, h⟩ := bd_e h
          refine AX.wk (Wk.forget [7, 8, 9] [0, 1] (s' := ⟨[(7, .sl 0 0 x13.length), (8, .sl 1 0 (([] : List (Int × Int)).length)), (9, .v (.int .i64 0))], [(0, .arr 2 (List.map enc_ii x13)), (1, .arr 2 (List.map enc_ii ([] : List (Int × Int))))]⟩) (by kernel_rfl)) ?_
          refine AX.mono (s_spec_GreatestArms_L2 x13 FU (([] : List (Int × Int)), 0) x20 e26) ?_
          rintro _ _ ⟨rfl, rfl⟩
          skip
          refine AX.seq ?_
          refine AX.reg (its := []) [4] [0] (s1 := ⟨[(4, .sl 0 0 x20.length)], [(0, .arr 2 (List.map enc_ii x20))]⟩) (C := True) (by kernel_rfl) trivial trivial ?_
          refine AX.ret ?_
          refine fin_wk (Wk.forget [4] [0] (s' := ⟨[(4, .sl 0 0 x20.length)], [(0, .arr 2 (List.map enc_ii x20))]⟩) (by kernel_rfl)) ?_
          have hr := Option.some.inj h
          subst hr
          exact ⟨_, Wk.refl _, .inr rfl, ⟨[0], by kernel_rfl, ⟨rfl, trivial⟩, [.sl 0 0 x20.length], by kernel_rfl, by kernel_rfl⟩⟩

theorem s_laws_equalArms_L1 (p1 : List (Int × Int)) (p2 : List (Int × Int)) (n : Nat) (g : Int) (out : Unit ⊕ Unit) (h : m_laws_equalArms_L1 p1 p2 n g = some out) :
    AX Try.prog 26 0 (codeAt [1, 1, 0, 1, 1] (bodyOf Try.f15)) ((fun g : Int => (⟨[(0, .bs false 2 (List.map enc_ii p1)), (1, .bs false 2 (List.map enc_ii p2)), (5, .v (.int .i64 g))], []⟩ : S)) g) (fun ex s => (∃ o : Unit, out = Sum.inl o ∧ ex = .ret ∧ s = ⟨[(4, .v (.bool false))], []⟩) ∨ (∃ o : Unit, out = Sum.inr o ∧ ex = .exit 0 ∧ s = ⟨[], []⟩)) := by
  refine AX.wkpost ?_
  refine AX.loop (G := Nat × (Int)) (fun q => (fun g : Int => (⟨[(0, .bs false 2 (List.map enc_ii p1)), (1, .bs false 2 (List.map enc_ii p2)), (5, .v (.int .i64 g))], []⟩ : S)) q.2) (fun q => m_laws_equalArms_L1 p1 p2 q.1 q.2 = some out) (fun q => q.1) (n, g) h (Wk.refl _) ?_
  clear h
  rintro ⟨fu, v3⟩ h
  cases fu with
  | zero => cases h
  | succ fu =>
    rw [m_laws_equalArms_L1] at h
    refine AX.seq ?_
    refine AX.seq ?_
    refine AX.reg (its := [.auto {}, .auto {}, .auto { y := some (.v (.int .i64 (p1.length : Int))) }]) [0, 1, 5, 14] [] (s1 := ⟨[(0, .bs false 2 (List.map enc_ii p1)), (1, .bs false 2 (List.map enc_ii p2)), (5, .v (.int .i64 v3)), (14, .v (.bool (decide (v3 < (p1.length : Int)))))], []⟩) (C := (True ∧ (AV.v (.int .i64 ((List.map enc_ii p1).length : Int)) = AV.v (.int .i64 (p1.length : Int)))) ∧ True) (by kernel_rfl) ⟨⟨trivial, len_map enc_ii p1⟩, trivial⟩ trivial ?_
    rcases bool_cases (decide (v3 < (p1.length : Int))) with b2 | b2
    · replace h := cd_t b2 h
      refine AX.condT (decide (v3 < (p1.length : Int))) (by kernel_rfl) b2 ?_
      refine AX.skip ?_
      refine AX.seq ?_
      refine AX.block ?_
      refine AX.seq ?_
      obtain ⟨g3, h⟩ := gd_e h
      obtain ⟨g4, h⟩ := gd_e h
      obtain ⟨v4, q5, h⟩ := nm_e h
      refine AX.drw mixed (its := [.auto {}, .auto {}, .auto { y := some (.be 2 (enc_ii (gt p1 v3)) 0) }, .auto {}, .auto {}, .auto {}, .auto { y := some (.be 2 (enc_ii (gt p2 v3)) 0) }, .auto {}, .auto { y := some (.v (.bool v4)) }]) [0, 1, 5, 25] [] (s1 := ⟨[(0, .bs false 2 (List.map enc_ii p1)), (1, .bs false 2 (List.map enc_ii p2)), (5, .v (.int .i64 v3)), (25, .v (.bool v4))], []⟩) (C := ((0 ≤ v3 ∧ v3 < ((List.map enc_ii p1).length : Int)) ∧ (AV.be 2 ((List.map enc_ii p1).getD v3.toNat []) 0 = AV.be 2 (enc_ii (gt p1 v3)) 0)) ∧ ((0 ≤ v3 ∧ v3 < ((List.map enc_ii p2).length : Int)) ∧ (AV.be 2 ((List.map enc_ii p2).getD v3.toNat []) 0 = AV.be 2 (enc_ii (gt p2 v3)) 0)) ∧ ((True) ∧ ((.v (.bool (!(decide (((gt p1 v3).1) = ((gt p2 v3).1)) && (decide (((gt p1 v3).2) = ((gt p2 v3).2)) && true)))) : AV) = (.v (.bool v4) : AV))) ∧ True) (by kernel_rfl) ⟨idx_bs enc_ii p1 v3 2 g3, ⟨idx_bs enc_ii p2 v3 2 g4, ⟨⟨trivial, (congrArg (fun z => AV.v (.bool z)) q5)⟩, trivial⟩⟩⟩ trivial ?_
      rcases bool_cases (v4) with b6 | b6
      · replace h := cd_t b6 h
        refine AX.condT (v4) (by kernel_rfl) b6 ?_
        refine AX.seq ?_
        refine AX.reg (its := []) [4] [] (s1 := ⟨[(4, .v (.bool false))], []⟩) (C := True) (by kernel_rfl) trivial trivial ?_
        refine AX.ret ?_
        refine fin_wk (Wk.forget [4] [] (s' := ⟨[(4, .v (.bool false))], []⟩) (by kernel_rfl)) ?_
        have hr := Option.some.inj h
        subst hr
        exact ⟨_, Wk.refl _, .inl ⟨(), rfl, rfl, rfl⟩⟩
      · replace h := cd_f b6 h
        refine AX.condF (v4) (by kernel_rfl) b6 ?_
        refine AX.skip ?_
        refine AX.reg (its := [.auto {}, .auto { raw := true }]) [0, 1, 5] [] (s1 := ⟨[(0, .bs false 2 (List.map enc_ii p1)), (1, .bs false 2 (List.map enc_ii p2)), (5, .v (.int .i64 (IntKind.wrap .i64 (v3 + 1))))], []⟩) (C := True) (by kernel_rfl) trivial trivial ?_
        refine ⟨(fu, IntKind.wrap .i64 (v3 + 1)), h, Nat.lt_succ_self _, ?_⟩
        refine Wk.trans (Wk.forget [0, 1, 5] [] (s' := ⟨[(0, .bs false 2 (List.map enc_ii p1)), (1, .bs false 2 (List.map enc_ii p2)), (5, .v (.int .i64 (IntKind.wrap .i64 (v3 + 1))))], []⟩) (by kernel_rfl)) ?_
        exact Wk.refl _
    · replace h := cd_f b2 h
      refine AX.condF (decide (v3 < (p1.length : Int))) (by kernel_rfl) b2 ?_
      refine AX.exit ?_
      refine fin_wk (Wk.forget [] [] (s' := ⟨[], []⟩) (by kernel_rfl)) ?_
      have hr := Option.some.inj h
      subst hr
      exact ⟨_, Wk.refl _, .inr ⟨(), rfl, rfl, rfl⟩⟩

theorem s_laws_equalArms (p1 : List (Int × Int)) (p2 : List (Int × Int)) (r : Bool) (h : m_laws_equalArms p1 p2 = some r) :
    Eng.Spec Try.prog 15 [.bs false 2 (List.map enc_ii p1), .bs false 2 (List.map enc_ii p2)] [] (.v (.bool r)) [] := by
  unfold m_laws_equalArms at h
  refine Eng.Spec.body Try.func15 (by kernel_rfl) rfl (by kernel_rfl) ?_
  refine AX.wkpost ?_
  refine AX.seq ?_
  refine AX.reg (its := []) [0, 1] [] (s1 := ⟨[(0, .bs false 2 (List.map enc_ii p1)), (1, .bs false 2 (List.map enc_ii p2))], []⟩) (C := True) (by kernel_rfl) trivial trivial ?_
  refine AX.seq ?_
  refine AX.seq ?_
  refine AX.reg (its := [.auto {}, .auto { y := some (.v (.int .i64 (p1.length : Int))) }, .auto {}, .auto { y := some (.v (.int .i64 (p2.length : Int))) }]) [0, 1, 10] [] (s1 := ⟨[(0, .bs false 2 (List.map enc_ii p1)), (1, .bs false 2 (List.map enc_ii p2)), (10, .v (.bool (!decide ((p1.length : Int) = (p2.length : Int)))))], []⟩) (C := (True ∧ (AV.v (.int .i64 ((List.map enc_ii p1).length : Int)) = AV.v (.int .i64 (p1.length : Int)))) ∧ (True ∧ (AV.v (.int .i64 ((List.map enc_ii p2).length : Int)) = AV.v (.int .i64 (p2.length : Int)))) ∧ True) (by kernel_rfl) ⟨⟨trivial, len_map enc_ii p1⟩, ⟨⟨trivial, len_map enc_ii p2⟩, trivial⟩⟩ trivial ?_
  rcases bool_cases ((!decide ((p1.length : Int) = (p2.length : Int)))) with b1 | b1
  · replace h := cd_t b1 h
    refine AX.condT ((!decide ((p1.length : Int) = (p2.length : Int)))) (by kernel_rfl) b1 ?_
    refine AX.seq ?_
    refine AX.reg (its := []) [4] [] (s1 := ⟨[(4, .v (.bool false))], []⟩) (C := True) (by kernel_rfl) trivial trivial ?_
    refine AX.ret ?_
    refine fin_wk (Wk.forget [4] [] (s' := ⟨[(4, .v (.bool false))], []⟩) (by kernel_rfl)) ?_
    have hr := Option.some.inj h
    subst hr
    exact ⟨_, Wk.refl _, .inr rfl, ⟨[], by kernel_rfl, trivial, [.v (.bool false)], by kernel_rfl, by kernel_rfl⟩⟩
  · replace h := cd_f b1 h
    refine AX.condF ((!decide ((p1.length : Int) = (p2.length : Int)))) (by kernel_rfl) b1 ?_
    refine AX.skip ?_
    refine AX.seq ?_
    refine AX.seq ?_
    refine AX.reg (its := []) [0, 1, 5] [] (s1 := ⟨[(0, .bs false 2 (List.map enc_ii p1)), (1, .bs false 2 (List.map enc_ii p2)), (5, .v (.int .i64 0))], []⟩) (C := True) (by kernel_rfl) trivial trivial ?_
    refine AX.block ?_
    obtain ⟨x5, e7, h⟩ := bd_e h
    refine AX.wk (Wk.forget [0, 1, 5] [] (s' := ⟨[(0, .bs false 2 (List.map enc_ii p1)), (1, .bs false 2 (List.map enc_ii p2)), (5, .v (.int .i64 0))], []⟩) (by kernel_rfl)) ?_
    refine AX.mono (s_laws_equalArms_L1 p1 p2 FU 0 x5 e7) ?_
    rintro _ _ (⟨x6, rfl, rfl, rfl⟩ | ⟨x7, rfl, rfl, rfl⟩)
    · replace h := sm_l h
      refine fin_wk (Wk.forget [4] [] (s' := ⟨[(4, .v (.bool false))], []⟩) (by kernel_rfl)) ?_
      have hr := Option.some.inj h
      subst hr
      exact ⟨_, Wk.refl _, .inr rfl, ⟨[], by kernel_rfl, trivial, [.v (.bool false)], by kernel_rfl, by kernel_rfl⟩⟩
    · replace h := sm_r h
      refine AX.seq ?_
      refine AX.reg (its := []) [4] [] (s1 := ⟨[(4, .v (.bool true))], []⟩) (C := True) (by kernel_rfl) trivial trivial ?_
      refine AX.ret ?_
      refine fin_wk (Wk.forget [4] [] (s' := ⟨[(4, .v (.bool true))], []⟩) (by kernel_rfl)) ?_
      have hr := Option.some.inj h
      subst hr
      exact ⟨_, Wk.refl _, .inr rfl, ⟨[], by kernel_rfl, trivial, [.v (.bool true)], by kernel_rfl, by kernel_rfl⟩⟩

theorem s_impl_MaskOf (p1 : List (ByteArray × Int)) (p2 : Int) (r : Int) (h : m_impl_MaskOf p1 p2 = some r) :
    Eng.Spec Try.prog 18 [.agg [.bs false 2 (List.map enc_si p1), .v (.int .i64 p2)]] [] (.v (.int .i64 r)) [] := by
  unfold m_impl_MaskOf at h
  refine Eng.Spec.body Try.func18 (by kernel_rfl) rfl (by kernel_rfl) ?_
  refine AX.wkpost ?_
  refine AX.seq ?_
  refine AX.reg (its := [.auto { nk := 0 }]) [1] [0] (s1 := ⟨[(1, .pt 0 0)], [(0, .box [.bs false 2 (List.map enc_si p1), .v (.int .i64 p2)])]⟩) (C := True) (by kernel_rfl) trivial trivial ?_
  refine AX.seq ?_
  refine AX.seq ?_
  obtain ⟨x3, e1, h⟩ := bd_e h
  refine AX.reg (its := [.auto {}, .call 60 [.agg [.bs false 2 (List.map enc_si p1), .v (.int .i64 p2)]] (handO (rho ([] ++ [])) [] [] ++ []) (callEv [] [] (.v (.bool x3)) [])]) [1, 5] [0] (s1 := ⟨[(1, .pt 0 0), (5, .v (.bool (!x3)))], [(0, .box [.bs false 2 (List.map enc_si p1), .v (.int .i64 p2)])]⟩) (C := ((([.agg [.bs false 2 (List.map enc_si p1), .v (.int .i64 p2)]] : List AV) = [.agg [.bs false 2 (List.map enc_si p1), .v (.int .i64 p2)]]) ∧ True) ∧ True) (by kernel_rfl) ⟨⟨rfl, trivial⟩, trivial⟩ ⟨call_ok (ks := []) (ns := []) (bor := []) (bobjs := []) (s_impl_ValidFlag p1 p2 x3 e1) (.cons (.c1 (.agg (.cons (.same _ (by kernel_rfl) (by kernel_rfl)) (.cons (.same _ (by kernel_rfl) (by kernel_rfl)) (.nil))))) (.nil)) (by kernel_rfl) trivial, trivial⟩ ?_
  rcases bool_cases ((!x3)) with b2 | b2
  · replace h := cd_t b2 h
    refine AX.condT ((!x3)) (by kernel_rfl) b2 ?_
    refine AX.seq ?_
    refine AX.reg (its := []) [2] [] (s1 := ⟨[(2, .v (.int .i64 (-1)))], []⟩) (C := True) (by kernel_rfl) trivial trivial ?_
    refine AX.ret ?_
    refine fin_wk (Wk.forget [2] [] (s' := ⟨[(2, .v (.int .i64 (-1)))], []⟩) (by kernel_rfl)) ?_
    have hr := Option.some.inj h
    subst hr
    exact ⟨_, Wk.refl _, .inr rfl, ⟨[], by kernel_rfl, trivial, [.v (.int .i64 (-1))], by kernel_rfl, by kernel_rfl⟩⟩
  · replace h := cd_f b2 h
    refine AX.condF ((!x3)) (by kernel_rfl) b2 ?_
    refine AX.skip ?_
    refine AX.seq ?_
    obtain ⟨x4, e3, h⟩ := bd_e h
    refine AX.reg (its := [.auto {}, .call 81 [.agg [.bs false 2 (List.map enc_si p1), .v (.int .i64 p2)]] (handO (rho ([] ++ [])) [] [] ++ []) (callEv [] [] (.v (.int .i64 x4)) [])]) [2] [] (s1 := ⟨[(2, .v (.int .i64 x4))], []⟩) (C := ((([.agg [.bs false 2 (List.map enc_si p1), .v (.int .i64 p2)]] : List AV) = [.agg [.bs false 2 (List.map enc_si p1), .v (.int .i64 p2)]]) ∧ True) ∧ True) (by kernel_rfl) ⟨⟨rfl, trivial⟩, trivial⟩ ⟨call_ok (ks := []) (ns := []) (bor := []) (bobjs := []) (s_impl_Flag_mask p1 p2 x4 e3) (.cons (.c1 (.agg (.cons (.same _ (by kernel_rfl) (by kernel_rfl)) (.cons (.same _ (by kernel_rfl) (by kernel_rfl)) (.nil))))) (.nil)) (by kernel_rfl) trivial, trivial⟩ ?_
    refine AX.ret ?_
    refine fin_wk (Wk.forget [2] [] (s' := ⟨[(2, .v (.int .i64 x4))], []⟩) (by kernel_rfl)) ?_
    have hr := Option.some.inj h
    subst hr
    exact ⟨_, Wk.refl _, .inr rfl, ⟨[], by kernel_rfl, trivial, [.v (.int .i64 x4)], by kernel_rfl, by kernel_rfl⟩⟩

theorem s_impl_IsValue (p1 : List (ByteArray × Int)) (p2 : Int) (p3 : Int) (r : Bool) (h : m_impl_IsValue p1 p2 p3 = some r) :
    Eng.Spec Try.prog 70 [.agg [.bs false 2 (List.map enc_si p1), .v (.int .i64 p2)], .v (.int .i64 p3)] [] (.v (.bool r)) [] := by
  unfold m_impl_IsValue at h
  refine Eng.Spec.body Try.func70 (by kernel_rfl) rfl (by kernel_rfl) ?_
  refine AX.wkpost ?_
  refine AX.seq ?_
  refine AX.reg (its := [.auto { nk := 0 }]) [1, 2] [0] (s1 := ⟨[(1, .v (.int .i64 p3)), (2, .pt 0 0)], [(0, .box [.bs false 2 (List.map enc_si p1), .v (.int .i64 p2)])]⟩) (C := True) (by kernel_rfl) trivial trivial ?_
  refine AX.seq ?_
  obtain ⟨x4, e1, h⟩ := bd_e h
  rcases bool_cases (x4) with b2 | b2
  · replace h := cd_t b2 h
    obtain ⟨x5, e3, h⟩ := bd_e h
    rcases bool_cases (x5) with b4 | b4
    · replace h := cd_t b4 h
      rcases bool_cases (decide (p2 = 3)) with b5 | b5
      · replace h := cd_t b5 h
        refine AX.reg (its := [.auto {}, .call 60 [.agg [.bs false 2 (List.map enc_si p1), .v (.int .i64 p2)]] (handO (rho ([] ++ [])) [] [] ++ []) (callEv [] [] (.v (.bool true)) []), .auto {}, .auto {}, .call 130 [.v (.int .i64 p3), .v (.int .i64 0), .v (.int .i64 4095)] (handO (rho ([] ++ [])) [] [] ++ []) (callEv [] [] (.v (.bool true)) []), .auto {}, .auto {}, .auto {}, .auto {}, .auto { y := some (.v (.bool true)) }]) [4] [] (s1 := ⟨[(4, .v (.bool true))], []⟩) (C := ((([.agg [.bs false 2 (List.map enc_si p1), .v (.int .i64 p2)]] : List AV) = [.agg [.bs false 2 (List.map enc_si p1), .v (.int .i64 p2)]]) ∧ True) ∧ ((([.v (.int .i64 p3), .v (.int .i64 0), .v (.int .i64 4095)] : List AV) = [.v (.int .i64 p3), .v (.int .i64 0), .v (.int .i64 4095)]) ∧ True) ∧ ((True) ∧ ((.v (.bool (decide (p2 = 3))) : AV) = (.v (.bool true) : AV))) ∧ True) (by kernel_rfl) ⟨⟨rfl, trivial⟩, ⟨⟨rfl, trivial⟩, ⟨⟨trivial, (congrArg (fun z => AV.v (.bool z)) b5)⟩, trivial⟩⟩⟩ ⟨call_ok (ks := []) (ns := []) (bor := []) (bobjs := []) (show Eng.Spec Try.prog 60 [.agg [.bs false 2 (List.map enc_si p1), .v (.int .i64 p2)]] [] (.v (.bool true)) [] from by have q := s_impl_ValidFlag p1 p2 x4 e1; rw [b2] at q; exact q) (.cons (.c1 (.agg (.cons (.same _ (by kernel_rfl) (by kernel_rfl)) (.cons (.same _ (by kernel_rfl) (by kernel_rfl)) (.nil))))) (.nil)) (by kernel_rfl) trivial, ⟨call_ok (ks := []) (ns := []) (bor := []) (bobjs := []) (show Eng.Spec Try.prog 130 [.v (.int .i64 p3), .v (.int .i64 0), .v (.int .i64 4095)] [] (.v (.bool true)) [] from by have q := s_impl_in p3 0 4095 x5 e3; rw [b4] at q; exact q) (.cons (.c1 (.c0 (.same _ (by kernel_rfl) (by kernel_rfl)))) (.cons (.c1 (.c0 (.same _ (by kernel_rfl) (by kernel_rfl)))) (.cons (.c1 (.c0 (.same _ (by kernel_rfl) (by kernel_rfl)))) (.nil)))) (by kernel_rfl) trivial, trivial⟩⟩ ?_
        refine AX.ret ?_
        refine fin_wk (Wk.forget [4] [] (s' := ⟨[(4, .v (.bool true))], []⟩) (by kernel_rfl)) ?_
        have hr := Option.some.inj h
        subst hr
        exact ⟨_, Wk.refl _, .inr rfl, ⟨[], by kernel_rfl, trivial, [.v (.bool true)], by kernel_rfl, by kernel_rfl⟩⟩
      · replace h := cd_f b5 h
        obtain ⟨x6, e6, h⟩ := bd_e h
        refine AX.reg (its := [.auto {}, .call 60 [.agg [.bs false 2 (List.map enc_si p1), .v (.int .i64 p2)]] (handO (rho ([] ++ [])) [] [] ++ []) (callEv [] [] (.v (.bool true)) []), .auto {}, .auto {}, .call 130 [.v (.int .i64 p3), .v (.int .i64 0), .v (.int .i64 4095)] (handO (rho ([] ++ [])) [] [] ++ []) (callEv [] [] (.v (.bool true)) []), .auto {}, .auto {}, .auto {}, .auto {}, .auto { y := some (.v (.bool false)) }, .auto {}, .auto {}, .auto {}, .call 81 [.agg [.bs false 2 (List.map enc_si p1), .v (.int .i64 p2)]] (handO (rho ([] ++ [])) [] [] ++ []) (callEv [] [] (.v (.int .i64 x6)) [])]) [4] [] (s1 := ⟨[(4, .v (.bool (decide ((Go.bits .andNot .i64 p3 x6) = 0))))], []⟩) (C := ((([.agg [.bs false 2 (List.map enc_si p1), .v (.int .i64 p2)]] : List AV) = [.agg [.bs false 2 (List.map enc_si p1), .v (.int .i64 p2)]]) ∧ True) ∧ ((([.v (.int .i64 p3), .v (.int .i64 0), .v (.int .i64 4095)] : List AV) = [.v (.int .i64 p3), .v (.int .i64 0), .v (.int .i64 4095)]) ∧ True) ∧ ((True) ∧ ((.v (.bool (decide (p2 = 3))) : AV) = (.v (.bool false) : AV))) ∧ ((([.agg [.bs false 2 (List.map enc_si p1), .v (.int .i64 p2)]] : List AV) = [.agg [.bs false 2 (List.map enc_si p1), .v (.int .i64 p2)]]) ∧ True) ∧ True) (by kernel_rfl) ⟨⟨rfl, trivial⟩, ⟨⟨rfl, trivial⟩, ⟨⟨trivial, (congrArg (fun z => AV.v (.bool z)) b5)⟩, ⟨⟨rfl, trivial⟩, trivial⟩⟩⟩⟩ ⟨call_ok (ks := []) (ns := []) (bor := []) (bobjs := []) (show Eng.Spec Try.prog 60 [.agg [.bs false 2 (List.map enc_si p1), .v (.int .i64 p2)]] [] (.v (.bool true)) [] from by have q := s_impl_ValidFlag p1 p2 x4 e1; rw [b2] at q; exact q) (.cons (.c1 (.agg (.cons (.same _ (by kernel_rfl) (by kernel_rfl)) (.cons (.same _ (by kernel_rfl) (by kernel_rfl)) (.nil))))) (.nil)) (by kernel_rfl) trivial, ⟨call_ok (ks := []) (ns := []) (bor := []) (bobjs := []) (show Eng.Spec Try.prog 130 [.v (.int .i64 p3), .v (.int .i64 0), .v (.int .i64 4095)] [] (.v (.bool true)) [] from by have q := s_impl_in p3 0 4095 x5 e3; rw [b4] at q; exact q) (.cons (.c1 (.c0 (.same _ (by kernel_rfl) (by kernel_rfl)))) (.cons (.c1 (.c0 (.same _ (by kernel_rfl) (by kernel_rfl)))) (.cons (.c1 (.c0 (.same _ (by kernel_rfl) (by kernel_rfl)))) (.nil)))) (by kernel_rfl) trivial, ⟨call_ok (ks := []) (ns := []) (bor := []) (bobjs := []) (s_impl_Flag_mask p1 p2 x6 e6) (.cons (.c1 (.agg (.cons (.same _ (by kernel_rfl) (by kernel_rfl)) (.cons (.same _ (by kernel_rfl) (by kernel_rfl)) (.nil))))) (.nil)) (by kernel_rfl) trivial, trivial⟩⟩⟩ ?_
        refine AX.ret ?_
        refine fin_wk (Wk.forget [4] [] (s' := ⟨[(4, .v (.bool (decide ((Go.bits .andNot .i64 p3 x6) = 0))))], []⟩) (by kernel_rfl)) ?_
        have hr := Option.some.inj h
        subst hr
        exact ⟨_, Wk.refl _, .inr rfl, ⟨[], by kernel_rfl, trivial, [.v (.bool (decide ((Go.bits .andNot .i64 p3 x6) = 0)))], by kernel_rfl, by kernel_rfl⟩⟩
    · replace h := cd_f b4 h
      refine AX.reg (its := [.auto {}, .call 60 [.agg [.bs false 2 (List.map enc_si p1), .v (.int .i64 p2)]] (handO (rho ([] ++ [])) [] [] ++ []) (callEv [] [] (.v (.bool true)) []), .auto {}, .auto {}, .call 130 [.v (.int .i64 p3), .v (.int .i64 0), .v (.int .i64 4095)] (handO (rho ([] ++ [])) [] [] ++ []) (callEv [] [] (.v (.bool false)) [])]) [4] [] (s1 := ⟨[(4, .v (.bool false))], []⟩) (C := ((([.agg [.bs false 2 (List.map enc_si p1), .v (.int .i64 p2)]] : List AV) = [.agg [.bs false 2 (List.map enc_si p1), .v (.int .i64 p2)]]) ∧ True) ∧ ((([.v (.int .i64 p3), .v (.int .i64 0), .v (.int .i64 4095)] : List AV) = [.v (.int .i64 p3), .v (.int .i64 0), .v (.int .i64 4095)]) ∧ True) ∧ True) (by kernel_rfl) ⟨⟨rfl, trivial⟩, ⟨⟨rfl, trivial⟩, trivial⟩⟩ ⟨call_ok (ks := []) (ns := []) (bor := []) (bobjs := []) (show Eng.Spec Try.prog 60 [.agg [.bs false 2 (List.map enc_si p1), .v (.int .i64 p2)]] [] (.v (.bool true)) [] from by have q := s_impl_ValidFlag p1 p2 x4 e1; rw [b2] at q; exact q) (.cons (.c1 (.agg (.cons (.same _ (by kernel_rfl) (by kernel_rfl)) (.cons (.same _ (by kernel_rfl) (by kernel_rfl)) (.nil))))) (.nil)) (by kernel_rfl) trivial, ⟨call_ok (ks := []) (ns := []) (bor := []) (bobjs := []) (show Eng.Spec Try.prog 130 [.v (.int .i64 p3), .v (.int .i64 0), .v (.int .i64 4095)] [] (.v (.bool false)) [] from by have q := s_impl_in p3 0 4095 x5 e3; rw [b4] at q; exact q) (.cons (.c1 (.c0 (.same _ (by kernel_rfl) (by kernel_rfl)))) (.cons (.c1 (.c0 (.same _ (by kernel_rfl) (by kernel_rfl)))) (.cons (.c1 (.c0 (.same _ (by kernel_rfl) (by kernel_rfl)))) (.nil)))) (by kernel_rfl) trivial, trivial⟩⟩ ?_
      refine AX.ret ?_
      refine fin_wk (Wk.forget [4] [] (s' := ⟨[(4, .v (.bool false))], []⟩) (by kernel_rfl)) ?_
      have hr := Option.some.inj h
      subst hr
      exact ⟨_, Wk.refl _, .inr rfl, ⟨[], by kernel_rfl, trivial, [.v (.bool false)], by kernel_rfl, by kernel_rfl⟩⟩
  · replace h := cd_f b2 h
    refine AX.reg (its := [.auto {}, .call 60 [.agg [.bs false 2 (List.map enc_si p1), .v (.int .i64 p2)]] (handO (rho ([] ++ [])) [] [] ++ []) (callEv [] [] (.v (.bool false)) [])]) [4] [] (s1 := ⟨[(4, .v (.bool false))], []⟩) (C := ((([.agg [.bs false 2 (List.map enc_si p1), .v (.int .i64 p2)]] : List AV) = [.agg [.bs false 2 (List.map enc_si p1), .v (.int .i64 p2)]]) ∧ True) ∧ True) (by kernel_rfl) ⟨⟨rfl, trivial⟩, trivial⟩ ⟨call_ok (ks := []) (ns := []) (bor := []) (bobjs := []) (show Eng.Spec Try.prog 60 [.agg [.bs false 2 (List.map enc_si p1), .v (.int .i64 p2)]] [] (.v (.bool false)) [] from by have q := s_impl_ValidFlag p1 p2 x4 e1; rw [b2] at q; exact q) (.cons (.c1 (.agg (.cons (.same _ (by kernel_rfl) (by kernel_rfl)) (.cons (.same _ (by kernel_rfl) (by kernel_rfl)) (.nil))))) (.nil)) (by kernel_rfl) trivial, trivial⟩ ?_
    refine AX.ret ?_
    refine fin_wk (Wk.forget [4] [] (s' := ⟨[(4, .v (.bool false))], []⟩) (by kernel_rfl)) ?_
    have hr := Option.some.inj h
    subst hr
    exact ⟨_, Wk.refl _, .inr rfl, ⟨[], by kernel_rfl, trivial, [.v (.bool false)], by kernel_rfl, by kernel_rfl⟩⟩

theorem s_slices_Clip_i (p1 : List (Int)) (r : Unit) (h : m_slices_Clip_i p1 = some r) :
    Eng.Spec Try.prog 97 [.bs false 1 (List.map enc_i p1)] [] (.bs false 1 (List.map enc_i (sub p1 (0 : Int) (p1.length : Int)))) [] := by
  unfold m_slices_Clip_i at h
  refine Eng.Spec.body Try.func97 (by kernel_rfl) rfl (by kernel_rfl) ?_
  refine AX.wkpost ?_
  refine AX.seq ?_
  refine AX.reg (its := []) [0] [] (s1 := ⟨[(0, .bs false 1 (List.map enc_i p1))], []⟩) (C := True) (by kernel_rfl) trivial trivial ?_
  refine AX.seq ?_
  obtain ⟨g1, h⟩ := gd_e h
  refine AX.reg (its := [.auto {}, .auto {}, .auto { y := some (.v (.int .i64 (p1.length : Int))) }, .auto {}, .auto { y := some (.v (.int .i64 (p1.length : Int))) }, .auto { y := some (.bs false 1 (List.map enc_i (sub p1 (0 : Int) (p1.length : Int)))) }]) [2] [] (s1 := ⟨[(2, .bs false 1 (List.map enc_i (sub p1 (0 : Int) (p1.length : Int))))], []⟩) (C := (True ∧ (AV.v (.int .i64 ((List.map enc_i p1).length : Int)) = AV.v (.int .i64 (p1.length : Int)))) ∧ (True ∧ (AV.v (.int .i64 ((List.map enc_i p1).length : Int)) = AV.v (.int .i64 (p1.length : Int)))) ∧ ((0 ≤ (0 : Int) ∧ (0 : Int) ≤ (p1.length : Int) ∧ (p1.length : Int) ≤ (p1.length : Int) ∧ (p1.length : Int) ≤ ((List.map enc_i p1).length : Int)) ∧ (AV.bs false 1 (((List.map enc_i p1).drop (0 : Int).toNat).take ((p1.length : Int).toNat - (0 : Int).toNat)) = (.bs false 1 (List.map enc_i (sub p1 (0 : Int) (p1.length : Int))) : AV))) ∧ True) (by kernel_rfl) ⟨⟨trivial, len_map enc_i p1⟩, ⟨⟨trivial, len_map enc_i p1⟩, ⟨⟨by first | exact g1 | simpa only [List.length_map] using g1, by first | exact sub_can enc_i p1 (0 : Int) (p1.length : Int) false 1 | (simp only [List.length_map]; exact sub_can enc_i p1 (0 : Int) (p1.length : Int) false 1)⟩, trivial⟩⟩⟩ trivial ?_
  refine AX.ret ?_
  refine fin_wk (Wk.forget [2] [] (s' := ⟨[(2, .bs false 1 (List.map enc_i (sub p1 (0 : Int) (p1.length : Int))))], []⟩) (by kernel_rfl)) ?_
  have hr := Option.some.inj h
  subst hr
  exact ⟨_, Wk.refl _, .inr rfl, ⟨[], by kernel_rfl, trivial, [.bs false 1 (List.map enc_i (sub p1 (0 : Int) (p1.length : Int)))], by kernel_rfl, by kernel_rfl⟩⟩

theorem s_slices_Clip_hi (p1 : List (Int)) (r : Unit) (h : m_slices_Clip_hi p1 = some r) :
    Eng.Spec Try.prog 97 [.sl 0 0 p1.length] [.arr 1 (List.map enc_i p1)] (.sl 0 0 p1.length) [.arr 1 (List.map enc_i p1)] := by
  unfold m_slices_Clip_hi at h
  refine Eng.Spec.body Try.func97 (by kernel_rfl) rfl (by kernel_rfl) ?_
  refine AX.wkpost ?_
  refine AX.seq ?_
  refine AX.reg (its := []) [0] [0] (s1 := ⟨[(0, .sl 0 0 p1.length)], [(0, .arr 1 (List.map enc_i p1))]⟩) (C := True) (by kernel_rfl) trivial trivial ?_
  refine AX.seq ?_
  refine AX.reg (its := [.auto {}, .auto {}, .auto {}, .auto {}, .auto {}, .auto { y := some (.sl 0 0 p1.length) }]) [2] [0] (s1 := ⟨[(2, .sl 0 0 p1.length)], [(0, .arr 1 (List.map enc_i p1))]⟩) (C := ((0 ≤ (0 : Int) ∧ (0 : Int) ≤ (p1.length : Int) ∧ (p1.length : Int) ≤ (p1.length : Int) ∧ (p1.length : Int) ≤ (p1.length : Int)) ∧ (AV.sl 0 (0 + (0 : Int).toNat) ((p1.length : Int).toNat - (0 : Int).toNat) = AV.sl 0 0 p1.length)) ∧ True) (by kernel_rfl) ⟨⟨⟨by omega, by omega, by omega, by omega⟩, rfl⟩, trivial⟩ trivial ?_
  refine AX.ret ?_
  refine fin_wk (Wk.forget [2] [0] (s' := ⟨[(2, .sl 0 0 p1.length)], [(0, .arr 1 (List.map enc_i p1))]⟩) (by kernel_rfl)) ?_
  have hr := Option.some.inj h
  subst hr
  exact ⟨_, Wk.refl _, .inr rfl, ⟨[], by kernel_rfl, ⟨rfl, trivial⟩, [.sl 0 0 p1.length], by kernel_rfl, by kernel_rfl⟩⟩

theorem s_impl_PartsOf_L1 (p3 : Int) (n : Nat) (g : List (Int) × Int) (out : List (Int)) (h : m_impl_PartsOf_L1 p3 n g.1 g.2 = some out) :
    AX Try.prog 32 0 (codeAt [1, 1, 1, 0, 1, 1] (bodyOf Try.f17)) ((fun g : List (Int) × Int => (⟨[(1, .v (.int .i64 p3)), (5, .sl 0 0 g.1.length), (6, .v (.int .i64 g.2))], [(0, .arr 1 (List.map enc_i g.1))]⟩ : S)) g) (fun ex s => ex = .exit 0 ∧ s = (fun o : List (Int) => (⟨[(5, .sl 0 0 o.length)], [(0, .arr 1 (List.map enc_i o))]⟩ : S)) out) := by
  refine AX.wkpost ?_
  refine AX.loop (G := Nat × (List (Int) × Int)) (fun q => (fun g : List (Int) × Int => (⟨[(1, .v (.int .i64 p3)), (5, .sl 0 0 g.1.length), (6, .v (.int .i64 g.2))], [(0, .arr 1 (List.map enc_i g.1))]⟩ : S)) q.2) (fun q => m_impl_PartsOf_L1 p3 q.1 q.2.1 q.2.2 = some out) (fun q => q.1) (n, g) h (Wk.refl _) ?_
  clear h
  rintro ⟨fu, v6, v7⟩ h
  cases fu with
  | zero => cases h
  | succ fu =>
    rw [m_impl_PartsOf_L1] at h
    refine AX.seq ?_
    refine AX.seq ?_
    refine AX.reg (its := []) [1, 5, 6, 19] [0] (s1 := ⟨[(1, .v (.int .i64 p3)), (5, .sl 0 0 v6.length), (6, .v (.int .i64 v7)), (19, .v (.bool (decide (v7 ≤ p3))))], [(0, .arr 1 (List.map enc_i v6))]⟩) (C := True) (by kernel_rfl) trivial trivial ?_
    rcases bool_cases (decide (v7 ≤ p3)) with b5 | b5
    · replace h := cd_t b5 h
      refine AX.condT (decide (v7 ≤ p3)) (by kernel_rfl) b5 ?_
      refine AX.skip ?_
      refine AX.seq ?_
      refine AX.block ?_
      refine AX.seq ?_
      refine AX.reg (its := []) [1, 5, 6, 25] [0] (s1 := ⟨[(1, .v (.int .i64 p3)), (5, .sl 0 0 v6.length), (6, .v (.int .i64 v7)), (25, .v (.bool (decide ((Go.bits .andNot .i64 v7 p3) = 0))))], [(0, .arr 1 (List.map enc_i v6))]⟩) (C := True) (by kernel_rfl) trivial trivial ?_
      rcases bool_cases (decide ((Go.bits .andNot .i64 v7 p3) = 0)) with b6 | b6
      · replace h := cd_t b6 h
        refine AX.condT (decide ((Go.bits .andNot .i64 v7 p3) = 0)) (by kernel_rfl) b6 ?_
        obtain ⟨g7, h⟩ := gd_e h
        refine AX.reg (its := [.auto {}, .auto {}, .auto { nk := 1 }, .auto { y := some (.sl 2 0 ((v6 ++ ([v7] : List (Int))).length)), els := some (List.map enc_i v6), els2 := some (List.map enc_i ([v7] : List (Int))), nk := 2 }]) [1, 5, 6] [2] (s1 := ⟨[(1, .v (.int .i64 p3)), (5, .sl 2 0 ((v6 ++ ([v7] : List (Int))).length)), (6, .v (.int .i64 v7))], [(2, .arr 1 (List.map enc_i v6 ++ List.map enc_i ([v7] : List (Int))))]⟩) (C := ((((((List.map enc_i v6).drop 0).take (v6.length) = List.map enc_i v6) ∧ (((List.map enc_i ([v7] : List (Int))).drop 0).take (([v7] : List (Int)).length) = List.map enc_i ([v7] : List (Int)))) ∧ (List.map enc_i v6).length + (List.map enc_i ([v7] : List (Int))).length ≤ 1099511627776) ∧ (AV.sl 2 0 (List.map enc_i v6 ++ List.map enc_i ([v7] : List (Int))).length = AV.sl 2 0 (v6 ++ ([v7] : List (Int))).length)) ∧ True) (by kernel_rfl) ⟨⟨⟨⟨(dt_all (enc := enc_i) rfl rfl), (dt_all (enc := enc_i) rfl rfl)⟩, (by simp only [List.length_map, List.length_nil]; simpa using g7)⟩, sl_len (enc := enc_i) (app_can (enc := enc_i) rfl rfl)⟩, trivial⟩ trivial ?_
        refine AX.reg (its := [.auto {}, .auto { raw := true }]) [1, 5, 6] [2] (s1 := ⟨[(1, .v (.int .i64 p3)), (5, .sl 2 0 ((v6 ++ ([v7] : List (Int))).length)), (6, .v (.int .i64 (IntKind.wrap .i64 (v7 + 1))))], [(2, .arr 1 (List.map enc_i v6 ++ List.map enc_i ([v7] : List (Int))))]⟩) (C := True) (by kernel_rfl) trivial trivial ?_
        refine ⟨(fu, (v6 ++ ([v7] : List (Int)), IntKind.wrap .i64 (v7 + 1))), h, Nat.lt_succ_self _, ?_⟩
        refine Wk.trans (Wk.swap 0 2 (Nat.le_of_ble_eq_true (by kernel_rfl)) (Nat.le_of_ble_eq_true (by kernel_rfl)) rfl) ?_
        refine Wk.trans (Wk.forget [1, 5, 6] [0] (s' := ⟨[(1, .v (.int .i64 p3)), (5, .sl 0 0 ((v6 ++ ([v7] : List (Int))).length)), (6, .v (.int .i64 (IntKind.wrap .i64 (v7 + 1))))], [(0, .arr 1 (List.map enc_i v6 ++ List.map enc_i ([v7] : List (Int))))]⟩) (by kernel_rfl)) ?_
        refine Wk.trans (Wk.of_eq (congrArg (fun z => (⟨[(1, .v (.int .i64 p3)), (5, .sl 0 0 ((v6 ++ ([v7] : List (Int))).length)), (6, .v (.int .i64 (IntKind.wrap .i64 (v7 + 1))))], [(0, .arr 1 (z))]⟩ : S)) (app_can (enc := enc_i) rfl rfl : List.map enc_i v6 ++ List.map enc_i ([v7] : List (Int)) = List.map enc_i (v6 ++ ([v7] : List (Int)))))) ?_
        exact Wk.refl _
      · replace h := cd_f b6 h
        refine AX.condF (decide ((Go.bits .andNot .i64 v7 p3) = 0)) (by kernel_rfl) b6 ?_
        refine AX.skip ?_
        refine AX.reg (its := [.auto {}, .auto { raw := true }]) [1, 5, 6] [0] (s1 := ⟨[(1, .v (.int .i64 p3)), (5, .sl 0 0 v6.length), (6, .v (.int .i64 (IntKind.wrap .i64 (v7 + 1))))], [(0, .arr 1 (List.map enc_i v6))]⟩) (C := True) (by kernel_rfl) trivial trivial ?_
        refine ⟨(fu, (v6, IntKind.wrap .i64 (v7 + 1))), h, Nat.lt_succ_self _, ?_⟩
        refine Wk.trans (Wk.forget [1, 5, 6] [0] (s' := ⟨[(1, .v (.int .i64 p3)), (5, .sl 0 0 v6.length), (6, .v (.int .i64 (IntKind.wrap .i64 (v7 + 1))))], [(0, .arr 1 (List.map enc_i v6))]⟩) (by kernel_rfl)) ?_
        exact Wk.refl _
    · replace h := cd_f b5 h
      refine AX.condF (decide (v7 ≤ p3)) (by kernel_rfl) b5 ?_
      refine AX.exit ?_
      refine fin_wk (Wk.forget [5] [0] (s' := ⟨[(5, .sl 0 0 v6.length)], [(0, .arr 1 (List.map enc_i v6))]⟩) (by kernel_rfl)) ?_
      have hr := Option.some.inj h
      subst hr
      exact ⟨_, Wk.refl _, ⟨rfl, rfl⟩⟩

theorem s_impl_PartsOf (p1 : List (ByteArray × Int)) (p2 : Int) (p3 : Int) (r : List (Int)) (h : m_impl_PartsOf p1 p2 p3 = some r) :
    Eng.Spec Try.prog 17 [.agg [.bs false 2 (List.map enc_si p1), .v (.int .i64 p2)], .v (.int .i64 p3)] [] (.sl 0 0 r.length) [.arr 1 (List.map enc_i r)] := by
  unfold m_impl_PartsOf at h
  refine Eng.Spec.body Try.func17 (by kernel_rfl) rfl (by kernel_rfl) ?_
  refine AX.wkpost ?_
  refine AX.seq ?_
  refine AX.reg (its := [.auto { nk := 0 }]) [1, 2] [0] (s1 := ⟨[(1, .v (.int .i64 p3)), (2, .pt 0 0)], [(0, .box [.bs false 2 (List.map enc_si p1), .v (.int .i64 p2)])]⟩) (C := True) (by kernel_rfl) trivial trivial ?_
  refine AX.seq ?_
  refine AX.seq ?_
  obtain ⟨x4, e1, h⟩ := bd_e h
  rcases bool_cases ((!x4)) with b2 | b2
  · replace h := cd_t b2 h
    refine AX.reg (its := [.auto {}, .auto {}, .call 70 [.agg [.bs false 2 (List.map enc_si p1), .v (.int .i64 p2)], .v (.int .i64 p3)] (handO (rho ([] ++ [])) [] [] ++ []) (callEv [] [] (.v (.bool x4)) []), .auto { y := some (.v (.bool true)) }]) [1, 16] [] (s1 := ⟨[(1, .v (.int .i64 p3)), (16, .v (.bool true))], []⟩) (C := ((([.agg [.bs false 2 (List.map enc_si p1), .v (.int .i64 p2)], .v (.int .i64 p3)] : List AV) = [.agg [.bs false 2 (List.map enc_si p1), .v (.int .i64 p2)], .v (.int .i64 p3)]) ∧ True) ∧ ((True) ∧ ((.v (.bool (!x4)) : AV) = (.v (.bool true) : AV))) ∧ True) (by kernel_rfl) ⟨⟨rfl, trivial⟩, ⟨⟨trivial, (congrArg (fun z => AV.v (.bool z)) b2)⟩, trivial⟩⟩ ⟨call_ok (ks := []) (ns := []) (bor := []) (bobjs := []) (s_impl_IsValue p1 p2 p3 x4 e1) (.cons (.c1 (.agg (.cons (.same _ (by kernel_rfl) (by kernel_rfl)) (.cons (.same _ (by kernel_rfl) (by kernel_rfl)) (.nil))))) (.cons (.c1 (.c0 (.same _ (by kernel_rfl) (by kernel_rfl)))) (.nil))) (by kernel_rfl) trivial, trivial⟩ ?_
    refine AX.cond_true (by kernel_rfl) ?_
    refine AX.seq ?_
    refine AX.reg (its := []) [4] [] (s1 := ⟨[(4, .v (.slice none 0 0))], []⟩) (C := True) (by kernel_rfl) trivial trivial ?_
    refine AX.ret ?_
    refine fin_wk (Wk.mat 4 0 1 (by kernel_rfl) (Nat.le_of_ble_eq_true (by kernel_rfl)) (by kernel_rfl) rfl) ?_
    refine fin_wk (Wk.forget [4] [0] (s' := ⟨[(4, .sl 0 0 (([] : List (Int)).length))], [(0, .arr 1 (List.map enc_i ([] : List (Int))))]⟩) (by kernel_rfl)) ?_
    have hr := Option.some.inj h
    subst hr
    exact ⟨_, Wk.refl _, .inr rfl, ⟨[0], by kernel_rfl, ⟨rfl, trivial⟩, [.sl 0 0 (([] : List (Int)).length)], by kernel_rfl, by kernel_rfl⟩⟩
  · replace h := cd_f b2 h
    obtain ⟨x5, e3, h⟩ := bd_e h
    refine AX.reg (its := [.auto {}, .auto {}, .call 70 [.agg [.bs false 2 (List.map enc_si p1), .v (.int .i64 p2)], .v (.int .i64 p3)] (handO (rho ([] ++ [])) [] [] ++ []) (callEv [] [] (.v (.bool x4)) []), .auto { y := some (.v (.bool false)) }, .auto {}, .auto {}, .auto { raw := true }, .call 80 [.v (.int .u64 (IntKind.wrap .u64 (p3)))] (handO (rho ([] ++ [])) [] [] ++ []) (callEv [] [] (.v (.int .i64 x5)) [])]) [1, 16] [] (s1 := ⟨[(1, .v (.int .i64 p3)), (16, .v (.bool (decide (6 < x5))))], []⟩) (C := ((([.agg [.bs false 2 (List.map enc_si p1), .v (.int .i64 p2)], .v (.int .i64 p3)] : List AV) = [.agg [.bs false 2 (List.map enc_si p1), .v (.int .i64 p2)], .v (.int .i64 p3)]) ∧ True) ∧ ((True) ∧ ((.v (.bool (!x4)) : AV) = (.v (.bool false) : AV))) ∧ ((([.v (.int .u64 (IntKind.wrap .u64 (p3)))] : List AV) = [.v (.int .u64 (IntKind.wrap .u64 (p3)))]) ∧ True) ∧ True) (by kernel_rfl) ⟨⟨rfl, trivial⟩, ⟨⟨trivial, (congrArg (fun z => AV.v (.bool z)) b2)⟩, ⟨⟨rfl, trivial⟩, trivial⟩⟩⟩ ⟨call_ok (ks := []) (ns := []) (bor := []) (bobjs := []) (s_impl_IsValue p1 p2 p3 x4 e1) (.cons (.c1 (.agg (.cons (.same _ (by kernel_rfl) (by kernel_rfl)) (.cons (.same _ (by kernel_rfl) (by kernel_rfl)) (.nil))))) (.cons (.c1 (.c0 (.same _ (by kernel_rfl) (by kernel_rfl)))) (.nil))) (by kernel_rfl) trivial, ⟨call_ok (ks := []) (ns := []) (bor := []) (bobjs := []) (s_math_bits_OnesCount (IntKind.wrap .u64 (p3)) x5 e3) (.cons (.c1 (.c0 (.same _ (by kernel_rfl) (by kernel_rfl)))) (.nil)) (by kernel_rfl) trivial, trivial⟩⟩ ?_
    rcases bool_cases (decide (6 < x5)) with b4 | b4
    · replace h := cd_t b4 h
      refine AX.condT (decide (6 < x5)) (by kernel_rfl) b4 ?_
      refine AX.seq ?_
      refine AX.reg (its := []) [4] [] (s1 := ⟨[(4, .v (.slice none 0 0))], []⟩) (C := True) (by kernel_rfl) trivial trivial ?_
      refine AX.ret ?_
      refine fin_wk (Wk.mat 4 0 1 (by kernel_rfl) (Nat.le_of_ble_eq_true (by kernel_rfl)) (by kernel_rfl) rfl) ?_
      refine fin_wk (Wk.forget [4] [0] (s' := ⟨[(4, .sl 0 0 (([] : List (Int)).length))], [(0, .arr 1 (List.map enc_i ([] : List (Int))))]⟩) (by kernel_rfl)) ?_
      have hr := Option.some.inj h
      subst hr
      exact ⟨_, Wk.refl _, .inr rfl, ⟨[0], by kernel_rfl, ⟨rfl, trivial⟩, [.sl 0 0 (([] : List (Int)).length)], by kernel_rfl, by kernel_rfl⟩⟩
    · replace h := cd_f b4 h
      refine AX.condF (decide (6 < x5)) (by kernel_rfl) b4 ?_
      refine AX.skip ?_
      refine AX.seq ?_
      refine AX.reg (its := []) [1, 5] [] (s1 := ⟨[(1, .v (.int .i64 p3)), (5, .v (.slice none 0 0))], []⟩) (C := True) (by kernel_rfl) trivial trivial ?_
      refine AX.seq ?_
      refine AX.seq ?_
      refine AX.reg (its := []) [1, 5, 6] [] (s1 := ⟨[(1, .v (.int .i64 p3)), (5, .v (.slice none 0 0)), (6, .v (.int .i64 0))], []⟩) (C := True) (by kernel_rfl) trivial trivial ?_
      refine AX.block ?_
      obtain ⟨x8, e8, h⟩ := bd_e h
      refine AX.wk (Wk.mat 5 0 1 (by kernel_rfl) (Nat.le_of_ble_eq_true (by kernel_rfl)) (by kernel_rfl) rfl) ?_
      refine AX.wk (Wk.forget [1, 5, 6] [0] (s' := ⟨[(1, .v (.int .i64 p3)), (5, .sl 0 0 (([] : List (Int)).length)), (6, .v (.int .i64 0))], [(0, .arr 1 (List.map enc_i ([] : List (Int))))]⟩) (by kernel_rfl)) ?_
      refine AX.mono (s_impl_PartsOf_L1 p3 FU (([] : List (Int)), 0) x8 e8) ?_
      rintro _ _ ⟨rfl, rfl⟩
      skip
      refine AX.seq ?_
      obtain ⟨x9, e9, h⟩ := bd_e h
      refine AX.reg (its := [.auto {}, .call 97 [.sl 0 0 x8.length] (handO (rho ([0] ++ [])) [0] [.arr 1 (List.map enc_i x8)] ++ []) (callEv [0] [] (.sl 0 0 x8.length) [.arr 1 (List.map enc_i x8)])]) [4] [0] (s1 := ⟨[(4, .sl 0 0 x8.length)], [(0, .arr 1 (List.map enc_i x8))]⟩) (C := ((([.sl 0 0 x8.length] : List AV) = [.sl 0 0 x8.length]) ∧ (AO.arr 1 (List.map enc_i x8) = AO.arr 1 (List.map enc_i x8)) ∧ True) ∧ True) (by kernel_rfl) ⟨⟨rfl, rfl, trivial⟩, trivial⟩ ⟨call_ok (ks := [0]) (ns := []) (bor := []) (bobjs := []) (s_slices_Clip_hi x8 x9 e9) (.cons (.c1 (.c0 (.same _ (by kernel_rfl) (by kernel_rfl)))) (.nil)) (by kernel_rfl) ⟨.inr rfl, trivial⟩, trivial⟩ ?_
      refine AX.ret ?_
      refine fin_wk (Wk.forget [4] [0] (s' := ⟨[(4, .sl 0 0 x8.length)], [(0, .arr 1 (List.map enc_i x8))]⟩) (by kernel_rfl)) ?_
      have hr := Option.some.inj h
      subst hr
      exact ⟨_, Wk.refl _, .inr rfl, ⟨[0], by kernel_rfl, ⟨rfl, trivial⟩, [.sl 0 0 x8.length], by kernel_rfl, by kernel_rfl⟩⟩

theorem s_impl_ValidArm (p1 : List (ByteArray × Int)) (p2 : Int) (p3 : Int) (p4 : Int) (r : Bool) (h : m_impl_ValidArm p1 p2 p3 p4 = some r) :
    Eng.Spec Try.prog 98 [.agg [.bs false 2 (List.map enc_si p1), .v (.int .i64 p2)], .agg [.v (.int .i64 p3), .v (.int .i64 p4)]] [] (.v (.bool r)) [] := by
  unfold m_impl_ValidArm at h
  refine Eng.Spec.body Try.func98 (by kernel_rfl) rfl (by kernel_rfl) ?_
  refine AX.wkpost ?_
  refine AX.seq ?_
  refine AX.reg (its := [.auto { nk := 0 }, .auto { nk := 1 }]) [2, 3] [0, 1] (s1 := ⟨[(2, .pt 0 0), (3, .pt 1 0)], [(0, .box [.bs false 2 (List.map enc_si p1), .v (.int .i64 p2)]), (1, .box [.v (.int .i64 p3), .v (.int .i64 p4)])]⟩) (C := True) (by kernel_rfl) trivial trivial ?_
  refine AX.seq ?_
  obtain ⟨x5, e1, h⟩ := bd_e h
  rcases bool_cases (x5) with b2 | b2
  · replace h := cd_t b2 h
    obtain ⟨x6, e3, h⟩ := bd_e h
    refine AX.reg (its := [.auto {}, .call 60 [.agg [.bs false 2 (List.map enc_si p1), .v (.int .i64 p2)]] (handO (rho ([] ++ [])) [] [] ++ []) (callEv [] [] (.v (.bool true)) []), .auto {}, .auto {}, .auto {}, .call 85 [.agg [.v (.int .i64 p3), .v (.int .i64 p4)], .agg [.bs false 2 (List.map enc_si p1), .v (.int .i64 p2)]] (handO (rho ([] ++ [])) [] [] ++ []) (callEv [] [] (.v (.bool x6)) [])]) [4] [] (s1 := ⟨[(4, .v (.bool x6))], []⟩) (C := ((([.agg [.bs false 2 (List.map enc_si p1), .v (.int .i64 p2)]] : List AV) = [.agg [.bs false 2 (List.map enc_si p1), .v (.int .i64 p2)]]) ∧ True) ∧ ((([.agg [.v (.int .i64 p3), .v (.int .i64 p4)], .agg [.bs false 2 (List.map enc_si p1), .v (.int .i64 p2)]] : List AV) = [.agg [.v (.int .i64 p3), .v (.int .i64 p4)], .agg [.bs false 2 (List.map enc_si p1), .v (.int .i64 p2)]]) ∧ True) ∧ True) (by kernel_rfl) ⟨⟨rfl, trivial⟩, ⟨⟨rfl, trivial⟩, trivial⟩⟩ ⟨call_ok (ks := []) (ns := []) (bor := []) (bobjs := []) (show Eng.Spec Try.prog 60 [.agg [.bs false 2 (List.map enc_si p1), .v (.int .i64 p2)]] [] (.v (.bool true)) [] from by have q := s_impl_ValidFlag p1 p2 x5 e1; rw [b2] at q; exact q) (.cons (.c1 (.agg (.cons (.same _ (by kernel_rfl) (by kernel_rfl)) (.cons (.same _ (by kernel_rfl) (by kernel_rfl)) (.nil))))) (.nil)) (by kernel_rfl) trivial, ⟨call_ok (ks := []) (ns := []) (bor := []) (bobjs := []) (s_impl_Arm_ok p3 p4 p1 p2 x6 e3) (.cons (.c1 (.agg (.cons (.same _ (by kernel_rfl) (by kernel_rfl)) (.cons (.same _ (by kernel_rfl) (by kernel_rfl)) (.nil))))) (.cons (.c1 (.agg (.cons (.same _ (by kernel_rfl) (by kernel_rfl)) (.cons (.same _ (by kernel_rfl) (by kernel_rfl)) (.nil))))) (.nil))) (by kernel_rfl) trivial, trivial⟩⟩ ?_
    refine AX.ret ?_
    refine fin_wk (Wk.forget [4] [] (s' := ⟨[(4, .v (.bool x6))], []⟩) (by kernel_rfl)) ?_
    have hr := Option.some.inj h
    subst hr
    exact ⟨_, Wk.refl _, .inr rfl, ⟨[], by kernel_rfl, trivial, [.v (.bool x6)], by kernel_rfl, by kernel_rfl⟩⟩
  · replace h := cd_f b2 h
    refine AX.reg (its := [.auto {}, .call 60 [.agg [.bs false 2 (List.map enc_si p1), .v (.int .i64 p2)]] (handO (rho ([] ++ [])) [] [] ++ []) (callEv [] [] (.v (.bool false)) [])]) [4] [] (s1 := ⟨[(4, .v (.bool false))], []⟩) (C := ((([.agg [.bs false 2 (List.map enc_si p1), .v (.int .i64 p2)]] : List AV) = [.agg [.bs false 2 (List.map enc_si p1), .v (.int .i64 p2)]]) ∧ True) ∧ True) (by kernel_rfl) ⟨⟨rfl, trivial⟩, trivial⟩ ⟨call_ok (ks := []) (ns := []) (bor := []) (bobjs := []) (show Eng.Spec Try.prog 60 [.agg [.bs false 2 (List.map enc_si p1), .v (.int .i64 p2)]] [] (.v (.bool false)) [] from by have q := s_impl_ValidFlag p1 p2 x5 e1; rw [b2] at q; exact q) (.cons (.c1 (.agg (.cons (.same _ (by kernel_rfl) (by kernel_rfl)) (.cons (.same _ (by kernel_rfl) (by kernel_rfl)) (.nil))))) (.nil)) (by kernel_rfl) trivial, trivial⟩ ?_
    refine AX.ret ?_
    refine fin_wk (Wk.forget [4] [] (s' := ⟨[(4, .v (.bool false))], []⟩) (by kernel_rfl)) ?_
    have hr := Option.some.inj h
    subst hr
    exact ⟨_, Wk.refl _, .inr rfl, ⟨[], by kernel_rfl, trivial, [.v (.bool false)], by kernel_rfl, by kernel_rfl⟩⟩

theorem s_impl_MatchArm (p1 : List (ByteArray × Int)) (p2 : Int) (p3 : Int) (p4 : Int) (p5 : Int) (r : Bool) (h : m_impl_MatchArm p1 p2 p3 p4 p5 = some r) :
    Eng.Spec Try.prog 19 [.agg [.bs false 2 (List.map enc_si p1), .v (.int .i64 p2)], .agg [.v (.int .i64 p3), .v (.int .i64 p4)], .v (.int .i64 p5)] [] (.v (.bool r)) [] := by
  unfold m_impl_MatchArm at h
  refine Eng.Spec.body Try.func19 (by kernel_rfl) rfl (by kernel_rfl) ?_
  refine AX.wkpost ?_
  refine AX.seq ?_
  refine AX.reg (its := [.auto { nk := 0 }, .auto { nk := 1 }]) [2, 3, 4] [0, 1] (s1 := ⟨[(2, .v (.int .i64 p5)), (3, .pt 0 0), (4, .pt 1 0)], [(0, .box [.bs false 2 (List.map enc_si p1), .v (.int .i64 p2)]), (1, .box [.v (.int .i64 p3), .v (.int .i64 p4)])]⟩) (C := True) (by kernel_rfl) trivial trivial ?_
  refine AX.seq ?_
  obtain ⟨x6, e1, h⟩ := bd_e h
  rcases bool_cases (x6) with b2 | b2
  · replace h := cd_t b2 h
    obtain ⟨x7, e3, h⟩ := bd_e h
    rcases bool_cases (x7) with b4 | b4
    · replace h := cd_t b4 h
      obtain ⟨x8, e5, h⟩ := bd_e h
      refine AX.reg (its := [.auto {}, .auto {}, .call 98 [.agg [.bs false 2 (List.map enc_si p1), .v (.int .i64 p2)], .agg [.v (.int .i64 p3), .v (.int .i64 p4)]] (handO (rho ([] ++ [])) [] [] ++ []) (callEv [] [] (.v (.bool true)) []), .auto {}, .auto {}, .auto {}, .call 70 [.agg [.bs false 2 (List.map enc_si p1), .v (.int .i64 p2)], .v (.int .i64 p5)] (handO (rho ([] ++ [])) [] [] ++ []) (callEv [] [] (.v (.bool true)) []), .auto {}, .auto {}, .auto {}, .auto {}, .call 87 [.agg [.v (.int .i64 p3), .v (.int .i64 p4)], .v (.int .i64 p5)] (handO (rho ([] ++ [])) [] [] ++ []) (callEv [] [] (.v (.bool x8)) [])]) [6] [] (s1 := ⟨[(6, .v (.bool x8))], []⟩) (C := ((([.agg [.bs false 2 (List.map enc_si p1), .v (.int .i64 p2)], .agg [.v (.int .i64 p3), .v (.int .i64 p4)]] : List AV) = [.agg [.bs false 2 (List.map enc_si p1), .v (.int .i64 p2)], .agg [.v (.int .i64 p3), .v (.int .i64 p4)]]) ∧ True) ∧ ((([.agg [.bs false 2 (List.map enc_si p1), .v (.int .i64 p2)], .v (.int .i64 p5)] : List AV) = [.agg [.bs false 2 (List.map enc_si p1), .v (.int .i64 p2)], .v (.int .i64 p5)]) ∧ True) ∧ ((([.agg [.v (.int .i64 p3), .v (.int .i64 p4)], .v (.int .i64 p5)] : List AV) = [.agg [.v (.int .i64 p3), .v (.int .i64 p4)], .v (.int .i64 p5)]) ∧ True) ∧ True) (by kernel_rfl) ⟨⟨rfl, trivial⟩, ⟨⟨rfl, trivial⟩, ⟨⟨rfl, trivial⟩, trivial⟩⟩⟩ ⟨call_ok (ks := []) (ns := []) (bor := []) (bobjs := []) (show Eng.Spec Try.prog 98 [.agg [.bs false 2 (List.map enc_si p1), .v (.int .i64 p2)], .agg [.v (.int .i64 p3), .v (.int .i64 p4)]] [] (.v (.bool true)) [] from by have q := s_impl_ValidArm p1 p2 p3 p4 x6 e1; rw [b2] at q; exact q) (.cons (.c1 (.agg (.cons (.same _ (by kernel_rfl) (by kernel_rfl)) (.cons (.same _ (by kernel_rfl) (by kernel_rfl)) (.nil))))) (.cons (.c1 (.agg (.cons (.same _ (by kernel_rfl) (by kernel_rfl)) (.cons (.same _ (by kernel_rfl) (by kernel_rfl)) (.nil))))) (.nil))) (by kernel_rfl) trivial, ⟨call_ok (ks := []) (ns := []) (bor := []) (bobjs := []) (show Eng.Spec Try.prog 70 [.agg [.bs false 2 (List.map enc_si p1), .v (.int .i64 p2)], .v (.int .i64 p5)] [] (.v (.bool true)) [] from by have q := s_impl_IsValue p1 p2 p5 x7 e3; rw [b4] at q; exact q) (.cons (.c1 (.agg (.cons (.same _ (by kernel_rfl) (by kernel_rfl)) (.cons (.same _ (by kernel_rfl) (by kernel_rfl)) (.nil))))) (.cons (.c1 (.c0 (.same _ (by kernel_rfl) (by kernel_rfl)))) (.nil))) (by kernel_rfl) trivial, ⟨call_ok (ks := []) (ns := []) (bor := []) (bobjs := []) (s_impl_Arm_matches p3 p4 p5 x8 e5) (.cons (.c1 (.agg (.cons (.same _ (by kernel_rfl) (by kernel_rfl)) (.cons (.same _ (by kernel_rfl) (by kernel_rfl)) (.nil))))) (.cons (.c1 (.c0 (.same _ (by kernel_rfl) (by kernel_rfl)))) (.nil))) (by kernel_rfl) trivial, trivial⟩⟩⟩ ?_
      refine AX.ret ?_
      refine fin_wk (Wk.forget [6] [] (s' := ⟨[(6, .v (.bool x8))], []⟩) (by kernel_rfl)) ?_
      have hr := Option.some.inj h
      subst hr
      exact ⟨_, Wk.refl _, .inr rfl, ⟨[], by kernel_rfl, trivial, [.v (.bool x8)], by kernel_rfl, by kernel_rfl⟩⟩
    · replace h := cd_f b4 h
      refine AX.reg (its := [.auto {}, .auto {}, .call 98 [.agg [.bs false 2 (List.map enc_si p1), .v (.int .i64 p2)], .agg [.v (.int .i64 p3), .v (.int .i64 p4)]] (handO (rho ([] ++ [])) [] [] ++ []) (callEv [] [] (.v (.bool true)) []), .auto {}, .auto {}, .auto {}, .call 70 [.agg [.bs false 2 (List.map enc_si p1), .v (.int .i64 p2)], .v (.int .i64 p5)] (handO (rho ([] ++ [])) [] [] ++ []) (callEv [] [] (.v (.bool false)) [])]) [6] [] (s1 := ⟨[(6, .v (.bool false))], []⟩) (C := ((([.agg [.bs false 2 (List.map enc_si p1), .v (.int .i64 p2)], .agg [.v (.int .i64 p3), .v (.int .i64 p4)]] : List AV) = [.agg [.bs false 2 (List.map enc_si p1), .v (.int .i64 p2)], .agg [.v (.int .i64 p3), .v (.int .i64 p4)]]) ∧ True) ∧ ((([.agg [.bs false 2 (List.map enc_si p1), .v (.int .i64 p2)], .v (.int .i64 p5)] : List AV) = [.agg [.bs false 2 (List.map enc_si p1), .v (.int .i64 p2)], .v (.int .i64 p5)]) ∧ True) ∧ True) (by kernel_rfl) ⟨⟨rfl, trivial⟩, ⟨⟨rfl, trivial⟩, trivial⟩⟩ ⟨call_ok (ks := []) (ns := []) (bor := []) (bobjs := []) (show Eng.Spec Try.prog 98 [.agg [.bs false 2 (List.map enc_si p1), .v (.int .i64 p2)], .agg [.v (.int .i64 p3), .v (.int .i64 p4)]] [] (.v (.bool true)) [] from by have q := s_impl_ValidArm p1 p2 p3 p4 x6 e1; rw [b2] at q; exact q) (.cons (.c1 (.agg (.cons (.same _ (by kernel_rfl) (by kernel_rfl)) (.cons (.same _ (by kernel_rfl) (by kernel_rfl)) (.nil))))) (.cons (.c1 (.agg (.cons (.same _ (by kernel_rfl) (by kernel_rfl)) (.cons (.same _ (by kernel_rfl) (by kernel_rfl)) (.nil))))) (.nil))) (by kernel_rfl) trivial, ⟨call_ok (ks := []) (ns := []) (bor := []) (bobjs := []) (show Eng.Spec Try.prog 70 [.agg [.bs false 2 (List.map enc_si p1), .v (.int .i64 p2)], .v (.int .i64 p5)] [] (.v (.bool false)) [] from by have q := s_impl_IsValue p1 p2 p5 x7 e3; rw [b4] at q; exact q) (.cons (.c1 (.agg (.cons (.same _ (by kernel_rfl) (by kernel_rfl)) (.cons (.same _ (by kernel_rfl) (by kernel_rfl)) (.nil))))) (.cons (.c1 (.c0 (.same _ (by kernel_rfl) (by kernel_rfl)))) (.nil))) (by kernel_rfl) trivial, trivial⟩⟩ ?_
      refine AX.ret ?_
      refine fin_wk (Wk.forget [6] [] (s' := ⟨[(6, .v (.bool false))], []⟩) (by kernel_rfl)) ?_
      have hr := Option.some.inj h
      subst hr
      exact ⟨_, Wk.refl _, .inr rfl, ⟨[], by kernel_rfl, trivial, [.v (.bool false)], by kernel_rfl, by kernel_rfl⟩⟩
  · replace h := cd_f b2 h
    refine AX.reg (its := [.auto {}, .auto {}, .call 98 [.agg [.bs false 2 (List.map enc_si p1), .v (.int .i64 p2)], .agg [.v (.int .i64 p3), .v (.int .i64 p4)]] (handO (rho ([] ++ [])) [] [] ++ []) (callEv [] [] (.v (.bool false)) [])]) [6] [] (s1 := ⟨[(6, .v (.bool false))], []⟩) (C := ((([.agg [.bs false 2 (List.map enc_si p1), .v (.int .i64 p2)], .agg [.v (.int .i64 p3), .v (.int .i64 p4)]] : List AV) = [.agg [.bs false 2 (List.map enc_si p1), .v (.int .i64 p2)], .agg [.v (.int .i64 p3), .v (.int .i64 p4)]]) ∧ True) ∧ True) (by kernel_rfl) ⟨⟨rfl, trivial⟩, trivial⟩ ⟨call_ok (ks := []) (ns := []) (bor := []) (bobjs := []) (show Eng.Spec Try.prog 98 [.agg [.bs false 2 (List.map enc_si p1), .v (.int .i64 p2)], .agg [.v (.int .i64 p3), .v (.int .i64 p4)]] [] (.v (.bool false)) [] from by have q := s_impl_ValidArm p1 p2 p3 p4 x6 e1; rw [b2] at q; exact q) (.cons (.c1 (.agg (.cons (.same _ (by kernel_rfl) (by kernel_rfl)) (.cons (.same _ (by kernel_rfl) (by kernel_rfl)) (.nil))))) (.cons (.c1 (.agg (.cons (.same _ (by kernel_rfl) (by kernel_rfl)) (.cons (.same _ (by kernel_rfl) (by kernel_rfl)) (.nil))))) (.nil))) (by kernel_rfl) trivial, trivial⟩ ?_
    refine AX.ret ?_
    refine fin_wk (Wk.forget [6] [] (s' := ⟨[(6, .v (.bool false))], []⟩) (by kernel_rfl)) ?_
    have hr := Option.some.inj h
    subst hr
    exact ⟨_, Wk.refl _, .inr rfl, ⟨[], by kernel_rfl, trivial, [.v (.bool false)], by kernel_rfl, by kernel_rfl⟩⟩

theorem s_laws_isIn_L1 (p1 : List (Int)) (p2 : Int) (n : Nat) (g : Int) (out : Unit ⊕ Unit) (h : m_laws_isIn_L1 p1 p2 n g = some out) :
    AX Try.prog 18 0 (codeAt [1, 0, 1, 1] (bodyOf Try.f20)) ((fun g : Int => (⟨[(0, .bs false 1 (List.map enc_i p1)), (1, .v (.int .i64 p2)), (5, .v (.int .i64 g))], []⟩ : S)) g) (fun ex s => (∃ o : Unit, out = Sum.inl o ∧ ex = .ret ∧ s = ⟨[(4, .v (.bool true))], []⟩) ∨ (∃ o : Unit, out = Sum.inr o ∧ ex = .exit 0 ∧ s = ⟨[], []⟩)) := by
  refine AX.wkpost ?_
  refine AX.loop (G := Nat × (Int)) (fun q => (fun g : Int => (⟨[(0, .bs false 1 (List.map enc_i p1)), (1, .v (.int .i64 p2)), (5, .v (.int .i64 g))], []⟩ : S)) q.2) (fun q => m_laws_isIn_L1 p1 p2 q.1 q.2 = some out) (fun q => q.1) (n, g) h (Wk.refl _) ?_
  clear h
  rintro ⟨fu, v3⟩ h
  cases fu with
  | zero => cases h
  | succ fu =>
    rw [m_laws_isIn_L1] at h
    refine AX.seq ?_
    refine AX.seq ?_
    refine AX.reg (its := [.auto {}, .auto {}, .auto { y := some (.v (.int .i64 (p1.length : Int))) }]) [0, 1, 5, 9] [] (s1 := ⟨[(0, .bs false 1 (List.map enc_i p1)), (1, .v (.int .i64 p2)), (5, .v (.int .i64 v3)), (9, .v (.bool (decide (v3 < (p1.length : Int)))))], []⟩) (C := (True ∧ (AV.v (.int .i64 ((List.map enc_i p1).length : Int)) = AV.v (.int .i64 (p1.length : Int)))) ∧ True) (by kernel_rfl) ⟨⟨trivial, len_map enc_i p1⟩, trivial⟩ trivial ?_
    rcases bool_cases (decide (v3 < (p1.length : Int))) with b1 | b1
    · replace h := cd_t b1 h
      refine AX.condT (decide (v3 < (p1.length : Int))) (by kernel_rfl) b1 ?_
      refine AX.skip ?_
      refine AX.seq ?_
      refine AX.block ?_
      refine AX.seq ?_
      obtain ⟨g2, h⟩ := gd_e h
      refine AX.reg (its := [.auto {}, .auto {}, .auto { y := some (.be 1 (enc_i (gt p1 v3)) 0) }]) [0, 1, 5, 17] [] (s1 := ⟨[(0, .bs false 1 (List.map enc_i p1)), (1, .v (.int .i64 p2)), (5, .v (.int .i64 v3)), (17, .v (.bool (decide ((gt p1 v3) = p2))))], []⟩) (C := ((0 ≤ v3 ∧ v3 < ((List.map enc_i p1).length : Int)) ∧ (AV.be 1 ((List.map enc_i p1).getD v3.toNat []) 0 = AV.be 1 (enc_i (gt p1 v3)) 0)) ∧ True) (by kernel_rfl) ⟨idx_bs enc_i p1 v3 1 g2, trivial⟩ trivial ?_
      rcases bool_cases (decide ((gt p1 v3) = p2)) with b3 | b3
      · replace h := cd_t b3 h
        refine AX.condT (decide ((gt p1 v3) = p2)) (by kernel_rfl) b3 ?_
        refine AX.seq ?_
        refine AX.reg (its := []) [4] [] (s1 := ⟨[(4, .v (.bool true))], []⟩) (C := True) (by kernel_rfl) trivial trivial ?_
        refine AX.ret ?_
        refine fin_wk (Wk.forget [4] [] (s' := ⟨[(4, .v (.bool true))], []⟩) (by kernel_rfl)) ?_
        have hr := Option.some.inj h
        subst hr
        exact ⟨_, Wk.refl _, .inl ⟨(), rfl, rfl, rfl⟩⟩
      · replace h := cd_f b3 h
        refine AX.condF (decide ((gt p1 v3) = p2)) (by kernel_rfl) b3 ?_
        refine AX.skip ?_
        refine AX.reg (its := [.auto {}, .auto { raw := true }]) [0, 1, 5] [] (s1 := ⟨[(0, .bs false 1 (List.map enc_i p1)), (1, .v (.int .i64 p2)), (5, .v (.int .i64 (IntKind.wrap .i64 (v3 + 1))))], []⟩) (C := True) (by kernel_rfl) trivial trivial ?_
        refine ⟨(fu, IntKind.wrap .i64 (v3 + 1)), h, Nat.lt_succ_self _, ?_⟩
        refine Wk.trans (Wk.forget [0, 1, 5] [] (s' := ⟨[(0, .bs false 1 (List.map enc_i p1)), (1, .v (.int .i64 p2)), (5, .v (.int .i64 (IntKind.wrap .i64 (v3 + 1))))], []⟩) (by kernel_rfl)) ?_
        exact Wk.refl _
    · replace h := cd_f b1 h
      refine AX.condF (decide (v3 < (p1.length : Int))) (by kernel_rfl) b1 ?_
      refine AX.exit ?_
      refine fin_wk (Wk.forget [] [] (s' := ⟨[], []⟩) (by kernel_rfl)) ?_
      have hr := Option.some.inj h
      subst hr
      exact ⟨_, Wk.refl _, .inr ⟨(), rfl, rfl, rfl⟩⟩

theorem s_laws_isIn (p1 : List (Int)) (p2 : Int) (r : Bool) (h : m_laws_isIn p1 p2 = some r) :
    Eng.Spec Try.prog 20 [.bs false 1 (List.map enc_i p1), .v (.int .i64 p2)] [] (.v (.bool r)) [] := by
  unfold m_laws_isIn at h
  refine Eng.Spec.body Try.func20 (by kernel_rfl) rfl (by kernel_rfl) ?_
  refine AX.wkpost ?_
  refine AX.seq ?_
  refine AX.reg (its := []) [0, 1] [] (s1 := ⟨[(0, .bs false 1 (List.map enc_i p1)), (1, .v (.int .i64 p2))], []⟩) (C := True) (by kernel_rfl) trivial trivial ?_
  refine AX.seq ?_
  refine AX.seq ?_
  refine AX.reg (its := []) [0, 1, 5] [] (s1 := ⟨[(0, .bs false 1 (List.map enc_i p1)), (1, .v (.int .i64 p2)), (5, .v (.int .i64 0))], []⟩) (C := True) (by kernel_rfl) trivial trivial ?_
  refine AX.block ?_
  obtain ⟨x4, e4, h⟩ := bd_e h
  refine AX.wk (Wk.forget [0, 1, 5] [] (s' := ⟨[(0, .bs false 1 (List.map enc_i p1)), (1, .v (.int .i64 p2)), (5, .v (.int .i64 0))], []⟩) (by kernel_rfl)) ?_
  refine AX.mono (s_laws_isIn_L1 p1 p2 FU 0 x4 e4) ?_
  rintro _ _ (⟨x5, rfl, rfl, rfl⟩ | ⟨x6, rfl, rfl, rfl⟩)
  · replace h := sm_l h
    refine fin_wk (Wk.forget [4] [] (s' := ⟨[(4, .v (.bool true))], []⟩) (by kernel_rfl)) ?_
    have hr := Option.some.inj h
    subst hr
    exact ⟨_, Wk.refl _, .inr rfl, ⟨[], by kernel_rfl, trivial, [.v (.bool true)], by kernel_rfl, by kernel_rfl⟩⟩
  · replace h := sm_r h
    refine AX.seq ?_
    refine AX.reg (its := []) [4] [] (s1 := ⟨[(4, .v (.bool false))], []⟩) (C := True) (by kernel_rfl) trivial trivial ?_
    refine AX.ret ?_
    refine fin_wk (Wk.forget [4] [] (s' := ⟨[(4, .v (.bool false))], []⟩) (by kernel_rfl)) ?_
    have hr := Option.some.inj h
    subst hr
    exact ⟨_, Wk.refl _, .inr rfl, ⟨[], by kernel_rfl, trivial, [.v (.bool false)], by kernel_rfl, by kernel_rfl⟩⟩

theorem s_impl_ArmCovers (p1 : List (ByteArray × Int)) (p2 : Int) (p3 : Int) (p4 : Int) (p5 : Int) (p6 : Int) (r : Bool) (h : m_impl_ArmCovers p1 p2 p3 p4 p5 p6 = some r) :
    Eng.Spec Try.prog 21 [.agg [.bs false 2 (List.map enc_si p1), .v (.int .i64 p2)], .agg [.v (.int .i64 p3), .v (.int .i64 p4)], .agg [.v (.int .i64 p5), .v (.int .i64 p6)]] [] (.v (.bool r)) [] := by
  unfold m_impl_ArmCovers at h
  refine Eng.Spec.body Try.func21 (by kernel_rfl) rfl (by kernel_rfl) ?_
  refine AX.wkpost ?_
  refine AX.seq ?_
  refine AX.reg (its := [.auto { nk := 0 }, .auto { nk := 1 }, .auto { nk := 2 }]) [3, 4, 5] [0, 1, 2] (s1 := ⟨[(3, .pt 0 0), (4, .pt 1 0), (5, .pt 2 0)], [(0, .box [.bs false 2 (List.map enc_si p1), .v (.int .i64 p2)]), (1, .box [.v (.int .i64 p3), .v (.int .i64 p4)]), (2, .box [.v (.int .i64 p5), .v (.int .i64 p6)])]⟩) (C := True) (by kernel_rfl) trivial trivial ?_
  refine AX.seq ?_
  obtain ⟨x7, e1, h⟩ := bd_e h
  rcases bool_cases (x7) with b2 | b2
  · replace h := cd_t b2 h
    obtain ⟨x8, e3, h⟩ := bd_e h
    rcases bool_cases (x8) with b4 | b4
    · replace h := cd_t b4 h
      obtain ⟨x9, e5, h⟩ := bd_e h
      refine AX.reg (its := [.auto {}, .auto {}, .call 98 [.agg [.bs false 2 (List.map enc_si p1), .v (.int .i64 p2)], .agg [.v (.int .i64 p3), .v (.int .i64 p4)]] (handO (rho ([] ++ [])) [] [] ++ []) (callEv [] [] (.v (.bool true)) []), .auto {}, .auto {}, .auto {}, .call 98 [.agg [.bs false 2 (List.map enc_si p1), .v (.int .i64 p2)], .agg [.v (.int .i64 p5), .v (.int .i64 p6)]] (handO (rho ([] ++ [])) [] [] ++ []) (callEv [] [] (.v (.bool true)) []), .auto {}, .auto {}, .auto {}, .auto {}, .call 91 [.agg [.v (.int .i64 p3), .v (.int .i64 p4)], .agg [.v (.int .i64 p5), .v (.int .i64 p6)]] (handO (rho ([] ++ [])) [] [] ++ []) (callEv [] [] (.v (.bool x9)) [])]) [6] [] (s1 := ⟨[(6, .v (.bool x9))], []⟩) (C := ((([.agg [.bs false 2 (List.map enc_si p1), .v (.int .i64 p2)], .agg [.v (.int .i64 p3), .v (.int .i64 p4)]] : List AV) = [.agg [.bs false 2 (List.map enc_si p1), .v (.int .i64 p2)], .agg [.v (.int .i64 p3), .v (.int .i64 p4)]]) ∧ True) ∧ ((([.agg [.bs false 2 (List.map enc_si p1), .v (.int .i64 p2)], .agg [.v (.int .i64 p5), .v (.int .i64 p6)]] : List AV) = [.agg [.bs false 2 (List.map enc_si p1), .v (.int .i64 p2)], .agg [.v (.int .i64 p5), .v (.int .i64 p6)]]) ∧ True) ∧ ((([.agg [.v (.int .i64 p3), .v (.int .i64 p4)], .agg [.v (.int .i64 p5), .v (.int .i64 p6)]] : List AV) = [.agg [.v (.int .i64 p3), .v (.int .i64 p4)], .agg [.v (.int .i64 p5), .v (.int .i64 p6)]]) ∧ True) ∧ True) (by kernel_rfl) ⟨⟨rfl, trivial⟩, ⟨⟨rfl, trivial⟩, ⟨⟨rfl, trivial⟩, trivial⟩⟩⟩ ⟨call_ok (ks := []) (ns := []) (bor := []) (bobjs := []) (show Eng.Spec Try.prog 98 [.agg [.bs false 2 (List.map enc_si p1), .v (.int .i64 p2)], .agg [.v (.int .i64 p3), .v (.int .i64 p4)]] [] (.v (.bool true)) [] from by have q := s_impl_ValidArm p1 p2 p3 p4 x7 e1; rw [b2] at q; exact q) (.cons (.c1 (.agg (.cons (.same _ (by kernel_rfl) (by kernel_rfl)) (.cons (.same _ (by kernel_rfl) (by kernel_rfl)) (.nil))))) (.cons (.c1 (.agg (.cons (.same _ (by kernel_rfl) (by kernel_rfl)) (.cons (.same _ (by kernel_rfl) (by kernel_rfl)) (.nil))))) (.nil))) (by kernel_rfl) trivial, ⟨call_ok (ks := []) (ns := []) (bor := []) (bobjs := []) (show Eng.Spec Try.prog 98 [.agg [.bs false 2 (List.map enc_si p1), .v (.int .i64 p2)], .agg [.v (.int .i64 p5), .v (.int .i64 p6)]] [] (.v (.bool true)) [] from by have q := s_impl_ValidArm p1 p2 p5 p6 x8 e3; rw [b4] at q; exact q) (.cons (.c1 (.agg (.cons (.same _ (by kernel_rfl) (by kernel_rfl)) (.cons (.same _ (by kernel_rfl) (by kernel_rfl)) (.nil))))) (.cons (.c1 (.agg (.cons (.same _ (by kernel_rfl) (by kernel_rfl)) (.cons (.same _ (by kernel_rfl) (by kernel_rfl)) (.nil))))) (.nil))) (by kernel_rfl) trivial, ⟨call_ok (ks := []) (ns := []) (bor := []) (bobjs := []) (s_impl_Arm_covers p3 p4 p5 p6 x9 e5) (.cons (.c1 (.agg (.cons (.same _ (by kernel_rfl) (by kernel_rfl)) (.cons (.same _ (by kernel_rfl) (by kernel_rfl)) (.nil))))) (.cons (.c1 (.agg (.cons (.same _ (by kernel_rfl) (by kernel_rfl)) (.cons (.same _ (by kernel_rfl) (by kernel_rfl)) (.nil))))) (.nil))) (by kernel_rfl) trivial, trivial⟩⟩⟩ ?_
      refine AX.ret ?_
      refine fin_wk (Wk.forget [6] [] (s' := ⟨[(6, .v (.bool x9))], []⟩) (by kernel_rfl)) ?_
      have hr := Option.some.inj h
      subst hr
      exact ⟨_, Wk.refl _, .inr rfl, ⟨[], by kernel_rfl, trivial, [.v (.bool x9)], by kernel_rfl, by kernel_rfl⟩⟩
    · replace h := cd_f b4 h
      refine AX.reg (its := [.auto {}, .auto {}, .call 98 [.agg [.bs false 2 (List.map enc_si p1), .v (.int .i64 p2)], .agg [.v (.int .i64 p3), .v (.int .i64 p4)]] (handO (rho ([] ++ [])) [] [] ++ []) (callEv [] [] (.v (.bool true)) []), .auto {}, .auto {}, .auto {}, .call 98 [.agg [.bs false 2 (List.map enc_si p1), .v (.int .i64 p2)], .agg [.v (.int .i64 p5), .v (.int .i64 p6)]] (handO (rho ([] ++ [])) [] [] ++ []) (callEv [] [] (.v (.bool false)) [])]) [6] [] (s1 := ⟨[(6, .v (.bool false))], []⟩) (C := ((([.agg [.bs false 2 (List.map enc_si p1), .v (.int .i64 p2)], .agg [.v (.int .i64 p3), .v (.int .i64 p4)]] : List AV) = [.agg [.bs false 2 (List.map enc_si p1), .v (.int .i64 p2)], .agg [.v (.int .i64 p3), .v (.int .i64 p4)]]) ∧ True) ∧ ((([.agg [.bs false 2 (List.map enc_si p1), .v (.int .i64 p2)], .agg [.v (.int .i64 p5), .v (.int .i64 p6)]] : List AV) = [.agg [.bs false 2 (List.map enc_si p1), .v (.int .i64 p2)], .agg [.v (.int .i64 p5), .v (.int .i64 p6)]]) ∧ True) ∧ True) (by kernel_rfl) ⟨⟨rfl, trivial⟩, ⟨⟨rfl, trivial⟩, trivial⟩⟩ ⟨call_ok (ks := []) (ns := []) (bor := []) (bobjs := []) (show Eng.Spec Try.prog 98 [.agg [.bs false 2 (List.map enc_si p1), .v (.int .i64 p2)], .agg [.v (.int .i64 p3), .v (.int .i64 p4)]] [] (.v (.bool true)) [] from by have q := s_impl_ValidArm p1 p2 p3 p4 x7 e1; rw [b2] at q; exact q) (.cons (.c1 (.agg (.cons (.same _ (by kernel_rfl) (by kernel_rfl)) (.cons (.same _ (by kernel_rfl) (by kernel_rfl)) (.nil))))) (.cons (.c1 (.agg (.cons (.same _ (by kernel_rfl) (by kernel_rfl)) (.cons (.same _ (by kernel_rfl) (by kernel_rfl)) (.nil))))) (.nil))) (by kernel_rfl) trivial, ⟨call_ok (ks := []) (ns := []) (bor := []) (bobjs := []) (show Eng.Spec Try.prog 98 [.agg [.bs false 2 (List.map enc_si p1), .v (.int .i64 p2)], .agg [.v (.int .i64 p5), .v (.int .i64 p6)]] [] (.v (.bool false)) [] from by have q := s_impl_ValidArm p1 p2 p5 p6 x8 e3; rw [b4] at q; exact q) (.cons (.c1 (.agg (.cons (.same _ (by kernel_rfl) (by kernel_rfl)) (.cons (.same _ (by kernel_rfl) (by kernel_rfl)) (.nil))))) (.cons (.c1 (.agg (.cons (.same _ (by kernel_rfl) (by kernel_rfl)) (.cons (.same _ (by kernel_rfl) (by kernel_rfl)) (.nil))))) (.nil))) (by kernel_rfl) trivial, trivial⟩⟩ ?_
      refine AX.ret ?_
      refine fin_wk (Wk.forget [6] [] (s' := ⟨[(6, .v (.bool false))], []⟩) (by kernel_rfl)) ?_
      have hr := Option.some.inj h
      subst hr
      exact ⟨_, Wk.refl _, .inr rfl, ⟨[], by kernel_rfl, trivial, [.v (.bool false)], by kernel_rfl, by kernel_rfl⟩⟩
  · replace h := cd_f b2 h
    refine AX.reg (its := [.auto {}, .auto {}, .call 98 [.agg [.bs false 2 (List.map enc_si p1), .v (.int .i64 p2)], .agg [.v (.int .i64 p3), .v (.int .i64 p4)]] (handO (rho ([] ++ [])) [] [] ++ []) (callEv [] [] (.v (.bool false)) [])]) [6] [] (s1 := ⟨[(6, .v (.bool false))], []⟩) (C := ((([.agg [.bs false 2 (List.map enc_si p1), .v (.int .i64 p2)], .agg [.v (.int .i64 p3), .v (.int .i64 p4)]] : List AV) = [.agg [.bs false 2 (List.map enc_si p1), .v (.int .i64 p2)], .agg [.v (.int .i64 p3), .v (.int .i64 p4)]]) ∧ True) ∧ True) (by kernel_rfl) ⟨⟨rfl, trivial⟩, trivial⟩ ⟨call_ok (ks := []) (ns := []) (bor := []) (bobjs := []) (show Eng.Spec Try.prog 98 [.agg [.bs false 2 (List.map enc_si p1), .v (.int .i64 p2)], .agg [.v (.int .i64 p3), .v (.int .i64 p4)]] [] (.v (.bool false)) [] from by have q := s_impl_ValidArm p1 p2 p3 p4 x7 e1; rw [b2] at q; exact q) (.cons (.c1 (.agg (.cons (.same _ (by kernel_rfl) (by kernel_rfl)) (.cons (.same _ (by kernel_rfl) (by kernel_rfl)) (.nil))))) (.cons (.c1 (.agg (.cons (.same _ (by kernel_rfl) (by kernel_rfl)) (.cons (.same _ (by kernel_rfl) (by kernel_rfl)) (.nil))))) (.nil))) (by kernel_rfl) trivial, trivial⟩ ?_
    refine AX.ret ?_
    refine fin_wk (Wk.forget [6] [] (s' := ⟨[(6, .v (.bool false))], []⟩) (by kernel_rfl)) ?_
    have hr := Option.some.inj h
    subst hr
    exact ⟨_, Wk.refl _, .inr rfl, ⟨[], by kernel_rfl, trivial, [.v (.bool false)], by kernel_rfl, by kernel_rfl⟩⟩

theorem s_laws_FnGreatestArms_L2 (x2 : (List (ByteArray × Int)) × Int × List (Int)) (x3 : List (Int × Int)) (x11 : List (Int)) (v12 : Int) (n : Nat) (g : Bool × Int) (out : Bool) (h : m_laws_FnGreatestArms_L2 x2 x3 x11 v12 n g.1 g.2 = some out) :
    AX Try.prog 103 0 (codeAt [1, 1, 1, 1, 1, 1, 0, 1, 1, 1, 1, 0, 1, 1, 0, 1, 1] (bodyOf Try.f3)) ((fun g : Bool × Int => (⟨[(3, .pt 0 0), (4, .sl 2 0 x2.2.2.length), (5, .sl 3 0 x3.length), (6, .sl 4 0 x11.length), (7, .v (.int .i64 v12)), (8, .v (.bool g.1)), (9, .v (.int .i64 g.2))], [(0, .box [.sl 1 0 x2.1.length, .v (.int .i64 x2.2.1)]), (1, .arr 2 (List.map enc_si x2.1)), (2, .arr 1 (List.map enc_i x2.2.2)), (3, .arr 2 (List.map enc_ii x3)), (4, .arr 1 (List.map enc_i x11))]⟩ : S)) g) (fun ex s => ex = .exit 2 ∧ s = (fun o : Bool => (⟨[(3, .pt 0 0), (4, .sl 2 0 x2.2.2.length), (5, .sl 3 0 x3.length), (6, .sl 4 0 x11.length), (7, .v (.int .i64 v12)), (8, .v (.bool o))], [(0, .box [.sl 1 0 x2.1.length, .v (.int .i64 x2.2.1)]), (1, .arr 2 (List.map enc_si x2.1)), (2, .arr 1 (List.map enc_i x2.2.2)), (3, .arr 2 (List.map enc_ii x3)), (4, .arr 1 (List.map enc_i x11))]⟩ : S)) out) := by
  refine AX.wkpost ?_
  refine AX.loop (G := Nat × (Bool × Int)) (fun q => (fun g : Bool × Int => (⟨[(3, .pt 0 0), (4, .sl 2 0 x2.2.2.length), (5, .sl 3 0 x3.length), (6, .sl 4 0 x11.length), (7, .v (.int .i64 v12)), (8, .v (.bool g.1)), (9, .v (.int .i64 g.2))], [(0, .box [.sl 1 0 x2.1.length, .v (.int .i64 x2.2.1)]), (1, .arr 2 (List.map enc_si x2.1)), (2, .arr 1 (List.map enc_i x2.2.2)), (3, .arr 2 (List.map enc_ii x3)), (4, .arr 1 (List.map enc_i x11))]⟩ : S)) q.2) (fun q => m_laws_FnGreatestArms_L2 x2 x3 x11 v12 q.1 q.2.1 q.2.2 = some out) (fun q => q.1) (n, g) h (Wk.refl _) ?_
  clear h
  rintro ⟨fu, v13, v14⟩ h
  cases fu with
  | zero => cases h
  | succ fu =>
    rw [m_laws_FnGreatestArms_L2] at h
    refine AX.seq ?_
    refine AX.seq ?_
    refine AX.reg (its := []) [3, 4, 5, 6, 7, 8, 9, 52] [0, 1, 2, 3, 4] (s1 := ⟨[(3, .pt 0 0), (4, .sl 2 0 x2.2.2.length), (5, .sl 3 0 x3.length), (6, .sl 4 0 x11.length), (7, .v (.int .i64 v12)), (8, .v (.bool v13)), (9, .v (.int .i64 v14)), (52, .v (.bool (decide (v14 < (x3.length : Int)))))], [(0, .box [.sl 1 0 x2.1.length, .v (.int .i64 x2.2.1)]), (1, .arr 2 (List.map enc_si x2.1)), (2, .arr 1 (List.map enc_i x2.2.2)), (3, .arr 2 (List.map enc_ii x3)), (4, .arr 1 (List.map enc_i x11))]⟩) (C := True) (by kernel_rfl) trivial trivial ?_
    rcases bool_cases (decide (v14 < (x3.length : Int))) with b15 | b15
    · replace h := cd_t b15 h
      refine AX.condT (decide (v14 < (x3.length : Int))) (by kernel_rfl) b15 ?_
      refine AX.skip ?_
      refine AX.seq ?_
      refine AX.block ?_
      rcases bool_cases (v13) with b16 | b16
      · replace h := cd_t b16 h
        refine AX.drw mixed (its := [.auto { y := some (.v (.bool true)) }]) [3, 4, 5, 6, 7, 8, 9] [0, 1, 2, 3, 4] (s1 := ⟨[(3, .pt 0 0), (4, .sl 2 0 x2.2.2.length), (5, .sl 3 0 x3.length), (6, .sl 4 0 x11.length), (7, .v (.int .i64 v12)), (8, .v (.bool true)), (9, .v (.int .i64 v14))], [(0, .box [.sl 1 0 x2.1.length, .v (.int .i64 x2.2.1)]), (1, .arr 2 (List.map enc_si x2.1)), (2, .arr 1 (List.map enc_i x2.2.2)), (3, .arr 2 (List.map enc_ii x3)), (4, .arr 1 (List.map enc_i x11))]⟩) (C := ((True) ∧ ((.v (.bool v13) : AV) = (.v (.bool true) : AV))) ∧ True) (by kernel_rfl) ⟨⟨trivial, (congrArg (fun z => AV.v (.bool z)) b16)⟩, trivial⟩ trivial ?_
        refine AX.reg (its := [.auto {}, .auto { raw := true }]) [3, 4, 5, 6, 7, 8, 9] [0, 1, 2, 3, 4] (s1 := ⟨[(3, .pt 0 0), (4, .sl 2 0 x2.2.2.length), (5, .sl 3 0 x3.length), (6, .sl 4 0 x11.length), (7, .v (.int .i64 v12)), (8, .v (.bool true)), (9, .v (.int .i64 (IntKind.wrap .i64 (v14 + 1))))], [(0, .box [.sl 1 0 x2.1.length, .v (.int .i64 x2.2.1)]), (1, .arr 2 (List.map enc_si x2.1)), (2, .arr 1 (List.map enc_i x2.2.2)), (3, .arr 2 (List.map enc_ii x3)), (4, .arr 1 (List.map enc_i x11))]⟩) (C := True) (by kernel_rfl) trivial trivial ?_
        refine ⟨(fu, (true, IntKind.wrap .i64 (v14 + 1))), h, Nat.lt_succ_self _, ?_⟩
        refine Wk.trans (Wk.forget [3, 4, 5, 6, 7, 8, 9] [0, 1, 2, 3, 4] (s' := ⟨[(3, .pt 0 0), (4, .sl 2 0 x2.2.2.length), (5, .sl 3 0 x3.length), (6, .sl 4 0 x11.length), (7, .v (.int .i64 v12)), (8, .v (.bool true)), (9, .v (.int .i64 (IntKind.wrap .i64 (v14 + 1))))], [(0, .box [.sl 1 0 x2.1.length, .v (.int .i64 x2.2.1)]), (1, .arr 2 (List.map enc_si x2.1)), (2, .arr 1 (List.map enc_i x2.2.2)), (3, .arr 2 (List.map enc_ii x3)), (4, .arr 1 (List.map enc_i x11))]⟩) (by kernel_rfl)) ?_
        exact Wk.refl _
      · replace h := cd_f b16 h
        obtain ⟨g17, h⟩ := gd_e h
        obtain ⟨g18, h⟩ := gd_e h
        obtain ⟨x15, e19, h⟩ := bd_e h
        refine AX.drw mixed (its := [.auto { y := some (.v (.bool false)) }, .auto {}, .auto {}, .auto {}, .auto {}, .auto {}, .auto { y := some (.agg [.v (.int .i64 ((gt x3 v14).1)), .v (.int .i64 ((gt x3 v14).2))]) }, .auto {}, .auto {}, .auto {}, .auto { y := some (.v (.int .i64 (gt x11 v12))) }, .call 19 [.agg [.sl 1 0 x2.1.length, .v (.int .i64 x2.2.1)], .agg [.v (.int .i64 ((gt x3 v14).1)), .v (.int .i64 ((gt x3 v14).2))], .v (.int .i64 (gt x11 v12))] (handO (rho ([] ++ [])) [] [] ++ [(1, .arr 2 (List.map enc_si x2.1))]) (callEv [] [] (.v (.bool x15)) [])]) [3, 4, 5, 6, 7, 8, 9] [0, 1, 2, 3, 4] (s1 := ⟨[(3, .pt 0 0), (4, .sl 2 0 x2.2.2.length), (5, .sl 3 0 x3.length), (6, .sl 4 0 x11.length), (7, .v (.int .i64 v12)), (8, .v (.bool x15)), (9, .v (.int .i64 v14))], [(0, .box [.sl 1 0 x2.1.length, .v (.int .i64 x2.2.1)]), (1, .arr 2 (List.map enc_si x2.1)), (2, .arr 1 (List.map enc_i x2.2.2)), (3, .arr 2 (List.map enc_ii x3)), (4, .arr 1 (List.map enc_i x11))]⟩) (C := ((True) ∧ ((.v (.bool v13) : AV) = (.v (.bool false) : AV))) ∧ (0 ≤ v14 ∧ v14 < (x3.length : Int)) ∧ (True ∧ (AV.agg ((((List.map enc_ii x3).getD (0 + v14.toNat) []).drop 0 |>.take 2).map .v) = .agg [.v (.int .i64 ((gt x3 v14).1)), .v (.int .i64 ((gt x3 v14).2))])) ∧ (0 ≤ v12 ∧ v12 < (x11.length : Int)) ∧ (True ∧ (AV.v (((List.map enc_i x11).getD (0 + v12.toNat) []).getD 0 undef) = .v (.int .i64 (gt x11 v12)))) ∧ ((([.agg [.sl 1 0 x2.1.length, .v (.int .i64 x2.2.1)], .agg [.v (.int .i64 ((gt x3 v14).1)), .v (.int .i64 ((gt x3 v14).2))], .v (.int .i64 (gt x11 v12))] : List AV) = [.agg [.sl 1 0 x2.1.length, .v (.int .i64 x2.2.1)], .agg [.v (.int .i64 ((gt x3 v14).1)), .v (.int .i64 ((gt x3 v14).2))], .v (.int .i64 (gt x11 v12))]) ∧ (AO.arr 2 (List.map enc_si x2.1) = AO.arr 2 (List.map enc_si x2.1)) ∧ True) ∧ True) (by kernel_rfl) ⟨⟨trivial, (congrArg (fun z => AV.v (.bool z)) b16)⟩, ⟨g17, ⟨⟨trivial, (congrArg (fun z : List Value => AV.agg (((z.drop 0).take 2).map .v)) (idx_arr (enc := enc_ii) rfl g17))⟩, ⟨g18, ⟨⟨trivial, (congrArg (fun z : List Value => AV.v (z.getD 0 undef)) (idx_arr (enc := enc_i) rfl g18))⟩, ⟨⟨rfl, rfl, trivial⟩, trivial⟩⟩⟩⟩⟩⟩ ⟨call_ok (ks := []) (ns := []) (bor := [1]) (bobjs := [(1, .arr 2 (List.map enc_si x2.1))]) (s_impl_MatchArm x2.1 x2.2.1 ((gt x3 v14).1) ((gt x3 v14).2) (gt x11 v12) x15 e19) (.cons (.c1 (.agg (.cons (.arr rfl rfl ((rfl).trans (List.length_map ..).symm)) (.cons (.same _ (by kernel_rfl) (by kernel_rfl)) (.nil))))) (.cons (.c1 (.agg (.cons (.same _ (by kernel_rfl) (by kernel_rfl)) (.cons (.same _ (by kernel_rfl) (by kernel_rfl)) (.nil))))) (.cons (.c1 (.c0 (.same _ (by kernel_rfl) (by kernel_rfl)))) (.nil)))) (by kernel_rfl) trivial, trivial⟩ ?_
        refine AX.reg (its := [.auto {}, .auto { raw := true }]) [3, 4, 5, 6, 7, 8, 9] [0, 1, 2, 3, 4] (s1 := ⟨[(3, .pt 0 0), (4, .sl 2 0 x2.2.2.length), (5, .sl 3 0 x3.length), (6, .sl 4 0 x11.length), (7, .v (.int .i64 v12)), (8, .v (.bool x15)), (9, .v (.int .i64 (IntKind.wrap .i64 (v14 + 1))))], [(0, .box [.sl 1 0 x2.1.length, .v (.int .i64 x2.2.1)]), (1, .arr 2 (List.map enc_si x2.1)), (2, .arr 1 (List.map enc_i x2.2.2)), (3, .arr 2 (List.map enc_ii x3)), (4, .arr 1 (List.map enc_i x11))]⟩) (C := True) (by kernel_rfl) trivial trivial ?_
        refine ⟨(fu, (x15, IntKind.wrap .i64 (v14 + 1))), h, Nat.lt_succ_self _, ?_⟩
        refine Wk.trans (Wk.forget [3, 4, 5, 6, 7, 8, 9] [0, 1, 2, 3, 4] (s' := ⟨[(3, .pt 0 0), (4, .sl 2 0 x2.2.2.length), (5, .sl 3 0 x3.length), (6, .sl 4 0 x11.length), (7, .v (.int .i64 v12)), (8, .v (.bool x15)), (9, .v (.int .i64 (IntKind.wrap .i64 (v14 + 1))))], [(0, .box [.sl 1 0 x2.1.length, .v (.int .i64 x2.2.1)]), (1, .arr 2 (List.map enc_si x2.1)), (2, .arr 1 (List.map enc_i x2.2.2)), (3, .arr 2 (List.map enc_ii x3)), (4, .arr 1 (List.map enc_i x11))]⟩) (by kernel_rfl)) ?_
        exact Wk.refl _
    · replace h := cd_f b15 h
      refine AX.condF (decide (v14 < (x3.length : Int))) (by kernel_rfl) b15 ?_
      refine AX.exit ?_
      refine fin_wk (Wk.forget [3, 4, 5, 6, 7, 8] [0, 1, 2, 3, 4] (s' := ⟨[(3, .pt 0 0), (4, .sl 2 0 x2.2.2.length), (5, .sl 3 0 x3.length), (6, .sl 4 0 x11.length), (7, .v (.int .i64 v12)), (8, .v (.bool v13))], [(0, .box [.sl 1 0 x2.1.length, .v (.int .i64 x2.2.1)]), (1, .arr 2 (List.map enc_si x2.1)), (2, .arr 1 (List.map enc_i x2.2.2)), (3, .arr 2 (List.map enc_ii x3)), (4, .arr 1 (List.map enc_i x11))]⟩) (by kernel_rfl)) ?_
      have hr := Option.some.inj h
      subst hr
      exact ⟨_, Wk.refl _, ⟨rfl, rfl⟩⟩

theorem s_laws_FnGreatestArms_L1 (x2 : (List (ByteArray × Int)) × Int × List (Int)) (x3 : List (Int × Int)) (x11 : List (Int)) (n : Nat) (g : Int) (out : Unit ⊕ Unit) (h : m_laws_FnGreatestArms_L1 x2 x3 x11 n g = some out) :
    AX Try.prog 103 0 (codeAt [1, 1, 1, 1, 1, 1, 0, 1, 1] (bodyOf Try.f3)) ((fun g : Int => (⟨[(3, .pt 0 0), (4, .sl 2 0 x2.2.2.length), (5, .sl 3 0 x3.length), (6, .sl 4 0 x11.length), (7, .v (.int .i64 g))], [(0, .box [.sl 1 0 x2.1.length, .v (.int .i64 x2.2.1)]), (1, .arr 2 (List.map enc_si x2.1)), (2, .arr 1 (List.map enc_i x2.2.2)), (3, .arr 2 (List.map enc_ii x3)), (4, .arr 1 (List.map enc_i x11))]⟩ : S)) g) (fun ex s => (∃ o : Unit, out = Sum.inl o ∧ ex = .ret ∧ s = ⟨[(2, .v (.bool false))], []⟩) ∨ (∃ o : Unit, out = Sum.inr o ∧ ex = .exit 0 ∧ s = ⟨[(3, .pt 0 0), (5, .sl 2 0 x3.length)], [(0, .box [.sl 1 0 x2.1.length, .v (.int .i64 x2.2.1)]), (1, .arr 2 (List.map enc_si x2.1)), (2, .arr 2 (List.map enc_ii x3))]⟩)) := by
  refine AX.wkpost ?_
  refine AX.loop (G := Nat × (Int)) (fun q => (fun g : Int => (⟨[(3, .pt 0 0), (4, .sl 2 0 x2.2.2.length), (5, .sl 3 0 x3.length), (6, .sl 4 0 x11.length), (7, .v (.int .i64 g))], [(0, .box [.sl 1 0 x2.1.length, .v (.int .i64 x2.2.1)]), (1, .arr 2 (List.map enc_si x2.1)), (2, .arr 1 (List.map enc_i x2.2.2)), (3, .arr 2 (List.map enc_ii x3)), (4, .arr 1 (List.map enc_i x11))]⟩ : S)) q.2) (fun q => m_laws_FnGreatestArms_L1 x2 x3 x11 q.1 q.2 = some out) (fun q => q.1) (n, g) h (Wk.refl _) ?_
  clear h
  rintro ⟨fu, v12⟩ h
  cases fu with
  | zero => cases h
  | succ fu =>
    rw [m_laws_FnGreatestArms_L1] at h
    refine AX.seq ?_
    refine AX.seq ?_
    refine AX.reg (its := []) [3, 4, 5, 6, 7, 46] [0, 1, 2, 3, 4] (s1 := ⟨[(3, .pt 0 0), (4, .sl 2 0 x2.2.2.length), (5, .sl 3 0 x3.length), (6, .sl 4 0 x11.length), (7, .v (.int .i64 v12)), (46, .v (.bool (decide (v12 < (x11.length : Int)))))], [(0, .box [.sl 1 0 x2.1.length, .v (.int .i64 x2.2.1)]), (1, .arr 2 (List.map enc_si x2.1)), (2, .arr 1 (List.map enc_i x2.2.2)), (3, .arr 2 (List.map enc_ii x3)), (4, .arr 1 (List.map enc_i x11))]⟩) (C := True) (by kernel_rfl) trivial trivial ?_
    rcases bool_cases (decide (v12 < (x11.length : Int))) with b14 | b14
    · replace h := cd_t b14 h
      refine AX.condT (decide (v12 < (x11.length : Int))) (by kernel_rfl) b14 ?_
      refine AX.skip ?_
      refine AX.seq ?_
      refine AX.block ?_
      refine AX.seq ?_
      refine AX.reg (its := []) [3, 4, 5, 6, 7, 8] [0, 1, 2, 3, 4] (s1 := ⟨[(3, .pt 0 0), (4, .sl 2 0 x2.2.2.length), (5, .sl 3 0 x3.length), (6, .sl 4 0 x11.length), (7, .v (.int .i64 v12)), (8, .v (.bool false))], [(0, .box [.sl 1 0 x2.1.length, .v (.int .i64 x2.2.1)]), (1, .arr 2 (List.map enc_si x2.1)), (2, .arr 1 (List.map enc_i x2.2.2)), (3, .arr 2 (List.map enc_ii x3)), (4, .arr 1 (List.map enc_i x11))]⟩) (C := True) (by kernel_rfl) trivial trivial ?_
      refine AX.seq ?_
      refine AX.seq ?_
      refine AX.reg (its := []) [3, 4, 5, 6, 7, 8, 9] [0, 1, 2, 3, 4] (s1 := ⟨[(3, .pt 0 0), (4, .sl 2 0 x2.2.2.length), (5, .sl 3 0 x3.length), (6, .sl 4 0 x11.length), (7, .v (.int .i64 v12)), (8, .v (.bool false)), (9, .v (.int .i64 0))], [(0, .box [.sl 1 0 x2.1.length, .v (.int .i64 x2.2.1)]), (1, .arr 2 (List.map enc_si x2.1)), (2, .arr 1 (List.map enc_i x2.2.2)), (3, .arr 2 (List.map enc_ii x3)), (4, .arr 1 (List.map enc_i x11))]⟩) (C := True) (by kernel_rfl) trivial trivial ?_
      refine AX.block ?_
      obtain ⟨x16, e20, h⟩ := bd_e h
      refine AX.wk (Wk.forget [3, 4, 5, 6, 7, 8, 9] [0, 1, 2, 3, 4] (s' := ⟨[(3, .pt 0 0), (4, .sl 2 0 x2.2.2.length), (5, .sl 3 0 x3.length), (6, .sl 4 0 x11.length), (7, .v (.int .i64 v12)), (8, .v (.bool false)), (9, .v (.int .i64 0))], [(0, .box [.sl 1 0 x2.1.length, .v (.int .i64 x2.2.1)]), (1, .arr 2 (List.map enc_si x2.1)), (2, .arr 1 (List.map enc_i x2.2.2)), (3, .arr 2 (List.map enc_ii x3)), (4, .arr 1 (List.map enc_i x11))]⟩) (by kernel_rfl)) ?_
      refine AX.mono (s_laws_FnGreatestArms_L2 x2 x3 x11 v12 FU (false, 0) x16 e20) ?_
      rintro _ _ ⟨rfl, rfl⟩
      skip
      refine AX.seq ?_
      obtain ⟨g21, h⟩ := gd_e h
      obtain ⟨x17, e22, h⟩ := bd_e h
      refine AX.reg (its := [.auto {}, .auto {}, .auto {}, .auto {}, .auto {}, .auto { y := some (.v (.int .i64 (gt x11 v12))) }, .call 20 [.sl 2 0 x2.2.2.length, .v (.int .i64 (gt x11 v12))] (handO (rho ([] ++ [])) [] [] ++ [(2, .arr 1 (List.map enc_i x2.2.2))]) (callEv [] [] (.v (.bool x17)) [])]) [3, 4, 5, 6, 7, 75] [0, 1, 2, 3, 4] (s1 := ⟨[(3, .pt 0 0), (4, .sl 2 0 x2.2.2.length), (5, .sl 3 0 x3.length), (6, .sl 4 0 x11.length), (7, .v (.int .i64 v12)), (75, .v (.bool (!(x16 == x17))))], [(0, .box [.sl 1 0 x2.1.length, .v (.int .i64 x2.2.1)]), (1, .arr 2 (List.map enc_si x2.1)), (2, .arr 1 (List.map enc_i x2.2.2)), (3, .arr 2 (List.map enc_ii x3)), (4, .arr 1 (List.map enc_i x11))]⟩) (C := (0 ≤ v12 ∧ v12 < (x11.length : Int)) ∧ (True ∧ (AV.v (((List.map enc_i x11).getD (0 + v12.toNat) []).getD 0 undef) = .v (.int .i64 (gt x11 v12)))) ∧ ((([.sl 2 0 x2.2.2.length, .v (.int .i64 (gt x11 v12))] : List AV) = [.sl 2 0 x2.2.2.length, .v (.int .i64 (gt x11 v12))]) ∧ (AO.arr 1 (List.map enc_i x2.2.2) = AO.arr 1 (List.map enc_i x2.2.2)) ∧ True) ∧ True) (by kernel_rfl) ⟨g21, ⟨⟨trivial, (congrArg (fun z : List Value => AV.v (z.getD 0 undef)) (idx_arr (enc := enc_i) rfl g21))⟩, ⟨⟨rfl, rfl, trivial⟩, trivial⟩⟩⟩ ⟨call_ok (ks := []) (ns := []) (bor := [2]) (bobjs := [(2, .arr 1 (List.map enc_i x2.2.2))]) (s_laws_isIn x2.2.2 (gt x11 v12) x17 e22) (.cons (.c1 (.c0 (.arr rfl rfl ((rfl).trans (List.length_map ..).symm)))) (.cons (.c1 (.c0 (.same _ (by kernel_rfl) (by kernel_rfl)))) (.nil))) (by kernel_rfl) trivial, trivial⟩ ?_
      rcases bool_cases ((!(x16 == x17))) with b23 | b23
      · replace h := cd_t b23 h
        refine AX.condT ((!(x16 == x17))) (by kernel_rfl) b23 ?_
        refine AX.seq ?_
        refine AX.reg (its := []) [2] [] (s1 := ⟨[(2, .v (.bool false))], []⟩) (C := True) (by kernel_rfl) trivial trivial ?_
        refine AX.ret ?_
        refine fin_wk (Wk.forget [2] [] (s' := ⟨[(2, .v (.bool false))], []⟩) (by kernel_rfl)) ?_
        have hr := Option.some.inj h
        subst hr
        exact ⟨_, Wk.refl _, .inl ⟨(), rfl, rfl, rfl⟩⟩
      · replace h := cd_f b23 h
        refine AX.condF ((!(x16 == x17))) (by kernel_rfl) b23 ?_
        refine AX.skip ?_
        refine AX.reg (its := [.auto {}, .auto { raw := true }]) [3, 4, 5, 6, 7] [0, 1, 2, 3, 4] (s1 := ⟨[(3, .pt 0 0), (4, .sl 2 0 x2.2.2.length), (5, .sl 3 0 x3.length), (6, .sl 4 0 x11.length), (7, .v (.int .i64 (IntKind.wrap .i64 (v12 + 1))))], [(0, .box [.sl 1 0 x2.1.length, .v (.int .i64 x2.2.1)]), (1, .arr 2 (List.map enc_si x2.1)), (2, .arr 1 (List.map enc_i x2.2.2)), (3, .arr 2 (List.map enc_ii x3)), (4, .arr 1 (List.map enc_i x11))]⟩) (C := True) (by kernel_rfl) trivial trivial ?_
        refine ⟨(fu, IntKind.wrap .i64 (v12 + 1)), h, Nat.lt_succ_self _, ?_⟩
        refine Wk.trans (Wk.forget [3, 4, 5, 6, 7] [0, 1, 2, 3, 4] (s' := ⟨[(3, .pt 0 0), (4, .sl 2 0 x2.2.2.length), (5, .sl 3 0 x3.length), (6, .sl 4 0 x11.length), (7, .v (.int .i64 (IntKind.wrap .i64 (v12 + 1))))], [(0, .box [.sl 1 0 x2.1.length, .v (.int .i64 x2.2.1)]), (1, .arr 2 (List.map enc_si x2.1)), (2, .arr 1 (List.map enc_i x2.2.2)), (3, .arr 2 (List.map enc_ii x3)), (4, .arr 1 (List.map enc_i x11))]⟩) (by kernel_rfl)) ?_
        exact Wk.refl _
    · replace h := cd_f b14 h
      refine AX.condF (decide (v12 < (x11.length : Int))) (by kernel_rfl) b14 ?_
      refine AX.exit ?_
      refine fin_wk (Wk.swap 2 3 (Nat.le_of_ble_eq_true (by kernel_rfl)) (Nat.le_of_ble_eq_true (by kernel_rfl)) rfl) ?_
      refine fin_wk (Wk.forget [3, 5] [0, 1, 2] (s' := ⟨[(3, .pt 0 0), (5, .sl 2 0 x3.length)], [(0, .box [.sl 1 0 x2.1.length, .v (.int .i64 x2.2.1)]), (1, .arr 2 (List.map enc_si x2.1)), (2, .arr 2 (List.map enc_ii x3))]⟩) (by kernel_rfl)) ?_
      have hr := Option.some.inj h
      subst hr
      exact ⟨_, Wk.refl _, .inr ⟨(), rfl, rfl, rfl⟩⟩

theorem s_laws_FnGreatestArms_L4 (x2 : (List (ByteArray × Int)) × Int × List (Int)) (x3 : List (Int × Int)) (v21 : Int) (n : Nat) (g : Int) (out : Unit ⊕ Unit) (h : m_laws_FnGreatestArms_L4 x2 x3 v21 n g = some out) :
    AX Try.prog 103 0 (codeAt [1, 1, 1, 1, 1, 1, 1, 0, 1, 1, 1, 1, 0, 1, 1, 1] (bodyOf Try.f3)) ((fun g : Int => (⟨[(3, .pt 0 0), (5, .sl 2 0 x3.length), (10, .v (.int .i64 v21)), (11, .v (.int .i64 g))], [(0, .box [.sl 1 0 x2.1.length, .v (.int .i64 x2.2.1)]), (1, .arr 2 (List.map enc_si x2.1)), (2, .arr 2 (List.map enc_ii x3))]⟩ : S)) g) (fun ex s => (∃ o : Unit, out = Sum.inl o ∧ ex = .ret ∧ s = ⟨[(2, .v (.bool false))], []⟩) ∨ (∃ o : Unit, out = Sum.inr o ∧ ex = .exit 6 ∧ s = ⟨[(3, .pt 0 0), (5, .sl 2 0 x3.length), (10, .v (.int .i64 v21))], [(0, .box [.sl 1 0 x2.1.length, .v (.int .i64 x2.2.1)]), (1, .arr 2 (List.map enc_si x2.1)), (2, .arr 2 (List.map enc_ii x3))]⟩)) := by
  refine AX.wkpost ?_
  refine AX.loop (G := Nat × (Int)) (fun q => (fun g : Int => (⟨[(3, .pt 0 0), (5, .sl 2 0 x3.length), (10, .v (.int .i64 v21)), (11, .v (.int .i64 g))], [(0, .box [.sl 1 0 x2.1.length, .v (.int .i64 x2.2.1)]), (1, .arr 2 (List.map enc_si x2.1)), (2, .arr 2 (List.map enc_ii x3))]⟩ : S)) q.2) (fun q => m_laws_FnGreatestArms_L4 x2 x3 v21 q.1 q.2 = some out) (fun q => q.1) (n, g) h (Wk.refl _) ?_
  clear h
  rintro ⟨fu, v22⟩ h
  cases fu with
  | zero => cases h
  | succ fu =>
    rw [m_laws_FnGreatestArms_L4] at h
    refine AX.seq ?_
    refine AX.seq ?_
    refine AX.reg (its := []) [3, 5, 10, 11, 85] [0, 1, 2] (s1 := ⟨[(3, .pt 0 0), (5, .sl 2 0 x3.length), (10, .v (.int .i64 v21)), (11, .v (.int .i64 v22)), (85, .v (.bool (decide (v22 < (x3.length : Int)))))], [(0, .box [.sl 1 0 x2.1.length, .v (.int .i64 x2.2.1)]), (1, .arr 2 (List.map enc_si x2.1)), (2, .arr 2 (List.map enc_ii x3))]⟩) (C := True) (by kernel_rfl) trivial trivial ?_
    rcases bool_cases (decide (v22 < (x3.length : Int))) with b26 | b26
    · replace h := cd_t b26 h
      refine AX.condT (decide (v22 < (x3.length : Int))) (by kernel_rfl) b26 ?_
      refine AX.skip ?_
      refine AX.seq ?_
      refine AX.block ?_
      refine AX.seq ?_
      rcases bool_cases ((!decide (v21 = v22))) with b27 | b27
      · replace h := cd_t b27 h
        obtain ⟨g28, h⟩ := gd_e h
        obtain ⟨g29, h⟩ := gd_e h
        obtain ⟨x23, e30, h⟩ := bd_e h
        refine AX.drw mixed (its := [.auto {}, .auto {}, .auto { y := some (.v (.bool true)) }, .auto {}, .auto {}, .auto {}, .auto {}, .auto {}, .auto { y := some (.agg [.v (.int .i64 ((gt x3 v21).1)), .v (.int .i64 ((gt x3 v21).2))]) }, .auto {}, .auto {}, .auto {}, .auto { y := some (.agg [.v (.int .i64 ((gt x3 v22).1)), .v (.int .i64 ((gt x3 v22).2))]) }, .call 21 [.agg [.sl 1 0 x2.1.length, .v (.int .i64 x2.2.1)], .agg [.v (.int .i64 ((gt x3 v21).1)), .v (.int .i64 ((gt x3 v21).2))], .agg [.v (.int .i64 ((gt x3 v22).1)), .v (.int .i64 ((gt x3 v22).2))]] (handO (rho ([] ++ [])) [] [] ++ [(1, .arr 2 (List.map enc_si x2.1))]) (callEv [] [] (.v (.bool x23)) [])]) [3, 5, 10, 11, 102] [0, 1, 2] (s1 := ⟨[(3, .pt 0 0), (5, .sl 2 0 x3.length), (10, .v (.int .i64 v21)), (11, .v (.int .i64 v22)), (102, .v (.bool x23))], [(0, .box [.sl 1 0 x2.1.length, .v (.int .i64 x2.2.1)]), (1, .arr 2 (List.map enc_si x2.1)), (2, .arr 2 (List.map enc_ii x3))]⟩) (C := ((True) ∧ ((.v (.bool (!decide (v21 = v22))) : AV) = (.v (.bool true) : AV))) ∧ (0 ≤ v21 ∧ v21 < (x3.length : Int)) ∧ (True ∧ (AV.agg ((((List.map enc_ii x3).getD (0 + v21.toNat) []).drop 0 |>.take 2).map .v) = .agg [.v (.int .i64 ((gt x3 v21).1)), .v (.int .i64 ((gt x3 v21).2))])) ∧ (0 ≤ v22 ∧ v22 < (x3.length : Int)) ∧ (True ∧ (AV.agg ((((List.map enc_ii x3).getD (0 + v22.toNat) []).drop 0 |>.take 2).map .v) = .agg [.v (.int .i64 ((gt x3 v22).1)), .v (.int .i64 ((gt x3 v22).2))])) ∧ ((([.agg [.sl 1 0 x2.1.length, .v (.int .i64 x2.2.1)], .agg [.v (.int .i64 ((gt x3 v21).1)), .v (.int .i64 ((gt x3 v21).2))], .agg [.v (.int .i64 ((gt x3 v22).1)), .v (.int .i64 ((gt x3 v22).2))]] : List AV) = [.agg [.sl 1 0 x2.1.length, .v (.int .i64 x2.2.1)], .agg [.v (.int .i64 ((gt x3 v21).1)), .v (.int .i64 ((gt x3 v21).2))], .agg [.v (.int .i64 ((gt x3 v22).1)), .v (.int .i64 ((gt x3 v22).2))]]) ∧ (AO.arr 2 (List.map enc_si x2.1) = AO.arr 2 (List.map enc_si x2.1)) ∧ True) ∧ True) (by kernel_rfl) ⟨⟨trivial, (congrArg (fun z => AV.v (.bool z)) b27)⟩, ⟨g28, ⟨⟨trivial, (congrArg (fun z : List Value => AV.agg (((z.drop 0).take 2).map .v)) (idx_arr (enc := enc_ii) rfl g28))⟩, ⟨g29, ⟨⟨trivial, (congrArg (fun z : List Value => AV.agg (((z.drop 0).take 2).map .v)) (idx_arr (enc := enc_ii) rfl g29))⟩, ⟨⟨rfl, rfl, trivial⟩, trivial⟩⟩⟩⟩⟩⟩ ⟨call_ok (ks := []) (ns := []) (bor := [1]) (bobjs := [(1, .arr 2 (List.map enc_si x2.1))]) (s_impl_ArmCovers x2.1 x2.2.1 ((gt x3 v21).1) ((gt x3 v21).2) ((gt x3 v22).1) ((gt x3 v22).2) x23 e30) (.cons (.c1 (.agg (.cons (.arr rfl rfl ((rfl).trans (List.length_map ..).symm)) (.cons (.same _ (by kernel_rfl) (by kernel_rfl)) (.nil))))) (.cons (.c1 (.agg (.cons (.same _ (by kernel_rfl) (by kernel_rfl)) (.cons (.same _ (by kernel_rfl) (by kernel_rfl)) (.nil))))) (.cons (.c1 (.agg (.cons (.same _ (by kernel_rfl) (by kernel_rfl)) (.cons (.same _ (by kernel_rfl) (by kernel_rfl)) (.nil))))) (.nil)))) (by kernel_rfl) trivial, trivial⟩ ?_
        rcases bool_cases (x23) with b31 | b31
        · replace h := cd_t b31 h
          refine AX.condT (x23) (by kernel_rfl) b31 ?_
          refine AX.seq ?_
          refine AX.reg (its := []) [2] [] (s1 := ⟨[(2, .v (.bool false))], []⟩) (C := True) (by kernel_rfl) trivial trivial ?_
          refine AX.ret ?_
          refine fin_wk (Wk.forget [2] [] (s' := ⟨[(2, .v (.bool false))], []⟩) (by kernel_rfl)) ?_
          have hr := Option.some.inj h
          subst hr
          exact ⟨_, Wk.refl _, .inl ⟨(), rfl, rfl, rfl⟩⟩
        · replace h := cd_f b31 h
          refine AX.condF (x23) (by kernel_rfl) b31 ?_
          refine AX.skip ?_
          refine AX.reg (its := [.auto {}, .auto { raw := true }]) [3, 5, 10, 11] [0, 1, 2] (s1 := ⟨[(3, .pt 0 0), (5, .sl 2 0 x3.length), (10, .v (.int .i64 v21)), (11, .v (.int .i64 (IntKind.wrap .i64 (v22 + 1))))], [(0, .box [.sl 1 0 x2.1.length, .v (.int .i64 x2.2.1)]), (1, .arr 2 (List.map enc_si x2.1)), (2, .arr 2 (List.map enc_ii x3))]⟩) (C := True) (by kernel_rfl) trivial trivial ?_
          refine ⟨(fu, IntKind.wrap .i64 (v22 + 1)), h, Nat.lt_succ_self _, ?_⟩
          refine Wk.trans (Wk.forget [3, 5, 10, 11] [0, 1, 2] (s' := ⟨[(3, .pt 0 0), (5, .sl 2 0 x3.length), (10, .v (.int .i64 v21)), (11, .v (.int .i64 (IntKind.wrap .i64 (v22 + 1))))], [(0, .box [.sl 1 0 x2.1.length, .v (.int .i64 x2.2.1)]), (1, .arr 2 (List.map enc_si x2.1)), (2, .arr 2 (List.map enc_ii x3))]⟩) (by kernel_rfl)) ?_
          exact Wk.refl _
      · replace h := cd_f b27 h
        refine AX.drw mixed (its := [.auto {}, .auto {}, .auto { y := some (.v (.bool false)) }]) [3, 5, 10, 11, 102] [0, 1, 2] (s1 := ⟨[(3, .pt 0 0), (5, .sl 2 0 x3.length), (10, .v (.int .i64 v21)), (11, .v (.int .i64 v22)), (102, .v (.bool false))], [(0, .box [.sl 1 0 x2.1.length, .v (.int .i64 x2.2.1)]), (1, .arr 2 (List.map enc_si x2.1)), (2, .arr 2 (List.map enc_ii x3))]⟩) (C := ((True) ∧ ((.v (.bool (!decide (v21 = v22))) : AV) = (.v (.bool false) : AV))) ∧ True) (by kernel_rfl) ⟨⟨trivial, (congrArg (fun z => AV.v (.bool z)) b27)⟩, trivial⟩ trivial ?_
        refine AX.cond_false (by kernel_rfl) ?_
        refine AX.skip ?_
        refine AX.reg (its := [.auto {}, .auto { raw := true }]) [3, 5, 10, 11] [0, 1, 2] (s1 := ⟨[(3, .pt 0 0), (5, .sl 2 0 x3.length), (10, .v (.int .i64 v21)), (11, .v (.int .i64 (IntKind.wrap .i64 (v22 + 1))))], [(0, .box [.sl 1 0 x2.1.length, .v (.int .i64 x2.2.1)]), (1, .arr 2 (List.map enc_si x2.1)), (2, .arr 2 (List.map enc_ii x3))]⟩) (C := True) (by kernel_rfl) trivial trivial ?_
        refine ⟨(fu, IntKind.wrap .i64 (v22 + 1)), h, Nat.lt_succ_self _, ?_⟩
        refine Wk.trans (Wk.forget [3, 5, 10, 11] [0, 1, 2] (s' := ⟨[(3, .pt 0 0), (5, .sl 2 0 x3.length), (10, .v (.int .i64 v21)), (11, .v (.int .i64 (IntKind.wrap .i64 (v22 + 1))))], [(0, .box [.sl 1 0 x2.1.length, .v (.int .i64 x2.2.1)]), (1, .arr 2 (List.map enc_si x2.1)), (2, .arr 2 (List.map enc_ii x3))]⟩) (by kernel_rfl)) ?_
        exact Wk.refl _
    · replace h := cd_f b26 h
      refine AX.condF (decide (v22 < (x3.length : Int))) (by kernel_rfl) b26 ?_
      refine AX.exit ?_
      refine fin_wk (Wk.forget [3, 5, 10] [0, 1, 2] (s' := ⟨[(3, .pt 0 0), (5, .sl 2 0 x3.length), (10, .v (.int .i64 v21))], [(0, .box [.sl 1 0 x2.1.length, .v (.int .i64 x2.2.1)]), (1, .arr 2 (List.map enc_si x2.1)), (2, .arr 2 (List.map enc_ii x3))]⟩) (by kernel_rfl)) ?_
      have hr := Option.some.inj h
      subst hr
      exact ⟨_, Wk.refl _, .inr ⟨(), rfl, rfl, rfl⟩⟩

theorem s_laws_FnGreatestArms_L3 (x2 : (List (ByteArray × Int)) × Int × List (Int)) (x3 : List (Int × Int)) (n : Nat) (g : Int) (out : Unit ⊕ Unit) (h : m_laws_FnGreatestArms_L3 x2 x3 n g = some out) :
    AX Try.prog 103 0 (codeAt [1, 1, 1, 1, 1, 1, 1, 0, 1, 1] (bodyOf Try.f3)) ((fun g : Int => (⟨[(3, .pt 0 0), (5, .sl 2 0 x3.length), (10, .v (.int .i64 g))], [(0, .box [.sl 1 0 x2.1.length, .v (.int .i64 x2.2.1)]), (1, .arr 2 (List.map enc_si x2.1)), (2, .arr 2 (List.map enc_ii x3))]⟩ : S)) g) (fun ex s => (∃ o : Unit, out = Sum.inl o ∧ ex = .ret ∧ s = ⟨[(2, .v (.bool false))], []⟩) ∨ (∃ o : Unit, out = Sum.inr o ∧ ex = .exit 4 ∧ s = ⟨[], []⟩)) := by
  refine AX.wkpost ?_
  refine AX.loop (G := Nat × (Int)) (fun q => (fun g : Int => (⟨[(3, .pt 0 0), (5, .sl 2 0 x3.length), (10, .v (.int .i64 g))], [(0, .box [.sl 1 0 x2.1.length, .v (.int .i64 x2.2.1)]), (1, .arr 2 (List.map enc_si x2.1)), (2, .arr 2 (List.map enc_ii x3))]⟩ : S)) q.2) (fun q => m_laws_FnGreatestArms_L3 x2 x3 q.1 q.2 = some out) (fun q => q.1) (n, g) h (Wk.refl _) ?_
  clear h
  rintro ⟨fu, v21⟩ h
  cases fu with
  | zero => cases h
  | succ fu =>
    rw [m_laws_FnGreatestArms_L3] at h
    refine AX.seq ?_
    refine AX.seq ?_
    refine AX.reg (its := []) [3, 5, 10, 79] [0, 1, 2] (s1 := ⟨[(3, .pt 0 0), (5, .sl 2 0 x3.length), (10, .v (.int .i64 v21)), (79, .v (.bool (decide (v21 < (x3.length : Int)))))], [(0, .box [.sl 1 0 x2.1.length, .v (.int .i64 x2.2.1)]), (1, .arr 2 (List.map enc_si x2.1)), (2, .arr 2 (List.map enc_ii x3))]⟩) (C := True) (by kernel_rfl) trivial trivial ?_
    rcases bool_cases (decide (v21 < (x3.length : Int))) with b25 | b25
    · replace h := cd_t b25 h
      refine AX.condT (decide (v21 < (x3.length : Int))) (by kernel_rfl) b25 ?_
      refine AX.skip ?_
      refine AX.seq ?_
      refine AX.block ?_
      refine AX.seq ?_
      refine AX.reg (its := []) [3, 5, 10, 11] [0, 1, 2] (s1 := ⟨[(3, .pt 0 0), (5, .sl 2 0 x3.length), (10, .v (.int .i64 v21)), (11, .v (.int .i64 0))], [(0, .box [.sl 1 0 x2.1.length, .v (.int .i64 x2.2.1)]), (1, .arr 2 (List.map enc_si x2.1)), (2, .arr 2 (List.map enc_ii x3))]⟩) (C := True) (by kernel_rfl) trivial trivial ?_
      refine AX.block ?_
      obtain ⟨x24, e32, h⟩ := bd_e h
      refine AX.wk (Wk.forget [3, 5, 10, 11] [0, 1, 2] (s' := ⟨[(3, .pt 0 0), (5, .sl 2 0 x3.length), (10, .v (.int .i64 v21)), (11, .v (.int .i64 0))], [(0, .box [.sl 1 0 x2.1.length, .v (.int .i64 x2.2.1)]), (1, .arr 2 (List.map enc_si x2.1)), (2, .arr 2 (List.map enc_ii x3))]⟩) (by kernel_rfl)) ?_
      refine AX.mono (s_laws_FnGreatestArms_L4 x2 x3 v21 FU 0 x24 e32) ?_
      rintro _ _ (⟨x25, rfl, rfl, rfl⟩ | ⟨x26, rfl, rfl, rfl⟩)
      · replace h := sm_l h
        refine fin_wk (Wk.forget [2] [] (s' := ⟨[(2, .v (.bool false))], []⟩) (by kernel_rfl)) ?_
        have hr := Option.some.inj h
        subst hr
        exact ⟨_, Wk.refl _, .inl ⟨(), rfl, rfl, rfl⟩⟩
      · replace h := sm_r h
        refine AX.reg (its := [.auto {}, .auto { raw := true }]) [3, 5, 10] [0, 1, 2] (s1 := ⟨[(3, .pt 0 0), (5, .sl 2 0 x3.length), (10, .v (.int .i64 (IntKind.wrap .i64 (v21 + 1))))], [(0, .box [.sl 1 0 x2.1.length, .v (.int .i64 x2.2.1)]), (1, .arr 2 (List.map enc_si x2.1)), (2, .arr 2 (List.map enc_ii x3))]⟩) (C := True) (by kernel_rfl) trivial trivial ?_
        refine ⟨(fu, IntKind.wrap .i64 (v21 + 1)), h, Nat.lt_succ_self _, ?_⟩
        refine Wk.trans (Wk.forget [3, 5, 10] [0, 1, 2] (s' := ⟨[(3, .pt 0 0), (5, .sl 2 0 x3.length), (10, .v (.int .i64 (IntKind.wrap .i64 (v21 + 1))))], [(0, .box [.sl 1 0 x2.1.length, .v (.int .i64 x2.2.1)]), (1, .arr 2 (List.map enc_si x2.1)), (2, .arr 2 (List.map enc_ii x3))]⟩) (by kernel_rfl)) ?_
        exact Wk.refl _
    · replace h := cd_f b25 h
      refine AX.condF (decide (v21 < (x3.length : Int))) (by kernel_rfl) b25 ?_
      refine AX.exit ?_
      refine fin_wk (Wk.forget [] [] (s' := ⟨[], []⟩) (by kernel_rfl)) ?_
      have hr := Option.some.inj h
      subst hr
      exact ⟨_, Wk.refl _, .inr ⟨(), rfl, rfl, rfl⟩⟩

theorem s_laws_FnGreatestArms (p1 : List (Int)) (r : Bool) (h : m_laws_FnGreatestArms p1 = some r) :
    Eng.Spec Try.prog 3 [.bs true 1 (List.map enc_y p1)] [] (.v (.bool r)) [] := by
  unfold m_laws_FnGreatestArms at h
  refine Eng.Spec.body Try.func3 (by kernel_rfl) rfl (by kernel_rfl) ?_
  refine AX.wkpost ?_
  refine AX.seq ?_
  refine AX.reg (its := []) [0] [] (s1 := ⟨[(0, .bs true 1 (List.map enc_y p1))], []⟩) (C := True) (by kernel_rfl) trivial trivial ?_
  refine AX.seq ?_
  refine AX.seq ?_
  refine AX.reg (its := [.auto {}, .auto { y := some (.v (.int .i64 (p1.length : Int))) }]) [0, 14] [] (s1 := ⟨[(0, .bs true 1 (List.map enc_y p1)), (14, .v (.bool (decide (1048576 < (p1.length : Int)))))], []⟩) (C := (True ∧ (AV.v (.int .i64 ((List.map enc_y p1).length : Int)) = AV.v (.int .i64 (p1.length : Int)))) ∧ True) (by kernel_rfl) ⟨⟨trivial, len_map enc_y p1⟩, trivial⟩ trivial ?_
  rcases bool_cases (decide (1048576 < (p1.length : Int))) with b1 | b1
  · replace h := cd_t b1 h
    refine AX.condT (decide (1048576 < (p1.length : Int))) (by kernel_rfl) b1 ?_
    refine AX.seq ?_
    refine AX.reg (its := []) [2] [] (s1 := ⟨[(2, .v (.bool true))], []⟩) (C := True) (by kernel_rfl) trivial trivial ?_
    refine AX.ret ?_
    refine fin_wk (Wk.forget [2] [] (s' := ⟨[(2, .v (.bool true))], []⟩) (by kernel_rfl)) ?_
    have hr := Option.some.inj h
    subst hr
    exact ⟨_, Wk.refl _, .inr rfl, ⟨[], by kernel_rfl, trivial, [.v (.bool true)], by kernel_rfl, by kernel_rfl⟩⟩
  · replace h := cd_f b1 h
    refine AX.condF (decide (1048576 < (p1.length : Int))) (by kernel_rfl) b1 ?_
    refine AX.skip ?_
    refine AX.seq ?_
    obtain ⟨x2, e2, h⟩ := bd_e h
    refine AX.reg (its := [.auto {}, .call 13 [.bs true 1 (List.map enc_y p1)] (handO (rho ([] ++ [0, 1])) [] [] ++ []) (callEv [] [0, 1] (.tup [.agg [.sl 0 0 x2.1.length, .v (.int .i64 x2.2.1)], .sl 1 0 x2.2.2.length]) [.arr 2 (List.map enc_si x2.1), .arr 1 (List.map enc_i x2.2.2)]), .auto {}, .auto {}, .auto {}, .auto { nk := 2 }]) [3, 4] [0, 1, 2] (s1 := ⟨[(3, .pt 2 0), (4, .sl 1 0 x2.2.2.length)], [(0, .arr 2 (List.map enc_si x2.1)), (1, .arr 1 (List.map enc_i x2.2.2)), (2, .box [.sl 0 0 x2.1.length, .v (.int .i64 x2.2.1)])]⟩) (C := ((([.bs true 1 (List.map enc_y p1)] : List AV) = [.bs true 1 (List.map enc_y p1)]) ∧ True) ∧ True) (by kernel_rfl) ⟨⟨rfl, trivial⟩, trivial⟩ ⟨call_ok (ks := []) (ns := [0, 1]) (bor := []) (bobjs := []) (s_spec_DrawGreatestArms p1 x2 e2) (.cons (.c1 (.c0 (.same _ (by kernel_rfl) (by kernel_rfl)))) (.nil)) (by kernel_rfl) trivial, trivial⟩ ?_
    refine AX.seq ?_
    obtain ⟨x3, e3, h⟩ := bd_e h
    refine AX.reg (its := [.auto {}, .auto {}, .call 14 [.agg [.sl 0 0 x2.1.length, .v (.int .i64 x2.2.1)], .sl 1 0 x2.2.2.length] (handO (rho ([] ++ [3])) [] [] ++ [(0, .arr 2 (List.map enc_si x2.1)), (1, .arr 1 (List.map enc_i x2.2.2))]) (callEv [] [3] (.sl 0 0 x3.length) [.arr 2 (List.map enc_ii x3)])]) [3, 4, 5] [0, 1, 2, 3] (s1 := ⟨[(3, .pt 2 0), (4, .sl 1 0 x2.2.2.length), (5, .sl 3 0 x3.length)], [(0, .arr 2 (List.map enc_si x2.1)), (1, .arr 1 (List.map enc_i x2.2.2)), (2, .box [.sl 0 0 x2.1.length, .v (.int .i64 x2.2.1)]), (3, .arr 2 (List.map enc_ii x3))]⟩) (C := ((([.agg [.sl 0 0 x2.1.length, .v (.int .i64 x2.2.1)], .sl 1 0 x2.2.2.length] : List AV) = [.agg [.sl 0 0 x2.1.length, .v (.int .i64 x2.2.1)], .sl 1 0 x2.2.2.length]) ∧ (AO.arr 2 (List.map enc_si x2.1) = AO.arr 2 (List.map enc_si x2.1)) ∧ (AO.arr 1 (List.map enc_i x2.2.2) = AO.arr 1 (List.map enc_i x2.2.2)) ∧ True) ∧ True) (by kernel_rfl) ⟨⟨rfl, rfl, rfl, trivial⟩, trivial⟩ ⟨call_ok (ks := []) (ns := [3]) (bor := [0, 1]) (bobjs := [(0, .arr 2 (List.map enc_si x2.1)), (1, .arr 1 (List.map enc_i x2.2.2))]) (s_impl_GreatestArms x2.1 x2.2.1 x2.2.2 x3 e3) (.cons (.c1 (.agg (.cons (.arr rfl rfl ((rfl).trans (List.length_map ..).symm)) (.cons (.same _ (by kernel_rfl) (by kernel_rfl)) (.nil))))) (.cons (.c1 (.c0 (.arr rfl rfl ((rfl).trans (List.length_map ..).symm)))) (.nil))) (by kernel_rfl) trivial, trivial⟩ ?_
    refine AX.seq ?_
    refine AX.seq ?_
    obtain ⟨x4, e4, h⟩ := bd_e h
    obtain ⟨x5, e5, h⟩ := bd_e h
    rcases bool_cases ((!x5)) with b6 | b6
    · replace h := cd_t b6 h
      refine AX.reg (its := [.auto {}, .auto {}, .auto {}, .call 16 [.agg [.sl 0 0 x2.1.length, .v (.int .i64 x2.2.1)], .sl 1 0 x2.2.2.length] (handO (rho ([] ++ [4])) [] [] ++ [(0, .arr 2 (List.map enc_si x2.1)), (1, .arr 1 (List.map enc_i x2.2.2))]) (callEv [] [4] (.sl 0 0 x4.length) [.arr 2 (List.map enc_ii x4)]), .call 15 [.sl 3 0 x3.length, .sl 4 0 x4.length] (handO (rho ([] ++ [])) [] [] ++ [(3, .arr 2 (List.map enc_ii x3)), (4, .arr 2 (List.map enc_ii x4))]) (callEv [] [] (.v (.bool x5)) []), .auto { y := some (.v (.bool true)) }]) [3, 4, 5, 33] [0, 1, 2, 3] (s1 := ⟨[(3, .pt 2 0), (4, .sl 1 0 x2.2.2.length), (5, .sl 3 0 x3.length), (33, .v (.bool true))], [(0, .arr 2 (List.map enc_si x2.1)), (1, .arr 1 (List.map enc_i x2.2.2)), (2, .box [.sl 0 0 x2.1.length, .v (.int .i64 x2.2.1)]), (3, .arr 2 (List.map enc_ii x3))]⟩) (C := ((([.agg [.sl 0 0 x2.1.length, .v (.int .i64 x2.2.1)], .sl 1 0 x2.2.2.length] : List AV) = [.agg [.sl 0 0 x2.1.length, .v (.int .i64 x2.2.1)], .sl 1 0 x2.2.2.length]) ∧ (AO.arr 2 (List.map enc_si x2.1) = AO.arr 2 (List.map enc_si x2.1)) ∧ (AO.arr 1 (List.map enc_i x2.2.2) = AO.arr 1 (List.map enc_i x2.2.2)) ∧ True) ∧ ((([.sl 3 0 x3.length, .sl 4 0 x4.length] : List AV) = [.sl 3 0 x3.length, .sl 4 0 x4.length]) ∧ (AO.arr 2 (List.map enc_ii x3) = AO.arr 2 (List.map enc_ii x3)) ∧ (AO.arr 2 (List.map enc_ii x4) = AO.arr 2 (List.map enc_ii x4)) ∧ True) ∧ ((True) ∧ ((.v (.bool (!x5)) : AV) = (.v (.bool true) : AV))) ∧ True) (by kernel_rfl) ⟨⟨rfl, rfl, rfl, trivial⟩, ⟨⟨rfl, rfl, rfl, trivial⟩, ⟨⟨trivial, (congrArg (fun z => AV.v (.bool z)) b6)⟩, trivial⟩⟩⟩ ⟨call_ok (ks := []) (ns := [4]) (bor := [0, 1]) (bobjs := [(0, .arr 2 (List.map enc_si x2.1)), (1, .arr 1 (List.map enc_i x2.2.2))]) (s_spec_GreatestArms x2.1 x2.2.1 x2.2.2 x4 e4) (.cons (.c1 (.agg (.cons (.arr rfl rfl ((rfl).trans (List.length_map ..).symm)) (.cons (.same _ (by kernel_rfl) (by kernel_rfl)) (.nil))))) (.cons (.c1 (.c0 (.arr rfl rfl ((rfl).trans (List.length_map ..).symm)))) (.nil))) (by kernel_rfl) trivial, ⟨call_ok (ks := []) (ns := []) (bor := [3, 4]) (bobjs := [(3, .arr 2 (List.map enc_ii x3)), (4, .arr 2 (List.map enc_ii x4))]) (s_laws_equalArms x3 x4 x5 e5) (.cons (.c1 (.c0 (.arr rfl rfl ((rfl).trans (List.length_map ..).symm)))) (.cons (.c1 (.c0 (.arr rfl rfl ((rfl).trans (List.length_map ..).symm)))) (.nil))) (by kernel_rfl) trivial, trivial⟩⟩ ?_
      refine AX.cond_true (by kernel_rfl) ?_
      refine AX.seq ?_
      obtain ⟨x6, e7, h⟩ := bd_e h
      obtain ⟨x7, e8, h⟩ := bd_e h
      refine AX.reg (its := [.auto {}, .auto {}, .auto {}, .call 16 [.agg [.sl 0 0 x2.1.length, .v (.int .i64 x2.2.1)], .sl 1 0 x2.2.2.length] (handO (rho ([] ++ [4])) [] [] ++ [(0, .arr 2 (List.map enc_si x2.1)), (1, .arr 1 (List.map enc_i x2.2.2))]) (callEv [] [4] (.sl 0 0 x6.length) [.arr 2 (List.map enc_ii x6)]), .call 15 [.sl 3 0 x3.length, .sl 4 0 x6.length] (handO (rho ([] ++ [])) [] [] ++ [(3, .arr 2 (List.map enc_ii x3)), (4, .arr 2 (List.map enc_ii x6))]) (callEv [] [] (.v (.bool x7)) [])]) [2] [] (s1 := ⟨[(2, .v (.bool x7))], []⟩) (C := ((([.agg [.sl 0 0 x2.1.length, .v (.int .i64 x2.2.1)], .sl 1 0 x2.2.2.length] : List AV) = [.agg [.sl 0 0 x2.1.length, .v (.int .i64 x2.2.1)], .sl 1 0 x2.2.2.length]) ∧ (AO.arr 2 (List.map enc_si x2.1) = AO.arr 2 (List.map enc_si x2.1)) ∧ (AO.arr 1 (List.map enc_i x2.2.2) = AO.arr 1 (List.map enc_i x2.2.2)) ∧ True) ∧ ((([.sl 3 0 x3.length, .sl 4 0 x6.length] : List AV) = [.sl 3 0 x3.length, .sl 4 0 x6.length]) ∧ (AO.arr 2 (List.map enc_ii x3) = AO.arr 2 (List.map enc_ii x3)) ∧ (AO.arr 2 (List.map enc_ii x6) = AO.arr 2 (List.map enc_ii x6)) ∧ True) ∧ True) (by kernel_rfl) ⟨⟨rfl, rfl, rfl, trivial⟩, ⟨⟨rfl, rfl, rfl, trivial⟩, trivial⟩⟩ ⟨call_ok (ks := []) (ns := [4]) (bor := [0, 1]) (bobjs := [(0, .arr 2 (List.map enc_si x2.1)), (1, .arr 1 (List.map enc_i x2.2.2))]) (s_spec_GreatestArms x2.1 x2.2.1 x2.2.2 x6 e7) (.cons (.c1 (.agg (.cons (.arr rfl rfl ((rfl).trans (List.length_map ..).symm)) (.cons (.same _ (by kernel_rfl) (by kernel_rfl)) (.nil))))) (.cons (.c1 (.c0 (.arr rfl rfl ((rfl).trans (List.length_map ..).symm)))) (.nil))) (by kernel_rfl) trivial, ⟨call_ok (ks := []) (ns := []) (bor := [3, 4]) (bobjs := [(3, .arr 2 (List.map enc_ii x3)), (4, .arr 2 (List.map enc_ii x6))]) (s_laws_equalArms x3 x6 x7 e8) (.cons (.c1 (.c0 (.arr rfl rfl ((rfl).trans (List.length_map ..).symm)))) (.cons (.c1 (.c0 (.arr rfl rfl ((rfl).trans (List.length_map ..).symm)))) (.nil))) (by kernel_rfl) trivial, trivial⟩⟩ ?_
      refine AX.ret ?_
      refine fin_wk (Wk.forget [2] [] (s' := ⟨[(2, .v (.bool x7))], []⟩) (by kernel_rfl)) ?_
      have hr := Option.some.inj h
      subst hr
      exact ⟨_, Wk.refl _, .inr rfl, ⟨[], by kernel_rfl, trivial, [.v (.bool x7)], by kernel_rfl, by kernel_rfl⟩⟩
    · replace h := cd_f b6 h
      refine AX.reg (its := [.auto {}, .auto {}, .auto {}, .call 16 [.agg [.sl 0 0 x2.1.length, .v (.int .i64 x2.2.1)], .sl 1 0 x2.2.2.length] (handO (rho ([] ++ [4])) [] [] ++ [(0, .arr 2 (List.map enc_si x2.1)), (1, .arr 1 (List.map enc_i x2.2.2))]) (callEv [] [4] (.sl 0 0 x4.length) [.arr 2 (List.map enc_ii x4)]), .call 15 [.sl 3 0 x3.length, .sl 4 0 x4.length] (handO (rho ([] ++ [])) [] [] ++ [(3, .arr 2 (List.map enc_ii x3)), (4, .arr 2 (List.map enc_ii x4))]) (callEv [] [] (.v (.bool x5)) []), .auto { y := some (.v (.bool false)) }]) [3, 4, 5, 33] [0, 1, 2, 3] (s1 := ⟨[(3, .pt 2 0), (4, .sl 1 0 x2.2.2.length), (5, .sl 3 0 x3.length), (33, .v (.bool (decide ((x3.length : Int) = 0))))], [(0, .arr 2 (List.map enc_si x2.1)), (1, .arr 1 (List.map enc_i x2.2.2)), (2, .box [.sl 0 0 x2.1.length, .v (.int .i64 x2.2.1)]), (3, .arr 2 (List.map enc_ii x3))]⟩) (C := ((([.agg [.sl 0 0 x2.1.length, .v (.int .i64 x2.2.1)], .sl 1 0 x2.2.2.length] : List AV) = [.agg [.sl 0 0 x2.1.length, .v (.int .i64 x2.2.1)], .sl 1 0 x2.2.2.length]) ∧ (AO.arr 2 (List.map enc_si x2.1) = AO.arr 2 (List.map enc_si x2.1)) ∧ (AO.arr 1 (List.map enc_i x2.2.2) = AO.arr 1 (List.map enc_i x2.2.2)) ∧ True) ∧ ((([.sl 3 0 x3.length, .sl 4 0 x4.length] : List AV) = [.sl 3 0 x3.length, .sl 4 0 x4.length]) ∧ (AO.arr 2 (List.map enc_ii x3) = AO.arr 2 (List.map enc_ii x3)) ∧ (AO.arr 2 (List.map enc_ii x4) = AO.arr 2 (List.map enc_ii x4)) ∧ True) ∧ ((True) ∧ ((.v (.bool (!x5)) : AV) = (.v (.bool false) : AV))) ∧ True) (by kernel_rfl) ⟨⟨rfl, rfl, rfl, trivial⟩, ⟨⟨rfl, rfl, rfl, trivial⟩, ⟨⟨trivial, (congrArg (fun z => AV.v (.bool z)) b6)⟩, trivial⟩⟩⟩ ⟨call_ok (ks := []) (ns := [4]) (bor := [0, 1]) (bobjs := [(0, .arr 2 (List.map enc_si x2.1)), (1, .arr 1 (List.map enc_i x2.2.2))]) (s_spec_GreatestArms x2.1 x2.2.1 x2.2.2 x4 e4) (.cons (.c1 (.agg (.cons (.arr rfl rfl ((rfl).trans (List.length_map ..).symm)) (.cons (.same _ (by kernel_rfl) (by kernel_rfl)) (.nil))))) (.cons (.c1 (.c0 (.arr rfl rfl ((rfl).trans (List.length_map ..).symm)))) (.nil))) (by kernel_rfl) trivial, ⟨call_ok (ks := []) (ns := []) (bor := [3, 4]) (bobjs := [(3, .arr 2 (List.map enc_ii x3)), (4, .arr 2 (List.map enc_ii x4))]) (s_laws_equalArms x3 x4 x5 e5) (.cons (.c1 (.c0 (.arr rfl rfl ((rfl).trans (List.length_map ..).symm)))) (.cons (.c1 (.c0 (.arr rfl rfl ((rfl).trans (List.length_map ..).symm)))) (.nil))) (by kernel_rfl) trivial, trivial⟩⟩ ?_
      rcases bool_cases (decide ((x3.length : Int) = 0)) with b9 | b9
      · replace h := cd_t b9 h
        refine AX.condT (decide ((x3.length : Int) = 0)) (by kernel_rfl) b9 ?_
        refine AX.seq ?_
        obtain ⟨x8, e10, h⟩ := bd_e h
        obtain ⟨x9, e11, h⟩ := bd_e h
        refine AX.reg (its := [.auto {}, .auto {}, .auto {}, .call 16 [.agg [.sl 0 0 x2.1.length, .v (.int .i64 x2.2.1)], .sl 1 0 x2.2.2.length] (handO (rho ([] ++ [4])) [] [] ++ [(0, .arr 2 (List.map enc_si x2.1)), (1, .arr 1 (List.map enc_i x2.2.2))]) (callEv [] [4] (.sl 0 0 x8.length) [.arr 2 (List.map enc_ii x8)]), .call 15 [.sl 3 0 x3.length, .sl 4 0 x8.length] (handO (rho ([] ++ [])) [] [] ++ [(3, .arr 2 (List.map enc_ii x3)), (4, .arr 2 (List.map enc_ii x8))]) (callEv [] [] (.v (.bool x9)) [])]) [2] [] (s1 := ⟨[(2, .v (.bool x9))], []⟩) (C := ((([.agg [.sl 0 0 x2.1.length, .v (.int .i64 x2.2.1)], .sl 1 0 x2.2.2.length] : List AV) = [.agg [.sl 0 0 x2.1.length, .v (.int .i64 x2.2.1)], .sl 1 0 x2.2.2.length]) ∧ (AO.arr 2 (List.map enc_si x2.1) = AO.arr 2 (List.map enc_si x2.1)) ∧ (AO.arr 1 (List.map enc_i x2.2.2) = AO.arr 1 (List.map enc_i x2.2.2)) ∧ True) ∧ ((([.sl 3 0 x3.length, .sl 4 0 x8.length] : List AV) = [.sl 3 0 x3.length, .sl 4 0 x8.length]) ∧ (AO.arr 2 (List.map enc_ii x3) = AO.arr 2 (List.map enc_ii x3)) ∧ (AO.arr 2 (List.map enc_ii x8) = AO.arr 2 (List.map enc_ii x8)) ∧ True) ∧ True) (by kernel_rfl) ⟨⟨rfl, rfl, rfl, trivial⟩, ⟨⟨rfl, rfl, rfl, trivial⟩, trivial⟩⟩ ⟨call_ok (ks := []) (ns := [4]) (bor := [0, 1]) (bobjs := [(0, .arr 2 (List.map enc_si x2.1)), (1, .arr 1 (List.map enc_i x2.2.2))]) (s_spec_GreatestArms x2.1 x2.2.1 x2.2.2 x8 e10) (.cons (.c1 (.agg (.cons (.arr rfl rfl ((rfl).trans (List.length_map ..).symm)) (.cons (.same _ (by kernel_rfl) (by kernel_rfl)) (.nil))))) (.cons (.c1 (.c0 (.arr rfl rfl ((rfl).trans (List.length_map ..).symm)))) (.nil))) (by kernel_rfl) trivial, ⟨call_ok (ks := []) (ns := []) (bor := [3, 4]) (bobjs := [(3, .arr 2 (List.map enc_ii x3)), (4, .arr 2 (List.map enc_ii x8))]) (s_laws_equalArms x3 x8 x9 e11) (.cons (.c1 (.c0 (.arr rfl rfl ((rfl).trans (List.length_map ..).symm)))) (.cons (.c1 (.c0 (.arr rfl rfl ((rfl).trans (List.length_map ..).symm)))) (.nil))) (by kernel_rfl) trivial, trivial⟩⟩ ?_
        refine AX.ret ?_
        refine fin_wk (Wk.forget [2] [] (s' := ⟨[(2, .v (.bool x9))], []⟩) (by kernel_rfl)) ?_
        have hr := Option.some.inj h
        subst hr
        exact ⟨_, Wk.refl _, .inr rfl, ⟨[], by kernel_rfl, trivial, [.v (.bool x9)], by kernel_rfl, by kernel_rfl⟩⟩
      · replace h := cd_f b9 h
        refine AX.condF (decide ((x3.length : Int) = 0)) (by kernel_rfl) b9 ?_
        refine AX.skip ?_
        refine AX.seq ?_
        obtain ⟨x10, e12, h⟩ := bd_e h
        obtain ⟨x11, e13, h⟩ := bd_e h
        refine AX.drw mixed (its := [.auto {}, .auto {}, .call 18 [.agg [.sl 0 0 x2.1.length, .v (.int .i64 x2.2.1)]] (handO (rho ([] ++ [])) [] [] ++ [(0, .arr 2 (List.map enc_si x2.1))]) (callEv [] [] (.v (.int .i64 x10)) []), .call 17 [.agg [.sl 0 0 x2.1.length, .v (.int .i64 x2.2.1)], .v (.int .i64 x10)] (handO (rho ([] ++ [4])) [] [] ++ [(0, .arr 2 (List.map enc_si x2.1))]) (callEv [] [4] (.sl 0 0 x11.length) [.arr 1 (List.map enc_i x11)])]) [3, 4, 5, 6] [0, 1, 2, 3, 4] (s1 := ⟨[(3, .pt 2 0), (4, .sl 1 0 x2.2.2.length), (5, .sl 3 0 x3.length), (6, .sl 4 0 x11.length)], [(0, .arr 2 (List.map enc_si x2.1)), (1, .arr 1 (List.map enc_i x2.2.2)), (2, .box [.sl 0 0 x2.1.length, .v (.int .i64 x2.2.1)]), (3, .arr 2 (List.map enc_ii x3)), (4, .arr 1 (List.map enc_i x11))]⟩) (C := ((([.agg [.sl 0 0 x2.1.length, .v (.int .i64 x2.2.1)]] : List AV) = [.agg [.sl 0 0 x2.1.length, .v (.int .i64 x2.2.1)]]) ∧ (AO.arr 2 (List.map enc_si x2.1) = AO.arr 2 (List.map enc_si x2.1)) ∧ True) ∧ ((([.agg [.sl 0 0 x2.1.length, .v (.int .i64 x2.2.1)], .v (.int .i64 x10)] : List AV) = [.agg [.sl 0 0 x2.1.length, .v (.int .i64 x2.2.1)], .v (.int .i64 x10)]) ∧ (AO.arr 2 (List.map enc_si x2.1) = AO.arr 2 (List.map enc_si x2.1)) ∧ True) ∧ True) (by kernel_rfl) ⟨⟨rfl, rfl, trivial⟩, ⟨⟨rfl, rfl, trivial⟩, trivial⟩⟩ ⟨call_ok (ks := []) (ns := []) (bor := [0]) (bobjs := [(0, .arr 2 (List.map enc_si x2.1))]) (s_impl_MaskOf x2.1 x2.2.1 x10 e12) (.cons (.c1 (.agg (.cons (.arr rfl rfl ((rfl).trans (List.length_map ..).symm)) (.cons (.same _ (by kernel_rfl) (by kernel_rfl)) (.nil))))) (.nil)) (by kernel_rfl) trivial, ⟨call_ok (ks := []) (ns := [4]) (bor := [0]) (bobjs := [(0, .arr 2 (List.map enc_si x2.1))]) (s_impl_PartsOf x2.1 x2.2.1 x10 x11 e13) (.cons (.c1 (.agg (.cons (.arr rfl rfl ((rfl).trans (List.length_map ..).symm)) (.cons (.same _ (by kernel_rfl) (by kernel_rfl)) (.nil))))) (.cons (.c1 (.c0 (.same _ (by kernel_rfl) (by kernel_rfl)))) (.nil))) (by kernel_rfl) trivial, trivial⟩⟩ ?_
        refine AX.seq ?_
        refine AX.seq ?_
        refine AX.reg (its := []) [3, 4, 5, 6, 7] [0, 1, 2, 3, 4] (s1 := ⟨[(3, .pt 2 0), (4, .sl 1 0 x2.2.2.length), (5, .sl 3 0 x3.length), (6, .sl 4 0 x11.length), (7, .v (.int .i64 0))], [(0, .arr 2 (List.map enc_si x2.1)), (1, .arr 1 (List.map enc_i x2.2.2)), (2, .box [.sl 0 0 x2.1.length, .v (.int .i64 x2.2.1)]), (3, .arr 2 (List.map enc_ii x3)), (4, .arr 1 (List.map enc_i x11))]⟩) (C := True) (by kernel_rfl) trivial trivial ?_
        refine AX.block ?_
        obtain ⟨x18, e24, h⟩ := bd_e h
        refine AX.wk (Wk.swap 0 2 (Nat.le_of_ble_eq_true (by kernel_rfl)) (Nat.le_of_ble_eq_true (by kernel_rfl)) rfl) ?_
        refine AX.wk (Wk.swap 1 2 (Nat.le_of_ble_eq_true (by kernel_rfl)) (Nat.le_of_ble_eq_true (by kernel_rfl)) rfl) ?_
        refine AX.wk (Wk.forget [3, 4, 5, 6, 7] [0, 1, 2, 3, 4] (s' := ⟨[(3, .pt 0 0), (4, .sl 2 0 x2.2.2.length), (5, .sl 3 0 x3.length), (6, .sl 4 0 x11.length), (7, .v (.int .i64 0))], [(0, .box [.sl 1 0 x2.1.length, .v (.int .i64 x2.2.1)]), (1, .arr 2 (List.map enc_si x2.1)), (2, .arr 1 (List.map enc_i x2.2.2)), (3, .arr 2 (List.map enc_ii x3)), (4, .arr 1 (List.map enc_i x11))]⟩) (by kernel_rfl)) ?_
        refine AX.mono (s_laws_FnGreatestArms_L1 x2 x3 x11 FU 0 x18 e24) ?_
        rintro _ _ (⟨x19, rfl, rfl, rfl⟩ | ⟨x20, rfl, rfl, rfl⟩)
        · replace h := sm_l h
          refine fin_wk (Wk.forget [2] [] (s' := ⟨[(2, .v (.bool false))], []⟩) (by kernel_rfl)) ?_
          have hr := Option.some.inj h
          subst hr
          exact ⟨_, Wk.refl _, .inr rfl, ⟨[], by kernel_rfl, trivial, [.v (.bool false)], by kernel_rfl, by kernel_rfl⟩⟩
        · replace h := sm_r h
          refine AX.seq ?_
          refine AX.seq ?_
          refine AX.reg (its := []) [3, 5, 10] [0, 1, 2] (s1 := ⟨[(3, .pt 0 0), (5, .sl 2 0 x3.length), (10, .v (.int .i64 0))], [(0, .box [.sl 1 0 x2.1.length, .v (.int .i64 x2.2.1)]), (1, .arr 2 (List.map enc_si x2.1)), (2, .arr 2 (List.map enc_ii x3))]⟩) (C := True) (by kernel_rfl) trivial trivial ?_
          refine AX.block ?_
          obtain ⟨x27, e33, h⟩ := bd_e h
          refine AX.wk (Wk.forget [3, 5, 10] [0, 1, 2] (s' := ⟨[(3, .pt 0 0), (5, .sl 2 0 x3.length), (10, .v (.int .i64 0))], [(0, .box [.sl 1 0 x2.1.length, .v (.int .i64 x2.2.1)]), (1, .arr 2 (List.map enc_si x2.1)), (2, .arr 2 (List.map enc_ii x3))]⟩) (by kernel_rfl)) ?_
          refine AX.mono (s_laws_FnGreatestArms_L3 x2 x3 FU 0 x27 e33) ?_
          rintro _ _ (⟨x28, rfl, rfl, rfl⟩ | ⟨x29, rfl, rfl, rfl⟩)
          · replace h := sm_l h
            refine fin_wk (Wk.forget [2] [] (s' := ⟨[(2, .v (.bool false))], []⟩) (by kernel_rfl)) ?_
            have hr := Option.some.inj h
            subst hr
            exact ⟨_, Wk.refl _, .inr rfl, ⟨[], by kernel_rfl, trivial, [.v (.bool false)], by kernel_rfl, by kernel_rfl⟩⟩
          · replace h := sm_r h
            refine AX.seq ?_
            refine AX.reg (its := []) [2] [] (s1 := ⟨[(2, .v (.bool true))], []⟩) (C := True) (by kernel_rfl) trivial trivial ?_
            refine AX.ret ?_
            refine fin_wk (Wk.forget [2] [] (s' := ⟨[(2, .v (.bool true))], []⟩) (by kernel_rfl)) ?_
            have hr := Option.some.inj h
            subst hr
            exact ⟨_, Wk.refl _, .inr rfl, ⟨[], by kernel_rfl, trivial, [.v (.bool true)], by kernel_rfl, by kernel_rfl⟩⟩

end Go.Eng
