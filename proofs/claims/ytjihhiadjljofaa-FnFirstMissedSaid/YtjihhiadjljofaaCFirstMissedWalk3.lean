/- What is proved here: each function keeps to its model, whatever its arguments, wherever the model has an answer. Printed by gen.py. -/
import Derived.Test.YtjihhiadjljofaaCFirstMissedWalk2
import Derived.Test.YtjihhiadjljofaaProg
import Derived.KernelRfl
set_option linter.unusedVariables false
namespace Go.Eng
open Go Go.Proofs


theorem s_spec_validArm (p1 : List (ByteArray × Int)) (p2 : Int) (p3 : Int) (p4 : Int) (r : Bool) (h : m_spec_validArm p1 p2 p3 p4 = some r) :
    Eng.Spec Try.prog 90 [.agg [.bs false 2 (List.map enc_si p1), .v (.int .i64 p2)], .agg [.v (.int .i64 p3), .v (.int .i64 p4)]] [] (.v (.bool r)) [] := by
  unfold m_spec_validArm at h
  refine Eng.Spec.body Try.func90 (by kernel_rfl) rfl (by kernel_rfl) ?_
  refine AX.wkpost ?_
  refine AX.seq ?_
  refine AX.reg (its := [.auto { nk := 0 }, .auto { nk := 1 }]) [2, 3] [0, 1] (s1 := ⟨[(2, .pt 0 0), (3, .pt 1 0)], [(0, .box [.bs false 2 (List.map enc_si p1), .v (.int .i64 p2)]), (1, .box [.v (.int .i64 p3), .v (.int .i64 p4)])]⟩) (C := True) (by kernel_rfl) trivial trivial ?_
  refine AX.seq ?_
  obtain ⟨x5, e1, h⟩ := bd_e h
  refine AX.reg (its := [.auto {}, .auto {}, .call 42 [.bs false 2 (List.map enc_si p1)] (handO (rho ([] ++ [])) [] [] ++ []) (callEv [] [] (.v (.int .i64 x5)) [])]) [2, 3, 5] [0, 1] (s1 := ⟨[(2, .pt 0 0), (3, .pt 1 0), (5, .v (.int .i64 x5))], [(0, .box [.bs false 2 (List.map enc_si p1), .v (.int .i64 p2)]), (1, .box [.v (.int .i64 p3), .v (.int .i64 p4)])]⟩) (C := ((([.bs false 2 (List.map enc_si p1)] : List AV) = [.bs false 2 (List.map enc_si p1)]) ∧ True) ∧ True) (by kernel_rfl) ⟨⟨rfl, trivial⟩, trivial⟩ ⟨call_ok (ks := []) (ns := []) (bor := []) (bobjs := []) (s_spec_mask p1 x5 e1) (.cons (.c1 (.c0 (.same _ (by kernel_rfl) (by kernel_rfl)))) (.nil)) (by kernel_rfl) trivial, trivial⟩ ?_
  refine AX.seq ?_
  obtain ⟨x6, e2, h⟩ := bd_e h
  rcases bool_cases (x6) with b3 | b3
  · replace h := cd_t b3 h
    obtain ⟨x7, e4, h⟩ := bd_e h
    rcases bool_cases (x7) with b5 | b5
    · replace h := cd_t b5 h
      obtain ⟨x8, e6, h⟩ := bd_e h
      rcases bool_cases (x8) with b7 | b7
      · replace h := cd_t b7 h
        obtain ⟨x9, e8, h⟩ := bd_e h
        rcases bool_cases (decide (x9 = 0)) with b9 | b9
        · replace h := cd_t b9 h
          obtain ⟨x10, e10, h⟩ := bd_e h
          rcases bool_cases (decide (x10 = 0)) with b11 | b11
          · replace h := cd_t b11 h
            obtain ⟨x11, e12, h⟩ := bd_e h
            refine AX.reg (its := (.auto {} :: .call 56 [.agg [.bs false 2 (List.map enc_si p1), .v (.int .i64 p2)]] (handO (rho ([] ++ [])) [] [] ++ []) (callEv [] [] (.v (.bool true)) []) :: .auto {} :: .auto {} :: .auto {} :: .call 100 [.v (.int .i64 p3), .v (.int .i64 0), .v (.int .i64 4095)] (handO (rho ([] ++ [])) [] [] ++ []) (callEv [] [] (.v (.bool true)) []) :: .auto {} :: .auto {} :: .auto {} :: .auto {} :: .call 100 [.v (.int .i64 p4), .v (.int .i64 0), .v (.int .i64 4095)] (handO (rho ([] ++ [])) [] [] ++ []) (callEv [] [] (.v (.bool true)) []) :: .auto {} :: .auto {} :: .auto {} :: .auto {} :: .auto {} :: .call 91 [.v (.int .i64 p3), .v (.int .i64 x5)] (handO (rho ([] ++ [])) [] [] ++ []) (callEv [] [] (.v (.int .i64 x9)) []) :: .auto { y := some (.v (.bool true)) } :: .auto {} :: .auto {} :: .auto {} :: .auto {} :: .auto {} :: .call 91 [.v (.int .i64 p4), .v (.int .i64 x5)] (handO (rho ([] ++ [])) [] [] ++ []) (callEv [] [] (.v (.int .i64 x10)) []) :: .auto { y := some (.v (.bool true)) } :: .auto {} :: .auto {} :: .auto {} :: .auto {} :: .auto {} :: .auto {} :: .call 116 [.v (.int .i64 p3), .v (.int .i64 p4)] (handO (rho ([] ++ [])) [] [] ++ []) (callEv [] [] (.v (.int .i64 x11)) []) :: [])) [4] [] (s1 := ⟨[(4, .v (.bool (decide (x11 = 0))))], []⟩) (C := ((([.agg [.bs false 2 (List.map enc_si p1), .v (.int .i64 p2)]] : List AV) = [.agg [.bs false 2 (List.map enc_si p1), .v (.int .i64 p2)]]) ∧ True) ∧ ((([.v (.int .i64 p3), .v (.int .i64 0), .v (.int .i64 4095)] : List AV) = [.v (.int .i64 p3), .v (.int .i64 0), .v (.int .i64 4095)]) ∧ True) ∧ ((([.v (.int .i64 p4), .v (.int .i64 0), .v (.int .i64 4095)] : List AV) = [.v (.int .i64 p4), .v (.int .i64 0), .v (.int .i64 4095)]) ∧ True) ∧ ((([.v (.int .i64 p3), .v (.int .i64 x5)] : List AV) = [.v (.int .i64 p3), .v (.int .i64 x5)]) ∧ True) ∧ ((True) ∧ ((.v (.bool (decide (x9 = 0))) : AV) = (.v (.bool true) : AV))) ∧ ((([.v (.int .i64 p4), .v (.int .i64 x5)] : List AV) = [.v (.int .i64 p4), .v (.int .i64 x5)]) ∧ True) ∧ ((True) ∧ ((.v (.bool (decide (x10 = 0))) : AV) = (.v (.bool true) : AV))) ∧ ((([.v (.int .i64 p3), .v (.int .i64 p4)] : List AV) = [.v (.int .i64 p3), .v (.int .i64 p4)]) ∧ True) ∧ True) (by kernel_rfl) ⟨⟨rfl, trivial⟩, ⟨⟨rfl, trivial⟩, ⟨⟨rfl, trivial⟩, ⟨⟨rfl, trivial⟩, ⟨⟨trivial, (congrArg (fun z => AV.v (.bool z)) b9)⟩, ⟨⟨rfl, trivial⟩, ⟨⟨trivial, (congrArg (fun z => AV.v (.bool z)) b11)⟩, ⟨⟨rfl, trivial⟩, trivial⟩⟩⟩⟩⟩⟩⟩⟩ ⟨call_ok (ks := []) (ns := []) (bor := []) (bobjs := []) (show Eng.Spec Try.prog 56 [.agg [.bs false 2 (List.map enc_si p1), .v (.int .i64 p2)]] [] (.v (.bool true)) [] from by have q := s_spec_validFlag p1 p2 x6 e2; rw [b3] at q; exact q) (.cons (.c1 (.agg (.cons (.same _ (by kernel_rfl) (by kernel_rfl)) (.cons (.same _ (by kernel_rfl) (by kernel_rfl)) (.nil))))) (.nil)) (by kernel_rfl) trivial, ⟨call_ok (ks := []) (ns := []) (bor := []) (bobjs := []) (show Eng.Spec Try.prog 100 [.v (.int .i64 p3), .v (.int .i64 0), .v (.int .i64 4095)] [] (.v (.bool true)) [] from by have q := s_spec_inRange p3 0 4095 x7 e4; rw [b5] at q; exact q) (.cons (.c1 (.c0 (.same _ (by kernel_rfl) (by kernel_rfl)))) (.cons (.c1 (.c0 (.same _ (by kernel_rfl) (by kernel_rfl)))) (.cons (.c1 (.c0 (.same _ (by kernel_rfl) (by kernel_rfl)))) (.nil)))) (by kernel_rfl) trivial, ⟨call_ok (ks := []) (ns := []) (bor := []) (bobjs := []) (show Eng.Spec Try.prog 100 [.v (.int .i64 p4), .v (.int .i64 0), .v (.int .i64 4095)] [] (.v (.bool true)) [] from by have q := s_spec_inRange p4 0 4095 x8 e6; rw [b7] at q; exact q) (.cons (.c1 (.c0 (.same _ (by kernel_rfl) (by kernel_rfl)))) (.cons (.c1 (.c0 (.same _ (by kernel_rfl) (by kernel_rfl)))) (.cons (.c1 (.c0 (.same _ (by kernel_rfl) (by kernel_rfl)))) (.nil)))) (by kernel_rfl) trivial, ⟨call_ok (ks := []) (ns := []) (bor := []) (bobjs := []) (s_spec_less p3 x5 x9 e8) (.cons (.c1 (.c0 (.same _ (by kernel_rfl) (by kernel_rfl)))) (.cons (.c1 (.c0 (.same _ (by kernel_rfl) (by kernel_rfl)))) (.nil))) (by kernel_rfl) trivial, ⟨call_ok (ks := []) (ns := []) (bor := []) (bobjs := []) (s_spec_less p4 x5 x10 e10) (.cons (.c1 (.c0 (.same _ (by kernel_rfl) (by kernel_rfl)))) (.cons (.c1 (.c0 (.same _ (by kernel_rfl) (by kernel_rfl)))) (.nil))) (by kernel_rfl) trivial, ⟨call_ok (ks := []) (ns := []) (bor := []) (bobjs := []) (s_spec_both p3 p4 x11 e12) (.cons (.c1 (.c0 (.same _ (by kernel_rfl) (by kernel_rfl)))) (.cons (.c1 (.c0 (.same _ (by kernel_rfl) (by kernel_rfl)))) (.nil))) (by kernel_rfl) trivial, trivial⟩⟩⟩⟩⟩⟩ ?_
            refine AX.ret ?_
            refine fin_wk (Wk.forget [4] [] (s' := ⟨[(4, .v (.bool (decide (x11 = 0))))], []⟩) (by kernel_rfl)) ?_
            have hr := Option.some.inj h
            subst hr
            exact ⟨_, Wk.refl _, .inr rfl, ⟨[], by kernel_rfl, trivial, [.v (.bool (decide (x11 = 0)))], by kernel_rfl, by kernel_rfl⟩⟩
          · replace h := cd_f b11 h
            refine AX.reg (its := [.auto {}, .call 56 [.agg [.bs false 2 (List.map enc_si p1), .v (.int .i64 p2)]] (handO (rho ([] ++ [])) [] [] ++ []) (callEv [] [] (.v (.bool true)) []), .auto {}, .auto {}, .auto {}, .call 100 [.v (.int .i64 p3), .v (.int .i64 0), .v (.int .i64 4095)] (handO (rho ([] ++ [])) [] [] ++ []) (callEv [] [] (.v (.bool true)) []), .auto {}, .auto {}, .auto {}, .auto {}, .call 100 [.v (.int .i64 p4), .v (.int .i64 0), .v (.int .i64 4095)] (handO (rho ([] ++ [])) [] [] ++ []) (callEv [] [] (.v (.bool true)) []), .auto {}, .auto {}, .auto {}, .auto {}, .auto {}, .call 91 [.v (.int .i64 p3), .v (.int .i64 x5)] (handO (rho ([] ++ [])) [] [] ++ []) (callEv [] [] (.v (.int .i64 x9)) []), .auto { y := some (.v (.bool true)) }, .auto {}, .auto {}, .auto {}, .auto {}, .auto {}, .call 91 [.v (.int .i64 p4), .v (.int .i64 x5)] (handO (rho ([] ++ [])) [] [] ++ []) (callEv [] [] (.v (.int .i64 x10)) []), .auto { y := some (.v (.bool false)) }]) [4] [] (s1 := ⟨[(4, .v (.bool false))], []⟩) (C := ((([.agg [.bs false 2 (List.map enc_si p1), .v (.int .i64 p2)]] : List AV) = [.agg [.bs false 2 (List.map enc_si p1), .v (.int .i64 p2)]]) ∧ True) ∧ ((([.v (.int .i64 p3), .v (.int .i64 0), .v (.int .i64 4095)] : List AV) = [.v (.int .i64 p3), .v (.int .i64 0), .v (.int .i64 4095)]) ∧ True) ∧ ((([.v (.int .i64 p4), .v (.int .i64 0), .v (.int .i64 4095)] : List AV) = [.v (.int .i64 p4), .v (.int .i64 0), .v (.int .i64 4095)]) ∧ True) ∧ ((([.v (.int .i64 p3), .v (.int .i64 x5)] : List AV) = [.v (.int .i64 p3), .v (.int .i64 x5)]) ∧ True) ∧ ((True) ∧ ((.v (.bool (decide (x9 = 0))) : AV) = (.v (.bool true) : AV))) ∧ ((([.v (.int .i64 p4), .v (.int .i64 x5)] : List AV) = [.v (.int .i64 p4), .v (.int .i64 x5)]) ∧ True) ∧ ((True) ∧ ((.v (.bool (decide (x10 = 0))) : AV) = (.v (.bool false) : AV))) ∧ True) (by kernel_rfl) ⟨⟨rfl, trivial⟩, ⟨⟨rfl, trivial⟩, ⟨⟨rfl, trivial⟩, ⟨⟨rfl, trivial⟩, ⟨⟨trivial, (congrArg (fun z => AV.v (.bool z)) b9)⟩, ⟨⟨rfl, trivial⟩, ⟨⟨trivial, (congrArg (fun z => AV.v (.bool z)) b11)⟩, trivial⟩⟩⟩⟩⟩⟩⟩ ⟨call_ok (ks := []) (ns := []) (bor := []) (bobjs := []) (show Eng.Spec Try.prog 56 [.agg [.bs false 2 (List.map enc_si p1), .v (.int .i64 p2)]] [] (.v (.bool true)) [] from by have q := s_spec_validFlag p1 p2 x6 e2; rw [b3] at q; exact q) (.cons (.c1 (.agg (.cons (.same _ (by kernel_rfl) (by kernel_rfl)) (.cons (.same _ (by kernel_rfl) (by kernel_rfl)) (.nil))))) (.nil)) (by kernel_rfl) trivial, ⟨call_ok (ks := []) (ns := []) (bor := []) (bobjs := []) (show Eng.Spec Try.prog 100 [.v (.int .i64 p3), .v (.int .i64 0), .v (.int .i64 4095)] [] (.v (.bool true)) [] from by have q := s_spec_inRange p3 0 4095 x7 e4; rw [b5] at q; exact q) (.cons (.c1 (.c0 (.same _ (by kernel_rfl) (by kernel_rfl)))) (.cons (.c1 (.c0 (.same _ (by kernel_rfl) (by kernel_rfl)))) (.cons (.c1 (.c0 (.same _ (by kernel_rfl) (by kernel_rfl)))) (.nil)))) (by kernel_rfl) trivial, ⟨call_ok (ks := []) (ns := []) (bor := []) (bobjs := []) (show Eng.Spec Try.prog 100 [.v (.int .i64 p4), .v (.int .i64 0), .v (.int .i64 4095)] [] (.v (.bool true)) [] from by have q := s_spec_inRange p4 0 4095 x8 e6; rw [b7] at q; exact q) (.cons (.c1 (.c0 (.same _ (by kernel_rfl) (by kernel_rfl)))) (.cons (.c1 (.c0 (.same _ (by kernel_rfl) (by kernel_rfl)))) (.cons (.c1 (.c0 (.same _ (by kernel_rfl) (by kernel_rfl)))) (.nil)))) (by kernel_rfl) trivial, ⟨call_ok (ks := []) (ns := []) (bor := []) (bobjs := []) (s_spec_less p3 x5 x9 e8) (.cons (.c1 (.c0 (.same _ (by kernel_rfl) (by kernel_rfl)))) (.cons (.c1 (.c0 (.same _ (by kernel_rfl) (by kernel_rfl)))) (.nil))) (by kernel_rfl) trivial, ⟨call_ok (ks := []) (ns := []) (bor := []) (bobjs := []) (s_spec_less p4 x5 x10 e10) (.cons (.c1 (.c0 (.same _ (by kernel_rfl) (by kernel_rfl)))) (.cons (.c1 (.c0 (.same _ (by kernel_rfl) (by kernel_rfl)))) (.nil))) (by kernel_rfl) trivial, trivial⟩⟩⟩⟩⟩ ?_
            refine AX.ret ?_
            refine fin_wk (Wk.forget [4] [] (s' := ⟨[(4, .v (.bool false))], []⟩) (by kernel_rfl)) ?_
            have hr := Option.some.inj h
            subst hr
            exact ⟨_, Wk.refl _, .inr rfl, ⟨[], by kernel_rfl, trivial, [.v (.bool false)], by kernel_rfl, by kernel_rfl⟩⟩
        · replace h := cd_f b9 h
          refine AX.reg (its := [.auto {}, .call 56 [.agg [.bs false 2 (List.map enc_si p1), .v (.int .i64 p2)]] (handO (rho ([] ++ [])) [] [] ++ []) (callEv [] [] (.v (.bool true)) []), .auto {}, .auto {}, .auto {}, .call 100 [.v (.int .i64 p3), .v (.int .i64 0), .v (.int .i64 4095)] (handO (rho ([] ++ [])) [] [] ++ []) (callEv [] [] (.v (.bool true)) []), .auto {}, .auto {}, .auto {}, .auto {}, .call 100 [.v (.int .i64 p4), .v (.int .i64 0), .v (.int .i64 4095)] (handO (rho ([] ++ [])) [] [] ++ []) (callEv [] [] (.v (.bool true)) []), .auto {}, .auto {}, .auto {}, .auto {}, .auto {}, .call 91 [.v (.int .i64 p3), .v (.int .i64 x5)] (handO (rho ([] ++ [])) [] [] ++ []) (callEv [] [] (.v (.int .i64 x9)) []), .auto { y := some (.v (.bool false)) }]) [4] [] (s1 := ⟨[(4, .v (.bool false))], []⟩) (C := ((([.agg [.bs false 2 (List.map enc_si p1), .v (.int .i64 p2)]] : List AV) = [.agg [.bs false 2 (List.map enc_si p1), .v (.int .i64 p2)]]) ∧ True) ∧ ((([.v (.int .i64 p3), .v (.int .i64 0), .v (.int .i64 4095)] : List AV) = [.v (.int .i64 p3), .v (.int .i64 0), .v (.int .i64 4095)]) ∧ True) ∧ ((([.v (.int .i64 p4), .v (.int .i64 0), .v (.int .i64 4095)] : List AV) = [.v (.int .i64 p4), .v (.int .i64 0), .v (.int .i64 4095)]) ∧ True) ∧ ((([.v (.int .i64 p3), .v (.int .i64 x5)] : List AV) = [.v (.int .i64 p3), .v (.int .i64 x5)]) ∧ True) ∧ ((True) ∧ ((.v (.bool (decide (x9 = 0))) : AV) = (.v (.bool false) : AV))) ∧ True) (by kernel_rfl) ⟨⟨rfl, trivial⟩, ⟨⟨rfl, trivial⟩, ⟨⟨rfl, trivial⟩, ⟨⟨rfl, trivial⟩, ⟨⟨trivial, (congrArg (fun z => AV.v (.bool z)) b9)⟩, trivial⟩⟩⟩⟩⟩ ⟨call_ok (ks := []) (ns := []) (bor := []) (bobjs := []) (show Eng.Spec Try.prog 56 [.agg [.bs false 2 (List.map enc_si p1), .v (.int .i64 p2)]] [] (.v (.bool true)) [] from by have q := s_spec_validFlag p1 p2 x6 e2; rw [b3] at q; exact q) (.cons (.c1 (.agg (.cons (.same _ (by kernel_rfl) (by kernel_rfl)) (.cons (.same _ (by kernel_rfl) (by kernel_rfl)) (.nil))))) (.nil)) (by kernel_rfl) trivial, ⟨call_ok (ks := []) (ns := []) (bor := []) (bobjs := []) (show Eng.Spec Try.prog 100 [.v (.int .i64 p3), .v (.int .i64 0), .v (.int .i64 4095)] [] (.v (.bool true)) [] from by have q := s_spec_inRange p3 0 4095 x7 e4; rw [b5] at q; exact q) (.cons (.c1 (.c0 (.same _ (by kernel_rfl) (by kernel_rfl)))) (.cons (.c1 (.c0 (.same _ (by kernel_rfl) (by kernel_rfl)))) (.cons (.c1 (.c0 (.same _ (by kernel_rfl) (by kernel_rfl)))) (.nil)))) (by kernel_rfl) trivial, ⟨call_ok (ks := []) (ns := []) (bor := []) (bobjs := []) (show Eng.Spec Try.prog 100 [.v (.int .i64 p4), .v (.int .i64 0), .v (.int .i64 4095)] [] (.v (.bool true)) [] from by have q := s_spec_inRange p4 0 4095 x8 e6; rw [b7] at q; exact q) (.cons (.c1 (.c0 (.same _ (by kernel_rfl) (by kernel_rfl)))) (.cons (.c1 (.c0 (.same _ (by kernel_rfl) (by kernel_rfl)))) (.cons (.c1 (.c0 (.same _ (by kernel_rfl) (by kernel_rfl)))) (.nil)))) (by kernel_rfl) trivial, ⟨call_ok (ks := []) (ns := []) (bor := []) (bobjs := []) (s_spec_less p3 x5 x9 e8) (.cons (.c1 (.c0 (.same _ (by kernel_rfl) (by kernel_rfl)))) (.cons (.c1 (.c0 (.same _ (by kernel_rfl) (by kernel_rfl)))) (.nil))) (by kernel_rfl) trivial, trivial⟩⟩⟩⟩ ?_
          refine AX.ret ?_
          refine fin_wk (Wk.forget [4] [] (s' := ⟨[(4, .v (.bool false))], []⟩) (by kernel_rfl)) ?_
          have hr := Option.some.inj h
          subst hr
          exact ⟨_, Wk.refl _, .inr rfl, ⟨[], by kernel_rfl, trivial, [.v (.bool false)], by kernel_rfl, by kernel_rfl⟩⟩
      · replace h := cd_f b7 h
        refine AX.reg (its := [.auto {}, .call 56 [.agg [.bs false 2 (List.map enc_si p1), .v (.int .i64 p2)]] (handO (rho ([] ++ [])) [] [] ++ []) (callEv [] [] (.v (.bool true)) []), .auto {}, .auto {}, .auto {}, .call 100 [.v (.int .i64 p3), .v (.int .i64 0), .v (.int .i64 4095)] (handO (rho ([] ++ [])) [] [] ++ []) (callEv [] [] (.v (.bool true)) []), .auto {}, .auto {}, .auto {}, .auto {}, .call 100 [.v (.int .i64 p4), .v (.int .i64 0), .v (.int .i64 4095)] (handO (rho ([] ++ [])) [] [] ++ []) (callEv [] [] (.v (.bool false)) [])]) [4] [] (s1 := ⟨[(4, .v (.bool false))], []⟩) (C := ((([.agg [.bs false 2 (List.map enc_si p1), .v (.int .i64 p2)]] : List AV) = [.agg [.bs false 2 (List.map enc_si p1), .v (.int .i64 p2)]]) ∧ True) ∧ ((([.v (.int .i64 p3), .v (.int .i64 0), .v (.int .i64 4095)] : List AV) = [.v (.int .i64 p3), .v (.int .i64 0), .v (.int .i64 4095)]) ∧ True) ∧ ((([.v (.int .i64 p4), .v (.int .i64 0), .v (.int .i64 4095)] : List AV) = [.v (.int .i64 p4), .v (.int .i64 0), .v (.int .i64 4095)]) ∧ True) ∧ True) (by kernel_rfl) ⟨⟨rfl, trivial⟩, ⟨⟨rfl, trivial⟩, ⟨⟨rfl, trivial⟩, trivial⟩⟩⟩ ⟨call_ok (ks := []) (ns := []) (bor := []) (bobjs := []) (show Eng.Spec Try.prog 56 [.agg [.bs false 2 (List.map enc_si p1), .v (.int .i64 p2)]] [] (.v (.bool true)) [] from by have q := s_spec_validFlag p1 p2 x6 e2; rw [b3] at q; exact q) (.cons (.c1 (.agg (.cons (.same _ (by kernel_rfl) (by kernel_rfl)) (.cons (.same _ (by kernel_rfl) (by kernel_rfl)) (.nil))))) (.nil)) (by kernel_rfl) trivial, ⟨call_ok (ks := []) (ns := []) (bor := []) (bobjs := []) (show Eng.Spec Try.prog 100 [.v (.int .i64 p3), .v (.int .i64 0), .v (.int .i64 4095)] [] (.v (.bool true)) [] from by have q := s_spec_inRange p3 0 4095 x7 e4; rw [b5] at q; exact q) (.cons (.c1 (.c0 (.same _ (by kernel_rfl) (by kernel_rfl)))) (.cons (.c1 (.c0 (.same _ (by kernel_rfl) (by kernel_rfl)))) (.cons (.c1 (.c0 (.same _ (by kernel_rfl) (by kernel_rfl)))) (.nil)))) (by kernel_rfl) trivial, ⟨call_ok (ks := []) (ns := []) (bor := []) (bobjs := []) (show Eng.Spec Try.prog 100 [.v (.int .i64 p4), .v (.int .i64 0), .v (.int .i64 4095)] [] (.v (.bool false)) [] from by have q := s_spec_inRange p4 0 4095 x8 e6; rw [b7] at q; exact q) (.cons (.c1 (.c0 (.same _ (by kernel_rfl) (by kernel_rfl)))) (.cons (.c1 (.c0 (.same _ (by kernel_rfl) (by kernel_rfl)))) (.cons (.c1 (.c0 (.same _ (by kernel_rfl) (by kernel_rfl)))) (.nil)))) (by kernel_rfl) trivial, trivial⟩⟩⟩ ?_
        refine AX.ret ?_
        refine fin_wk (Wk.forget [4] [] (s' := ⟨[(4, .v (.bool false))], []⟩) (by kernel_rfl)) ?_
        have hr := Option.some.inj h
        subst hr
        exact ⟨_, Wk.refl _, .inr rfl, ⟨[], by kernel_rfl, trivial, [.v (.bool false)], by kernel_rfl, by kernel_rfl⟩⟩
    · replace h := cd_f b5 h
      refine AX.reg (its := [.auto {}, .call 56 [.agg [.bs false 2 (List.map enc_si p1), .v (.int .i64 p2)]] (handO (rho ([] ++ [])) [] [] ++ []) (callEv [] [] (.v (.bool true)) []), .auto {}, .auto {}, .auto {}, .call 100 [.v (.int .i64 p3), .v (.int .i64 0), .v (.int .i64 4095)] (handO (rho ([] ++ [])) [] [] ++ []) (callEv [] [] (.v (.bool false)) [])]) [4] [] (s1 := ⟨[(4, .v (.bool false))], []⟩) (C := ((([.agg [.bs false 2 (List.map enc_si p1), .v (.int .i64 p2)]] : List AV) = [.agg [.bs false 2 (List.map enc_si p1), .v (.int .i64 p2)]]) ∧ True) ∧ ((([.v (.int .i64 p3), .v (.int .i64 0), .v (.int .i64 4095)] : List AV) = [.v (.int .i64 p3), .v (.int .i64 0), .v (.int .i64 4095)]) ∧ True) ∧ True) (by kernel_rfl) ⟨⟨rfl, trivial⟩, ⟨⟨rfl, trivial⟩, trivial⟩⟩ ⟨call_ok (ks := []) (ns := []) (bor := []) (bobjs := []) (show Eng.Spec Try.prog 56 [.agg [.bs false 2 (List.map enc_si p1), .v (.int .i64 p2)]] [] (.v (.bool true)) [] from by have q := s_spec_validFlag p1 p2 x6 e2; rw [b3] at q; exact q) (.cons (.c1 (.agg (.cons (.same _ (by kernel_rfl) (by kernel_rfl)) (.cons (.same _ (by kernel_rfl) (by kernel_rfl)) (.nil))))) (.nil)) (by kernel_rfl) trivial, ⟨call_ok (ks := []) (ns := []) (bor := []) (bobjs := []) (show Eng.Spec Try.prog 100 [.v (.int .i64 p3), .v (.int .i64 0), .v (.int .i64 4095)] [] (.v (.bool false)) [] from by have q := s_spec_inRange p3 0 4095 x7 e4; rw [b5] at q; exact q) (.cons (.c1 (.c0 (.same _ (by kernel_rfl) (by kernel_rfl)))) (.cons (.c1 (.c0 (.same _ (by kernel_rfl) (by kernel_rfl)))) (.cons (.c1 (.c0 (.same _ (by kernel_rfl) (by kernel_rfl)))) (.nil)))) (by kernel_rfl) trivial, trivial⟩⟩ ?_
      refine AX.ret ?_
      refine fin_wk (Wk.forget [4] [] (s' := ⟨[(4, .v (.bool false))], []⟩) (by kernel_rfl)) ?_
      have hr := Option.some.inj h
      subst hr
      exact ⟨_, Wk.refl _, .inr rfl, ⟨[], by kernel_rfl, trivial, [.v (.bool false)], by kernel_rfl, by kernel_rfl⟩⟩
  · replace h := cd_f b3 h
    refine AX.reg (its := [.auto {}, .call 56 [.agg [.bs false 2 (List.map enc_si p1), .v (.int .i64 p2)]] (handO (rho ([] ++ [])) [] [] ++ []) (callEv [] [] (.v (.bool false)) [])]) [4] [] (s1 := ⟨[(4, .v (.bool false))], []⟩) (C := ((([.agg [.bs false 2 (List.map enc_si p1), .v (.int .i64 p2)]] : List AV) = [.agg [.bs false 2 (List.map enc_si p1), .v (.int .i64 p2)]]) ∧ True) ∧ True) (by kernel_rfl) ⟨⟨rfl, trivial⟩, trivial⟩ ⟨call_ok (ks := []) (ns := []) (bor := []) (bobjs := []) (show Eng.Spec Try.prog 56 [.agg [.bs false 2 (List.map enc_si p1), .v (.int .i64 p2)]] [] (.v (.bool false)) [] from by have q := s_spec_validFlag p1 p2 x6 e2; rw [b3] at q; exact q) (.cons (.c1 (.agg (.cons (.same _ (by kernel_rfl) (by kernel_rfl)) (.cons (.same _ (by kernel_rfl) (by kernel_rfl)) (.nil))))) (.nil)) (by kernel_rfl) trivial, trivial⟩ ?_
    refine AX.ret ?_
    refine fin_wk (Wk.forget [4] [] (s' := ⟨[(4, .v (.bool false))], []⟩) (by kernel_rfl)) ?_
    have hr := Option.some.inj h
    subst hr
    exact ⟨_, Wk.refl _, .inr rfl, ⟨[], by kernel_rfl, trivial, [.v (.bool false)], by kernel_rfl, by kernel_rfl⟩⟩

theorem s_spec_validArms_L1 (p1 : List (ByteArray × Int)) (p2 : Int) (p3 : List (Int × Int)) (n : Nat) (g : Int) (out : Unit ⊕ Unit) (h : m_spec_validArms_L1 p1 p2 p3 n g = some out) :
    AX Try.prog 26 0 (codeAt [1, 0, 1, 1] (bodyOf Try.f40)) ((fun g : Int => (⟨[(1, .bs false 2 (List.map enc_ii p3)), (2, .pt 0 0), (5, .v (.int .i64 g))], [(0, .box [.bs false 2 (List.map enc_si p1), .v (.int .i64 p2)])]⟩ : S)) g) (fun ex s => (∃ o : Unit, out = Sum.inl o ∧ ex = .ret ∧ s = ⟨[(4, .v (.bool false))], []⟩) ∨ (∃ o : Unit, out = Sum.inr o ∧ ex = .exit 0 ∧ s = ⟨[(1, .bs false 2 (List.map enc_ii p3)), (2, .pt 0 0)], [(0, .box [.bs false 2 (List.map enc_si p1), .v (.int .i64 p2)])]⟩)) := by
  refine AX.wkpost ?_
  refine AX.loop (G := Nat × (Int)) (fun q => (fun g : Int => (⟨[(1, .bs false 2 (List.map enc_ii p3)), (2, .pt 0 0), (5, .v (.int .i64 g))], [(0, .box [.bs false 2 (List.map enc_si p1), .v (.int .i64 p2)])]⟩ : S)) q.2) (fun q => m_spec_validArms_L1 p1 p2 p3 q.1 q.2 = some out) (fun q => q.1) (n, g) h (Wk.refl _) ?_
  clear h
  rintro ⟨fu, v4⟩ h
  cases fu with
  | zero => cases h
  | succ fu =>
    rw [m_spec_validArms_L1] at h
    refine AX.seq ?_
    refine AX.seq ?_
    refine AX.reg (its := [.auto {}, .auto {}, .auto { y := some (.v (.int .i64 (p3.length : Int))) }]) [1, 2, 5, 9] [0] (s1 := ⟨[(1, .bs false 2 (List.map enc_ii p3)), (2, .pt 0 0), (5, .v (.int .i64 v4)), (9, .v (.bool (decide (v4 < (p3.length : Int)))))], [(0, .box [.bs false 2 (List.map enc_si p1), .v (.int .i64 p2)])]⟩) (C := (True ∧ (AV.v (.int .i64 ((List.map enc_ii p3).length : Int)) = AV.v (.int .i64 (p3.length : Int)))) ∧ True) (by kernel_rfl) ⟨⟨trivial, len_map enc_ii p3⟩, trivial⟩ trivial ?_
    rcases bool_cases (decide (v4 < (p3.length : Int))) with b1 | b1
    · replace h := cd_t b1 h
      refine AX.condT (decide (v4 < (p3.length : Int))) (by kernel_rfl) b1 ?_
      refine AX.skip ?_
      refine AX.seq ?_
      refine AX.block ?_
      refine AX.seq ?_
      obtain ⟨g2, h⟩ := gd_e h
      obtain ⟨x5, e3, h⟩ := bd_e h
      refine AX.drw mixed (its := [.auto {}, .auto {}, .auto {}, .auto { y := some (.be 2 (enc_ii (gt p3 v4)) 0) }, .auto {}, .call 90 [.agg [.bs false 2 (List.map enc_si p1), .v (.int .i64 p2)], .agg [.v (.int .i64 ((gt p3 v4).1)), .v (.int .i64 ((gt p3 v4).2))]] (handO (rho ([] ++ [])) [] [] ++ []) (callEv [] [] (.v (.bool x5)) [])]) [1, 2, 5, 18] [0] (s1 := ⟨[(1, .bs false 2 (List.map enc_ii p3)), (2, .pt 0 0), (5, .v (.int .i64 v4)), (18, .v (.bool (!x5)))], [(0, .box [.bs false 2 (List.map enc_si p1), .v (.int .i64 p2)])]⟩) (C := ((0 ≤ v4 ∧ v4 < ((List.map enc_ii p3).length : Int)) ∧ (AV.be 2 ((List.map enc_ii p3).getD v4.toNat []) 0 = AV.be 2 (enc_ii (gt p3 v4)) 0)) ∧ ((([.agg [.bs false 2 (List.map enc_si p1), .v (.int .i64 p2)], .agg [.v (.int .i64 ((gt p3 v4).1)), .v (.int .i64 ((gt p3 v4).2))]] : List AV) = [.agg [.bs false 2 (List.map enc_si p1), .v (.int .i64 p2)], .agg [.v (.int .i64 ((gt p3 v4).1)), .v (.int .i64 ((gt p3 v4).2))]]) ∧ True) ∧ True) (by kernel_rfl) ⟨idx_bs enc_ii p3 v4 2 g2, ⟨⟨rfl, trivial⟩, trivial⟩⟩ ⟨call_ok (ks := []) (ns := []) (bor := []) (bobjs := []) (s_spec_validArm p1 p2 ((gt p3 v4).1) ((gt p3 v4).2) x5 e3) (.cons (.c1 (.agg (.cons (.same _ (by kernel_rfl) (by kernel_rfl)) (.cons (.same _ (by kernel_rfl) (by kernel_rfl)) (.nil))))) (.cons (.c1 (.agg (.cons (.same _ (by kernel_rfl) (by kernel_rfl)) (.cons (.same _ (by kernel_rfl) (by kernel_rfl)) (.nil))))) (.nil))) (by kernel_rfl) trivial, trivial⟩ ?_
      rcases bool_cases ((!x5)) with b4 | b4
      · replace h := cd_t b4 h
        refine AX.condT ((!x5)) (by kernel_rfl) b4 ?_
        refine AX.seq ?_
        refine AX.reg (its := []) [4] [] (s1 := ⟨[(4, .v (.bool false))], []⟩) (C := True) (by kernel_rfl) trivial trivial ?_
        refine AX.ret ?_
        refine fin_wk (Wk.forget [4] [] (s' := ⟨[(4, .v (.bool false))], []⟩) (by kernel_rfl)) ?_
        have hr := Option.some.inj h
        subst hr
        exact ⟨_, Wk.refl _, .inl ⟨(), rfl, rfl, rfl⟩⟩
      · replace h := cd_f b4 h
        refine AX.condF ((!x5)) (by kernel_rfl) b4 ?_
        refine AX.skip ?_
        refine AX.reg (its := [.auto {}, .auto { raw := true }]) [1, 2, 5] [0] (s1 := ⟨[(1, .bs false 2 (List.map enc_ii p3)), (2, .pt 0 0), (5, .v (.int .i64 (IntKind.wrap .i64 (v4 + 1))))], [(0, .box [.bs false 2 (List.map enc_si p1), .v (.int .i64 p2)])]⟩) (C := True) (by kernel_rfl) trivial trivial ?_
        refine ⟨(fu, IntKind.wrap .i64 (v4 + 1)), h, Nat.lt_succ_self _, ?_⟩
        refine Wk.trans (Wk.forget [1, 2, 5] [0] (s' := ⟨[(1, .bs false 2 (List.map enc_ii p3)), (2, .pt 0 0), (5, .v (.int .i64 (IntKind.wrap .i64 (v4 + 1))))], [(0, .box [.bs false 2 (List.map enc_si p1), .v (.int .i64 p2)])]⟩) (by kernel_rfl)) ?_
        exact Wk.refl _
    · replace h := cd_f b1 h
      refine AX.condF (decide (v4 < (p3.length : Int))) (by kernel_rfl) b1 ?_
      refine AX.exit ?_
      refine fin_wk (Wk.forget [1, 2] [0] (s' := ⟨[(1, .bs false 2 (List.map enc_ii p3)), (2, .pt 0 0)], [(0, .box [.bs false 2 (List.map enc_si p1), .v (.int .i64 p2)])]⟩) (by kernel_rfl)) ?_
      have hr := Option.some.inj h
      subst hr
      exact ⟨_, Wk.refl _, .inr ⟨(), rfl, rfl, rfl⟩⟩

theorem s_spec_validArms (p1 : List (ByteArray × Int)) (p2 : Int) (p3 : List (Int × Int)) (r : Bool) (h : m_spec_validArms p1 p2 p3 = some r) :
    Eng.Spec Try.prog 40 [.agg [.bs false 2 (List.map enc_si p1), .v (.int .i64 p2)], .bs false 2 (List.map enc_ii p3)] [] (.v (.bool r)) [] := by
  unfold m_spec_validArms at h
  refine Eng.Spec.body Try.func40 (by kernel_rfl) rfl (by kernel_rfl) ?_
  refine AX.wkpost ?_
  refine AX.seq ?_
  refine AX.reg (its := [.auto { nk := 0 }]) [1, 2] [0] (s1 := ⟨[(1, .bs false 2 (List.map enc_ii p3)), (2, .pt 0 0)], [(0, .box [.bs false 2 (List.map enc_si p1), .v (.int .i64 p2)])]⟩) (C := True) (by kernel_rfl) trivial trivial ?_
  refine AX.seq ?_
  refine AX.seq ?_
  refine AX.reg (its := []) [1, 2, 5] [0] (s1 := ⟨[(1, .bs false 2 (List.map enc_ii p3)), (2, .pt 0 0), (5, .v (.int .i64 0))], [(0, .box [.bs false 2 (List.map enc_si p1), .v (.int .i64 p2)])]⟩) (C := True) (by kernel_rfl) trivial trivial ?_
  refine AX.block ?_
  obtain ⟨x6, e5, h⟩ := bd_e h
  refine AX.wk (Wk.forget [1, 2, 5] [0] (s' := ⟨[(1, .bs false 2 (List.map enc_ii p3)), (2, .pt 0 0), (5, .v (.int .i64 0))], [(0, .box [.bs false 2 (List.map enc_si p1), .v (.int .i64 p2)])]⟩) (by kernel_rfl)) ?_
  refine AX.mono (s_spec_validArms_L1 p1 p2 p3 FU 0 x6 e5) ?_
  rintro _ _ (⟨x7, rfl, rfl, rfl⟩ | ⟨x8, rfl, rfl, rfl⟩)
  · replace h := sm_l h
    refine fin_wk (Wk.forget [4] [] (s' := ⟨[(4, .v (.bool false))], []⟩) (by kernel_rfl)) ?_
    have hr := Option.some.inj h
    subst hr
    exact ⟨_, Wk.refl _, .inr rfl, ⟨[], by kernel_rfl, trivial, [.v (.bool false)], by kernel_rfl, by kernel_rfl⟩⟩
  · replace h := sm_r h
    refine AX.seq ?_
    obtain ⟨x9, e6, h⟩ := bd_e h
    rcases bool_cases (x9) with b7 | b7
    · replace h := cd_t b7 h
      refine AX.reg (its := [.auto {}, .call 56 [.agg [.bs false 2 (List.map enc_si p1), .v (.int .i64 p2)]] (handO (rho ([] ++ [])) [] [] ++ []) (callEv [] [] (.v (.bool true)) []), .auto {}, .auto {}, .auto { y := some (.v (.int .i64 (p3.length : Int))) }]) [4] [] (s1 := ⟨[(4, .v (.bool (decide ((p3.length : Int) ≤ 10))))], []⟩) (C := ((([.agg [.bs false 2 (List.map enc_si p1), .v (.int .i64 p2)]] : List AV) = [.agg [.bs false 2 (List.map enc_si p1), .v (.int .i64 p2)]]) ∧ True) ∧ (True ∧ (AV.v (.int .i64 ((List.map enc_ii p3).length : Int)) = AV.v (.int .i64 (p3.length : Int)))) ∧ True) (by kernel_rfl) ⟨⟨rfl, trivial⟩, ⟨⟨trivial, len_map enc_ii p3⟩, trivial⟩⟩ ⟨call_ok (ks := []) (ns := []) (bor := []) (bobjs := []) (show Eng.Spec Try.prog 56 [.agg [.bs false 2 (List.map enc_si p1), .v (.int .i64 p2)]] [] (.v (.bool true)) [] from by have q := s_spec_validFlag p1 p2 x9 e6; rw [b7] at q; exact q) (.cons (.c1 (.agg (.cons (.same _ (by kernel_rfl) (by kernel_rfl)) (.cons (.same _ (by kernel_rfl) (by kernel_rfl)) (.nil))))) (.nil)) (by kernel_rfl) trivial, trivial⟩ ?_
      refine AX.ret ?_
      refine fin_wk (Wk.forget [4] [] (s' := ⟨[(4, .v (.bool (decide ((p3.length : Int) ≤ 10))))], []⟩) (by kernel_rfl)) ?_
      have hr := Option.some.inj h
      subst hr
      exact ⟨_, Wk.refl _, .inr rfl, ⟨[], by kernel_rfl, trivial, [.v (.bool (decide ((p3.length : Int) ≤ 10)))], by kernel_rfl, by kernel_rfl⟩⟩
    · replace h := cd_f b7 h
      refine AX.reg (its := [.auto {}, .call 56 [.agg [.bs false 2 (List.map enc_si p1), .v (.int .i64 p2)]] (handO (rho ([] ++ [])) [] [] ++ []) (callEv [] [] (.v (.bool false)) [])]) [4] [] (s1 := ⟨[(4, .v (.bool false))], []⟩) (C := ((([.agg [.bs false 2 (List.map enc_si p1), .v (.int .i64 p2)]] : List AV) = [.agg [.bs false 2 (List.map enc_si p1), .v (.int .i64 p2)]]) ∧ True) ∧ True) (by kernel_rfl) ⟨⟨rfl, trivial⟩, trivial⟩ ⟨call_ok (ks := []) (ns := []) (bor := []) (bobjs := []) (show Eng.Spec Try.prog 56 [.agg [.bs false 2 (List.map enc_si p1), .v (.int .i64 p2)]] [] (.v (.bool false)) [] from by have q := s_spec_validFlag p1 p2 x9 e6; rw [b7] at q; exact q) (.cons (.c1 (.agg (.cons (.same _ (by kernel_rfl) (by kernel_rfl)) (.cons (.same _ (by kernel_rfl) (by kernel_rfl)) (.nil))))) (.nil)) (by kernel_rfl) trivial, trivial⟩ ?_
      refine AX.ret ?_
      refine fin_wk (Wk.forget [4] [] (s' := ⟨[(4, .v (.bool false))], []⟩) (by kernel_rfl)) ?_
      have hr := Option.some.inj h
      subst hr
      exact ⟨_, Wk.refl _, .inr rfl, ⟨[], by kernel_rfl, trivial, [.v (.bool false)], by kernel_rfl, by kernel_rfl⟩⟩

theorem s_spec_partsIn_L1 (p1 : Int) (n : Nat) (g : List (Int) × Int) (out : List (Int)) (h : m_spec_partsIn_L1 p1 n g.1 g.2 = some out) :
    AX Try.prog 20 0 (codeAt [1, 1, 0, 1, 1] (bodyOf Try.f41)) ((fun g : List (Int) × Int => (⟨[(0, .v (.int .i64 p1)), (3, .sl 0 0 g.1.length), (4, .v (.int .i64 g.2))], [(0, .arr 1 (List.map enc_i g.1))]⟩ : S)) g) (fun ex s => ex = .exit 0 ∧ s = (fun o : List (Int) => (⟨[(3, .sl 0 0 o.length)], [(0, .arr 1 (List.map enc_i o))]⟩ : S)) out) := by
  refine AX.wkpost ?_
  refine AX.loop (G := Nat × (List (Int) × Int)) (fun q => (fun g : List (Int) × Int => (⟨[(0, .v (.int .i64 p1)), (3, .sl 0 0 g.1.length), (4, .v (.int .i64 g.2))], [(0, .arr 1 (List.map enc_i g.1))]⟩ : S)) q.2) (fun q => m_spec_partsIn_L1 p1 q.1 q.2.1 q.2.2 = some out) (fun q => q.1) (n, g) h (Wk.refl _) ?_
  clear h
  rintro ⟨fu, v2, v3⟩ h
  cases fu with
  | zero => cases h
  | succ fu =>
    rw [m_spec_partsIn_L1] at h
    refine AX.seq ?_
    refine AX.seq ?_
    refine AX.reg (its := []) [0, 3, 4, 8] [0] (s1 := ⟨[(0, .v (.int .i64 p1)), (3, .sl 0 0 v2.length), (4, .v (.int .i64 v3)), (8, .v (.bool (decide (v3 ≤ p1))))], [(0, .arr 1 (List.map enc_i v2))]⟩) (C := True) (by kernel_rfl) trivial trivial ?_
    rcases bool_cases (decide (v3 ≤ p1)) with b1 | b1
    · replace h := cd_t b1 h
      refine AX.condT (decide (v3 ≤ p1)) (by kernel_rfl) b1 ?_
      refine AX.skip ?_
      refine AX.seq ?_
      refine AX.block ?_
      refine AX.seq ?_
      obtain ⟨x4, e2, h⟩ := bd_e h
      refine AX.reg (its := [.auto {}, .auto {}, .call 91 [.v (.int .i64 v3), .v (.int .i64 p1)] (handO (rho ([] ++ [])) [] [] ++ []) (callEv [] [] (.v (.int .i64 x4)) [])]) [0, 3, 4, 14] [0] (s1 := ⟨[(0, .v (.int .i64 p1)), (3, .sl 0 0 v2.length), (4, .v (.int .i64 v3)), (14, .v (.bool (decide (x4 = 0))))], [(0, .arr 1 (List.map enc_i v2))]⟩) (C := ((([.v (.int .i64 v3), .v (.int .i64 p1)] : List AV) = [.v (.int .i64 v3), .v (.int .i64 p1)]) ∧ True) ∧ True) (by kernel_rfl) ⟨⟨rfl, trivial⟩, trivial⟩ ⟨call_ok (ks := []) (ns := []) (bor := []) (bobjs := []) (s_spec_less v3 p1 x4 e2) (.cons (.c1 (.c0 (.same _ (by kernel_rfl) (by kernel_rfl)))) (.cons (.c1 (.c0 (.same _ (by kernel_rfl) (by kernel_rfl)))) (.nil))) (by kernel_rfl) trivial, trivial⟩ ?_
      rcases bool_cases (decide (x4 = 0)) with b3 | b3
      · replace h := cd_t b3 h
        refine AX.condT (decide (x4 = 0)) (by kernel_rfl) b3 ?_
        obtain ⟨g4, h⟩ := gd_e h
        refine AX.reg (its := [.auto {}, .auto {}, .auto { nk := 1 }, .auto { y := some (.sl 2 0 ((v2 ++ ([v3] : List (Int))).length)), els := some (List.map enc_i v2), els2 := some (List.map enc_i ([v3] : List (Int))), nk := 2 }]) [0, 3, 4] [2] (s1 := ⟨[(0, .v (.int .i64 p1)), (3, .sl 2 0 ((v2 ++ ([v3] : List (Int))).length)), (4, .v (.int .i64 v3))], [(2, .arr 1 (List.map enc_i v2 ++ List.map enc_i ([v3] : List (Int))))]⟩) (C := ((((((List.map enc_i v2).drop 0).take (v2.length) = List.map enc_i v2) ∧ (((List.map enc_i ([v3] : List (Int))).drop 0).take (([v3] : List (Int)).length) = List.map enc_i ([v3] : List (Int)))) ∧ (List.map enc_i v2).length + (List.map enc_i ([v3] : List (Int))).length ≤ 1099511627776) ∧ (AV.sl 2 0 (List.map enc_i v2 ++ List.map enc_i ([v3] : List (Int))).length = AV.sl 2 0 (v2 ++ ([v3] : List (Int))).length)) ∧ True) (by kernel_rfl) ⟨⟨⟨⟨(dt_all (enc := enc_i) rfl rfl), (dt_all (enc := enc_i) rfl rfl)⟩, (by simp only [List.length_map, List.length_nil]; simpa using g4)⟩, sl_len (enc := enc_i) (app_can (enc := enc_i) rfl rfl)⟩, trivial⟩ trivial ?_
        refine AX.reg (its := [.auto {}, .auto { raw := true }]) [0, 3, 4] [2] (s1 := ⟨[(0, .v (.int .i64 p1)), (3, .sl 2 0 ((v2 ++ ([v3] : List (Int))).length)), (4, .v (.int .i64 (IntKind.wrap .i64 (v3 + 1))))], [(2, .arr 1 (List.map enc_i v2 ++ List.map enc_i ([v3] : List (Int))))]⟩) (C := True) (by kernel_rfl) trivial trivial ?_
        refine ⟨(fu, (v2 ++ ([v3] : List (Int)), IntKind.wrap .i64 (v3 + 1))), h, Nat.lt_succ_self _, ?_⟩
        refine Wk.trans (Wk.swap 0 2 (Nat.le_of_ble_eq_true (by kernel_rfl)) (Nat.le_of_ble_eq_true (by kernel_rfl)) rfl) ?_
        refine Wk.trans (Wk.forget [0, 3, 4] [0] (s' := ⟨[(0, .v (.int .i64 p1)), (3, .sl 0 0 ((v2 ++ ([v3] : List (Int))).length)), (4, .v (.int .i64 (IntKind.wrap .i64 (v3 + 1))))], [(0, .arr 1 (List.map enc_i v2 ++ List.map enc_i ([v3] : List (Int))))]⟩) (by kernel_rfl)) ?_
        refine Wk.trans (Wk.of_eq (congrArg (fun z => (⟨[(0, .v (.int .i64 p1)), (3, .sl 0 0 ((v2 ++ ([v3] : List (Int))).length)), (4, .v (.int .i64 (IntKind.wrap .i64 (v3 + 1))))], [(0, .arr 1 (z))]⟩ : S)) (app_can (enc := enc_i) rfl rfl : List.map enc_i v2 ++ List.map enc_i ([v3] : List (Int)) = List.map enc_i (v2 ++ ([v3] : List (Int)))))) ?_
        exact Wk.refl _
      · replace h := cd_f b3 h
        refine AX.condF (decide (x4 = 0)) (by kernel_rfl) b3 ?_
        refine AX.skip ?_
        refine AX.reg (its := [.auto {}, .auto { raw := true }]) [0, 3, 4] [0] (s1 := ⟨[(0, .v (.int .i64 p1)), (3, .sl 0 0 v2.length), (4, .v (.int .i64 (IntKind.wrap .i64 (v3 + 1))))], [(0, .arr 1 (List.map enc_i v2))]⟩) (C := True) (by kernel_rfl) trivial trivial ?_
        refine ⟨(fu, (v2, IntKind.wrap .i64 (v3 + 1))), h, Nat.lt_succ_self _, ?_⟩
        refine Wk.trans (Wk.forget [0, 3, 4] [0] (s' := ⟨[(0, .v (.int .i64 p1)), (3, .sl 0 0 v2.length), (4, .v (.int .i64 (IntKind.wrap .i64 (v3 + 1))))], [(0, .arr 1 (List.map enc_i v2))]⟩) (by kernel_rfl)) ?_
        exact Wk.refl _
    · replace h := cd_f b1 h
      refine AX.condF (decide (v3 ≤ p1)) (by kernel_rfl) b1 ?_
      refine AX.exit ?_
      refine fin_wk (Wk.forget [3] [0] (s' := ⟨[(3, .sl 0 0 v2.length)], [(0, .arr 1 (List.map enc_i v2))]⟩) (by kernel_rfl)) ?_
      have hr := Option.some.inj h
      subst hr
      exact ⟨_, Wk.refl _, ⟨rfl, rfl⟩⟩

theorem s_spec_partsIn (p1 : Int) (r : List (Int)) (h : m_spec_partsIn p1 = some r) :
    Eng.Spec Try.prog 41 [.v (.int .i64 p1)] [] (.sl 0 0 r.length) [.arr 1 (List.map enc_i r)] := by
  unfold m_spec_partsIn at h
  refine Eng.Spec.body Try.func41 (by kernel_rfl) rfl (by kernel_rfl) ?_
  refine AX.wkpost ?_
  refine AX.seq ?_
  refine AX.reg (its := []) [0] [] (s1 := ⟨[(0, .v (.int .i64 p1))], []⟩) (C := True) (by kernel_rfl) trivial trivial ?_
  refine AX.seq ?_
  refine AX.reg (its := [.auto { nk := 0 }]) [0, 3] [0] (s1 := ⟨[(0, .v (.int .i64 p1)), (3, .sl 0 0 (([] : List (Int)).length))], [(0, .arr 1 (List.map enc_i ([] : List (Int))))]⟩) (C := True) (by kernel_rfl) trivial trivial ?_
  refine AX.seq ?_
  refine AX.seq ?_
  refine AX.reg (its := []) [0, 3, 4] [0] (s1 := ⟨[(0, .v (.int .i64 p1)), (3, .sl 0 0 (([] : List (Int)).length)), (4, .v (.int .i64 0))], [(0, .arr 1 (List.map enc_i ([] : List (Int))))]⟩) (C := True) (by kernel_rfl) trivial trivial ?_
  refine AX.block ?_
  obtain ⟨x5, e5, h⟩ := bd_e h
  refine AX.wk (Wk.forget [0, 3, 4] [0] (s' := ⟨[(0, .v (.int .i64 p1)), (3, .sl 0 0 (([] : List (Int)).length)), (4, .v (.int .i64 0))], [(0, .arr 1 (List.map enc_i ([] : List (Int))))]⟩) (by kernel_rfl)) ?_
  refine AX.mono (s_spec_partsIn_L1 p1 FU (([] : List (Int)), 0) x5 e5) ?_
  rintro _ _ ⟨rfl, rfl⟩
  skip
  refine AX.seq ?_
  refine AX.reg (its := []) [2] [0] (s1 := ⟨[(2, .sl 0 0 x5.length)], [(0, .arr 1 (List.map enc_i x5))]⟩) (C := True) (by kernel_rfl) trivial trivial ?_
  refine AX.ret ?_
  refine fin_wk (Wk.forget [2] [0] (s' := ⟨[(2, .sl 0 0 x5.length)], [(0, .arr 1 (List.map enc_i x5))]⟩) (by kernel_rfl)) ?_
  have hr := Option.some.inj h
  subst hr
  exact ⟨_, Wk.refl _, .inr rfl, ⟨[0], by kernel_rfl, ⟨rfl, trivial⟩, [.sl 0 0 x5.length], by kernel_rfl, by kernel_rfl⟩⟩

theorem s_spec_matches (p1 : Int) (p2 : Int) (p3 : Int) (r : Bool) (h : m_spec_matches p1 p2 p3 = some r) :
    Eng.Spec Try.prog 93 [.agg [.v (.int .i64 p1), .v (.int .i64 p2)], .v (.int .i64 p3)] [] (.v (.bool r)) [] := by
  unfold m_spec_matches at h
  refine Eng.Spec.body Try.func93 (by kernel_rfl) rfl (by kernel_rfl) ?_
  refine AX.wkpost ?_
  refine AX.seq ?_
  refine AX.reg (its := [.auto { nk := 0 }]) [1, 2] [0] (s1 := ⟨[(1, .v (.int .i64 p3)), (2, .pt 0 0)], [(0, .box [.v (.int .i64 p1), .v (.int .i64 p2)])]⟩) (C := True) (by kernel_rfl) trivial trivial ?_
  refine AX.seq ?_
  obtain ⟨x4, e1, h⟩ := bd_e h
  rcases bool_cases (decide (x4 = 0)) with b2 | b2
  · replace h := cd_t b2 h
    obtain ⟨x5, e3, h⟩ := bd_e h
    refine AX.reg (its := [.auto {}, .auto {}, .auto {}, .call 91 [.v (.int .i64 p1), .v (.int .i64 p3)] (handO (rho ([] ++ [])) [] [] ++ []) (callEv [] [] (.v (.int .i64 x4)) []), .auto { y := some (.v (.bool true)) }, .auto {}, .auto {}, .auto {}, .auto {}, .call 116 [.v (.int .i64 p2), .v (.int .i64 p3)] (handO (rho ([] ++ [])) [] [] ++ []) (callEv [] [] (.v (.int .i64 x5)) [])]) [4] [] (s1 := ⟨[(4, .v (.bool (decide (x5 = 0))))], []⟩) (C := ((([.v (.int .i64 p1), .v (.int .i64 p3)] : List AV) = [.v (.int .i64 p1), .v (.int .i64 p3)]) ∧ True) ∧ ((True) ∧ ((.v (.bool (decide (x4 = 0))) : AV) = (.v (.bool true) : AV))) ∧ ((([.v (.int .i64 p2), .v (.int .i64 p3)] : List AV) = [.v (.int .i64 p2), .v (.int .i64 p3)]) ∧ True) ∧ True) (by kernel_rfl) ⟨⟨rfl, trivial⟩, ⟨⟨trivial, (congrArg (fun z => AV.v (.bool z)) b2)⟩, ⟨⟨rfl, trivial⟩, trivial⟩⟩⟩ ⟨call_ok (ks := []) (ns := []) (bor := []) (bobjs := []) (s_spec_less p1 p3 x4 e1) (.cons (.c1 (.c0 (.same _ (by kernel_rfl) (by kernel_rfl)))) (.cons (.c1 (.c0 (.same _ (by kernel_rfl) (by kernel_rfl)))) (.nil))) (by kernel_rfl) trivial, ⟨call_ok (ks := []) (ns := []) (bor := []) (bobjs := []) (s_spec_both p2 p3 x5 e3) (.cons (.c1 (.c0 (.same _ (by kernel_rfl) (by kernel_rfl)))) (.cons (.c1 (.c0 (.same _ (by kernel_rfl) (by kernel_rfl)))) (.nil))) (by kernel_rfl) trivial, trivial⟩⟩ ?_
    refine AX.ret ?_
    refine fin_wk (Wk.forget [4] [] (s' := ⟨[(4, .v (.bool (decide (x5 = 0))))], []⟩) (by kernel_rfl)) ?_
    have hr := Option.some.inj h
    subst hr
    exact ⟨_, Wk.refl _, .inr rfl, ⟨[], by kernel_rfl, trivial, [.v (.bool (decide (x5 = 0)))], by kernel_rfl, by kernel_rfl⟩⟩
  · replace h := cd_f b2 h
    refine AX.reg (its := [.auto {}, .auto {}, .auto {}, .call 91 [.v (.int .i64 p1), .v (.int .i64 p3)] (handO (rho ([] ++ [])) [] [] ++ []) (callEv [] [] (.v (.int .i64 x4)) []), .auto { y := some (.v (.bool false)) }]) [4] [] (s1 := ⟨[(4, .v (.bool false))], []⟩) (C := ((([.v (.int .i64 p1), .v (.int .i64 p3)] : List AV) = [.v (.int .i64 p1), .v (.int .i64 p3)]) ∧ True) ∧ ((True) ∧ ((.v (.bool (decide (x4 = 0))) : AV) = (.v (.bool false) : AV))) ∧ True) (by kernel_rfl) ⟨⟨rfl, trivial⟩, ⟨⟨trivial, (congrArg (fun z => AV.v (.bool z)) b2)⟩, trivial⟩⟩ ⟨call_ok (ks := []) (ns := []) (bor := []) (bobjs := []) (s_spec_less p1 p3 x4 e1) (.cons (.c1 (.c0 (.same _ (by kernel_rfl) (by kernel_rfl)))) (.cons (.c1 (.c0 (.same _ (by kernel_rfl) (by kernel_rfl)))) (.nil))) (by kernel_rfl) trivial, trivial⟩ ?_
    refine AX.ret ?_
    refine fin_wk (Wk.forget [4] [] (s' := ⟨[(4, .v (.bool false))], []⟩) (by kernel_rfl)) ?_
    have hr := Option.some.inj h
    subst hr
    exact ⟨_, Wk.refl _, .inr rfl, ⟨[], by kernel_rfl, trivial, [.v (.bool false)], by kernel_rfl, by kernel_rfl⟩⟩

theorem s_spec_firstArm_L1 (p1 : List (Int × Int)) (p2 : Int) (n : Nat) (g : Int) (out : Int ⊕ Unit) (h : m_spec_firstArm_L1 p1 p2 n g = some out) :
    AX Try.prog 19 0 (codeAt [1, 0, 1, 1] (bodyOf Try.f43)) ((fun g : Int => (⟨[(0, .bs false 2 (List.map enc_ii p1)), (1, .v (.int .i64 p2)), (5, .v (.int .i64 g))], []⟩ : S)) g) (fun ex s => (∃ o : Int, out = Sum.inl o ∧ ex = .ret ∧ s = ⟨[(4, .v (.int .i64 o))], []⟩) ∨ (∃ o : Unit, out = Sum.inr o ∧ ex = .exit 0 ∧ s = ⟨[], []⟩)) := by
  refine AX.wkpost ?_
  refine AX.loop (G := Nat × (Int)) (fun q => (fun g : Int => (⟨[(0, .bs false 2 (List.map enc_ii p1)), (1, .v (.int .i64 p2)), (5, .v (.int .i64 g))], []⟩ : S)) q.2) (fun q => m_spec_firstArm_L1 p1 p2 q.1 q.2 = some out) (fun q => q.1) (n, g) h (Wk.refl _) ?_
  clear h
  rintro ⟨fu, v3⟩ h
  cases fu with
  | zero => cases h
  | succ fu =>
    rw [m_spec_firstArm_L1] at h
    refine AX.seq ?_
    refine AX.seq ?_
    refine AX.reg (its := [.auto {}, .auto {}, .auto { y := some (.v (.int .i64 (p1.length : Int))) }]) [0, 1, 5, 9] [] (s1 := ⟨[(0, .bs false 2 (List.map enc_ii p1)), (1, .v (.int .i64 p2)), (5, .v (.int .i64 v3)), (9, .v (.bool (decide (v3 < (p1.length : Int)))))], []⟩) (C := (True ∧ (AV.v (.int .i64 ((List.map enc_ii p1).length : Int)) = AV.v (.int .i64 (p1.length : Int)))) ∧ True) (by kernel_rfl) ⟨⟨trivial, len_map enc_ii p1⟩, trivial⟩ trivial ?_
    rcases bool_cases (decide (v3 < (p1.length : Int))) with b1 | b1
    · replace h := cd_t b1 h
      refine AX.condT (decide (v3 < (p1.length : Int))) (by kernel_rfl) b1 ?_
      refine AX.skip ?_
      refine AX.seq ?_
      refine AX.block ?_
      refine AX.seq ?_
      obtain ⟨g2, h⟩ := gd_e h
      obtain ⟨x4, e3, h⟩ := bd_e h
      refine AX.reg (its := [.auto {}, .auto {}, .auto { y := some (.be 2 (enc_ii (gt p1 v3)) 0) }, .auto {}, .auto {}, .call 93 [.agg [.v (.int .i64 ((gt p1 v3).1)), .v (.int .i64 ((gt p1 v3).2))], .v (.int .i64 p2)] (handO (rho ([] ++ [])) [] [] ++ []) (callEv [] [] (.v (.bool x4)) [])]) [0, 1, 5, 17] [] (s1 := ⟨[(0, .bs false 2 (List.map enc_ii p1)), (1, .v (.int .i64 p2)), (5, .v (.int .i64 v3)), (17, .v (.bool x4))], []⟩) (C := ((0 ≤ v3 ∧ v3 < ((List.map enc_ii p1).length : Int)) ∧ (AV.be 2 ((List.map enc_ii p1).getD v3.toNat []) 0 = AV.be 2 (enc_ii (gt p1 v3)) 0)) ∧ ((([.agg [.v (.int .i64 ((gt p1 v3).1)), .v (.int .i64 ((gt p1 v3).2))], .v (.int .i64 p2)] : List AV) = [.agg [.v (.int .i64 ((gt p1 v3).1)), .v (.int .i64 ((gt p1 v3).2))], .v (.int .i64 p2)]) ∧ True) ∧ True) (by kernel_rfl) ⟨idx_bs enc_ii p1 v3 2 g2, ⟨⟨rfl, trivial⟩, trivial⟩⟩ ⟨call_ok (ks := []) (ns := []) (bor := []) (bobjs := []) (s_spec_matches ((gt p1 v3).1) ((gt p1 v3).2) p2 x4 e3) (.cons (.c1 (.agg (.cons (.same _ (by kernel_rfl) (by kernel_rfl)) (.cons (.same _ (by kernel_rfl) (by kernel_rfl)) (.nil))))) (.cons (.c1 (.c0 (.same _ (by kernel_rfl) (by kernel_rfl)))) (.nil))) (by kernel_rfl) trivial, trivial⟩ ?_
      rcases bool_cases (x4) with b4 | b4
      · replace h := cd_t b4 h
        refine AX.condT (x4) (by kernel_rfl) b4 ?_
        refine AX.seq ?_
        refine AX.reg (its := []) [4] [] (s1 := ⟨[(4, .v (.int .i64 v3))], []⟩) (C := True) (by kernel_rfl) trivial trivial ?_
        refine AX.ret ?_
        refine fin_wk (Wk.forget [4] [] (s' := ⟨[(4, .v (.int .i64 v3))], []⟩) (by kernel_rfl)) ?_
        have hr := Option.some.inj h
        subst hr
        exact ⟨_, Wk.refl _, .inl ⟨v3, rfl, rfl, rfl⟩⟩
      · replace h := cd_f b4 h
        refine AX.condF (x4) (by kernel_rfl) b4 ?_
        refine AX.skip ?_
        refine AX.reg (its := [.auto {}, .auto { raw := true }]) [0, 1, 5] [] (s1 := ⟨[(0, .bs false 2 (List.map enc_ii p1)), (1, .v (.int .i64 p2)), (5, .v (.int .i64 (IntKind.wrap .i64 (v3 + 1))))], []⟩) (C := True) (by kernel_rfl) trivial trivial ?_
        refine ⟨(fu, IntKind.wrap .i64 (v3 + 1)), h, Nat.lt_succ_self _, ?_⟩
        refine Wk.trans (Wk.forget [0, 1, 5] [] (s' := ⟨[(0, .bs false 2 (List.map enc_ii p1)), (1, .v (.int .i64 p2)), (5, .v (.int .i64 (IntKind.wrap .i64 (v3 + 1))))], []⟩) (by kernel_rfl)) ?_
        exact Wk.refl _
    · replace h := cd_f b1 h
      refine AX.condF (decide (v3 < (p1.length : Int))) (by kernel_rfl) b1 ?_
      refine AX.exit ?_
      refine fin_wk (Wk.forget [] [] (s' := ⟨[], []⟩) (by kernel_rfl)) ?_
      have hr := Option.some.inj h
      subst hr
      exact ⟨_, Wk.refl _, .inr ⟨(), rfl, rfl, rfl⟩⟩

theorem s_spec_firstArm (p1 : List (Int × Int)) (p2 : Int) (r : Int) (h : m_spec_firstArm p1 p2 = some r) :
    Eng.Spec Try.prog 43 [.bs false 2 (List.map enc_ii p1), .v (.int .i64 p2)] [] (.v (.int .i64 r)) [] := by
  unfold m_spec_firstArm at h
  refine Eng.Spec.body Try.func43 (by kernel_rfl) rfl (by kernel_rfl) ?_
  refine AX.wkpost ?_
  refine AX.seq ?_
  refine AX.reg (its := []) [0, 1] [] (s1 := ⟨[(0, .bs false 2 (List.map enc_ii p1)), (1, .v (.int .i64 p2))], []⟩) (C := True) (by kernel_rfl) trivial trivial ?_
  refine AX.seq ?_
  refine AX.seq ?_
  refine AX.reg (its := []) [0, 1, 5] [] (s1 := ⟨[(0, .bs false 2 (List.map enc_ii p1)), (1, .v (.int .i64 p2)), (5, .v (.int .i64 0))], []⟩) (C := True) (by kernel_rfl) trivial trivial ?_
  refine AX.block ?_
  obtain ⟨x5, e5, h⟩ := bd_e h
  refine AX.wk (Wk.forget [0, 1, 5] [] (s' := ⟨[(0, .bs false 2 (List.map enc_ii p1)), (1, .v (.int .i64 p2)), (5, .v (.int .i64 0))], []⟩) (by kernel_rfl)) ?_
  refine AX.mono (s_spec_firstArm_L1 p1 p2 FU 0 x5 e5) ?_
  rintro _ _ (⟨x6, rfl, rfl, rfl⟩ | ⟨x7, rfl, rfl, rfl⟩)
  · replace h := sm_l h
    refine fin_wk (Wk.forget [4] [] (s' := ⟨[(4, .v (.int .i64 x6))], []⟩) (by kernel_rfl)) ?_
    have hr := Option.some.inj h
    subst hr
    exact ⟨_, Wk.refl _, .inr rfl, ⟨[], by kernel_rfl, trivial, [.v (.int .i64 x6)], by kernel_rfl, by kernel_rfl⟩⟩
  · replace h := sm_r h
    refine AX.seq ?_
    refine AX.reg (its := []) [4] [] (s1 := ⟨[(4, .v (.int .i64 (-1)))], []⟩) (C := True) (by kernel_rfl) trivial trivial ?_
    refine AX.ret ?_
    refine fin_wk (Wk.forget [4] [] (s' := ⟨[(4, .v (.int .i64 (-1)))], []⟩) (by kernel_rfl)) ?_
    have hr := Option.some.inj h
    subst hr
    exact ⟨_, Wk.refl _, .inr rfl, ⟨[], by kernel_rfl, trivial, [.v (.int .i64 (-1))], by kernel_rfl, by kernel_rfl⟩⟩

theorem s_spec_FirstMissed_L1 (p3 : List (Int × Int)) (x6 : List (Int)) (n : Nat) (g : Int) (out : Int ⊕ Unit) (h : m_spec_FirstMissed_L1 p3 x6 n g = some out) :
    AX Try.prog 32 0 (codeAt [1, 1, 1, 0, 1, 1] (bodyOf Try.f9)) ((fun g : Int => (⟨[(1, .bs false 2 (List.map enc_ii p3)), (5, .sl 0 0 x6.length), (6, .v (.int .i64 g))], [(0, .arr 1 (List.map enc_i x6))]⟩ : S)) g) (fun ex s => (∃ o : Int, out = Sum.inl o ∧ ex = .ret ∧ s = ⟨[(4, .v (.int .i64 o))], []⟩) ∨ (∃ o : Unit, out = Sum.inr o ∧ ex = .exit 0 ∧ s = ⟨[], []⟩)) := by
  refine AX.wkpost ?_
  refine AX.loop (G := Nat × (Int)) (fun q => (fun g : Int => (⟨[(1, .bs false 2 (List.map enc_ii p3)), (5, .sl 0 0 x6.length), (6, .v (.int .i64 g))], [(0, .arr 1 (List.map enc_i x6))]⟩ : S)) q.2) (fun q => m_spec_FirstMissed_L1 p3 x6 q.1 q.2 = some out) (fun q => q.1) (n, g) h (Wk.refl _) ?_
  clear h
  rintro ⟨fu, v7⟩ h
  cases fu with
  | zero => cases h
  | succ fu =>
    rw [m_spec_FirstMissed_L1] at h
    refine AX.seq ?_
    refine AX.seq ?_
    refine AX.reg (its := []) [1, 5, 6, 18] [0] (s1 := ⟨[(1, .bs false 2 (List.map enc_ii p3)), (5, .sl 0 0 x6.length), (6, .v (.int .i64 v7)), (18, .v (.bool (decide (v7 < (x6.length : Int)))))], [(0, .arr 1 (List.map enc_i x6))]⟩) (C := True) (by kernel_rfl) trivial trivial ?_
    rcases bool_cases (decide (v7 < (x6.length : Int))) with b5 | b5
    · replace h := cd_t b5 h
      refine AX.condT (decide (v7 < (x6.length : Int))) (by kernel_rfl) b5 ?_
      refine AX.skip ?_
      refine AX.seq ?_
      refine AX.block ?_
      refine AX.seq ?_
      obtain ⟨g6, h⟩ := gd_e h
      obtain ⟨x8, e7, h⟩ := bd_e h
      refine AX.reg (its := [.auto {}, .auto {}, .auto {}, .auto {}, .auto { y := some (.v (.int .i64 (gt x6 v7))) }, .call 43 [.bs false 2 (List.map enc_ii p3), .v (.int .i64 (gt x6 v7))] (handO (rho ([] ++ [])) [] [] ++ []) (callEv [] [] (.v (.int .i64 x8)) [])]) [1, 5, 6, 27] [0] (s1 := ⟨[(1, .bs false 2 (List.map enc_ii p3)), (5, .sl 0 0 x6.length), (6, .v (.int .i64 v7)), (27, .v (.bool (decide (x8 < 0))))], [(0, .arr 1 (List.map enc_i x6))]⟩) (C := (0 ≤ v7 ∧ v7 < (x6.length : Int)) ∧ (True ∧ (AV.v (((List.map enc_i x6).getD (0 + v7.toNat) []).getD 0 undef) = .v (.int .i64 (gt x6 v7)))) ∧ ((([.bs false 2 (List.map enc_ii p3), .v (.int .i64 (gt x6 v7))] : List AV) = [.bs false 2 (List.map enc_ii p3), .v (.int .i64 (gt x6 v7))]) ∧ True) ∧ True) (by kernel_rfl) ⟨g6, ⟨⟨trivial, (congrArg (fun z : List Value => AV.v (z.getD 0 undef)) (idx_arr (enc := enc_i) rfl g6))⟩, ⟨⟨rfl, trivial⟩, trivial⟩⟩⟩ ⟨call_ok (ks := []) (ns := []) (bor := []) (bobjs := []) (s_spec_firstArm p3 (gt x6 v7) x8 e7) (.cons (.c1 (.c0 (.same _ (by kernel_rfl) (by kernel_rfl)))) (.cons (.c1 (.c0 (.same _ (by kernel_rfl) (by kernel_rfl)))) (.nil))) (by kernel_rfl) trivial, trivial⟩ ?_
      rcases bool_cases (decide (x8 < 0)) with b8 | b8
      · replace h := cd_t b8 h
        refine AX.condT (decide (x8 < 0)) (by kernel_rfl) b8 ?_
        refine AX.seq ?_
        refine AX.reg (its := [.auto {}, .auto {}, .auto {}, .auto { y := some (.v (.int .i64 (gt x6 v7))) }]) [4] [] (s1 := ⟨[(4, .v (.int .i64 (gt x6 v7)))], []⟩) (C := (0 ≤ v7 ∧ v7 < (x6.length : Int)) ∧ (True ∧ (AV.v (((List.map enc_i x6).getD (0 + v7.toNat) []).getD 0 undef) = .v (.int .i64 (gt x6 v7)))) ∧ True) (by kernel_rfl) ⟨g6, ⟨⟨trivial, (congrArg (fun z : List Value => AV.v (z.getD 0 undef)) (idx_arr (enc := enc_i) rfl g6))⟩, trivial⟩⟩ trivial ?_
        refine AX.ret ?_
        refine fin_wk (Wk.forget [4] [] (s' := ⟨[(4, .v (.int .i64 (gt x6 v7)))], []⟩) (by kernel_rfl)) ?_
        have hr := Option.some.inj h
        subst hr
        exact ⟨_, Wk.refl _, .inl ⟨(gt x6 v7), rfl, rfl, rfl⟩⟩
      · replace h := cd_f b8 h
        refine AX.condF (decide (x8 < 0)) (by kernel_rfl) b8 ?_
        refine AX.skip ?_
        refine AX.reg (its := [.auto {}, .auto { raw := true }]) [1, 5, 6] [0] (s1 := ⟨[(1, .bs false 2 (List.map enc_ii p3)), (5, .sl 0 0 x6.length), (6, .v (.int .i64 (IntKind.wrap .i64 (v7 + 1))))], [(0, .arr 1 (List.map enc_i x6))]⟩) (C := True) (by kernel_rfl) trivial trivial ?_
        refine ⟨(fu, IntKind.wrap .i64 (v7 + 1)), h, Nat.lt_succ_self _, ?_⟩
        refine Wk.trans (Wk.forget [1, 5, 6] [0] (s' := ⟨[(1, .bs false 2 (List.map enc_ii p3)), (5, .sl 0 0 x6.length), (6, .v (.int .i64 (IntKind.wrap .i64 (v7 + 1))))], [(0, .arr 1 (List.map enc_i x6))]⟩) (by kernel_rfl)) ?_
        exact Wk.refl _
    · replace h := cd_f b5 h
      refine AX.condF (decide (v7 < (x6.length : Int))) (by kernel_rfl) b5 ?_
      refine AX.exit ?_
      refine fin_wk (Wk.forget [] [] (s' := ⟨[], []⟩) (by kernel_rfl)) ?_
      have hr := Option.some.inj h
      subst hr
      exact ⟨_, Wk.refl _, .inr ⟨(), rfl, rfl, rfl⟩⟩

theorem s_spec_FirstMissed (p1 : List (ByteArray × Int)) (p2 : Int) (p3 : List (Int × Int)) (r : Int) (h : m_spec_FirstMissed p1 p2 p3 = some r) :
    Eng.Spec Try.prog 9 [.agg [.bs false 2 (List.map enc_si p1), .v (.int .i64 p2)], .bs false 2 (List.map enc_ii p3)] [] (.v (.int .i64 r)) [] := by
  unfold m_spec_FirstMissed at h
  refine Eng.Spec.body Try.func9 (by kernel_rfl) rfl (by kernel_rfl) ?_
  refine AX.wkpost ?_
  refine AX.seq ?_
  refine AX.reg (its := [.auto { nk := 0 }]) [1, 2] [0] (s1 := ⟨[(1, .bs false 2 (List.map enc_ii p3)), (2, .pt 0 0)], [(0, .box [.bs false 2 (List.map enc_si p1), .v (.int .i64 p2)])]⟩) (C := True) (by kernel_rfl) trivial trivial ?_
  refine AX.seq ?_
  refine AX.seq ?_
  obtain ⟨x4, e1, h⟩ := bd_e h
  refine AX.reg (its := [.auto {}, .auto {}, .call 40 [.agg [.bs false 2 (List.map enc_si p1), .v (.int .i64 p2)], .bs false 2 (List.map enc_ii p3)] (handO (rho ([] ++ [])) [] [] ++ []) (callEv [] [] (.v (.bool x4)) [])]) [1, 2, 10] [0] (s1 := ⟨[(1, .bs false 2 (List.map enc_ii p3)), (2, .pt 0 0), (10, .v (.bool (!x4)))], [(0, .box [.bs false 2 (List.map enc_si p1), .v (.int .i64 p2)])]⟩) (C := ((([.agg [.bs false 2 (List.map enc_si p1), .v (.int .i64 p2)], .bs false 2 (List.map enc_ii p3)] : List AV) = [.agg [.bs false 2 (List.map enc_si p1), .v (.int .i64 p2)], .bs false 2 (List.map enc_ii p3)]) ∧ True) ∧ True) (by kernel_rfl) ⟨⟨rfl, trivial⟩, trivial⟩ ⟨call_ok (ks := []) (ns := []) (bor := []) (bobjs := []) (s_spec_validArms p1 p2 p3 x4 e1) (.cons (.c1 (.agg (.cons (.same _ (by kernel_rfl) (by kernel_rfl)) (.cons (.same _ (by kernel_rfl) (by kernel_rfl)) (.nil))))) (.cons (.c1 (.c0 (.same _ (by kernel_rfl) (by kernel_rfl)))) (.nil))) (by kernel_rfl) trivial, trivial⟩ ?_
  rcases bool_cases ((!x4)) with b2 | b2
  · replace h := cd_t b2 h
    refine AX.condT ((!x4)) (by kernel_rfl) b2 ?_
    refine AX.seq ?_
    refine AX.reg (its := []) [4] [] (s1 := ⟨[(4, .v (.int .i64 (-2)))], []⟩) (C := True) (by kernel_rfl) trivial trivial ?_
    refine AX.ret ?_
    refine fin_wk (Wk.forget [4] [] (s' := ⟨[(4, .v (.int .i64 (-2)))], []⟩) (by kernel_rfl)) ?_
    have hr := Option.some.inj h
    subst hr
    exact ⟨_, Wk.refl _, .inr rfl, ⟨[], by kernel_rfl, trivial, [.v (.int .i64 (-2))], by kernel_rfl, by kernel_rfl⟩⟩
  · replace h := cd_f b2 h
    refine AX.condF ((!x4)) (by kernel_rfl) b2 ?_
    refine AX.skip ?_
    refine AX.seq ?_
    obtain ⟨x5, e3, h⟩ := bd_e h
    obtain ⟨x6, e4, h⟩ := bd_e h
    refine AX.reg (its := [.auto {}, .auto {}, .call 42 [.bs false 2 (List.map enc_si p1)] (handO (rho ([] ++ [])) [] [] ++ []) (callEv [] [] (.v (.int .i64 x5)) []), .call 41 [.v (.int .i64 x5)] (handO (rho ([] ++ [1])) [] [] ++ []) (callEv [] [1] (.sl 0 0 x6.length) [.arr 1 (List.map enc_i x6)])]) [1, 5] [1] (s1 := ⟨[(1, .bs false 2 (List.map enc_ii p3)), (5, .sl 1 0 x6.length)], [(1, .arr 1 (List.map enc_i x6))]⟩) (C := ((([.bs false 2 (List.map enc_si p1)] : List AV) = [.bs false 2 (List.map enc_si p1)]) ∧ True) ∧ ((([.v (.int .i64 x5)] : List AV) = [.v (.int .i64 x5)]) ∧ True) ∧ True) (by kernel_rfl) ⟨⟨rfl, trivial⟩, ⟨⟨rfl, trivial⟩, trivial⟩⟩ ⟨call_ok (ks := []) (ns := []) (bor := []) (bobjs := []) (s_spec_mask p1 x5 e3) (.cons (.c1 (.c0 (.same _ (by kernel_rfl) (by kernel_rfl)))) (.nil)) (by kernel_rfl) trivial, ⟨call_ok (ks := []) (ns := [1]) (bor := []) (bobjs := []) (s_spec_partsIn x5 x6 e4) (.cons (.c1 (.c0 (.same _ (by kernel_rfl) (by kernel_rfl)))) (.nil)) (by kernel_rfl) trivial, trivial⟩⟩ ?_
    refine AX.seq ?_
    refine AX.seq ?_
    refine AX.reg (its := []) [1, 5, 6] [1] (s1 := ⟨[(1, .bs false 2 (List.map enc_ii p3)), (5, .sl 1 0 x6.length), (6, .v (.int .i64 0))], [(1, .arr 1 (List.map enc_i x6))]⟩) (C := True) (by kernel_rfl) trivial trivial ?_
    refine AX.block ?_
    obtain ⟨x9, e9, h⟩ := bd_e h
    refine AX.wk (Wk.swap 0 1 (Nat.le_of_ble_eq_true (by kernel_rfl)) (Nat.le_of_ble_eq_true (by kernel_rfl)) rfl) ?_
    refine AX.wk (Wk.forget [1, 5, 6] [0] (s' := ⟨[(1, .bs false 2 (List.map enc_ii p3)), (5, .sl 0 0 x6.length), (6, .v (.int .i64 0))], [(0, .arr 1 (List.map enc_i x6))]⟩) (by kernel_rfl)) ?_
    refine AX.mono (s_spec_FirstMissed_L1 p3 x6 FU 0 x9 e9) ?_
    rintro _ _ (⟨x10, rfl, rfl, rfl⟩ | ⟨x11, rfl, rfl, rfl⟩)
    · replace h := sm_l h
      refine fin_wk (Wk.forget [4] [] (s' := ⟨[(4, .v (.int .i64 x10))], []⟩) (by kernel_rfl)) ?_
      have hr := Option.some.inj h
      subst hr
      exact ⟨_, Wk.refl _, .inr rfl, ⟨[], by kernel_rfl, trivial, [.v (.int .i64 x10)], by kernel_rfl, by kernel_rfl⟩⟩
    · replace h := sm_r h
      refine AX.seq ?_
      refine AX.reg (its := []) [4] [] (s1 := ⟨[(4, .v (.int .i64 (-1)))], []⟩) (C := True) (by kernel_rfl) trivial trivial ?_
      refine AX.ret ?_
      refine fin_wk (Wk.forget [4] [] (s' := ⟨[(4, .v (.int .i64 (-1)))], []⟩) (by kernel_rfl)) ?_
      have hr := Option.some.inj h
      subst hr
      exact ⟨_, Wk.refl _, .inr rfl, ⟨[], by kernel_rfl, trivial, [.v (.int .i64 (-1))], by kernel_rfl, by kernel_rfl⟩⟩

theorem s_impl_MaskOf (p1 : List (ByteArray × Int)) (p2 : Int) (r : Int) (h : m_impl_MaskOf p1 p2 = some r) :
    Eng.Spec Try.prog 11 [.agg [.bs false 2 (List.map enc_si p1), .v (.int .i64 p2)]] [] (.v (.int .i64 r)) [] := by
  unfold m_impl_MaskOf at h
  refine Eng.Spec.body Try.func11 (by kernel_rfl) rfl (by kernel_rfl) ?_
  refine AX.wkpost ?_
  refine AX.seq ?_
  refine AX.reg (its := [.auto { nk := 0 }]) [1] [0] (s1 := ⟨[(1, .pt 0 0)], [(0, .box [.bs false 2 (List.map enc_si p1), .v (.int .i64 p2)])]⟩) (C := True) (by kernel_rfl) trivial trivial ?_
  refine AX.seq ?_
  refine AX.seq ?_
  obtain ⟨x3, e1, h⟩ := bd_e h
  refine AX.reg (its := [.auto {}, .call 20 [.agg [.bs false 2 (List.map enc_si p1), .v (.int .i64 p2)]] (handO (rho ([] ++ [])) [] [] ++ []) (callEv [] [] (.v (.bool x3)) [])]) [1, 5] [0] (s1 := ⟨[(1, .pt 0 0), (5, .v (.bool (!x3)))], [(0, .box [.bs false 2 (List.map enc_si p1), .v (.int .i64 p2)])]⟩) (C := ((([.agg [.bs false 2 (List.map enc_si p1), .v (.int .i64 p2)]] : List AV) = [.agg [.bs false 2 (List.map enc_si p1), .v (.int .i64 p2)]]) ∧ True) ∧ True) (by kernel_rfl) ⟨⟨rfl, trivial⟩, trivial⟩ ⟨call_ok (ks := []) (ns := []) (bor := []) (bobjs := []) (s_impl_ValidFlag p1 p2 x3 e1) (.cons (.c1 (.agg (.cons (.same _ (by kernel_rfl) (by kernel_rfl)) (.cons (.same _ (by kernel_rfl) (by kernel_rfl)) (.nil))))) (.nil)) (by kernel_rfl) trivial, trivial⟩ ?_
  rcases bool_cases ((!x3)) with b2 | b2
  · replace h := cd_t b2 h
    refine AX.condT ((!x3)) (by kernel_rfl) b2 ?_
    refine AX.seq ?_
    refine AX.reg (its := []) [2] [] (s1 := ⟨[(2, .v (.int .i64 (-1)))], []⟩) (C := True) (by kernel_rfl) trivial trivial ?_
    refine AX.ret ?_
    refine fin_wk (Wk.forget [2] [] (s' := ⟨[(2, .v (.int .i64 (-1)))], []⟩) (by kernel_rfl)) ?_
    have hr := Option.some.inj h
    subst hr
    exact ⟨_, Wk.refl _, .inr rfl, ⟨[], by kernel_rfl, trivial, [.v (.int .i64 (-1))], by kernel_rfl, by kernel_rfl⟩⟩
  · replace h := cd_f b2 h
    refine AX.condF ((!x3)) (by kernel_rfl) b2 ?_
    refine AX.skip ?_
    refine AX.seq ?_
    obtain ⟨x4, e3, h⟩ := bd_e h
    refine AX.reg (its := [.auto {}, .call 38 [.agg [.bs false 2 (List.map enc_si p1), .v (.int .i64 p2)]] (handO (rho ([] ++ [])) [] [] ++ []) (callEv [] [] (.v (.int .i64 x4)) [])]) [2] [] (s1 := ⟨[(2, .v (.int .i64 x4))], []⟩) (C := ((([.agg [.bs false 2 (List.map enc_si p1), .v (.int .i64 p2)]] : List AV) = [.agg [.bs false 2 (List.map enc_si p1), .v (.int .i64 p2)]]) ∧ True) ∧ True) (by kernel_rfl) ⟨⟨rfl, trivial⟩, trivial⟩ ⟨call_ok (ks := []) (ns := []) (bor := []) (bobjs := []) (s_impl_Flag_mask p1 p2 x4 e3) (.cons (.c1 (.agg (.cons (.same _ (by kernel_rfl) (by kernel_rfl)) (.cons (.same _ (by kernel_rfl) (by kernel_rfl)) (.nil))))) (.nil)) (by kernel_rfl) trivial, trivial⟩ ?_
    refine AX.ret ?_
    refine fin_wk (Wk.forget [2] [] (s' := ⟨[(2, .v (.int .i64 x4))], []⟩) (by kernel_rfl)) ?_
    have hr := Option.some.inj h
    subst hr
    exact ⟨_, Wk.refl _, .inr rfl, ⟨[], by kernel_rfl, trivial, [.v (.int .i64 x4)], by kernel_rfl, by kernel_rfl⟩⟩

theorem s_impl_IsValue (p1 : List (ByteArray × Int)) (p2 : Int) (p3 : Int) (r : Bool) (h : m_impl_IsValue p1 p2 p3 = some r) :
    Eng.Spec Try.prog 13 [.agg [.bs false 2 (List.map enc_si p1), .v (.int .i64 p2)], .v (.int .i64 p3)] [] (.v (.bool r)) [] := by
  unfold m_impl_IsValue at h
  refine Eng.Spec.body Try.func13 (by kernel_rfl) rfl (by kernel_rfl) ?_
  refine AX.wkpost ?_
  refine AX.seq ?_
  refine AX.reg (its := [.auto { nk := 0 }]) [1, 2] [0] (s1 := ⟨[(1, .v (.int .i64 p3)), (2, .pt 0 0)], [(0, .box [.bs false 2 (List.map enc_si p1), .v (.int .i64 p2)])]⟩) (C := True) (by kernel_rfl) trivial trivial ?_
  refine AX.seq ?_
  obtain ⟨x4, e1, h⟩ := bd_e h
  rcases bool_cases (x4) with b2 | b2
  · replace h := cd_t b2 h
    obtain ⟨x5, e3, h⟩ := bd_e h
    rcases bool_cases (x5) with b4 | b4
    · replace h := cd_t b4 h
      rcases bool_cases (decide (p2 = 3)) with b5 | b5
      · replace h := cd_t b5 h
        refine AX.reg (its := [.auto {}, .call 20 [.agg [.bs false 2 (List.map enc_si p1), .v (.int .i64 p2)]] (handO (rho ([] ++ [])) [] [] ++ []) (callEv [] [] (.v (.bool true)) []), .auto {}, .auto {}, .call 46 [.v (.int .i64 p3), .v (.int .i64 0), .v (.int .i64 4095)] (handO (rho ([] ++ [])) [] [] ++ []) (callEv [] [] (.v (.bool true)) []), .auto {}, .auto {}, .auto {}, .auto {}, .auto { y := some (.v (.bool true)) }]) [4] [] (s1 := ⟨[(4, .v (.bool true))], []⟩) (C := ((([.agg [.bs false 2 (List.map enc_si p1), .v (.int .i64 p2)]] : List AV) = [.agg [.bs false 2 (List.map enc_si p1), .v (.int .i64 p2)]]) ∧ True) ∧ ((([.v (.int .i64 p3), .v (.int .i64 0), .v (.int .i64 4095)] : List AV) = [.v (.int .i64 p3), .v (.int .i64 0), .v (.int .i64 4095)]) ∧ True) ∧ ((True) ∧ ((.v (.bool (decide (p2 = 3))) : AV) = (.v (.bool true) : AV))) ∧ True) (by kernel_rfl) ⟨⟨rfl, trivial⟩, ⟨⟨rfl, trivial⟩, ⟨⟨trivial, (congrArg (fun z => AV.v (.bool z)) b5)⟩, trivial⟩⟩⟩ ⟨call_ok (ks := []) (ns := []) (bor := []) (bobjs := []) (show Eng.Spec Try.prog 20 [.agg [.bs false 2 (List.map enc_si p1), .v (.int .i64 p2)]] [] (.v (.bool true)) [] from by have q := s_impl_ValidFlag p1 p2 x4 e1; rw [b2] at q; exact q) (.cons (.c1 (.agg (.cons (.same _ (by kernel_rfl) (by kernel_rfl)) (.cons (.same _ (by kernel_rfl) (by kernel_rfl)) (.nil))))) (.nil)) (by kernel_rfl) trivial, ⟨call_ok (ks := []) (ns := []) (bor := []) (bobjs := []) (show Eng.Spec Try.prog 46 [.v (.int .i64 p3), .v (.int .i64 0), .v (.int .i64 4095)] [] (.v (.bool true)) [] from by have q := s_impl_in p3 0 4095 x5 e3; rw [b4] at q; exact q) (.cons (.c1 (.c0 (.same _ (by kernel_rfl) (by kernel_rfl)))) (.cons (.c1 (.c0 (.same _ (by kernel_rfl) (by kernel_rfl)))) (.cons (.c1 (.c0 (.same _ (by kernel_rfl) (by kernel_rfl)))) (.nil)))) (by kernel_rfl) trivial, trivial⟩⟩ ?_
        refine AX.ret ?_
        refine fin_wk (Wk.forget [4] [] (s' := ⟨[(4, .v (.bool true))], []⟩) (by kernel_rfl)) ?_
        have hr := Option.some.inj h
        subst hr
        exact ⟨_, Wk.refl _, .inr rfl, ⟨[], by kernel_rfl, trivial, [.v (.bool true)], by kernel_rfl, by kernel_rfl⟩⟩
      · replace h := cd_f b5 h
        obtain ⟨x6, e6, h⟩ := bd_e h
        refine AX.reg (its := [.auto {}, .call 20 [.agg [.bs false 2 (List.map enc_si p1), .v (.int .i64 p2)]] (handO (rho ([] ++ [])) [] [] ++ []) (callEv [] [] (.v (.bool true)) []), .auto {}, .auto {}, .call 46 [.v (.int .i64 p3), .v (.int .i64 0), .v (.int .i64 4095)] (handO (rho ([] ++ [])) [] [] ++ []) (callEv [] [] (.v (.bool true)) []), .auto {}, .auto {}, .auto {}, .auto {}, .auto { y := some (.v (.bool false)) }, .auto {}, .auto {}, .auto {}, .call 38 [.agg [.bs false 2 (List.map enc_si p1), .v (.int .i64 p2)]] (handO (rho ([] ++ [])) [] [] ++ []) (callEv [] [] (.v (.int .i64 x6)) [])]) [4] [] (s1 := ⟨[(4, .v (.bool (decide ((Go.bits .andNot .i64 p3 x6) = 0))))], []⟩) (C := ((([.agg [.bs false 2 (List.map enc_si p1), .v (.int .i64 p2)]] : List AV) = [.agg [.bs false 2 (List.map enc_si p1), .v (.int .i64 p2)]]) ∧ True) ∧ ((([.v (.int .i64 p3), .v (.int .i64 0), .v (.int .i64 4095)] : List AV) = [.v (.int .i64 p3), .v (.int .i64 0), .v (.int .i64 4095)]) ∧ True) ∧ ((True) ∧ ((.v (.bool (decide (p2 = 3))) : AV) = (.v (.bool false) : AV))) ∧ ((([.agg [.bs false 2 (List.map enc_si p1), .v (.int .i64 p2)]] : List AV) = [.agg [.bs false 2 (List.map enc_si p1), .v (.int .i64 p2)]]) ∧ True) ∧ True) (by kernel_rfl) ⟨⟨rfl, trivial⟩, ⟨⟨rfl, trivial⟩, ⟨⟨trivial, (congrArg (fun z => AV.v (.bool z)) b5)⟩, ⟨⟨rfl, trivial⟩, trivial⟩⟩⟩⟩ ⟨call_ok (ks := []) (ns := []) (bor := []) (bobjs := []) (show Eng.Spec Try.prog 20 [.agg [.bs false 2 (List.map enc_si p1), .v (.int .i64 p2)]] [] (.v (.bool true)) [] from by have q := s_impl_ValidFlag p1 p2 x4 e1; rw [b2] at q; exact q) (.cons (.c1 (.agg (.cons (.same _ (by kernel_rfl) (by kernel_rfl)) (.cons (.same _ (by kernel_rfl) (by kernel_rfl)) (.nil))))) (.nil)) (by kernel_rfl) trivial, ⟨call_ok (ks := []) (ns := []) (bor := []) (bobjs := []) (show Eng.Spec Try.prog 46 [.v (.int .i64 p3), .v (.int .i64 0), .v (.int .i64 4095)] [] (.v (.bool true)) [] from by have q := s_impl_in p3 0 4095 x5 e3; rw [b4] at q; exact q) (.cons (.c1 (.c0 (.same _ (by kernel_rfl) (by kernel_rfl)))) (.cons (.c1 (.c0 (.same _ (by kernel_rfl) (by kernel_rfl)))) (.cons (.c1 (.c0 (.same _ (by kernel_rfl) (by kernel_rfl)))) (.nil)))) (by kernel_rfl) trivial, ⟨call_ok (ks := []) (ns := []) (bor := []) (bobjs := []) (s_impl_Flag_mask p1 p2 x6 e6) (.cons (.c1 (.agg (.cons (.same _ (by kernel_rfl) (by kernel_rfl)) (.cons (.same _ (by kernel_rfl) (by kernel_rfl)) (.nil))))) (.nil)) (by kernel_rfl) trivial, trivial⟩⟩⟩ ?_
        refine AX.ret ?_
        refine fin_wk (Wk.forget [4] [] (s' := ⟨[(4, .v (.bool (decide ((Go.bits .andNot .i64 p3 x6) = 0))))], []⟩) (by kernel_rfl)) ?_
        have hr := Option.some.inj h
        subst hr
        exact ⟨_, Wk.refl _, .inr rfl, ⟨[], by kernel_rfl, trivial, [.v (.bool (decide ((Go.bits .andNot .i64 p3 x6) = 0)))], by kernel_rfl, by kernel_rfl⟩⟩
    · replace h := cd_f b4 h
      refine AX.reg (its := [.auto {}, .call 20 [.agg [.bs false 2 (List.map enc_si p1), .v (.int .i64 p2)]] (handO (rho ([] ++ [])) [] [] ++ []) (callEv [] [] (.v (.bool true)) []), .auto {}, .auto {}, .call 46 [.v (.int .i64 p3), .v (.int .i64 0), .v (.int .i64 4095)] (handO (rho ([] ++ [])) [] [] ++ []) (callEv [] [] (.v (.bool false)) [])]) [4] [] (s1 := ⟨[(4, .v (.bool false))], []⟩) (C := ((([.agg [.bs false 2 (List.map enc_si p1), .v (.int .i64 p2)]] : List AV) = [.agg [.bs false 2 (List.map enc_si p1), .v (.int .i64 p2)]]) ∧ True) ∧ ((([.v (.int .i64 p3), .v (.int .i64 0), .v (.int .i64 4095)] : List AV) = [.v (.int .i64 p3), .v (.int .i64 0), .v (.int .i64 4095)]) ∧ True) ∧ True) (by kernel_rfl) ⟨⟨rfl, trivial⟩, ⟨⟨rfl, trivial⟩, trivial⟩⟩ ⟨call_ok (ks := []) (ns := []) (bor := []) (bobjs := []) (show Eng.Spec Try.prog 20 [.agg [.bs false 2 (List.map enc_si p1), .v (.int .i64 p2)]] [] (.v (.bool true)) [] from by have q := s_impl_ValidFlag p1 p2 x4 e1; rw [b2] at q; exact q) (.cons (.c1 (.agg (.cons (.same _ (by kernel_rfl) (by kernel_rfl)) (.cons (.same _ (by kernel_rfl) (by kernel_rfl)) (.nil))))) (.nil)) (by kernel_rfl) trivial, ⟨call_ok (ks := []) (ns := []) (bor := []) (bobjs := []) (show Eng.Spec Try.prog 46 [.v (.int .i64 p3), .v (.int .i64 0), .v (.int .i64 4095)] [] (.v (.bool false)) [] from by have q := s_impl_in p3 0 4095 x5 e3; rw [b4] at q; exact q) (.cons (.c1 (.c0 (.same _ (by kernel_rfl) (by kernel_rfl)))) (.cons (.c1 (.c0 (.same _ (by kernel_rfl) (by kernel_rfl)))) (.cons (.c1 (.c0 (.same _ (by kernel_rfl) (by kernel_rfl)))) (.nil)))) (by kernel_rfl) trivial, trivial⟩⟩ ?_
      refine AX.ret ?_
      refine fin_wk (Wk.forget [4] [] (s' := ⟨[(4, .v (.bool false))], []⟩) (by kernel_rfl)) ?_
      have hr := Option.some.inj h
      subst hr
      exact ⟨_, Wk.refl _, .inr rfl, ⟨[], by kernel_rfl, trivial, [.v (.bool false)], by kernel_rfl, by kernel_rfl⟩⟩
  · replace h := cd_f b2 h
    refine AX.reg (its := [.auto {}, .call 20 [.agg [.bs false 2 (List.map enc_si p1), .v (.int .i64 p2)]] (handO (rho ([] ++ [])) [] [] ++ []) (callEv [] [] (.v (.bool false)) [])]) [4] [] (s1 := ⟨[(4, .v (.bool false))], []⟩) (C := ((([.agg [.bs false 2 (List.map enc_si p1), .v (.int .i64 p2)]] : List AV) = [.agg [.bs false 2 (List.map enc_si p1), .v (.int .i64 p2)]]) ∧ True) ∧ True) (by kernel_rfl) ⟨⟨rfl, trivial⟩, trivial⟩ ⟨call_ok (ks := []) (ns := []) (bor := []) (bobjs := []) (show Eng.Spec Try.prog 20 [.agg [.bs false 2 (List.map enc_si p1), .v (.int .i64 p2)]] [] (.v (.bool false)) [] from by have q := s_impl_ValidFlag p1 p2 x4 e1; rw [b2] at q; exact q) (.cons (.c1 (.agg (.cons (.same _ (by kernel_rfl) (by kernel_rfl)) (.cons (.same _ (by kernel_rfl) (by kernel_rfl)) (.nil))))) (.nil)) (by kernel_rfl) trivial, trivial⟩ ?_
    refine AX.ret ?_
    refine fin_wk (Wk.forget [4] [] (s' := ⟨[(4, .v (.bool false))], []⟩) (by kernel_rfl)) ?_
    have hr := Option.some.inj h
    subst hr
    exact ⟨_, Wk.refl _, .inr rfl, ⟨[], by kernel_rfl, trivial, [.v (.bool false)], by kernel_rfl, by kernel_rfl⟩⟩

theorem s_impl_LessValues_1 (p1 : Int) (p2 : Int) (r : Unit) (h : m_impl_LessValues_1 p1 p2 = some r) :
    Eng.Spec Try.prog 45 [.v (.int .i64 p1), .v (.int .i64 p2)] [] (.v (.int .i64 (Go.bits .andNot .i64 p1 p2))) [] := by
  unfold m_impl_LessValues_1 at h
  refine Eng.Spec.body Try.func45 (by kernel_rfl) rfl (by kernel_rfl) ?_
  refine AX.wkpost ?_
  refine AX.seq ?_
  refine AX.reg (its := []) [0, 1] [] (s1 := ⟨[(0, .v (.int .i64 p1)), (1, .v (.int .i64 p2))], []⟩) (C := True) (by kernel_rfl) trivial trivial ?_
  refine AX.seq ?_
  refine AX.reg (its := []) [4] [] (s1 := ⟨[(4, .v (.int .i64 (Go.bits .andNot .i64 p1 p2)))], []⟩) (C := True) (by kernel_rfl) trivial trivial ?_
  refine AX.ret ?_
  refine fin_wk (Wk.forget [4] [] (s' := ⟨[(4, .v (.int .i64 (Go.bits .andNot .i64 p1 p2)))], []⟩) (by kernel_rfl)) ?_
  have hr := Option.some.inj h
  subst hr
  exact ⟨_, Wk.refl _, .inr rfl, ⟨[], by kernel_rfl, trivial, [.v (.int .i64 (Go.bits .andNot .i64 p1 p2))], by kernel_rfl, by kernel_rfl⟩⟩

theorem s_impl_join_LessValues_1 (p1 : List (ByteArray × Int)) (p2 : Int) (p3 : Int) (p4 : Int) (r : Int) (h : m_impl_join_LessValues_1 p1 p2 p3 p4 = some r) :
    Eng.Spec Try.prog 44 [.agg [.bs false 2 (List.map enc_si p1), .v (.int .i64 p2)], .v (.int .i64 p3), .v (.int .i64 p4), .fn 45 []] [] (.v (.int .i64 r)) [] := by
  unfold m_impl_join_LessValues_1 at h
  refine Eng.Spec.body Try.func44 (by kernel_rfl) rfl (by kernel_rfl) ?_
  refine AX.wkpost ?_
  refine AX.seq ?_
  refine AX.reg (its := [.auto { nk := 0 }]) [1, 2, 3, 4] [0] (s1 := ⟨[(1, .v (.int .i64 p3)), (2, .v (.int .i64 p4)), (3, .fn 45 []), (4, .pt 0 0)], [(0, .box [.bs false 2 (List.map enc_si p1), .v (.int .i64 p2)])]⟩) (C := True) (by kernel_rfl) trivial trivial ?_
  refine AX.seq ?_
  refine AX.seq ?_
  obtain ⟨x5, e1, h⟩ := bd_e h
  rcases bool_cases ((!x5)) with b2 | b2
  · replace h := cd_t b2 h
    refine AX.reg (its := [.auto {}, .auto {}, .call 13 [.agg [.bs false 2 (List.map enc_si p1), .v (.int .i64 p2)], .v (.int .i64 p3)] (handO (rho ([] ++ [])) [] [] ++ []) (callEv [] [] (.v (.bool x5)) []), .auto { y := some (.v (.bool true)) }]) [1, 2, 3, 18] [] (s1 := ⟨[(1, .v (.int .i64 p3)), (2, .v (.int .i64 p4)), (3, .fn 45 []), (18, .v (.bool true))], []⟩) (C := ((([.agg [.bs false 2 (List.map enc_si p1), .v (.int .i64 p2)], .v (.int .i64 p3)] : List AV) = [.agg [.bs false 2 (List.map enc_si p1), .v (.int .i64 p2)], .v (.int .i64 p3)]) ∧ True) ∧ ((True) ∧ ((.v (.bool (!x5)) : AV) = (.v (.bool true) : AV))) ∧ True) (by kernel_rfl) ⟨⟨rfl, trivial⟩, ⟨⟨trivial, (congrArg (fun z => AV.v (.bool z)) b2)⟩, trivial⟩⟩ ⟨call_ok (ks := []) (ns := []) (bor := []) (bobjs := []) (s_impl_IsValue p1 p2 p3 x5 e1) (.cons (.c1 (.agg (.cons (.same _ (by kernel_rfl) (by kernel_rfl)) (.cons (.same _ (by kernel_rfl) (by kernel_rfl)) (.nil))))) (.cons (.c1 (.c0 (.same _ (by kernel_rfl) (by kernel_rfl)))) (.nil))) (by kernel_rfl) trivial, trivial⟩ ?_
    refine AX.cond_true (by kernel_rfl) ?_
    refine AX.seq ?_
    refine AX.reg (its := []) [8] [] (s1 := ⟨[(8, .v (.int .i64 (-1)))], []⟩) (C := True) (by kernel_rfl) trivial trivial ?_
    refine AX.ret ?_
    refine fin_wk (Wk.forget [8] [] (s' := ⟨[(8, .v (.int .i64 (-1)))], []⟩) (by kernel_rfl)) ?_
    have hr := Option.some.inj h
    subst hr
    exact ⟨_, Wk.refl _, .inr rfl, ⟨[], by kernel_rfl, trivial, [.v (.int .i64 (-1))], by kernel_rfl, by kernel_rfl⟩⟩
  · replace h := cd_f b2 h
    obtain ⟨x6, e3, h⟩ := bd_e h
    refine AX.reg (its := [.auto {}, .auto {}, .call 13 [.agg [.bs false 2 (List.map enc_si p1), .v (.int .i64 p2)], .v (.int .i64 p3)] (handO (rho ([] ++ [])) [] [] ++ []) (callEv [] [] (.v (.bool x5)) []), .auto { y := some (.v (.bool false)) }, .auto {}, .auto {}, .auto {}, .call 13 [.agg [.bs false 2 (List.map enc_si p1), .v (.int .i64 p2)], .v (.int .i64 p4)] (handO (rho ([] ++ [])) [] [] ++ []) (callEv [] [] (.v (.bool x6)) [])]) [1, 2, 3, 18] [] (s1 := ⟨[(1, .v (.int .i64 p3)), (2, .v (.int .i64 p4)), (3, .fn 45 []), (18, .v (.bool (!x6)))], []⟩) (C := ((([.agg [.bs false 2 (List.map enc_si p1), .v (.int .i64 p2)], .v (.int .i64 p3)] : List AV) = [.agg [.bs false 2 (List.map enc_si p1), .v (.int .i64 p2)], .v (.int .i64 p3)]) ∧ True) ∧ ((True) ∧ ((.v (.bool (!x5)) : AV) = (.v (.bool false) : AV))) ∧ ((([.agg [.bs false 2 (List.map enc_si p1), .v (.int .i64 p2)], .v (.int .i64 p4)] : List AV) = [.agg [.bs false 2 (List.map enc_si p1), .v (.int .i64 p2)], .v (.int .i64 p4)]) ∧ True) ∧ True) (by kernel_rfl) ⟨⟨rfl, trivial⟩, ⟨⟨trivial, (congrArg (fun z => AV.v (.bool z)) b2)⟩, ⟨⟨rfl, trivial⟩, trivial⟩⟩⟩ ⟨call_ok (ks := []) (ns := []) (bor := []) (bobjs := []) (s_impl_IsValue p1 p2 p3 x5 e1) (.cons (.c1 (.agg (.cons (.same _ (by kernel_rfl) (by kernel_rfl)) (.cons (.same _ (by kernel_rfl) (by kernel_rfl)) (.nil))))) (.cons (.c1 (.c0 (.same _ (by kernel_rfl) (by kernel_rfl)))) (.nil))) (by kernel_rfl) trivial, ⟨call_ok (ks := []) (ns := []) (bor := []) (bobjs := []) (s_impl_IsValue p1 p2 p4 x6 e3) (.cons (.c1 (.agg (.cons (.same _ (by kernel_rfl) (by kernel_rfl)) (.cons (.same _ (by kernel_rfl) (by kernel_rfl)) (.nil))))) (.cons (.c1 (.c0 (.same _ (by kernel_rfl) (by kernel_rfl)))) (.nil))) (by kernel_rfl) trivial, trivial⟩⟩ ?_
    rcases bool_cases ((!x6)) with b4 | b4
    · replace h := cd_t b4 h
      refine AX.condT ((!x6)) (by kernel_rfl) b4 ?_
      refine AX.seq ?_
      refine AX.reg (its := []) [8] [] (s1 := ⟨[(8, .v (.int .i64 (-1)))], []⟩) (C := True) (by kernel_rfl) trivial trivial ?_
      refine AX.ret ?_
      refine fin_wk (Wk.forget [8] [] (s' := ⟨[(8, .v (.int .i64 (-1)))], []⟩) (by kernel_rfl)) ?_
      have hr := Option.some.inj h
      subst hr
      exact ⟨_, Wk.refl _, .inr rfl, ⟨[], by kernel_rfl, trivial, [.v (.int .i64 (-1))], by kernel_rfl, by kernel_rfl⟩⟩
    · replace h := cd_f b4 h
      refine AX.condF ((!x6)) (by kernel_rfl) b4 ?_
      refine AX.skip ?_
      refine AX.seq ?_
      obtain ⟨x7, e5, h⟩ := bd_e h
      refine AX.reg (its := [.auto {}, .auto {}, .auto {}, .call 45 [.v (.int .i64 p3), .v (.int .i64 p4)] (handO (rho ([] ++ [])) [] [] ++ []) (callEv [] [] (.v (.int .i64 (Go.bits .andNot .i64 p3 p4))) [])]) [8] [] (s1 := ⟨[(8, .v (.int .i64 (Go.bits .andNot .i64 p3 p4)))], []⟩) (C := ((([.v (.int .i64 p3), .v (.int .i64 p4)] : List AV) = [.v (.int .i64 p3), .v (.int .i64 p4)]) ∧ True) ∧ True) (by kernel_rfl) ⟨⟨rfl, trivial⟩, trivial⟩ ⟨call_ok (ks := []) (ns := []) (bor := []) (bobjs := []) (s_impl_LessValues_1 p3 p4 x7 e5) (.cons (.c1 (.c0 (.same _ (by kernel_rfl) (by kernel_rfl)))) (.cons (.c1 (.c0 (.same _ (by kernel_rfl) (by kernel_rfl)))) (.nil))) (by kernel_rfl) trivial, trivial⟩ ?_
      refine AX.ret ?_
      refine fin_wk (Wk.forget [8] [] (s' := ⟨[(8, .v (.int .i64 (Go.bits .andNot .i64 p3 p4)))], []⟩) (by kernel_rfl)) ?_
      have hr := Option.some.inj h
      subst hr
      exact ⟨_, Wk.refl _, .inr rfl, ⟨[], by kernel_rfl, trivial, [.v (.int .i64 (Go.bits .andNot .i64 p3 p4))], by kernel_rfl, by kernel_rfl⟩⟩

theorem s_impl_LessValues (p1 : List (ByteArray × Int)) (p2 : Int) (p3 : Int) (p4 : Int) (r : Int) (h : m_impl_LessValues p1 p2 p3 p4 = some r) :
    Eng.Spec Try.prog 10 [.agg [.bs false 2 (List.map enc_si p1), .v (.int .i64 p2)], .v (.int .i64 p3), .v (.int .i64 p4)] [] (.v (.int .i64 r)) [] := by
  unfold m_impl_LessValues at h
  refine Eng.Spec.body Try.func10 (by kernel_rfl) rfl (by kernel_rfl) ?_
  refine AX.wkpost ?_
  refine AX.seq ?_
  refine AX.reg (its := [.auto { nk := 0 }]) [1, 2, 3] [0] (s1 := ⟨[(1, .v (.int .i64 p3)), (2, .v (.int .i64 p4)), (3, .pt 0 0)], [(0, .box [.bs false 2 (List.map enc_si p1), .v (.int .i64 p2)])]⟩) (C := True) (by kernel_rfl) trivial trivial ?_
  refine AX.seq ?_
  obtain ⟨x5, e1, h⟩ := bd_e h
  refine AX.reg (its := [.auto {}, .auto {}, .auto {}, .call 44 [.agg [.bs false 2 (List.map enc_si p1), .v (.int .i64 p2)], .v (.int .i64 p3), .v (.int .i64 p4), .fn 45 []] (handO (rho ([] ++ [])) [] [] ++ []) (callEv [] [] (.v (.int .i64 x5)) [])]) [6] [] (s1 := ⟨[(6, .v (.int .i64 x5))], []⟩) (C := ((([.agg [.bs false 2 (List.map enc_si p1), .v (.int .i64 p2)], .v (.int .i64 p3), .v (.int .i64 p4), .fn 45 []] : List AV) = [.agg [.bs false 2 (List.map enc_si p1), .v (.int .i64 p2)], .v (.int .i64 p3), .v (.int .i64 p4), .fn 45 []]) ∧ True) ∧ True) (by kernel_rfl) ⟨⟨rfl, trivial⟩, trivial⟩ ⟨call_ok (ks := []) (ns := []) (bor := []) (bobjs := []) (s_impl_join_LessValues_1 p1 p2 p3 p4 x5 e1) (.cons (.c1 (.agg (.cons (.same _ (by kernel_rfl) (by kernel_rfl)) (.cons (.same _ (by kernel_rfl) (by kernel_rfl)) (.nil))))) (.cons (.c1 (.c0 (.same _ (by kernel_rfl) (by kernel_rfl)))) (.cons (.c1 (.c0 (.same _ (by kernel_rfl) (by kernel_rfl)))) (.cons (.fn (.nil)) (.nil))))) (by kernel_rfl) trivial, trivial⟩ ?_
  refine AX.ret ?_
  refine fin_wk (Wk.forget [6] [] (s' := ⟨[(6, .v (.int .i64 x5))], []⟩) (by kernel_rfl)) ?_
  have hr := Option.some.inj h
  subst hr
  exact ⟨_, Wk.refl _, .inr rfl, ⟨[], by kernel_rfl, trivial, [.v (.int .i64 x5)], by kernel_rfl, by kernel_rfl⟩⟩

theorem s_impl_FirstArm (p1 : List (ByteArray × Int)) (p2 : Int) (p3 : List (Int × Int)) (p4 : Int) (r : Int) (h : m_impl_FirstArm p1 p2 p3 p4 = some r) :
    Eng.Spec Try.prog 12 [.agg [.bs false 2 (List.map enc_si p1), .v (.int .i64 p2)], .bs false 2 (List.map enc_ii p3), .v (.int .i64 p4)] [] (.v (.int .i64 r)) [] := by
  unfold m_impl_FirstArm at h
  refine Eng.Spec.body Try.func12 (by kernel_rfl) rfl (by kernel_rfl) ?_
  refine AX.wkpost ?_
  refine AX.seq ?_
  refine AX.reg (its := [.auto { nk := 0 }]) [1, 2, 3] [0] (s1 := ⟨[(1, .bs false 2 (List.map enc_ii p3)), (2, .v (.int .i64 p4)), (3, .pt 0 0)], [(0, .box [.bs false 2 (List.map enc_si p1), .v (.int .i64 p2)])]⟩) (C := True) (by kernel_rfl) trivial trivial ?_
  refine AX.seq ?_
  refine AX.seq ?_
  obtain ⟨x5, e1, h⟩ := bd_e h
  rcases bool_cases ((!x5)) with b2 | b2
  · replace h := cd_t b2 h
    refine AX.reg (its := [.auto {}, .auto {}, .call 36 [.agg [.bs false 2 (List.map enc_si p1), .v (.int .i64 p2)], .bs false 2 (List.map enc_ii p3)] (handO (rho ([] ++ [])) [] [] ++ []) (callEv [] [] (.v (.bool x5)) []), .auto { y := some (.v (.bool true)) }]) [1, 2, 16] [] (s1 := ⟨[(1, .bs false 2 (List.map enc_ii p3)), (2, .v (.int .i64 p4)), (16, .v (.bool true))], []⟩) (C := ((([.agg [.bs false 2 (List.map enc_si p1), .v (.int .i64 p2)], .bs false 2 (List.map enc_ii p3)] : List AV) = [.agg [.bs false 2 (List.map enc_si p1), .v (.int .i64 p2)], .bs false 2 (List.map enc_ii p3)]) ∧ True) ∧ ((True) ∧ ((.v (.bool (!x5)) : AV) = (.v (.bool true) : AV))) ∧ True) (by kernel_rfl) ⟨⟨rfl, trivial⟩, ⟨⟨trivial, (congrArg (fun z => AV.v (.bool z)) b2)⟩, trivial⟩⟩ ⟨call_ok (ks := []) (ns := []) (bor := []) (bobjs := []) (s_impl_armsOk p1 p2 p3 x5 e1) (.cons (.c1 (.agg (.cons (.same _ (by kernel_rfl) (by kernel_rfl)) (.cons (.same _ (by kernel_rfl) (by kernel_rfl)) (.nil))))) (.cons (.c1 (.c0 (.same _ (by kernel_rfl) (by kernel_rfl)))) (.nil))) (by kernel_rfl) trivial, trivial⟩ ?_
    refine AX.cond_true (by kernel_rfl) ?_
    refine AX.seq ?_
    refine AX.reg (its := []) [6] [] (s1 := ⟨[(6, .v (.int .i64 (-2)))], []⟩) (C := True) (by kernel_rfl) trivial trivial ?_
    refine AX.ret ?_
    refine fin_wk (Wk.forget [6] [] (s' := ⟨[(6, .v (.int .i64 (-2)))], []⟩) (by kernel_rfl)) ?_
    have hr := Option.some.inj h
    subst hr
    exact ⟨_, Wk.refl _, .inr rfl, ⟨[], by kernel_rfl, trivial, [.v (.int .i64 (-2))], by kernel_rfl, by kernel_rfl⟩⟩
  · replace h := cd_f b2 h
    obtain ⟨x6, e3, h⟩ := bd_e h
    refine AX.reg (its := [.auto {}, .auto {}, .call 36 [.agg [.bs false 2 (List.map enc_si p1), .v (.int .i64 p2)], .bs false 2 (List.map enc_ii p3)] (handO (rho ([] ++ [])) [] [] ++ []) (callEv [] [] (.v (.bool x5)) []), .auto { y := some (.v (.bool false)) }, .auto {}, .auto {}, .auto {}, .call 13 [.agg [.bs false 2 (List.map enc_si p1), .v (.int .i64 p2)], .v (.int .i64 p4)] (handO (rho ([] ++ [])) [] [] ++ []) (callEv [] [] (.v (.bool x6)) [])]) [1, 2, 16] [] (s1 := ⟨[(1, .bs false 2 (List.map enc_ii p3)), (2, .v (.int .i64 p4)), (16, .v (.bool (!x6)))], []⟩) (C := ((([.agg [.bs false 2 (List.map enc_si p1), .v (.int .i64 p2)], .bs false 2 (List.map enc_ii p3)] : List AV) = [.agg [.bs false 2 (List.map enc_si p1), .v (.int .i64 p2)], .bs false 2 (List.map enc_ii p3)]) ∧ True) ∧ ((True) ∧ ((.v (.bool (!x5)) : AV) = (.v (.bool false) : AV))) ∧ ((([.agg [.bs false 2 (List.map enc_si p1), .v (.int .i64 p2)], .v (.int .i64 p4)] : List AV) = [.agg [.bs false 2 (List.map enc_si p1), .v (.int .i64 p2)], .v (.int .i64 p4)]) ∧ True) ∧ True) (by kernel_rfl) ⟨⟨rfl, trivial⟩, ⟨⟨trivial, (congrArg (fun z => AV.v (.bool z)) b2)⟩, ⟨⟨rfl, trivial⟩, trivial⟩⟩⟩ ⟨call_ok (ks := []) (ns := []) (bor := []) (bobjs := []) (s_impl_armsOk p1 p2 p3 x5 e1) (.cons (.c1 (.agg (.cons (.same _ (by kernel_rfl) (by kernel_rfl)) (.cons (.same _ (by kernel_rfl) (by kernel_rfl)) (.nil))))) (.cons (.c1 (.c0 (.same _ (by kernel_rfl) (by kernel_rfl)))) (.nil))) (by kernel_rfl) trivial, ⟨call_ok (ks := []) (ns := []) (bor := []) (bobjs := []) (s_impl_IsValue p1 p2 p4 x6 e3) (.cons (.c1 (.agg (.cons (.same _ (by kernel_rfl) (by kernel_rfl)) (.cons (.same _ (by kernel_rfl) (by kernel_rfl)) (.nil))))) (.cons (.c1 (.c0 (.same _ (by kernel_rfl) (by kernel_rfl)))) (.nil))) (by kernel_rfl) trivial, trivial⟩⟩ ?_
    rcases bool_cases ((!x6)) with b4 | b4
    · replace h := cd_t b4 h
      refine AX.condT ((!x6)) (by kernel_rfl) b4 ?_
      refine AX.seq ?_
      refine AX.reg (its := []) [6] [] (s1 := ⟨[(6, .v (.int .i64 (-2)))], []⟩) (C := True) (by kernel_rfl) trivial trivial ?_
      refine AX.ret ?_
      refine fin_wk (Wk.forget [6] [] (s' := ⟨[(6, .v (.int .i64 (-2)))], []⟩) (by kernel_rfl)) ?_
      have hr := Option.some.inj h
      subst hr
      exact ⟨_, Wk.refl _, .inr rfl, ⟨[], by kernel_rfl, trivial, [.v (.int .i64 (-2))], by kernel_rfl, by kernel_rfl⟩⟩
    · replace h := cd_f b4 h
      refine AX.condF ((!x6)) (by kernel_rfl) b4 ?_
      refine AX.skip ?_
      refine AX.seq ?_
      obtain ⟨x7, e5, h⟩ := bd_e h
      refine AX.reg (its := [.auto {}, .auto {}, .call 39 [.bs false 2 (List.map enc_ii p3), .v (.int .i64 p4)] (handO (rho ([] ++ [])) [] [] ++ []) (callEv [] [] (.v (.int .i64 x7)) [])]) [6] [] (s1 := ⟨[(6, .v (.int .i64 x7))], []⟩) (C := ((([.bs false 2 (List.map enc_ii p3), .v (.int .i64 p4)] : List AV) = [.bs false 2 (List.map enc_ii p3), .v (.int .i64 p4)]) ∧ True) ∧ True) (by kernel_rfl) ⟨⟨rfl, trivial⟩, trivial⟩ ⟨call_ok (ks := []) (ns := []) (bor := []) (bobjs := []) (s_impl_first p3 p4 x7 e5) (.cons (.c1 (.c0 (.same _ (by kernel_rfl) (by kernel_rfl)))) (.cons (.c1 (.c0 (.same _ (by kernel_rfl) (by kernel_rfl)))) (.nil))) (by kernel_rfl) trivial, trivial⟩ ?_
      refine AX.ret ?_
      refine fin_wk (Wk.forget [6] [] (s' := ⟨[(6, .v (.int .i64 x7))], []⟩) (by kernel_rfl)) ?_
      have hr := Option.some.inj h
      subst hr
      exact ⟨_, Wk.refl _, .inr rfl, ⟨[], by kernel_rfl, trivial, [.v (.int .i64 x7)], by kernel_rfl, by kernel_rfl⟩⟩

theorem s_laws_FnFirstMissed (p1 : List (Int)) (r : Bool) (h : m_laws_FnFirstMissed p1 = some r) :
    Eng.Spec Try.prog 3 [.bs true 1 (List.map enc_y p1)] [] (.v (.bool r)) [] := by
  unfold m_laws_FnFirstMissed at h
  refine Eng.Spec.body Try.func3 (by kernel_rfl) rfl (by kernel_rfl) ?_
  refine AX.wkpost ?_
  refine AX.seq ?_
  refine AX.reg (its := []) [0] [] (s1 := ⟨[(0, .bs true 1 (List.map enc_y p1))], []⟩) (C := True) (by kernel_rfl) trivial trivial ?_
  refine AX.seq ?_
  refine AX.seq ?_
  refine AX.reg (its := [.auto {}, .auto { y := some (.v (.int .i64 (p1.length : Int))) }]) [0, 10] [] (s1 := ⟨[(0, .bs true 1 (List.map enc_y p1)), (10, .v (.bool (decide (1048576 < (p1.length : Int)))))], []⟩) (C := (True ∧ (AV.v (.int .i64 ((List.map enc_y p1).length : Int)) = AV.v (.int .i64 (p1.length : Int)))) ∧ True) (by kernel_rfl) ⟨⟨trivial, len_map enc_y p1⟩, trivial⟩ trivial ?_
  rcases bool_cases (decide (1048576 < (p1.length : Int))) with b1 | b1
  · replace h := cd_t b1 h
    refine AX.condT (decide (1048576 < (p1.length : Int))) (by kernel_rfl) b1 ?_
    refine AX.seq ?_
    refine AX.reg (its := []) [2] [] (s1 := ⟨[(2, .v (.bool true))], []⟩) (C := True) (by kernel_rfl) trivial trivial ?_
    refine AX.ret ?_
    refine fin_wk (Wk.forget [2] [] (s' := ⟨[(2, .v (.bool true))], []⟩) (by kernel_rfl)) ?_
    have hr := Option.some.inj h
    subst hr
    exact ⟨_, Wk.refl _, .inr rfl, ⟨[], by kernel_rfl, trivial, [.v (.bool true)], by kernel_rfl, by kernel_rfl⟩⟩
  · replace h := cd_f b1 h
    refine AX.condF (decide (1048576 < (p1.length : Int))) (by kernel_rfl) b1 ?_
    refine AX.skip ?_
    refine AX.seq ?_
    obtain ⟨x2, e2, h⟩ := bd_e h
    refine AX.reg (its := [.auto {}, .call 7 [.bs true 1 (List.map enc_y p1)] (handO (rho ([] ++ [0, 1])) [] [] ++ []) (callEv [] [0, 1] (.tup [.agg [.sl 0 0 x2.1.length, .v (.int .i64 x2.2.1)], .sl 1 0 x2.2.2.length]) [.arr 2 (List.map enc_si x2.1), .arr 2 (List.map enc_ii x2.2.2)]), .auto {}, .auto {}, .auto {}, .auto { nk := 2 }]) [3, 4] [0, 1, 2] (s1 := ⟨[(3, .pt 2 0), (4, .sl 1 0 x2.2.2.length)], [(0, .arr 2 (List.map enc_si x2.1)), (1, .arr 2 (List.map enc_ii x2.2.2)), (2, .box [.sl 0 0 x2.1.length, .v (.int .i64 x2.2.1)])]⟩) (C := ((([.bs true 1 (List.map enc_y p1)] : List AV) = [.bs true 1 (List.map enc_y p1)]) ∧ True) ∧ True) (by kernel_rfl) ⟨⟨rfl, trivial⟩, trivial⟩ ⟨call_ok (ks := []) (ns := [0, 1]) (bor := []) (bobjs := []) (s_spec_DrawFirstMissed p1 x2 e2) (.cons (.c1 (.c0 (.same _ (by kernel_rfl) (by kernel_rfl)))) (.nil)) (by kernel_rfl) trivial, trivial⟩ ?_
    refine AX.seq ?_
    obtain ⟨x3, e3, h⟩ := bd_e h
    refine AX.reg (its := [.auto {}, .auto {}, .call 8 [.agg [.sl 0 0 x2.1.length, .v (.int .i64 x2.2.1)], .sl 1 0 x2.2.2.length] (handO (rho ([] ++ [])) [] [] ++ [(0, .arr 2 (List.map enc_si x2.1)), (1, .arr 2 (List.map enc_ii x2.2.2))]) (callEv [] [] (.v (.int .i64 x3)) [])]) [3, 4, 5] [0, 1, 2] (s1 := ⟨[(3, .pt 2 0), (4, .sl 1 0 x2.2.2.length), (5, .v (.int .i64 x3))], [(0, .arr 2 (List.map enc_si x2.1)), (1, .arr 2 (List.map enc_ii x2.2.2)), (2, .box [.sl 0 0 x2.1.length, .v (.int .i64 x2.2.1)])]⟩) (C := ((([.agg [.sl 0 0 x2.1.length, .v (.int .i64 x2.2.1)], .sl 1 0 x2.2.2.length] : List AV) = [.agg [.sl 0 0 x2.1.length, .v (.int .i64 x2.2.1)], .sl 1 0 x2.2.2.length]) ∧ (AO.arr 2 (List.map enc_si x2.1) = AO.arr 2 (List.map enc_si x2.1)) ∧ (AO.arr 2 (List.map enc_ii x2.2.2) = AO.arr 2 (List.map enc_ii x2.2.2)) ∧ True) ∧ True) (by kernel_rfl) ⟨⟨rfl, rfl, rfl, trivial⟩, trivial⟩ ⟨call_ok (ks := []) (ns := []) (bor := [0, 1]) (bobjs := [(0, .arr 2 (List.map enc_si x2.1)), (1, .arr 2 (List.map enc_ii x2.2.2))]) (s_impl_FirstMissed x2.1 x2.2.1 x2.2.2 x3 e3) (.cons (.c1 (.agg (.cons (.arr rfl rfl ((rfl).trans (List.length_map ..).symm)) (.cons (.same _ (by kernel_rfl) (by kernel_rfl)) (.nil))))) (.cons (.c1 (.c0 (.arr rfl rfl ((rfl).trans (List.length_map ..).symm)))) (.nil))) (by kernel_rfl) trivial, trivial⟩ ?_
    refine AX.seq ?_
    refine AX.seq ?_
    obtain ⟨x4, e4, h⟩ := bd_e h
    rcases bool_cases ((!decide (x3 = x4))) with b5 | b5
    · replace h := cd_t b5 h
      refine AX.reg (its := [.auto {}, .auto {}, .auto {}, .call 9 [.agg [.sl 0 0 x2.1.length, .v (.int .i64 x2.2.1)], .sl 1 0 x2.2.2.length] (handO (rho ([] ++ [])) [] [] ++ [(0, .arr 2 (List.map enc_si x2.1)), (1, .arr 2 (List.map enc_ii x2.2.2))]) (callEv [] [] (.v (.int .i64 x4)) []), .auto { y := some (.v (.bool true)) }]) [3, 4, 5, 32] [0, 1, 2] (s1 := ⟨[(3, .pt 2 0), (4, .sl 1 0 x2.2.2.length), (5, .v (.int .i64 x3)), (32, .v (.bool true))], [(0, .arr 2 (List.map enc_si x2.1)), (1, .arr 2 (List.map enc_ii x2.2.2)), (2, .box [.sl 0 0 x2.1.length, .v (.int .i64 x2.2.1)])]⟩) (C := ((([.agg [.sl 0 0 x2.1.length, .v (.int .i64 x2.2.1)], .sl 1 0 x2.2.2.length] : List AV) = [.agg [.sl 0 0 x2.1.length, .v (.int .i64 x2.2.1)], .sl 1 0 x2.2.2.length]) ∧ (AO.arr 2 (List.map enc_si x2.1) = AO.arr 2 (List.map enc_si x2.1)) ∧ (AO.arr 2 (List.map enc_ii x2.2.2) = AO.arr 2 (List.map enc_ii x2.2.2)) ∧ True) ∧ ((True) ∧ ((.v (.bool (!decide (x3 = x4))) : AV) = (.v (.bool true) : AV))) ∧ True) (by kernel_rfl) ⟨⟨rfl, rfl, rfl, trivial⟩, ⟨⟨trivial, (congrArg (fun z => AV.v (.bool z)) b5)⟩, trivial⟩⟩ ⟨call_ok (ks := []) (ns := []) (bor := [0, 1]) (bobjs := [(0, .arr 2 (List.map enc_si x2.1)), (1, .arr 2 (List.map enc_ii x2.2.2))]) (s_spec_FirstMissed x2.1 x2.2.1 x2.2.2 x4 e4) (.cons (.c1 (.agg (.cons (.arr rfl rfl ((rfl).trans (List.length_map ..).symm)) (.cons (.same _ (by kernel_rfl) (by kernel_rfl)) (.nil))))) (.cons (.c1 (.c0 (.arr rfl rfl ((rfl).trans (List.length_map ..).symm)))) (.nil))) (by kernel_rfl) trivial, trivial⟩ ?_
      refine AX.cond_true (by kernel_rfl) ?_
      refine AX.seq ?_
      obtain ⟨x5, e6, h⟩ := bd_e h
      refine AX.reg (its := [.auto {}, .auto {}, .auto {}, .call 9 [.agg [.sl 0 0 x2.1.length, .v (.int .i64 x2.2.1)], .sl 1 0 x2.2.2.length] (handO (rho ([] ++ [])) [] [] ++ [(0, .arr 2 (List.map enc_si x2.1)), (1, .arr 2 (List.map enc_ii x2.2.2))]) (callEv [] [] (.v (.int .i64 x5)) [])]) [2] [] (s1 := ⟨[(2, .v (.bool (decide (x3 = x5))))], []⟩) (C := ((([.agg [.sl 0 0 x2.1.length, .v (.int .i64 x2.2.1)], .sl 1 0 x2.2.2.length] : List AV) = [.agg [.sl 0 0 x2.1.length, .v (.int .i64 x2.2.1)], .sl 1 0 x2.2.2.length]) ∧ (AO.arr 2 (List.map enc_si x2.1) = AO.arr 2 (List.map enc_si x2.1)) ∧ (AO.arr 2 (List.map enc_ii x2.2.2) = AO.arr 2 (List.map enc_ii x2.2.2)) ∧ True) ∧ True) (by kernel_rfl) ⟨⟨rfl, rfl, rfl, trivial⟩, trivial⟩ ⟨call_ok (ks := []) (ns := []) (bor := [0, 1]) (bobjs := [(0, .arr 2 (List.map enc_si x2.1)), (1, .arr 2 (List.map enc_ii x2.2.2))]) (s_spec_FirstMissed x2.1 x2.2.1 x2.2.2 x5 e6) (.cons (.c1 (.agg (.cons (.arr rfl rfl ((rfl).trans (List.length_map ..).symm)) (.cons (.same _ (by kernel_rfl) (by kernel_rfl)) (.nil))))) (.cons (.c1 (.c0 (.arr rfl rfl ((rfl).trans (List.length_map ..).symm)))) (.nil))) (by kernel_rfl) trivial, trivial⟩ ?_
      refine AX.ret ?_
      refine fin_wk (Wk.forget [2] [] (s' := ⟨[(2, .v (.bool (decide (x3 = x5))))], []⟩) (by kernel_rfl)) ?_
      have hr := Option.some.inj h
      subst hr
      exact ⟨_, Wk.refl _, .inr rfl, ⟨[], by kernel_rfl, trivial, [.v (.bool (decide (x3 = x5)))], by kernel_rfl, by kernel_rfl⟩⟩
    · replace h := cd_f b5 h
      rcases bool_cases (decide (x3 < 0)) with b7 | b7
      · replace h := cd_t b7 h
        refine AX.reg (its := [.auto {}, .auto {}, .auto {}, .call 9 [.agg [.sl 0 0 x2.1.length, .v (.int .i64 x2.2.1)], .sl 1 0 x2.2.2.length] (handO (rho ([] ++ [])) [] [] ++ [(0, .arr 2 (List.map enc_si x2.1)), (1, .arr 2 (List.map enc_ii x2.2.2))]) (callEv [] [] (.v (.int .i64 x4)) []), .auto { y := some (.v (.bool false)) }, .auto {}, .auto {}, .auto { y := some (.v (.bool true)) }]) [3, 4, 5, 32] [0, 1, 2] (s1 := ⟨[(3, .pt 2 0), (4, .sl 1 0 x2.2.2.length), (5, .v (.int .i64 x3)), (32, .v (.bool true))], [(0, .arr 2 (List.map enc_si x2.1)), (1, .arr 2 (List.map enc_ii x2.2.2)), (2, .box [.sl 0 0 x2.1.length, .v (.int .i64 x2.2.1)])]⟩) (C := ((([.agg [.sl 0 0 x2.1.length, .v (.int .i64 x2.2.1)], .sl 1 0 x2.2.2.length] : List AV) = [.agg [.sl 0 0 x2.1.length, .v (.int .i64 x2.2.1)], .sl 1 0 x2.2.2.length]) ∧ (AO.arr 2 (List.map enc_si x2.1) = AO.arr 2 (List.map enc_si x2.1)) ∧ (AO.arr 2 (List.map enc_ii x2.2.2) = AO.arr 2 (List.map enc_ii x2.2.2)) ∧ True) ∧ ((True) ∧ ((.v (.bool (!decide (x3 = x4))) : AV) = (.v (.bool false) : AV))) ∧ ((True) ∧ ((.v (.bool (decide (x3 < 0))) : AV) = (.v (.bool true) : AV))) ∧ True) (by kernel_rfl) ⟨⟨rfl, rfl, rfl, trivial⟩, ⟨⟨trivial, (congrArg (fun z => AV.v (.bool z)) b5)⟩, ⟨⟨trivial, (congrArg (fun z => AV.v (.bool z)) b7)⟩, trivial⟩⟩⟩ ⟨call_ok (ks := []) (ns := []) (bor := [0, 1]) (bobjs := [(0, .arr 2 (List.map enc_si x2.1)), (1, .arr 2 (List.map enc_ii x2.2.2))]) (s_spec_FirstMissed x2.1 x2.2.1 x2.2.2 x4 e4) (.cons (.c1 (.agg (.cons (.arr rfl rfl ((rfl).trans (List.length_map ..).symm)) (.cons (.same _ (by kernel_rfl) (by kernel_rfl)) (.nil))))) (.cons (.c1 (.c0 (.arr rfl rfl ((rfl).trans (List.length_map ..).symm)))) (.nil))) (by kernel_rfl) trivial, trivial⟩ ?_
        refine AX.cond_true (by kernel_rfl) ?_
        refine AX.seq ?_
        obtain ⟨x6, e8, h⟩ := bd_e h
        refine AX.reg (its := [.auto {}, .auto {}, .auto {}, .call 9 [.agg [.sl 0 0 x2.1.length, .v (.int .i64 x2.2.1)], .sl 1 0 x2.2.2.length] (handO (rho ([] ++ [])) [] [] ++ [(0, .arr 2 (List.map enc_si x2.1)), (1, .arr 2 (List.map enc_ii x2.2.2))]) (callEv [] [] (.v (.int .i64 x6)) [])]) [2] [] (s1 := ⟨[(2, .v (.bool (decide (x3 = x6))))], []⟩) (C := ((([.agg [.sl 0 0 x2.1.length, .v (.int .i64 x2.2.1)], .sl 1 0 x2.2.2.length] : List AV) = [.agg [.sl 0 0 x2.1.length, .v (.int .i64 x2.2.1)], .sl 1 0 x2.2.2.length]) ∧ (AO.arr 2 (List.map enc_si x2.1) = AO.arr 2 (List.map enc_si x2.1)) ∧ (AO.arr 2 (List.map enc_ii x2.2.2) = AO.arr 2 (List.map enc_ii x2.2.2)) ∧ True) ∧ True) (by kernel_rfl) ⟨⟨rfl, rfl, rfl, trivial⟩, trivial⟩ ⟨call_ok (ks := []) (ns := []) (bor := [0, 1]) (bobjs := [(0, .arr 2 (List.map enc_si x2.1)), (1, .arr 2 (List.map enc_ii x2.2.2))]) (s_spec_FirstMissed x2.1 x2.2.1 x2.2.2 x6 e8) (.cons (.c1 (.agg (.cons (.arr rfl rfl ((rfl).trans (List.length_map ..).symm)) (.cons (.same _ (by kernel_rfl) (by kernel_rfl)) (.nil))))) (.cons (.c1 (.c0 (.arr rfl rfl ((rfl).trans (List.length_map ..).symm)))) (.nil))) (by kernel_rfl) trivial, trivial⟩ ?_
        refine AX.ret ?_
        refine fin_wk (Wk.forget [2] [] (s' := ⟨[(2, .v (.bool (decide (x3 = x6))))], []⟩) (by kernel_rfl)) ?_
        have hr := Option.some.inj h
        subst hr
        exact ⟨_, Wk.refl _, .inr rfl, ⟨[], by kernel_rfl, trivial, [.v (.bool (decide (x3 = x6)))], by kernel_rfl, by kernel_rfl⟩⟩
      · replace h := cd_f b7 h
        refine AX.reg (its := [.auto {}, .auto {}, .auto {}, .call 9 [.agg [.sl 0 0 x2.1.length, .v (.int .i64 x2.2.1)], .sl 1 0 x2.2.2.length] (handO (rho ([] ++ [])) [] [] ++ [(0, .arr 2 (List.map enc_si x2.1)), (1, .arr 2 (List.map enc_ii x2.2.2))]) (callEv [] [] (.v (.int .i64 x4)) []), .auto { y := some (.v (.bool false)) }, .auto {}, .auto {}, .auto { y := some (.v (.bool false)) }]) [3, 4, 5, 32] [0, 1, 2] (s1 := ⟨[(3, .pt 2 0), (4, .sl 1 0 x2.2.2.length), (5, .v (.int .i64 x3)), (32, .v (.bool (decide (10 ≤ (x2.2.2.length : Int)))))], [(0, .arr 2 (List.map enc_si x2.1)), (1, .arr 2 (List.map enc_ii x2.2.2)), (2, .box [.sl 0 0 x2.1.length, .v (.int .i64 x2.2.1)])]⟩) (C := ((([.agg [.sl 0 0 x2.1.length, .v (.int .i64 x2.2.1)], .sl 1 0 x2.2.2.length] : List AV) = [.agg [.sl 0 0 x2.1.length, .v (.int .i64 x2.2.1)], .sl 1 0 x2.2.2.length]) ∧ (AO.arr 2 (List.map enc_si x2.1) = AO.arr 2 (List.map enc_si x2.1)) ∧ (AO.arr 2 (List.map enc_ii x2.2.2) = AO.arr 2 (List.map enc_ii x2.2.2)) ∧ True) ∧ ((True) ∧ ((.v (.bool (!decide (x3 = x4))) : AV) = (.v (.bool false) : AV))) ∧ ((True) ∧ ((.v (.bool (decide (x3 < 0))) : AV) = (.v (.bool false) : AV))) ∧ True) (by kernel_rfl) ⟨⟨rfl, rfl, rfl, trivial⟩, ⟨⟨trivial, (congrArg (fun z => AV.v (.bool z)) b5)⟩, ⟨⟨trivial, (congrArg (fun z => AV.v (.bool z)) b7)⟩, trivial⟩⟩⟩ ⟨call_ok (ks := []) (ns := []) (bor := [0, 1]) (bobjs := [(0, .arr 2 (List.map enc_si x2.1)), (1, .arr 2 (List.map enc_ii x2.2.2))]) (s_spec_FirstMissed x2.1 x2.2.1 x2.2.2 x4 e4) (.cons (.c1 (.agg (.cons (.arr rfl rfl ((rfl).trans (List.length_map ..).symm)) (.cons (.same _ (by kernel_rfl) (by kernel_rfl)) (.nil))))) (.cons (.c1 (.c0 (.arr rfl rfl ((rfl).trans (List.length_map ..).symm)))) (.nil))) (by kernel_rfl) trivial, trivial⟩ ?_
        rcases bool_cases (decide (10 ≤ (x2.2.2.length : Int))) with b9 | b9
        · replace h := cd_t b9 h
          refine AX.condT (decide (10 ≤ (x2.2.2.length : Int))) (by kernel_rfl) b9 ?_
          refine AX.seq ?_
          obtain ⟨x7, e10, h⟩ := bd_e h
          refine AX.reg (its := [.auto {}, .auto {}, .auto {}, .call 9 [.agg [.sl 0 0 x2.1.length, .v (.int .i64 x2.2.1)], .sl 1 0 x2.2.2.length] (handO (rho ([] ++ [])) [] [] ++ [(0, .arr 2 (List.map enc_si x2.1)), (1, .arr 2 (List.map enc_ii x2.2.2))]) (callEv [] [] (.v (.int .i64 x7)) [])]) [2] [] (s1 := ⟨[(2, .v (.bool (decide (x3 = x7))))], []⟩) (C := ((([.agg [.sl 0 0 x2.1.length, .v (.int .i64 x2.2.1)], .sl 1 0 x2.2.2.length] : List AV) = [.agg [.sl 0 0 x2.1.length, .v (.int .i64 x2.2.1)], .sl 1 0 x2.2.2.length]) ∧ (AO.arr 2 (List.map enc_si x2.1) = AO.arr 2 (List.map enc_si x2.1)) ∧ (AO.arr 2 (List.map enc_ii x2.2.2) = AO.arr 2 (List.map enc_ii x2.2.2)) ∧ True) ∧ True) (by kernel_rfl) ⟨⟨rfl, rfl, rfl, trivial⟩, trivial⟩ ⟨call_ok (ks := []) (ns := []) (bor := [0, 1]) (bobjs := [(0, .arr 2 (List.map enc_si x2.1)), (1, .arr 2 (List.map enc_ii x2.2.2))]) (s_spec_FirstMissed x2.1 x2.2.1 x2.2.2 x7 e10) (.cons (.c1 (.agg (.cons (.arr rfl rfl ((rfl).trans (List.length_map ..).symm)) (.cons (.same _ (by kernel_rfl) (by kernel_rfl)) (.nil))))) (.cons (.c1 (.c0 (.arr rfl rfl ((rfl).trans (List.length_map ..).symm)))) (.nil))) (by kernel_rfl) trivial, trivial⟩ ?_
          refine AX.ret ?_
          refine fin_wk (Wk.forget [2] [] (s' := ⟨[(2, .v (.bool (decide (x3 = x7))))], []⟩) (by kernel_rfl)) ?_
          have hr := Option.some.inj h
          subst hr
          exact ⟨_, Wk.refl _, .inr rfl, ⟨[], by kernel_rfl, trivial, [.v (.bool (decide (x3 = x7)))], by kernel_rfl, by kernel_rfl⟩⟩
        · replace h := cd_f b9 h
          refine AX.condF (decide (10 ≤ (x2.2.2.length : Int))) (by kernel_rfl) b9 ?_
          refine AX.skip ?_
          refine AX.seq ?_
          obtain ⟨x8, e11, h⟩ := bd_e h
          obtain ⟨x9, e12, h⟩ := bd_e h
          refine AX.drw mixed (its := [.auto {}, .auto {}, .auto {}, .call 11 [.agg [.sl 0 0 x2.1.length, .v (.int .i64 x2.2.1)]] (handO (rho ([] ++ [])) [] [] ++ [(0, .arr 2 (List.map enc_si x2.1))]) (callEv [] [] (.v (.int .i64 x8)) []), .auto {}, .call 10 [.agg [.sl 0 0 x2.1.length, .v (.int .i64 x2.2.1)], .v (.int .i64 x8), .v (.int .i64 x3)] (handO (rho ([] ++ [])) [] [] ++ [(0, .arr 2 (List.map enc_si x2.1))]) (callEv [] [] (.v (.int .i64 x9)) []), .auto {}, .auto { nk := 3 }]) [3, 4, 5, 6] [0, 1, 2, 3] (s1 := ⟨[(3, .pt 2 0), (4, .sl 1 0 x2.2.2.length), (5, .v (.int .i64 x3)), (6, .pt 3 0)], [(0, .arr 2 (List.map enc_si x2.1)), (1, .arr 2 (List.map enc_ii x2.2.2)), (2, .box [.sl 0 0 x2.1.length, .v (.int .i64 x2.2.1)]), (3, .box [.v (.int .i64 x3), .v (.int .i64 x9)])]⟩) (C := ((([.agg [.sl 0 0 x2.1.length, .v (.int .i64 x2.2.1)]] : List AV) = [.agg [.sl 0 0 x2.1.length, .v (.int .i64 x2.2.1)]]) ∧ (AO.arr 2 (List.map enc_si x2.1) = AO.arr 2 (List.map enc_si x2.1)) ∧ True) ∧ ((([.agg [.sl 0 0 x2.1.length, .v (.int .i64 x2.2.1)], .v (.int .i64 x8), .v (.int .i64 x3)] : List AV) = [.agg [.sl 0 0 x2.1.length, .v (.int .i64 x2.2.1)], .v (.int .i64 x8), .v (.int .i64 x3)]) ∧ (AO.arr 2 (List.map enc_si x2.1) = AO.arr 2 (List.map enc_si x2.1)) ∧ True) ∧ True) (by kernel_rfl) ⟨⟨rfl, rfl, trivial⟩, ⟨⟨rfl, rfl, trivial⟩, trivial⟩⟩ ⟨call_ok (ks := []) (ns := []) (bor := [0]) (bobjs := [(0, .arr 2 (List.map enc_si x2.1))]) (s_impl_MaskOf x2.1 x2.2.1 x8 e11) (.cons (.c1 (.agg (.cons (.arr rfl rfl ((rfl).trans (List.length_map ..).symm)) (.cons (.same _ (by kernel_rfl) (by kernel_rfl)) (.nil))))) (.nil)) (by kernel_rfl) trivial, ⟨call_ok (ks := []) (ns := []) (bor := [0]) (bobjs := [(0, .arr 2 (List.map enc_si x2.1))]) (s_impl_LessValues x2.1 x2.2.1 x8 x3 x9 e12) (.cons (.c1 (.agg (.cons (.arr rfl rfl ((rfl).trans (List.length_map ..).symm)) (.cons (.same _ (by kernel_rfl) (by kernel_rfl)) (.nil))))) (.cons (.c1 (.c0 (.same _ (by kernel_rfl) (by kernel_rfl)))) (.cons (.c1 (.c0 (.same _ (by kernel_rfl) (by kernel_rfl)))) (.nil)))) (by kernel_rfl) trivial, trivial⟩⟩ ?_
          refine AX.seq ?_
          obtain ⟨g13, h⟩ := gd_e h
          obtain ⟨g14, h⟩ := gd_e h
          obtain ⟨x10, e15, h⟩ := bd_e h
          refine AX.drw mixed (its := [.auto {}, .auto { nk := 4 }, .auto {}, .auto { y := some (.sl 5 0 ((([] : List (Int × Int)) ++ x2.2.2).length)), els := some (List.map enc_ii ([] : List (Int × Int))), els2 := some (List.map enc_ii x2.2.2), nk := 5 }, .auto {}, .auto { nk := 6 }, .auto { y := some (.sl 7 0 (((([] : List (Int × Int)) ++ x2.2.2) ++ ([(x3, x9)] : List (Int × Int))).length)), els := some (List.map enc_ii (([] : List (Int × Int)) ++ x2.2.2)), els2 := some (List.map enc_ii ([(x3, x9)] : List (Int × Int))), nk := 7 }, .call 8 [.agg [.sl 0 0 x2.1.length, .v (.int .i64 x2.2.1)], .sl 7 0 (((([] : List (Int × Int)) ++ x2.2.2) ++ ([(x3, x9)] : List (Int × Int))).length)] (handO (rho ([] ++ [])) [] [] ++ [(0, .arr 2 (List.map enc_si x2.1)), (7, .arr 2 (List.map enc_ii ((([] : List (Int × Int)) ++ x2.2.2) ++ ([(x3, x9)] : List (Int × Int)))))]) (callEv [] [] (.v (.int .i64 x10)) [])]) [3, 4, 5, 7] [0, 1, 2] (s1 := ⟨[(3, .pt 2 0), (4, .sl 1 0 x2.2.2.length), (5, .v (.int .i64 x3)), (7, .v (.int .i64 x10))], [(0, .arr 2 (List.map enc_si x2.1)), (1, .arr 2 (List.map enc_ii x2.2.2)), (2, .box [.sl 0 0 x2.1.length, .v (.int .i64 x2.2.1)])]⟩) (C := ((((((List.map enc_ii ([] : List (Int × Int))).drop 0).take (([] : List (Int × Int)).length) = List.map enc_ii ([] : List (Int × Int))) ∧ (((List.map enc_ii x2.2.2).drop 0).take (x2.2.2.length) = List.map enc_ii x2.2.2)) ∧ (List.map enc_ii ([] : List (Int × Int))).length + (List.map enc_ii x2.2.2).length ≤ 1099511627776) ∧ (AV.sl 5 0 (List.map enc_ii ([] : List (Int × Int)) ++ List.map enc_ii x2.2.2).length = AV.sl 5 0 (([] : List (Int × Int)) ++ x2.2.2).length)) ∧ ((((((List.map enc_ii ([] : List (Int × Int)) ++ List.map enc_ii x2.2.2).drop 0).take ((([] : List (Int × Int)) ++ x2.2.2).length) = List.map enc_ii (([] : List (Int × Int)) ++ x2.2.2)) ∧ (((List.map enc_ii ([(x3, x9)] : List (Int × Int))).drop 0).take (([(x3, x9)] : List (Int × Int)).length) = List.map enc_ii ([(x3, x9)] : List (Int × Int)))) ∧ (List.map enc_ii (([] : List (Int × Int)) ++ x2.2.2)).length + (List.map enc_ii ([(x3, x9)] : List (Int × Int))).length ≤ 1099511627776) ∧ (AV.sl 7 0 (List.map enc_ii (([] : List (Int × Int)) ++ x2.2.2) ++ List.map enc_ii ([(x3, x9)] : List (Int × Int))).length = AV.sl 7 0 ((([] : List (Int × Int)) ++ x2.2.2) ++ ([(x3, x9)] : List (Int × Int))).length)) ∧ ((([.agg [.sl 0 0 x2.1.length, .v (.int .i64 x2.2.1)], .sl 7 0 (((([] : List (Int × Int)) ++ x2.2.2) ++ ([(x3, x9)] : List (Int × Int))).length)] : List AV) = [.agg [.sl 0 0 x2.1.length, .v (.int .i64 x2.2.1)], .sl 7 0 (((([] : List (Int × Int)) ++ x2.2.2) ++ ([(x3, x9)] : List (Int × Int))).length)]) ∧ (AO.arr 2 (List.map enc_si x2.1) = AO.arr 2 (List.map enc_si x2.1)) ∧ (AO.arr 2 (List.map enc_ii (([] : List (Int × Int)) ++ x2.2.2) ++ List.map enc_ii ([(x3, x9)] : List (Int × Int))) = AO.arr 2 (List.map enc_ii ((([] : List (Int × Int)) ++ x2.2.2) ++ ([(x3, x9)] : List (Int × Int))))) ∧ True) ∧ True) (by kernel_rfl) ⟨⟨⟨⟨(dt_all (enc := enc_ii) rfl rfl), (dt_all (enc := enc_ii) rfl rfl)⟩, (by simp only [List.length_map, List.length_nil]; simpa using g13)⟩, sl_len (enc := enc_ii) (app_can (enc := enc_ii) rfl rfl)⟩, ⟨⟨⟨⟨(dt_all (enc := enc_ii) (app_can (enc := enc_ii) rfl rfl : List.map enc_ii ([] : List (Int × Int)) ++ List.map enc_ii x2.2.2 = List.map enc_ii (([] : List (Int × Int)) ++ x2.2.2)) rfl), (dt_all (enc := enc_ii) rfl rfl)⟩, (by simp only [List.length_map, List.length_nil]; simpa using g14)⟩, sl_len (enc := enc_ii) (app_can (enc := enc_ii) rfl rfl)⟩, ⟨⟨rfl, rfl, arr_eq (app_can (enc := enc_ii) rfl rfl : List.map enc_ii (([] : List (Int × Int)) ++ x2.2.2) ++ List.map enc_ii ([(x3, x9)] : List (Int × Int)) = List.map enc_ii ((([] : List (Int × Int)) ++ x2.2.2) ++ ([(x3, x9)] : List (Int × Int)))), trivial⟩, trivial⟩⟩⟩ ⟨call_ok (ks := []) (ns := []) (bor := [0, 7]) (bobjs := [(0, .arr 2 (List.map enc_si x2.1)), (7, .arr 2 (List.map enc_ii ((([] : List (Int × Int)) ++ x2.2.2) ++ ([(x3, x9)] : List (Int × Int)))))]) (s_impl_FirstMissed x2.1 x2.2.1 ((([] : List (Int × Int)) ++ x2.2.2) ++ ([(x3, x9)] : List (Int × Int))) x10 e15) (.cons (.c1 (.agg (.cons (.arr rfl rfl ((rfl).trans (List.length_map ..).symm)) (.cons (.same _ (by kernel_rfl) (by kernel_rfl)) (.nil))))) (.cons (.c1 (.c0 (.arr rfl rfl ((rfl).trans (List.length_map ..).symm)))) (.nil))) (by kernel_rfl) trivial, trivial⟩ ?_
          refine AX.seq ?_
          obtain ⟨x11, e16, h⟩ := bd_e h
          rcases bool_cases (decide (x11 = (-1))) with b17 | b17
          · replace h := cd_t b17 h
            rcases bool_cases (decide (x10 = (-1))) with b18 | b18
            · replace h := cd_t b18 h
              obtain ⟨x12, e19, h⟩ := bd_e h
              refine AX.reg (its := [.auto {}, .auto {}, .auto {}, .call 12 [.agg [.sl 0 0 x2.1.length, .v (.int .i64 x2.2.1)], .sl 1 0 x2.2.2.length, .v (.int .i64 x3)] (handO (rho ([] ++ [])) [] [] ++ [(0, .arr 2 (List.map enc_si x2.1)), (1, .arr 2 (List.map enc_ii x2.2.2))]) (callEv [] [] (.v (.int .i64 x11)) []), .auto { y := some (.v (.bool true)) }, .auto {}, .auto {}, .auto { y := some (.v (.bool true)) }, .auto {}, .auto {}, .auto {}, .auto {}, .auto {}, .auto {}, .auto {}, .auto {}, .auto {}, .call 13 [.agg [.sl 0 0 x2.1.length, .v (.int .i64 x2.2.1)], .v (.int .i64 x3)] (handO (rho ([] ++ [])) [] [] ++ [(0, .arr 2 (List.map enc_si x2.1))]) (callEv [] [] (.v (.bool x12)) [])]) [2] [] (s1 := ⟨[(2, .v (.bool x12))], []⟩) (C := ((([.agg [.sl 0 0 x2.1.length, .v (.int .i64 x2.2.1)], .sl 1 0 x2.2.2.length, .v (.int .i64 x3)] : List AV) = [.agg [.sl 0 0 x2.1.length, .v (.int .i64 x2.2.1)], .sl 1 0 x2.2.2.length, .v (.int .i64 x3)]) ∧ (AO.arr 2 (List.map enc_si x2.1) = AO.arr 2 (List.map enc_si x2.1)) ∧ (AO.arr 2 (List.map enc_ii x2.2.2) = AO.arr 2 (List.map enc_ii x2.2.2)) ∧ True) ∧ ((True) ∧ ((.v (.bool (decide (x11 = (-1)))) : AV) = (.v (.bool true) : AV))) ∧ ((True) ∧ ((.v (.bool (decide (x10 = (-1)))) : AV) = (.v (.bool true) : AV))) ∧ ((([.agg [.sl 0 0 x2.1.length, .v (.int .i64 x2.2.1)], .v (.int .i64 x3)] : List AV) = [.agg [.sl 0 0 x2.1.length, .v (.int .i64 x2.2.1)], .v (.int .i64 x3)]) ∧ (AO.arr 2 (List.map enc_si x2.1) = AO.arr 2 (List.map enc_si x2.1)) ∧ True) ∧ True) (by kernel_rfl) ⟨⟨rfl, rfl, rfl, trivial⟩, ⟨⟨trivial, (congrArg (fun z => AV.v (.bool z)) b17)⟩, ⟨⟨trivial, (congrArg (fun z => AV.v (.bool z)) b18)⟩, ⟨⟨rfl, rfl, trivial⟩, trivial⟩⟩⟩⟩ ⟨call_ok (ks := []) (ns := []) (bor := [0, 1]) (bobjs := [(0, .arr 2 (List.map enc_si x2.1)), (1, .arr 2 (List.map enc_ii x2.2.2))]) (s_impl_FirstArm x2.1 x2.2.1 x2.2.2 x3 x11 e16) (.cons (.c1 (.agg (.cons (.arr rfl rfl ((rfl).trans (List.length_map ..).symm)) (.cons (.same _ (by kernel_rfl) (by kernel_rfl)) (.nil))))) (.cons (.c1 (.c0 (.arr rfl rfl ((rfl).trans (List.length_map ..).symm)))) (.cons (.c1 (.c0 (.same _ (by kernel_rfl) (by kernel_rfl)))) (.nil)))) (by kernel_rfl) trivial, ⟨call_ok (ks := []) (ns := []) (bor := [0]) (bobjs := [(0, .arr 2 (List.map enc_si x2.1))]) (s_impl_IsValue x2.1 x2.2.1 x3 x12 e19) (.cons (.c1 (.agg (.cons (.arr rfl rfl ((rfl).trans (List.length_map ..).symm)) (.cons (.same _ (by kernel_rfl) (by kernel_rfl)) (.nil))))) (.cons (.c1 (.c0 (.same _ (by kernel_rfl) (by kernel_rfl)))) (.nil))) (by kernel_rfl) trivial, trivial⟩⟩ ?_
              refine AX.ret ?_
              refine fin_wk (Wk.forget [2] [] (s' := ⟨[(2, .v (.bool x12))], []⟩) (by kernel_rfl)) ?_
              have hr := Option.some.inj h
              subst hr
              exact ⟨_, Wk.refl _, .inr rfl, ⟨[], by kernel_rfl, trivial, [.v (.bool x12)], by kernel_rfl, by kernel_rfl⟩⟩
            · replace h := cd_f b18 h
              rcases bool_cases (decide (x3 < x10)) with b20 | b20
              · replace h := cd_t b20 h
                obtain ⟨x13, e21, h⟩ := bd_e h
                refine AX.reg (its := [.auto {}, .auto {}, .auto {}, .call 12 [.agg [.sl 0 0 x2.1.length, .v (.int .i64 x2.2.1)], .sl 1 0 x2.2.2.length, .v (.int .i64 x3)] (handO (rho ([] ++ [])) [] [] ++ [(0, .arr 2 (List.map enc_si x2.1)), (1, .arr 2 (List.map enc_ii x2.2.2))]) (callEv [] [] (.v (.int .i64 x11)) []), .auto { y := some (.v (.bool true)) }, .auto {}, .auto {}, .auto { y := some (.v (.bool false)) }, .auto {}, .auto {}, .auto {}, .auto { y := some (.v (.bool true)) }, .auto {}, .auto {}, .auto {}, .auto {}, .auto {}, .call 13 [.agg [.sl 0 0 x2.1.length, .v (.int .i64 x2.2.1)], .v (.int .i64 x3)] (handO (rho ([] ++ [])) [] [] ++ [(0, .arr 2 (List.map enc_si x2.1))]) (callEv [] [] (.v (.bool x13)) [])]) [2] [] (s1 := ⟨[(2, .v (.bool x13))], []⟩) (C := ((([.agg [.sl 0 0 x2.1.length, .v (.int .i64 x2.2.1)], .sl 1 0 x2.2.2.length, .v (.int .i64 x3)] : List AV) = [.agg [.sl 0 0 x2.1.length, .v (.int .i64 x2.2.1)], .sl 1 0 x2.2.2.length, .v (.int .i64 x3)]) ∧ (AO.arr 2 (List.map enc_si x2.1) = AO.arr 2 (List.map enc_si x2.1)) ∧ (AO.arr 2 (List.map enc_ii x2.2.2) = AO.arr 2 (List.map enc_ii x2.2.2)) ∧ True) ∧ ((True) ∧ ((.v (.bool (decide (x11 = (-1)))) : AV) = (.v (.bool true) : AV))) ∧ ((True) ∧ ((.v (.bool (decide (x10 = (-1)))) : AV) = (.v (.bool false) : AV))) ∧ ((True) ∧ ((.v (.bool (decide (x3 < x10))) : AV) = (.v (.bool true) : AV))) ∧ ((([.agg [.sl 0 0 x2.1.length, .v (.int .i64 x2.2.1)], .v (.int .i64 x3)] : List AV) = [.agg [.sl 0 0 x2.1.length, .v (.int .i64 x2.2.1)], .v (.int .i64 x3)]) ∧ (AO.arr 2 (List.map enc_si x2.1) = AO.arr 2 (List.map enc_si x2.1)) ∧ True) ∧ True) (by kernel_rfl) ⟨⟨rfl, rfl, rfl, trivial⟩, ⟨⟨trivial, (congrArg (fun z => AV.v (.bool z)) b17)⟩, ⟨⟨trivial, (congrArg (fun z => AV.v (.bool z)) b18)⟩, ⟨⟨trivial, (congrArg (fun z => AV.v (.bool z)) b20)⟩, ⟨⟨rfl, rfl, trivial⟩, trivial⟩⟩⟩⟩⟩ ⟨call_ok (ks := []) (ns := []) (bor := [0, 1]) (bobjs := [(0, .arr 2 (List.map enc_si x2.1)), (1, .arr 2 (List.map enc_ii x2.2.2))]) (s_impl_FirstArm x2.1 x2.2.1 x2.2.2 x3 x11 e16) (.cons (.c1 (.agg (.cons (.arr rfl rfl ((rfl).trans (List.length_map ..).symm)) (.cons (.same _ (by kernel_rfl) (by kernel_rfl)) (.nil))))) (.cons (.c1 (.c0 (.arr rfl rfl ((rfl).trans (List.length_map ..).symm)))) (.cons (.c1 (.c0 (.same _ (by kernel_rfl) (by kernel_rfl)))) (.nil)))) (by kernel_rfl) trivial, ⟨call_ok (ks := []) (ns := []) (bor := [0]) (bobjs := [(0, .arr 2 (List.map enc_si x2.1))]) (s_impl_IsValue x2.1 x2.2.1 x3 x13 e21) (.cons (.c1 (.agg (.cons (.arr rfl rfl ((rfl).trans (List.length_map ..).symm)) (.cons (.same _ (by kernel_rfl) (by kernel_rfl)) (.nil))))) (.cons (.c1 (.c0 (.same _ (by kernel_rfl) (by kernel_rfl)))) (.nil))) (by kernel_rfl) trivial, trivial⟩⟩ ?_
                refine AX.ret ?_
                refine fin_wk (Wk.forget [2] [] (s' := ⟨[(2, .v (.bool x13))], []⟩) (by kernel_rfl)) ?_
                have hr := Option.some.inj h
                subst hr
                exact ⟨_, Wk.refl _, .inr rfl, ⟨[], by kernel_rfl, trivial, [.v (.bool x13)], by kernel_rfl, by kernel_rfl⟩⟩
              · replace h := cd_f b20 h
                refine AX.reg (its := [.auto {}, .auto {}, .auto {}, .call 12 [.agg [.sl 0 0 x2.1.length, .v (.int .i64 x2.2.1)], .sl 1 0 x2.2.2.length, .v (.int .i64 x3)] (handO (rho ([] ++ [])) [] [] ++ [(0, .arr 2 (List.map enc_si x2.1)), (1, .arr 2 (List.map enc_ii x2.2.2))]) (callEv [] [] (.v (.int .i64 x11)) []), .auto { y := some (.v (.bool true)) }, .auto {}, .auto {}, .auto { y := some (.v (.bool false)) }, .auto {}, .auto {}, .auto {}, .auto { y := some (.v (.bool false)) }]) [2] [] (s1 := ⟨[(2, .v (.bool false))], []⟩) (C := ((([.agg [.sl 0 0 x2.1.length, .v (.int .i64 x2.2.1)], .sl 1 0 x2.2.2.length, .v (.int .i64 x3)] : List AV) = [.agg [.sl 0 0 x2.1.length, .v (.int .i64 x2.2.1)], .sl 1 0 x2.2.2.length, .v (.int .i64 x3)]) ∧ (AO.arr 2 (List.map enc_si x2.1) = AO.arr 2 (List.map enc_si x2.1)) ∧ (AO.arr 2 (List.map enc_ii x2.2.2) = AO.arr 2 (List.map enc_ii x2.2.2)) ∧ True) ∧ ((True) ∧ ((.v (.bool (decide (x11 = (-1)))) : AV) = (.v (.bool true) : AV))) ∧ ((True) ∧ ((.v (.bool (decide (x10 = (-1)))) : AV) = (.v (.bool false) : AV))) ∧ ((True) ∧ ((.v (.bool (decide (x3 < x10))) : AV) = (.v (.bool false) : AV))) ∧ True) (by kernel_rfl) ⟨⟨rfl, rfl, rfl, trivial⟩, ⟨⟨trivial, (congrArg (fun z => AV.v (.bool z)) b17)⟩, ⟨⟨trivial, (congrArg (fun z => AV.v (.bool z)) b18)⟩, ⟨⟨trivial, (congrArg (fun z => AV.v (.bool z)) b20)⟩, trivial⟩⟩⟩⟩ ⟨call_ok (ks := []) (ns := []) (bor := [0, 1]) (bobjs := [(0, .arr 2 (List.map enc_si x2.1)), (1, .arr 2 (List.map enc_ii x2.2.2))]) (s_impl_FirstArm x2.1 x2.2.1 x2.2.2 x3 x11 e16) (.cons (.c1 (.agg (.cons (.arr rfl rfl ((rfl).trans (List.length_map ..).symm)) (.cons (.same _ (by kernel_rfl) (by kernel_rfl)) (.nil))))) (.cons (.c1 (.c0 (.arr rfl rfl ((rfl).trans (List.length_map ..).symm)))) (.cons (.c1 (.c0 (.same _ (by kernel_rfl) (by kernel_rfl)))) (.nil)))) (by kernel_rfl) trivial, trivial⟩ ?_
                refine AX.ret ?_
                refine fin_wk (Wk.forget [2] [] (s' := ⟨[(2, .v (.bool false))], []⟩) (by kernel_rfl)) ?_
                have hr := Option.some.inj h
                subst hr
                exact ⟨_, Wk.refl _, .inr rfl, ⟨[], by kernel_rfl, trivial, [.v (.bool false)], by kernel_rfl, by kernel_rfl⟩⟩
          · replace h := cd_f b17 h
            refine AX.reg (its := [.auto {}, .auto {}, .auto {}, .call 12 [.agg [.sl 0 0 x2.1.length, .v (.int .i64 x2.2.1)], .sl 1 0 x2.2.2.length, .v (.int .i64 x3)] (handO (rho ([] ++ [])) [] [] ++ [(0, .arr 2 (List.map enc_si x2.1)), (1, .arr 2 (List.map enc_ii x2.2.2))]) (callEv [] [] (.v (.int .i64 x11)) []), .auto { y := some (.v (.bool false)) }]) [2] [] (s1 := ⟨[(2, .v (.bool false))], []⟩) (C := ((([.agg [.sl 0 0 x2.1.length, .v (.int .i64 x2.2.1)], .sl 1 0 x2.2.2.length, .v (.int .i64 x3)] : List AV) = [.agg [.sl 0 0 x2.1.length, .v (.int .i64 x2.2.1)], .sl 1 0 x2.2.2.length, .v (.int .i64 x3)]) ∧ (AO.arr 2 (List.map enc_si x2.1) = AO.arr 2 (List.map enc_si x2.1)) ∧ (AO.arr 2 (List.map enc_ii x2.2.2) = AO.arr 2 (List.map enc_ii x2.2.2)) ∧ True) ∧ ((True) ∧ ((.v (.bool (decide (x11 = (-1)))) : AV) = (.v (.bool false) : AV))) ∧ True) (by kernel_rfl) ⟨⟨rfl, rfl, rfl, trivial⟩, ⟨⟨trivial, (congrArg (fun z => AV.v (.bool z)) b17)⟩, trivial⟩⟩ ⟨call_ok (ks := []) (ns := []) (bor := [0, 1]) (bobjs := [(0, .arr 2 (List.map enc_si x2.1)), (1, .arr 2 (List.map enc_ii x2.2.2))]) (s_impl_FirstArm x2.1 x2.2.1 x2.2.2 x3 x11 e16) (.cons (.c1 (.agg (.cons (.arr rfl rfl ((rfl).trans (List.length_map ..).symm)) (.cons (.same _ (by kernel_rfl) (by kernel_rfl)) (.nil))))) (.cons (.c1 (.c0 (.arr rfl rfl ((rfl).trans (List.length_map ..).symm)))) (.cons (.c1 (.c0 (.same _ (by kernel_rfl) (by kernel_rfl)))) (.nil)))) (by kernel_rfl) trivial, trivial⟩ ?_
            refine AX.ret ?_
            refine fin_wk (Wk.forget [2] [] (s' := ⟨[(2, .v (.bool false))], []⟩) (by kernel_rfl)) ?_
            have hr := Option.some.inj h
            subst hr
            exact ⟨_, Wk.refl _, .inr rfl, ⟨[], by kernel_rfl, trivial, [.v (.bool false)], by kernel_rfl, by kernel_rfl⟩⟩

end Go.Eng
