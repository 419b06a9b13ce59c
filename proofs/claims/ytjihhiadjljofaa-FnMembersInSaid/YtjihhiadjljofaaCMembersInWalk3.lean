/- What is proved here: each function keeps to its model, whatever its arguments, wherever the model has an answer. Printed by gen.py. -/
import Derived.Test.YtjihhiadjljofaaCMembersInWalk2
import Derived.Test.YtjihhiadjljofaaProg
import Derived.KernelRfl
set_option linter.unusedVariables false
namespace Go.Eng
open Go Go.Proofs


theorem s_spec_mask_L1 (p1 : List (ByteArray × Int)) (n : Nat) (g : Int × Int) (out : Int) (h : m_spec_mask_L1 p1 n g.1 g.2 = some out) :
    AX Try.prog 19 0 (codeAt [1, 1, 0, 1, 1] (bodyOf Try.f42)) ((fun g : Int × Int => (⟨[(0, .bs false 2 (List.map enc_si p1)), (3, .v (.int .i64 g.1)), (4, .v (.int .i64 g.2))], []⟩ : S)) g) (fun ex s => ex = .exit 0 ∧ s = (fun o : Int => (⟨[(3, .v (.int .i64 o))], []⟩ : S)) out) := by
  refine AX.wkpost ?_
  refine AX.loop (G := Nat × (Int × Int)) (fun q => (fun g : Int × Int => (⟨[(0, .bs false 2 (List.map enc_si p1)), (3, .v (.int .i64 g.1)), (4, .v (.int .i64 g.2))], []⟩ : S)) q.2) (fun q => m_spec_mask_L1 p1 q.1 q.2.1 q.2.2 = some out) (fun q => q.1) (n, g) h (Wk.refl _) ?_
  clear h
  rintro ⟨fu, v2, v3⟩ h
  cases fu with
  | zero => cases h
  | succ fu =>
    rw [m_spec_mask_L1] at h
    refine AX.seq ?_
    refine AX.seq ?_
    refine AX.reg (its := [.auto {}, .auto {}, .auto { y := some (.v (.int .i64 (p1.length : Int))) }]) [0, 3, 4, 8] [] (s1 := ⟨[(0, .bs false 2 (List.map enc_si p1)), (3, .v (.int .i64 v2)), (4, .v (.int .i64 v3)), (8, .v (.bool (decide (v3 < (p1.length : Int)))))], []⟩) (C := (True ∧ (AV.v (.int .i64 ((List.map enc_si p1).length : Int)) = AV.v (.int .i64 (p1.length : Int)))) ∧ True) (by kernel_rfl) ⟨⟨trivial, len_map enc_si p1⟩, trivial⟩ trivial ?_
    rcases bool_cases (decide (v3 < (p1.length : Int))) with b1 | b1
    · replace h := cd_t b1 h
      refine AX.condT (decide (v3 < (p1.length : Int))) (by kernel_rfl) b1 ?_
      refine AX.skip ?_
      refine AX.seq ?_
      refine AX.block ?_
      obtain ⟨g2, h⟩ := gd_e h
      obtain ⟨x4, e3, h⟩ := bd_e h
      refine AX.reg (its := [.auto {}, .auto {}, .auto {}, .auto { y := some (.be 2 (enc_si (gt p1 v3)) 0) }, .auto {}, .auto {}, .call 92 [.v (.int .i64 v2), .v (.int .i64 ((gt p1 v3).2))] (handO (rho ([] ++ [])) [] [] ++ []) (callEv [] [] (.v (.int .i64 x4)) [])]) [0, 3, 4] [] (s1 := ⟨[(0, .bs false 2 (List.map enc_si p1)), (3, .v (.int .i64 x4)), (4, .v (.int .i64 v3))], []⟩) (C := ((0 ≤ v3 ∧ v3 < ((List.map enc_si p1).length : Int)) ∧ (AV.be 2 ((List.map enc_si p1).getD v3.toNat []) 0 = AV.be 2 (enc_si (gt p1 v3)) 0)) ∧ ((([.v (.int .i64 v2), .v (.int .i64 ((gt p1 v3).2))] : List AV) = [.v (.int .i64 v2), .v (.int .i64 ((gt p1 v3).2))]) ∧ True) ∧ True) (by kernel_rfl) ⟨idx_bs enc_si p1 v3 2 g2, ⟨⟨rfl, trivial⟩, trivial⟩⟩ ⟨call_ok (ks := []) (ns := []) (bor := []) (bobjs := []) (s_spec_either v2 ((gt p1 v3).2) x4 e3) (.cons (.c1 (.c0 (.same _ (by kernel_rfl) (by kernel_rfl)))) (.cons (.c1 (.c0 (.same _ (by kernel_rfl) (by kernel_rfl)))) (.nil))) (by kernel_rfl) trivial, trivial⟩ ?_
      refine AX.reg (its := [.auto {}, .auto { raw := true }]) [0, 3, 4] [] (s1 := ⟨[(0, .bs false 2 (List.map enc_si p1)), (3, .v (.int .i64 x4)), (4, .v (.int .i64 (IntKind.wrap .i64 (v3 + 1))))], []⟩) (C := True) (by kernel_rfl) trivial trivial ?_
      refine ⟨(fu, (x4, IntKind.wrap .i64 (v3 + 1))), h, Nat.lt_succ_self _, ?_⟩
      refine Wk.trans (Wk.forget [0, 3, 4] [] (s' := ⟨[(0, .bs false 2 (List.map enc_si p1)), (3, .v (.int .i64 x4)), (4, .v (.int .i64 (IntKind.wrap .i64 (v3 + 1))))], []⟩) (by kernel_rfl)) ?_
      exact Wk.refl _
    · replace h := cd_f b1 h
      refine AX.condF (decide (v3 < (p1.length : Int))) (by kernel_rfl) b1 ?_
      refine AX.exit ?_
      refine fin_wk (Wk.forget [3] [] (s' := ⟨[(3, .v (.int .i64 v2))], []⟩) (by kernel_rfl)) ?_
      have hr := Option.some.inj h
      subst hr
      exact ⟨_, Wk.refl _, ⟨rfl, rfl⟩⟩

theorem s_spec_mask (p1 : List (ByteArray × Int)) (r : Int) (h : m_spec_mask p1 = some r) :
    Eng.Spec Try.prog 42 [.bs false 2 (List.map enc_si p1)] [] (.v (.int .i64 r)) [] := by
  unfold m_spec_mask at h
  refine Eng.Spec.body Try.func42 (by kernel_rfl) rfl (by kernel_rfl) ?_
  refine AX.wkpost ?_
  refine AX.seq ?_
  refine AX.reg (its := []) [0] [] (s1 := ⟨[(0, .bs false 2 (List.map enc_si p1))], []⟩) (C := True) (by kernel_rfl) trivial trivial ?_
  refine AX.seq ?_
  refine AX.reg (its := []) [0, 3] [] (s1 := ⟨[(0, .bs false 2 (List.map enc_si p1)), (3, .v (.int .i64 0))], []⟩) (C := True) (by kernel_rfl) trivial trivial ?_
  refine AX.seq ?_
  refine AX.seq ?_
  refine AX.reg (its := []) [0, 3, 4] [] (s1 := ⟨[(0, .bs false 2 (List.map enc_si p1)), (3, .v (.int .i64 0)), (4, .v (.int .i64 0))], []⟩) (C := True) (by kernel_rfl) trivial trivial ?_
  refine AX.block ?_
  obtain ⟨x5, e4, h⟩ := bd_e h
  refine AX.wk (Wk.forget [0, 3, 4] [] (s' := ⟨[(0, .bs false 2 (List.map enc_si p1)), (3, .v (.int .i64 0)), (4, .v (.int .i64 0))], []⟩) (by kernel_rfl)) ?_
  refine AX.mono (s_spec_mask_L1 p1 FU (0, 0) x5 e4) ?_
  rintro _ _ ⟨rfl, rfl⟩
  skip
  refine AX.seq ?_
  refine AX.reg (its := []) [2] [] (s1 := ⟨[(2, .v (.int .i64 x5))], []⟩) (C := True) (by kernel_rfl) trivial trivial ?_
  refine AX.ret ?_
  refine fin_wk (Wk.forget [2] [] (s' := ⟨[(2, .v (.int .i64 x5))], []⟩) (by kernel_rfl)) ?_
  have hr := Option.some.inj h
  subst hr
  exact ⟨_, Wk.refl _, .inr rfl, ⟨[], by kernel_rfl, trivial, [.v (.int .i64 x5)], by kernel_rfl, by kernel_rfl⟩⟩

theorem s_spec_less (p1 : Int) (p2 : Int) (r : Int) (h : m_spec_less p1 p2 = some r) :
    Eng.Spec Try.prog 91 [.v (.int .i64 p1), .v (.int .i64 p2)] [] (.v (.int .i64 r)) [] := by
  unfold m_spec_less at h
  refine Eng.Spec.body Try.func91 (by kernel_rfl) rfl (by kernel_rfl) ?_
  refine AX.wkpost ?_
  refine AX.seq ?_
  refine AX.reg (its := []) [0, 1] [] (s1 := ⟨[(0, .v (.int .i64 p1)), (1, .v (.int .i64 p2))], []⟩) (C := True) (by kernel_rfl) trivial trivial ?_
  refine AX.seq ?_
  obtain ⟨x3, e1, h⟩ := bd_e h
  refine AX.reg (its := [.auto {}, .auto {}, .auto {}, .call 116 [.v (.int .i64 p1), .v (.int .i64 p2)] (handO (rho ([] ++ [])) [] [] ++ []) (callEv [] [] (.v (.int .i64 x3)) []), .auto { raw := true }]) [4] [] (s1 := ⟨[(4, .v (.int .i64 (IntKind.wrap .i64 (p1 - x3))))], []⟩) (C := ((([.v (.int .i64 p1), .v (.int .i64 p2)] : List AV) = [.v (.int .i64 p1), .v (.int .i64 p2)]) ∧ True) ∧ True) (by kernel_rfl) ⟨⟨rfl, trivial⟩, trivial⟩ ⟨call_ok (ks := []) (ns := []) (bor := []) (bobjs := []) (s_spec_both p1 p2 x3 e1) (.cons (.c1 (.c0 (.same _ (by kernel_rfl) (by kernel_rfl)))) (.cons (.c1 (.c0 (.same _ (by kernel_rfl) (by kernel_rfl)))) (.nil))) (by kernel_rfl) trivial, trivial⟩ ?_
  refine AX.ret ?_
  refine fin_wk (Wk.forget [4] [] (s' := ⟨[(4, .v (.int .i64 (IntKind.wrap .i64 (p1 - x3))))], []⟩) (by kernel_rfl)) ?_
  have hr := Option.some.inj h
  subst hr
  exact ⟨_, Wk.refl _, .inr rfl, ⟨[], by kernel_rfl, trivial, [.v (.int .i64 (IntKind.wrap .i64 (p1 - x3)))], by kernel_rfl, by kernel_rfl⟩⟩

theorem s_spec_isValue (p1 : List (ByteArray × Int)) (p2 : Int) (p3 : Int) (r : Bool) (h : m_spec_isValue p1 p2 p3 = some r) :
    Eng.Spec Try.prog 76 [.agg [.bs false 2 (List.map enc_si p1), .v (.int .i64 p2)], .v (.int .i64 p3)] [] (.v (.bool r)) [] := by
  unfold m_spec_isValue at h
  refine Eng.Spec.body Try.func76 (by kernel_rfl) rfl (by kernel_rfl) ?_
  refine AX.wkpost ?_
  refine AX.seq ?_
  refine AX.reg (its := [.auto { nk := 0 }]) [1, 2] [0] (s1 := ⟨[(1, .v (.int .i64 p3)), (2, .pt 0 0)], [(0, .box [.bs false 2 (List.map enc_si p1), .v (.int .i64 p2)])]⟩) (C := True) (by kernel_rfl) trivial trivial ?_
  refine AX.seq ?_
  obtain ⟨x4, e1, h⟩ := bd_e h
  rcases bool_cases (x4) with b2 | b2
  · replace h := cd_t b2 h
    obtain ⟨x5, e3, h⟩ := bd_e h
    rcases bool_cases (x5) with b4 | b4
    · replace h := cd_t b4 h
      rcases bool_cases (decide (p2 = 3)) with b5 | b5
      · replace h := cd_t b5 h
        refine AX.reg (its := [.auto {}, .call 56 [.agg [.bs false 2 (List.map enc_si p1), .v (.int .i64 p2)]] (handO (rho ([] ++ [])) [] [] ++ []) (callEv [] [] (.v (.bool true)) []), .auto {}, .auto {}, .call 100 [.v (.int .i64 p3), .v (.int .i64 0), .v (.int .i64 4095)] (handO (rho ([] ++ [])) [] [] ++ []) (callEv [] [] (.v (.bool true)) []), .auto {}, .auto {}, .auto {}, .auto {}, .auto { y := some (.v (.bool true)) }]) [4] [] (s1 := ⟨[(4, .v (.bool true))], []⟩) (C := ((([.agg [.bs false 2 (List.map enc_si p1), .v (.int .i64 p2)]] : List AV) = [.agg [.bs false 2 (List.map enc_si p1), .v (.int .i64 p2)]]) ∧ True) ∧ ((([.v (.int .i64 p3), .v (.int .i64 0), .v (.int .i64 4095)] : List AV) = [.v (.int .i64 p3), .v (.int .i64 0), .v (.int .i64 4095)]) ∧ True) ∧ ((True) ∧ ((.v (.bool (decide (p2 = 3))) : AV) = (.v (.bool true) : AV))) ∧ True) (by kernel_rfl) ⟨⟨rfl, trivial⟩, ⟨⟨rfl, trivial⟩, ⟨⟨trivial, (congrArg (fun z => AV.v (.bool z)) b5)⟩, trivial⟩⟩⟩ ⟨call_ok (ks := []) (ns := []) (bor := []) (bobjs := []) (show Eng.Spec Try.prog 56 [.agg [.bs false 2 (List.map enc_si p1), .v (.int .i64 p2)]] [] (.v (.bool true)) [] from by have q := s_spec_validFlag p1 p2 x4 e1; rw [b2] at q; exact q) (.cons (.c1 (.agg (.cons (.same _ (by kernel_rfl) (by kernel_rfl)) (.cons (.same _ (by kernel_rfl) (by kernel_rfl)) (.nil))))) (.nil)) (by kernel_rfl) trivial, ⟨call_ok (ks := []) (ns := []) (bor := []) (bobjs := []) (show Eng.Spec Try.prog 100 [.v (.int .i64 p3), .v (.int .i64 0), .v (.int .i64 4095)] [] (.v (.bool true)) [] from by have q := s_spec_inRange p3 0 4095 x5 e3; rw [b4] at q; exact q) (.cons (.c1 (.c0 (.same _ (by kernel_rfl) (by kernel_rfl)))) (.cons (.c1 (.c0 (.same _ (by kernel_rfl) (by kernel_rfl)))) (.cons (.c1 (.c0 (.same _ (by kernel_rfl) (by kernel_rfl)))) (.nil)))) (by kernel_rfl) trivial, trivial⟩⟩ ?_
        refine AX.ret ?_
        refine fin_wk (Wk.forget [4] [] (s' := ⟨[(4, .v (.bool true))], []⟩) (by kernel_rfl)) ?_
        have hr := Option.some.inj h
        subst hr
        exact ⟨_, Wk.refl _, .inr rfl, ⟨[], by kernel_rfl, trivial, [.v (.bool true)], by kernel_rfl, by kernel_rfl⟩⟩
      · replace h := cd_f b5 h
        obtain ⟨x6, e6, h⟩ := bd_e h
        obtain ⟨x7, e7, h⟩ := bd_e h
        refine AX.reg (its := [.auto {}, .call 56 [.agg [.bs false 2 (List.map enc_si p1), .v (.int .i64 p2)]] (handO (rho ([] ++ [])) [] [] ++ []) (callEv [] [] (.v (.bool true)) []), .auto {}, .auto {}, .call 100 [.v (.int .i64 p3), .v (.int .i64 0), .v (.int .i64 4095)] (handO (rho ([] ++ [])) [] [] ++ []) (callEv [] [] (.v (.bool true)) []), .auto {}, .auto {}, .auto {}, .auto {}, .auto { y := some (.v (.bool false)) }, .auto {}, .auto {}, .auto {}, .auto {}, .call 42 [.bs false 2 (List.map enc_si p1)] (handO (rho ([] ++ [])) [] [] ++ []) (callEv [] [] (.v (.int .i64 x6)) []), .call 91 [.v (.int .i64 p3), .v (.int .i64 x6)] (handO (rho ([] ++ [])) [] [] ++ []) (callEv [] [] (.v (.int .i64 x7)) [])]) [4] [] (s1 := ⟨[(4, .v (.bool (decide (x7 = 0))))], []⟩) (C := ((([.agg [.bs false 2 (List.map enc_si p1), .v (.int .i64 p2)]] : List AV) = [.agg [.bs false 2 (List.map enc_si p1), .v (.int .i64 p2)]]) ∧ True) ∧ ((([.v (.int .i64 p3), .v (.int .i64 0), .v (.int .i64 4095)] : List AV) = [.v (.int .i64 p3), .v (.int .i64 0), .v (.int .i64 4095)]) ∧ True) ∧ ((True) ∧ ((.v (.bool (decide (p2 = 3))) : AV) = (.v (.bool false) : AV))) ∧ ((([.bs false 2 (List.map enc_si p1)] : List AV) = [.bs false 2 (List.map enc_si p1)]) ∧ True) ∧ ((([.v (.int .i64 p3), .v (.int .i64 x6)] : List AV) = [.v (.int .i64 p3), .v (.int .i64 x6)]) ∧ True) ∧ True) (by kernel_rfl) ⟨⟨rfl, trivial⟩, ⟨⟨rfl, trivial⟩, ⟨⟨trivial, (congrArg (fun z => AV.v (.bool z)) b5)⟩, ⟨⟨rfl, trivial⟩, ⟨⟨rfl, trivial⟩, trivial⟩⟩⟩⟩⟩ ⟨call_ok (ks := []) (ns := []) (bor := []) (bobjs := []) (show Eng.Spec Try.prog 56 [.agg [.bs false 2 (List.map enc_si p1), .v (.int .i64 p2)]] [] (.v (.bool true)) [] from by have q := s_spec_validFlag p1 p2 x4 e1; rw [b2] at q; exact q) (.cons (.c1 (.agg (.cons (.same _ (by kernel_rfl) (by kernel_rfl)) (.cons (.same _ (by kernel_rfl) (by kernel_rfl)) (.nil))))) (.nil)) (by kernel_rfl) trivial, ⟨call_ok (ks := []) (ns := []) (bor := []) (bobjs := []) (show Eng.Spec Try.prog 100 [.v (.int .i64 p3), .v (.int .i64 0), .v (.int .i64 4095)] [] (.v (.bool true)) [] from by have q := s_spec_inRange p3 0 4095 x5 e3; rw [b4] at q; exact q) (.cons (.c1 (.c0 (.same _ (by kernel_rfl) (by kernel_rfl)))) (.cons (.c1 (.c0 (.same _ (by kernel_rfl) (by kernel_rfl)))) (.cons (.c1 (.c0 (.same _ (by kernel_rfl) (by kernel_rfl)))) (.nil)))) (by kernel_rfl) trivial, ⟨call_ok (ks := []) (ns := []) (bor := []) (bobjs := []) (s_spec_mask p1 x6 e6) (.cons (.c1 (.c0 (.same _ (by kernel_rfl) (by kernel_rfl)))) (.nil)) (by kernel_rfl) trivial, ⟨call_ok (ks := []) (ns := []) (bor := []) (bobjs := []) (s_spec_less p3 x6 x7 e7) (.cons (.c1 (.c0 (.same _ (by kernel_rfl) (by kernel_rfl)))) (.cons (.c1 (.c0 (.same _ (by kernel_rfl) (by kernel_rfl)))) (.nil))) (by kernel_rfl) trivial, trivial⟩⟩⟩⟩ ?_
        refine AX.ret ?_
        refine fin_wk (Wk.forget [4] [] (s' := ⟨[(4, .v (.bool (decide (x7 = 0))))], []⟩) (by kernel_rfl)) ?_
        have hr := Option.some.inj h
        subst hr
        exact ⟨_, Wk.refl _, .inr rfl, ⟨[], by kernel_rfl, trivial, [.v (.bool (decide (x7 = 0)))], by kernel_rfl, by kernel_rfl⟩⟩
    · replace h := cd_f b4 h
      refine AX.reg (its := [.auto {}, .call 56 [.agg [.bs false 2 (List.map enc_si p1), .v (.int .i64 p2)]] (handO (rho ([] ++ [])) [] [] ++ []) (callEv [] [] (.v (.bool true)) []), .auto {}, .auto {}, .call 100 [.v (.int .i64 p3), .v (.int .i64 0), .v (.int .i64 4095)] (handO (rho ([] ++ [])) [] [] ++ []) (callEv [] [] (.v (.bool false)) [])]) [4] [] (s1 := ⟨[(4, .v (.bool false))], []⟩) (C := ((([.agg [.bs false 2 (List.map enc_si p1), .v (.int .i64 p2)]] : List AV) = [.agg [.bs false 2 (List.map enc_si p1), .v (.int .i64 p2)]]) ∧ True) ∧ ((([.v (.int .i64 p3), .v (.int .i64 0), .v (.int .i64 4095)] : List AV) = [.v (.int .i64 p3), .v (.int .i64 0), .v (.int .i64 4095)]) ∧ True) ∧ True) (by kernel_rfl) ⟨⟨rfl, trivial⟩, ⟨⟨rfl, trivial⟩, trivial⟩⟩ ⟨call_ok (ks := []) (ns := []) (bor := []) (bobjs := []) (show Eng.Spec Try.prog 56 [.agg [.bs false 2 (List.map enc_si p1), .v (.int .i64 p2)]] [] (.v (.bool true)) [] from by have q := s_spec_validFlag p1 p2 x4 e1; rw [b2] at q; exact q) (.cons (.c1 (.agg (.cons (.same _ (by kernel_rfl) (by kernel_rfl)) (.cons (.same _ (by kernel_rfl) (by kernel_rfl)) (.nil))))) (.nil)) (by kernel_rfl) trivial, ⟨call_ok (ks := []) (ns := []) (bor := []) (bobjs := []) (show Eng.Spec Try.prog 100 [.v (.int .i64 p3), .v (.int .i64 0), .v (.int .i64 4095)] [] (.v (.bool false)) [] from by have q := s_spec_inRange p3 0 4095 x5 e3; rw [b4] at q; exact q) (.cons (.c1 (.c0 (.same _ (by kernel_rfl) (by kernel_rfl)))) (.cons (.c1 (.c0 (.same _ (by kernel_rfl) (by kernel_rfl)))) (.cons (.c1 (.c0 (.same _ (by kernel_rfl) (by kernel_rfl)))) (.nil)))) (by kernel_rfl) trivial, trivial⟩⟩ ?_
      refine AX.ret ?_
      refine fin_wk (Wk.forget [4] [] (s' := ⟨[(4, .v (.bool false))], []⟩) (by kernel_rfl)) ?_
      have hr := Option.some.inj h
      subst hr
      exact ⟨_, Wk.refl _, .inr rfl, ⟨[], by kernel_rfl, trivial, [.v (.bool false)], by kernel_rfl, by kernel_rfl⟩⟩
  · replace h := cd_f b2 h
    refine AX.reg (its := [.auto {}, .call 56 [.agg [.bs false 2 (List.map enc_si p1), .v (.int .i64 p2)]] (handO (rho ([] ++ [])) [] [] ++ []) (callEv [] [] (.v (.bool false)) [])]) [4] [] (s1 := ⟨[(4, .v (.bool false))], []⟩) (C := ((([.agg [.bs false 2 (List.map enc_si p1), .v (.int .i64 p2)]] : List AV) = [.agg [.bs false 2 (List.map enc_si p1), .v (.int .i64 p2)]]) ∧ True) ∧ True) (by kernel_rfl) ⟨⟨rfl, trivial⟩, trivial⟩ ⟨call_ok (ks := []) (ns := []) (bor := []) (bobjs := []) (show Eng.Spec Try.prog 56 [.agg [.bs false 2 (List.map enc_si p1), .v (.int .i64 p2)]] [] (.v (.bool false)) [] from by have q := s_spec_validFlag p1 p2 x4 e1; rw [b2] at q; exact q) (.cons (.c1 (.agg (.cons (.same _ (by kernel_rfl) (by kernel_rfl)) (.cons (.same _ (by kernel_rfl) (by kernel_rfl)) (.nil))))) (.nil)) (by kernel_rfl) trivial, trivial⟩ ?_
    refine AX.ret ?_
    refine fin_wk (Wk.forget [4] [] (s' := ⟨[(4, .v (.bool false))], []⟩) (by kernel_rfl)) ?_
    have hr := Option.some.inj h
    subst hr
    exact ⟨_, Wk.refl _, .inr rfl, ⟨[], by kernel_rfl, trivial, [.v (.bool false)], by kernel_rfl, by kernel_rfl⟩⟩

theorem s_spec_singles_L1 (p1 : List (ByteArray × Int)) (n : Nat) (g : (List (ByteArray × Int)) × Int) (out : List (ByteArray × Int)) (h : m_spec_singles_L1 p1 n g.1 g.2 = some out) :
    AX Try.prog 24 0 (codeAt [1, 1, 0, 1, 1] (bodyOf Try.f115)) ((fun g : (List (ByteArray × Int)) × Int => (⟨[(0, .bs false 2 (List.map enc_si p1)), (3, .sl 0 0 g.1.length), (4, .v (.int .i64 g.2))], [(0, .arr 2 (List.map enc_si g.1))]⟩ : S)) g) (fun ex s => ex = .exit 0 ∧ s = (fun o : List (ByteArray × Int) => (⟨[(3, .sl 0 0 o.length)], [(0, .arr 2 (List.map enc_si o))]⟩ : S)) out) := by
  refine AX.wkpost ?_
  refine AX.loop (G := Nat × ((List (ByteArray × Int)) × Int)) (fun q => (fun g : (List (ByteArray × Int)) × Int => (⟨[(0, .bs false 2 (List.map enc_si p1)), (3, .sl 0 0 g.1.length), (4, .v (.int .i64 g.2))], [(0, .arr 2 (List.map enc_si g.1))]⟩ : S)) q.2) (fun q => m_spec_singles_L1 p1 q.1 q.2.1 q.2.2 = some out) (fun q => q.1) (n, g) h (Wk.refl _) ?_
  clear h
  rintro ⟨fu, v2, v3⟩ h
  cases fu with
  | zero => cases h
  | succ fu =>
    rw [m_spec_singles_L1] at h
    refine AX.seq ?_
    refine AX.seq ?_
    refine AX.reg (its := []) [0, 3, 4, 8] [0] (s1 := ⟨[(0, .bs false 2 (List.map enc_si p1)), (3, .sl 0 0 v2.length), (4, .v (.int .i64 v3)), (8, .v (.bool (decide (v3 ≤ 4095))))], [(0, .arr 2 (List.map enc_si v2))]⟩) (C := True) (by kernel_rfl) trivial trivial ?_
    rcases bool_cases (decide (v3 ≤ 4095)) with b1 | b1
    · replace h := cd_t b1 h
      refine AX.condT (decide (v3 ≤ 4095)) (by kernel_rfl) b1 ?_
      refine AX.skip ?_
      refine AX.seq ?_
      refine AX.block ?_
      refine AX.seq ?_
      obtain ⟨x4, e2, h⟩ := bd_e h
      refine AX.reg (its := [.auto {}, .auto {}, .call 114 [.bs false 2 (List.map enc_si p1), .v (.int .i64 v3)] (handO (rho ([] ++ [])) [] [] ++ []) (callEv [] [] (.v (.int .i64 x4)) [])]) [0, 3, 4, 5] [0] (s1 := ⟨[(0, .bs false 2 (List.map enc_si p1)), (3, .sl 0 0 v2.length), (4, .v (.int .i64 v3)), (5, .v (.int .i64 x4))], [(0, .arr 2 (List.map enc_si v2))]⟩) (C := ((([.bs false 2 (List.map enc_si p1), .v (.int .i64 v3)] : List AV) = [.bs false 2 (List.map enc_si p1), .v (.int .i64 v3)]) ∧ True) ∧ True) (by kernel_rfl) ⟨⟨rfl, trivial⟩, trivial⟩ ⟨call_ok (ks := []) (ns := []) (bor := []) (bobjs := []) (s_spec_valueAt p1 v3 x4 e2) (.cons (.c1 (.c0 (.same _ (by kernel_rfl) (by kernel_rfl)))) (.cons (.c1 (.c0 (.same _ (by kernel_rfl) (by kernel_rfl)))) (.nil))) (by kernel_rfl) trivial, trivial⟩ ?_
      refine AX.seq ?_
      refine AX.reg (its := []) [0, 3, 4, 5, 15] [0] (s1 := ⟨[(0, .bs false 2 (List.map enc_si p1)), (3, .sl 0 0 v2.length), (4, .v (.int .i64 v3)), (5, .v (.int .i64 x4)), (15, .v (.bool (decide (0 ≤ x4))))], [(0, .arr 2 (List.map enc_si v2))]⟩) (C := True) (by kernel_rfl) trivial trivial ?_
      rcases bool_cases (decide (0 ≤ x4)) with b3 | b3
      · replace h := cd_t b3 h
        refine AX.condT (decide (0 ≤ x4)) (by kernel_rfl) b3 ?_
        obtain ⟨g4, h⟩ := gd_e h
        obtain ⟨g5, h⟩ := gd_e h
        refine AX.reg (its := [.auto {}, .auto {}, .auto {}, .auto { y := some (.be 2 (enc_si (gt p1 x4)) 0) }, .auto {}, .auto { nk := 1 }, .auto { y := some (.sl 2 0 ((v2 ++ ([((gt p1 x4).1, (gt p1 x4).2)] : List (ByteArray × Int))).length)), els := some (List.map enc_si v2), els2 := some (List.map enc_si ([((gt p1 x4).1, (gt p1 x4).2)] : List (ByteArray × Int))), nk := 2 }]) [0, 3, 4] [2] (s1 := ⟨[(0, .bs false 2 (List.map enc_si p1)), (3, .sl 2 0 ((v2 ++ ([((gt p1 x4).1, (gt p1 x4).2)] : List (ByteArray × Int))).length)), (4, .v (.int .i64 v3))], [(2, .arr 2 (List.map enc_si v2 ++ List.map enc_si ([((gt p1 x4).1, (gt p1 x4).2)] : List (ByteArray × Int))))]⟩) (C := ((0 ≤ x4 ∧ x4 < ((List.map enc_si p1).length : Int)) ∧ (AV.be 2 ((List.map enc_si p1).getD x4.toNat []) 0 = AV.be 2 (enc_si (gt p1 x4)) 0)) ∧ ((((((List.map enc_si v2).drop 0).take (v2.length) = List.map enc_si v2) ∧ (((List.map enc_si ([((gt p1 x4).1, (gt p1 x4).2)] : List (ByteArray × Int))).drop 0).take (([((gt p1 x4).1, (gt p1 x4).2)] : List (ByteArray × Int)).length) = List.map enc_si ([((gt p1 x4).1, (gt p1 x4).2)] : List (ByteArray × Int)))) ∧ (List.map enc_si v2).length + (List.map enc_si ([((gt p1 x4).1, (gt p1 x4).2)] : List (ByteArray × Int))).length ≤ 1099511627776) ∧ (AV.sl 2 0 (List.map enc_si v2 ++ List.map enc_si ([((gt p1 x4).1, (gt p1 x4).2)] : List (ByteArray × Int))).length = AV.sl 2 0 (v2 ++ ([((gt p1 x4).1, (gt p1 x4).2)] : List (ByteArray × Int))).length)) ∧ True) (by kernel_rfl) ⟨idx_bs enc_si p1 x4 2 g4, ⟨⟨⟨⟨(dt_all (enc := enc_si) rfl rfl), (dt_all (enc := enc_si) rfl rfl)⟩, (by simp only [List.length_map, List.length_nil, List.length_replicate]; simpa using g5)⟩, sl_len (enc := enc_si) (app_can (enc := enc_si) rfl (rfl))⟩, trivial⟩⟩ trivial ?_
        refine AX.reg (its := [.auto {}, .auto { raw := true }]) [0, 3, 4] [2] (s1 := ⟨[(0, .bs false 2 (List.map enc_si p1)), (3, .sl 2 0 ((v2 ++ ([((gt p1 x4).1, (gt p1 x4).2)] : List (ByteArray × Int))).length)), (4, .v (.int .i64 (IntKind.wrap .i64 (v3 * 2))))], [(2, .arr 2 (List.map enc_si v2 ++ List.map enc_si ([((gt p1 x4).1, (gt p1 x4).2)] : List (ByteArray × Int))))]⟩) (C := True) (by kernel_rfl) trivial trivial ?_
        refine ⟨(fu, (v2 ++ ([((gt p1 x4).1, (gt p1 x4).2)] : List (ByteArray × Int)), IntKind.wrap .i64 (v3 * 2))), h, Nat.lt_succ_self _, ?_⟩
        refine Wk.trans (Wk.swap 0 2 (Nat.le_of_ble_eq_true (by kernel_rfl)) (Nat.le_of_ble_eq_true (by kernel_rfl)) rfl) ?_
        refine Wk.trans (Wk.forget [0, 3, 4] [0] (s' := ⟨[(0, .bs false 2 (List.map enc_si p1)), (3, .sl 0 0 ((v2 ++ ([((gt p1 x4).1, (gt p1 x4).2)] : List (ByteArray × Int))).length)), (4, .v (.int .i64 (IntKind.wrap .i64 (v3 * 2))))], [(0, .arr 2 (List.map enc_si v2 ++ List.map enc_si ([((gt p1 x4).1, (gt p1 x4).2)] : List (ByteArray × Int))))]⟩) (by kernel_rfl)) ?_
        refine Wk.trans (Wk.of_eq (congrArg (fun z => (⟨[(0, .bs false 2 (List.map enc_si p1)), (3, .sl 0 0 ((v2 ++ ([((gt p1 x4).1, (gt p1 x4).2)] : List (ByteArray × Int))).length)), (4, .v (.int .i64 (IntKind.wrap .i64 (v3 * 2))))], [(0, .arr 2 (z))]⟩ : S)) (app_can (enc := enc_si) rfl (rfl) : List.map enc_si v2 ++ List.map enc_si ([((gt p1 x4).1, (gt p1 x4).2)] : List (ByteArray × Int)) = List.map enc_si (v2 ++ ([((gt p1 x4).1, (gt p1 x4).2)] : List (ByteArray × Int)))))) ?_
        exact Wk.refl _
      · replace h := cd_f b3 h
        refine AX.condF (decide (0 ≤ x4)) (by kernel_rfl) b3 ?_
        refine AX.skip ?_
        refine AX.reg (its := [.auto {}, .auto { raw := true }]) [0, 3, 4] [0] (s1 := ⟨[(0, .bs false 2 (List.map enc_si p1)), (3, .sl 0 0 v2.length), (4, .v (.int .i64 (IntKind.wrap .i64 (v3 * 2))))], [(0, .arr 2 (List.map enc_si v2))]⟩) (C := True) (by kernel_rfl) trivial trivial ?_
        refine ⟨(fu, (v2, IntKind.wrap .i64 (v3 * 2))), h, Nat.lt_succ_self _, ?_⟩
        refine Wk.trans (Wk.forget [0, 3, 4] [0] (s' := ⟨[(0, .bs false 2 (List.map enc_si p1)), (3, .sl 0 0 v2.length), (4, .v (.int .i64 (IntKind.wrap .i64 (v3 * 2))))], [(0, .arr 2 (List.map enc_si v2))]⟩) (by kernel_rfl)) ?_
        exact Wk.refl _
    · replace h := cd_f b1 h
      refine AX.condF (decide (v3 ≤ 4095)) (by kernel_rfl) b1 ?_
      refine AX.exit ?_
      refine fin_wk (Wk.forget [3] [0] (s' := ⟨[(3, .sl 0 0 v2.length)], [(0, .arr 2 (List.map enc_si v2))]⟩) (by kernel_rfl)) ?_
      have hr := Option.some.inj h
      subst hr
      exact ⟨_, Wk.refl _, ⟨rfl, rfl⟩⟩

theorem s_spec_singles (p1 : List (ByteArray × Int)) (r : List (ByteArray × Int)) (h : m_spec_singles p1 = some r) :
    Eng.Spec Try.prog 115 [.bs false 2 (List.map enc_si p1)] [] (.sl 0 0 r.length) [.arr 2 (List.map enc_si r)] := by
  unfold m_spec_singles at h
  refine Eng.Spec.body Try.func115 (by kernel_rfl) rfl (by kernel_rfl) ?_
  refine AX.wkpost ?_
  refine AX.seq ?_
  refine AX.reg (its := []) [0] [] (s1 := ⟨[(0, .bs false 2 (List.map enc_si p1))], []⟩) (C := True) (by kernel_rfl) trivial trivial ?_
  refine AX.seq ?_
  refine AX.reg (its := [.auto { nk := 0 }]) [0, 3] [0] (s1 := ⟨[(0, .bs false 2 (List.map enc_si p1)), (3, .sl 0 0 (([] : List (ByteArray × Int)).length))], [(0, .arr 2 (List.map enc_si ([] : List (ByteArray × Int))))]⟩) (C := True) (by kernel_rfl) trivial trivial ?_
  refine AX.seq ?_
  refine AX.seq ?_
  refine AX.reg (its := []) [0, 3, 4] [0] (s1 := ⟨[(0, .bs false 2 (List.map enc_si p1)), (3, .sl 0 0 (([] : List (ByteArray × Int)).length)), (4, .v (.int .i64 1))], [(0, .arr 2 (List.map enc_si ([] : List (ByteArray × Int))))]⟩) (C := True) (by kernel_rfl) trivial trivial ?_
  refine AX.block ?_
  obtain ⟨x5, e6, h⟩ := bd_e h
  refine AX.wk (Wk.forget [0, 3, 4] [0] (s' := ⟨[(0, .bs false 2 (List.map enc_si p1)), (3, .sl 0 0 (([] : List (ByteArray × Int)).length)), (4, .v (.int .i64 1))], [(0, .arr 2 (List.map enc_si ([] : List (ByteArray × Int))))]⟩) (by kernel_rfl)) ?_
  refine AX.mono (s_spec_singles_L1 p1 FU (([] : List (ByteArray × Int)), 1) x5 e6) ?_
  rintro _ _ ⟨rfl, rfl⟩
  skip
  refine AX.seq ?_
  refine AX.reg (its := []) [2] [0] (s1 := ⟨[(2, .sl 0 0 x5.length)], [(0, .arr 2 (List.map enc_si x5))]⟩) (C := True) (by kernel_rfl) trivial trivial ?_
  refine AX.ret ?_
  refine fin_wk (Wk.forget [2] [0] (s' := ⟨[(2, .sl 0 0 x5.length)], [(0, .arr 2 (List.map enc_si x5))]⟩) (by kernel_rfl)) ?_
  have hr := Option.some.inj h
  subst hr
  exact ⟨_, Wk.refl _, .inr rfl, ⟨[0], by kernel_rfl, ⟨rfl, trivial⟩, [.sl 0 0 x5.length], by kernel_rfl, by kernel_rfl⟩⟩

theorem s_spec_inside_L1 (p2 : Int) (x3 : List (ByteArray × Int)) (n : Nat) (g : (List (ByteArray × Int)) × Int) (out : List (ByteArray × Int)) (h : m_spec_inside_L1 p2 x3 n g.1 g.2 = some out) :
    AX Try.prog 33 0 (codeAt [1, 1, 1, 0, 1, 1] (bodyOf Try.f78)) ((fun g : (List (ByteArray × Int)) × Int => (⟨[(1, .v (.int .i64 p2)), (5, .sl 0 0 g.1.length), (6, .sl 1 0 x3.length), (7, .v (.int .i64 g.2))], [(0, .arr 2 (List.map enc_si g.1)), (1, .arr 2 (List.map enc_si x3))]⟩ : S)) g) (fun ex s => ex = .exit 0 ∧ s = (fun o : List (ByteArray × Int) => (⟨[(5, .sl 0 0 o.length)], [(0, .arr 2 (List.map enc_si o))]⟩ : S)) out) := by
  refine AX.wkpost ?_
  refine AX.loop (G := Nat × ((List (ByteArray × Int)) × Int)) (fun q => (fun g : (List (ByteArray × Int)) × Int => (⟨[(1, .v (.int .i64 p2)), (5, .sl 0 0 g.1.length), (6, .sl 1 0 x3.length), (7, .v (.int .i64 g.2))], [(0, .arr 2 (List.map enc_si g.1)), (1, .arr 2 (List.map enc_si x3))]⟩ : S)) q.2) (fun q => m_spec_inside_L1 p2 x3 q.1 q.2.1 q.2.2 = some out) (fun q => q.1) (n, g) h (Wk.refl _) ?_
  clear h
  rintro ⟨fu, v4, v5⟩ h
  cases fu with
  | zero => cases h
  | succ fu =>
    rw [m_spec_inside_L1] at h
    refine AX.seq ?_
    refine AX.seq ?_
    refine AX.reg (its := []) [1, 5, 6, 7, 14] [0, 1] (s1 := ⟨[(1, .v (.int .i64 p2)), (5, .sl 0 0 v4.length), (6, .sl 1 0 x3.length), (7, .v (.int .i64 v5)), (14, .v (.bool (decide (v5 < (x3.length : Int)))))], [(0, .arr 2 (List.map enc_si v4)), (1, .arr 2 (List.map enc_si x3))]⟩) (C := True) (by kernel_rfl) trivial trivial ?_
    rcases bool_cases (decide (v5 < (x3.length : Int))) with b2 | b2
    · replace h := cd_t b2 h
      refine AX.condT (decide (v5 < (x3.length : Int))) (by kernel_rfl) b2 ?_
      refine AX.skip ?_
      refine AX.seq ?_
      refine AX.block ?_
      refine AX.seq ?_
      obtain ⟨g3, h⟩ := gd_e h
      obtain ⟨x6, e4, h⟩ := bd_e h
      refine AX.reg (its := [.auto {}, .auto {}, .auto {}, .auto {}, .auto { y := some (.v (.int .i64 ((gt x3 v5).2))) }, .auto {}, .call 116 [.v (.int .i64 ((gt x3 v5).2)), .v (.int .i64 p2)] (handO (rho ([] ++ [])) [] [] ++ []) (callEv [] [] (.v (.int .i64 x6)) [])]) [1, 5, 6, 7, 24] [0, 1] (s1 := ⟨[(1, .v (.int .i64 p2)), (5, .sl 0 0 v4.length), (6, .sl 1 0 x3.length), (7, .v (.int .i64 v5)), (24, .v (.bool (decide (0 < x6))))], [(0, .arr 2 (List.map enc_si v4)), (1, .arr 2 (List.map enc_si x3))]⟩) (C := (0 ≤ v5 ∧ v5 < (x3.length : Int)) ∧ (True ∧ (AV.v (((List.map enc_si x3).getD (0 + v5.toNat) []).getD 1 undef) = .v (.int .i64 ((gt x3 v5).2)))) ∧ ((([.v (.int .i64 ((gt x3 v5).2)), .v (.int .i64 p2)] : List AV) = [.v (.int .i64 ((gt x3 v5).2)), .v (.int .i64 p2)]) ∧ True) ∧ True) (by kernel_rfl) ⟨g3, ⟨⟨trivial, (congrArg (fun z : List Value => AV.v (z.getD 1 undef)) (idx_arr (enc := enc_si) rfl g3))⟩, ⟨⟨rfl, trivial⟩, trivial⟩⟩⟩ ⟨call_ok (ks := []) (ns := []) (bor := []) (bobjs := []) (s_spec_both ((gt x3 v5).2) p2 x6 e4) (.cons (.c1 (.c0 (.same _ (by kernel_rfl) (by kernel_rfl)))) (.cons (.c1 (.c0 (.same _ (by kernel_rfl) (by kernel_rfl)))) (.nil))) (by kernel_rfl) trivial, trivial⟩ ?_
      rcases bool_cases (decide (0 < x6)) with b5 | b5
      · replace h := cd_t b5 h
        refine AX.condT (decide (0 < x6)) (by kernel_rfl) b5 ?_
        obtain ⟨g6, h⟩ := gd_e h
        refine AX.reg (its := [.auto {}, .auto {}, .auto {}, .auto {}, .auto { y := some (.agg [.v (.string ((gt x3 v5).1)), .v (.int .i64 ((gt x3 v5).2))]) }, .auto { nk := 2 }, .auto { y := some (.sl 3 0 ((v4 ++ ([((gt x3 v5).1, (gt x3 v5).2)] : List (ByteArray × Int))).length)), els := some (List.map enc_si v4), els2 := some (List.map enc_si ([((gt x3 v5).1, (gt x3 v5).2)] : List (ByteArray × Int))), nk := 3 }]) [1, 5, 6, 7] [1, 3] (s1 := ⟨[(1, .v (.int .i64 p2)), (5, .sl 3 0 ((v4 ++ ([((gt x3 v5).1, (gt x3 v5).2)] : List (ByteArray × Int))).length)), (6, .sl 1 0 x3.length), (7, .v (.int .i64 v5))], [(1, .arr 2 (List.map enc_si x3)), (3, .arr 2 (List.map enc_si v4 ++ List.map enc_si ([((gt x3 v5).1, (gt x3 v5).2)] : List (ByteArray × Int))))]⟩) (C := (0 ≤ v5 ∧ v5 < (x3.length : Int)) ∧ (True ∧ (AV.agg ((((List.map enc_si x3).getD (0 + v5.toNat) []).drop 0 |>.take 2).map .v) = .agg [.v (.string ((gt x3 v5).1)), .v (.int .i64 ((gt x3 v5).2))])) ∧ ((((((List.map enc_si v4).drop 0).take (v4.length) = List.map enc_si v4) ∧ (((List.map enc_si ([((gt x3 v5).1, (gt x3 v5).2)] : List (ByteArray × Int))).drop 0).take (([((gt x3 v5).1, (gt x3 v5).2)] : List (ByteArray × Int)).length) = List.map enc_si ([((gt x3 v5).1, (gt x3 v5).2)] : List (ByteArray × Int)))) ∧ (List.map enc_si v4).length + (List.map enc_si ([((gt x3 v5).1, (gt x3 v5).2)] : List (ByteArray × Int))).length ≤ 1099511627776) ∧ (AV.sl 3 0 (List.map enc_si v4 ++ List.map enc_si ([((gt x3 v5).1, (gt x3 v5).2)] : List (ByteArray × Int))).length = AV.sl 3 0 (v4 ++ ([((gt x3 v5).1, (gt x3 v5).2)] : List (ByteArray × Int))).length)) ∧ True) (by kernel_rfl) ⟨g3, ⟨⟨trivial, (congrArg (fun z : List Value => AV.agg (((z.drop 0).take 2).map .v)) (idx_arr (enc := enc_si) rfl g3))⟩, ⟨⟨⟨⟨(dt_all (enc := enc_si) rfl rfl), (dt_all (enc := enc_si) rfl rfl)⟩, (by simp only [List.length_map, List.length_nil, List.length_replicate]; simpa using g6)⟩, sl_len (enc := enc_si) (app_can (enc := enc_si) rfl (rfl))⟩, trivial⟩⟩⟩ trivial ?_
        refine AX.reg (its := [.auto {}, .auto { raw := true }]) [1, 5, 6, 7] [1, 3] (s1 := ⟨[(1, .v (.int .i64 p2)), (5, .sl 3 0 ((v4 ++ ([((gt x3 v5).1, (gt x3 v5).2)] : List (ByteArray × Int))).length)), (6, .sl 1 0 x3.length), (7, .v (.int .i64 (IntKind.wrap .i64 (v5 + 1))))], [(1, .arr 2 (List.map enc_si x3)), (3, .arr 2 (List.map enc_si v4 ++ List.map enc_si ([((gt x3 v5).1, (gt x3 v5).2)] : List (ByteArray × Int))))]⟩) (C := True) (by kernel_rfl) trivial trivial ?_
        refine ⟨(fu, (v4 ++ ([((gt x3 v5).1, (gt x3 v5).2)] : List (ByteArray × Int)), IntKind.wrap .i64 (v5 + 1))), h, Nat.lt_succ_self _, ?_⟩
        refine Wk.trans (Wk.swap 0 3 (Nat.le_of_ble_eq_true (by kernel_rfl)) (Nat.le_of_ble_eq_true (by kernel_rfl)) rfl) ?_
        refine Wk.trans (Wk.forget [1, 5, 6, 7] [0, 1] (s' := ⟨[(1, .v (.int .i64 p2)), (5, .sl 0 0 ((v4 ++ ([((gt x3 v5).1, (gt x3 v5).2)] : List (ByteArray × Int))).length)), (6, .sl 1 0 x3.length), (7, .v (.int .i64 (IntKind.wrap .i64 (v5 + 1))))], [(0, .arr 2 (List.map enc_si v4 ++ List.map enc_si ([((gt x3 v5).1, (gt x3 v5).2)] : List (ByteArray × Int)))), (1, .arr 2 (List.map enc_si x3))]⟩) (by kernel_rfl)) ?_
        refine Wk.trans (Wk.of_eq (congrArg (fun z => (⟨[(1, .v (.int .i64 p2)), (5, .sl 0 0 ((v4 ++ ([((gt x3 v5).1, (gt x3 v5).2)] : List (ByteArray × Int))).length)), (6, .sl 1 0 x3.length), (7, .v (.int .i64 (IntKind.wrap .i64 (v5 + 1))))], [(0, .arr 2 (z)), (1, .arr 2 (List.map enc_si x3))]⟩ : S)) (app_can (enc := enc_si) rfl (rfl) : List.map enc_si v4 ++ List.map enc_si ([((gt x3 v5).1, (gt x3 v5).2)] : List (ByteArray × Int)) = List.map enc_si (v4 ++ ([((gt x3 v5).1, (gt x3 v5).2)] : List (ByteArray × Int)))))) ?_
        exact Wk.refl _
      · replace h := cd_f b5 h
        refine AX.condF (decide (0 < x6)) (by kernel_rfl) b5 ?_
        refine AX.skip ?_
        refine AX.reg (its := [.auto {}, .auto { raw := true }]) [1, 5, 6, 7] [0, 1] (s1 := ⟨[(1, .v (.int .i64 p2)), (5, .sl 0 0 v4.length), (6, .sl 1 0 x3.length), (7, .v (.int .i64 (IntKind.wrap .i64 (v5 + 1))))], [(0, .arr 2 (List.map enc_si v4)), (1, .arr 2 (List.map enc_si x3))]⟩) (C := True) (by kernel_rfl) trivial trivial ?_
        refine ⟨(fu, (v4, IntKind.wrap .i64 (v5 + 1))), h, Nat.lt_succ_self _, ?_⟩
        refine Wk.trans (Wk.forget [1, 5, 6, 7] [0, 1] (s' := ⟨[(1, .v (.int .i64 p2)), (5, .sl 0 0 v4.length), (6, .sl 1 0 x3.length), (7, .v (.int .i64 (IntKind.wrap .i64 (v5 + 1))))], [(0, .arr 2 (List.map enc_si v4)), (1, .arr 2 (List.map enc_si x3))]⟩) (by kernel_rfl)) ?_
        exact Wk.refl _
    · replace h := cd_f b2 h
      refine AX.condF (decide (v5 < (x3.length : Int))) (by kernel_rfl) b2 ?_
      refine AX.exit ?_
      refine fin_wk (Wk.forget [5] [0] (s' := ⟨[(5, .sl 0 0 v4.length)], [(0, .arr 2 (List.map enc_si v4))]⟩) (by kernel_rfl)) ?_
      have hr := Option.some.inj h
      subst hr
      exact ⟨_, Wk.refl _, ⟨rfl, rfl⟩⟩

theorem s_spec_inside (p1 : List (ByteArray × Int)) (p2 : Int) (r : List (ByteArray × Int)) (h : m_spec_inside p1 p2 = some r) :
    Eng.Spec Try.prog 78 [.bs false 2 (List.map enc_si p1), .v (.int .i64 p2)] [] (.sl 0 0 r.length) [.arr 2 (List.map enc_si r)] := by
  unfold m_spec_inside at h
  refine Eng.Spec.body Try.func78 (by kernel_rfl) rfl (by kernel_rfl) ?_
  refine AX.wkpost ?_
  refine AX.seq ?_
  refine AX.reg (its := []) [0, 1] [] (s1 := ⟨[(0, .bs false 2 (List.map enc_si p1)), (1, .v (.int .i64 p2))], []⟩) (C := True) (by kernel_rfl) trivial trivial ?_
  refine AX.seq ?_
  refine AX.reg (its := [.auto { nk := 0 }]) [0, 1, 5] [0] (s1 := ⟨[(0, .bs false 2 (List.map enc_si p1)), (1, .v (.int .i64 p2)), (5, .sl 0 0 (([] : List (ByteArray × Int)).length))], [(0, .arr 2 (List.map enc_si ([] : List (ByteArray × Int))))]⟩) (C := True) (by kernel_rfl) trivial trivial ?_
  refine AX.seq ?_
  obtain ⟨x3, e1, h⟩ := bd_e h
  refine AX.reg (its := [.auto {}, .call 115 [.bs false 2 (List.map enc_si p1)] (handO (rho ([] ++ [1])) [] [] ++ []) (callEv [] [1] (.sl 0 0 x3.length) [.arr 2 (List.map enc_si x3)])]) [1, 5, 6] [0, 1] (s1 := ⟨[(1, .v (.int .i64 p2)), (5, .sl 0 0 (([] : List (ByteArray × Int)).length)), (6, .sl 1 0 x3.length)], [(0, .arr 2 (List.map enc_si ([] : List (ByteArray × Int)))), (1, .arr 2 (List.map enc_si x3))]⟩) (C := ((([.bs false 2 (List.map enc_si p1)] : List AV) = [.bs false 2 (List.map enc_si p1)]) ∧ True) ∧ True) (by kernel_rfl) ⟨⟨rfl, trivial⟩, trivial⟩ ⟨call_ok (ks := []) (ns := [1]) (bor := []) (bobjs := []) (s_spec_singles p1 x3 e1) (.cons (.c1 (.c0 (.same _ (by kernel_rfl) (by kernel_rfl)))) (.nil)) (by kernel_rfl) trivial, trivial⟩ ?_
  refine AX.seq ?_
  refine AX.seq ?_
  refine AX.reg (its := []) [1, 5, 6, 7] [0, 1] (s1 := ⟨[(1, .v (.int .i64 p2)), (5, .sl 0 0 (([] : List (ByteArray × Int)).length)), (6, .sl 1 0 x3.length), (7, .v (.int .i64 0))], [(0, .arr 2 (List.map enc_si ([] : List (ByteArray × Int)))), (1, .arr 2 (List.map enc_si x3))]⟩) (C := True) (by kernel_rfl) trivial trivial ?_
  refine AX.block ?_
  obtain ⟨x7, e7, h⟩ := bd_e h
  refine AX.wk (Wk.forget [1, 5, 6, 7] [0, 1] (s' := ⟨[(1, .v (.int .i64 p2)), (5, .sl 0 0 (([] : List (ByteArray × Int)).length)), (6, .sl 1 0 x3.length), (7, .v (.int .i64 0))], [(0, .arr 2 (List.map enc_si ([] : List (ByteArray × Int)))), (1, .arr 2 (List.map enc_si x3))]⟩) (by kernel_rfl)) ?_
  refine AX.mono (s_spec_inside_L1 p2 x3 FU (([] : List (ByteArray × Int)), 0) x7 e7) ?_
  rintro _ _ ⟨rfl, rfl⟩
  skip
  refine AX.seq ?_
  refine AX.reg (its := []) [4] [0] (s1 := ⟨[(4, .sl 0 0 x7.length)], [(0, .arr 2 (List.map enc_si x7))]⟩) (C := True) (by kernel_rfl) trivial trivial ?_
  refine AX.ret ?_
  refine fin_wk (Wk.forget [4] [0] (s' := ⟨[(4, .sl 0 0 x7.length)], [(0, .arr 2 (List.map enc_si x7))]⟩) (by kernel_rfl)) ?_
  have hr := Option.some.inj h
  subst hr
  exact ⟨_, Wk.refl _, .inr rfl, ⟨[0], by kernel_rfl, ⟨rfl, trivial⟩, [.sl 0 0 x7.length], by kernel_rfl, by kernel_rfl⟩⟩

theorem s_spec_namesOf_L1 (p1 : List (ByteArray × Int)) (n : Nat) (g : List (ByteArray) × Int) (out : List (ByteArray)) (h : m_spec_namesOf_L1 p1 n g.1 g.2 = some out) :
    AX Try.prog 21 0 (codeAt [1, 1, 0, 1, 1] (bodyOf Try.f77)) ((fun g : List (ByteArray) × Int => (⟨[(0, .bs false 2 (List.map enc_si p1)), (3, .sl 0 0 g.1.length), (4, .v (.int .i64 g.2))], [(0, .arr 1 (List.map enc_s g.1))]⟩ : S)) g) (fun ex s => ex = .exit 0 ∧ s = (fun o : List (ByteArray) => (⟨[(3, .sl 0 0 o.length)], [(0, .arr 1 (List.map enc_s o))]⟩ : S)) out) := by
  refine AX.wkpost ?_
  refine AX.loop (G := Nat × (List (ByteArray) × Int)) (fun q => (fun g : List (ByteArray) × Int => (⟨[(0, .bs false 2 (List.map enc_si p1)), (3, .sl 0 0 g.1.length), (4, .v (.int .i64 g.2))], [(0, .arr 1 (List.map enc_s g.1))]⟩ : S)) q.2) (fun q => m_spec_namesOf_L1 p1 q.1 q.2.1 q.2.2 = some out) (fun q => q.1) (n, g) h (Wk.refl _) ?_
  clear h
  rintro ⟨fu, v2, v3⟩ h
  cases fu with
  | zero => cases h
  | succ fu =>
    rw [m_spec_namesOf_L1] at h
    refine AX.seq ?_
    refine AX.seq ?_
    refine AX.reg (its := [.auto {}, .auto {}, .auto { y := some (.v (.int .i64 (p1.length : Int))) }]) [0, 3, 4, 9] [0] (s1 := ⟨[(0, .bs false 2 (List.map enc_si p1)), (3, .sl 0 0 v2.length), (4, .v (.int .i64 v3)), (9, .v (.bool (decide (v3 < (p1.length : Int)))))], [(0, .arr 1 (List.map enc_s v2))]⟩) (C := (True ∧ (AV.v (.int .i64 ((List.map enc_si p1).length : Int)) = AV.v (.int .i64 (p1.length : Int)))) ∧ True) (by kernel_rfl) ⟨⟨trivial, len_map enc_si p1⟩, trivial⟩ trivial ?_
    rcases bool_cases (decide (v3 < (p1.length : Int))) with b1 | b1
    · replace h := cd_t b1 h
      refine AX.condT (decide (v3 < (p1.length : Int))) (by kernel_rfl) b1 ?_
      refine AX.skip ?_
      refine AX.seq ?_
      refine AX.block ?_
      obtain ⟨g2, h⟩ := gd_e h
      obtain ⟨g3, h⟩ := gd_e h
      refine AX.reg (its := [.auto {}, .auto {}, .auto {}, .auto { y := some (.be 2 (enc_si (gt p1 v3)) 0) }, .auto {}, .auto {}, .auto { nk := 1 }, .auto { y := some (.sl 2 0 ((v2 ++ ([(gt p1 v3).1] : List (ByteArray))).length)), els := some (List.map enc_s v2), els2 := some (List.map enc_s ([(gt p1 v3).1] : List (ByteArray))), nk := 2 }]) [0, 3, 4] [2] (s1 := ⟨[(0, .bs false 2 (List.map enc_si p1)), (3, .sl 2 0 ((v2 ++ ([(gt p1 v3).1] : List (ByteArray))).length)), (4, .v (.int .i64 v3))], [(2, .arr 1 (List.map enc_s v2 ++ List.map enc_s ([(gt p1 v3).1] : List (ByteArray))))]⟩) (C := ((0 ≤ v3 ∧ v3 < ((List.map enc_si p1).length : Int)) ∧ (AV.be 2 ((List.map enc_si p1).getD v3.toNat []) 0 = AV.be 2 (enc_si (gt p1 v3)) 0)) ∧ ((((((List.map enc_s v2).drop 0).take (v2.length) = List.map enc_s v2) ∧ (((List.map enc_s ([(gt p1 v3).1] : List (ByteArray))).drop 0).take (([(gt p1 v3).1] : List (ByteArray)).length) = List.map enc_s ([(gt p1 v3).1] : List (ByteArray)))) ∧ (List.map enc_s v2).length + (List.map enc_s ([(gt p1 v3).1] : List (ByteArray))).length ≤ 1099511627776) ∧ (AV.sl 2 0 (List.map enc_s v2 ++ List.map enc_s ([(gt p1 v3).1] : List (ByteArray))).length = AV.sl 2 0 (v2 ++ ([(gt p1 v3).1] : List (ByteArray))).length)) ∧ True) (by kernel_rfl) ⟨idx_bs enc_si p1 v3 2 g2, ⟨⟨⟨⟨(dt_all (enc := enc_s) rfl rfl), (dt_all (enc := enc_s) rfl rfl)⟩, (by simp only [List.length_map, List.length_nil, List.length_replicate]; simpa using g3)⟩, sl_len (enc := enc_s) (app_can (enc := enc_s) rfl (rfl))⟩, trivial⟩⟩ trivial ?_
      refine AX.reg (its := [.auto {}, .auto { raw := true }]) [0, 3, 4] [2] (s1 := ⟨[(0, .bs false 2 (List.map enc_si p1)), (3, .sl 2 0 ((v2 ++ ([(gt p1 v3).1] : List (ByteArray))).length)), (4, .v (.int .i64 (IntKind.wrap .i64 (v3 + 1))))], [(2, .arr 1 (List.map enc_s v2 ++ List.map enc_s ([(gt p1 v3).1] : List (ByteArray))))]⟩) (C := True) (by kernel_rfl) trivial trivial ?_
      refine ⟨(fu, (v2 ++ ([(gt p1 v3).1] : List (ByteArray)), IntKind.wrap .i64 (v3 + 1))), h, Nat.lt_succ_self _, ?_⟩
      refine Wk.trans (Wk.swap 0 2 (Nat.le_of_ble_eq_true (by kernel_rfl)) (Nat.le_of_ble_eq_true (by kernel_rfl)) rfl) ?_
      refine Wk.trans (Wk.forget [0, 3, 4] [0] (s' := ⟨[(0, .bs false 2 (List.map enc_si p1)), (3, .sl 0 0 ((v2 ++ ([(gt p1 v3).1] : List (ByteArray))).length)), (4, .v (.int .i64 (IntKind.wrap .i64 (v3 + 1))))], [(0, .arr 1 (List.map enc_s v2 ++ List.map enc_s ([(gt p1 v3).1] : List (ByteArray))))]⟩) (by kernel_rfl)) ?_
      refine Wk.trans (Wk.of_eq (congrArg (fun z => (⟨[(0, .bs false 2 (List.map enc_si p1)), (3, .sl 0 0 ((v2 ++ ([(gt p1 v3).1] : List (ByteArray))).length)), (4, .v (.int .i64 (IntKind.wrap .i64 (v3 + 1))))], [(0, .arr 1 (z))]⟩ : S)) (app_can (enc := enc_s) rfl (rfl) : List.map enc_s v2 ++ List.map enc_s ([(gt p1 v3).1] : List (ByteArray)) = List.map enc_s (v2 ++ ([(gt p1 v3).1] : List (ByteArray)))))) ?_
      exact Wk.refl _
    · replace h := cd_f b1 h
      refine AX.condF (decide (v3 < (p1.length : Int))) (by kernel_rfl) b1 ?_
      refine AX.exit ?_
      refine fin_wk (Wk.forget [3] [0] (s' := ⟨[(3, .sl 0 0 v2.length)], [(0, .arr 1 (List.map enc_s v2))]⟩) (by kernel_rfl)) ?_
      have hr := Option.some.inj h
      subst hr
      exact ⟨_, Wk.refl _, ⟨rfl, rfl⟩⟩

theorem s_spec_namesOf (p1 : List (ByteArray × Int)) (r : List (ByteArray)) (h : m_spec_namesOf p1 = some r) :
    Eng.Spec Try.prog 77 [.bs false 2 (List.map enc_si p1)] [] (.sl 0 0 r.length) [.arr 1 (List.map enc_s r)] := by
  unfold m_spec_namesOf at h
  refine Eng.Spec.body Try.func77 (by kernel_rfl) rfl (by kernel_rfl) ?_
  refine AX.wkpost ?_
  refine AX.seq ?_
  refine AX.reg (its := []) [0] [] (s1 := ⟨[(0, .bs false 2 (List.map enc_si p1))], []⟩) (C := True) (by kernel_rfl) trivial trivial ?_
  refine AX.seq ?_
  refine AX.reg (its := [.auto { nk := 0 }]) [0, 3] [0] (s1 := ⟨[(0, .bs false 2 (List.map enc_si p1)), (3, .sl 0 0 (([] : List (ByteArray)).length))], [(0, .arr 1 (List.map enc_s ([] : List (ByteArray))))]⟩) (C := True) (by kernel_rfl) trivial trivial ?_
  refine AX.seq ?_
  refine AX.seq ?_
  refine AX.reg (its := []) [0, 3, 4] [0] (s1 := ⟨[(0, .bs false 2 (List.map enc_si p1)), (3, .sl 0 0 (([] : List (ByteArray)).length)), (4, .v (.int .i64 0))], [(0, .arr 1 (List.map enc_s ([] : List (ByteArray))))]⟩) (C := True) (by kernel_rfl) trivial trivial ?_
  refine AX.block ?_
  obtain ⟨x4, e4, h⟩ := bd_e h
  refine AX.wk (Wk.forget [0, 3, 4] [0] (s' := ⟨[(0, .bs false 2 (List.map enc_si p1)), (3, .sl 0 0 (([] : List (ByteArray)).length)), (4, .v (.int .i64 0))], [(0, .arr 1 (List.map enc_s ([] : List (ByteArray))))]⟩) (by kernel_rfl)) ?_
  refine AX.mono (s_spec_namesOf_L1 p1 FU (([] : List (ByteArray)), 0) x4 e4) ?_
  rintro _ _ ⟨rfl, rfl⟩
  skip
  refine AX.seq ?_
  refine AX.reg (its := []) [2] [0] (s1 := ⟨[(2, .sl 0 0 x4.length)], [(0, .arr 1 (List.map enc_s x4))]⟩) (C := True) (by kernel_rfl) trivial trivial ?_
  refine AX.ret ?_
  refine fin_wk (Wk.forget [2] [0] (s' := ⟨[(2, .sl 0 0 x4.length)], [(0, .arr 1 (List.map enc_s x4))]⟩) (by kernel_rfl)) ?_
  have hr := Option.some.inj h
  subst hr
  exact ⟨_, Wk.refl _, .inr rfl, ⟨[0], by kernel_rfl, ⟨rfl, trivial⟩, [.sl 0 0 x4.length], by kernel_rfl, by kernel_rfl⟩⟩

theorem s_spec_MembersIn (p1 : List (ByteArray × Int)) (p2 : Int) (r : List (ByteArray)) (h : m_spec_MembersIn p1 p2 = some r) :
    Eng.Spec Try.prog 31 [.agg [.bs false 2 (List.map enc_si p1)], .v (.int .i64 p2)] [] (.sl 0 0 r.length) [.arr 1 (List.map enc_s r)] := by
  unfold m_spec_MembersIn at h
  refine Eng.Spec.body Try.func31 (by kernel_rfl) rfl (by kernel_rfl) ?_
  refine AX.wkpost ?_
  refine AX.seq ?_
  refine AX.reg (its := [.auto { nk := 0 }]) [1, 2] [0] (s1 := ⟨[(1, .v (.int .i64 p2)), (2, .pt 0 0)], [(0, .box [.bs false 2 (List.map enc_si p1)])]⟩) (C := True) (by kernel_rfl) trivial trivial ?_
  refine AX.seq ?_
  refine AX.seq ?_
  obtain ⟨x3, e1, h⟩ := bd_e h
  refine AX.reg (its := [.auto {}, .call 74 [.agg [.bs false 2 (List.map enc_si p1)]] (handO (rho ([] ++ [])) [] [] ++ []) (callEv [] [] (.v (.bool x3)) [])]) [1, 2, 8] [0] (s1 := ⟨[(1, .v (.int .i64 p2)), (2, .pt 0 0), (8, .v (.bool (!x3)))], [(0, .box [.bs false 2 (List.map enc_si p1)])]⟩) (C := ((([.agg [.bs false 2 (List.map enc_si p1)]] : List AV) = [.agg [.bs false 2 (List.map enc_si p1)]]) ∧ True) ∧ True) (by kernel_rfl) ⟨⟨rfl, trivial⟩, trivial⟩ ⟨call_ok (ks := []) (ns := []) (bor := []) (bobjs := []) (s_spec_validEnum p1 x3 e1) (.cons (.c1 (.agg (.cons (.same _ (by kernel_rfl) (by kernel_rfl)) (.nil)))) (.nil)) (by kernel_rfl) trivial, trivial⟩ ?_
  rcases bool_cases ((!x3)) with b2 | b2
  · replace h := cd_t b2 h
    refine AX.condT ((!x3)) (by kernel_rfl) b2 ?_
    refine AX.seq ?_
    refine AX.reg (its := []) [4] [] (s1 := ⟨[(4, .v (.slice none 0 0))], []⟩) (C := True) (by kernel_rfl) trivial trivial ?_
    refine AX.ret ?_
    refine fin_wk (Wk.mat 4 0 1 (by kernel_rfl) (Nat.le_of_ble_eq_true (by kernel_rfl)) (by kernel_rfl) rfl) ?_
    refine fin_wk (Wk.forget [4] [0] (s' := ⟨[(4, .sl 0 0 (([] : List (ByteArray)).length))], [(0, .arr 1 (List.map enc_s ([] : List (ByteArray))))]⟩) (by kernel_rfl)) ?_
    have hr := Option.some.inj h
    subst hr
    exact ⟨_, Wk.refl _, .inr rfl, ⟨[0], by kernel_rfl, ⟨rfl, trivial⟩, [.sl 0 0 (([] : List (ByteArray)).length)], by kernel_rfl, by kernel_rfl⟩⟩
  · replace h := cd_f b2 h
    refine AX.condF ((!x3)) (by kernel_rfl) b2 ?_
    refine AX.skip ?_
    refine AX.seq ?_
    obtain ⟨x4, e3, h⟩ := bd_e h
    refine AX.reg (its := [.auto {}, .call 75 [.agg [.bs false 2 (List.map enc_si p1)]] (handO (rho ([] ++ [1])) [] [] ++ []) (callEv [] [1] (.sl 0 0 x4.length) [.arr 2 (List.map enc_si x4)]), .auto {}, .auto { nk := 2 }]) [1, 5] [1, 2] (s1 := ⟨[(1, .v (.int .i64 p2)), (5, .pt 2 0)], [(1, .arr 2 (List.map enc_si x4)), (2, .box [.sl 1 0 x4.length, .v (.int .i64 0)])]⟩) (C := ((([.agg [.bs false 2 (List.map enc_si p1)]] : List AV) = [.agg [.bs false 2 (List.map enc_si p1)]]) ∧ True) ∧ True) (by kernel_rfl) ⟨⟨rfl, trivial⟩, trivial⟩ ⟨call_ok (ks := []) (ns := [1]) (bor := []) (bobjs := []) (s_spec_rankDefs p1 x4 e3) (.cons (.c1 (.agg (.cons (.same _ (by kernel_rfl) (by kernel_rfl)) (.nil)))) (.nil)) (by kernel_rfl) trivial, trivial⟩ ?_
    refine AX.seq ?_
    refine AX.seq ?_
    obtain ⟨x5, e4, h⟩ := bd_e h
    refine AX.reg (its := [.auto {}, .auto {}, .call 76 [.agg [.sl 1 0 x4.length, .v (.int .i64 0)], .v (.int .i64 p2)] (handO (rho ([] ++ [])) [] [] ++ [(1, .arr 2 (List.map enc_si x4))]) (callEv [] [] (.v (.bool x5)) [])]) [1, 5, 15] [1, 2] (s1 := ⟨[(1, .v (.int .i64 p2)), (5, .pt 2 0), (15, .v (.bool (!x5)))], [(1, .arr 2 (List.map enc_si x4)), (2, .box [.sl 1 0 x4.length, .v (.int .i64 0)])]⟩) (C := ((([.agg [.sl 1 0 x4.length, .v (.int .i64 0)], .v (.int .i64 p2)] : List AV) = [.agg [.sl 1 0 x4.length, .v (.int .i64 0)], .v (.int .i64 p2)]) ∧ (AO.arr 2 (List.map enc_si x4) = AO.arr 2 (List.map enc_si x4)) ∧ True) ∧ True) (by kernel_rfl) ⟨⟨rfl, rfl, trivial⟩, trivial⟩ ⟨call_ok (ks := []) (ns := []) (bor := [1]) (bobjs := [(1, .arr 2 (List.map enc_si x4))]) (s_spec_isValue x4 0 p2 x5 e4) (.cons (.c1 (.agg (.cons (.arr rfl rfl ((rfl).trans (List.length_map ..).symm)) (.cons (.same _ (by kernel_rfl) (by kernel_rfl)) (.nil))))) (.cons (.c1 (.c0 (.same _ (by kernel_rfl) (by kernel_rfl)))) (.nil))) (by kernel_rfl) trivial, trivial⟩ ?_
    rcases bool_cases ((!x5)) with b5 | b5
    · replace h := cd_t b5 h
      refine AX.condT ((!x5)) (by kernel_rfl) b5 ?_
      refine AX.seq ?_
      refine AX.reg (its := []) [4] [] (s1 := ⟨[(4, .v (.slice none 0 0))], []⟩) (C := True) (by kernel_rfl) trivial trivial ?_
      refine AX.ret ?_
      refine fin_wk (Wk.mat 4 0 1 (by kernel_rfl) (Nat.le_of_ble_eq_true (by kernel_rfl)) (by kernel_rfl) rfl) ?_
      refine fin_wk (Wk.forget [4] [0] (s' := ⟨[(4, .sl 0 0 (([] : List (ByteArray)).length))], [(0, .arr 1 (List.map enc_s ([] : List (ByteArray))))]⟩) (by kernel_rfl)) ?_
      have hr := Option.some.inj h
      subst hr
      exact ⟨_, Wk.refl _, .inr rfl, ⟨[0], by kernel_rfl, ⟨rfl, trivial⟩, [.sl 0 0 (([] : List (ByteArray)).length)], by kernel_rfl, by kernel_rfl⟩⟩
    · replace h := cd_f b5 h
      refine AX.condF ((!x5)) (by kernel_rfl) b5 ?_
      refine AX.skip ?_
      refine AX.seq ?_
      obtain ⟨x6, e6, h⟩ := bd_e h
      obtain ⟨x7, e7, h⟩ := bd_e h
      refine AX.reg (its := [.auto {}, .auto {}, .auto {}, .call 78 [.sl 1 0 x4.length, .v (.int .i64 p2)] (handO (rho ([] ++ [3])) [] [] ++ [(1, .arr 2 (List.map enc_si x4))]) (callEv [] [3] (.sl 0 0 x6.length) [.arr 2 (List.map enc_si x6)]), .call 77 [.sl 3 0 x6.length] (handO (rho ([] ++ [4])) [] [] ++ [(3, .arr 2 (List.map enc_si x6))]) (callEv [] [4] (.sl 0 0 x7.length) [.arr 1 (List.map enc_s x7)])]) [4] [4] (s1 := ⟨[(4, .sl 4 0 x7.length)], [(4, .arr 1 (List.map enc_s x7))]⟩) (C := ((([.sl 1 0 x4.length, .v (.int .i64 p2)] : List AV) = [.sl 1 0 x4.length, .v (.int .i64 p2)]) ∧ (AO.arr 2 (List.map enc_si x4) = AO.arr 2 (List.map enc_si x4)) ∧ True) ∧ ((([.sl 3 0 x6.length] : List AV) = [.sl 3 0 x6.length]) ∧ (AO.arr 2 (List.map enc_si x6) = AO.arr 2 (List.map enc_si x6)) ∧ True) ∧ True) (by kernel_rfl) ⟨⟨rfl, rfl, trivial⟩, ⟨⟨rfl, rfl, trivial⟩, trivial⟩⟩ ⟨call_ok (ks := []) (ns := [3]) (bor := [1]) (bobjs := [(1, .arr 2 (List.map enc_si x4))]) (s_spec_inside x4 p2 x6 e6) (.cons (.c1 (.c0 (.arr rfl rfl ((rfl).trans (List.length_map ..).symm)))) (.cons (.c1 (.c0 (.same _ (by kernel_rfl) (by kernel_rfl)))) (.nil))) (by kernel_rfl) trivial, ⟨call_ok (ks := []) (ns := [4]) (bor := [3]) (bobjs := [(3, .arr 2 (List.map enc_si x6))]) (s_spec_namesOf x6 x7 e7) (.cons (.c1 (.c0 (.arr rfl rfl ((rfl).trans (List.length_map ..).symm)))) (.nil)) (by kernel_rfl) trivial, trivial⟩⟩ ?_
      refine AX.ret ?_
      refine fin_wk (Wk.swap 0 4 (Nat.le_of_ble_eq_true (by kernel_rfl)) (Nat.le_of_ble_eq_true (by kernel_rfl)) rfl) ?_
      refine fin_wk (Wk.forget [4] [0] (s' := ⟨[(4, .sl 0 0 x7.length)], [(0, .arr 1 (List.map enc_s x7))]⟩) (by kernel_rfl)) ?_
      have hr := Option.some.inj h
      subst hr
      exact ⟨_, Wk.refl _, .inr rfl, ⟨[0], by kernel_rfl, ⟨rfl, trivial⟩, [.sl 0 0 x7.length], by kernel_rfl, by kernel_rfl⟩⟩

theorem s_laws_equalTexts_L1 (p1 : List (ByteArray)) (p2 : List (ByteArray)) (n : Nat) (g : Int) (out : Unit ⊕ Unit) (h : m_laws_equalTexts_L1 p1 p2 n g = some out) :
    AX Try.prog 26 0 (codeAt [1, 1, 0, 1, 1] (bodyOf Try.f30)) ((fun g : Int => (⟨[(0, .bs false 1 (List.map enc_s p1)), (1, .bs false 1 (List.map enc_s p2)), (5, .v (.int .i64 g))], []⟩ : S)) g) (fun ex s => (∃ o : Unit, out = Sum.inl o ∧ ex = .ret ∧ s = ⟨[(4, .v (.bool false))], []⟩) ∨ (∃ o : Unit, out = Sum.inr o ∧ ex = .exit 0 ∧ s = ⟨[], []⟩)) := by
  refine AX.wkpost ?_
  refine AX.loop (G := Nat × (Int)) (fun q => (fun g : Int => (⟨[(0, .bs false 1 (List.map enc_s p1)), (1, .bs false 1 (List.map enc_s p2)), (5, .v (.int .i64 g))], []⟩ : S)) q.2) (fun q => m_laws_equalTexts_L1 p1 p2 q.1 q.2 = some out) (fun q => q.1) (n, g) h (Wk.refl _) ?_
  clear h
  rintro ⟨fu, v3⟩ h
  cases fu with
  | zero => cases h
  | succ fu =>
    rw [m_laws_equalTexts_L1] at h
    refine AX.seq ?_
    refine AX.seq ?_
    refine AX.reg (its := [.auto {}, .auto {}, .auto { y := some (.v (.int .i64 (p1.length : Int))) }]) [0, 1, 5, 14] [] (s1 := ⟨[(0, .bs false 1 (List.map enc_s p1)), (1, .bs false 1 (List.map enc_s p2)), (5, .v (.int .i64 v3)), (14, .v (.bool (decide (v3 < (p1.length : Int)))))], []⟩) (C := (True ∧ (AV.v (.int .i64 ((List.map enc_s p1).length : Int)) = AV.v (.int .i64 (p1.length : Int)))) ∧ True) (by kernel_rfl) ⟨⟨trivial, len_map enc_s p1⟩, trivial⟩ trivial ?_
    rcases bool_cases (decide (v3 < (p1.length : Int))) with b2 | b2
    · replace h := cd_t b2 h
      refine AX.condT (decide (v3 < (p1.length : Int))) (by kernel_rfl) b2 ?_
      refine AX.skip ?_
      refine AX.seq ?_
      refine AX.block ?_
      refine AX.seq ?_
      obtain ⟨g3, h⟩ := gd_e h
      obtain ⟨g4, h⟩ := gd_e h
      refine AX.drw mixed (its := [.auto {}, .auto {}, .auto { y := some (.be 1 (enc_s (gt p1 v3)) 0) }, .auto {}, .auto {}, .auto {}, .auto { y := some (.be 1 (enc_s (gt p2 v3)) 0) }]) [0, 1, 5, 25] [] (s1 := ⟨[(0, .bs false 1 (List.map enc_s p1)), (1, .bs false 1 (List.map enc_s p2)), (5, .v (.int .i64 v3)), (25, .v (.bool (!decide ((gt p1 v3) = (gt p2 v3)))))], []⟩) (C := ((0 ≤ v3 ∧ v3 < ((List.map enc_s p1).length : Int)) ∧ (AV.be 1 ((List.map enc_s p1).getD v3.toNat []) 0 = AV.be 1 (enc_s (gt p1 v3)) 0)) ∧ ((0 ≤ v3 ∧ v3 < ((List.map enc_s p2).length : Int)) ∧ (AV.be 1 ((List.map enc_s p2).getD v3.toNat []) 0 = AV.be 1 (enc_s (gt p2 v3)) 0)) ∧ True) (by kernel_rfl) ⟨idx_bs enc_s p1 v3 1 g3, ⟨idx_bs enc_s p2 v3 1 g4, trivial⟩⟩ trivial ?_
      rcases bool_cases ((!decide ((gt p1 v3) = (gt p2 v3)))) with b5 | b5
      · replace h := cd_t b5 h
        refine AX.condT ((!decide ((gt p1 v3) = (gt p2 v3)))) (by kernel_rfl) b5 ?_
        refine AX.seq ?_
        refine AX.reg (its := []) [4] [] (s1 := ⟨[(4, .v (.bool false))], []⟩) (C := True) (by kernel_rfl) trivial trivial ?_
        refine AX.ret ?_
        refine fin_wk (Wk.forget [4] [] (s' := ⟨[(4, .v (.bool false))], []⟩) (by kernel_rfl)) ?_
        have hr := Option.some.inj h
        subst hr
        exact ⟨_, Wk.refl _, .inl ⟨(), rfl, rfl, rfl⟩⟩
      · replace h := cd_f b5 h
        refine AX.condF ((!decide ((gt p1 v3) = (gt p2 v3)))) (by kernel_rfl) b5 ?_
        refine AX.skip ?_
        refine AX.reg (its := [.auto {}, .auto { raw := true }]) [0, 1, 5] [] (s1 := ⟨[(0, .bs false 1 (List.map enc_s p1)), (1, .bs false 1 (List.map enc_s p2)), (5, .v (.int .i64 (IntKind.wrap .i64 (v3 + 1))))], []⟩) (C := True) (by kernel_rfl) trivial trivial ?_
        refine ⟨(fu, IntKind.wrap .i64 (v3 + 1)), h, Nat.lt_succ_self _, ?_⟩
        refine Wk.trans (Wk.forget [0, 1, 5] [] (s' := ⟨[(0, .bs false 1 (List.map enc_s p1)), (1, .bs false 1 (List.map enc_s p2)), (5, .v (.int .i64 (IntKind.wrap .i64 (v3 + 1))))], []⟩) (by kernel_rfl)) ?_
        exact Wk.refl _
    · replace h := cd_f b2 h
      refine AX.condF (decide (v3 < (p1.length : Int))) (by kernel_rfl) b2 ?_
      refine AX.exit ?_
      refine fin_wk (Wk.forget [] [] (s' := ⟨[], []⟩) (by kernel_rfl)) ?_
      have hr := Option.some.inj h
      subst hr
      exact ⟨_, Wk.refl _, .inr ⟨(), rfl, rfl, rfl⟩⟩

theorem s_laws_equalTexts (p1 : List (ByteArray)) (p2 : List (ByteArray)) (r : Bool) (h : m_laws_equalTexts p1 p2 = some r) :
    Eng.Spec Try.prog 30 [.bs false 1 (List.map enc_s p1), .bs false 1 (List.map enc_s p2)] [] (.v (.bool r)) [] := by
  unfold m_laws_equalTexts at h
  refine Eng.Spec.body Try.func30 (by kernel_rfl) rfl (by kernel_rfl) ?_
  refine AX.wkpost ?_
  refine AX.seq ?_
  refine AX.reg (its := []) [0, 1] [] (s1 := ⟨[(0, .bs false 1 (List.map enc_s p1)), (1, .bs false 1 (List.map enc_s p2))], []⟩) (C := True) (by kernel_rfl) trivial trivial ?_
  refine AX.seq ?_
  refine AX.seq ?_
  refine AX.reg (its := [.auto {}, .auto { y := some (.v (.int .i64 (p1.length : Int))) }, .auto {}, .auto { y := some (.v (.int .i64 (p2.length : Int))) }]) [0, 1, 10] [] (s1 := ⟨[(0, .bs false 1 (List.map enc_s p1)), (1, .bs false 1 (List.map enc_s p2)), (10, .v (.bool (!decide ((p1.length : Int) = (p2.length : Int)))))], []⟩) (C := (True ∧ (AV.v (.int .i64 ((List.map enc_s p1).length : Int)) = AV.v (.int .i64 (p1.length : Int)))) ∧ (True ∧ (AV.v (.int .i64 ((List.map enc_s p2).length : Int)) = AV.v (.int .i64 (p2.length : Int)))) ∧ True) (by kernel_rfl) ⟨⟨trivial, len_map enc_s p1⟩, ⟨⟨trivial, len_map enc_s p2⟩, trivial⟩⟩ trivial ?_
  rcases bool_cases ((!decide ((p1.length : Int) = (p2.length : Int)))) with b1 | b1
  · replace h := cd_t b1 h
    refine AX.condT ((!decide ((p1.length : Int) = (p2.length : Int)))) (by kernel_rfl) b1 ?_
    refine AX.seq ?_
    refine AX.reg (its := []) [4] [] (s1 := ⟨[(4, .v (.bool false))], []⟩) (C := True) (by kernel_rfl) trivial trivial ?_
    refine AX.ret ?_
    refine fin_wk (Wk.forget [4] [] (s' := ⟨[(4, .v (.bool false))], []⟩) (by kernel_rfl)) ?_
    have hr := Option.some.inj h
    subst hr
    exact ⟨_, Wk.refl _, .inr rfl, ⟨[], by kernel_rfl, trivial, [.v (.bool false)], by kernel_rfl, by kernel_rfl⟩⟩
  · replace h := cd_f b1 h
    refine AX.condF ((!decide ((p1.length : Int) = (p2.length : Int)))) (by kernel_rfl) b1 ?_
    refine AX.skip ?_
    refine AX.seq ?_
    refine AX.seq ?_
    refine AX.reg (its := []) [0, 1, 5] [] (s1 := ⟨[(0, .bs false 1 (List.map enc_s p1)), (1, .bs false 1 (List.map enc_s p2)), (5, .v (.int .i64 0))], []⟩) (C := True) (by kernel_rfl) trivial trivial ?_
    refine AX.block ?_
    obtain ⟨x4, e6, h⟩ := bd_e h
    refine AX.wk (Wk.forget [0, 1, 5] [] (s' := ⟨[(0, .bs false 1 (List.map enc_s p1)), (1, .bs false 1 (List.map enc_s p2)), (5, .v (.int .i64 0))], []⟩) (by kernel_rfl)) ?_
    refine AX.mono (s_laws_equalTexts_L1 p1 p2 FU 0 x4 e6) ?_
    rintro _ _ (⟨x5, rfl, rfl, rfl⟩ | ⟨x6, rfl, rfl, rfl⟩)
    · replace h := sm_l h
      refine fin_wk (Wk.forget [4] [] (s' := ⟨[(4, .v (.bool false))], []⟩) (by kernel_rfl)) ?_
      have hr := Option.some.inj h
      subst hr
      exact ⟨_, Wk.refl _, .inr rfl, ⟨[], by kernel_rfl, trivial, [.v (.bool false)], by kernel_rfl, by kernel_rfl⟩⟩
    · replace h := sm_r h
      refine AX.seq ?_
      refine AX.reg (its := []) [4] [] (s1 := ⟨[(4, .v (.bool true))], []⟩) (C := True) (by kernel_rfl) trivial trivial ?_
      refine AX.ret ?_
      refine fin_wk (Wk.forget [4] [] (s' := ⟨[(4, .v (.bool true))], []⟩) (by kernel_rfl)) ?_
      have hr := Option.some.inj h
      subst hr
      exact ⟨_, Wk.refl _, .inr rfl, ⟨[], by kernel_rfl, trivial, [.v (.bool true)], by kernel_rfl, by kernel_rfl⟩⟩

theorem s_impl_FromNames_L1 (p1 : List (ByteArray × Int)) (p2 : Int) (p3 : List (ByteArray)) (n : Nat) (g : Int × Int) (out : Unit ⊕ Int) (h : m_impl_FromNames_L1 p1 p2 p3 n g.1 g.2 = some out) :
    AX Try.prog 35 0 (codeAt [1, 1, 1, 0, 1, 1] (bodyOf Try.f79)) ((fun g : Int × Int => (⟨[(2, .pt 0 0), (6, .v (.int .i64 g.1)), (13, .bs false 1 (List.map enc_s p3)), (14, .v (.int .i64 (p3.length : Int))), (15, .v (.int .i64 g.2))], [(0, .box [.bs false 2 (List.map enc_si p1), .v (.int .i64 p2)])]⟩ : S)) g) (fun ex s => (∃ o : Unit, out = Sum.inl o ∧ ex = .ret ∧ s = ⟨[(4, .v (.int .i64 0)), (5, .v (.bool false))], []⟩) ∨ (∃ o : Int, out = Sum.inr o ∧ ex = .exit 0 ∧ s = ⟨[(6, .v (.int .i64 o))], []⟩)) := by
  refine AX.wkpost ?_
  refine AX.loop (G := Nat × (Int × Int)) (fun q => (fun g : Int × Int => (⟨[(2, .pt 0 0), (6, .v (.int .i64 g.1)), (13, .bs false 1 (List.map enc_s p3)), (14, .v (.int .i64 (p3.length : Int))), (15, .v (.int .i64 g.2))], [(0, .box [.bs false 2 (List.map enc_si p1), .v (.int .i64 p2)])]⟩ : S)) q.2) (fun q => m_impl_FromNames_L1 p1 p2 p3 q.1 q.2.1 q.2.2 = some out) (fun q => q.1) (n, g) h (Wk.refl _) ?_
  clear h
  rintro ⟨fu, v5, v6⟩ h
  cases fu with
  | zero => cases h
  | succ fu =>
    rw [m_impl_FromNames_L1] at h
    refine AX.seq ?_
    refine AX.reg (its := []) [2, 6, 13, 14, 15, 16] [0] (s1 := ⟨[(2, .pt 0 0), (6, .v (.int .i64 v5)), (13, .bs false 1 (List.map enc_s p3)), (14, .v (.int .i64 (p3.length : Int))), (15, .v (.int .i64 v6)), (16, .v (.bool (decide (v6 < (p3.length : Int)))))], [(0, .box [.bs false 2 (List.map enc_si p1), .v (.int .i64 p2)])]⟩) (C := True) (by kernel_rfl) trivial trivial ?_
    refine AX.seq ?_
    rcases bool_cases (decide (v6 < (p3.length : Int))) with b3 | b3
    · replace h := cd_t b3 h
      refine AX.condT (decide (v6 < (p3.length : Int))) (by kernel_rfl) b3 ?_
      refine AX.skip ?_
      refine AX.seq ?_
      refine AX.block ?_
      refine AX.seq ?_
      obtain ⟨g4, h⟩ := gd_e h
      refine AX.reg (its := [.auto { y := some (.be 1 (enc_s (gt p3 v6)) 0) }]) [2, 6, 8, 13, 14, 15] [0] (s1 := ⟨[(2, .pt 0 0), (6, .v (.int .i64 v5)), (8, .v (.string (gt p3 v6))), (13, .bs false 1 (List.map enc_s p3)), (14, .v (.int .i64 (p3.length : Int))), (15, .v (.int .i64 v6))], [(0, .box [.bs false 2 (List.map enc_si p1), .v (.int .i64 p2)])]⟩) (C := ((0 ≤ v6 ∧ v6 < ((List.map enc_s p3).length : Int)) ∧ (AV.be 1 ((List.map enc_s p3).getD v6.toNat []) 0 = AV.be 1 (enc_s (gt p3 v6)) 0)) ∧ True) (by kernel_rfl) ⟨idx_bs enc_s p3 v6 1 g4, trivial⟩ trivial ?_
      refine AX.seq ?_
      obtain ⟨x7, e5, h⟩ := bd_e h
      refine AX.reg (its := [.auto {}, .auto {}, .auto {}, .call 105 [.bs false 2 (List.map enc_si p1), .v (.string (gt p3 v6))] (handO (rho ([] ++ [])) [] [] ++ []) (callEv [] [] (.v (.int .i64 x7)) [])]) [2, 6, 9, 13, 14, 15] [0] (s1 := ⟨[(2, .pt 0 0), (6, .v (.int .i64 v5)), (9, .v (.int .i64 x7)), (13, .bs false 1 (List.map enc_s p3)), (14, .v (.int .i64 (p3.length : Int))), (15, .v (.int .i64 v6))], [(0, .box [.bs false 2 (List.map enc_si p1), .v (.int .i64 p2)])]⟩) (C := ((([.bs false 2 (List.map enc_si p1), .v (.string (gt p3 v6))] : List AV) = [.bs false 2 (List.map enc_si p1), .v (.string (gt p3 v6))]) ∧ True) ∧ True) (by kernel_rfl) ⟨⟨rfl, trivial⟩, trivial⟩ ⟨call_ok (ks := []) (ns := []) (bor := []) (bobjs := []) (s_impl_named p1 (gt p3 v6) x7 e5) (.cons (.c1 (.c0 (.same _ (by kernel_rfl) (by kernel_rfl)))) (.cons (.c1 (.c0 (.same _ (by kernel_rfl) (by kernel_rfl)))) (.nil))) (by kernel_rfl) trivial, trivial⟩ ?_
      refine AX.seq ?_
      refine AX.seq ?_
      refine AX.reg (its := []) [2, 6, 9, 13, 14, 15, 24] [0] (s1 := ⟨[(2, .pt 0 0), (6, .v (.int .i64 v5)), (9, .v (.int .i64 x7)), (13, .bs false 1 (List.map enc_s p3)), (14, .v (.int .i64 (p3.length : Int))), (15, .v (.int .i64 v6)), (24, .v (.bool (decide (x7 < 0))))], [(0, .box [.bs false 2 (List.map enc_si p1), .v (.int .i64 p2)])]⟩) (C := True) (by kernel_rfl) trivial trivial ?_
      rcases bool_cases (decide (x7 < 0)) with b6 | b6
      · replace h := cd_t b6 h
        refine AX.condT (decide (x7 < 0)) (by kernel_rfl) b6 ?_
        refine AX.seq ?_
        refine AX.reg (its := []) [4, 5] [] (s1 := ⟨[(4, .v (.int .i64 0)), (5, .v (.bool false))], []⟩) (C := True) (by kernel_rfl) trivial trivial ?_
        refine AX.ret ?_
        refine fin_wk (Wk.forget [4, 5] [] (s' := ⟨[(4, .v (.int .i64 0)), (5, .v (.bool false))], []⟩) (by kernel_rfl)) ?_
        have hr := Option.some.inj h
        subst hr
        exact ⟨_, Wk.refl _, .inl ⟨(), rfl, rfl, rfl⟩⟩
      · replace h := cd_f b6 h
        refine AX.condF (decide (x7 < 0)) (by kernel_rfl) b6 ?_
        refine AX.skip ?_
        obtain ⟨g7, h⟩ := gd_e h
        refine AX.reg (its := [.auto {}, .auto {}, .auto {}, .auto {}, .auto { y := some (.be 2 (enc_si (gt p1 x7)) 0) }]) [2, 6, 13, 14, 15] [0] (s1 := ⟨[(2, .pt 0 0), (6, .v (.int .i64 (Go.bits .or .i64 v5 ((gt p1 x7).2)))), (13, .bs false 1 (List.map enc_s p3)), (14, .v (.int .i64 (p3.length : Int))), (15, .v (.int .i64 v6))], [(0, .box [.bs false 2 (List.map enc_si p1), .v (.int .i64 p2)])]⟩) (C := ((0 ≤ x7 ∧ x7 < ((List.map enc_si p1).length : Int)) ∧ (AV.be 2 ((List.map enc_si p1).getD x7.toNat []) 0 = AV.be 2 (enc_si (gt p1 x7)) 0)) ∧ True) (by kernel_rfl) ⟨idx_bs enc_si p1 x7 2 g7, trivial⟩ trivial ?_
        refine AX.reg (its := [.auto { raw := true }]) [2, 6, 13, 14, 15] [0] (s1 := ⟨[(2, .pt 0 0), (6, .v (.int .i64 (Go.bits .or .i64 v5 ((gt p1 x7).2)))), (13, .bs false 1 (List.map enc_s p3)), (14, .v (.int .i64 (p3.length : Int))), (15, .v (.int .i64 (IntKind.wrap .i64 (v6 + 1))))], [(0, .box [.bs false 2 (List.map enc_si p1), .v (.int .i64 p2)])]⟩) (C := True) (by kernel_rfl) trivial trivial ?_
        refine ⟨(fu, (Go.bits .or .i64 v5 ((gt p1 x7).2), IntKind.wrap .i64 (v6 + 1))), h, Nat.lt_succ_self _, ?_⟩
        refine Wk.trans (Wk.forget [2, 6, 13, 14, 15] [0] (s' := ⟨[(2, .pt 0 0), (6, .v (.int .i64 (Go.bits .or .i64 v5 ((gt p1 x7).2)))), (13, .bs false 1 (List.map enc_s p3)), (14, .v (.int .i64 (p3.length : Int))), (15, .v (.int .i64 (IntKind.wrap .i64 (v6 + 1))))], [(0, .box [.bs false 2 (List.map enc_si p1), .v (.int .i64 p2)])]⟩) (by kernel_rfl)) ?_
        exact Wk.refl _
    · replace h := cd_f b3 h
      refine AX.condF (decide (v6 < (p3.length : Int))) (by kernel_rfl) b3 ?_
      refine AX.exit ?_
      refine fin_wk (Wk.forget [6] [] (s' := ⟨[(6, .v (.int .i64 v5))], []⟩) (by kernel_rfl)) ?_
      have hr := Option.some.inj h
      subst hr
      exact ⟨_, Wk.refl _, .inr ⟨v5, rfl, rfl, rfl⟩⟩

theorem s_impl_FromNames (p1 : List (ByteArray × Int)) (p2 : Int) (p3 : List (ByteArray)) (r : Int × Bool) (h : m_impl_FromNames p1 p2 p3 = some r) :
    Eng.Spec Try.prog 79 [.agg [.bs false 2 (List.map enc_si p1), .v (.int .i64 p2)], .bs false 1 (List.map enc_s p3)] [] (.tup [.v (.int .i64 r.1), .v (.bool r.2)]) [] := by
  unfold m_impl_FromNames at h
  refine Eng.Spec.body Try.func79 (by kernel_rfl) rfl (by kernel_rfl) ?_
  refine AX.wkpost ?_
  refine AX.seq ?_
  refine AX.reg (its := [.auto { nk := 0 }]) [1, 2] [0] (s1 := ⟨[(1, .bs false 1 (List.map enc_s p3)), (2, .pt 0 0)], [(0, .box [.bs false 2 (List.map enc_si p1), .v (.int .i64 p2)])]⟩) (C := True) (by kernel_rfl) trivial trivial ?_
  refine AX.seq ?_
  refine AX.seq ?_
  obtain ⟨x4, e1, h⟩ := bd_e h
  refine AX.reg (its := [.auto {}, .call 20 [.agg [.bs false 2 (List.map enc_si p1), .v (.int .i64 p2)]] (handO (rho ([] ++ [])) [] [] ++ []) (callEv [] [] (.v (.bool x4)) [])]) [1, 2, 12] [0] (s1 := ⟨[(1, .bs false 1 (List.map enc_s p3)), (2, .pt 0 0), (12, .v (.bool (!x4)))], [(0, .box [.bs false 2 (List.map enc_si p1), .v (.int .i64 p2)])]⟩) (C := ((([.agg [.bs false 2 (List.map enc_si p1), .v (.int .i64 p2)]] : List AV) = [.agg [.bs false 2 (List.map enc_si p1), .v (.int .i64 p2)]]) ∧ True) ∧ True) (by kernel_rfl) ⟨⟨rfl, trivial⟩, trivial⟩ ⟨call_ok (ks := []) (ns := []) (bor := []) (bobjs := []) (s_impl_ValidFlag p1 p2 x4 e1) (.cons (.c1 (.agg (.cons (.same _ (by kernel_rfl) (by kernel_rfl)) (.cons (.same _ (by kernel_rfl) (by kernel_rfl)) (.nil))))) (.nil)) (by kernel_rfl) trivial, trivial⟩ ?_
  rcases bool_cases ((!x4)) with b2 | b2
  · replace h := cd_t b2 h
    refine AX.condT ((!x4)) (by kernel_rfl) b2 ?_
    refine AX.seq ?_
    refine AX.reg (its := []) [4, 5] [] (s1 := ⟨[(4, .v (.int .i64 0)), (5, .v (.bool false))], []⟩) (C := True) (by kernel_rfl) trivial trivial ?_
    refine AX.ret ?_
    refine fin_wk (Wk.forget [4, 5] [] (s' := ⟨[(4, .v (.int .i64 0)), (5, .v (.bool false))], []⟩) (by kernel_rfl)) ?_
    have hr := Option.some.inj h
    subst hr
    exact ⟨_, Wk.refl _, .inr rfl, ⟨[], by kernel_rfl, trivial, [.v (.int .i64 0), .v (.bool false)], by kernel_rfl, by kernel_rfl⟩⟩
  · replace h := cd_f b2 h
    refine AX.condF ((!x4)) (by kernel_rfl) b2 ?_
    refine AX.skip ?_
    refine AX.seq ?_
    refine AX.reg (its := []) [1, 2, 6] [0] (s1 := ⟨[(1, .bs false 1 (List.map enc_s p3)), (2, .pt 0 0), (6, .v (.int .i64 0))], [(0, .box [.bs false 2 (List.map enc_si p1), .v (.int .i64 p2)])]⟩) (C := True) (by kernel_rfl) trivial trivial ?_
    refine AX.seq ?_
    refine AX.seq ?_
    refine AX.reg (its := [.auto {}, .auto { y := some (.v (.int .i64 (p3.length : Int))) }]) [2, 6, 13, 14, 15] [0] (s1 := ⟨[(2, .pt 0 0), (6, .v (.int .i64 0)), (13, .bs false 1 (List.map enc_s p3)), (14, .v (.int .i64 (p3.length : Int))), (15, .v (.int .i64 0))], [(0, .box [.bs false 2 (List.map enc_si p1), .v (.int .i64 p2)])]⟩) (C := (True ∧ (AV.v (.int .i64 ((List.map enc_s p3).length : Int)) = AV.v (.int .i64 (p3.length : Int)))) ∧ True) (by kernel_rfl) ⟨⟨trivial, len_map enc_s p3⟩, trivial⟩ trivial ?_
    refine AX.block ?_
    obtain ⟨x8, e8, h⟩ := bd_e h
    refine AX.wk (Wk.forget [2, 6, 13, 14, 15] [0] (s' := ⟨[(2, .pt 0 0), (6, .v (.int .i64 0)), (13, .bs false 1 (List.map enc_s p3)), (14, .v (.int .i64 (p3.length : Int))), (15, .v (.int .i64 0))], [(0, .box [.bs false 2 (List.map enc_si p1), .v (.int .i64 p2)])]⟩) (by kernel_rfl)) ?_
    refine AX.mono (s_impl_FromNames_L1 p1 p2 p3 FU (0, 0) x8 e8) ?_
    rintro _ _ (⟨x9, rfl, rfl, rfl⟩ | ⟨x10, rfl, rfl, rfl⟩)
    · replace h := sm_l h
      refine fin_wk (Wk.forget [4, 5] [] (s' := ⟨[(4, .v (.int .i64 0)), (5, .v (.bool false))], []⟩) (by kernel_rfl)) ?_
      have hr := Option.some.inj h
      subst hr
      exact ⟨_, Wk.refl _, .inr rfl, ⟨[], by kernel_rfl, trivial, [.v (.int .i64 0), .v (.bool false)], by kernel_rfl, by kernel_rfl⟩⟩
    · replace h := sm_r h
      refine AX.seq ?_
      refine AX.reg (its := []) [4, 5] [] (s1 := ⟨[(4, .v (.int .i64 x10)), (5, .v (.bool true))], []⟩) (C := True) (by kernel_rfl) trivial trivial ?_
      refine AX.ret ?_
      refine fin_wk (Wk.forget [4, 5] [] (s' := ⟨[(4, .v (.int .i64 x10)), (5, .v (.bool true))], []⟩) (by kernel_rfl)) ?_
      have hr := Option.some.inj h
      subst hr
      exact ⟨_, Wk.refl _, .inr rfl, ⟨[], by kernel_rfl, trivial, [.v (.int .i64 x10), .v (.bool true)], by kernel_rfl, by kernel_rfl⟩⟩

theorem s_impl_SetOf (p1 : List (ByteArray × Int)) (p2 : List (ByteArray)) (r : Int × Bool) (h : m_impl_SetOf p1 p2 = some r) :
    Eng.Spec Try.prog 32 [.agg [.bs false 2 (List.map enc_si p1)], .bs false 1 (List.map enc_s p2)] [] (.tup [.v (.int .i64 r.1), .v (.bool r.2)]) [] := by
  unfold m_impl_SetOf at h
  refine Eng.Spec.body Try.func32 (by kernel_rfl) rfl (by kernel_rfl) ?_
  refine AX.wkpost ?_
  refine AX.seq ?_
  refine AX.reg (its := [.auto { nk := 0 }]) [1, 2] [0] (s1 := ⟨[(1, .bs false 1 (List.map enc_s p2)), (2, .pt 0 0)], [(0, .box [.bs false 2 (List.map enc_si p1)])]⟩) (C := True) (by kernel_rfl) trivial trivial ?_
  refine AX.seq ?_
  refine AX.seq ?_
  obtain ⟨x3, e1, h⟩ := bd_e h
  refine AX.reg (its := [.auto {}, .call 70 [.agg [.bs false 2 (List.map enc_si p1)]] (handO (rho ([] ++ [])) [] [] ++ []) (callEv [] [] (.v (.bool x3)) [])]) [1, 2, 8] [0] (s1 := ⟨[(1, .bs false 1 (List.map enc_s p2)), (2, .pt 0 0), (8, .v (.bool (!x3)))], [(0, .box [.bs false 2 (List.map enc_si p1)])]⟩) (C := ((([.agg [.bs false 2 (List.map enc_si p1)]] : List AV) = [.agg [.bs false 2 (List.map enc_si p1)]]) ∧ True) ∧ True) (by kernel_rfl) ⟨⟨rfl, trivial⟩, trivial⟩ ⟨call_ok (ks := []) (ns := []) (bor := []) (bobjs := []) (s_impl_ValidEnum p1 x3 e1) (.cons (.c1 (.agg (.cons (.same _ (by kernel_rfl) (by kernel_rfl)) (.nil)))) (.nil)) (by kernel_rfl) trivial, trivial⟩ ?_
  rcases bool_cases ((!x3)) with b2 | b2
  · replace h := cd_t b2 h
    refine AX.condT ((!x3)) (by kernel_rfl) b2 ?_
    refine AX.seq ?_
    refine AX.reg (its := []) [4, 5] [] (s1 := ⟨[(4, .v (.int .i64 0)), (5, .v (.bool false))], []⟩) (C := True) (by kernel_rfl) trivial trivial ?_
    refine AX.ret ?_
    refine fin_wk (Wk.forget [4, 5] [] (s' := ⟨[(4, .v (.int .i64 0)), (5, .v (.bool false))], []⟩) (by kernel_rfl)) ?_
    have hr := Option.some.inj h
    subst hr
    exact ⟨_, Wk.refl _, .inr rfl, ⟨[], by kernel_rfl, trivial, [.v (.int .i64 0), .v (.bool false)], by kernel_rfl, by kernel_rfl⟩⟩
  · replace h := cd_f b2 h
    refine AX.condF ((!x3)) (by kernel_rfl) b2 ?_
    refine AX.skip ?_
    refine AX.seq ?_
    obtain ⟨x4, e3, h⟩ := bd_e h
    obtain ⟨x5, e4, h⟩ := bd_e h
    refine AX.reg (its := [.auto {}, .call 71 [.agg [.bs false 2 (List.map enc_si p1)]] (handO (rho ([] ++ [1])) [] [] ++ []) (callEv [] [1] (.agg [.sl 0 0 x4.length, .v (.int .i64 0)]) [.arr 2 (List.map enc_si x4)]), .auto {}, .call 79 [.agg [.sl 1 0 x4.length, .v (.int .i64 0)], .bs false 1 (List.map enc_s p2)] (handO (rho ([] ++ [])) [] [] ++ [(1, .arr 2 (List.map enc_si x4))]) (callEv [] [] (.tup [.v (.int .i64 x5.1), .v (.bool x5.2)]) [])]) [4, 5] [] (s1 := ⟨[(4, .v (.int .i64 x5.1)), (5, .v (.bool x5.2))], []⟩) (C := ((([.agg [.bs false 2 (List.map enc_si p1)]] : List AV) = [.agg [.bs false 2 (List.map enc_si p1)]]) ∧ True) ∧ ((([.agg [.sl 1 0 x4.length, .v (.int .i64 0)], .bs false 1 (List.map enc_s p2)] : List AV) = [.agg [.sl 1 0 x4.length, .v (.int .i64 0)], .bs false 1 (List.map enc_s p2)]) ∧ (AO.arr 2 (List.map enc_si x4) = AO.arr 2 (List.map enc_si x4)) ∧ True) ∧ True) (by kernel_rfl) ⟨⟨rfl, trivial⟩, ⟨⟨rfl, rfl, trivial⟩, trivial⟩⟩ ⟨call_ok (ks := []) (ns := [1]) (bor := []) (bobjs := []) (s_impl_FlagOf p1 x4 e3) (.cons (.c1 (.agg (.cons (.same _ (by kernel_rfl) (by kernel_rfl)) (.nil)))) (.nil)) (by kernel_rfl) trivial, ⟨call_ok (ks := []) (ns := []) (bor := [1]) (bobjs := [(1, .arr 2 (List.map enc_si x4))]) (s_impl_FromNames x4 0 p2 x5 e4) (.cons (.c1 (.agg (.cons (.arr rfl rfl ((rfl).trans (List.length_map ..).symm)) (.cons (.same _ (by kernel_rfl) (by kernel_rfl)) (.nil))))) (.cons (.c1 (.c0 (.same _ (by kernel_rfl) (by kernel_rfl)))) (.nil))) (by kernel_rfl) trivial, trivial⟩⟩ ?_
    refine AX.ret ?_
    refine fin_wk (Wk.forget [4, 5] [] (s' := ⟨[(4, .v (.int .i64 x5.1)), (5, .v (.bool x5.2))], []⟩) (by kernel_rfl)) ?_
    have hr := Option.some.inj h
    subst hr
    exact ⟨_, Wk.refl _, .inr rfl, ⟨[], by kernel_rfl, trivial, [.v (.int .i64 x5.1), .v (.bool x5.2)], by kernel_rfl, by kernel_rfl⟩⟩

theorem s_laws_FnMembersIn (p1 : List (Int)) (r : Bool) (h : m_laws_FnMembersIn p1 = some r) :
    Eng.Spec Try.prog 6 [.bs true 1 (List.map enc_y p1)] [] (.v (.bool r)) [] := by
  unfold m_laws_FnMembersIn at h
  refine Eng.Spec.body Try.func6 (by kernel_rfl) rfl (by kernel_rfl) ?_
  refine AX.wkpost ?_
  refine AX.seq ?_
  refine AX.reg (its := []) [0] [] (s1 := ⟨[(0, .bs true 1 (List.map enc_y p1))], []⟩) (C := True) (by kernel_rfl) trivial trivial ?_
  refine AX.seq ?_
  refine AX.seq ?_
  refine AX.reg (its := [.auto {}, .auto { y := some (.v (.int .i64 (p1.length : Int))) }]) [0, 10] [] (s1 := ⟨[(0, .bs true 1 (List.map enc_y p1)), (10, .v (.bool (decide (1048576 < (p1.length : Int)))))], []⟩) (C := (True ∧ (AV.v (.int .i64 ((List.map enc_y p1).length : Int)) = AV.v (.int .i64 (p1.length : Int)))) ∧ True) (by kernel_rfl) ⟨⟨trivial, len_map enc_y p1⟩, trivial⟩ trivial ?_
  rcases bool_cases (decide (1048576 < (p1.length : Int))) with b1 | b1
  · replace h := cd_t b1 h
    refine AX.condT (decide (1048576 < (p1.length : Int))) (by kernel_rfl) b1 ?_
    refine AX.seq ?_
    refine AX.reg (its := []) [2] [] (s1 := ⟨[(2, .v (.bool true))], []⟩) (C := True) (by kernel_rfl) trivial trivial ?_
    refine AX.ret ?_
    refine fin_wk (Wk.forget [2] [] (s' := ⟨[(2, .v (.bool true))], []⟩) (by kernel_rfl)) ?_
    have hr := Option.some.inj h
    subst hr
    exact ⟨_, Wk.refl _, .inr rfl, ⟨[], by kernel_rfl, trivial, [.v (.bool true)], by kernel_rfl, by kernel_rfl⟩⟩
  · replace h := cd_f b1 h
    refine AX.condF (decide (1048576 < (p1.length : Int))) (by kernel_rfl) b1 ?_
    refine AX.skip ?_
    refine AX.seq ?_
    obtain ⟨x2, e2, h⟩ := bd_e h
    refine AX.reg (its := [.auto {}, .call 28 [.bs true 1 (List.map enc_y p1)] (handO (rho ([] ++ [0])) [] [] ++ []) (callEv [] [0] (.tup [.agg [.sl 0 0 x2.1.length], .v (.int .i64 x2.2)]) [.arr 2 (List.map enc_si x2.1)]), .auto {}, .auto {}, .auto {}, .auto { nk := 1 }]) [3, 4] [0, 1] (s1 := ⟨[(3, .pt 1 0), (4, .v (.int .i64 x2.2))], [(0, .arr 2 (List.map enc_si x2.1)), (1, .box [.sl 0 0 x2.1.length])]⟩) (C := ((([.bs true 1 (List.map enc_y p1)] : List AV) = [.bs true 1 (List.map enc_y p1)]) ∧ True) ∧ True) (by kernel_rfl) ⟨⟨rfl, trivial⟩, trivial⟩ ⟨call_ok (ks := []) (ns := [0]) (bor := []) (bobjs := []) (s_spec_DrawMembersIn p1 x2 e2) (.cons (.c1 (.c0 (.same _ (by kernel_rfl) (by kernel_rfl)))) (.nil)) (by kernel_rfl) trivial, trivial⟩ ?_
    refine AX.seq ?_
    obtain ⟨x3, e3, h⟩ := bd_e h
    refine AX.reg (its := [.auto {}, .auto {}, .call 29 [.agg [.sl 0 0 x2.1.length], .v (.int .i64 x2.2)] (handO (rho ([] ++ [2])) [] [] ++ [(0, .arr 2 (List.map enc_si x2.1))]) (callEv [] [2] (.sl 0 0 x3.length) [.arr 1 (List.map enc_s x3)])]) [3, 4, 5] [0, 1, 2] (s1 := ⟨[(3, .pt 1 0), (4, .v (.int .i64 x2.2)), (5, .sl 2 0 x3.length)], [(0, .arr 2 (List.map enc_si x2.1)), (1, .box [.sl 0 0 x2.1.length]), (2, .arr 1 (List.map enc_s x3))]⟩) (C := ((([.agg [.sl 0 0 x2.1.length], .v (.int .i64 x2.2)] : List AV) = [.agg [.sl 0 0 x2.1.length], .v (.int .i64 x2.2)]) ∧ (AO.arr 2 (List.map enc_si x2.1) = AO.arr 2 (List.map enc_si x2.1)) ∧ True) ∧ True) (by kernel_rfl) ⟨⟨rfl, rfl, trivial⟩, trivial⟩ ⟨call_ok (ks := []) (ns := [2]) (bor := [0]) (bobjs := [(0, .arr 2 (List.map enc_si x2.1))]) (s_impl_MembersIn x2.1 x2.2 x3 e3) (.cons (.c1 (.agg (.cons (.arr rfl rfl ((rfl).trans (List.length_map ..).symm)) (.nil)))) (.cons (.c1 (.c0 (.same _ (by kernel_rfl) (by kernel_rfl)))) (.nil))) (by kernel_rfl) trivial, trivial⟩ ?_
    refine AX.seq ?_
    refine AX.seq ?_
    obtain ⟨x4, e4, h⟩ := bd_e h
    obtain ⟨x5, e5, h⟩ := bd_e h
    rcases bool_cases ((!x5)) with b6 | b6
    · replace h := cd_t b6 h
      refine AX.reg (its := [.auto {}, .auto {}, .auto {}, .call 31 [.agg [.sl 0 0 x2.1.length], .v (.int .i64 x2.2)] (handO (rho ([] ++ [3])) [] [] ++ [(0, .arr 2 (List.map enc_si x2.1))]) (callEv [] [3] (.sl 0 0 x4.length) [.arr 1 (List.map enc_s x4)]), .call 30 [.sl 2 0 x3.length, .sl 3 0 x4.length] (handO (rho ([] ++ [])) [] [] ++ [(2, .arr 1 (List.map enc_s x3)), (3, .arr 1 (List.map enc_s x4))]) (callEv [] [] (.v (.bool x5)) []), .auto { y := some (.v (.bool true)) }]) [3, 4, 5, 29] [0, 1, 2] (s1 := ⟨[(3, .pt 1 0), (4, .v (.int .i64 x2.2)), (5, .sl 2 0 x3.length), (29, .v (.bool true))], [(0, .arr 2 (List.map enc_si x2.1)), (1, .box [.sl 0 0 x2.1.length]), (2, .arr 1 (List.map enc_s x3))]⟩) (C := ((([.agg [.sl 0 0 x2.1.length], .v (.int .i64 x2.2)] : List AV) = [.agg [.sl 0 0 x2.1.length], .v (.int .i64 x2.2)]) ∧ (AO.arr 2 (List.map enc_si x2.1) = AO.arr 2 (List.map enc_si x2.1)) ∧ True) ∧ ((([.sl 2 0 x3.length, .sl 3 0 x4.length] : List AV) = [.sl 2 0 x3.length, .sl 3 0 x4.length]) ∧ (AO.arr 1 (List.map enc_s x3) = AO.arr 1 (List.map enc_s x3)) ∧ (AO.arr 1 (List.map enc_s x4) = AO.arr 1 (List.map enc_s x4)) ∧ True) ∧ ((True) ∧ ((.v (.bool (!x5)) : AV) = (.v (.bool true) : AV))) ∧ True) (by kernel_rfl) ⟨⟨rfl, rfl, trivial⟩, ⟨⟨rfl, rfl, rfl, trivial⟩, ⟨⟨trivial, (congrArg (fun z => AV.v (.bool z)) b6)⟩, trivial⟩⟩⟩ ⟨call_ok (ks := []) (ns := [3]) (bor := [0]) (bobjs := [(0, .arr 2 (List.map enc_si x2.1))]) (s_spec_MembersIn x2.1 x2.2 x4 e4) (.cons (.c1 (.agg (.cons (.arr rfl rfl ((rfl).trans (List.length_map ..).symm)) (.nil)))) (.cons (.c1 (.c0 (.same _ (by kernel_rfl) (by kernel_rfl)))) (.nil))) (by kernel_rfl) trivial, ⟨call_ok (ks := []) (ns := []) (bor := [2, 3]) (bobjs := [(2, .arr 1 (List.map enc_s x3)), (3, .arr 1 (List.map enc_s x4))]) (s_laws_equalTexts x3 x4 x5 e5) (.cons (.c1 (.c0 (.arr rfl rfl ((rfl).trans (List.length_map ..).symm)))) (.cons (.c1 (.c0 (.arr rfl rfl ((rfl).trans (List.length_map ..).symm)))) (.nil))) (by kernel_rfl) trivial, trivial⟩⟩ ?_
      refine AX.cond_true (by kernel_rfl) ?_
      refine AX.seq ?_
      obtain ⟨x6, e7, h⟩ := bd_e h
      obtain ⟨x7, e8, h⟩ := bd_e h
      refine AX.reg (its := [.auto {}, .auto {}, .auto {}, .call 31 [.agg [.sl 0 0 x2.1.length], .v (.int .i64 x2.2)] (handO (rho ([] ++ [3])) [] [] ++ [(0, .arr 2 (List.map enc_si x2.1))]) (callEv [] [3] (.sl 0 0 x6.length) [.arr 1 (List.map enc_s x6)]), .call 30 [.sl 2 0 x3.length, .sl 3 0 x6.length] (handO (rho ([] ++ [])) [] [] ++ [(2, .arr 1 (List.map enc_s x3)), (3, .arr 1 (List.map enc_s x6))]) (callEv [] [] (.v (.bool x7)) [])]) [2] [] (s1 := ⟨[(2, .v (.bool x7))], []⟩) (C := ((([.agg [.sl 0 0 x2.1.length], .v (.int .i64 x2.2)] : List AV) = [.agg [.sl 0 0 x2.1.length], .v (.int .i64 x2.2)]) ∧ (AO.arr 2 (List.map enc_si x2.1) = AO.arr 2 (List.map enc_si x2.1)) ∧ True) ∧ ((([.sl 2 0 x3.length, .sl 3 0 x6.length] : List AV) = [.sl 2 0 x3.length, .sl 3 0 x6.length]) ∧ (AO.arr 1 (List.map enc_s x3) = AO.arr 1 (List.map enc_s x3)) ∧ (AO.arr 1 (List.map enc_s x6) = AO.arr 1 (List.map enc_s x6)) ∧ True) ∧ True) (by kernel_rfl) ⟨⟨rfl, rfl, trivial⟩, ⟨⟨rfl, rfl, rfl, trivial⟩, trivial⟩⟩ ⟨call_ok (ks := []) (ns := [3]) (bor := [0]) (bobjs := [(0, .arr 2 (List.map enc_si x2.1))]) (s_spec_MembersIn x2.1 x2.2 x6 e7) (.cons (.c1 (.agg (.cons (.arr rfl rfl ((rfl).trans (List.length_map ..).symm)) (.nil)))) (.cons (.c1 (.c0 (.same _ (by kernel_rfl) (by kernel_rfl)))) (.nil))) (by kernel_rfl) trivial, ⟨call_ok (ks := []) (ns := []) (bor := [2, 3]) (bobjs := [(2, .arr 1 (List.map enc_s x3)), (3, .arr 1 (List.map enc_s x6))]) (s_laws_equalTexts x3 x6 x7 e8) (.cons (.c1 (.c0 (.arr rfl rfl ((rfl).trans (List.length_map ..).symm)))) (.cons (.c1 (.c0 (.arr rfl rfl ((rfl).trans (List.length_map ..).symm)))) (.nil))) (by kernel_rfl) trivial, trivial⟩⟩ ?_
      refine AX.ret ?_
      refine fin_wk (Wk.forget [2] [] (s' := ⟨[(2, .v (.bool x7))], []⟩) (by kernel_rfl)) ?_
      have hr := Option.some.inj h
      subst hr
      exact ⟨_, Wk.refl _, .inr rfl, ⟨[], by kernel_rfl, trivial, [.v (.bool x7)], by kernel_rfl, by kernel_rfl⟩⟩
    · replace h := cd_f b6 h
      refine AX.reg (its := [.auto {}, .auto {}, .auto {}, .call 31 [.agg [.sl 0 0 x2.1.length], .v (.int .i64 x2.2)] (handO (rho ([] ++ [3])) [] [] ++ [(0, .arr 2 (List.map enc_si x2.1))]) (callEv [] [3] (.sl 0 0 x4.length) [.arr 1 (List.map enc_s x4)]), .call 30 [.sl 2 0 x3.length, .sl 3 0 x4.length] (handO (rho ([] ++ [])) [] [] ++ [(2, .arr 1 (List.map enc_s x3)), (3, .arr 1 (List.map enc_s x4))]) (callEv [] [] (.v (.bool x5)) []), .auto { y := some (.v (.bool false)) }]) [3, 4, 5, 29] [0, 1, 2] (s1 := ⟨[(3, .pt 1 0), (4, .v (.int .i64 x2.2)), (5, .sl 2 0 x3.length), (29, .v (.bool (decide ((x3.length : Int) = 0))))], [(0, .arr 2 (List.map enc_si x2.1)), (1, .box [.sl 0 0 x2.1.length]), (2, .arr 1 (List.map enc_s x3))]⟩) (C := ((([.agg [.sl 0 0 x2.1.length], .v (.int .i64 x2.2)] : List AV) = [.agg [.sl 0 0 x2.1.length], .v (.int .i64 x2.2)]) ∧ (AO.arr 2 (List.map enc_si x2.1) = AO.arr 2 (List.map enc_si x2.1)) ∧ True) ∧ ((([.sl 2 0 x3.length, .sl 3 0 x4.length] : List AV) = [.sl 2 0 x3.length, .sl 3 0 x4.length]) ∧ (AO.arr 1 (List.map enc_s x3) = AO.arr 1 (List.map enc_s x3)) ∧ (AO.arr 1 (List.map enc_s x4) = AO.arr 1 (List.map enc_s x4)) ∧ True) ∧ ((True) ∧ ((.v (.bool (!x5)) : AV) = (.v (.bool false) : AV))) ∧ True) (by kernel_rfl) ⟨⟨rfl, rfl, trivial⟩, ⟨⟨rfl, rfl, rfl, trivial⟩, ⟨⟨trivial, (congrArg (fun z => AV.v (.bool z)) b6)⟩, trivial⟩⟩⟩ ⟨call_ok (ks := []) (ns := [3]) (bor := [0]) (bobjs := [(0, .arr 2 (List.map enc_si x2.1))]) (s_spec_MembersIn x2.1 x2.2 x4 e4) (.cons (.c1 (.agg (.cons (.arr rfl rfl ((rfl).trans (List.length_map ..).symm)) (.nil)))) (.cons (.c1 (.c0 (.same _ (by kernel_rfl) (by kernel_rfl)))) (.nil))) (by kernel_rfl) trivial, ⟨call_ok (ks := []) (ns := []) (bor := [2, 3]) (bobjs := [(2, .arr 1 (List.map enc_s x3)), (3, .arr 1 (List.map enc_s x4))]) (s_laws_equalTexts x3 x4 x5 e5) (.cons (.c1 (.c0 (.arr rfl rfl ((rfl).trans (List.length_map ..).symm)))) (.cons (.c1 (.c0 (.arr rfl rfl ((rfl).trans (List.length_map ..).symm)))) (.nil))) (by kernel_rfl) trivial, trivial⟩⟩ ?_
      rcases bool_cases (decide ((x3.length : Int) = 0)) with b9 | b9
      · replace h := cd_t b9 h
        refine AX.condT (decide ((x3.length : Int) = 0)) (by kernel_rfl) b9 ?_
        refine AX.seq ?_
        obtain ⟨x8, e10, h⟩ := bd_e h
        obtain ⟨x9, e11, h⟩ := bd_e h
        refine AX.reg (its := [.auto {}, .auto {}, .auto {}, .call 31 [.agg [.sl 0 0 x2.1.length], .v (.int .i64 x2.2)] (handO (rho ([] ++ [3])) [] [] ++ [(0, .arr 2 (List.map enc_si x2.1))]) (callEv [] [3] (.sl 0 0 x8.length) [.arr 1 (List.map enc_s x8)]), .call 30 [.sl 2 0 x3.length, .sl 3 0 x8.length] (handO (rho ([] ++ [])) [] [] ++ [(2, .arr 1 (List.map enc_s x3)), (3, .arr 1 (List.map enc_s x8))]) (callEv [] [] (.v (.bool x9)) [])]) [2] [] (s1 := ⟨[(2, .v (.bool x9))], []⟩) (C := ((([.agg [.sl 0 0 x2.1.length], .v (.int .i64 x2.2)] : List AV) = [.agg [.sl 0 0 x2.1.length], .v (.int .i64 x2.2)]) ∧ (AO.arr 2 (List.map enc_si x2.1) = AO.arr 2 (List.map enc_si x2.1)) ∧ True) ∧ ((([.sl 2 0 x3.length, .sl 3 0 x8.length] : List AV) = [.sl 2 0 x3.length, .sl 3 0 x8.length]) ∧ (AO.arr 1 (List.map enc_s x3) = AO.arr 1 (List.map enc_s x3)) ∧ (AO.arr 1 (List.map enc_s x8) = AO.arr 1 (List.map enc_s x8)) ∧ True) ∧ True) (by kernel_rfl) ⟨⟨rfl, rfl, trivial⟩, ⟨⟨rfl, rfl, rfl, trivial⟩, trivial⟩⟩ ⟨call_ok (ks := []) (ns := [3]) (bor := [0]) (bobjs := [(0, .arr 2 (List.map enc_si x2.1))]) (s_spec_MembersIn x2.1 x2.2 x8 e10) (.cons (.c1 (.agg (.cons (.arr rfl rfl ((rfl).trans (List.length_map ..).symm)) (.nil)))) (.cons (.c1 (.c0 (.same _ (by kernel_rfl) (by kernel_rfl)))) (.nil))) (by kernel_rfl) trivial, ⟨call_ok (ks := []) (ns := []) (bor := [2, 3]) (bobjs := [(2, .arr 1 (List.map enc_s x3)), (3, .arr 1 (List.map enc_s x8))]) (s_laws_equalTexts x3 x8 x9 e11) (.cons (.c1 (.c0 (.arr rfl rfl ((rfl).trans (List.length_map ..).symm)))) (.cons (.c1 (.c0 (.arr rfl rfl ((rfl).trans (List.length_map ..).symm)))) (.nil))) (by kernel_rfl) trivial, trivial⟩⟩ ?_
        refine AX.ret ?_
        refine fin_wk (Wk.forget [2] [] (s' := ⟨[(2, .v (.bool x9))], []⟩) (by kernel_rfl)) ?_
        have hr := Option.some.inj h
        subst hr
        exact ⟨_, Wk.refl _, .inr rfl, ⟨[], by kernel_rfl, trivial, [.v (.bool x9)], by kernel_rfl, by kernel_rfl⟩⟩
      · replace h := cd_f b9 h
        refine AX.condF (decide ((x3.length : Int) = 0)) (by kernel_rfl) b9 ?_
        refine AX.skip ?_
        refine AX.seq ?_
        obtain ⟨x10, e12, h⟩ := bd_e h
        refine AX.reg (its := [.auto {}, .auto {}, .call 32 [.agg [.sl 0 0 x2.1.length], .sl 2 0 x3.length] (handO (rho ([] ++ [])) [] [] ++ [(0, .arr 2 (List.map enc_si x2.1)), (2, .arr 1 (List.map enc_s x3))]) (callEv [] [] (.tup [.v (.int .i64 x10.1), .v (.bool x10.2)]) [])]) [4, 6, 7] [] (s1 := ⟨[(4, .v (.int .i64 x2.2)), (6, .v (.int .i64 x10.1)), (7, .v (.bool x10.2))], []⟩) (C := ((([.agg [.sl 0 0 x2.1.length], .sl 2 0 x3.length] : List AV) = [.agg [.sl 0 0 x2.1.length], .sl 2 0 x3.length]) ∧ (AO.arr 2 (List.map enc_si x2.1) = AO.arr 2 (List.map enc_si x2.1)) ∧ (AO.arr 1 (List.map enc_s x3) = AO.arr 1 (List.map enc_s x3)) ∧ True) ∧ True) (by kernel_rfl) ⟨⟨rfl, rfl, rfl, trivial⟩, trivial⟩ ⟨call_ok (ks := []) (ns := []) (bor := [0, 2]) (bobjs := [(0, .arr 2 (List.map enc_si x2.1)), (2, .arr 1 (List.map enc_s x3))]) (s_impl_SetOf x2.1 x3 x10 e12) (.cons (.c1 (.agg (.cons (.arr rfl rfl ((rfl).trans (List.length_map ..).symm)) (.nil)))) (.cons (.c1 (.c0 (.arr rfl rfl ((rfl).trans (List.length_map ..).symm)))) (.nil))) (by kernel_rfl) trivial, trivial⟩ ?_
        refine AX.seq ?_
        rcases bool_cases (x10.2) with b13 | b13
        · replace h := cd_t b13 h
          refine AX.reg (its := [.auto { y := some (.v (.bool true)) }]) [2] [] (s1 := ⟨[(2, .v (.bool (decide (x10.1 = x2.2))))], []⟩) (C := ((True) ∧ ((.v (.bool x10.2) : AV) = (.v (.bool true) : AV))) ∧ True) (by kernel_rfl) ⟨⟨trivial, (congrArg (fun z => AV.v (.bool z)) b13)⟩, trivial⟩ trivial ?_
          refine AX.ret ?_
          refine fin_wk (Wk.forget [2] [] (s' := ⟨[(2, .v (.bool (decide (x10.1 = x2.2))))], []⟩) (by kernel_rfl)) ?_
          have hr := Option.some.inj h
          subst hr
          exact ⟨_, Wk.refl _, .inr rfl, ⟨[], by kernel_rfl, trivial, [.v (.bool (decide (x10.1 = x2.2)))], by kernel_rfl, by kernel_rfl⟩⟩
        · replace h := cd_f b13 h
          refine AX.reg (its := [.auto { y := some (.v (.bool false)) }]) [2] [] (s1 := ⟨[(2, .v (.bool false))], []⟩) (C := ((True) ∧ ((.v (.bool x10.2) : AV) = (.v (.bool false) : AV))) ∧ True) (by kernel_rfl) ⟨⟨trivial, (congrArg (fun z => AV.v (.bool z)) b13)⟩, trivial⟩ trivial ?_
          refine AX.ret ?_
          refine fin_wk (Wk.forget [2] [] (s' := ⟨[(2, .v (.bool false))], []⟩) (by kernel_rfl)) ?_
          have hr := Option.some.inj h
          subst hr
          exact ⟨_, Wk.refl _, .inr rfl, ⟨[], by kernel_rfl, trivial, [.v (.bool false)], by kernel_rfl, by kernel_rfl⟩⟩

end Go.Eng
