/- What is proved here: each function keeps to its model, whatever its arguments, wherever the model has an answer. Printed by gen.py. -/
import Derived.Test.YtjihhiadjljofaaCBuildFlagWalk2
import Derived.Test.YtjihhiadjljofaaProg
import Derived.KernelRfl
set_option linter.unusedVariables false
namespace Go.Eng
open Go Go.Proofs


theorem s_laws_kept (p1 : List (ByteArray × Int)) (p2 : Int) (r : (List (ByteArray × Int)) × Int) (h : m_laws_kept p1 p2 = some r) :
    Eng.Spec Try.prog 19 [.agg [.bs false 2 (List.map enc_si p1), .v (.int .i64 p2)]] [] (.agg [.sl 0 0 r.1.length, .v (.int .i64 r.2)]) [.arr 2 (List.map enc_si r.1)] := by
  unfold m_laws_kept at h
  refine Eng.Spec.body Try.func19 (by kernel_rfl) rfl (by kernel_rfl) ?_
  refine AX.wkpost ?_
  refine AX.seq ?_
  refine AX.reg (its := [.auto { nk := 0 }, .auto { nk := 1 }]) [1, 2] [0, 1] (s1 := ⟨[(1, .pt 0 0), (2, .pt 1 0)], [(0, .box [.bs false 2 (List.map enc_si p1), .v (.int .i64 p2)]), (1, .box [.v (.slice none 0 0), .v (.int .i64 0)])]⟩) (C := True) (by kernel_rfl) trivial trivial ?_
  refine AX.seq ?_
  obtain ⟨x3, e1, h⟩ := bd_e h
  refine AX.reg (its := [.auto {}, .call 59 [.agg [.bs false 2 (List.map enc_si p1), .v (.int .i64 p2)], .v (.int .i64 3)] (handO (rho ([] ++ [2])) [] [] ++ []) (callEv [] [2] (.tup [.agg [.sl 0 0 x3.1.length, .v (.int .i64 x3.2.1)], .v (.bool x3.2.2)]) [.arr 2 (List.map enc_si x3.1)]), .auto {}, .auto {}, .auto {}, .auto { nk := 3 }]) [2, 3] [1, 2, 3] (s1 := ⟨[(2, .pt 1 0), (3, .pt 3 0)], [(1, .box [.v (.slice none 0 0), .v (.int .i64 0)]), (2, .arr 2 (List.map enc_si x3.1)), (3, .box [.sl 2 0 x3.1.length, .v (.int .i64 x3.2.1)])]⟩) (C := ((([.agg [.bs false 2 (List.map enc_si p1), .v (.int .i64 p2)], .v (.int .i64 3)] : List AV) = [.agg [.bs false 2 (List.map enc_si p1), .v (.int .i64 p2)], .v (.int .i64 3)]) ∧ True) ∧ True) (by kernel_rfl) ⟨⟨rfl, trivial⟩, trivial⟩ ⟨call_ok (ks := []) (ns := [2]) (bor := []) (bobjs := []) (s_impl_WithBound p1 p2 3 x3 e1) (.cons (.c1 (.agg (.cons (.same _ (by kernel_rfl) (by kernel_rfl)) (.cons (.same _ (by kernel_rfl) (by kernel_rfl)) (.nil))))) (.cons (.c1 (.c0 (.same _ (by kernel_rfl) (by kernel_rfl)))) (.nil))) (by kernel_rfl) trivial, trivial⟩ ?_
  refine AX.seq ?_
  refine AX.reg (its := []) [2] [1, 2] (s1 := ⟨[(2, .pt 1 0)], [(1, .box [.sl 2 0 x3.1.length, .v (.int .i64 x3.2.1)]), (2, .arr 2 (List.map enc_si x3.1))]⟩) (C := True) (by kernel_rfl) trivial trivial ?_
  refine AX.ret ?_
  refine fin_wk (Wk.swap 0 1 (Nat.le_of_ble_eq_true (by kernel_rfl)) (Nat.le_of_ble_eq_true (by kernel_rfl)) rfl) ?_
  refine fin_wk (Wk.swap 1 2 (Nat.le_of_ble_eq_true (by kernel_rfl)) (Nat.le_of_ble_eq_true (by kernel_rfl)) rfl) ?_
  refine fin_wk (Wk.forget [2] [0, 1] (s' := ⟨[(2, .pt 0 0)], [(0, .box [.sl 1 0 x3.1.length, .v (.int .i64 x3.2.1)]), (1, .arr 2 (List.map enc_si x3.1))]⟩) (by kernel_rfl)) ?_
  have hr := Option.some.inj h
  subst hr
  exact ⟨_, Wk.refl _, .inr rfl, ⟨[1], by kernel_rfl, ⟨rfl, trivial⟩, [.agg [.sl 1 0 x3.1.length, .v (.int .i64 x3.2.1)]], by kernel_rfl, by kernel_rfl⟩⟩

theorem s_impl_Flag_mask_L1 (p1 : List (ByteArray × Int)) (n : Nat) (g : Int × Int) (out : Int) (h : m_impl_Flag_mask_L1 p1 n g.1 g.2 = some out) :
    AX Try.prog 19 0 (codeAt [1, 1, 0, 1, 1] (bodyOf Try.f38)) ((fun g : Int × Int => (⟨[(3, .v (.int .i64 g.1)), (7, .bs false 2 (List.map enc_si p1)), (8, .v (.int .i64 (p1.length : Int))), (9, .v (.int .i64 g.2))], []⟩ : S)) g) (fun ex s => ex = .exit 0 ∧ s = (fun o : Int => (⟨[(3, .v (.int .i64 o))], []⟩ : S)) out) := by
  refine AX.wkpost ?_
  refine AX.loop (G := Nat × (Int × Int)) (fun q => (fun g : Int × Int => (⟨[(3, .v (.int .i64 g.1)), (7, .bs false 2 (List.map enc_si p1)), (8, .v (.int .i64 (p1.length : Int))), (9, .v (.int .i64 g.2))], []⟩ : S)) q.2) (fun q => m_impl_Flag_mask_L1 p1 q.1 q.2.1 q.2.2 = some out) (fun q => q.1) (n, g) h (Wk.refl _) ?_
  clear h
  rintro ⟨fu, v3, v4⟩ h
  cases fu with
  | zero => cases h
  | succ fu =>
    rw [m_impl_Flag_mask_L1] at h
    refine AX.seq ?_
    refine AX.reg (its := []) [3, 7, 8, 9, 10] [] (s1 := ⟨[(3, .v (.int .i64 v3)), (7, .bs false 2 (List.map enc_si p1)), (8, .v (.int .i64 (p1.length : Int))), (9, .v (.int .i64 v4)), (10, .v (.bool (decide (v4 < (p1.length : Int)))))], []⟩) (C := True) (by kernel_rfl) trivial trivial ?_
    refine AX.seq ?_
    rcases bool_cases (decide (v4 < (p1.length : Int))) with b1 | b1
    · replace h := cd_t b1 h
      refine AX.condT (decide (v4 < (p1.length : Int))) (by kernel_rfl) b1 ?_
      refine AX.skip ?_
      refine AX.seq ?_
      refine AX.block ?_
      refine AX.seq ?_
      obtain ⟨g2, h⟩ := gd_e h
      refine AX.reg (its := [.auto { y := some (.be 2 (enc_si (gt p1 v4)) 0) }, .auto {}, .auto { nk := 0 }]) [3, 5, 7, 8, 9] [0] (s1 := ⟨[(3, .v (.int .i64 v3)), (5, .pt 0 0), (7, .bs false 2 (List.map enc_si p1)), (8, .v (.int .i64 (p1.length : Int))), (9, .v (.int .i64 v4))], [(0, .box [.v (.string ((gt p1 v4).1)), .v (.int .i64 ((gt p1 v4).2))])]⟩) (C := ((0 ≤ v4 ∧ v4 < ((List.map enc_si p1).length : Int)) ∧ (AV.be 2 ((List.map enc_si p1).getD v4.toNat []) 0 = AV.be 2 (enc_si (gt p1 v4)) 0)) ∧ True) (by kernel_rfl) ⟨idx_bs enc_si p1 v4 2 g2, trivial⟩ trivial ?_
      refine AX.reg (its := []) [3, 7, 8, 9] [] (s1 := ⟨[(3, .v (.int .i64 (Go.bits .or .i64 v3 ((gt p1 v4).2)))), (7, .bs false 2 (List.map enc_si p1)), (8, .v (.int .i64 (p1.length : Int))), (9, .v (.int .i64 v4))], []⟩) (C := True) (by kernel_rfl) trivial trivial ?_
      refine AX.reg (its := [.auto { raw := true }]) [3, 7, 8, 9] [] (s1 := ⟨[(3, .v (.int .i64 (Go.bits .or .i64 v3 ((gt p1 v4).2)))), (7, .bs false 2 (List.map enc_si p1)), (8, .v (.int .i64 (p1.length : Int))), (9, .v (.int .i64 (IntKind.wrap .i64 (v4 + 1))))], []⟩) (C := True) (by kernel_rfl) trivial trivial ?_
      refine ⟨(fu, (Go.bits .or .i64 v3 ((gt p1 v4).2), IntKind.wrap .i64 (v4 + 1))), h, Nat.lt_succ_self _, ?_⟩
      refine Wk.trans (Wk.forget [3, 7, 8, 9] [] (s' := ⟨[(3, .v (.int .i64 (Go.bits .or .i64 v3 ((gt p1 v4).2)))), (7, .bs false 2 (List.map enc_si p1)), (8, .v (.int .i64 (p1.length : Int))), (9, .v (.int .i64 (IntKind.wrap .i64 (v4 + 1))))], []⟩) (by kernel_rfl)) ?_
      exact Wk.refl _
    · replace h := cd_f b1 h
      refine AX.condF (decide (v4 < (p1.length : Int))) (by kernel_rfl) b1 ?_
      refine AX.exit ?_
      refine fin_wk (Wk.forget [3] [] (s' := ⟨[(3, .v (.int .i64 v3))], []⟩) (by kernel_rfl)) ?_
      have hr := Option.some.inj h
      subst hr
      exact ⟨_, Wk.refl _, ⟨rfl, rfl⟩⟩

theorem s_impl_Flag_mask (p1 : List (ByteArray × Int)) (p2 : Int) (r : Int) (h : m_impl_Flag_mask p1 p2 = some r) :
    Eng.Spec Try.prog 38 [.agg [.bs false 2 (List.map enc_si p1), .v (.int .i64 p2)]] [] (.v (.int .i64 r)) [] := by
  unfold m_impl_Flag_mask at h
  refine Eng.Spec.body Try.func38 (by kernel_rfl) rfl (by kernel_rfl) ?_
  refine AX.wkpost ?_
  refine AX.seq ?_
  refine AX.reg (its := [.auto { nk := 0 }]) [1] [0] (s1 := ⟨[(1, .pt 0 0)], [(0, .box [.bs false 2 (List.map enc_si p1), .v (.int .i64 p2)])]⟩) (C := True) (by kernel_rfl) trivial trivial ?_
  refine AX.seq ?_
  refine AX.reg (its := []) [1, 3] [0] (s1 := ⟨[(1, .pt 0 0), (3, .v (.int .i64 0))], [(0, .box [.bs false 2 (List.map enc_si p1), .v (.int .i64 p2)])]⟩) (C := True) (by kernel_rfl) trivial trivial ?_
  refine AX.seq ?_
  refine AX.seq ?_
  refine AX.reg (its := [.auto {}, .auto {}, .auto { y := some (.v (.int .i64 (p1.length : Int))) }]) [3, 7, 8, 9] [] (s1 := ⟨[(3, .v (.int .i64 0)), (7, .bs false 2 (List.map enc_si p1)), (8, .v (.int .i64 (p1.length : Int))), (9, .v (.int .i64 0))], []⟩) (C := (True ∧ (AV.v (.int .i64 ((List.map enc_si p1).length : Int)) = AV.v (.int .i64 (p1.length : Int)))) ∧ True) (by kernel_rfl) ⟨⟨trivial, len_map enc_si p1⟩, trivial⟩ trivial ?_
  refine AX.block ?_
  obtain ⟨x5, e3, h⟩ := bd_e h
  refine AX.wk (Wk.forget [3, 7, 8, 9] [] (s' := ⟨[(3, .v (.int .i64 0)), (7, .bs false 2 (List.map enc_si p1)), (8, .v (.int .i64 (p1.length : Int))), (9, .v (.int .i64 0))], []⟩) (by kernel_rfl)) ?_
  refine AX.mono (s_impl_Flag_mask_L1 p1 FU (0, 0) x5 e3) ?_
  rintro _ _ ⟨rfl, rfl⟩
  skip
  refine AX.seq ?_
  refine AX.reg (its := []) [2] [] (s1 := ⟨[(2, .v (.int .i64 x5))], []⟩) (C := True) (by kernel_rfl) trivial trivial ?_
  refine AX.ret ?_
  refine fin_wk (Wk.forget [2] [] (s' := ⟨[(2, .v (.int .i64 x5))], []⟩) (by kernel_rfl)) ?_
  have hr := Option.some.inj h
  subst hr
  exact ⟨_, Wk.refl _, .inr rfl, ⟨[], by kernel_rfl, trivial, [.v (.int .i64 x5)], by kernel_rfl, by kernel_rfl⟩⟩

theorem s_impl_IsValue (p1 : List (ByteArray × Int)) (p2 : Int) (p3 : Int) (r : Bool) (h : m_impl_IsValue p1 p2 p3 = some r) :
    Eng.Spec Try.prog 13 [.agg [.bs false 2 (List.map enc_si p1), .v (.int .i64 p2)], .v (.int .i64 p3)] [] (.v (.bool r)) [] := by
  unfold m_impl_IsValue at h
  refine Eng.Spec.body Try.func13 (by kernel_rfl) rfl (by kernel_rfl) ?_
  refine AX.wkpost ?_
  refine AX.seq ?_
  refine AX.reg (its := [.auto { nk := 0 }]) [1, 2] [0] (s1 := ⟨[(1, .v (.int .i64 p3)), (2, .pt 0 0)], [(0, .box [.bs false 2 (List.map enc_si p1), .v (.int .i64 p2)])]⟩) (C := True) (by kernel_rfl) trivial trivial ?_
  refine AX.seq ?_
  obtain ⟨x4, e1, h⟩ := bd_e h
  rcases bool_cases (x4) with b2 | b2
  · replace h := cd_t b2 h
    obtain ⟨x5, e3, h⟩ := bd_e h
    rcases bool_cases (x5) with b4 | b4
    · replace h := cd_t b4 h
      rcases bool_cases (decide (p2 = 3)) with b5 | b5
      · replace h := cd_t b5 h
        refine AX.reg (its := [.auto {}, .call 20 [.agg [.bs false 2 (List.map enc_si p1), .v (.int .i64 p2)]] (handO (rho ([] ++ [])) [] [] ++ []) (callEv [] [] (.v (.bool true)) []), .auto {}, .auto {}, .call 46 [.v (.int .i64 p3), .v (.int .i64 0), .v (.int .i64 4095)] (handO (rho ([] ++ [])) [] [] ++ []) (callEv [] [] (.v (.bool true)) []), .auto {}, .auto {}, .auto {}, .auto {}, .auto { y := some (.v (.bool true)) }]) [4] [] (s1 := ⟨[(4, .v (.bool true))], []⟩) (C := ((([.agg [.bs false 2 (List.map enc_si p1), .v (.int .i64 p2)]] : List AV) = [.agg [.bs false 2 (List.map enc_si p1), .v (.int .i64 p2)]]) ∧ True) ∧ ((([.v (.int .i64 p3), .v (.int .i64 0), .v (.int .i64 4095)] : List AV) = [.v (.int .i64 p3), .v (.int .i64 0), .v (.int .i64 4095)]) ∧ True) ∧ ((True) ∧ ((.v (.bool (decide (p2 = 3))) : AV) = (.v (.bool true) : AV))) ∧ True) (by kernel_rfl) ⟨⟨rfl, trivial⟩, ⟨⟨rfl, trivial⟩, ⟨⟨trivial, (congrArg (fun z => AV.v (.bool z)) b5)⟩, trivial⟩⟩⟩ ⟨call_ok (ks := []) (ns := []) (bor := []) (bobjs := []) (show Eng.Spec Try.prog 20 [.agg [.bs false 2 (List.map enc_si p1), .v (.int .i64 p2)]] [] (.v (.bool true)) [] from by have q := s_impl_ValidFlag p1 p2 x4 e1; rw [b2] at q; exact q) (.cons (.c1 (.agg (.cons (.same _ (by kernel_rfl) (by kernel_rfl)) (.cons (.same _ (by kernel_rfl) (by kernel_rfl)) (.nil))))) (.nil)) (by kernel_rfl) trivial, ⟨call_ok (ks := []) (ns := []) (bor := []) (bobjs := []) (show Eng.Spec Try.prog 46 [.v (.int .i64 p3), .v (.int .i64 0), .v (.int .i64 4095)] [] (.v (.bool true)) [] from by have q := s_impl_in p3 0 4095 x5 e3; rw [b4] at q; exact q) (.cons (.c1 (.c0 (.same _ (by kernel_rfl) (by kernel_rfl)))) (.cons (.c1 (.c0 (.same _ (by kernel_rfl) (by kernel_rfl)))) (.cons (.c1 (.c0 (.same _ (by kernel_rfl) (by kernel_rfl)))) (.nil)))) (by kernel_rfl) trivial, trivial⟩⟩ ?_
        refine AX.ret ?_
        refine fin_wk (Wk.forget [4] [] (s' := ⟨[(4, .v (.bool true))], []⟩) (by kernel_rfl)) ?_
        have hr := Option.some.inj h
        subst hr
        exact ⟨_, Wk.refl _, .inr rfl, ⟨[], by kernel_rfl, trivial, [.v (.bool true)], by kernel_rfl, by kernel_rfl⟩⟩
      · replace h := cd_f b5 h
        obtain ⟨x6, e6, h⟩ := bd_e h
        refine AX.reg (its := [.auto {}, .call 20 [.agg [.bs false 2 (List.map enc_si p1), .v (.int .i64 p2)]] (handO (rho ([] ++ [])) [] [] ++ []) (callEv [] [] (.v (.bool true)) []), .auto {}, .auto {}, .call 46 [.v (.int .i64 p3), .v (.int .i64 0), .v (.int .i64 4095)] (handO (rho ([] ++ [])) [] [] ++ []) (callEv [] [] (.v (.bool true)) []), .auto {}, .auto {}, .auto {}, .auto {}, .auto { y := some (.v (.bool false)) }, .auto {}, .auto {}, .auto {}, .call 38 [.agg [.bs false 2 (List.map enc_si p1), .v (.int .i64 p2)]] (handO (rho ([] ++ [])) [] [] ++ []) (callEv [] [] (.v (.int .i64 x6)) [])]) [4] [] (s1 := ⟨[(4, .v (.bool (decide ((Go.bits .andNot .i64 p3 x6) = 0))))], []⟩) (C := ((([.agg [.bs false 2 (List.map enc_si p1), .v (.int .i64 p2)]] : List AV) = [.agg [.bs false 2 (List.map enc_si p1), .v (.int .i64 p2)]]) ∧ True) ∧ ((([.v (.int .i64 p3), .v (.int .i64 0), .v (.int .i64 4095)] : List AV) = [.v (.int .i64 p3), .v (.int .i64 0), .v (.int .i64 4095)]) ∧ True) ∧ ((True) ∧ ((.v (.bool (decide (p2 = 3))) : AV) = (.v (.bool false) : AV))) ∧ ((([.agg [.bs false 2 (List.map enc_si p1), .v (.int .i64 p2)]] : List AV) = [.agg [.bs false 2 (List.map enc_si p1), .v (.int .i64 p2)]]) ∧ True) ∧ True) (by kernel_rfl) ⟨⟨rfl, trivial⟩, ⟨⟨rfl, trivial⟩, ⟨⟨trivial, (congrArg (fun z => AV.v (.bool z)) b5)⟩, ⟨⟨rfl, trivial⟩, trivial⟩⟩⟩⟩ ⟨call_ok (ks := []) (ns := []) (bor := []) (bobjs := []) (show Eng.Spec Try.prog 20 [.agg [.bs false 2 (List.map enc_si p1), .v (.int .i64 p2)]] [] (.v (.bool true)) [] from by have q := s_impl_ValidFlag p1 p2 x4 e1; rw [b2] at q; exact q) (.cons (.c1 (.agg (.cons (.same _ (by kernel_rfl) (by kernel_rfl)) (.cons (.same _ (by kernel_rfl) (by kernel_rfl)) (.nil))))) (.nil)) (by kernel_rfl) trivial, ⟨call_ok (ks := []) (ns := []) (bor := []) (bobjs := []) (show Eng.Spec Try.prog 46 [.v (.int .i64 p3), .v (.int .i64 0), .v (.int .i64 4095)] [] (.v (.bool true)) [] from by have q := s_impl_in p3 0 4095 x5 e3; rw [b4] at q; exact q) (.cons (.c1 (.c0 (.same _ (by kernel_rfl) (by kernel_rfl)))) (.cons (.c1 (.c0 (.same _ (by kernel_rfl) (by kernel_rfl)))) (.cons (.c1 (.c0 (.same _ (by kernel_rfl) (by kernel_rfl)))) (.nil)))) (by kernel_rfl) trivial, ⟨call_ok (ks := []) (ns := []) (bor := []) (bobjs := []) (s_impl_Flag_mask p1 p2 x6 e6) (.cons (.c1 (.agg (.cons (.same _ (by kernel_rfl) (by kernel_rfl)) (.cons (.same _ (by kernel_rfl) (by kernel_rfl)) (.nil))))) (.nil)) (by kernel_rfl) trivial, trivial⟩⟩⟩ ?_
        refine AX.ret ?_
        refine fin_wk (Wk.forget [4] [] (s' := ⟨[(4, .v (.bool (decide ((Go.bits .andNot .i64 p3 x6) = 0))))], []⟩) (by kernel_rfl)) ?_
        have hr := Option.some.inj h
        subst hr
        exact ⟨_, Wk.refl _, .inr rfl, ⟨[], by kernel_rfl, trivial, [.v (.bool (decide ((Go.bits .andNot .i64 p3 x6) = 0)))], by kernel_rfl, by kernel_rfl⟩⟩
    · replace h := cd_f b4 h
      refine AX.reg (its := [.auto {}, .call 20 [.agg [.bs false 2 (List.map enc_si p1), .v (.int .i64 p2)]] (handO (rho ([] ++ [])) [] [] ++ []) (callEv [] [] (.v (.bool true)) []), .auto {}, .auto {}, .call 46 [.v (.int .i64 p3), .v (.int .i64 0), .v (.int .i64 4095)] (handO (rho ([] ++ [])) [] [] ++ []) (callEv [] [] (.v (.bool false)) [])]) [4] [] (s1 := ⟨[(4, .v (.bool false))], []⟩) (C := ((([.agg [.bs false 2 (List.map enc_si p1), .v (.int .i64 p2)]] : List AV) = [.agg [.bs false 2 (List.map enc_si p1), .v (.int .i64 p2)]]) ∧ True) ∧ ((([.v (.int .i64 p3), .v (.int .i64 0), .v (.int .i64 4095)] : List AV) = [.v (.int .i64 p3), .v (.int .i64 0), .v (.int .i64 4095)]) ∧ True) ∧ True) (by kernel_rfl) ⟨⟨rfl, trivial⟩, ⟨⟨rfl, trivial⟩, trivial⟩⟩ ⟨call_ok (ks := []) (ns := []) (bor := []) (bobjs := []) (show Eng.Spec Try.prog 20 [.agg [.bs false 2 (List.map enc_si p1), .v (.int .i64 p2)]] [] (.v (.bool true)) [] from by have q := s_impl_ValidFlag p1 p2 x4 e1; rw [b2] at q; exact q) (.cons (.c1 (.agg (.cons (.same _ (by kernel_rfl) (by kernel_rfl)) (.cons (.same _ (by kernel_rfl) (by kernel_rfl)) (.nil))))) (.nil)) (by kernel_rfl) trivial, ⟨call_ok (ks := []) (ns := []) (bor := []) (bobjs := []) (show Eng.Spec Try.prog 46 [.v (.int .i64 p3), .v (.int .i64 0), .v (.int .i64 4095)] [] (.v (.bool false)) [] from by have q := s_impl_in p3 0 4095 x5 e3; rw [b4] at q; exact q) (.cons (.c1 (.c0 (.same _ (by kernel_rfl) (by kernel_rfl)))) (.cons (.c1 (.c0 (.same _ (by kernel_rfl) (by kernel_rfl)))) (.cons (.c1 (.c0 (.same _ (by kernel_rfl) (by kernel_rfl)))) (.nil)))) (by kernel_rfl) trivial, trivial⟩⟩ ?_
      refine AX.ret ?_
      refine fin_wk (Wk.forget [4] [] (s' := ⟨[(4, .v (.bool false))], []⟩) (by kernel_rfl)) ?_
      have hr := Option.some.inj h
      subst hr
      exact ⟨_, Wk.refl _, .inr rfl, ⟨[], by kernel_rfl, trivial, [.v (.bool false)], by kernel_rfl, by kernel_rfl⟩⟩
  · replace h := cd_f b2 h
    refine AX.reg (its := [.auto {}, .call 20 [.agg [.bs false 2 (List.map enc_si p1), .v (.int .i64 p2)]] (handO (rho ([] ++ [])) [] [] ++ []) (callEv [] [] (.v (.bool false)) [])]) [4] [] (s1 := ⟨[(4, .v (.bool false))], []⟩) (C := ((([.agg [.bs false 2 (List.map enc_si p1), .v (.int .i64 p2)]] : List AV) = [.agg [.bs false 2 (List.map enc_si p1), .v (.int .i64 p2)]]) ∧ True) ∧ True) (by kernel_rfl) ⟨⟨rfl, trivial⟩, trivial⟩ ⟨call_ok (ks := []) (ns := []) (bor := []) (bobjs := []) (show Eng.Spec Try.prog 20 [.agg [.bs false 2 (List.map enc_si p1), .v (.int .i64 p2)]] [] (.v (.bool false)) [] from by have q := s_impl_ValidFlag p1 p2 x4 e1; rw [b2] at q; exact q) (.cons (.c1 (.agg (.cons (.same _ (by kernel_rfl) (by kernel_rfl)) (.cons (.same _ (by kernel_rfl) (by kernel_rfl)) (.nil))))) (.nil)) (by kernel_rfl) trivial, trivial⟩ ?_
    refine AX.ret ?_
    refine fin_wk (Wk.forget [4] [] (s' := ⟨[(4, .v (.bool false))], []⟩) (by kernel_rfl)) ?_
    have hr := Option.some.inj h
    subst hr
    exact ⟨_, Wk.refl _, .inr rfl, ⟨[], by kernel_rfl, trivial, [.v (.bool false)], by kernel_rfl, by kernel_rfl⟩⟩

theorem s_math_bits_OnesCount64 (p1 : Int) (r : Int) (h : m_math_bits_OnesCount64 p1 = some r) :
    Eng.Spec Try.prog 103 [.v (.int .u64 p1)] [] (.v (.int .i64 r)) [] := by
  unfold m_math_bits_OnesCount64 at h
  refine Eng.Spec.body Try.func103 (by kernel_rfl) rfl (by kernel_rfl) ?_
  refine AX.wkpost ?_
  refine AX.seq ?_
  refine AX.reg (its := []) [0] [] (s1 := ⟨[(0, .v (.int .u64 p1))], []⟩) (C := True) (by kernel_rfl) trivial trivial ?_
  refine AX.seq ?_
  obtain ⟨g1, h⟩ := gd_e h
  obtain ⟨v2, q2, h⟩ := nm_e h
  obtain ⟨v3, q3, h⟩ := nm_e h
  refine AX.reg (its := [.auto {}, .auto {}, .auto { y := some (.v (.int .u64 v2)) }, .auto {}, .auto {}, .auto { y := some (.v (.int .u64 v3)), raw := true }]) [0] [] (s1 := ⟨[(0, .v (.int .u64 v3))], []⟩) (C := (0 ≤ (1 : Int) ∧ (1 : Int) ≤ (IntKind.bits .u64 : Int)) ∧ ((True) ∧ ((.v (.int .u64 (Go.bits .and .u64 (p1 / 2 ^ (1 : Int).toNat) 6148914691236517205)) : AV) = (.v (.int .u64 v2) : AV))) ∧ ((True) ∧ ((.v (.int .u64 (IntKind.wrap .u64 (v2 + (Go.bits .and .u64 p1 6148914691236517205)))) : AV) = (.v (.int .u64 v3) : AV))) ∧ True) (by kernel_rfl) ⟨g1, ⟨⟨trivial, (congrArg (fun z => AV.v (.int .u64 z)) q2)⟩, ⟨⟨trivial, (congrArg (fun z => AV.v (.int .u64 z)) q3)⟩, trivial⟩⟩⟩ trivial ?_
  refine AX.seq ?_
  obtain ⟨g4, h⟩ := gd_e h
  obtain ⟨v4, q5, h⟩ := nm_e h
  obtain ⟨v5, q6, h⟩ := nm_e h
  refine AX.reg (its := [.auto {}, .auto {}, .auto { y := some (.v (.int .u64 v4)) }, .auto {}, .auto {}, .auto { y := some (.v (.int .u64 v5)), raw := true }]) [0] [] (s1 := ⟨[(0, .v (.int .u64 v5))], []⟩) (C := (0 ≤ (2 : Int) ∧ (2 : Int) ≤ (IntKind.bits .u64 : Int)) ∧ ((True) ∧ ((.v (.int .u64 (Go.bits .and .u64 (v3 / 2 ^ (2 : Int).toNat) 3689348814741910323)) : AV) = (.v (.int .u64 v4) : AV))) ∧ ((True) ∧ ((.v (.int .u64 (IntKind.wrap .u64 (v4 + (Go.bits .and .u64 v3 3689348814741910323)))) : AV) = (.v (.int .u64 v5) : AV))) ∧ True) (by kernel_rfl) ⟨g4, ⟨⟨trivial, (congrArg (fun z => AV.v (.int .u64 z)) q5)⟩, ⟨⟨trivial, (congrArg (fun z => AV.v (.int .u64 z)) q6)⟩, trivial⟩⟩⟩ trivial ?_
  refine AX.seq ?_
  obtain ⟨g7, h⟩ := gd_e h
  obtain ⟨v6, q8, h⟩ := nm_e h
  refine AX.reg (its := [.auto {}, .auto {}, .auto {}, .auto { raw := true }, .auto { y := some (.v (.int .u64 v6)) }]) [0] [] (s1 := ⟨[(0, .v (.int .u64 v6))], []⟩) (C := (0 ≤ (4 : Int) ∧ (4 : Int) ≤ (IntKind.bits .u64 : Int)) ∧ ((True) ∧ ((.v (.int .u64 (Go.bits .and .u64 (IntKind.wrap .u64 ((v5 / 2 ^ (4 : Int).toNat) + v5)) 1085102592571150095)) : AV) = (.v (.int .u64 v6) : AV))) ∧ True) (by kernel_rfl) ⟨g7, ⟨⟨trivial, (congrArg (fun z => AV.v (.int .u64 z)) q8)⟩, trivial⟩⟩ trivial ?_
  refine AX.seq ?_
  obtain ⟨g9, h⟩ := gd_e h
  refine AX.reg (its := [.auto {}, .auto {}, .auto {}, .auto { raw := true }]) [0] [] (s1 := ⟨[(0, .v (.int .u64 (IntKind.wrap .u64 (v6 + (v6 / 2 ^ (8 : Int).toNat)))))], []⟩) (C := (0 ≤ (8 : Int) ∧ (8 : Int) ≤ (IntKind.bits .u64 : Int)) ∧ True) (by kernel_rfl) ⟨g9, trivial⟩ trivial ?_
  refine AX.seq ?_
  obtain ⟨g10, h⟩ := gd_e h
  obtain ⟨v7, q11, h⟩ := nm_e h
  obtain ⟨v8, q12, h⟩ := nm_e h
  refine AX.reg (its := [.auto {}, .auto {}, .auto { y := some (.v (.int .u64 v7)) }, .auto { y := some (.v (.int .u64 v8)), raw := true }]) [0] [] (s1 := ⟨[(0, .v (.int .u64 v8))], []⟩) (C := ((0 ≤ (16 : Int) ∧ (16 : Int) ≤ (IntKind.bits .u64 : Int)) ∧ ((.v (.int .u64 ((IntKind.wrap .u64 (v6 + (v6 / 2 ^ (8 : Int).toNat))) / 2 ^ (16 : Int).toNat)) : AV) = (.v (.int .u64 v7) : AV))) ∧ ((True) ∧ ((.v (.int .u64 (IntKind.wrap .u64 ((IntKind.wrap .u64 (v6 + (v6 / 2 ^ (8 : Int).toNat))) + v7))) : AV) = (.v (.int .u64 v8) : AV))) ∧ True) (by kernel_rfl) ⟨⟨g10, (congrArg (fun z => AV.v (.int .u64 z)) q11)⟩, ⟨⟨trivial, (congrArg (fun z => AV.v (.int .u64 z)) q12)⟩, trivial⟩⟩ trivial ?_
  refine AX.seq ?_
  obtain ⟨g13, h⟩ := gd_e h
  refine AX.reg (its := [.auto {}, .auto {}, .auto {}, .auto { raw := true }]) [0] [] (s1 := ⟨[(0, .v (.int .u64 (IntKind.wrap .u64 (v8 + (v8 / 2 ^ (32 : Int).toNat)))))], []⟩) (C := (0 ≤ (32 : Int) ∧ (32 : Int) ≤ (IntKind.bits .u64 : Int)) ∧ True) (by kernel_rfl) ⟨g13, trivial⟩ trivial ?_
  refine AX.seq ?_
  obtain ⟨v9, q14, h⟩ := nm_e h
  refine AX.reg (its := [.auto {}, .auto { y := some (.v (.int .i64 v9)), raw := true }]) [2] [] (s1 := ⟨[(2, .v (.int .i64 (Go.bits .and .i64 v9 127)))], []⟩) (C := ((True) ∧ ((.v (.int .i64 (IntKind.wrap .i64 (IntKind.wrap .u64 (v8 + (v8 / 2 ^ (32 : Int).toNat))))) : AV) = (.v (.int .i64 v9) : AV))) ∧ True) (by kernel_rfl) ⟨⟨trivial, (congrArg (fun z => AV.v (.int .i64 z)) q14)⟩, trivial⟩ trivial ?_
  refine AX.ret ?_
  refine fin_wk (Wk.forget [2] [] (s' := ⟨[(2, .v (.int .i64 (Go.bits .and .i64 v9 127)))], []⟩) (by kernel_rfl)) ?_
  have hr := Option.some.inj h
  subst hr
  exact ⟨_, Wk.refl _, .inr rfl, ⟨[], by kernel_rfl, trivial, [.v (.int .i64 (Go.bits .and .i64 v9 127))], by kernel_rfl, by kernel_rfl⟩⟩

theorem s_math_bits_OnesCount (p1 : Int) (r : Int) (h : m_math_bits_OnesCount p1 = some r) :
    Eng.Spec Try.prog 58 [.v (.int .u64 p1)] [] (.v (.int .i64 r)) [] := by
  unfold m_math_bits_OnesCount at h
  refine Eng.Spec.body Try.func58 (by kernel_rfl) rfl (by kernel_rfl) ?_
  refine AX.wkpost ?_
  refine AX.seq ?_
  refine AX.reg (its := []) [0] [] (s1 := ⟨[(0, .v (.int .u64 p1))], []⟩) (C := True) (by kernel_rfl) trivial trivial ?_
  refine AX.seq ?_
  refine AX.cond_false (by kernel_rfl) ?_
  refine AX.skip ?_
  refine AX.seq ?_
  obtain ⟨x2, e1, h⟩ := bd_e h
  refine AX.reg (its := [.auto {}, .call 103 [.v (.int .u64 p1)] (handO (rho ([] ++ [])) [] [] ++ []) (callEv [] [] (.v (.int .i64 x2)) [])]) [2] [] (s1 := ⟨[(2, .v (.int .i64 x2))], []⟩) (C := ((([.v (.int .u64 p1)] : List AV) = [.v (.int .u64 p1)]) ∧ True) ∧ True) (by kernel_rfl) ⟨⟨rfl, trivial⟩, trivial⟩ ⟨call_ok (ks := []) (ns := []) (bor := []) (bobjs := []) (s_math_bits_OnesCount64 p1 x2 e1) (.cons (.c1 (.c0 (.same _ (by kernel_rfl) (by kernel_rfl)))) (.nil)) (by kernel_rfl) trivial, trivial⟩ ?_
  refine AX.ret ?_
  refine fin_wk (Wk.forget [2] [] (s' := ⟨[(2, .v (.int .i64 x2))], []⟩) (by kernel_rfl)) ?_
  have hr := Option.some.inj h
  subst hr
  exact ⟨_, Wk.refl _, .inr rfl, ⟨[], by kernel_rfl, trivial, [.v (.int .i64 x2)], by kernel_rfl, by kernel_rfl⟩⟩

theorem s_impl_CountBits (p1 : List (ByteArray × Int)) (p2 : Int) (p3 : Int) (r : Int) (h : m_impl_CountBits p1 p2 p3 = some r) :
    Eng.Spec Try.prog 18 [.agg [.bs false 2 (List.map enc_si p1), .v (.int .i64 p2)], .v (.int .i64 p3)] [] (.v (.int .i64 r)) [] := by
  unfold m_impl_CountBits at h
  refine Eng.Spec.body Try.func18 (by kernel_rfl) rfl (by kernel_rfl) ?_
  refine AX.wkpost ?_
  refine AX.seq ?_
  refine AX.reg (its := [.auto { nk := 0 }]) [1, 2] [0] (s1 := ⟨[(1, .v (.int .i64 p3)), (2, .pt 0 0)], [(0, .box [.bs false 2 (List.map enc_si p1), .v (.int .i64 p2)])]⟩) (C := True) (by kernel_rfl) trivial trivial ?_
  refine AX.seq ?_
  refine AX.seq ?_
  obtain ⟨x4, e1, h⟩ := bd_e h
  refine AX.reg (its := [.auto {}, .auto {}, .call 13 [.agg [.bs false 2 (List.map enc_si p1), .v (.int .i64 p2)], .v (.int .i64 p3)] (handO (rho ([] ++ [])) [] [] ++ []) (callEv [] [] (.v (.bool x4)) [])]) [1, 8] [] (s1 := ⟨[(1, .v (.int .i64 p3)), (8, .v (.bool (!x4)))], []⟩) (C := ((([.agg [.bs false 2 (List.map enc_si p1), .v (.int .i64 p2)], .v (.int .i64 p3)] : List AV) = [.agg [.bs false 2 (List.map enc_si p1), .v (.int .i64 p2)], .v (.int .i64 p3)]) ∧ True) ∧ True) (by kernel_rfl) ⟨⟨rfl, trivial⟩, trivial⟩ ⟨call_ok (ks := []) (ns := []) (bor := []) (bobjs := []) (s_impl_IsValue p1 p2 p3 x4 e1) (.cons (.c1 (.agg (.cons (.same _ (by kernel_rfl) (by kernel_rfl)) (.cons (.same _ (by kernel_rfl) (by kernel_rfl)) (.nil))))) (.cons (.c1 (.c0 (.same _ (by kernel_rfl) (by kernel_rfl)))) (.nil))) (by kernel_rfl) trivial, trivial⟩ ?_
  rcases bool_cases ((!x4)) with b2 | b2
  · replace h := cd_t b2 h
    refine AX.condT ((!x4)) (by kernel_rfl) b2 ?_
    refine AX.seq ?_
    refine AX.reg (its := []) [4] [] (s1 := ⟨[(4, .v (.int .i64 (-1)))], []⟩) (C := True) (by kernel_rfl) trivial trivial ?_
    refine AX.ret ?_
    refine fin_wk (Wk.forget [4] [] (s' := ⟨[(4, .v (.int .i64 (-1)))], []⟩) (by kernel_rfl)) ?_
    have hr := Option.some.inj h
    subst hr
    exact ⟨_, Wk.refl _, .inr rfl, ⟨[], by kernel_rfl, trivial, [.v (.int .i64 (-1))], by kernel_rfl, by kernel_rfl⟩⟩
  · replace h := cd_f b2 h
    refine AX.condF ((!x4)) (by kernel_rfl) b2 ?_
    refine AX.skip ?_
    refine AX.seq ?_
    obtain ⟨x5, e3, h⟩ := bd_e h
    refine AX.reg (its := [.auto {}, .auto { raw := true }, .call 58 [.v (.int .u64 (IntKind.wrap .u64 (p3)))] (handO (rho ([] ++ [])) [] [] ++ []) (callEv [] [] (.v (.int .i64 x5)) [])]) [4] [] (s1 := ⟨[(4, .v (.int .i64 x5))], []⟩) (C := ((([.v (.int .u64 (IntKind.wrap .u64 (p3)))] : List AV) = [.v (.int .u64 (IntKind.wrap .u64 (p3)))]) ∧ True) ∧ True) (by kernel_rfl) ⟨⟨rfl, trivial⟩, trivial⟩ ⟨call_ok (ks := []) (ns := []) (bor := []) (bobjs := []) (s_math_bits_OnesCount (IntKind.wrap .u64 (p3)) x5 e3) (.cons (.c1 (.c0 (.same _ (by kernel_rfl) (by kernel_rfl)))) (.nil)) (by kernel_rfl) trivial, trivial⟩ ?_
    refine AX.ret ?_
    refine fin_wk (Wk.forget [4] [] (s' := ⟨[(4, .v (.int .i64 x5))], []⟩) (by kernel_rfl)) ?_
    have hr := Option.some.inj h
    subst hr
    exact ⟨_, Wk.refl _, .inr rfl, ⟨[], by kernel_rfl, trivial, [.v (.int .i64 x5)], by kernel_rfl, by kernel_rfl⟩⟩

theorem s_laws_FnBuildFlag_L2 (x2 : (List (ByteArray × Bool × Int)) × Int) (x3 : (List (ByteArray × Int)) × Int × Bool) (v9 : Int) (n : Nat) (g : Int) (out : Unit ⊕ Unit) (h : m_laws_FnBuildFlag_L2 x2 x3 v9 n g = some out) :
    AX Try.prog 134 0 (codeAt [1, 1, 1, 1, 1, 1, 0, 1, 1, 1, 1, 0, 1, 1, 1, 1, 1] (bodyOf Try.f4)) ((fun g : Int => (⟨[(3, .sl 0 0 x2.1.length), (4, .v (.int .i64 x2.2)), (5, .pt 1 0), (9, .v (.int .i64 v9)), (10, .pt 3 0), (11, .v (.int .i64 g))], [(0, .arr 3 (List.map enc_sbi x2.1)), (1, .box [.sl 2 0 x3.1.length, .v (.int .i64 x3.2.1)]), (2, .arr 2 (List.map enc_si x3.1)), (3, .box [.v (.string ((gt x3.1 v9).1)), .v (.int .i64 ((gt x3.1 v9).2))])]⟩ : S)) g) (fun ex s => (∃ o : Unit, out = Sum.inl o ∧ ex = .ret ∧ s = ⟨[(2, .v (.bool false))], []⟩) ∨ (∃ o : Unit, out = Sum.inr o ∧ ex = .exit 2 ∧ s = ⟨[(3, .sl 0 0 x2.1.length), (4, .v (.int .i64 x2.2)), (5, .pt 1 0), (9, .v (.int .i64 v9))], [(0, .arr 3 (List.map enc_sbi x2.1)), (1, .box [.sl 2 0 x3.1.length, .v (.int .i64 x3.2.1)]), (2, .arr 2 (List.map enc_si x3.1))]⟩)) := by
  refine AX.wkpost ?_
  refine AX.loop (G := Nat × (Int)) (fun q => (fun g : Int => (⟨[(3, .sl 0 0 x2.1.length), (4, .v (.int .i64 x2.2)), (5, .pt 1 0), (9, .v (.int .i64 v9)), (10, .pt 3 0), (11, .v (.int .i64 g))], [(0, .arr 3 (List.map enc_sbi x2.1)), (1, .box [.sl 2 0 x3.1.length, .v (.int .i64 x3.2.1)]), (2, .arr 2 (List.map enc_si x3.1)), (3, .box [.v (.string ((gt x3.1 v9).1)), .v (.int .i64 ((gt x3.1 v9).2))])]⟩ : S)) q.2) (fun q => m_laws_FnBuildFlag_L2 x2 x3 v9 q.1 q.2 = some out) (fun q => q.1) (n, g) h (Wk.refl _) ?_
  clear h
  rintro ⟨fu, v12⟩ h
  cases fu with
  | zero => cases h
  | succ fu =>
    rw [m_laws_FnBuildFlag_L2] at h
    refine AX.seq ?_
    refine AX.seq ?_
    rcases bool_cases (decide (v12 < v9)) with b25 | b25
    · replace h := cd_t b25 h
      obtain ⟨g26, h⟩ := gd_e h
      refine AX.reg (its := [.auto {}, .auto {}, .auto { y := some (.v (.bool true)) }, .auto {}, .auto {}, .auto {}, .auto {}, .auto {}, .auto { y := some (.v (.bool ((gt x2.1 v9).2.1))) }]) [3, 4, 5, 9, 10, 11, 114] [0, 1, 2, 3] (s1 := ⟨[(3, .sl 0 0 x2.1.length), (4, .v (.int .i64 x2.2)), (5, .pt 1 0), (9, .v (.int .i64 v9)), (10, .pt 3 0), (11, .v (.int .i64 v12)), (114, .v (.bool ((gt x2.1 v9).2.1)))], [(0, .arr 3 (List.map enc_sbi x2.1)), (1, .box [.sl 2 0 x3.1.length, .v (.int .i64 x3.2.1)]), (2, .arr 2 (List.map enc_si x3.1)), (3, .box [.v (.string ((gt x3.1 v9).1)), .v (.int .i64 ((gt x3.1 v9).2))])]⟩) (C := ((True) ∧ ((.v (.bool (decide (v12 < v9))) : AV) = (.v (.bool true) : AV))) ∧ (0 ≤ v9 ∧ v9 < (x2.1.length : Int)) ∧ (True ∧ (AV.v (((List.map enc_sbi x2.1).getD (0 + v9.toNat) []).getD 1 undef) = .v (.bool ((gt x2.1 v9).2.1)))) ∧ True) (by kernel_rfl) ⟨⟨trivial, (congrArg (fun z => AV.v (.bool z)) b25)⟩, ⟨g26, ⟨⟨trivial, (congrArg (fun z : List Value => AV.v (z.getD 1 undef)) (idx_arr (enc := enc_sbi) rfl g26))⟩, trivial⟩⟩⟩ trivial ?_
      rcases bool_cases ((gt x2.1 v9).2.1) with b27 | b27
      · replace h := cd_t b27 h
        refine AX.condT ((gt x2.1 v9).2.1) (by kernel_rfl) b27 ?_
        refine AX.skip ?_
        refine AX.seq ?_
        refine AX.block ?_
        refine AX.seq ?_
        obtain ⟨g28, h⟩ := gd_e h
        refine AX.drw mixed (its := [.auto {}, .auto {}, .auto {}, .auto {}, .auto {}, .auto { y := some (.v (.int .i64 ((gt x3.1 v12).2))) }]) [3, 4, 5, 9, 10, 11, 125] [0, 1, 2, 3] (s1 := ⟨[(3, .sl 0 0 x2.1.length), (4, .v (.int .i64 x2.2)), (5, .pt 1 0), (9, .v (.int .i64 v9)), (10, .pt 3 0), (11, .v (.int .i64 v12)), (125, .v (.bool (decide (((gt x3.1 v9).2) ≤ ((gt x3.1 v12).2)))))], [(0, .arr 3 (List.map enc_sbi x2.1)), (1, .box [.sl 2 0 x3.1.length, .v (.int .i64 x3.2.1)]), (2, .arr 2 (List.map enc_si x3.1)), (3, .box [.v (.string ((gt x3.1 v9).1)), .v (.int .i64 ((gt x3.1 v9).2))])]⟩) (C := (0 ≤ v12 ∧ v12 < (x3.1.length : Int)) ∧ (True ∧ (AV.v (((List.map enc_si x3.1).getD (0 + v12.toNat) []).getD 1 undef) = .v (.int .i64 ((gt x3.1 v12).2)))) ∧ True) (by kernel_rfl) ⟨g28, ⟨⟨trivial, (congrArg (fun z : List Value => AV.v (z.getD 1 undef)) (idx_arr (enc := enc_si) rfl g28))⟩, trivial⟩⟩ trivial ?_
        rcases bool_cases (decide (((gt x3.1 v9).2) ≤ ((gt x3.1 v12).2))) with b29 | b29
        · replace h := cd_t b29 h
          refine AX.condT (decide (((gt x3.1 v9).2) ≤ ((gt x3.1 v12).2))) (by kernel_rfl) b29 ?_
          refine AX.seq ?_
          refine AX.reg (its := []) [2] [] (s1 := ⟨[(2, .v (.bool false))], []⟩) (C := True) (by kernel_rfl) trivial trivial ?_
          refine AX.ret ?_
          refine fin_wk (Wk.forget [2] [] (s' := ⟨[(2, .v (.bool false))], []⟩) (by kernel_rfl)) ?_
          have hr := Option.some.inj h
          subst hr
          exact ⟨_, Wk.refl _, .inl ⟨(), rfl, rfl, rfl⟩⟩
        · replace h := cd_f b29 h
          refine AX.condF (decide (((gt x3.1 v9).2) ≤ ((gt x3.1 v12).2))) (by kernel_rfl) b29 ?_
          refine AX.skip ?_
          refine AX.reg (its := [.auto {}, .auto { raw := true }]) [3, 4, 5, 9, 10, 11] [0, 1, 2, 3] (s1 := ⟨[(3, .sl 0 0 x2.1.length), (4, .v (.int .i64 x2.2)), (5, .pt 1 0), (9, .v (.int .i64 v9)), (10, .pt 3 0), (11, .v (.int .i64 (IntKind.wrap .i64 (v12 + 1))))], [(0, .arr 3 (List.map enc_sbi x2.1)), (1, .box [.sl 2 0 x3.1.length, .v (.int .i64 x3.2.1)]), (2, .arr 2 (List.map enc_si x3.1)), (3, .box [.v (.string ((gt x3.1 v9).1)), .v (.int .i64 ((gt x3.1 v9).2))])]⟩) (C := True) (by kernel_rfl) trivial trivial ?_
          refine ⟨(fu, IntKind.wrap .i64 (v12 + 1)), h, Nat.lt_succ_self _, ?_⟩
          refine Wk.trans (Wk.forget [3, 4, 5, 9, 10, 11] [0, 1, 2, 3] (s' := ⟨[(3, .sl 0 0 x2.1.length), (4, .v (.int .i64 x2.2)), (5, .pt 1 0), (9, .v (.int .i64 v9)), (10, .pt 3 0), (11, .v (.int .i64 (IntKind.wrap .i64 (v12 + 1))))], [(0, .arr 3 (List.map enc_sbi x2.1)), (1, .box [.sl 2 0 x3.1.length, .v (.int .i64 x3.2.1)]), (2, .arr 2 (List.map enc_si x3.1)), (3, .box [.v (.string ((gt x3.1 v9).1)), .v (.int .i64 ((gt x3.1 v9).2))])]⟩) (by kernel_rfl)) ?_
          exact Wk.refl _
      · replace h := cd_f b27 h
        refine AX.condF ((gt x2.1 v9).2.1) (by kernel_rfl) b27 ?_
        refine AX.exit ?_
        refine fin_wk (Wk.forget [3, 4, 5, 9] [0, 1, 2] (s' := ⟨[(3, .sl 0 0 x2.1.length), (4, .v (.int .i64 x2.2)), (5, .pt 1 0), (9, .v (.int .i64 v9))], [(0, .arr 3 (List.map enc_sbi x2.1)), (1, .box [.sl 2 0 x3.1.length, .v (.int .i64 x3.2.1)]), (2, .arr 2 (List.map enc_si x3.1))]⟩) (by kernel_rfl)) ?_
        have hr := Option.some.inj h
        subst hr
        exact ⟨_, Wk.refl _, .inr ⟨(), rfl, rfl, rfl⟩⟩
    · replace h := cd_f b25 h
      refine AX.reg (its := [.auto {}, .auto {}, .auto { y := some (.v (.bool false)) }]) [3, 4, 5, 9, 10, 11, 114] [0, 1, 2, 3] (s1 := ⟨[(3, .sl 0 0 x2.1.length), (4, .v (.int .i64 x2.2)), (5, .pt 1 0), (9, .v (.int .i64 v9)), (10, .pt 3 0), (11, .v (.int .i64 v12)), (114, .v (.bool false))], [(0, .arr 3 (List.map enc_sbi x2.1)), (1, .box [.sl 2 0 x3.1.length, .v (.int .i64 x3.2.1)]), (2, .arr 2 (List.map enc_si x3.1)), (3, .box [.v (.string ((gt x3.1 v9).1)), .v (.int .i64 ((gt x3.1 v9).2))])]⟩) (C := ((True) ∧ ((.v (.bool (decide (v12 < v9))) : AV) = (.v (.bool false) : AV))) ∧ True) (by kernel_rfl) ⟨⟨trivial, (congrArg (fun z => AV.v (.bool z)) b25)⟩, trivial⟩ trivial ?_
      refine AX.cond_false (by kernel_rfl) ?_
      refine AX.exit ?_
      refine fin_wk (Wk.forget [3, 4, 5, 9] [0, 1, 2] (s' := ⟨[(3, .sl 0 0 x2.1.length), (4, .v (.int .i64 x2.2)), (5, .pt 1 0), (9, .v (.int .i64 v9))], [(0, .arr 3 (List.map enc_sbi x2.1)), (1, .box [.sl 2 0 x3.1.length, .v (.int .i64 x3.2.1)]), (2, .arr 2 (List.map enc_si x3.1))]⟩) (by kernel_rfl)) ?_
      have hr := Option.some.inj h
      subst hr
      exact ⟨_, Wk.refl _, .inr ⟨(), rfl, rfl, rfl⟩⟩

theorem s_laws_FnBuildFlag_L3 (x2 : (List (ByteArray × Bool × Int)) × Int) (x3 : (List (ByteArray × Int)) × Int × Bool) (v9 : Int) (n : Nat) (g : Int) (out : Unit ⊕ Unit) (h : m_laws_FnBuildFlag_L3 x2 x3 v9 n g = some out) :
    AX Try.prog 134 0 (codeAt [1, 1, 1, 1, 1, 1, 0, 1, 1, 1, 1, 0, 1, 1, 1, 1, 1] (bodyOf Try.f4)) ((fun g : Int => (⟨[(3, .sl 0 0 x2.1.length), (4, .v (.int .i64 x2.2)), (5, .pt 1 0), (9, .v (.int .i64 v9)), (10, .pt 3 0), (11, .v (.int .i64 g))], [(0, .arr 3 (List.map enc_sbi x2.1)), (1, .box [.sl 2 0 x3.1.length, .v (.int .i64 x3.2.1)]), (2, .arr 2 (List.map enc_si x3.1)), (3, .box [.v (.string ((gt x3.1 v9).1)), .v (.int .i64 ((gt x3.1 v9).2))])]⟩ : S)) g) (fun ex s => (∃ o : Unit, out = Sum.inl o ∧ ex = .ret ∧ s = ⟨[(2, .v (.bool false))], []⟩) ∨ (∃ o : Unit, out = Sum.inr o ∧ ex = .exit 2 ∧ s = ⟨[(3, .sl 0 0 x2.1.length), (4, .v (.int .i64 x2.2)), (5, .pt 1 0), (9, .v (.int .i64 v9))], [(0, .arr 3 (List.map enc_sbi x2.1)), (1, .box [.sl 2 0 x3.1.length, .v (.int .i64 x3.2.1)]), (2, .arr 2 (List.map enc_si x3.1))]⟩)) := by
  refine AX.wkpost ?_
  refine AX.loop (G := Nat × (Int)) (fun q => (fun g : Int => (⟨[(3, .sl 0 0 x2.1.length), (4, .v (.int .i64 x2.2)), (5, .pt 1 0), (9, .v (.int .i64 v9)), (10, .pt 3 0), (11, .v (.int .i64 g))], [(0, .arr 3 (List.map enc_sbi x2.1)), (1, .box [.sl 2 0 x3.1.length, .v (.int .i64 x3.2.1)]), (2, .arr 2 (List.map enc_si x3.1)), (3, .box [.v (.string ((gt x3.1 v9).1)), .v (.int .i64 ((gt x3.1 v9).2))])]⟩ : S)) q.2) (fun q => m_laws_FnBuildFlag_L3 x2 x3 v9 q.1 q.2 = some out) (fun q => q.1) (n, g) h (Wk.refl _) ?_
  clear h
  rintro ⟨fu, v16⟩ h
  cases fu with
  | zero => cases h
  | succ fu =>
    rw [m_laws_FnBuildFlag_L3] at h
    refine AX.seq ?_
    refine AX.seq ?_
    rcases bool_cases (decide (v16 < v9)) with b31 | b31
    · replace h := cd_t b31 h
      obtain ⟨g32, h⟩ := gd_e h
      refine AX.reg (its := [.auto {}, .auto {}, .auto { y := some (.v (.bool true)) }, .auto {}, .auto {}, .auto {}, .auto {}, .auto {}, .auto { y := some (.v (.bool ((gt x2.1 v9).2.1))) }]) [3, 4, 5, 9, 10, 11, 114] [0, 1, 2, 3] (s1 := ⟨[(3, .sl 0 0 x2.1.length), (4, .v (.int .i64 x2.2)), (5, .pt 1 0), (9, .v (.int .i64 v9)), (10, .pt 3 0), (11, .v (.int .i64 v16)), (114, .v (.bool ((gt x2.1 v9).2.1)))], [(0, .arr 3 (List.map enc_sbi x2.1)), (1, .box [.sl 2 0 x3.1.length, .v (.int .i64 x3.2.1)]), (2, .arr 2 (List.map enc_si x3.1)), (3, .box [.v (.string ((gt x3.1 v9).1)), .v (.int .i64 ((gt x3.1 v9).2))])]⟩) (C := ((True) ∧ ((.v (.bool (decide (v16 < v9))) : AV) = (.v (.bool true) : AV))) ∧ (0 ≤ v9 ∧ v9 < (x2.1.length : Int)) ∧ (True ∧ (AV.v (((List.map enc_sbi x2.1).getD (0 + v9.toNat) []).getD 1 undef) = .v (.bool ((gt x2.1 v9).2.1)))) ∧ True) (by kernel_rfl) ⟨⟨trivial, (congrArg (fun z => AV.v (.bool z)) b31)⟩, ⟨g32, ⟨⟨trivial, (congrArg (fun z : List Value => AV.v (z.getD 1 undef)) (idx_arr (enc := enc_sbi) rfl g32))⟩, trivial⟩⟩⟩ trivial ?_
      rcases bool_cases ((gt x2.1 v9).2.1) with b33 | b33
      · replace h := cd_t b33 h
        refine AX.condT ((gt x2.1 v9).2.1) (by kernel_rfl) b33 ?_
        refine AX.skip ?_
        refine AX.seq ?_
        refine AX.block ?_
        refine AX.seq ?_
        obtain ⟨g34, h⟩ := gd_e h
        refine AX.drw mixed (its := [.auto {}, .auto {}, .auto {}, .auto {}, .auto {}, .auto { y := some (.v (.int .i64 ((gt x3.1 v16).2))) }]) [3, 4, 5, 9, 10, 11, 125] [0, 1, 2, 3] (s1 := ⟨[(3, .sl 0 0 x2.1.length), (4, .v (.int .i64 x2.2)), (5, .pt 1 0), (9, .v (.int .i64 v9)), (10, .pt 3 0), (11, .v (.int .i64 v16)), (125, .v (.bool (decide (((gt x3.1 v9).2) ≤ ((gt x3.1 v16).2)))))], [(0, .arr 3 (List.map enc_sbi x2.1)), (1, .box [.sl 2 0 x3.1.length, .v (.int .i64 x3.2.1)]), (2, .arr 2 (List.map enc_si x3.1)), (3, .box [.v (.string ((gt x3.1 v9).1)), .v (.int .i64 ((gt x3.1 v9).2))])]⟩) (C := (0 ≤ v16 ∧ v16 < (x3.1.length : Int)) ∧ (True ∧ (AV.v (((List.map enc_si x3.1).getD (0 + v16.toNat) []).getD 1 undef) = .v (.int .i64 ((gt x3.1 v16).2)))) ∧ True) (by kernel_rfl) ⟨g34, ⟨⟨trivial, (congrArg (fun z : List Value => AV.v (z.getD 1 undef)) (idx_arr (enc := enc_si) rfl g34))⟩, trivial⟩⟩ trivial ?_
        rcases bool_cases (decide (((gt x3.1 v9).2) ≤ ((gt x3.1 v16).2))) with b35 | b35
        · replace h := cd_t b35 h
          refine AX.condT (decide (((gt x3.1 v9).2) ≤ ((gt x3.1 v16).2))) (by kernel_rfl) b35 ?_
          refine AX.seq ?_
          refine AX.reg (its := []) [2] [] (s1 := ⟨[(2, .v (.bool false))], []⟩) (C := True) (by kernel_rfl) trivial trivial ?_
          refine AX.ret ?_
          refine fin_wk (Wk.forget [2] [] (s' := ⟨[(2, .v (.bool false))], []⟩) (by kernel_rfl)) ?_
          have hr := Option.some.inj h
          subst hr
          exact ⟨_, Wk.refl _, .inl ⟨(), rfl, rfl, rfl⟩⟩
        · replace h := cd_f b35 h
          refine AX.condF (decide (((gt x3.1 v9).2) ≤ ((gt x3.1 v16).2))) (by kernel_rfl) b35 ?_
          refine AX.skip ?_
          refine AX.reg (its := [.auto {}, .auto { raw := true }]) [3, 4, 5, 9, 10, 11] [0, 1, 2, 3] (s1 := ⟨[(3, .sl 0 0 x2.1.length), (4, .v (.int .i64 x2.2)), (5, .pt 1 0), (9, .v (.int .i64 v9)), (10, .pt 3 0), (11, .v (.int .i64 (IntKind.wrap .i64 (v16 + 1))))], [(0, .arr 3 (List.map enc_sbi x2.1)), (1, .box [.sl 2 0 x3.1.length, .v (.int .i64 x3.2.1)]), (2, .arr 2 (List.map enc_si x3.1)), (3, .box [.v (.string ((gt x3.1 v9).1)), .v (.int .i64 ((gt x3.1 v9).2))])]⟩) (C := True) (by kernel_rfl) trivial trivial ?_
          refine ⟨(fu, IntKind.wrap .i64 (v16 + 1)), h, Nat.lt_succ_self _, ?_⟩
          refine Wk.trans (Wk.forget [3, 4, 5, 9, 10, 11] [0, 1, 2, 3] (s' := ⟨[(3, .sl 0 0 x2.1.length), (4, .v (.int .i64 x2.2)), (5, .pt 1 0), (9, .v (.int .i64 v9)), (10, .pt 3 0), (11, .v (.int .i64 (IntKind.wrap .i64 (v16 + 1))))], [(0, .arr 3 (List.map enc_sbi x2.1)), (1, .box [.sl 2 0 x3.1.length, .v (.int .i64 x3.2.1)]), (2, .arr 2 (List.map enc_si x3.1)), (3, .box [.v (.string ((gt x3.1 v9).1)), .v (.int .i64 ((gt x3.1 v9).2))])]⟩) (by kernel_rfl)) ?_
          exact Wk.refl _
      · replace h := cd_f b33 h
        refine AX.condF ((gt x2.1 v9).2.1) (by kernel_rfl) b33 ?_
        refine AX.exit ?_
        refine fin_wk (Wk.forget [3, 4, 5, 9] [0, 1, 2] (s' := ⟨[(3, .sl 0 0 x2.1.length), (4, .v (.int .i64 x2.2)), (5, .pt 1 0), (9, .v (.int .i64 v9))], [(0, .arr 3 (List.map enc_sbi x2.1)), (1, .box [.sl 2 0 x3.1.length, .v (.int .i64 x3.2.1)]), (2, .arr 2 (List.map enc_si x3.1))]⟩) (by kernel_rfl)) ?_
        have hr := Option.some.inj h
        subst hr
        exact ⟨_, Wk.refl _, .inr ⟨(), rfl, rfl, rfl⟩⟩
    · replace h := cd_f b31 h
      refine AX.reg (its := [.auto {}, .auto {}, .auto { y := some (.v (.bool false)) }]) [3, 4, 5, 9, 10, 11, 114] [0, 1, 2, 3] (s1 := ⟨[(3, .sl 0 0 x2.1.length), (4, .v (.int .i64 x2.2)), (5, .pt 1 0), (9, .v (.int .i64 v9)), (10, .pt 3 0), (11, .v (.int .i64 v16)), (114, .v (.bool false))], [(0, .arr 3 (List.map enc_sbi x2.1)), (1, .box [.sl 2 0 x3.1.length, .v (.int .i64 x3.2.1)]), (2, .arr 2 (List.map enc_si x3.1)), (3, .box [.v (.string ((gt x3.1 v9).1)), .v (.int .i64 ((gt x3.1 v9).2))])]⟩) (C := ((True) ∧ ((.v (.bool (decide (v16 < v9))) : AV) = (.v (.bool false) : AV))) ∧ True) (by kernel_rfl) ⟨⟨trivial, (congrArg (fun z => AV.v (.bool z)) b31)⟩, trivial⟩ trivial ?_
      refine AX.cond_false (by kernel_rfl) ?_
      refine AX.exit ?_
      refine fin_wk (Wk.forget [3, 4, 5, 9] [0, 1, 2] (s' := ⟨[(3, .sl 0 0 x2.1.length), (4, .v (.int .i64 x2.2)), (5, .pt 1 0), (9, .v (.int .i64 v9))], [(0, .arr 3 (List.map enc_sbi x2.1)), (1, .box [.sl 2 0 x3.1.length, .v (.int .i64 x3.2.1)]), (2, .arr 2 (List.map enc_si x3.1))]⟩) (by kernel_rfl)) ?_
      have hr := Option.some.inj h
      subst hr
      exact ⟨_, Wk.refl _, .inr ⟨(), rfl, rfl, rfl⟩⟩

theorem s_laws_FnBuildFlag_L4 (x2 : (List (ByteArray × Bool × Int)) × Int) (x3 : (List (ByteArray × Int)) × Int × Bool) (v9 : Int) (n : Nat) (g : Int) (out : Unit ⊕ Unit) (h : m_laws_FnBuildFlag_L4 x2 x3 v9 n g = some out) :
    AX Try.prog 134 0 (codeAt [1, 1, 1, 1, 1, 1, 0, 1, 1, 1, 1, 0, 1, 1, 1, 1, 1] (bodyOf Try.f4)) ((fun g : Int => (⟨[(3, .sl 0 0 x2.1.length), (4, .v (.int .i64 x2.2)), (5, .pt 1 0), (9, .v (.int .i64 v9)), (10, .pt 3 0), (11, .v (.int .i64 g))], [(0, .arr 3 (List.map enc_sbi x2.1)), (1, .box [.sl 2 0 x3.1.length, .v (.int .i64 x3.2.1)]), (2, .arr 2 (List.map enc_si x3.1)), (3, .box [.v (.string ((gt x3.1 v9).1)), .v (.int .i64 ((gt x3.1 v9).2))])]⟩ : S)) g) (fun ex s => (∃ o : Unit, out = Sum.inl o ∧ ex = .ret ∧ s = ⟨[(2, .v (.bool false))], []⟩) ∨ (∃ o : Unit, out = Sum.inr o ∧ ex = .exit 2 ∧ s = ⟨[(3, .sl 0 0 x2.1.length), (4, .v (.int .i64 x2.2)), (5, .pt 1 0), (9, .v (.int .i64 v9))], [(0, .arr 3 (List.map enc_sbi x2.1)), (1, .box [.sl 2 0 x3.1.length, .v (.int .i64 x3.2.1)]), (2, .arr 2 (List.map enc_si x3.1))]⟩)) := by
  refine AX.wkpost ?_
  refine AX.loop (G := Nat × (Int)) (fun q => (fun g : Int => (⟨[(3, .sl 0 0 x2.1.length), (4, .v (.int .i64 x2.2)), (5, .pt 1 0), (9, .v (.int .i64 v9)), (10, .pt 3 0), (11, .v (.int .i64 g))], [(0, .arr 3 (List.map enc_sbi x2.1)), (1, .box [.sl 2 0 x3.1.length, .v (.int .i64 x3.2.1)]), (2, .arr 2 (List.map enc_si x3.1)), (3, .box [.v (.string ((gt x3.1 v9).1)), .v (.int .i64 ((gt x3.1 v9).2))])]⟩ : S)) q.2) (fun q => m_laws_FnBuildFlag_L4 x2 x3 v9 q.1 q.2 = some out) (fun q => q.1) (n, g) h (Wk.refl _) ?_
  clear h
  rintro ⟨fu, v22⟩ h
  cases fu with
  | zero => cases h
  | succ fu =>
    rw [m_laws_FnBuildFlag_L4] at h
    refine AX.seq ?_
    refine AX.seq ?_
    rcases bool_cases (decide (v22 < v9)) with b41 | b41
    · replace h := cd_t b41 h
      obtain ⟨g42, h⟩ := gd_e h
      refine AX.reg (its := [.auto {}, .auto {}, .auto { y := some (.v (.bool true)) }, .auto {}, .auto {}, .auto {}, .auto {}, .auto {}, .auto { y := some (.v (.bool ((gt x2.1 v9).2.1))) }]) [3, 4, 5, 9, 10, 11, 114] [0, 1, 2, 3] (s1 := ⟨[(3, .sl 0 0 x2.1.length), (4, .v (.int .i64 x2.2)), (5, .pt 1 0), (9, .v (.int .i64 v9)), (10, .pt 3 0), (11, .v (.int .i64 v22)), (114, .v (.bool ((gt x2.1 v9).2.1)))], [(0, .arr 3 (List.map enc_sbi x2.1)), (1, .box [.sl 2 0 x3.1.length, .v (.int .i64 x3.2.1)]), (2, .arr 2 (List.map enc_si x3.1)), (3, .box [.v (.string ((gt x3.1 v9).1)), .v (.int .i64 ((gt x3.1 v9).2))])]⟩) (C := ((True) ∧ ((.v (.bool (decide (v22 < v9))) : AV) = (.v (.bool true) : AV))) ∧ (0 ≤ v9 ∧ v9 < (x2.1.length : Int)) ∧ (True ∧ (AV.v (((List.map enc_sbi x2.1).getD (0 + v9.toNat) []).getD 1 undef) = .v (.bool ((gt x2.1 v9).2.1)))) ∧ True) (by kernel_rfl) ⟨⟨trivial, (congrArg (fun z => AV.v (.bool z)) b41)⟩, ⟨g42, ⟨⟨trivial, (congrArg (fun z : List Value => AV.v (z.getD 1 undef)) (idx_arr (enc := enc_sbi) rfl g42))⟩, trivial⟩⟩⟩ trivial ?_
      rcases bool_cases ((gt x2.1 v9).2.1) with b43 | b43
      · replace h := cd_t b43 h
        refine AX.condT ((gt x2.1 v9).2.1) (by kernel_rfl) b43 ?_
        refine AX.skip ?_
        refine AX.seq ?_
        refine AX.block ?_
        refine AX.seq ?_
        obtain ⟨g44, h⟩ := gd_e h
        refine AX.drw mixed (its := [.auto {}, .auto {}, .auto {}, .auto {}, .auto {}, .auto { y := some (.v (.int .i64 ((gt x3.1 v22).2))) }]) [3, 4, 5, 9, 10, 11, 125] [0, 1, 2, 3] (s1 := ⟨[(3, .sl 0 0 x2.1.length), (4, .v (.int .i64 x2.2)), (5, .pt 1 0), (9, .v (.int .i64 v9)), (10, .pt 3 0), (11, .v (.int .i64 v22)), (125, .v (.bool (decide (((gt x3.1 v9).2) ≤ ((gt x3.1 v22).2)))))], [(0, .arr 3 (List.map enc_sbi x2.1)), (1, .box [.sl 2 0 x3.1.length, .v (.int .i64 x3.2.1)]), (2, .arr 2 (List.map enc_si x3.1)), (3, .box [.v (.string ((gt x3.1 v9).1)), .v (.int .i64 ((gt x3.1 v9).2))])]⟩) (C := (0 ≤ v22 ∧ v22 < (x3.1.length : Int)) ∧ (True ∧ (AV.v (((List.map enc_si x3.1).getD (0 + v22.toNat) []).getD 1 undef) = .v (.int .i64 ((gt x3.1 v22).2)))) ∧ True) (by kernel_rfl) ⟨g44, ⟨⟨trivial, (congrArg (fun z : List Value => AV.v (z.getD 1 undef)) (idx_arr (enc := enc_si) rfl g44))⟩, trivial⟩⟩ trivial ?_
        rcases bool_cases (decide (((gt x3.1 v9).2) ≤ ((gt x3.1 v22).2))) with b45 | b45
        · replace h := cd_t b45 h
          refine AX.condT (decide (((gt x3.1 v9).2) ≤ ((gt x3.1 v22).2))) (by kernel_rfl) b45 ?_
          refine AX.seq ?_
          refine AX.reg (its := []) [2] [] (s1 := ⟨[(2, .v (.bool false))], []⟩) (C := True) (by kernel_rfl) trivial trivial ?_
          refine AX.ret ?_
          refine fin_wk (Wk.forget [2] [] (s' := ⟨[(2, .v (.bool false))], []⟩) (by kernel_rfl)) ?_
          have hr := Option.some.inj h
          subst hr
          exact ⟨_, Wk.refl _, .inl ⟨(), rfl, rfl, rfl⟩⟩
        · replace h := cd_f b45 h
          refine AX.condF (decide (((gt x3.1 v9).2) ≤ ((gt x3.1 v22).2))) (by kernel_rfl) b45 ?_
          refine AX.skip ?_
          refine AX.reg (its := [.auto {}, .auto { raw := true }]) [3, 4, 5, 9, 10, 11] [0, 1, 2, 3] (s1 := ⟨[(3, .sl 0 0 x2.1.length), (4, .v (.int .i64 x2.2)), (5, .pt 1 0), (9, .v (.int .i64 v9)), (10, .pt 3 0), (11, .v (.int .i64 (IntKind.wrap .i64 (v22 + 1))))], [(0, .arr 3 (List.map enc_sbi x2.1)), (1, .box [.sl 2 0 x3.1.length, .v (.int .i64 x3.2.1)]), (2, .arr 2 (List.map enc_si x3.1)), (3, .box [.v (.string ((gt x3.1 v9).1)), .v (.int .i64 ((gt x3.1 v9).2))])]⟩) (C := True) (by kernel_rfl) trivial trivial ?_
          refine ⟨(fu, IntKind.wrap .i64 (v22 + 1)), h, Nat.lt_succ_self _, ?_⟩
          refine Wk.trans (Wk.forget [3, 4, 5, 9, 10, 11] [0, 1, 2, 3] (s' := ⟨[(3, .sl 0 0 x2.1.length), (4, .v (.int .i64 x2.2)), (5, .pt 1 0), (9, .v (.int .i64 v9)), (10, .pt 3 0), (11, .v (.int .i64 (IntKind.wrap .i64 (v22 + 1))))], [(0, .arr 3 (List.map enc_sbi x2.1)), (1, .box [.sl 2 0 x3.1.length, .v (.int .i64 x3.2.1)]), (2, .arr 2 (List.map enc_si x3.1)), (3, .box [.v (.string ((gt x3.1 v9).1)), .v (.int .i64 ((gt x3.1 v9).2))])]⟩) (by kernel_rfl)) ?_
          exact Wk.refl _
      · replace h := cd_f b43 h
        refine AX.condF ((gt x2.1 v9).2.1) (by kernel_rfl) b43 ?_
        refine AX.exit ?_
        refine fin_wk (Wk.forget [3, 4, 5, 9] [0, 1, 2] (s' := ⟨[(3, .sl 0 0 x2.1.length), (4, .v (.int .i64 x2.2)), (5, .pt 1 0), (9, .v (.int .i64 v9))], [(0, .arr 3 (List.map enc_sbi x2.1)), (1, .box [.sl 2 0 x3.1.length, .v (.int .i64 x3.2.1)]), (2, .arr 2 (List.map enc_si x3.1))]⟩) (by kernel_rfl)) ?_
        have hr := Option.some.inj h
        subst hr
        exact ⟨_, Wk.refl _, .inr ⟨(), rfl, rfl, rfl⟩⟩
    · replace h := cd_f b41 h
      refine AX.reg (its := [.auto {}, .auto {}, .auto { y := some (.v (.bool false)) }]) [3, 4, 5, 9, 10, 11, 114] [0, 1, 2, 3] (s1 := ⟨[(3, .sl 0 0 x2.1.length), (4, .v (.int .i64 x2.2)), (5, .pt 1 0), (9, .v (.int .i64 v9)), (10, .pt 3 0), (11, .v (.int .i64 v22)), (114, .v (.bool false))], [(0, .arr 3 (List.map enc_sbi x2.1)), (1, .box [.sl 2 0 x3.1.length, .v (.int .i64 x3.2.1)]), (2, .arr 2 (List.map enc_si x3.1)), (3, .box [.v (.string ((gt x3.1 v9).1)), .v (.int .i64 ((gt x3.1 v9).2))])]⟩) (C := ((True) ∧ ((.v (.bool (decide (v22 < v9))) : AV) = (.v (.bool false) : AV))) ∧ True) (by kernel_rfl) ⟨⟨trivial, (congrArg (fun z => AV.v (.bool z)) b41)⟩, trivial⟩ trivial ?_
      refine AX.cond_false (by kernel_rfl) ?_
      refine AX.exit ?_
      refine fin_wk (Wk.forget [3, 4, 5, 9] [0, 1, 2] (s' := ⟨[(3, .sl 0 0 x2.1.length), (4, .v (.int .i64 x2.2)), (5, .pt 1 0), (9, .v (.int .i64 v9))], [(0, .arr 3 (List.map enc_sbi x2.1)), (1, .box [.sl 2 0 x3.1.length, .v (.int .i64 x3.2.1)]), (2, .arr 2 (List.map enc_si x3.1))]⟩) (by kernel_rfl)) ?_
      have hr := Option.some.inj h
      subst hr
      exact ⟨_, Wk.refl _, .inr ⟨(), rfl, rfl, rfl⟩⟩

theorem s_laws_FnBuildFlag_L5 (x2 : (List (ByteArray × Bool × Int)) × Int) (x3 : (List (ByteArray × Int)) × Int × Bool) (v9 : Int) (n : Nat) (g : Int) (out : Unit ⊕ Unit) (h : m_laws_FnBuildFlag_L5 x2 x3 v9 n g = some out) :
    AX Try.prog 134 0 (codeAt [1, 1, 1, 1, 1, 1, 0, 1, 1, 1, 1, 0, 1, 1, 1, 1, 1] (bodyOf Try.f4)) ((fun g : Int => (⟨[(3, .sl 0 0 x2.1.length), (4, .v (.int .i64 x2.2)), (5, .pt 1 0), (9, .v (.int .i64 v9)), (10, .pt 3 0), (11, .v (.int .i64 g))], [(0, .arr 3 (List.map enc_sbi x2.1)), (1, .box [.sl 2 0 x3.1.length, .v (.int .i64 x3.2.1)]), (2, .arr 2 (List.map enc_si x3.1)), (3, .box [.v (.string ((gt x3.1 v9).1)), .v (.int .i64 ((gt x3.1 v9).2))])]⟩ : S)) g) (fun ex s => (∃ o : Unit, out = Sum.inl o ∧ ex = .ret ∧ s = ⟨[(2, .v (.bool false))], []⟩) ∨ (∃ o : Unit, out = Sum.inr o ∧ ex = .exit 2 ∧ s = ⟨[(3, .sl 0 0 x2.1.length), (4, .v (.int .i64 x2.2)), (5, .pt 1 0), (9, .v (.int .i64 v9))], [(0, .arr 3 (List.map enc_sbi x2.1)), (1, .box [.sl 2 0 x3.1.length, .v (.int .i64 x3.2.1)]), (2, .arr 2 (List.map enc_si x3.1))]⟩)) := by
  refine AX.wkpost ?_
  refine AX.loop (G := Nat × (Int)) (fun q => (fun g : Int => (⟨[(3, .sl 0 0 x2.1.length), (4, .v (.int .i64 x2.2)), (5, .pt 1 0), (9, .v (.int .i64 v9)), (10, .pt 3 0), (11, .v (.int .i64 g))], [(0, .arr 3 (List.map enc_sbi x2.1)), (1, .box [.sl 2 0 x3.1.length, .v (.int .i64 x3.2.1)]), (2, .arr 2 (List.map enc_si x3.1)), (3, .box [.v (.string ((gt x3.1 v9).1)), .v (.int .i64 ((gt x3.1 v9).2))])]⟩ : S)) q.2) (fun q => m_laws_FnBuildFlag_L5 x2 x3 v9 q.1 q.2 = some out) (fun q => q.1) (n, g) h (Wk.refl _) ?_
  clear h
  rintro ⟨fu, v26⟩ h
  cases fu with
  | zero => cases h
  | succ fu =>
    rw [m_laws_FnBuildFlag_L5] at h
    refine AX.seq ?_
    refine AX.seq ?_
    rcases bool_cases (decide (v26 < v9)) with b48 | b48
    · replace h := cd_t b48 h
      obtain ⟨g49, h⟩ := gd_e h
      refine AX.reg (its := [.auto {}, .auto {}, .auto { y := some (.v (.bool true)) }, .auto {}, .auto {}, .auto {}, .auto {}, .auto {}, .auto { y := some (.v (.bool ((gt x2.1 v9).2.1))) }]) [3, 4, 5, 9, 10, 11, 114] [0, 1, 2, 3] (s1 := ⟨[(3, .sl 0 0 x2.1.length), (4, .v (.int .i64 x2.2)), (5, .pt 1 0), (9, .v (.int .i64 v9)), (10, .pt 3 0), (11, .v (.int .i64 v26)), (114, .v (.bool ((gt x2.1 v9).2.1)))], [(0, .arr 3 (List.map enc_sbi x2.1)), (1, .box [.sl 2 0 x3.1.length, .v (.int .i64 x3.2.1)]), (2, .arr 2 (List.map enc_si x3.1)), (3, .box [.v (.string ((gt x3.1 v9).1)), .v (.int .i64 ((gt x3.1 v9).2))])]⟩) (C := ((True) ∧ ((.v (.bool (decide (v26 < v9))) : AV) = (.v (.bool true) : AV))) ∧ (0 ≤ v9 ∧ v9 < (x2.1.length : Int)) ∧ (True ∧ (AV.v (((List.map enc_sbi x2.1).getD (0 + v9.toNat) []).getD 1 undef) = .v (.bool ((gt x2.1 v9).2.1)))) ∧ True) (by kernel_rfl) ⟨⟨trivial, (congrArg (fun z => AV.v (.bool z)) b48)⟩, ⟨g49, ⟨⟨trivial, (congrArg (fun z : List Value => AV.v (z.getD 1 undef)) (idx_arr (enc := enc_sbi) rfl g49))⟩, trivial⟩⟩⟩ trivial ?_
      rcases bool_cases ((gt x2.1 v9).2.1) with b50 | b50
      · replace h := cd_t b50 h
        refine AX.condT ((gt x2.1 v9).2.1) (by kernel_rfl) b50 ?_
        refine AX.skip ?_
        refine AX.seq ?_
        refine AX.block ?_
        refine AX.seq ?_
        obtain ⟨g51, h⟩ := gd_e h
        refine AX.drw mixed (its := [.auto {}, .auto {}, .auto {}, .auto {}, .auto {}, .auto { y := some (.v (.int .i64 ((gt x3.1 v26).2))) }]) [3, 4, 5, 9, 10, 11, 125] [0, 1, 2, 3] (s1 := ⟨[(3, .sl 0 0 x2.1.length), (4, .v (.int .i64 x2.2)), (5, .pt 1 0), (9, .v (.int .i64 v9)), (10, .pt 3 0), (11, .v (.int .i64 v26)), (125, .v (.bool (decide (((gt x3.1 v9).2) ≤ ((gt x3.1 v26).2)))))], [(0, .arr 3 (List.map enc_sbi x2.1)), (1, .box [.sl 2 0 x3.1.length, .v (.int .i64 x3.2.1)]), (2, .arr 2 (List.map enc_si x3.1)), (3, .box [.v (.string ((gt x3.1 v9).1)), .v (.int .i64 ((gt x3.1 v9).2))])]⟩) (C := (0 ≤ v26 ∧ v26 < (x3.1.length : Int)) ∧ (True ∧ (AV.v (((List.map enc_si x3.1).getD (0 + v26.toNat) []).getD 1 undef) = .v (.int .i64 ((gt x3.1 v26).2)))) ∧ True) (by kernel_rfl) ⟨g51, ⟨⟨trivial, (congrArg (fun z : List Value => AV.v (z.getD 1 undef)) (idx_arr (enc := enc_si) rfl g51))⟩, trivial⟩⟩ trivial ?_
        rcases bool_cases (decide (((gt x3.1 v9).2) ≤ ((gt x3.1 v26).2))) with b52 | b52
        · replace h := cd_t b52 h
          refine AX.condT (decide (((gt x3.1 v9).2) ≤ ((gt x3.1 v26).2))) (by kernel_rfl) b52 ?_
          refine AX.seq ?_
          refine AX.reg (its := []) [2] [] (s1 := ⟨[(2, .v (.bool false))], []⟩) (C := True) (by kernel_rfl) trivial trivial ?_
          refine AX.ret ?_
          refine fin_wk (Wk.forget [2] [] (s' := ⟨[(2, .v (.bool false))], []⟩) (by kernel_rfl)) ?_
          have hr := Option.some.inj h
          subst hr
          exact ⟨_, Wk.refl _, .inl ⟨(), rfl, rfl, rfl⟩⟩
        · replace h := cd_f b52 h
          refine AX.condF (decide (((gt x3.1 v9).2) ≤ ((gt x3.1 v26).2))) (by kernel_rfl) b52 ?_
          refine AX.skip ?_
          refine AX.reg (its := [.auto {}, .auto { raw := true }]) [3, 4, 5, 9, 10, 11] [0, 1, 2, 3] (s1 := ⟨[(3, .sl 0 0 x2.1.length), (4, .v (.int .i64 x2.2)), (5, .pt 1 0), (9, .v (.int .i64 v9)), (10, .pt 3 0), (11, .v (.int .i64 (IntKind.wrap .i64 (v26 + 1))))], [(0, .arr 3 (List.map enc_sbi x2.1)), (1, .box [.sl 2 0 x3.1.length, .v (.int .i64 x3.2.1)]), (2, .arr 2 (List.map enc_si x3.1)), (3, .box [.v (.string ((gt x3.1 v9).1)), .v (.int .i64 ((gt x3.1 v9).2))])]⟩) (C := True) (by kernel_rfl) trivial trivial ?_
          refine ⟨(fu, IntKind.wrap .i64 (v26 + 1)), h, Nat.lt_succ_self _, ?_⟩
          refine Wk.trans (Wk.forget [3, 4, 5, 9, 10, 11] [0, 1, 2, 3] (s' := ⟨[(3, .sl 0 0 x2.1.length), (4, .v (.int .i64 x2.2)), (5, .pt 1 0), (9, .v (.int .i64 v9)), (10, .pt 3 0), (11, .v (.int .i64 (IntKind.wrap .i64 (v26 + 1))))], [(0, .arr 3 (List.map enc_sbi x2.1)), (1, .box [.sl 2 0 x3.1.length, .v (.int .i64 x3.2.1)]), (2, .arr 2 (List.map enc_si x3.1)), (3, .box [.v (.string ((gt x3.1 v9).1)), .v (.int .i64 ((gt x3.1 v9).2))])]⟩) (by kernel_rfl)) ?_
          exact Wk.refl _
      · replace h := cd_f b50 h
        refine AX.condF ((gt x2.1 v9).2.1) (by kernel_rfl) b50 ?_
        refine AX.exit ?_
        refine fin_wk (Wk.forget [3, 4, 5, 9] [0, 1, 2] (s' := ⟨[(3, .sl 0 0 x2.1.length), (4, .v (.int .i64 x2.2)), (5, .pt 1 0), (9, .v (.int .i64 v9))], [(0, .arr 3 (List.map enc_sbi x2.1)), (1, .box [.sl 2 0 x3.1.length, .v (.int .i64 x3.2.1)]), (2, .arr 2 (List.map enc_si x3.1))]⟩) (by kernel_rfl)) ?_
        have hr := Option.some.inj h
        subst hr
        exact ⟨_, Wk.refl _, .inr ⟨(), rfl, rfl, rfl⟩⟩
    · replace h := cd_f b48 h
      refine AX.reg (its := [.auto {}, .auto {}, .auto { y := some (.v (.bool false)) }]) [3, 4, 5, 9, 10, 11, 114] [0, 1, 2, 3] (s1 := ⟨[(3, .sl 0 0 x2.1.length), (4, .v (.int .i64 x2.2)), (5, .pt 1 0), (9, .v (.int .i64 v9)), (10, .pt 3 0), (11, .v (.int .i64 v26)), (114, .v (.bool false))], [(0, .arr 3 (List.map enc_sbi x2.1)), (1, .box [.sl 2 0 x3.1.length, .v (.int .i64 x3.2.1)]), (2, .arr 2 (List.map enc_si x3.1)), (3, .box [.v (.string ((gt x3.1 v9).1)), .v (.int .i64 ((gt x3.1 v9).2))])]⟩) (C := ((True) ∧ ((.v (.bool (decide (v26 < v9))) : AV) = (.v (.bool false) : AV))) ∧ True) (by kernel_rfl) ⟨⟨trivial, (congrArg (fun z => AV.v (.bool z)) b48)⟩, trivial⟩ trivial ?_
      refine AX.cond_false (by kernel_rfl) ?_
      refine AX.exit ?_
      refine fin_wk (Wk.forget [3, 4, 5, 9] [0, 1, 2] (s' := ⟨[(3, .sl 0 0 x2.1.length), (4, .v (.int .i64 x2.2)), (5, .pt 1 0), (9, .v (.int .i64 v9))], [(0, .arr 3 (List.map enc_sbi x2.1)), (1, .box [.sl 2 0 x3.1.length, .v (.int .i64 x3.2.1)]), (2, .arr 2 (List.map enc_si x3.1))]⟩) (by kernel_rfl)) ?_
      have hr := Option.some.inj h
      subst hr
      exact ⟨_, Wk.refl _, .inr ⟨(), rfl, rfl, rfl⟩⟩

theorem s_laws_FnBuildFlag_L1 (x2 : (List (ByteArray × Bool × Int)) × Int) (x3 : (List (ByteArray × Int)) × Int × Bool) (n : Nat) (g : Int) (out : Unit ⊕ Unit) (h : m_laws_FnBuildFlag_L1 x2 x3 n g = some out) :
    AX Try.prog 134 0 (codeAt [1, 1, 1, 1, 1, 1, 0, 1, 1] (bodyOf Try.f4)) ((fun g : Int => (⟨[(3, .sl 0 0 x2.1.length), (4, .v (.int .i64 x2.2)), (5, .pt 1 0), (9, .v (.int .i64 g))], [(0, .arr 3 (List.map enc_sbi x2.1)), (1, .box [.sl 2 0 x3.1.length, .v (.int .i64 x3.2.1)]), (2, .arr 2 (List.map enc_si x3.1))]⟩ : S)) g) (fun ex s => (∃ o : Unit, out = Sum.inl o ∧ ex = .ret ∧ s = ⟨[(2, .v (.bool false))], []⟩) ∨ (∃ o : Unit, out = Sum.inr o ∧ ex = .exit 0 ∧ s = ⟨[(4, .v (.int .i64 x2.2)), (5, .pt 0 0)], [(0, .box [.sl 1 0 x3.1.length, .v (.int .i64 x3.2.1)]), (1, .arr 2 (List.map enc_si x3.1))]⟩)) := by
  refine AX.wkpost ?_
  refine AX.loop (G := Nat × (Int)) (fun q => (fun g : Int => (⟨[(3, .sl 0 0 x2.1.length), (4, .v (.int .i64 x2.2)), (5, .pt 1 0), (9, .v (.int .i64 g))], [(0, .arr 3 (List.map enc_sbi x2.1)), (1, .box [.sl 2 0 x3.1.length, .v (.int .i64 x3.2.1)]), (2, .arr 2 (List.map enc_si x3.1))]⟩ : S)) q.2) (fun q => m_laws_FnBuildFlag_L1 x2 x3 q.1 q.2 = some out) (fun q => q.1) (n, g) h (Wk.refl _) ?_
  clear h
  rintro ⟨fu, v9⟩ h
  cases fu with
  | zero => cases h
  | succ fu =>
    rw [m_laws_FnBuildFlag_L1] at h
    refine AX.seq ?_
    refine AX.seq ?_
    refine AX.reg (its := []) [3, 4, 5, 9, 56] [0, 1, 2] (s1 := ⟨[(3, .sl 0 0 x2.1.length), (4, .v (.int .i64 x2.2)), (5, .pt 1 0), (9, .v (.int .i64 v9)), (56, .v (.bool (decide (v9 < (x2.1.length : Int)))))], [(0, .arr 3 (List.map enc_sbi x2.1)), (1, .box [.sl 2 0 x3.1.length, .v (.int .i64 x3.2.1)]), (2, .arr 2 (List.map enc_si x3.1))]⟩) (C := True) (by kernel_rfl) trivial trivial ?_
    rcases bool_cases (decide (v9 < (x2.1.length : Int))) with b15 | b15
    · replace h := cd_t b15 h
      refine AX.condT (decide (v9 < (x2.1.length : Int))) (by kernel_rfl) b15 ?_
      refine AX.skip ?_
      refine AX.seq ?_
      refine AX.block ?_
      refine AX.seq ?_
      obtain ⟨g16, h⟩ := gd_e h
      refine AX.reg (its := [.auto {}, .auto {}, .auto {}, .auto {}, .auto { y := some (.agg [.v (.string ((gt x3.1 v9).1)), .v (.int .i64 ((gt x3.1 v9).2))]) }, .auto { nk := 3 }]) [3, 4, 5, 9, 10] [0, 1, 2, 3] (s1 := ⟨[(3, .sl 0 0 x2.1.length), (4, .v (.int .i64 x2.2)), (5, .pt 1 0), (9, .v (.int .i64 v9)), (10, .pt 3 0)], [(0, .arr 3 (List.map enc_sbi x2.1)), (1, .box [.sl 2 0 x3.1.length, .v (.int .i64 x3.2.1)]), (2, .arr 2 (List.map enc_si x3.1)), (3, .box [.v (.string ((gt x3.1 v9).1)), .v (.int .i64 ((gt x3.1 v9).2))])]⟩) (C := (0 ≤ v9 ∧ v9 < (x3.1.length : Int)) ∧ (True ∧ (AV.agg ((((List.map enc_si x3.1).getD (0 + v9.toNat) []).drop 0 |>.take 2).map .v) = .agg [.v (.string ((gt x3.1 v9).1)), .v (.int .i64 ((gt x3.1 v9).2))])) ∧ True) (by kernel_rfl) ⟨g16, ⟨⟨trivial, (congrArg (fun z : List Value => AV.agg (((z.drop 0).take 2).map .v)) (idx_arr (enc := enc_si) rfl g16))⟩, trivial⟩⟩ trivial ?_
      refine AX.seq ?_
      refine AX.seq ?_
      obtain ⟨g17, h⟩ := gd_e h
      rcases bool_cases ((!decide (((gt x3.1 v9).1) = ((gt x2.1 v9).1)))) with b18 | b18
      · replace h := cd_t b18 h
        refine AX.drw mixed (its := [.auto {}, .auto {}, .auto {}, .auto {}, .auto {}, .auto {}, .auto { y := some (.v (.string ((gt x2.1 v9).1))) }, .auto { y := some (.v (.bool true)) }]) [3, 4, 5, 9, 10, 104] [0, 1, 2, 3] (s1 := ⟨[(3, .sl 0 0 x2.1.length), (4, .v (.int .i64 x2.2)), (5, .pt 1 0), (9, .v (.int .i64 v9)), (10, .pt 3 0), (104, .v (.bool true))], [(0, .arr 3 (List.map enc_sbi x2.1)), (1, .box [.sl 2 0 x3.1.length, .v (.int .i64 x3.2.1)]), (2, .arr 2 (List.map enc_si x3.1)), (3, .box [.v (.string ((gt x3.1 v9).1)), .v (.int .i64 ((gt x3.1 v9).2))])]⟩) (C := (0 ≤ v9 ∧ v9 < (x2.1.length : Int)) ∧ (True ∧ (AV.v (((List.map enc_sbi x2.1).getD (0 + v9.toNat) []).getD 0 undef) = .v (.string ((gt x2.1 v9).1)))) ∧ ((True) ∧ ((.v (.bool (!decide (((gt x3.1 v9).1) = ((gt x2.1 v9).1)))) : AV) = (.v (.bool true) : AV))) ∧ True) (by kernel_rfl) ⟨g17, ⟨⟨trivial, (congrArg (fun z : List Value => AV.v (z.getD 0 undef)) (idx_arr (enc := enc_sbi) rfl g17))⟩, ⟨⟨trivial, (congrArg (fun z => AV.v (.bool z)) b18)⟩, trivial⟩⟩⟩ trivial ?_
        refine AX.cond_true (by kernel_rfl) ?_
        refine AX.seq ?_
        refine AX.reg (its := []) [2] [] (s1 := ⟨[(2, .v (.bool false))], []⟩) (C := True) (by kernel_rfl) trivial trivial ?_
        refine AX.ret ?_
        refine fin_wk (Wk.forget [2] [] (s' := ⟨[(2, .v (.bool false))], []⟩) (by kernel_rfl)) ?_
        have hr := Option.some.inj h
        subst hr
        exact ⟨_, Wk.refl _, .inl ⟨(), rfl, rfl, rfl⟩⟩
      · replace h := cd_f b18 h
        rcases bool_cases ((!((gt x2.1 v9).2.1))) with b19 | b19
        · replace h := cd_t b19 h
          rcases bool_cases ((!decide (((gt x3.1 v9).2) = ((gt x2.1 v9).2.2)))) with b20 | b20
          · replace h := cd_t b20 h
            refine AX.drw mixed (its := [.auto {}, .auto {}, .auto {}, .auto {}, .auto {}, .auto {}, .auto { y := some (.v (.string ((gt x2.1 v9).1))) }, .auto { y := some (.v (.bool false)) }, .auto {}, .auto {}, .auto {}, .auto {}, .auto {}, .auto { y := some (.v (.bool ((gt x2.1 v9).2.1))) }, .auto { y := some (.v (.bool true)) }, .auto {}, .auto {}, .auto {}, .auto {}, .auto {}, .auto {}, .auto {}, .auto { y := some (.v (.int .i64 ((gt x2.1 v9).2.2))) }, .auto { y := some (.v (.bool true)) }]) [3, 4, 5, 9, 10, 104] [0, 1, 2, 3] (s1 := ⟨[(3, .sl 0 0 x2.1.length), (4, .v (.int .i64 x2.2)), (5, .pt 1 0), (9, .v (.int .i64 v9)), (10, .pt 3 0), (104, .v (.bool true))], [(0, .arr 3 (List.map enc_sbi x2.1)), (1, .box [.sl 2 0 x3.1.length, .v (.int .i64 x3.2.1)]), (2, .arr 2 (List.map enc_si x3.1)), (3, .box [.v (.string ((gt x3.1 v9).1)), .v (.int .i64 ((gt x3.1 v9).2))])]⟩) (C := (0 ≤ v9 ∧ v9 < (x2.1.length : Int)) ∧ (True ∧ (AV.v (((List.map enc_sbi x2.1).getD (0 + v9.toNat) []).getD 0 undef) = .v (.string ((gt x2.1 v9).1)))) ∧ ((True) ∧ ((.v (.bool (!decide (((gt x3.1 v9).1) = ((gt x2.1 v9).1)))) : AV) = (.v (.bool false) : AV))) ∧ (0 ≤ v9 ∧ v9 < (x2.1.length : Int)) ∧ (True ∧ (AV.v (((List.map enc_sbi x2.1).getD (0 + v9.toNat) []).getD 1 undef) = .v (.bool ((gt x2.1 v9).2.1)))) ∧ ((True) ∧ ((.v (.bool (!((gt x2.1 v9).2.1))) : AV) = (.v (.bool true) : AV))) ∧ (0 ≤ v9 ∧ v9 < (x2.1.length : Int)) ∧ (True ∧ (AV.v (((List.map enc_sbi x2.1).getD (0 + v9.toNat) []).getD 2 undef) = .v (.int .i64 ((gt x2.1 v9).2.2)))) ∧ ((True) ∧ ((.v (.bool (!decide (((gt x3.1 v9).2) = ((gt x2.1 v9).2.2)))) : AV) = (.v (.bool true) : AV))) ∧ True) (by kernel_rfl) ⟨g17, ⟨⟨trivial, (congrArg (fun z : List Value => AV.v (z.getD 0 undef)) (idx_arr (enc := enc_sbi) rfl g17))⟩, ⟨⟨trivial, (congrArg (fun z => AV.v (.bool z)) b18)⟩, ⟨g17, ⟨⟨trivial, (congrArg (fun z : List Value => AV.v (z.getD 1 undef)) (idx_arr (enc := enc_sbi) rfl g17))⟩, ⟨⟨trivial, (congrArg (fun z => AV.v (.bool z)) b19)⟩, ⟨g17, ⟨⟨trivial, (congrArg (fun z : List Value => AV.v (z.getD 2 undef)) (idx_arr (enc := enc_sbi) rfl g17))⟩, ⟨⟨trivial, (congrArg (fun z => AV.v (.bool z)) b20)⟩, trivial⟩⟩⟩⟩⟩⟩⟩⟩⟩ trivial ?_
            refine AX.cond_true (by kernel_rfl) ?_
            refine AX.seq ?_
            refine AX.reg (its := []) [2] [] (s1 := ⟨[(2, .v (.bool false))], []⟩) (C := True) (by kernel_rfl) trivial trivial ?_
            refine AX.ret ?_
            refine fin_wk (Wk.forget [2] [] (s' := ⟨[(2, .v (.bool false))], []⟩) (by kernel_rfl)) ?_
            have hr := Option.some.inj h
            subst hr
            exact ⟨_, Wk.refl _, .inl ⟨(), rfl, rfl, rfl⟩⟩
          · replace h := cd_f b20 h
            rcases bool_cases ((gt x2.1 v9).2.1) with b21 | b21
            · replace h := cd_t b21 h
              obtain ⟨x10, e22, h⟩ := bd_e h
              obtain ⟨x11, e23, h⟩ := bd_e h
              refine AX.drw mixed (its := (.auto {} :: .auto {} :: .auto {} :: .auto {} :: .auto {} :: .auto {} :: .auto { y := some (.v (.string ((gt x2.1 v9).1))) } :: .auto { y := some (.v (.bool false)) } :: .auto {} :: .auto {} :: .auto {} :: .auto {} :: .auto {} :: .auto { y := some (.v (.bool true)) } :: .auto {} :: .auto {} :: .auto {} :: .auto {} :: .auto {} :: .auto {} :: .auto {} :: .auto {} :: .auto {} :: .auto {} :: .auto {} :: .auto {} :: .auto {} :: .auto {} :: .auto {} :: .auto {} :: .auto {} :: .auto { y := some (.v (.bool true)) } :: .auto {} :: .auto {} :: .call 19 [.agg [.sl 2 0 x3.1.length, .v (.int .i64 x3.2.1)]] (handO (rho ([] ++ [4])) [] [] ++ [(2, .arr 2 (List.map enc_si x3.1))]) (callEv [] [4] (.agg [.sl 0 0 x10.1.length, .v (.int .i64 x10.2)]) [.arr 2 (List.map enc_si x10.1)]) :: .auto {} :: .auto {} :: .call 18 [.agg [.sl 4 0 x10.1.length, .v (.int .i64 x10.2)], .v (.int .i64 ((gt x3.1 v9).2))] (handO (rho ([] ++ [])) [] [] ++ [(4, .arr 2 (List.map enc_si x10.1))]) (callEv [] [] (.v (.int .i64 x11)) []) :: [])) [3, 4, 5, 9, 10, 104] [0, 1, 2, 3] (s1 := ⟨[(3, .sl 0 0 x2.1.length), (4, .v (.int .i64 x2.2)), (5, .pt 1 0), (9, .v (.int .i64 v9)), (10, .pt 3 0), (104, .v (.bool (!decide (x11 = 1))))], [(0, .arr 3 (List.map enc_sbi x2.1)), (1, .box [.sl 2 0 x3.1.length, .v (.int .i64 x3.2.1)]), (2, .arr 2 (List.map enc_si x3.1)), (3, .box [.v (.string ((gt x3.1 v9).1)), .v (.int .i64 ((gt x3.1 v9).2))])]⟩) (C := (0 ≤ v9 ∧ v9 < (x2.1.length : Int)) ∧ (True ∧ (AV.v (((List.map enc_sbi x2.1).getD (0 + v9.toNat) []).getD 0 undef) = .v (.string ((gt x2.1 v9).1)))) ∧ ((True) ∧ ((.v (.bool (!decide (((gt x3.1 v9).1) = ((gt x2.1 v9).1)))) : AV) = (.v (.bool false) : AV))) ∧ (0 ≤ v9 ∧ v9 < (x2.1.length : Int)) ∧ (True ∧ ((AV.v (((List.map enc_sbi x2.1).getD (0 + v9.toNat) []).getD 1 undef) : AV) = .v (.bool true))) ∧ (0 ≤ v9 ∧ v9 < (x2.1.length : Int)) ∧ (True ∧ ((AV.v (((List.map enc_sbi x2.1).getD (0 + v9.toNat) []).getD 1 undef) : AV) = .v (.bool true))) ∧ ((([.agg [.sl 2 0 x3.1.length, .v (.int .i64 x3.2.1)]] : List AV) = [.agg [.sl 2 0 x3.1.length, .v (.int .i64 x3.2.1)]]) ∧ (AO.arr 2 (List.map enc_si x3.1) = AO.arr 2 (List.map enc_si x3.1)) ∧ True) ∧ ((([.agg [.sl 4 0 x10.1.length, .v (.int .i64 x10.2)], .v (.int .i64 ((gt x3.1 v9).2))] : List AV) = [.agg [.sl 4 0 x10.1.length, .v (.int .i64 x10.2)], .v (.int .i64 ((gt x3.1 v9).2))]) ∧ (AO.arr 2 (List.map enc_si x10.1) = AO.arr 2 (List.map enc_si x10.1)) ∧ True) ∧ True) (by kernel_rfl) ⟨g17, ⟨⟨trivial, (congrArg (fun z : List Value => AV.v (z.getD 0 undef)) (idx_arr (enc := enc_sbi) rfl g17))⟩, ⟨⟨trivial, (congrArg (fun z => AV.v (.bool z)) b18)⟩, ⟨g17, ⟨⟨((⟨trivial, (congrArg (fun z : List Value => AV.v (z.getD 1 undef)) (idx_arr (enc := enc_sbi) rfl g17))⟩ : True ∧ (AV.v (((List.map enc_sbi x2.1).getD (0 + v9.toNat) []).getD 1 undef) = .v (.bool ((gt x2.1 v9).2.1))))).1, ((⟨trivial, (congrArg (fun z : List Value => AV.v (z.getD 1 undef)) (idx_arr (enc := enc_sbi) rfl g17))⟩ : True ∧ (AV.v (((List.map enc_sbi x2.1).getD (0 + v9.toNat) []).getD 1 undef) = .v (.bool ((gt x2.1 v9).2.1))))).2.trans (congrArg (fun z => AV.v (.bool z)) b21)⟩, ⟨g17, ⟨⟨((⟨trivial, (congrArg (fun z : List Value => AV.v (z.getD 1 undef)) (idx_arr (enc := enc_sbi) rfl g17))⟩ : True ∧ (AV.v (((List.map enc_sbi x2.1).getD (0 + v9.toNat) []).getD 1 undef) = .v (.bool ((gt x2.1 v9).2.1))))).1, ((⟨trivial, (congrArg (fun z : List Value => AV.v (z.getD 1 undef)) (idx_arr (enc := enc_sbi) rfl g17))⟩ : True ∧ (AV.v (((List.map enc_sbi x2.1).getD (0 + v9.toNat) []).getD 1 undef) = .v (.bool ((gt x2.1 v9).2.1))))).2.trans (congrArg (fun z => AV.v (.bool z)) b21)⟩, ⟨⟨rfl, rfl, trivial⟩, ⟨⟨rfl, rfl, trivial⟩, trivial⟩⟩⟩⟩⟩⟩⟩⟩⟩ ⟨call_ok (ks := []) (ns := [4]) (bor := [2]) (bobjs := [(2, .arr 2 (List.map enc_si x3.1))]) (s_laws_kept x3.1 x3.2.1 x10 e22) (.cons (.c1 (.agg (.cons (.arr rfl rfl ((rfl).trans (List.length_map ..).symm)) (.cons (.same _ (by kernel_rfl) (by kernel_rfl)) (.nil))))) (.nil)) (by kernel_rfl) trivial, ⟨call_ok (ks := []) (ns := []) (bor := [4]) (bobjs := [(4, .arr 2 (List.map enc_si x10.1))]) (s_impl_CountBits x10.1 x10.2 ((gt x3.1 v9).2) x11 e23) (.cons (.c1 (.agg (.cons (.arr rfl rfl ((rfl).trans (List.length_map ..).symm)) (.cons (.same _ (by kernel_rfl) (by kernel_rfl)) (.nil))))) (.cons (.c1 (.c0 (.same _ (by kernel_rfl) (by kernel_rfl)))) (.nil))) (by kernel_rfl) trivial, trivial⟩⟩ ?_
              rcases bool_cases ((!decide (x11 = 1))) with b24 | b24
              · replace h := cd_t b24 h
                refine AX.condT ((!decide (x11 = 1))) (by kernel_rfl) b24 ?_
                refine AX.seq ?_
                refine AX.reg (its := []) [2] [] (s1 := ⟨[(2, .v (.bool false))], []⟩) (C := True) (by kernel_rfl) trivial trivial ?_
                refine AX.ret ?_
                refine fin_wk (Wk.forget [2] [] (s' := ⟨[(2, .v (.bool false))], []⟩) (by kernel_rfl)) ?_
                have hr := Option.some.inj h
                subst hr
                exact ⟨_, Wk.refl _, .inl ⟨(), rfl, rfl, rfl⟩⟩
              · replace h := cd_f b24 h
                refine AX.condF ((!decide (x11 = 1))) (by kernel_rfl) b24 ?_
                refine AX.skip ?_
                refine AX.seq ?_
                refine AX.reg (its := []) [3, 4, 5, 9, 10, 11] [0, 1, 2, 3] (s1 := ⟨[(3, .sl 0 0 x2.1.length), (4, .v (.int .i64 x2.2)), (5, .pt 1 0), (9, .v (.int .i64 v9)), (10, .pt 3 0), (11, .v (.int .i64 0))], [(0, .arr 3 (List.map enc_sbi x2.1)), (1, .box [.sl 2 0 x3.1.length, .v (.int .i64 x3.2.1)]), (2, .arr 2 (List.map enc_si x3.1)), (3, .box [.v (.string ((gt x3.1 v9).1)), .v (.int .i64 ((gt x3.1 v9).2))])]⟩) (C := True) (by kernel_rfl) trivial trivial ?_
                refine AX.block ?_
                obtain ⟨x13, e30, h⟩ := bd_e h
                refine AX.wk (Wk.forget [3, 4, 5, 9, 10, 11] [0, 1, 2, 3] (s' := ⟨[(3, .sl 0 0 x2.1.length), (4, .v (.int .i64 x2.2)), (5, .pt 1 0), (9, .v (.int .i64 v9)), (10, .pt 3 0), (11, .v (.int .i64 0))], [(0, .arr 3 (List.map enc_sbi x2.1)), (1, .box [.sl 2 0 x3.1.length, .v (.int .i64 x3.2.1)]), (2, .arr 2 (List.map enc_si x3.1)), (3, .box [.v (.string ((gt x3.1 v9).1)), .v (.int .i64 ((gt x3.1 v9).2))])]⟩) (by kernel_rfl)) ?_
                refine AX.mono (s_laws_FnBuildFlag_L2 x2 x3 v9 FU 0 x13 e30) ?_
                rintro _ _ (⟨x14, rfl, rfl, rfl⟩ | ⟨x15, rfl, rfl, rfl⟩)
                · replace h := sm_l h
                  refine fin_wk (Wk.forget [2] [] (s' := ⟨[(2, .v (.bool false))], []⟩) (by kernel_rfl)) ?_
                  have hr := Option.some.inj h
                  subst hr
                  exact ⟨_, Wk.refl _, .inl ⟨(), rfl, rfl, rfl⟩⟩
                · replace h := sm_r h
                  refine AX.reg (its := [.auto {}, .auto { raw := true }]) [3, 4, 5, 9] [0, 1, 2] (s1 := ⟨[(3, .sl 0 0 x2.1.length), (4, .v (.int .i64 x2.2)), (5, .pt 1 0), (9, .v (.int .i64 (IntKind.wrap .i64 (v9 + 1))))], [(0, .arr 3 (List.map enc_sbi x2.1)), (1, .box [.sl 2 0 x3.1.length, .v (.int .i64 x3.2.1)]), (2, .arr 2 (List.map enc_si x3.1))]⟩) (C := True) (by kernel_rfl) trivial trivial ?_
                  refine ⟨(fu, IntKind.wrap .i64 (v9 + 1)), h, Nat.lt_succ_self _, ?_⟩
                  refine Wk.trans (Wk.forget [3, 4, 5, 9] [0, 1, 2] (s' := ⟨[(3, .sl 0 0 x2.1.length), (4, .v (.int .i64 x2.2)), (5, .pt 1 0), (9, .v (.int .i64 (IntKind.wrap .i64 (v9 + 1))))], [(0, .arr 3 (List.map enc_sbi x2.1)), (1, .box [.sl 2 0 x3.1.length, .v (.int .i64 x3.2.1)]), (2, .arr 2 (List.map enc_si x3.1))]⟩) (by kernel_rfl)) ?_
                  exact Wk.refl _
            · replace h := cd_f b21 h
              refine AX.drw mixed (its := (.auto {} :: .auto {} :: .auto {} :: .auto {} :: .auto {} :: .auto {} :: .auto { y := some (.v (.string ((gt x2.1 v9).1))) } :: .auto { y := some (.v (.bool false)) } :: .auto {} :: .auto {} :: .auto {} :: .auto {} :: .auto {} :: .auto { y := some (.v (.bool false)) } :: .auto {} :: .auto {} :: .auto {} :: .auto {} :: .auto {} :: .auto {} :: .auto {} :: .auto {} :: .auto { y := some (.v (.int .i64 ((gt x2.1 v9).2.2))) } :: .auto { y := some (.v (.bool false)) } :: .auto {} :: .auto {} :: .auto {} :: .auto {} :: .auto {} :: .auto {} :: .auto {} :: .auto { y := some (.v (.bool false)) } :: [])) [3, 4, 5, 9, 10, 104] [0, 1, 2, 3] (s1 := ⟨[(3, .sl 0 0 x2.1.length), (4, .v (.int .i64 x2.2)), (5, .pt 1 0), (9, .v (.int .i64 v9)), (10, .pt 3 0), (104, .v (.bool false))], [(0, .arr 3 (List.map enc_sbi x2.1)), (1, .box [.sl 2 0 x3.1.length, .v (.int .i64 x3.2.1)]), (2, .arr 2 (List.map enc_si x3.1)), (3, .box [.v (.string ((gt x3.1 v9).1)), .v (.int .i64 ((gt x3.1 v9).2))])]⟩) (C := (0 ≤ v9 ∧ v9 < (x2.1.length : Int)) ∧ (True ∧ (AV.v (((List.map enc_sbi x2.1).getD (0 + v9.toNat) []).getD 0 undef) = .v (.string ((gt x2.1 v9).1)))) ∧ ((True) ∧ ((.v (.bool (!decide (((gt x3.1 v9).1) = ((gt x2.1 v9).1)))) : AV) = (.v (.bool false) : AV))) ∧ (0 ≤ v9 ∧ v9 < (x2.1.length : Int)) ∧ (True ∧ ((AV.v (((List.map enc_sbi x2.1).getD (0 + v9.toNat) []).getD 1 undef) : AV) = .v (.bool false))) ∧ (0 ≤ v9 ∧ v9 < (x2.1.length : Int)) ∧ (True ∧ (AV.v (((List.map enc_sbi x2.1).getD (0 + v9.toNat) []).getD 2 undef) = .v (.int .i64 ((gt x2.1 v9).2.2)))) ∧ ((True) ∧ ((.v (.bool (!decide (((gt x3.1 v9).2) = ((gt x2.1 v9).2.2)))) : AV) = (.v (.bool false) : AV))) ∧ (0 ≤ v9 ∧ v9 < (x2.1.length : Int)) ∧ (True ∧ ((AV.v (((List.map enc_sbi x2.1).getD (0 + v9.toNat) []).getD 1 undef) : AV) = .v (.bool false))) ∧ True) (by kernel_rfl) ⟨g17, ⟨⟨trivial, (congrArg (fun z : List Value => AV.v (z.getD 0 undef)) (idx_arr (enc := enc_sbi) rfl g17))⟩, ⟨⟨trivial, (congrArg (fun z => AV.v (.bool z)) b18)⟩, ⟨g17, ⟨⟨((⟨trivial, (congrArg (fun z : List Value => AV.v (z.getD 1 undef)) (idx_arr (enc := enc_sbi) rfl g17))⟩ : True ∧ (AV.v (((List.map enc_sbi x2.1).getD (0 + v9.toNat) []).getD 1 undef) = .v (.bool ((gt x2.1 v9).2.1))))).1, ((⟨trivial, (congrArg (fun z : List Value => AV.v (z.getD 1 undef)) (idx_arr (enc := enc_sbi) rfl g17))⟩ : True ∧ (AV.v (((List.map enc_sbi x2.1).getD (0 + v9.toNat) []).getD 1 undef) = .v (.bool ((gt x2.1 v9).2.1))))).2.trans (congrArg (fun z => AV.v (.bool z)) b21)⟩, ⟨g17, ⟨⟨trivial, (congrArg (fun z : List Value => AV.v (z.getD 2 undef)) (idx_arr (enc := enc_sbi) rfl g17))⟩, ⟨⟨trivial, (congrArg (fun z => AV.v (.bool z)) b20)⟩, ⟨g17, ⟨⟨((⟨trivial, (congrArg (fun z : List Value => AV.v (z.getD 1 undef)) (idx_arr (enc := enc_sbi) rfl g17))⟩ : True ∧ (AV.v (((List.map enc_sbi x2.1).getD (0 + v9.toNat) []).getD 1 undef) = .v (.bool ((gt x2.1 v9).2.1))))).1, ((⟨trivial, (congrArg (fun z : List Value => AV.v (z.getD 1 undef)) (idx_arr (enc := enc_sbi) rfl g17))⟩ : True ∧ (AV.v (((List.map enc_sbi x2.1).getD (0 + v9.toNat) []).getD 1 undef) = .v (.bool ((gt x2.1 v9).2.1))))).2.trans (congrArg (fun z => AV.v (.bool z)) b21)⟩, trivial⟩⟩⟩⟩⟩⟩⟩⟩⟩⟩ trivial ?_
              refine AX.cond_false (by kernel_rfl) ?_
              refine AX.skip ?_
              refine AX.seq ?_
              refine AX.reg (its := []) [3, 4, 5, 9, 10, 11] [0, 1, 2, 3] (s1 := ⟨[(3, .sl 0 0 x2.1.length), (4, .v (.int .i64 x2.2)), (5, .pt 1 0), (9, .v (.int .i64 v9)), (10, .pt 3 0), (11, .v (.int .i64 0))], [(0, .arr 3 (List.map enc_sbi x2.1)), (1, .box [.sl 2 0 x3.1.length, .v (.int .i64 x3.2.1)]), (2, .arr 2 (List.map enc_si x3.1)), (3, .box [.v (.string ((gt x3.1 v9).1)), .v (.int .i64 ((gt x3.1 v9).2))])]⟩) (C := True) (by kernel_rfl) trivial trivial ?_
              refine AX.block ?_
              obtain ⟨x17, e36, h⟩ := bd_e h
              refine AX.wk (Wk.forget [3, 4, 5, 9, 10, 11] [0, 1, 2, 3] (s' := ⟨[(3, .sl 0 0 x2.1.length), (4, .v (.int .i64 x2.2)), (5, .pt 1 0), (9, .v (.int .i64 v9)), (10, .pt 3 0), (11, .v (.int .i64 0))], [(0, .arr 3 (List.map enc_sbi x2.1)), (1, .box [.sl 2 0 x3.1.length, .v (.int .i64 x3.2.1)]), (2, .arr 2 (List.map enc_si x3.1)), (3, .box [.v (.string ((gt x3.1 v9).1)), .v (.int .i64 ((gt x3.1 v9).2))])]⟩) (by kernel_rfl)) ?_
              refine AX.mono (s_laws_FnBuildFlag_L3 x2 x3 v9 FU 0 x17 e36) ?_
              rintro _ _ (⟨x18, rfl, rfl, rfl⟩ | ⟨x19, rfl, rfl, rfl⟩)
              · replace h := sm_l h
                refine fin_wk (Wk.forget [2] [] (s' := ⟨[(2, .v (.bool false))], []⟩) (by kernel_rfl)) ?_
                have hr := Option.some.inj h
                subst hr
                exact ⟨_, Wk.refl _, .inl ⟨(), rfl, rfl, rfl⟩⟩
              · replace h := sm_r h
                refine AX.reg (its := [.auto {}, .auto { raw := true }]) [3, 4, 5, 9] [0, 1, 2] (s1 := ⟨[(3, .sl 0 0 x2.1.length), (4, .v (.int .i64 x2.2)), (5, .pt 1 0), (9, .v (.int .i64 (IntKind.wrap .i64 (v9 + 1))))], [(0, .arr 3 (List.map enc_sbi x2.1)), (1, .box [.sl 2 0 x3.1.length, .v (.int .i64 x3.2.1)]), (2, .arr 2 (List.map enc_si x3.1))]⟩) (C := True) (by kernel_rfl) trivial trivial ?_
                refine ⟨(fu, IntKind.wrap .i64 (v9 + 1)), h, Nat.lt_succ_self _, ?_⟩
                refine Wk.trans (Wk.forget [3, 4, 5, 9] [0, 1, 2] (s' := ⟨[(3, .sl 0 0 x2.1.length), (4, .v (.int .i64 x2.2)), (5, .pt 1 0), (9, .v (.int .i64 (IntKind.wrap .i64 (v9 + 1))))], [(0, .arr 3 (List.map enc_sbi x2.1)), (1, .box [.sl 2 0 x3.1.length, .v (.int .i64 x3.2.1)]), (2, .arr 2 (List.map enc_si x3.1))]⟩) (by kernel_rfl)) ?_
                exact Wk.refl _
        · replace h := cd_f b19 h
          rcases bool_cases ((gt x2.1 v9).2.1) with b37 | b37
          · replace h := cd_t b37 h
            obtain ⟨x20, e38, h⟩ := bd_e h
            obtain ⟨x21, e39, h⟩ := bd_e h
            refine AX.drw mixed (its := (.auto {} :: .auto {} :: .auto {} :: .auto {} :: .auto {} :: .auto {} :: .auto { y := some (.v (.string ((gt x2.1 v9).1))) } :: .auto { y := some (.v (.bool false)) } :: .auto {} :: .auto {} :: .auto {} :: .auto {} :: .auto {} :: .auto { y := some (.v (.bool true)) } :: .auto {} :: .auto {} :: .auto {} :: .auto {} :: .auto {} :: .auto {} :: .auto {} :: .auto {} :: .auto {} :: .auto {} :: .auto {} :: .auto {} :: .auto {} :: .auto {} :: .auto {} :: .auto {} :: .auto {} :: .auto { y := some (.v (.bool true)) } :: .auto {} :: .auto {} :: .call 19 [.agg [.sl 2 0 x3.1.length, .v (.int .i64 x3.2.1)]] (handO (rho ([] ++ [4])) [] [] ++ [(2, .arr 2 (List.map enc_si x3.1))]) (callEv [] [4] (.agg [.sl 0 0 x20.1.length, .v (.int .i64 x20.2)]) [.arr 2 (List.map enc_si x20.1)]) :: .auto {} :: .auto {} :: .call 18 [.agg [.sl 4 0 x20.1.length, .v (.int .i64 x20.2)], .v (.int .i64 ((gt x3.1 v9).2))] (handO (rho ([] ++ [])) [] [] ++ [(4, .arr 2 (List.map enc_si x20.1))]) (callEv [] [] (.v (.int .i64 x21)) []) :: [])) [3, 4, 5, 9, 10, 104] [0, 1, 2, 3] (s1 := ⟨[(3, .sl 0 0 x2.1.length), (4, .v (.int .i64 x2.2)), (5, .pt 1 0), (9, .v (.int .i64 v9)), (10, .pt 3 0), (104, .v (.bool (!decide (x21 = 1))))], [(0, .arr 3 (List.map enc_sbi x2.1)), (1, .box [.sl 2 0 x3.1.length, .v (.int .i64 x3.2.1)]), (2, .arr 2 (List.map enc_si x3.1)), (3, .box [.v (.string ((gt x3.1 v9).1)), .v (.int .i64 ((gt x3.1 v9).2))])]⟩) (C := (0 ≤ v9 ∧ v9 < (x2.1.length : Int)) ∧ (True ∧ (AV.v (((List.map enc_sbi x2.1).getD (0 + v9.toNat) []).getD 0 undef) = .v (.string ((gt x2.1 v9).1)))) ∧ ((True) ∧ ((.v (.bool (!decide (((gt x3.1 v9).1) = ((gt x2.1 v9).1)))) : AV) = (.v (.bool false) : AV))) ∧ (0 ≤ v9 ∧ v9 < (x2.1.length : Int)) ∧ (True ∧ ((AV.v (((List.map enc_sbi x2.1).getD (0 + v9.toNat) []).getD 1 undef) : AV) = .v (.bool true))) ∧ (0 ≤ v9 ∧ v9 < (x2.1.length : Int)) ∧ (True ∧ ((AV.v (((List.map enc_sbi x2.1).getD (0 + v9.toNat) []).getD 1 undef) : AV) = .v (.bool true))) ∧ ((([.agg [.sl 2 0 x3.1.length, .v (.int .i64 x3.2.1)]] : List AV) = [.agg [.sl 2 0 x3.1.length, .v (.int .i64 x3.2.1)]]) ∧ (AO.arr 2 (List.map enc_si x3.1) = AO.arr 2 (List.map enc_si x3.1)) ∧ True) ∧ ((([.agg [.sl 4 0 x20.1.length, .v (.int .i64 x20.2)], .v (.int .i64 ((gt x3.1 v9).2))] : List AV) = [.agg [.sl 4 0 x20.1.length, .v (.int .i64 x20.2)], .v (.int .i64 ((gt x3.1 v9).2))]) ∧ (AO.arr 2 (List.map enc_si x20.1) = AO.arr 2 (List.map enc_si x20.1)) ∧ True) ∧ True) (by kernel_rfl) ⟨g17, ⟨⟨trivial, (congrArg (fun z : List Value => AV.v (z.getD 0 undef)) (idx_arr (enc := enc_sbi) rfl g17))⟩, ⟨⟨trivial, (congrArg (fun z => AV.v (.bool z)) b18)⟩, ⟨g17, ⟨⟨((⟨trivial, (congrArg (fun z : List Value => AV.v (z.getD 1 undef)) (idx_arr (enc := enc_sbi) rfl g17))⟩ : True ∧ (AV.v (((List.map enc_sbi x2.1).getD (0 + v9.toNat) []).getD 1 undef) = .v (.bool ((gt x2.1 v9).2.1))))).1, ((⟨trivial, (congrArg (fun z : List Value => AV.v (z.getD 1 undef)) (idx_arr (enc := enc_sbi) rfl g17))⟩ : True ∧ (AV.v (((List.map enc_sbi x2.1).getD (0 + v9.toNat) []).getD 1 undef) = .v (.bool ((gt x2.1 v9).2.1))))).2.trans (congrArg (fun z => AV.v (.bool z)) b37)⟩, ⟨g17, ⟨⟨((⟨trivial, (congrArg (fun z : List Value => AV.v (z.getD 1 undef)) (idx_arr (enc := enc_sbi) rfl g17))⟩ : True ∧ (AV.v (((List.map enc_sbi x2.1).getD (0 + v9.toNat) []).getD 1 undef) = .v (.bool ((gt x2.1 v9).2.1))))).1, ((⟨trivial, (congrArg (fun z : List Value => AV.v (z.getD 1 undef)) (idx_arr (enc := enc_sbi) rfl g17))⟩ : True ∧ (AV.v (((List.map enc_sbi x2.1).getD (0 + v9.toNat) []).getD 1 undef) = .v (.bool ((gt x2.1 v9).2.1))))).2.trans (congrArg (fun z => AV.v (.bool z)) b37)⟩, ⟨⟨rfl, rfl, trivial⟩, ⟨⟨rfl, rfl, trivial⟩, trivial⟩⟩⟩⟩⟩⟩⟩⟩⟩ ⟨call_ok (ks := []) (ns := [4]) (bor := [2]) (bobjs := [(2, .arr 2 (List.map enc_si x3.1))]) (s_laws_kept x3.1 x3.2.1 x20 e38) (.cons (.c1 (.agg (.cons (.arr rfl rfl ((rfl).trans (List.length_map ..).symm)) (.cons (.same _ (by kernel_rfl) (by kernel_rfl)) (.nil))))) (.nil)) (by kernel_rfl) trivial, ⟨call_ok (ks := []) (ns := []) (bor := [4]) (bobjs := [(4, .arr 2 (List.map enc_si x20.1))]) (s_impl_CountBits x20.1 x20.2 ((gt x3.1 v9).2) x21 e39) (.cons (.c1 (.agg (.cons (.arr rfl rfl ((rfl).trans (List.length_map ..).symm)) (.cons (.same _ (by kernel_rfl) (by kernel_rfl)) (.nil))))) (.cons (.c1 (.c0 (.same _ (by kernel_rfl) (by kernel_rfl)))) (.nil))) (by kernel_rfl) trivial, trivial⟩⟩ ?_
            rcases bool_cases ((!decide (x21 = 1))) with b40 | b40
            · replace h := cd_t b40 h
              refine AX.condT ((!decide (x21 = 1))) (by kernel_rfl) b40 ?_
              refine AX.seq ?_
              refine AX.reg (its := []) [2] [] (s1 := ⟨[(2, .v (.bool false))], []⟩) (C := True) (by kernel_rfl) trivial trivial ?_
              refine AX.ret ?_
              refine fin_wk (Wk.forget [2] [] (s' := ⟨[(2, .v (.bool false))], []⟩) (by kernel_rfl)) ?_
              have hr := Option.some.inj h
              subst hr
              exact ⟨_, Wk.refl _, .inl ⟨(), rfl, rfl, rfl⟩⟩
            · replace h := cd_f b40 h
              refine AX.condF ((!decide (x21 = 1))) (by kernel_rfl) b40 ?_
              refine AX.skip ?_
              refine AX.seq ?_
              refine AX.reg (its := []) [3, 4, 5, 9, 10, 11] [0, 1, 2, 3] (s1 := ⟨[(3, .sl 0 0 x2.1.length), (4, .v (.int .i64 x2.2)), (5, .pt 1 0), (9, .v (.int .i64 v9)), (10, .pt 3 0), (11, .v (.int .i64 0))], [(0, .arr 3 (List.map enc_sbi x2.1)), (1, .box [.sl 2 0 x3.1.length, .v (.int .i64 x3.2.1)]), (2, .arr 2 (List.map enc_si x3.1)), (3, .box [.v (.string ((gt x3.1 v9).1)), .v (.int .i64 ((gt x3.1 v9).2))])]⟩) (C := True) (by kernel_rfl) trivial trivial ?_
              refine AX.block ?_
              obtain ⟨x23, e46, h⟩ := bd_e h
              refine AX.wk (Wk.forget [3, 4, 5, 9, 10, 11] [0, 1, 2, 3] (s' := ⟨[(3, .sl 0 0 x2.1.length), (4, .v (.int .i64 x2.2)), (5, .pt 1 0), (9, .v (.int .i64 v9)), (10, .pt 3 0), (11, .v (.int .i64 0))], [(0, .arr 3 (List.map enc_sbi x2.1)), (1, .box [.sl 2 0 x3.1.length, .v (.int .i64 x3.2.1)]), (2, .arr 2 (List.map enc_si x3.1)), (3, .box [.v (.string ((gt x3.1 v9).1)), .v (.int .i64 ((gt x3.1 v9).2))])]⟩) (by kernel_rfl)) ?_
              refine AX.mono (s_laws_FnBuildFlag_L4 x2 x3 v9 FU 0 x23 e46) ?_
              rintro _ _ (⟨x24, rfl, rfl, rfl⟩ | ⟨x25, rfl, rfl, rfl⟩)
              · replace h := sm_l h
                refine fin_wk (Wk.forget [2] [] (s' := ⟨[(2, .v (.bool false))], []⟩) (by kernel_rfl)) ?_
                have hr := Option.some.inj h
                subst hr
                exact ⟨_, Wk.refl _, .inl ⟨(), rfl, rfl, rfl⟩⟩
              · replace h := sm_r h
                refine AX.reg (its := [.auto {}, .auto { raw := true }]) [3, 4, 5, 9] [0, 1, 2] (s1 := ⟨[(3, .sl 0 0 x2.1.length), (4, .v (.int .i64 x2.2)), (5, .pt 1 0), (9, .v (.int .i64 (IntKind.wrap .i64 (v9 + 1))))], [(0, .arr 3 (List.map enc_sbi x2.1)), (1, .box [.sl 2 0 x3.1.length, .v (.int .i64 x3.2.1)]), (2, .arr 2 (List.map enc_si x3.1))]⟩) (C := True) (by kernel_rfl) trivial trivial ?_
                refine ⟨(fu, IntKind.wrap .i64 (v9 + 1)), h, Nat.lt_succ_self _, ?_⟩
                refine Wk.trans (Wk.forget [3, 4, 5, 9] [0, 1, 2] (s' := ⟨[(3, .sl 0 0 x2.1.length), (4, .v (.int .i64 x2.2)), (5, .pt 1 0), (9, .v (.int .i64 (IntKind.wrap .i64 (v9 + 1))))], [(0, .arr 3 (List.map enc_sbi x2.1)), (1, .box [.sl 2 0 x3.1.length, .v (.int .i64 x3.2.1)]), (2, .arr 2 (List.map enc_si x3.1))]⟩) (by kernel_rfl)) ?_
                exact Wk.refl _
          · replace h := cd_f b37 h
            rcases bool_cases ((!decide (((gt x3.1 v9).2) = ((gt x2.1 v9).2.2)))) with b47 | b47
            · replace h := cd_t b47 h
              refine AX.drw mixed (its := [.auto {}, .auto {}, .auto {}, .auto {}, .auto {}, .auto {}, .auto { y := some (.v (.string ((gt x2.1 v9).1))) }, .auto { y := some (.v (.bool false)) }, .auto {}, .auto {}, .auto {}, .auto {}, .auto {}, .auto { y := some (.v (.bool false)) }, .auto {}, .auto {}, .auto {}, .auto {}, .auto {}, .auto {}, .auto {}, .auto {}, .auto { y := some (.v (.int .i64 ((gt x2.1 v9).2.2))) }, .auto { y := some (.v (.bool true)) }]) [3, 4, 5, 9, 10, 104] [0, 1, 2, 3] (s1 := ⟨[(3, .sl 0 0 x2.1.length), (4, .v (.int .i64 x2.2)), (5, .pt 1 0), (9, .v (.int .i64 v9)), (10, .pt 3 0), (104, .v (.bool true))], [(0, .arr 3 (List.map enc_sbi x2.1)), (1, .box [.sl 2 0 x3.1.length, .v (.int .i64 x3.2.1)]), (2, .arr 2 (List.map enc_si x3.1)), (3, .box [.v (.string ((gt x3.1 v9).1)), .v (.int .i64 ((gt x3.1 v9).2))])]⟩) (C := (0 ≤ v9 ∧ v9 < (x2.1.length : Int)) ∧ (True ∧ (AV.v (((List.map enc_sbi x2.1).getD (0 + v9.toNat) []).getD 0 undef) = .v (.string ((gt x2.1 v9).1)))) ∧ ((True) ∧ ((.v (.bool (!decide (((gt x3.1 v9).1) = ((gt x2.1 v9).1)))) : AV) = (.v (.bool false) : AV))) ∧ (0 ≤ v9 ∧ v9 < (x2.1.length : Int)) ∧ (True ∧ ((AV.v (((List.map enc_sbi x2.1).getD (0 + v9.toNat) []).getD 1 undef) : AV) = .v (.bool false))) ∧ (0 ≤ v9 ∧ v9 < (x2.1.length : Int)) ∧ (True ∧ (AV.v (((List.map enc_sbi x2.1).getD (0 + v9.toNat) []).getD 2 undef) = .v (.int .i64 ((gt x2.1 v9).2.2)))) ∧ ((True) ∧ ((.v (.bool (!decide (((gt x3.1 v9).2) = ((gt x2.1 v9).2.2)))) : AV) = (.v (.bool true) : AV))) ∧ True) (by kernel_rfl) ⟨g17, ⟨⟨trivial, (congrArg (fun z : List Value => AV.v (z.getD 0 undef)) (idx_arr (enc := enc_sbi) rfl g17))⟩, ⟨⟨trivial, (congrArg (fun z => AV.v (.bool z)) b18)⟩, ⟨g17, ⟨⟨((⟨trivial, (congrArg (fun z : List Value => AV.v (z.getD 1 undef)) (idx_arr (enc := enc_sbi) rfl g17))⟩ : True ∧ (AV.v (((List.map enc_sbi x2.1).getD (0 + v9.toNat) []).getD 1 undef) = .v (.bool ((gt x2.1 v9).2.1))))).1, ((⟨trivial, (congrArg (fun z : List Value => AV.v (z.getD 1 undef)) (idx_arr (enc := enc_sbi) rfl g17))⟩ : True ∧ (AV.v (((List.map enc_sbi x2.1).getD (0 + v9.toNat) []).getD 1 undef) = .v (.bool ((gt x2.1 v9).2.1))))).2.trans (congrArg (fun z => AV.v (.bool z)) b37)⟩, ⟨g17, ⟨⟨trivial, (congrArg (fun z : List Value => AV.v (z.getD 2 undef)) (idx_arr (enc := enc_sbi) rfl g17))⟩, ⟨⟨trivial, (congrArg (fun z => AV.v (.bool z)) b47)⟩, trivial⟩⟩⟩⟩⟩⟩⟩⟩ trivial ?_
              refine AX.cond_true (by kernel_rfl) ?_
              refine AX.seq ?_
              refine AX.reg (its := []) [2] [] (s1 := ⟨[(2, .v (.bool false))], []⟩) (C := True) (by kernel_rfl) trivial trivial ?_
              refine AX.ret ?_
              refine fin_wk (Wk.forget [2] [] (s' := ⟨[(2, .v (.bool false))], []⟩) (by kernel_rfl)) ?_
              have hr := Option.some.inj h
              subst hr
              exact ⟨_, Wk.refl _, .inl ⟨(), rfl, rfl, rfl⟩⟩
            · replace h := cd_f b47 h
              refine AX.drw mixed (its := (.auto {} :: .auto {} :: .auto {} :: .auto {} :: .auto {} :: .auto {} :: .auto { y := some (.v (.string ((gt x2.1 v9).1))) } :: .auto { y := some (.v (.bool false)) } :: .auto {} :: .auto {} :: .auto {} :: .auto {} :: .auto {} :: .auto { y := some (.v (.bool false)) } :: .auto {} :: .auto {} :: .auto {} :: .auto {} :: .auto {} :: .auto {} :: .auto {} :: .auto {} :: .auto { y := some (.v (.int .i64 ((gt x2.1 v9).2.2))) } :: .auto { y := some (.v (.bool false)) } :: .auto {} :: .auto {} :: .auto {} :: .auto {} :: .auto {} :: .auto {} :: .auto {} :: .auto { y := some (.v (.bool false)) } :: [])) [3, 4, 5, 9, 10, 104] [0, 1, 2, 3] (s1 := ⟨[(3, .sl 0 0 x2.1.length), (4, .v (.int .i64 x2.2)), (5, .pt 1 0), (9, .v (.int .i64 v9)), (10, .pt 3 0), (104, .v (.bool false))], [(0, .arr 3 (List.map enc_sbi x2.1)), (1, .box [.sl 2 0 x3.1.length, .v (.int .i64 x3.2.1)]), (2, .arr 2 (List.map enc_si x3.1)), (3, .box [.v (.string ((gt x3.1 v9).1)), .v (.int .i64 ((gt x3.1 v9).2))])]⟩) (C := (0 ≤ v9 ∧ v9 < (x2.1.length : Int)) ∧ (True ∧ (AV.v (((List.map enc_sbi x2.1).getD (0 + v9.toNat) []).getD 0 undef) = .v (.string ((gt x2.1 v9).1)))) ∧ ((True) ∧ ((.v (.bool (!decide (((gt x3.1 v9).1) = ((gt x2.1 v9).1)))) : AV) = (.v (.bool false) : AV))) ∧ (0 ≤ v9 ∧ v9 < (x2.1.length : Int)) ∧ (True ∧ ((AV.v (((List.map enc_sbi x2.1).getD (0 + v9.toNat) []).getD 1 undef) : AV) = .v (.bool false))) ∧ (0 ≤ v9 ∧ v9 < (x2.1.length : Int)) ∧ (True ∧ (AV.v (((List.map enc_sbi x2.1).getD (0 + v9.toNat) []).getD 2 undef) = .v (.int .i64 ((gt x2.1 v9).2.2)))) ∧ ((True) ∧ ((.v (.bool (!decide (((gt x3.1 v9).2) = ((gt x2.1 v9).2.2)))) : AV) = (.v (.bool false) : AV))) ∧ (0 ≤ v9 ∧ v9 < (x2.1.length : Int)) ∧ (True ∧ ((AV.v (((List.map enc_sbi x2.1).getD (0 + v9.toNat) []).getD 1 undef) : AV) = .v (.bool false))) ∧ True) (by kernel_rfl) ⟨g17, ⟨⟨trivial, (congrArg (fun z : List Value => AV.v (z.getD 0 undef)) (idx_arr (enc := enc_sbi) rfl g17))⟩, ⟨⟨trivial, (congrArg (fun z => AV.v (.bool z)) b18)⟩, ⟨g17, ⟨⟨((⟨trivial, (congrArg (fun z : List Value => AV.v (z.getD 1 undef)) (idx_arr (enc := enc_sbi) rfl g17))⟩ : True ∧ (AV.v (((List.map enc_sbi x2.1).getD (0 + v9.toNat) []).getD 1 undef) = .v (.bool ((gt x2.1 v9).2.1))))).1, ((⟨trivial, (congrArg (fun z : List Value => AV.v (z.getD 1 undef)) (idx_arr (enc := enc_sbi) rfl g17))⟩ : True ∧ (AV.v (((List.map enc_sbi x2.1).getD (0 + v9.toNat) []).getD 1 undef) = .v (.bool ((gt x2.1 v9).2.1))))).2.trans (congrArg (fun z => AV.v (.bool z)) b37)⟩, ⟨g17, ⟨⟨trivial, (congrArg (fun z : List Value => AV.v (z.getD 2 undef)) (idx_arr (enc := enc_sbi) rfl g17))⟩, ⟨⟨trivial, (congrArg (fun z => AV.v (.bool z)) b47)⟩, ⟨g17, ⟨⟨((⟨trivial, (congrArg (fun z : List Value => AV.v (z.getD 1 undef)) (idx_arr (enc := enc_sbi) rfl g17))⟩ : True ∧ (AV.v (((List.map enc_sbi x2.1).getD (0 + v9.toNat) []).getD 1 undef) = .v (.bool ((gt x2.1 v9).2.1))))).1, ((⟨trivial, (congrArg (fun z : List Value => AV.v (z.getD 1 undef)) (idx_arr (enc := enc_sbi) rfl g17))⟩ : True ∧ (AV.v (((List.map enc_sbi x2.1).getD (0 + v9.toNat) []).getD 1 undef) = .v (.bool ((gt x2.1 v9).2.1))))).2.trans (congrArg (fun z => AV.v (.bool z)) b37)⟩, trivial⟩⟩⟩⟩⟩⟩⟩⟩⟩⟩ trivial ?_
              refine AX.cond_false (by kernel_rfl) ?_
              refine AX.skip ?_
              refine AX.seq ?_
              refine AX.reg (its := []) [3, 4, 5, 9, 10, 11] [0, 1, 2, 3] (s1 := ⟨[(3, .sl 0 0 x2.1.length), (4, .v (.int .i64 x2.2)), (5, .pt 1 0), (9, .v (.int .i64 v9)), (10, .pt 3 0), (11, .v (.int .i64 0))], [(0, .arr 3 (List.map enc_sbi x2.1)), (1, .box [.sl 2 0 x3.1.length, .v (.int .i64 x3.2.1)]), (2, .arr 2 (List.map enc_si x3.1)), (3, .box [.v (.string ((gt x3.1 v9).1)), .v (.int .i64 ((gt x3.1 v9).2))])]⟩) (C := True) (by kernel_rfl) trivial trivial ?_
              refine AX.block ?_
              obtain ⟨x27, e53, h⟩ := bd_e h
              refine AX.wk (Wk.forget [3, 4, 5, 9, 10, 11] [0, 1, 2, 3] (s' := ⟨[(3, .sl 0 0 x2.1.length), (4, .v (.int .i64 x2.2)), (5, .pt 1 0), (9, .v (.int .i64 v9)), (10, .pt 3 0), (11, .v (.int .i64 0))], [(0, .arr 3 (List.map enc_sbi x2.1)), (1, .box [.sl 2 0 x3.1.length, .v (.int .i64 x3.2.1)]), (2, .arr 2 (List.map enc_si x3.1)), (3, .box [.v (.string ((gt x3.1 v9).1)), .v (.int .i64 ((gt x3.1 v9).2))])]⟩) (by kernel_rfl)) ?_
              refine AX.mono (s_laws_FnBuildFlag_L5 x2 x3 v9 FU 0 x27 e53) ?_
              rintro _ _ (⟨x28, rfl, rfl, rfl⟩ | ⟨x29, rfl, rfl, rfl⟩)
              · replace h := sm_l h
                refine fin_wk (Wk.forget [2] [] (s' := ⟨[(2, .v (.bool false))], []⟩) (by kernel_rfl)) ?_
                have hr := Option.some.inj h
                subst hr
                exact ⟨_, Wk.refl _, .inl ⟨(), rfl, rfl, rfl⟩⟩
              · replace h := sm_r h
                refine AX.reg (its := [.auto {}, .auto { raw := true }]) [3, 4, 5, 9] [0, 1, 2] (s1 := ⟨[(3, .sl 0 0 x2.1.length), (4, .v (.int .i64 x2.2)), (5, .pt 1 0), (9, .v (.int .i64 (IntKind.wrap .i64 (v9 + 1))))], [(0, .arr 3 (List.map enc_sbi x2.1)), (1, .box [.sl 2 0 x3.1.length, .v (.int .i64 x3.2.1)]), (2, .arr 2 (List.map enc_si x3.1))]⟩) (C := True) (by kernel_rfl) trivial trivial ?_
                refine ⟨(fu, IntKind.wrap .i64 (v9 + 1)), h, Nat.lt_succ_self _, ?_⟩
                refine Wk.trans (Wk.forget [3, 4, 5, 9] [0, 1, 2] (s' := ⟨[(3, .sl 0 0 x2.1.length), (4, .v (.int .i64 x2.2)), (5, .pt 1 0), (9, .v (.int .i64 (IntKind.wrap .i64 (v9 + 1))))], [(0, .arr 3 (List.map enc_sbi x2.1)), (1, .box [.sl 2 0 x3.1.length, .v (.int .i64 x3.2.1)]), (2, .arr 2 (List.map enc_si x3.1))]⟩) (by kernel_rfl)) ?_
                exact Wk.refl _
    · replace h := cd_f b15 h
      refine AX.condF (decide (v9 < (x2.1.length : Int))) (by kernel_rfl) b15 ?_
      refine AX.exit ?_
      refine fin_wk (Wk.swap 0 1 (Nat.le_of_ble_eq_true (by kernel_rfl)) (Nat.le_of_ble_eq_true (by kernel_rfl)) rfl) ?_
      refine fin_wk (Wk.swap 1 2 (Nat.le_of_ble_eq_true (by kernel_rfl)) (Nat.le_of_ble_eq_true (by kernel_rfl)) rfl) ?_
      refine fin_wk (Wk.forget [4, 5] [0, 1] (s' := ⟨[(4, .v (.int .i64 x2.2)), (5, .pt 0 0)], [(0, .box [.sl 1 0 x3.1.length, .v (.int .i64 x3.2.1)]), (1, .arr 2 (List.map enc_si x3.1))]⟩) (by kernel_rfl)) ?_
      have hr := Option.some.inj h
      subst hr
      exact ⟨_, Wk.refl _, .inr ⟨(), rfl, rfl, rfl⟩⟩

theorem s_laws_FnBuildFlag (p1 : List (Int)) (r : Bool) (h : m_laws_FnBuildFlag p1 = some r) :
    Eng.Spec Try.prog 4 [.bs true 1 (List.map enc_y p1)] [] (.v (.bool r)) [] := by
  unfold m_laws_FnBuildFlag at h
  refine Eng.Spec.body Try.func4 (by kernel_rfl) rfl (by kernel_rfl) ?_
  refine AX.wkpost ?_
  refine AX.seq ?_
  refine AX.reg (its := []) [0] [] (s1 := ⟨[(0, .bs true 1 (List.map enc_y p1))], []⟩) (C := True) (by kernel_rfl) trivial trivial ?_
  refine AX.seq ?_
  refine AX.seq ?_
  refine AX.reg (its := [.auto {}, .auto { y := some (.v (.int .i64 (p1.length : Int))) }]) [0, 14] [] (s1 := ⟨[(0, .bs true 1 (List.map enc_y p1)), (14, .v (.bool (decide (1048576 < (p1.length : Int)))))], []⟩) (C := (True ∧ (AV.v (.int .i64 ((List.map enc_y p1).length : Int)) = AV.v (.int .i64 (p1.length : Int)))) ∧ True) (by kernel_rfl) ⟨⟨trivial, len_map enc_y p1⟩, trivial⟩ trivial ?_
  rcases bool_cases (decide (1048576 < (p1.length : Int))) with b1 | b1
  · replace h := cd_t b1 h
    refine AX.condT (decide (1048576 < (p1.length : Int))) (by kernel_rfl) b1 ?_
    refine AX.seq ?_
    refine AX.reg (its := []) [2] [] (s1 := ⟨[(2, .v (.bool true))], []⟩) (C := True) (by kernel_rfl) trivial trivial ?_
    refine AX.ret ?_
    refine fin_wk (Wk.forget [2] [] (s' := ⟨[(2, .v (.bool true))], []⟩) (by kernel_rfl)) ?_
    have hr := Option.some.inj h
    subst hr
    exact ⟨_, Wk.refl _, .inr rfl, ⟨[], by kernel_rfl, trivial, [.v (.bool true)], by kernel_rfl, by kernel_rfl⟩⟩
  · replace h := cd_f b1 h
    refine AX.condF (decide (1048576 < (p1.length : Int))) (by kernel_rfl) b1 ?_
    refine AX.skip ?_
    refine AX.seq ?_
    obtain ⟨x2, e2, h⟩ := bd_e h
    refine AX.reg (its := [.auto {}, .call 14 [.bs true 1 (List.map enc_y p1)] (handO (rho ([] ++ [0])) [] [] ++ []) (callEv [] [0] (.tup [.sl 0 0 x2.1.length, .v (.int .i64 x2.2)]) [.arr 3 (List.map enc_sbi x2.1)])]) [3, 4] [0] (s1 := ⟨[(3, .sl 0 0 x2.1.length), (4, .v (.int .i64 x2.2))], [(0, .arr 3 (List.map enc_sbi x2.1))]⟩) (C := ((([.bs true 1 (List.map enc_y p1)] : List AV) = [.bs true 1 (List.map enc_y p1)]) ∧ True) ∧ True) (by kernel_rfl) ⟨⟨rfl, trivial⟩, trivial⟩ ⟨call_ok (ks := []) (ns := [0]) (bor := []) (bobjs := []) (s_spec_DrawBuildFlag p1 x2 e2) (.cons (.c1 (.c0 (.same _ (by kernel_rfl) (by kernel_rfl)))) (.nil)) (by kernel_rfl) trivial, trivial⟩ ?_
    refine AX.seq ?_
    obtain ⟨x3, e3, h⟩ := bd_e h
    refine AX.reg (its := [.auto {}, .auto {}, .call 15 [.sl 0 0 x2.1.length, .v (.int .i64 x2.2)] (handO (rho ([] ++ [1])) [] [] ++ [(0, .arr 3 (List.map enc_sbi x2.1))]) (callEv [] [1] (.tup [.agg [.sl 0 0 x3.1.length, .v (.int .i64 x3.2.1)], .v (.bool x3.2.2)]) [.arr 2 (List.map enc_si x3.1)]), .auto {}, .auto {}, .auto {}, .auto { nk := 2 }]) [3, 4, 5, 6] [0, 1, 2] (s1 := ⟨[(3, .sl 0 0 x2.1.length), (4, .v (.int .i64 x2.2)), (5, .pt 2 0), (6, .v (.bool x3.2.2))], [(0, .arr 3 (List.map enc_sbi x2.1)), (1, .arr 2 (List.map enc_si x3.1)), (2, .box [.sl 1 0 x3.1.length, .v (.int .i64 x3.2.1)])]⟩) (C := ((([.sl 0 0 x2.1.length, .v (.int .i64 x2.2)] : List AV) = [.sl 0 0 x2.1.length, .v (.int .i64 x2.2)]) ∧ (AO.arr 3 (List.map enc_sbi x2.1) = AO.arr 3 (List.map enc_sbi x2.1)) ∧ True) ∧ True) (by kernel_rfl) ⟨⟨rfl, rfl, trivial⟩, trivial⟩ ⟨call_ok (ks := []) (ns := [1]) (bor := [0]) (bobjs := [(0, .arr 3 (List.map enc_sbi x2.1))]) (s_impl_BuildFlag x2.1 x2.2 x3 e3) (.cons (.c1 (.c0 (.arr rfl rfl ((rfl).trans (List.length_map ..).symm)))) (.cons (.c1 (.c0 (.same _ (by kernel_rfl) (by kernel_rfl)))) (.nil))) (by kernel_rfl) trivial, trivial⟩ ?_
    refine AX.seq ?_
    obtain ⟨x4, e4, h⟩ := bd_e h
    refine AX.reg (its := [.auto {}, .auto {}, .call 16 [.sl 0 0 x2.1.length, .v (.int .i64 x2.2)] (handO (rho ([] ++ [3])) [] [] ++ [(0, .arr 3 (List.map enc_sbi x2.1))]) (callEv [] [3] (.tup [.agg [.sl 0 0 x4.1.length, .v (.int .i64 x4.2.1)], .v (.bool x4.2.2)]) [.arr 2 (List.map enc_si x4.1)]), .auto {}, .auto {}, .auto {}, .auto { nk := 4 }]) [3, 4, 5, 6, 7, 8] [0, 1, 2, 3, 4] (s1 := ⟨[(3, .sl 0 0 x2.1.length), (4, .v (.int .i64 x2.2)), (5, .pt 2 0), (6, .v (.bool x3.2.2)), (7, .pt 4 0), (8, .v (.bool x4.2.2))], [(0, .arr 3 (List.map enc_sbi x2.1)), (1, .arr 2 (List.map enc_si x3.1)), (2, .box [.sl 1 0 x3.1.length, .v (.int .i64 x3.2.1)]), (3, .arr 2 (List.map enc_si x4.1)), (4, .box [.sl 3 0 x4.1.length, .v (.int .i64 x4.2.1)])]⟩) (C := ((([.sl 0 0 x2.1.length, .v (.int .i64 x2.2)] : List AV) = [.sl 0 0 x2.1.length, .v (.int .i64 x2.2)]) ∧ (AO.arr 3 (List.map enc_sbi x2.1) = AO.arr 3 (List.map enc_sbi x2.1)) ∧ True) ∧ True) (by kernel_rfl) ⟨⟨rfl, rfl, trivial⟩, trivial⟩ ⟨call_ok (ks := []) (ns := [3]) (bor := [0]) (bobjs := [(0, .arr 3 (List.map enc_sbi x2.1))]) (s_spec_BuildFlag x2.1 x2.2 x4 e4) (.cons (.c1 (.c0 (.arr rfl rfl ((rfl).trans (List.length_map ..).symm)))) (.cons (.c1 (.c0 (.same _ (by kernel_rfl) (by kernel_rfl)))) (.nil))) (by kernel_rfl) trivial, trivial⟩ ?_
    refine AX.seq ?_
    refine AX.seq ?_
    obtain ⟨x5, e5, h⟩ := bd_e h
    rcases bool_cases ((!x5)) with b6 | b6
    · replace h := cd_t b6 h
      refine AX.reg (its := [.auto {}, .auto {}, .call 17 [.agg [.sl 1 0 x3.1.length, .v (.int .i64 x3.2.1)], .agg [.sl 3 0 x4.1.length, .v (.int .i64 x4.2.1)]] (handO (rho ([] ++ [])) [] [] ++ [(1, .arr 2 (List.map enc_si x3.1)), (3, .arr 2 (List.map enc_si x4.1))]) (callEv [] [] (.v (.bool x5)) []), .auto { y := some (.v (.bool true)) }]) [3, 4, 5, 6, 7, 8, 44] [0, 1, 2, 3, 4] (s1 := ⟨[(3, .sl 0 0 x2.1.length), (4, .v (.int .i64 x2.2)), (5, .pt 2 0), (6, .v (.bool x3.2.2)), (7, .pt 4 0), (8, .v (.bool x4.2.2)), (44, .v (.bool true))], [(0, .arr 3 (List.map enc_sbi x2.1)), (1, .arr 2 (List.map enc_si x3.1)), (2, .box [.sl 1 0 x3.1.length, .v (.int .i64 x3.2.1)]), (3, .arr 2 (List.map enc_si x4.1)), (4, .box [.sl 3 0 x4.1.length, .v (.int .i64 x4.2.1)])]⟩) (C := ((([.agg [.sl 1 0 x3.1.length, .v (.int .i64 x3.2.1)], .agg [.sl 3 0 x4.1.length, .v (.int .i64 x4.2.1)]] : List AV) = [.agg [.sl 1 0 x3.1.length, .v (.int .i64 x3.2.1)], .agg [.sl 3 0 x4.1.length, .v (.int .i64 x4.2.1)]]) ∧ (AO.arr 2 (List.map enc_si x3.1) = AO.arr 2 (List.map enc_si x3.1)) ∧ (AO.arr 2 (List.map enc_si x4.1) = AO.arr 2 (List.map enc_si x4.1)) ∧ True) ∧ ((True) ∧ ((.v (.bool (!x5)) : AV) = (.v (.bool true) : AV))) ∧ True) (by kernel_rfl) ⟨⟨rfl, rfl, rfl, trivial⟩, ⟨⟨trivial, (congrArg (fun z => AV.v (.bool z)) b6)⟩, trivial⟩⟩ ⟨call_ok (ks := []) (ns := []) (bor := [1, 3]) (bobjs := [(1, .arr 2 (List.map enc_si x3.1)), (3, .arr 2 (List.map enc_si x4.1))]) (s_laws_equalFlag x3.1 x3.2.1 x4.1 x4.2.1 x5 e5) (.cons (.c1 (.agg (.cons (.arr rfl rfl ((rfl).trans (List.length_map ..).symm)) (.cons (.same _ (by kernel_rfl) (by kernel_rfl)) (.nil))))) (.cons (.c1 (.agg (.cons (.arr rfl rfl ((rfl).trans (List.length_map ..).symm)) (.cons (.same _ (by kernel_rfl) (by kernel_rfl)) (.nil))))) (.nil))) (by kernel_rfl) trivial, trivial⟩ ?_
      refine AX.cond_true (by kernel_rfl) ?_
      refine AX.seq ?_
      obtain ⟨x6, e7, h⟩ := bd_e h
      rcases bool_cases (x6) with b8 | b8
      · replace h := cd_t b8 h
        refine AX.reg (its := [.auto {}, .auto {}, .call 17 [.agg [.sl 1 0 x3.1.length, .v (.int .i64 x3.2.1)], .agg [.sl 3 0 x4.1.length, .v (.int .i64 x4.2.1)]] (handO (rho ([] ++ [])) [] [] ++ [(1, .arr 2 (List.map enc_si x3.1)), (3, .arr 2 (List.map enc_si x4.1))]) (callEv [] [] (.v (.bool true)) [])]) [2] [] (s1 := ⟨[(2, .v (.bool (x3.2.2 == x4.2.2)))], []⟩) (C := ((([.agg [.sl 1 0 x3.1.length, .v (.int .i64 x3.2.1)], .agg [.sl 3 0 x4.1.length, .v (.int .i64 x4.2.1)]] : List AV) = [.agg [.sl 1 0 x3.1.length, .v (.int .i64 x3.2.1)], .agg [.sl 3 0 x4.1.length, .v (.int .i64 x4.2.1)]]) ∧ (AO.arr 2 (List.map enc_si x3.1) = AO.arr 2 (List.map enc_si x3.1)) ∧ (AO.arr 2 (List.map enc_si x4.1) = AO.arr 2 (List.map enc_si x4.1)) ∧ True) ∧ True) (by kernel_rfl) ⟨⟨rfl, rfl, rfl, trivial⟩, trivial⟩ ⟨call_ok (ks := []) (ns := []) (bor := [1, 3]) (bobjs := [(1, .arr 2 (List.map enc_si x3.1)), (3, .arr 2 (List.map enc_si x4.1))]) (show Eng.Spec Try.prog 17 [.agg [.bs false 2 (List.map enc_si x3.1), .v (.int .i64 x3.2.1)], .agg [.bs false 2 (List.map enc_si x4.1), .v (.int .i64 x4.2.1)]] [] (.v (.bool true)) [] from by have q := s_laws_equalFlag x3.1 x3.2.1 x4.1 x4.2.1 x6 e7; rw [b8] at q; exact q) (.cons (.c1 (.agg (.cons (.arr rfl rfl ((rfl).trans (List.length_map ..).symm)) (.cons (.same _ (by kernel_rfl) (by kernel_rfl)) (.nil))))) (.cons (.c1 (.agg (.cons (.arr rfl rfl ((rfl).trans (List.length_map ..).symm)) (.cons (.same _ (by kernel_rfl) (by kernel_rfl)) (.nil))))) (.nil))) (by kernel_rfl) trivial, trivial⟩ ?_
        refine AX.ret ?_
        refine fin_wk (Wk.forget [2] [] (s' := ⟨[(2, .v (.bool (x3.2.2 == x4.2.2)))], []⟩) (by kernel_rfl)) ?_
        have hr := Option.some.inj h
        subst hr
        exact ⟨_, Wk.refl _, .inr rfl, ⟨[], by kernel_rfl, trivial, [.v (.bool (x3.2.2 == x4.2.2))], by kernel_rfl, by kernel_rfl⟩⟩
      · replace h := cd_f b8 h
        refine AX.reg (its := [.auto {}, .auto {}, .call 17 [.agg [.sl 1 0 x3.1.length, .v (.int .i64 x3.2.1)], .agg [.sl 3 0 x4.1.length, .v (.int .i64 x4.2.1)]] (handO (rho ([] ++ [])) [] [] ++ [(1, .arr 2 (List.map enc_si x3.1)), (3, .arr 2 (List.map enc_si x4.1))]) (callEv [] [] (.v (.bool false)) [])]) [2] [] (s1 := ⟨[(2, .v (.bool false))], []⟩) (C := ((([.agg [.sl 1 0 x3.1.length, .v (.int .i64 x3.2.1)], .agg [.sl 3 0 x4.1.length, .v (.int .i64 x4.2.1)]] : List AV) = [.agg [.sl 1 0 x3.1.length, .v (.int .i64 x3.2.1)], .agg [.sl 3 0 x4.1.length, .v (.int .i64 x4.2.1)]]) ∧ (AO.arr 2 (List.map enc_si x3.1) = AO.arr 2 (List.map enc_si x3.1)) ∧ (AO.arr 2 (List.map enc_si x4.1) = AO.arr 2 (List.map enc_si x4.1)) ∧ True) ∧ True) (by kernel_rfl) ⟨⟨rfl, rfl, rfl, trivial⟩, trivial⟩ ⟨call_ok (ks := []) (ns := []) (bor := [1, 3]) (bobjs := [(1, .arr 2 (List.map enc_si x3.1)), (3, .arr 2 (List.map enc_si x4.1))]) (show Eng.Spec Try.prog 17 [.agg [.bs false 2 (List.map enc_si x3.1), .v (.int .i64 x3.2.1)], .agg [.bs false 2 (List.map enc_si x4.1), .v (.int .i64 x4.2.1)]] [] (.v (.bool false)) [] from by have q := s_laws_equalFlag x3.1 x3.2.1 x4.1 x4.2.1 x6 e7; rw [b8] at q; exact q) (.cons (.c1 (.agg (.cons (.arr rfl rfl ((rfl).trans (List.length_map ..).symm)) (.cons (.same _ (by kernel_rfl) (by kernel_rfl)) (.nil))))) (.cons (.c1 (.agg (.cons (.arr rfl rfl ((rfl).trans (List.length_map ..).symm)) (.cons (.same _ (by kernel_rfl) (by kernel_rfl)) (.nil))))) (.nil))) (by kernel_rfl) trivial, trivial⟩ ?_
        refine AX.ret ?_
        refine fin_wk (Wk.forget [2] [] (s' := ⟨[(2, .v (.bool false))], []⟩) (by kernel_rfl)) ?_
        have hr := Option.some.inj h
        subst hr
        exact ⟨_, Wk.refl _, .inr rfl, ⟨[], by kernel_rfl, trivial, [.v (.bool false)], by kernel_rfl, by kernel_rfl⟩⟩
    · replace h := cd_f b6 h
      rcases bool_cases ((!(x3.2.2 == x4.2.2))) with b9 | b9
      · replace h := cd_t b9 h
        refine AX.reg (its := [.auto {}, .auto {}, .call 17 [.agg [.sl 1 0 x3.1.length, .v (.int .i64 x3.2.1)], .agg [.sl 3 0 x4.1.length, .v (.int .i64 x4.2.1)]] (handO (rho ([] ++ [])) [] [] ++ [(1, .arr 2 (List.map enc_si x3.1)), (3, .arr 2 (List.map enc_si x4.1))]) (callEv [] [] (.v (.bool x5)) []), .auto { y := some (.v (.bool false)) }, .auto {}, .auto {}, .auto {}, .auto { y := some (.v (.bool true)) }]) [3, 4, 5, 6, 7, 8, 44] [0, 1, 2, 3, 4] (s1 := ⟨[(3, .sl 0 0 x2.1.length), (4, .v (.int .i64 x2.2)), (5, .pt 2 0), (6, .v (.bool x3.2.2)), (7, .pt 4 0), (8, .v (.bool x4.2.2)), (44, .v (.bool true))], [(0, .arr 3 (List.map enc_sbi x2.1)), (1, .arr 2 (List.map enc_si x3.1)), (2, .box [.sl 1 0 x3.1.length, .v (.int .i64 x3.2.1)]), (3, .arr 2 (List.map enc_si x4.1)), (4, .box [.sl 3 0 x4.1.length, .v (.int .i64 x4.2.1)])]⟩) (C := ((([.agg [.sl 1 0 x3.1.length, .v (.int .i64 x3.2.1)], .agg [.sl 3 0 x4.1.length, .v (.int .i64 x4.2.1)]] : List AV) = [.agg [.sl 1 0 x3.1.length, .v (.int .i64 x3.2.1)], .agg [.sl 3 0 x4.1.length, .v (.int .i64 x4.2.1)]]) ∧ (AO.arr 2 (List.map enc_si x3.1) = AO.arr 2 (List.map enc_si x3.1)) ∧ (AO.arr 2 (List.map enc_si x4.1) = AO.arr 2 (List.map enc_si x4.1)) ∧ True) ∧ ((True) ∧ ((.v (.bool (!x5)) : AV) = (.v (.bool false) : AV))) ∧ ((True) ∧ ((.v (.bool (!(x3.2.2 == x4.2.2))) : AV) = (.v (.bool true) : AV))) ∧ True) (by kernel_rfl) ⟨⟨rfl, rfl, rfl, trivial⟩, ⟨⟨trivial, (congrArg (fun z => AV.v (.bool z)) b6)⟩, ⟨⟨trivial, (congrArg (fun z => AV.v (.bool z)) b9)⟩, trivial⟩⟩⟩ ⟨call_ok (ks := []) (ns := []) (bor := [1, 3]) (bobjs := [(1, .arr 2 (List.map enc_si x3.1)), (3, .arr 2 (List.map enc_si x4.1))]) (s_laws_equalFlag x3.1 x3.2.1 x4.1 x4.2.1 x5 e5) (.cons (.c1 (.agg (.cons (.arr rfl rfl ((rfl).trans (List.length_map ..).symm)) (.cons (.same _ (by kernel_rfl) (by kernel_rfl)) (.nil))))) (.cons (.c1 (.agg (.cons (.arr rfl rfl ((rfl).trans (List.length_map ..).symm)) (.cons (.same _ (by kernel_rfl) (by kernel_rfl)) (.nil))))) (.nil))) (by kernel_rfl) trivial, trivial⟩ ?_
        refine AX.cond_true (by kernel_rfl) ?_
        refine AX.seq ?_
        obtain ⟨x7, e10, h⟩ := bd_e h
        rcases bool_cases (x7) with b11 | b11
        · replace h := cd_t b11 h
          refine AX.reg (its := [.auto {}, .auto {}, .call 17 [.agg [.sl 1 0 x3.1.length, .v (.int .i64 x3.2.1)], .agg [.sl 3 0 x4.1.length, .v (.int .i64 x4.2.1)]] (handO (rho ([] ++ [])) [] [] ++ [(1, .arr 2 (List.map enc_si x3.1)), (3, .arr 2 (List.map enc_si x4.1))]) (callEv [] [] (.v (.bool true)) [])]) [2] [] (s1 := ⟨[(2, .v (.bool (x3.2.2 == x4.2.2)))], []⟩) (C := ((([.agg [.sl 1 0 x3.1.length, .v (.int .i64 x3.2.1)], .agg [.sl 3 0 x4.1.length, .v (.int .i64 x4.2.1)]] : List AV) = [.agg [.sl 1 0 x3.1.length, .v (.int .i64 x3.2.1)], .agg [.sl 3 0 x4.1.length, .v (.int .i64 x4.2.1)]]) ∧ (AO.arr 2 (List.map enc_si x3.1) = AO.arr 2 (List.map enc_si x3.1)) ∧ (AO.arr 2 (List.map enc_si x4.1) = AO.arr 2 (List.map enc_si x4.1)) ∧ True) ∧ True) (by kernel_rfl) ⟨⟨rfl, rfl, rfl, trivial⟩, trivial⟩ ⟨call_ok (ks := []) (ns := []) (bor := [1, 3]) (bobjs := [(1, .arr 2 (List.map enc_si x3.1)), (3, .arr 2 (List.map enc_si x4.1))]) (show Eng.Spec Try.prog 17 [.agg [.bs false 2 (List.map enc_si x3.1), .v (.int .i64 x3.2.1)], .agg [.bs false 2 (List.map enc_si x4.1), .v (.int .i64 x4.2.1)]] [] (.v (.bool true)) [] from by have q := s_laws_equalFlag x3.1 x3.2.1 x4.1 x4.2.1 x7 e10; rw [b11] at q; exact q) (.cons (.c1 (.agg (.cons (.arr rfl rfl ((rfl).trans (List.length_map ..).symm)) (.cons (.same _ (by kernel_rfl) (by kernel_rfl)) (.nil))))) (.cons (.c1 (.agg (.cons (.arr rfl rfl ((rfl).trans (List.length_map ..).symm)) (.cons (.same _ (by kernel_rfl) (by kernel_rfl)) (.nil))))) (.nil))) (by kernel_rfl) trivial, trivial⟩ ?_
          refine AX.ret ?_
          refine fin_wk (Wk.forget [2] [] (s' := ⟨[(2, .v (.bool (x3.2.2 == x4.2.2)))], []⟩) (by kernel_rfl)) ?_
          have hr := Option.some.inj h
          subst hr
          exact ⟨_, Wk.refl _, .inr rfl, ⟨[], by kernel_rfl, trivial, [.v (.bool (x3.2.2 == x4.2.2))], by kernel_rfl, by kernel_rfl⟩⟩
        · replace h := cd_f b11 h
          refine AX.reg (its := [.auto {}, .auto {}, .call 17 [.agg [.sl 1 0 x3.1.length, .v (.int .i64 x3.2.1)], .agg [.sl 3 0 x4.1.length, .v (.int .i64 x4.2.1)]] (handO (rho ([] ++ [])) [] [] ++ [(1, .arr 2 (List.map enc_si x3.1)), (3, .arr 2 (List.map enc_si x4.1))]) (callEv [] [] (.v (.bool false)) [])]) [2] [] (s1 := ⟨[(2, .v (.bool false))], []⟩) (C := ((([.agg [.sl 1 0 x3.1.length, .v (.int .i64 x3.2.1)], .agg [.sl 3 0 x4.1.length, .v (.int .i64 x4.2.1)]] : List AV) = [.agg [.sl 1 0 x3.1.length, .v (.int .i64 x3.2.1)], .agg [.sl 3 0 x4.1.length, .v (.int .i64 x4.2.1)]]) ∧ (AO.arr 2 (List.map enc_si x3.1) = AO.arr 2 (List.map enc_si x3.1)) ∧ (AO.arr 2 (List.map enc_si x4.1) = AO.arr 2 (List.map enc_si x4.1)) ∧ True) ∧ True) (by kernel_rfl) ⟨⟨rfl, rfl, rfl, trivial⟩, trivial⟩ ⟨call_ok (ks := []) (ns := []) (bor := [1, 3]) (bobjs := [(1, .arr 2 (List.map enc_si x3.1)), (3, .arr 2 (List.map enc_si x4.1))]) (show Eng.Spec Try.prog 17 [.agg [.bs false 2 (List.map enc_si x3.1), .v (.int .i64 x3.2.1)], .agg [.bs false 2 (List.map enc_si x4.1), .v (.int .i64 x4.2.1)]] [] (.v (.bool false)) [] from by have q := s_laws_equalFlag x3.1 x3.2.1 x4.1 x4.2.1 x7 e10; rw [b11] at q; exact q) (.cons (.c1 (.agg (.cons (.arr rfl rfl ((rfl).trans (List.length_map ..).symm)) (.cons (.same _ (by kernel_rfl) (by kernel_rfl)) (.nil))))) (.cons (.c1 (.agg (.cons (.arr rfl rfl ((rfl).trans (List.length_map ..).symm)) (.cons (.same _ (by kernel_rfl) (by kernel_rfl)) (.nil))))) (.nil))) (by kernel_rfl) trivial, trivial⟩ ?_
          refine AX.ret ?_
          refine fin_wk (Wk.forget [2] [] (s' := ⟨[(2, .v (.bool false))], []⟩) (by kernel_rfl)) ?_
          have hr := Option.some.inj h
          subst hr
          exact ⟨_, Wk.refl _, .inr rfl, ⟨[], by kernel_rfl, trivial, [.v (.bool false)], by kernel_rfl, by kernel_rfl⟩⟩
      · replace h := cd_f b9 h
        refine AX.reg (its := [.auto {}, .auto {}, .call 17 [.agg [.sl 1 0 x3.1.length, .v (.int .i64 x3.2.1)], .agg [.sl 3 0 x4.1.length, .v (.int .i64 x4.2.1)]] (handO (rho ([] ++ [])) [] [] ++ [(1, .arr 2 (List.map enc_si x3.1)), (3, .arr 2 (List.map enc_si x4.1))]) (callEv [] [] (.v (.bool x5)) []), .auto { y := some (.v (.bool false)) }, .auto {}, .auto {}, .auto {}, .auto { y := some (.v (.bool false)) }]) [3, 4, 5, 6, 7, 8, 44] [0, 1, 2, 3, 4] (s1 := ⟨[(3, .sl 0 0 x2.1.length), (4, .v (.int .i64 x2.2)), (5, .pt 2 0), (6, .v (.bool x3.2.2)), (7, .pt 4 0), (8, .v (.bool x4.2.2)), (44, .v (.bool (!x3.2.2)))], [(0, .arr 3 (List.map enc_sbi x2.1)), (1, .arr 2 (List.map enc_si x3.1)), (2, .box [.sl 1 0 x3.1.length, .v (.int .i64 x3.2.1)]), (3, .arr 2 (List.map enc_si x4.1)), (4, .box [.sl 3 0 x4.1.length, .v (.int .i64 x4.2.1)])]⟩) (C := ((([.agg [.sl 1 0 x3.1.length, .v (.int .i64 x3.2.1)], .agg [.sl 3 0 x4.1.length, .v (.int .i64 x4.2.1)]] : List AV) = [.agg [.sl 1 0 x3.1.length, .v (.int .i64 x3.2.1)], .agg [.sl 3 0 x4.1.length, .v (.int .i64 x4.2.1)]]) ∧ (AO.arr 2 (List.map enc_si x3.1) = AO.arr 2 (List.map enc_si x3.1)) ∧ (AO.arr 2 (List.map enc_si x4.1) = AO.arr 2 (List.map enc_si x4.1)) ∧ True) ∧ ((True) ∧ ((.v (.bool (!x5)) : AV) = (.v (.bool false) : AV))) ∧ ((True) ∧ ((.v (.bool (!(x3.2.2 == x4.2.2))) : AV) = (.v (.bool false) : AV))) ∧ True) (by kernel_rfl) ⟨⟨rfl, rfl, rfl, trivial⟩, ⟨⟨trivial, (congrArg (fun z => AV.v (.bool z)) b6)⟩, ⟨⟨trivial, (congrArg (fun z => AV.v (.bool z)) b9)⟩, trivial⟩⟩⟩ ⟨call_ok (ks := []) (ns := []) (bor := [1, 3]) (bobjs := [(1, .arr 2 (List.map enc_si x3.1)), (3, .arr 2 (List.map enc_si x4.1))]) (s_laws_equalFlag x3.1 x3.2.1 x4.1 x4.2.1 x5 e5) (.cons (.c1 (.agg (.cons (.arr rfl rfl ((rfl).trans (List.length_map ..).symm)) (.cons (.same _ (by kernel_rfl) (by kernel_rfl)) (.nil))))) (.cons (.c1 (.agg (.cons (.arr rfl rfl ((rfl).trans (List.length_map ..).symm)) (.cons (.same _ (by kernel_rfl) (by kernel_rfl)) (.nil))))) (.nil))) (by kernel_rfl) trivial, trivial⟩ ?_
        rcases bool_cases ((!x3.2.2)) with b12 | b12
        · replace h := cd_t b12 h
          refine AX.condT ((!x3.2.2)) (by kernel_rfl) b12 ?_
          refine AX.seq ?_
          obtain ⟨x8, e13, h⟩ := bd_e h
          rcases bool_cases (x8) with b14 | b14
          · replace h := cd_t b14 h
            refine AX.reg (its := [.auto {}, .auto {}, .call 17 [.agg [.sl 1 0 x3.1.length, .v (.int .i64 x3.2.1)], .agg [.sl 3 0 x4.1.length, .v (.int .i64 x4.2.1)]] (handO (rho ([] ++ [])) [] [] ++ [(1, .arr 2 (List.map enc_si x3.1)), (3, .arr 2 (List.map enc_si x4.1))]) (callEv [] [] (.v (.bool true)) [])]) [2] [] (s1 := ⟨[(2, .v (.bool (x3.2.2 == x4.2.2)))], []⟩) (C := ((([.agg [.sl 1 0 x3.1.length, .v (.int .i64 x3.2.1)], .agg [.sl 3 0 x4.1.length, .v (.int .i64 x4.2.1)]] : List AV) = [.agg [.sl 1 0 x3.1.length, .v (.int .i64 x3.2.1)], .agg [.sl 3 0 x4.1.length, .v (.int .i64 x4.2.1)]]) ∧ (AO.arr 2 (List.map enc_si x3.1) = AO.arr 2 (List.map enc_si x3.1)) ∧ (AO.arr 2 (List.map enc_si x4.1) = AO.arr 2 (List.map enc_si x4.1)) ∧ True) ∧ True) (by kernel_rfl) ⟨⟨rfl, rfl, rfl, trivial⟩, trivial⟩ ⟨call_ok (ks := []) (ns := []) (bor := [1, 3]) (bobjs := [(1, .arr 2 (List.map enc_si x3.1)), (3, .arr 2 (List.map enc_si x4.1))]) (show Eng.Spec Try.prog 17 [.agg [.bs false 2 (List.map enc_si x3.1), .v (.int .i64 x3.2.1)], .agg [.bs false 2 (List.map enc_si x4.1), .v (.int .i64 x4.2.1)]] [] (.v (.bool true)) [] from by have q := s_laws_equalFlag x3.1 x3.2.1 x4.1 x4.2.1 x8 e13; rw [b14] at q; exact q) (.cons (.c1 (.agg (.cons (.arr rfl rfl ((rfl).trans (List.length_map ..).symm)) (.cons (.same _ (by kernel_rfl) (by kernel_rfl)) (.nil))))) (.cons (.c1 (.agg (.cons (.arr rfl rfl ((rfl).trans (List.length_map ..).symm)) (.cons (.same _ (by kernel_rfl) (by kernel_rfl)) (.nil))))) (.nil))) (by kernel_rfl) trivial, trivial⟩ ?_
            refine AX.ret ?_
            refine fin_wk (Wk.forget [2] [] (s' := ⟨[(2, .v (.bool (x3.2.2 == x4.2.2)))], []⟩) (by kernel_rfl)) ?_
            have hr := Option.some.inj h
            subst hr
            exact ⟨_, Wk.refl _, .inr rfl, ⟨[], by kernel_rfl, trivial, [.v (.bool (x3.2.2 == x4.2.2))], by kernel_rfl, by kernel_rfl⟩⟩
          · replace h := cd_f b14 h
            refine AX.reg (its := [.auto {}, .auto {}, .call 17 [.agg [.sl 1 0 x3.1.length, .v (.int .i64 x3.2.1)], .agg [.sl 3 0 x4.1.length, .v (.int .i64 x4.2.1)]] (handO (rho ([] ++ [])) [] [] ++ [(1, .arr 2 (List.map enc_si x3.1)), (3, .arr 2 (List.map enc_si x4.1))]) (callEv [] [] (.v (.bool false)) [])]) [2] [] (s1 := ⟨[(2, .v (.bool false))], []⟩) (C := ((([.agg [.sl 1 0 x3.1.length, .v (.int .i64 x3.2.1)], .agg [.sl 3 0 x4.1.length, .v (.int .i64 x4.2.1)]] : List AV) = [.agg [.sl 1 0 x3.1.length, .v (.int .i64 x3.2.1)], .agg [.sl 3 0 x4.1.length, .v (.int .i64 x4.2.1)]]) ∧ (AO.arr 2 (List.map enc_si x3.1) = AO.arr 2 (List.map enc_si x3.1)) ∧ (AO.arr 2 (List.map enc_si x4.1) = AO.arr 2 (List.map enc_si x4.1)) ∧ True) ∧ True) (by kernel_rfl) ⟨⟨rfl, rfl, rfl, trivial⟩, trivial⟩ ⟨call_ok (ks := []) (ns := []) (bor := [1, 3]) (bobjs := [(1, .arr 2 (List.map enc_si x3.1)), (3, .arr 2 (List.map enc_si x4.1))]) (show Eng.Spec Try.prog 17 [.agg [.bs false 2 (List.map enc_si x3.1), .v (.int .i64 x3.2.1)], .agg [.bs false 2 (List.map enc_si x4.1), .v (.int .i64 x4.2.1)]] [] (.v (.bool false)) [] from by have q := s_laws_equalFlag x3.1 x3.2.1 x4.1 x4.2.1 x8 e13; rw [b14] at q; exact q) (.cons (.c1 (.agg (.cons (.arr rfl rfl ((rfl).trans (List.length_map ..).symm)) (.cons (.same _ (by kernel_rfl) (by kernel_rfl)) (.nil))))) (.cons (.c1 (.agg (.cons (.arr rfl rfl ((rfl).trans (List.length_map ..).symm)) (.cons (.same _ (by kernel_rfl) (by kernel_rfl)) (.nil))))) (.nil))) (by kernel_rfl) trivial, trivial⟩ ?_
            refine AX.ret ?_
            refine fin_wk (Wk.forget [2] [] (s' := ⟨[(2, .v (.bool false))], []⟩) (by kernel_rfl)) ?_
            have hr := Option.some.inj h
            subst hr
            exact ⟨_, Wk.refl _, .inr rfl, ⟨[], by kernel_rfl, trivial, [.v (.bool false)], by kernel_rfl, by kernel_rfl⟩⟩
        · replace h := cd_f b12 h
          refine AX.condF ((!x3.2.2)) (by kernel_rfl) b12 ?_
          refine AX.skip ?_
          refine AX.seq ?_
          refine AX.seq ?_
          refine AX.reg (its := []) [3, 4, 5, 9] [0, 1, 2] (s1 := ⟨[(3, .sl 0 0 x2.1.length), (4, .v (.int .i64 x2.2)), (5, .pt 2 0), (9, .v (.int .i64 0))], [(0, .arr 3 (List.map enc_sbi x2.1)), (1, .arr 2 (List.map enc_si x3.1)), (2, .box [.sl 1 0 x3.1.length, .v (.int .i64 x3.2.1)])]⟩) (C := True) (by kernel_rfl) trivial trivial ?_
          refine AX.block ?_
          obtain ⟨x30, e54, h⟩ := bd_e h
          refine AX.wk (Wk.swap 1 2 (Nat.le_of_ble_eq_true (by kernel_rfl)) (Nat.le_of_ble_eq_true (by kernel_rfl)) rfl) ?_
          refine AX.wk (Wk.forget [3, 4, 5, 9] [0, 1, 2] (s' := ⟨[(3, .sl 0 0 x2.1.length), (4, .v (.int .i64 x2.2)), (5, .pt 1 0), (9, .v (.int .i64 0))], [(0, .arr 3 (List.map enc_sbi x2.1)), (1, .box [.sl 2 0 x3.1.length, .v (.int .i64 x3.2.1)]), (2, .arr 2 (List.map enc_si x3.1))]⟩) (by kernel_rfl)) ?_
          refine AX.mono (s_laws_FnBuildFlag_L1 x2 x3 FU 0 x30 e54) ?_
          rintro _ _ (⟨x31, rfl, rfl, rfl⟩ | ⟨x32, rfl, rfl, rfl⟩)
          · replace h := sm_l h
            refine fin_wk (Wk.forget [2] [] (s' := ⟨[(2, .v (.bool false))], []⟩) (by kernel_rfl)) ?_
            have hr := Option.some.inj h
            subst hr
            exact ⟨_, Wk.refl _, .inr rfl, ⟨[], by kernel_rfl, trivial, [.v (.bool false)], by kernel_rfl, by kernel_rfl⟩⟩
          · replace h := sm_r h
            refine AX.seq ?_
            obtain ⟨x33, e55, h⟩ := bd_e h
            rcases bool_cases (x33) with b56 | b56
            · replace h := cd_t b56 h
              refine AX.reg (its := [.auto {}, .call 20 [.agg [.sl 1 0 x3.1.length, .v (.int .i64 x3.2.1)]] (handO (rho ([] ++ [])) [] [] ++ [(1, .arr 2 (List.map enc_si x3.1))]) (callEv [] [] (.v (.bool true)) [])]) [2] [] (s1 := ⟨[(2, .v (.bool (decide (x3.2.1 = x2.2))))], []⟩) (C := ((([.agg [.sl 1 0 x3.1.length, .v (.int .i64 x3.2.1)]] : List AV) = [.agg [.sl 1 0 x3.1.length, .v (.int .i64 x3.2.1)]]) ∧ (AO.arr 2 (List.map enc_si x3.1) = AO.arr 2 (List.map enc_si x3.1)) ∧ True) ∧ True) (by kernel_rfl) ⟨⟨rfl, rfl, trivial⟩, trivial⟩ ⟨call_ok (ks := []) (ns := []) (bor := [1]) (bobjs := [(1, .arr 2 (List.map enc_si x3.1))]) (show Eng.Spec Try.prog 20 [.agg [.bs false 2 (List.map enc_si x3.1), .v (.int .i64 x3.2.1)]] [] (.v (.bool true)) [] from by have q := s_impl_ValidFlag x3.1 x3.2.1 x33 e55; rw [b56] at q; exact q) (.cons (.c1 (.agg (.cons (.arr rfl rfl ((rfl).trans (List.length_map ..).symm)) (.cons (.same _ (by kernel_rfl) (by kernel_rfl)) (.nil))))) (.nil)) (by kernel_rfl) trivial, trivial⟩ ?_
              refine AX.ret ?_
              refine fin_wk (Wk.forget [2] [] (s' := ⟨[(2, .v (.bool (decide (x3.2.1 = x2.2))))], []⟩) (by kernel_rfl)) ?_
              have hr := Option.some.inj h
              subst hr
              exact ⟨_, Wk.refl _, .inr rfl, ⟨[], by kernel_rfl, trivial, [.v (.bool (decide (x3.2.1 = x2.2)))], by kernel_rfl, by kernel_rfl⟩⟩
            · replace h := cd_f b56 h
              refine AX.reg (its := [.auto {}, .call 20 [.agg [.sl 1 0 x3.1.length, .v (.int .i64 x3.2.1)]] (handO (rho ([] ++ [])) [] [] ++ [(1, .arr 2 (List.map enc_si x3.1))]) (callEv [] [] (.v (.bool false)) [])]) [2] [] (s1 := ⟨[(2, .v (.bool false))], []⟩) (C := ((([.agg [.sl 1 0 x3.1.length, .v (.int .i64 x3.2.1)]] : List AV) = [.agg [.sl 1 0 x3.1.length, .v (.int .i64 x3.2.1)]]) ∧ (AO.arr 2 (List.map enc_si x3.1) = AO.arr 2 (List.map enc_si x3.1)) ∧ True) ∧ True) (by kernel_rfl) ⟨⟨rfl, rfl, trivial⟩, trivial⟩ ⟨call_ok (ks := []) (ns := []) (bor := [1]) (bobjs := [(1, .arr 2 (List.map enc_si x3.1))]) (show Eng.Spec Try.prog 20 [.agg [.bs false 2 (List.map enc_si x3.1), .v (.int .i64 x3.2.1)]] [] (.v (.bool false)) [] from by have q := s_impl_ValidFlag x3.1 x3.2.1 x33 e55; rw [b56] at q; exact q) (.cons (.c1 (.agg (.cons (.arr rfl rfl ((rfl).trans (List.length_map ..).symm)) (.cons (.same _ (by kernel_rfl) (by kernel_rfl)) (.nil))))) (.nil)) (by kernel_rfl) trivial, trivial⟩ ?_
              refine AX.ret ?_
              refine fin_wk (Wk.forget [2] [] (s' := ⟨[(2, .v (.bool false))], []⟩) (by kernel_rfl)) ?_
              have hr := Option.some.inj h
              subst hr
              exact ⟨_, Wk.refl _, .inr rfl, ⟨[], by kernel_rfl, trivial, [.v (.bool false)], by kernel_rfl, by kernel_rfl⟩⟩

end Go.Eng
