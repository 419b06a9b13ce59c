/- What is proved here: each function keeps to its model, whatever its arguments, wherever the model has an answer. Printed by gen.py. -/
import Derived.Test.YtehcdfddbnhniaaCSetOfWalk2
import Derived.Test.YtehcdfddbnhniaaProg
import Derived.KernelRfl
set_option linter.unusedVariables false
namespace Go.Eng
open Go Go.Proofs


theorem s_spec_both (p1 : Int) (p2 : Int) (r : Int) (h : m_spec_both p1 p2 = some r) :
    Eng.Spec Try.prog 142 [.v (.int .i64 p1), .v (.int .i64 p2)] [] (.v (.int .i64 r)) [] := by
  unfold m_spec_both at h
  refine Eng.Spec.body Try.func142 (by kernel_rfl) rfl (by kernel_rfl) ?_
  refine AX.wkpost ?_
  refine AX.seq ?_
  refine AX.reg (its := []) [0, 1] [] (s1 := ⟨[(0, .v (.int .i64 p1)), (1, .v (.int .i64 p2))], []⟩) (C := True) (by kernel_rfl) trivial trivial ?_
  refine AX.seq ?_
  refine AX.reg (its := []) [0, 1, 5] [] (s1 := ⟨[(0, .v (.int .i64 p1)), (1, .v (.int .i64 p2)), (5, .v (.int .i64 0))], []⟩) (C := True) (by kernel_rfl) trivial trivial ?_
  refine AX.seq ?_
  refine AX.seq ?_
  refine AX.reg (its := []) [0, 1, 5, 6] [] (s1 := ⟨[(0, .v (.int .i64 p1)), (1, .v (.int .i64 p2)), (5, .v (.int .i64 0)), (6, .v (.int .i64 1))], []⟩) (C := True) (by kernel_rfl) trivial trivial ?_
  refine AX.block ?_
  obtain ⟨x5, e7, h⟩ := bd_e h
  refine AX.wk (Wk.forget [0, 1, 5, 6] [] (s' := ⟨[(0, .v (.int .i64 p1)), (1, .v (.int .i64 p2)), (5, .v (.int .i64 0)), (6, .v (.int .i64 1))], []⟩) (by kernel_rfl)) ?_
  refine AX.mono (s_spec_both_L1 p1 p2 FU (0, 1) x5 e7) ?_
  rintro _ _ ⟨rfl, rfl⟩
  skip
  refine AX.seq ?_
  refine AX.reg (its := []) [4] [] (s1 := ⟨[(4, .v (.int .i64 x5))], []⟩) (C := True) (by kernel_rfl) trivial trivial ?_
  refine AX.ret ?_
  refine fin_wk (Wk.forget [4] [] (s' := ⟨[(4, .v (.int .i64 x5))], []⟩) (by kernel_rfl)) ?_
  have hr := Option.some.inj h
  subst hr
  exact ⟨_, Wk.refl _, .inr rfl, ⟨[], by kernel_rfl, trivial, [.v (.int .i64 x5)], by kernel_rfl, by kernel_rfl⟩⟩

theorem s_spec_either (p1 : Int) (p2 : Int) (r : Int) (h : m_spec_either p1 p2 = some r) :
    Eng.Spec Try.prog 141 [.v (.int .i64 p1), .v (.int .i64 p2)] [] (.v (.int .i64 r)) [] := by
  unfold m_spec_either at h
  refine Eng.Spec.body Try.func141 (by kernel_rfl) rfl (by kernel_rfl) ?_
  refine AX.wkpost ?_
  refine AX.seq ?_
  refine AX.reg (its := []) [0, 1] [] (s1 := ⟨[(0, .v (.int .i64 p1)), (1, .v (.int .i64 p2))], []⟩) (C := True) (by kernel_rfl) trivial trivial ?_
  refine AX.seq ?_
  obtain ⟨x3, e1, h⟩ := bd_e h
  refine AX.reg (its := [.auto {}, .auto {}, .auto { raw := true }, .auto {}, .auto {}, .call 142 [.v (.int .i64 p1), .v (.int .i64 p2)] (handO (rho ([] ++ [])) [] [] ++ []) (callEv [] [] (.v (.int .i64 x3)) []), .auto { raw := true }]) [4] [] (s1 := ⟨[(4, .v (.int .i64 (IntKind.wrap .i64 ((IntKind.wrap .i64 (p1 + p2)) - x3))))], []⟩) (C := ((([.v (.int .i64 p1), .v (.int .i64 p2)] : List AV) = [.v (.int .i64 p1), .v (.int .i64 p2)]) ∧ True) ∧ True) (by kernel_rfl) ⟨⟨rfl, trivial⟩, trivial⟩ ⟨call_ok (ks := []) (ns := []) (bor := []) (bobjs := []) (s_spec_both p1 p2 x3 e1) (.cons (.c1 (.c0 (.same _ (by kernel_rfl) (by kernel_rfl)))) (.cons (.c1 (.c0 (.same _ (by kernel_rfl) (by kernel_rfl)))) (.nil))) (by kernel_rfl) trivial, trivial⟩ ?_
  refine AX.ret ?_
  refine fin_wk (Wk.forget [4] [] (s' := ⟨[(4, .v (.int .i64 (IntKind.wrap .i64 ((IntKind.wrap .i64 (p1 + p2)) - x3))))], []⟩) (by kernel_rfl)) ?_
  have hr := Option.some.inj h
  subst hr
  exact ⟨_, Wk.refl _, .inr rfl, ⟨[], by kernel_rfl, trivial, [.v (.int .i64 (IntKind.wrap .i64 ((IntKind.wrap .i64 (p1 + p2)) - x3)))], by kernel_rfl, by kernel_rfl⟩⟩

theorem s_spec_FromNames_L1 (p1 : List (ByteArray × Int)) (p2 : Int) (p3 : List (ByteArray)) (n : Nat) (g : Int × Int) (out : Unit ⊕ Int) (h : m_spec_FromNames_L1 p1 p2 p3 n g.1 g.2 = some out) :
    AX Try.prog 36 0 (codeAt [1, 1, 1, 0, 1, 1] (bodyOf Try.f115)) ((fun g : Int × Int => (⟨[(1, .bs false 1 (List.map enc_s p3)), (2, .pt 0 0), (6, .v (.int .i64 g.1)), (7, .v (.int .i64 g.2))], [(0, .box [.bs false 2 (List.map enc_si p1), .v (.int .i64 p2)])]⟩ : S)) g) (fun ex s => (∃ o : Unit, out = Sum.inl o ∧ ex = .ret ∧ s = ⟨[(4, .v (.int .i64 0)), (5, .v (.bool false))], []⟩) ∨ (∃ o : Int, out = Sum.inr o ∧ ex = .exit 0 ∧ s = ⟨[(6, .v (.int .i64 o))], []⟩)) := by
  refine AX.wkpost ?_
  refine AX.loop (G := Nat × (Int × Int)) (fun q => (fun g : Int × Int => (⟨[(1, .bs false 1 (List.map enc_s p3)), (2, .pt 0 0), (6, .v (.int .i64 g.1)), (7, .v (.int .i64 g.2))], [(0, .box [.bs false 2 (List.map enc_si p1), .v (.int .i64 p2)])]⟩ : S)) q.2) (fun q => m_spec_FromNames_L1 p1 p2 p3 q.1 q.2.1 q.2.2 = some out) (fun q => q.1) (n, g) h (Wk.refl _) ?_
  clear h
  rintro ⟨fu, v5, v6⟩ h
  cases fu with
  | zero => cases h
  | succ fu =>
    rw [m_spec_FromNames_L1] at h
    refine AX.seq ?_
    refine AX.seq ?_
    refine AX.reg (its := [.auto {}, .auto {}, .auto { y := some (.v (.int .i64 (p3.length : Int))) }]) [1, 2, 6, 7, 15] [0] (s1 := ⟨[(1, .bs false 1 (List.map enc_s p3)), (2, .pt 0 0), (6, .v (.int .i64 v5)), (7, .v (.int .i64 v6)), (15, .v (.bool (decide (v6 < (p3.length : Int)))))], [(0, .box [.bs false 2 (List.map enc_si p1), .v (.int .i64 p2)])]⟩) (C := (True ∧ (AV.v (.int .i64 ((List.map enc_s p3).length : Int)) = AV.v (.int .i64 (p3.length : Int)))) ∧ True) (by kernel_rfl) ⟨⟨trivial, len_map enc_s p3⟩, trivial⟩ trivial ?_
    rcases bool_cases (decide (v6 < (p3.length : Int))) with b3 | b3
    · replace h := cd_t b3 h
      refine AX.condT (decide (v6 < (p3.length : Int))) (by kernel_rfl) b3 ?_
      refine AX.skip ?_
      refine AX.seq ?_
      refine AX.block ?_
      refine AX.seq ?_
      obtain ⟨g4, h⟩ := gd_e h
      obtain ⟨x7, e5, h⟩ := bd_e h
      refine AX.drw mixed (its := [.auto {}, .auto {}, .auto {}, .auto {}, .auto { y := some (.be 1 (enc_s (gt p3 v6)) 0) }, .auto {}, .call 161 [.bs false 2 (List.map enc_si p1), .v (.string (gt p3 v6))] (handO (rho ([] ++ [])) [] [] ++ []) (callEv [] [] (.v (.int .i64 x7)) [])]) [1, 2, 6, 7, 8] [0] (s1 := ⟨[(1, .bs false 1 (List.map enc_s p3)), (2, .pt 0 0), (6, .v (.int .i64 v5)), (7, .v (.int .i64 v6)), (8, .v (.int .i64 x7))], [(0, .box [.bs false 2 (List.map enc_si p1), .v (.int .i64 p2)])]⟩) (C := ((0 ≤ v6 ∧ v6 < ((List.map enc_s p3).length : Int)) ∧ (AV.be 1 ((List.map enc_s p3).getD v6.toNat []) 0 = AV.be 1 (enc_s (gt p3 v6)) 0)) ∧ ((([.bs false 2 (List.map enc_si p1), .v (.string (gt p3 v6))] : List AV) = [.bs false 2 (List.map enc_si p1), .v (.string (gt p3 v6))]) ∧ True) ∧ True) (by kernel_rfl) ⟨idx_bs enc_s p3 v6 1 g4, ⟨⟨rfl, trivial⟩, trivial⟩⟩ ⟨call_ok (ks := []) (ns := []) (bor := []) (bobjs := []) (s_spec_indexOf p1 (gt p3 v6) x7 e5) (.cons (.c1 (.c0 (.same _ (by kernel_rfl) (by kernel_rfl)))) (.cons (.c1 (.c0 (.same _ (by kernel_rfl) (by kernel_rfl)))) (.nil))) (by kernel_rfl) trivial, trivial⟩ ?_
      refine AX.seq ?_
      refine AX.seq ?_
      refine AX.reg (its := []) [1, 2, 6, 7, 8, 26] [0] (s1 := ⟨[(1, .bs false 1 (List.map enc_s p3)), (2, .pt 0 0), (6, .v (.int .i64 v5)), (7, .v (.int .i64 v6)), (8, .v (.int .i64 x7)), (26, .v (.bool (decide (x7 < 0))))], [(0, .box [.bs false 2 (List.map enc_si p1), .v (.int .i64 p2)])]⟩) (C := True) (by kernel_rfl) trivial trivial ?_
      rcases bool_cases (decide (x7 < 0)) with b6 | b6
      · replace h := cd_t b6 h
        refine AX.condT (decide (x7 < 0)) (by kernel_rfl) b6 ?_
        refine AX.seq ?_
        refine AX.reg (its := []) [4, 5] [] (s1 := ⟨[(4, .v (.int .i64 0)), (5, .v (.bool false))], []⟩) (C := True) (by kernel_rfl) trivial trivial ?_
        refine AX.ret ?_
        refine fin_wk (Wk.forget [4, 5] [] (s' := ⟨[(4, .v (.int .i64 0)), (5, .v (.bool false))], []⟩) (by kernel_rfl)) ?_
        have hr := Option.some.inj h
        subst hr
        exact ⟨_, Wk.refl _, .inl ⟨(), rfl, rfl, rfl⟩⟩
      · replace h := cd_f b6 h
        refine AX.condF (decide (x7 < 0)) (by kernel_rfl) b6 ?_
        refine AX.skip ?_
        obtain ⟨g7, h⟩ := gd_e h
        obtain ⟨x8, e8, h⟩ := bd_e h
        refine AX.reg (its := [.auto {}, .auto {}, .auto {}, .auto {}, .auto { y := some (.be 2 (enc_si (gt p1 x7)) 0) }, .auto {}, .auto {}, .call 141 [.v (.int .i64 v5), .v (.int .i64 ((gt p1 x7).2))] (handO (rho ([] ++ [])) [] [] ++ []) (callEv [] [] (.v (.int .i64 x8)) [])]) [1, 2, 6, 7] [0] (s1 := ⟨[(1, .bs false 1 (List.map enc_s p3)), (2, .pt 0 0), (6, .v (.int .i64 x8)), (7, .v (.int .i64 v6))], [(0, .box [.bs false 2 (List.map enc_si p1), .v (.int .i64 p2)])]⟩) (C := ((0 ≤ x7 ∧ x7 < ((List.map enc_si p1).length : Int)) ∧ (AV.be 2 ((List.map enc_si p1).getD x7.toNat []) 0 = AV.be 2 (enc_si (gt p1 x7)) 0)) ∧ ((([.v (.int .i64 v5), .v (.int .i64 ((gt p1 x7).2))] : List AV) = [.v (.int .i64 v5), .v (.int .i64 ((gt p1 x7).2))]) ∧ True) ∧ True) (by kernel_rfl) ⟨idx_bs enc_si p1 x7 2 g7, ⟨⟨rfl, trivial⟩, trivial⟩⟩ ⟨call_ok (ks := []) (ns := []) (bor := []) (bobjs := []) (s_spec_either v5 ((gt p1 x7).2) x8 e8) (.cons (.c1 (.c0 (.same _ (by kernel_rfl) (by kernel_rfl)))) (.cons (.c1 (.c0 (.same _ (by kernel_rfl) (by kernel_rfl)))) (.nil))) (by kernel_rfl) trivial, trivial⟩ ?_
        refine AX.reg (its := [.auto {}, .auto { raw := true }]) [1, 2, 6, 7] [0] (s1 := ⟨[(1, .bs false 1 (List.map enc_s p3)), (2, .pt 0 0), (6, .v (.int .i64 x8)), (7, .v (.int .i64 (IntKind.wrap .i64 (v6 + 1))))], [(0, .box [.bs false 2 (List.map enc_si p1), .v (.int .i64 p2)])]⟩) (C := True) (by kernel_rfl) trivial trivial ?_
        refine ⟨(fu, (x8, IntKind.wrap .i64 (v6 + 1))), h, Nat.lt_succ_self _, ?_⟩
        refine Wk.trans (Wk.forget [1, 2, 6, 7] [0] (s' := ⟨[(1, .bs false 1 (List.map enc_s p3)), (2, .pt 0 0), (6, .v (.int .i64 x8)), (7, .v (.int .i64 (IntKind.wrap .i64 (v6 + 1))))], [(0, .box [.bs false 2 (List.map enc_si p1), .v (.int .i64 p2)])]⟩) (by kernel_rfl)) ?_
        exact Wk.refl _
    · replace h := cd_f b3 h
      refine AX.condF (decide (v6 < (p3.length : Int))) (by kernel_rfl) b3 ?_
      refine AX.exit ?_
      refine fin_wk (Wk.forget [6] [] (s' := ⟨[(6, .v (.int .i64 v5))], []⟩) (by kernel_rfl)) ?_
      have hr := Option.some.inj h
      subst hr
      exact ⟨_, Wk.refl _, .inr ⟨v5, rfl, rfl, rfl⟩⟩

theorem s_spec_FromNames (p1 : List (ByteArray × Int)) (p2 : Int) (p3 : List (ByteArray)) (r : Int × Bool) (h : m_spec_FromNames p1 p2 p3 = some r) :
    Eng.Spec Try.prog 115 [.agg [.bs false 2 (List.map enc_si p1), .v (.int .i64 p2)], .bs false 1 (List.map enc_s p3)] [] (.tup [.v (.int .i64 r.1), .v (.bool r.2)]) [] := by
  unfold m_spec_FromNames at h
  refine Eng.Spec.body Try.func115 (by kernel_rfl) rfl (by kernel_rfl) ?_
  refine AX.wkpost ?_
  refine AX.seq ?_
  refine AX.reg (its := [.auto { nk := 0 }]) [1, 2] [0] (s1 := ⟨[(1, .bs false 1 (List.map enc_s p3)), (2, .pt 0 0)], [(0, .box [.bs false 2 (List.map enc_si p1), .v (.int .i64 p2)])]⟩) (C := True) (by kernel_rfl) trivial trivial ?_
  refine AX.seq ?_
  refine AX.seq ?_
  obtain ⟨x4, e1, h⟩ := bd_e h
  refine AX.reg (its := [.auto {}, .call 74 [.agg [.bs false 2 (List.map enc_si p1), .v (.int .i64 p2)]] (handO (rho ([] ++ [])) [] [] ++ []) (callEv [] [] (.v (.bool x4)) [])]) [1, 2, 11] [0] (s1 := ⟨[(1, .bs false 1 (List.map enc_s p3)), (2, .pt 0 0), (11, .v (.bool (!x4)))], [(0, .box [.bs false 2 (List.map enc_si p1), .v (.int .i64 p2)])]⟩) (C := ((([.agg [.bs false 2 (List.map enc_si p1), .v (.int .i64 p2)]] : List AV) = [.agg [.bs false 2 (List.map enc_si p1), .v (.int .i64 p2)]]) ∧ True) ∧ True) (by kernel_rfl) ⟨⟨rfl, trivial⟩, trivial⟩ ⟨call_ok (ks := []) (ns := []) (bor := []) (bobjs := []) (s_spec_validFlag p1 p2 x4 e1) (.cons (.c1 (.agg (.cons (.same _ (by kernel_rfl) (by kernel_rfl)) (.cons (.same _ (by kernel_rfl) (by kernel_rfl)) (.nil))))) (.nil)) (by kernel_rfl) trivial, trivial⟩ ?_
  rcases bool_cases ((!x4)) with b2 | b2
  · replace h := cd_t b2 h
    refine AX.condT ((!x4)) (by kernel_rfl) b2 ?_
    refine AX.seq ?_
    refine AX.reg (its := []) [4, 5] [] (s1 := ⟨[(4, .v (.int .i64 0)), (5, .v (.bool false))], []⟩) (C := True) (by kernel_rfl) trivial trivial ?_
    refine AX.ret ?_
    refine fin_wk (Wk.forget [4, 5] [] (s' := ⟨[(4, .v (.int .i64 0)), (5, .v (.bool false))], []⟩) (by kernel_rfl)) ?_
    have hr := Option.some.inj h
    subst hr
    exact ⟨_, Wk.refl _, .inr rfl, ⟨[], by kernel_rfl, trivial, [.v (.int .i64 0), .v (.bool false)], by kernel_rfl, by kernel_rfl⟩⟩
  · replace h := cd_f b2 h
    refine AX.condF ((!x4)) (by kernel_rfl) b2 ?_
    refine AX.skip ?_
    refine AX.seq ?_
    refine AX.reg (its := []) [1, 2, 6] [0] (s1 := ⟨[(1, .bs false 1 (List.map enc_s p3)), (2, .pt 0 0), (6, .v (.int .i64 0))], [(0, .box [.bs false 2 (List.map enc_si p1), .v (.int .i64 p2)])]⟩) (C := True) (by kernel_rfl) trivial trivial ?_
    refine AX.seq ?_
    refine AX.seq ?_
    refine AX.reg (its := []) [1, 2, 6, 7] [0] (s1 := ⟨[(1, .bs false 1 (List.map enc_s p3)), (2, .pt 0 0), (6, .v (.int .i64 0)), (7, .v (.int .i64 0))], [(0, .box [.bs false 2 (List.map enc_si p1), .v (.int .i64 p2)])]⟩) (C := True) (by kernel_rfl) trivial trivial ?_
    refine AX.block ?_
    obtain ⟨x9, e9, h⟩ := bd_e h
    refine AX.wk (Wk.forget [1, 2, 6, 7] [0] (s' := ⟨[(1, .bs false 1 (List.map enc_s p3)), (2, .pt 0 0), (6, .v (.int .i64 0)), (7, .v (.int .i64 0))], [(0, .box [.bs false 2 (List.map enc_si p1), .v (.int .i64 p2)])]⟩) (by kernel_rfl)) ?_
    refine AX.mono (s_spec_FromNames_L1 p1 p2 p3 FU (0, 0) x9 e9) ?_
    rintro _ _ (⟨x10, rfl, rfl, rfl⟩ | ⟨x11, rfl, rfl, rfl⟩)
    · replace h := sm_l h
      refine fin_wk (Wk.forget [4, 5] [] (s' := ⟨[(4, .v (.int .i64 0)), (5, .v (.bool false))], []⟩) (by kernel_rfl)) ?_
      have hr := Option.some.inj h
      subst hr
      exact ⟨_, Wk.refl _, .inr rfl, ⟨[], by kernel_rfl, trivial, [.v (.int .i64 0), .v (.bool false)], by kernel_rfl, by kernel_rfl⟩⟩
    · replace h := sm_r h
      refine AX.seq ?_
      refine AX.reg (its := []) [4, 5] [] (s1 := ⟨[(4, .v (.int .i64 x11)), (5, .v (.bool true))], []⟩) (C := True) (by kernel_rfl) trivial trivial ?_
      refine AX.ret ?_
      refine fin_wk (Wk.forget [4, 5] [] (s' := ⟨[(4, .v (.int .i64 x11)), (5, .v (.bool true))], []⟩) (by kernel_rfl)) ?_
      have hr := Option.some.inj h
      subst hr
      exact ⟨_, Wk.refl _, .inr rfl, ⟨[], by kernel_rfl, trivial, [.v (.int .i64 x11), .v (.bool true)], by kernel_rfl, by kernel_rfl⟩⟩

theorem s_spec_SetOf (p1 : List (ByteArray × Int)) (p2 : List (ByteArray)) (r : Int × Bool) (h : m_spec_SetOf p1 p2 = some r) :
    Eng.Spec Try.prog 43 [.agg [.bs false 2 (List.map enc_si p1)], .bs false 1 (List.map enc_s p2)] [] (.tup [.v (.int .i64 r.1), .v (.bool r.2)]) [] := by
  unfold m_spec_SetOf at h
  refine Eng.Spec.body Try.func43 (by kernel_rfl) rfl (by kernel_rfl) ?_
  refine AX.wkpost ?_
  refine AX.seq ?_
  refine AX.reg (its := [.auto { nk := 0 }]) [1, 2] [0] (s1 := ⟨[(1, .bs false 1 (List.map enc_s p2)), (2, .pt 0 0)], [(0, .box [.bs false 2 (List.map enc_si p1)])]⟩) (C := True) (by kernel_rfl) trivial trivial ?_
  refine AX.seq ?_
  refine AX.seq ?_
  obtain ⟨x3, e1, h⟩ := bd_e h
  refine AX.reg (its := [.auto {}, .call 114 [.agg [.bs false 2 (List.map enc_si p1)]] (handO (rho ([] ++ [])) [] [] ++ []) (callEv [] [] (.v (.bool x3)) [])]) [1, 2, 8] [0] (s1 := ⟨[(1, .bs false 1 (List.map enc_s p2)), (2, .pt 0 0), (8, .v (.bool (!x3)))], [(0, .box [.bs false 2 (List.map enc_si p1)])]⟩) (C := ((([.agg [.bs false 2 (List.map enc_si p1)]] : List AV) = [.agg [.bs false 2 (List.map enc_si p1)]]) ∧ True) ∧ True) (by kernel_rfl) ⟨⟨rfl, trivial⟩, trivial⟩ ⟨call_ok (ks := []) (ns := []) (bor := []) (bobjs := []) (s_spec_validEnum p1 x3 e1) (.cons (.c1 (.agg (.cons (.same _ (by kernel_rfl) (by kernel_rfl)) (.nil)))) (.nil)) (by kernel_rfl) trivial, trivial⟩ ?_
  rcases bool_cases ((!x3)) with b2 | b2
  · replace h := cd_t b2 h
    refine AX.condT ((!x3)) (by kernel_rfl) b2 ?_
    refine AX.seq ?_
    refine AX.reg (its := []) [4, 5] [] (s1 := ⟨[(4, .v (.int .i64 0)), (5, .v (.bool false))], []⟩) (C := True) (by kernel_rfl) trivial trivial ?_
    refine AX.ret ?_
    refine fin_wk (Wk.forget [4, 5] [] (s' := ⟨[(4, .v (.int .i64 0)), (5, .v (.bool false))], []⟩) (by kernel_rfl)) ?_
    have hr := Option.some.inj h
    subst hr
    exact ⟨_, Wk.refl _, .inr rfl, ⟨[], by kernel_rfl, trivial, [.v (.int .i64 0), .v (.bool false)], by kernel_rfl, by kernel_rfl⟩⟩
  · replace h := cd_f b2 h
    refine AX.condF ((!x3)) (by kernel_rfl) b2 ?_
    refine AX.skip ?_
    refine AX.seq ?_
    obtain ⟨x4, e3, h⟩ := bd_e h
    obtain ⟨x5, e4, h⟩ := bd_e h
    refine AX.reg (its := [.auto {}, .call 116 [.agg [.bs false 2 (List.map enc_si p1)]] (handO (rho ([] ++ [1])) [] [] ++ []) (callEv [] [1] (.sl 0 0 x4.length) [.arr 2 (List.map enc_si x4)]), .auto {}, .auto {}, .call 115 [.agg [.sl 1 0 x4.length, .v (.int .i64 0)], .bs false 1 (List.map enc_s p2)] (handO (rho ([] ++ [])) [] [] ++ [(1, .arr 2 (List.map enc_si x4))]) (callEv [] [] (.tup [.v (.int .i64 x5.1), .v (.bool x5.2)]) [])]) [4, 5] [] (s1 := ⟨[(4, .v (.int .i64 x5.1)), (5, .v (.bool x5.2))], []⟩) (C := ((([.agg [.bs false 2 (List.map enc_si p1)]] : List AV) = [.agg [.bs false 2 (List.map enc_si p1)]]) ∧ True) ∧ ((([.agg [.sl 1 0 x4.length, .v (.int .i64 0)], .bs false 1 (List.map enc_s p2)] : List AV) = [.agg [.sl 1 0 x4.length, .v (.int .i64 0)], .bs false 1 (List.map enc_s p2)]) ∧ (AO.arr 2 (List.map enc_si x4) = AO.arr 2 (List.map enc_si x4)) ∧ True) ∧ True) (by kernel_rfl) ⟨⟨rfl, trivial⟩, ⟨⟨rfl, rfl, trivial⟩, trivial⟩⟩ ⟨call_ok (ks := []) (ns := [1]) (bor := []) (bobjs := []) (s_spec_rankDefs p1 x4 e3) (.cons (.c1 (.agg (.cons (.same _ (by kernel_rfl) (by kernel_rfl)) (.nil)))) (.nil)) (by kernel_rfl) trivial, ⟨call_ok (ks := []) (ns := []) (bor := [1]) (bobjs := [(1, .arr 2 (List.map enc_si x4))]) (s_spec_FromNames x4 0 p2 x5 e4) (.cons (.c1 (.agg (.cons (.arr rfl rfl ((rfl).trans (List.length_map ..).symm)) (.cons (.same _ (by kernel_rfl) (by kernel_rfl)) (.nil))))) (.cons (.c1 (.c0 (.same _ (by kernel_rfl) (by kernel_rfl)))) (.nil))) (by kernel_rfl) trivial, trivial⟩⟩ ?_
    refine AX.ret ?_
    refine fin_wk (Wk.forget [4, 5] [] (s' := ⟨[(4, .v (.int .i64 x5.1)), (5, .v (.bool x5.2))], []⟩) (by kernel_rfl)) ?_
    have hr := Option.some.inj h
    subst hr
    exact ⟨_, Wk.refl _, .inr rfl, ⟨[], by kernel_rfl, trivial, [.v (.int .i64 x5.1), .v (.bool x5.2)], by kernel_rfl, by kernel_rfl⟩⟩

theorem s_impl_Flag_mask_L1 (p1 : List (ByteArray × Int)) (n : Nat) (g : Int × Int) (out : Int) (h : m_impl_Flag_mask_L1 p1 n g.1 g.2 = some out) :
    AX Try.prog 19 0 (codeAt [1, 1, 0, 1, 1] (bodyOf Try.f81)) ((fun g : Int × Int => (⟨[(3, .v (.int .i64 g.1)), (7, .bs false 2 (List.map enc_si p1)), (8, .v (.int .i64 (p1.length : Int))), (9, .v (.int .i64 g.2))], []⟩ : S)) g) (fun ex s => ex = .exit 0 ∧ s = (fun o : Int => (⟨[(3, .v (.int .i64 o))], []⟩ : S)) out) := by
  refine AX.wkpost ?_
  refine AX.loop (G := Nat × (Int × Int)) (fun q => (fun g : Int × Int => (⟨[(3, .v (.int .i64 g.1)), (7, .bs false 2 (List.map enc_si p1)), (8, .v (.int .i64 (p1.length : Int))), (9, .v (.int .i64 g.2))], []⟩ : S)) q.2) (fun q => m_impl_Flag_mask_L1 p1 q.1 q.2.1 q.2.2 = some out) (fun q => q.1) (n, g) h (Wk.refl _) ?_
  clear h
  rintro ⟨fu, v3, v4⟩ h
  cases fu with
  | zero => cases h
  | succ fu =>
    rw [m_impl_Flag_mask_L1] at h
    refine AX.seq ?_
    refine AX.reg (its := []) [3, 7, 8, 9, 10] [] (s1 := ⟨[(3, .v (.int .i64 v3)), (7, .bs false 2 (List.map enc_si p1)), (8, .v (.int .i64 (p1.length : Int))), (9, .v (.int .i64 v4)), (10, .v (.bool (decide (v4 < (p1.length : Int)))))], []⟩) (C := True) (by kernel_rfl) trivial trivial ?_
    refine AX.seq ?_
    rcases bool_cases (decide (v4 < (p1.length : Int))) with b1 | b1
    · replace h := cd_t b1 h
      refine AX.condT (decide (v4 < (p1.length : Int))) (by kernel_rfl) b1 ?_
      refine AX.skip ?_
      refine AX.seq ?_
      refine AX.block ?_
      refine AX.seq ?_
      obtain ⟨g2, h⟩ := gd_e h
      refine AX.reg (its := [.auto { y := some (.be 2 (enc_si (gt p1 v4)) 0) }, .auto {}, .auto { nk := 0 }]) [3, 5, 7, 8, 9] [0] (s1 := ⟨[(3, .v (.int .i64 v3)), (5, .pt 0 0), (7, .bs false 2 (List.map enc_si p1)), (8, .v (.int .i64 (p1.length : Int))), (9, .v (.int .i64 v4))], [(0, .box [.v (.string ((gt p1 v4).1)), .v (.int .i64 ((gt p1 v4).2))])]⟩) (C := ((0 ≤ v4 ∧ v4 < ((List.map enc_si p1).length : Int)) ∧ (AV.be 2 ((List.map enc_si p1).getD v4.toNat []) 0 = AV.be 2 (enc_si (gt p1 v4)) 0)) ∧ True) (by kernel_rfl) ⟨idx_bs enc_si p1 v4 2 g2, trivial⟩ trivial ?_
      refine AX.reg (its := []) [3, 7, 8, 9] [] (s1 := ⟨[(3, .v (.int .i64 (Go.bits .or .i64 v3 ((gt p1 v4).2)))), (7, .bs false 2 (List.map enc_si p1)), (8, .v (.int .i64 (p1.length : Int))), (9, .v (.int .i64 v4))], []⟩) (C := True) (by kernel_rfl) trivial trivial ?_
      refine AX.reg (its := [.auto { raw := true }]) [3, 7, 8, 9] [] (s1 := ⟨[(3, .v (.int .i64 (Go.bits .or .i64 v3 ((gt p1 v4).2)))), (7, .bs false 2 (List.map enc_si p1)), (8, .v (.int .i64 (p1.length : Int))), (9, .v (.int .i64 (IntKind.wrap .i64 (v4 + 1))))], []⟩) (C := True) (by kernel_rfl) trivial trivial ?_
      refine ⟨(fu, (Go.bits .or .i64 v3 ((gt p1 v4).2), IntKind.wrap .i64 (v4 + 1))), h, Nat.lt_succ_self _, ?_⟩
      refine Wk.trans (Wk.forget [3, 7, 8, 9] [] (s' := ⟨[(3, .v (.int .i64 (Go.bits .or .i64 v3 ((gt p1 v4).2)))), (7, .bs false 2 (List.map enc_si p1)), (8, .v (.int .i64 (p1.length : Int))), (9, .v (.int .i64 (IntKind.wrap .i64 (v4 + 1))))], []⟩) (by kernel_rfl)) ?_
      exact Wk.refl _
    · replace h := cd_f b1 h
      refine AX.condF (decide (v4 < (p1.length : Int))) (by kernel_rfl) b1 ?_
      refine AX.exit ?_
      refine fin_wk (Wk.forget [3] [] (s' := ⟨[(3, .v (.int .i64 v3))], []⟩) (by kernel_rfl)) ?_
      have hr := Option.some.inj h
      subst hr
      exact ⟨_, Wk.refl _, ⟨rfl, rfl⟩⟩

theorem s_impl_Flag_mask (p1 : List (ByteArray × Int)) (p2 : Int) (r : Int) (h : m_impl_Flag_mask p1 p2 = some r) :
    Eng.Spec Try.prog 81 [.agg [.bs false 2 (List.map enc_si p1), .v (.int .i64 p2)]] [] (.v (.int .i64 r)) [] := by
  unfold m_impl_Flag_mask at h
  refine Eng.Spec.body Try.func81 (by kernel_rfl) rfl (by kernel_rfl) ?_
  refine AX.wkpost ?_
  refine AX.seq ?_
  refine AX.reg (its := [.auto { nk := 0 }]) [1] [0] (s1 := ⟨[(1, .pt 0 0)], [(0, .box [.bs false 2 (List.map enc_si p1), .v (.int .i64 p2)])]⟩) (C := True) (by kernel_rfl) trivial trivial ?_
  refine AX.seq ?_
  refine AX.reg (its := []) [1, 3] [0] (s1 := ⟨[(1, .pt 0 0), (3, .v (.int .i64 0))], [(0, .box [.bs false 2 (List.map enc_si p1), .v (.int .i64 p2)])]⟩) (C := True) (by kernel_rfl) trivial trivial ?_
  refine AX.seq ?_
  refine AX.seq ?_
  refine AX.reg (its := [.auto {}, .auto {}, .auto { y := some (.v (.int .i64 (p1.length : Int))) }]) [3, 7, 8, 9] [] (s1 := ⟨[(3, .v (.int .i64 0)), (7, .bs false 2 (List.map enc_si p1)), (8, .v (.int .i64 (p1.length : Int))), (9, .v (.int .i64 0))], []⟩) (C := (True ∧ (AV.v (.int .i64 ((List.map enc_si p1).length : Int)) = AV.v (.int .i64 (p1.length : Int)))) ∧ True) (by kernel_rfl) ⟨⟨trivial, len_map enc_si p1⟩, trivial⟩ trivial ?_
  refine AX.block ?_
  obtain ⟨x5, e3, h⟩ := bd_e h
  refine AX.wk (Wk.forget [3, 7, 8, 9] [] (s' := ⟨[(3, .v (.int .i64 0)), (7, .bs false 2 (List.map enc_si p1)), (8, .v (.int .i64 (p1.length : Int))), (9, .v (.int .i64 0))], []⟩) (by kernel_rfl)) ?_
  refine AX.mono (s_impl_Flag_mask_L1 p1 FU (0, 0) x5 e3) ?_
  rintro _ _ ⟨rfl, rfl⟩
  skip
  refine AX.seq ?_
  refine AX.reg (its := []) [2] [] (s1 := ⟨[(2, .v (.int .i64 x5))], []⟩) (C := True) (by kernel_rfl) trivial trivial ?_
  refine AX.ret ?_
  refine fin_wk (Wk.forget [2] [] (s' := ⟨[(2, .v (.int .i64 x5))], []⟩) (by kernel_rfl)) ?_
  have hr := Option.some.inj h
  subst hr
  exact ⟨_, Wk.refl _, .inr rfl, ⟨[], by kernel_rfl, trivial, [.v (.int .i64 x5)], by kernel_rfl, by kernel_rfl⟩⟩

theorem s_impl_IsValue (p1 : List (ByteArray × Int)) (p2 : Int) (p3 : Int) (r : Bool) (h : m_impl_IsValue p1 p2 p3 = some r) :
    Eng.Spec Try.prog 70 [.agg [.bs false 2 (List.map enc_si p1), .v (.int .i64 p2)], .v (.int .i64 p3)] [] (.v (.bool r)) [] := by
  unfold m_impl_IsValue at h
  refine Eng.Spec.body Try.func70 (by kernel_rfl) rfl (by kernel_rfl) ?_
  refine AX.wkpost ?_
  refine AX.seq ?_
  refine AX.reg (its := [.auto { nk := 0 }]) [1, 2] [0] (s1 := ⟨[(1, .v (.int .i64 p3)), (2, .pt 0 0)], [(0, .box [.bs false 2 (List.map enc_si p1), .v (.int .i64 p2)])]⟩) (C := True) (by kernel_rfl) trivial trivial ?_
  refine AX.seq ?_
  obtain ⟨x4, e1, h⟩ := bd_e h
  rcases bool_cases (x4) with b2 | b2
  · replace h := cd_t b2 h
    obtain ⟨x5, e3, h⟩ := bd_e h
    rcases bool_cases (x5) with b4 | b4
    · replace h := cd_t b4 h
      rcases bool_cases (decide (p2 = 3)) with b5 | b5
      · replace h := cd_t b5 h
        refine AX.reg (its := [.auto {}, .call 60 [.agg [.bs false 2 (List.map enc_si p1), .v (.int .i64 p2)]] (handO (rho ([] ++ [])) [] [] ++ []) (callEv [] [] (.v (.bool true)) []), .auto {}, .auto {}, .call 130 [.v (.int .i64 p3), .v (.int .i64 0), .v (.int .i64 4095)] (handO (rho ([] ++ [])) [] [] ++ []) (callEv [] [] (.v (.bool true)) []), .auto {}, .auto {}, .auto {}, .auto {}, .auto { y := some (.v (.bool true)) }]) [4] [] (s1 := ⟨[(4, .v (.bool true))], []⟩) (C := ((([.agg [.bs false 2 (List.map enc_si p1), .v (.int .i64 p2)]] : List AV) = [.agg [.bs false 2 (List.map enc_si p1), .v (.int .i64 p2)]]) ∧ True) ∧ ((([.v (.int .i64 p3), .v (.int .i64 0), .v (.int .i64 4095)] : List AV) = [.v (.int .i64 p3), .v (.int .i64 0), .v (.int .i64 4095)]) ∧ True) ∧ ((True) ∧ ((.v (.bool (decide (p2 = 3))) : AV) = (.v (.bool true) : AV))) ∧ True) (by kernel_rfl) ⟨⟨rfl, trivial⟩, ⟨⟨rfl, trivial⟩, ⟨⟨trivial, (congrArg (fun z => AV.v (.bool z)) b5)⟩, trivial⟩⟩⟩ ⟨call_ok (ks := []) (ns := []) (bor := []) (bobjs := []) (show Eng.Spec Try.prog 60 [.agg [.bs false 2 (List.map enc_si p1), .v (.int .i64 p2)]] [] (.v (.bool true)) [] from by have q := s_impl_ValidFlag p1 p2 x4 e1; rw [b2] at q; exact q) (.cons (.c1 (.agg (.cons (.same _ (by kernel_rfl) (by kernel_rfl)) (.cons (.same _ (by kernel_rfl) (by kernel_rfl)) (.nil))))) (.nil)) (by kernel_rfl) trivial, ⟨call_ok (ks := []) (ns := []) (bor := []) (bobjs := []) (show Eng.Spec Try.prog 130 [.v (.int .i64 p3), .v (.int .i64 0), .v (.int .i64 4095)] [] (.v (.bool true)) [] from by have q := s_impl_in p3 0 4095 x5 e3; rw [b4] at q; exact q) (.cons (.c1 (.c0 (.same _ (by kernel_rfl) (by kernel_rfl)))) (.cons (.c1 (.c0 (.same _ (by kernel_rfl) (by kernel_rfl)))) (.cons (.c1 (.c0 (.same _ (by kernel_rfl) (by kernel_rfl)))) (.nil)))) (by kernel_rfl) trivial, trivial⟩⟩ ?_
        refine AX.ret ?_
        refine fin_wk (Wk.forget [4] [] (s' := ⟨[(4, .v (.bool true))], []⟩) (by kernel_rfl)) ?_
        have hr := Option.some.inj h
        subst hr
        exact ⟨_, Wk.refl _, .inr rfl, ⟨[], by kernel_rfl, trivial, [.v (.bool true)], by kernel_rfl, by kernel_rfl⟩⟩
      · replace h := cd_f b5 h
        obtain ⟨x6, e6, h⟩ := bd_e h
        refine AX.reg (its := [.auto {}, .call 60 [.agg [.bs false 2 (List.map enc_si p1), .v (.int .i64 p2)]] (handO (rho ([] ++ [])) [] [] ++ []) (callEv [] [] (.v (.bool true)) []), .auto {}, .auto {}, .call 130 [.v (.int .i64 p3), .v (.int .i64 0), .v (.int .i64 4095)] (handO (rho ([] ++ [])) [] [] ++ []) (callEv [] [] (.v (.bool true)) []), .auto {}, .auto {}, .auto {}, .auto {}, .auto { y := some (.v (.bool false)) }, .auto {}, .auto {}, .auto {}, .call 81 [.agg [.bs false 2 (List.map enc_si p1), .v (.int .i64 p2)]] (handO (rho ([] ++ [])) [] [] ++ []) (callEv [] [] (.v (.int .i64 x6)) [])]) [4] [] (s1 := ⟨[(4, .v (.bool (decide ((Go.bits .andNot .i64 p3 x6) = 0))))], []⟩) (C := ((([.agg [.bs false 2 (List.map enc_si p1), .v (.int .i64 p2)]] : List AV) = [.agg [.bs false 2 (List.map enc_si p1), .v (.int .i64 p2)]]) ∧ True) ∧ ((([.v (.int .i64 p3), .v (.int .i64 0), .v (.int .i64 4095)] : List AV) = [.v (.int .i64 p3), .v (.int .i64 0), .v (.int .i64 4095)]) ∧ True) ∧ ((True) ∧ ((.v (.bool (decide (p2 = 3))) : AV) = (.v (.bool false) : AV))) ∧ ((([.agg [.bs false 2 (List.map enc_si p1), .v (.int .i64 p2)]] : List AV) = [.agg [.bs false 2 (List.map enc_si p1), .v (.int .i64 p2)]]) ∧ True) ∧ True) (by kernel_rfl) ⟨⟨rfl, trivial⟩, ⟨⟨rfl, trivial⟩, ⟨⟨trivial, (congrArg (fun z => AV.v (.bool z)) b5)⟩, ⟨⟨rfl, trivial⟩, trivial⟩⟩⟩⟩ ⟨call_ok (ks := []) (ns := []) (bor := []) (bobjs := []) (show Eng.Spec Try.prog 60 [.agg [.bs false 2 (List.map enc_si p1), .v (.int .i64 p2)]] [] (.v (.bool true)) [] from by have q := s_impl_ValidFlag p1 p2 x4 e1; rw [b2] at q; exact q) (.cons (.c1 (.agg (.cons (.same _ (by kernel_rfl) (by kernel_rfl)) (.cons (.same _ (by kernel_rfl) (by kernel_rfl)) (.nil))))) (.nil)) (by kernel_rfl) trivial, ⟨call_ok (ks := []) (ns := []) (bor := []) (bobjs := []) (show Eng.Spec Try.prog 130 [.v (.int .i64 p3), .v (.int .i64 0), .v (.int .i64 4095)] [] (.v (.bool true)) [] from by have q := s_impl_in p3 0 4095 x5 e3; rw [b4] at q; exact q) (.cons (.c1 (.c0 (.same _ (by kernel_rfl) (by kernel_rfl)))) (.cons (.c1 (.c0 (.same _ (by kernel_rfl) (by kernel_rfl)))) (.cons (.c1 (.c0 (.same _ (by kernel_rfl) (by kernel_rfl)))) (.nil)))) (by kernel_rfl) trivial, ⟨call_ok (ks := []) (ns := []) (bor := []) (bobjs := []) (s_impl_Flag_mask p1 p2 x6 e6) (.cons (.c1 (.agg (.cons (.same _ (by kernel_rfl) (by kernel_rfl)) (.cons (.same _ (by kernel_rfl) (by kernel_rfl)) (.nil))))) (.nil)) (by kernel_rfl) trivial, trivial⟩⟩⟩ ?_
        refine AX.ret ?_
        refine fin_wk (Wk.forget [4] [] (s' := ⟨[(4, .v (.bool (decide ((Go.bits .andNot .i64 p3 x6) = 0))))], []⟩) (by kernel_rfl)) ?_
        have hr := Option.some.inj h
        subst hr
        exact ⟨_, Wk.refl _, .inr rfl, ⟨[], by kernel_rfl, trivial, [.v (.bool (decide ((Go.bits .andNot .i64 p3 x6) = 0)))], by kernel_rfl, by kernel_rfl⟩⟩
    · replace h := cd_f b4 h
      refine AX.reg (its := [.auto {}, .call 60 [.agg [.bs false 2 (List.map enc_si p1), .v (.int .i64 p2)]] (handO (rho ([] ++ [])) [] [] ++ []) (callEv [] [] (.v (.bool true)) []), .auto {}, .auto {}, .call 130 [.v (.int .i64 p3), .v (.int .i64 0), .v (.int .i64 4095)] (handO (rho ([] ++ [])) [] [] ++ []) (callEv [] [] (.v (.bool false)) [])]) [4] [] (s1 := ⟨[(4, .v (.bool false))], []⟩) (C := ((([.agg [.bs false 2 (List.map enc_si p1), .v (.int .i64 p2)]] : List AV) = [.agg [.bs false 2 (List.map enc_si p1), .v (.int .i64 p2)]]) ∧ True) ∧ ((([.v (.int .i64 p3), .v (.int .i64 0), .v (.int .i64 4095)] : List AV) = [.v (.int .i64 p3), .v (.int .i64 0), .v (.int .i64 4095)]) ∧ True) ∧ True) (by kernel_rfl) ⟨⟨rfl, trivial⟩, ⟨⟨rfl, trivial⟩, trivial⟩⟩ ⟨call_ok (ks := []) (ns := []) (bor := []) (bobjs := []) (show Eng.Spec Try.prog 60 [.agg [.bs false 2 (List.map enc_si p1), .v (.int .i64 p2)]] [] (.v (.bool true)) [] from by have q := s_impl_ValidFlag p1 p2 x4 e1; rw [b2] at q; exact q) (.cons (.c1 (.agg (.cons (.same _ (by kernel_rfl) (by kernel_rfl)) (.cons (.same _ (by kernel_rfl) (by kernel_rfl)) (.nil))))) (.nil)) (by kernel_rfl) trivial, ⟨call_ok (ks := []) (ns := []) (bor := []) (bobjs := []) (show Eng.Spec Try.prog 130 [.v (.int .i64 p3), .v (.int .i64 0), .v (.int .i64 4095)] [] (.v (.bool false)) [] from by have q := s_impl_in p3 0 4095 x5 e3; rw [b4] at q; exact q) (.cons (.c1 (.c0 (.same _ (by kernel_rfl) (by kernel_rfl)))) (.cons (.c1 (.c0 (.same _ (by kernel_rfl) (by kernel_rfl)))) (.cons (.c1 (.c0 (.same _ (by kernel_rfl) (by kernel_rfl)))) (.nil)))) (by kernel_rfl) trivial, trivial⟩⟩ ?_
      refine AX.ret ?_
      refine fin_wk (Wk.forget [4] [] (s' := ⟨[(4, .v (.bool false))], []⟩) (by kernel_rfl)) ?_
      have hr := Option.some.inj h
      subst hr
      exact ⟨_, Wk.refl _, .inr rfl, ⟨[], by kernel_rfl, trivial, [.v (.bool false)], by kernel_rfl, by kernel_rfl⟩⟩
  · replace h := cd_f b2 h
    refine AX.reg (its := [.auto {}, .call 60 [.agg [.bs false 2 (List.map enc_si p1), .v (.int .i64 p2)]] (handO (rho ([] ++ [])) [] [] ++ []) (callEv [] [] (.v (.bool false)) [])]) [4] [] (s1 := ⟨[(4, .v (.bool false))], []⟩) (C := ((([.agg [.bs false 2 (List.map enc_si p1), .v (.int .i64 p2)]] : List AV) = [.agg [.bs false 2 (List.map enc_si p1), .v (.int .i64 p2)]]) ∧ True) ∧ True) (by kernel_rfl) ⟨⟨rfl, trivial⟩, trivial⟩ ⟨call_ok (ks := []) (ns := []) (bor := []) (bobjs := []) (show Eng.Spec Try.prog 60 [.agg [.bs false 2 (List.map enc_si p1), .v (.int .i64 p2)]] [] (.v (.bool false)) [] from by have q := s_impl_ValidFlag p1 p2 x4 e1; rw [b2] at q; exact q) (.cons (.c1 (.agg (.cons (.same _ (by kernel_rfl) (by kernel_rfl)) (.cons (.same _ (by kernel_rfl) (by kernel_rfl)) (.nil))))) (.nil)) (by kernel_rfl) trivial, trivial⟩ ?_
    refine AX.ret ?_
    refine fin_wk (Wk.forget [4] [] (s' := ⟨[(4, .v (.bool false))], []⟩) (by kernel_rfl)) ?_
    have hr := Option.some.inj h
    subst hr
    exact ⟨_, Wk.refl _, .inr rfl, ⟨[], by kernel_rfl, trivial, [.v (.bool false)], by kernel_rfl, by kernel_rfl⟩⟩

theorem s_slices_Clip_s (p1 : List (ByteArray)) (r : Unit) (h : m_slices_Clip_s p1 = some r) :
    Eng.Spec Try.prog 118 [.bs false 1 (List.map enc_s p1)] [] (.bs false 1 (List.map enc_s (sub p1 (0 : Int) (p1.length : Int)))) [] := by
  unfold m_slices_Clip_s at h
  refine Eng.Spec.body Try.func118 (by kernel_rfl) rfl (by kernel_rfl) ?_
  refine AX.wkpost ?_
  refine AX.seq ?_
  refine AX.reg (its := []) [0] [] (s1 := ⟨[(0, .bs false 1 (List.map enc_s p1))], []⟩) (C := True) (by kernel_rfl) trivial trivial ?_
  refine AX.seq ?_
  obtain ⟨g1, h⟩ := gd_e h
  refine AX.reg (its := [.auto {}, .auto {}, .auto { y := some (.v (.int .i64 (p1.length : Int))) }, .auto {}, .auto { y := some (.v (.int .i64 (p1.length : Int))) }, .auto { y := some (.bs false 1 (List.map enc_s (sub p1 (0 : Int) (p1.length : Int)))) }]) [2] [] (s1 := ⟨[(2, .bs false 1 (List.map enc_s (sub p1 (0 : Int) (p1.length : Int))))], []⟩) (C := (True ∧ (AV.v (.int .i64 ((List.map enc_s p1).length : Int)) = AV.v (.int .i64 (p1.length : Int)))) ∧ (True ∧ (AV.v (.int .i64 ((List.map enc_s p1).length : Int)) = AV.v (.int .i64 (p1.length : Int)))) ∧ ((0 ≤ (0 : Int) ∧ (0 : Int) ≤ (p1.length : Int) ∧ (p1.length : Int) ≤ (p1.length : Int) ∧ (p1.length : Int) ≤ ((List.map enc_s p1).length : Int)) ∧ (AV.bs false 1 (((List.map enc_s p1).drop (0 : Int).toNat).take ((p1.length : Int).toNat - (0 : Int).toNat)) = (.bs false 1 (List.map enc_s (sub p1 (0 : Int) (p1.length : Int))) : AV))) ∧ True) (by kernel_rfl) ⟨⟨trivial, len_map enc_s p1⟩, ⟨⟨trivial, len_map enc_s p1⟩, ⟨⟨by first | exact g1 | simpa only [List.length_map] using g1, by first | exact sub_can enc_s p1 (0 : Int) (p1.length : Int) false 1 | (simp only [List.length_map]; exact sub_can enc_s p1 (0 : Int) (p1.length : Int) false 1)⟩, trivial⟩⟩⟩ trivial ?_
  refine AX.ret ?_
  refine fin_wk (Wk.forget [2] [] (s' := ⟨[(2, .bs false 1 (List.map enc_s (sub p1 (0 : Int) (p1.length : Int))))], []⟩) (by kernel_rfl)) ?_
  have hr := Option.some.inj h
  subst hr
  exact ⟨_, Wk.refl _, .inr rfl, ⟨[], by kernel_rfl, trivial, [.bs false 1 (List.map enc_s (sub p1 (0 : Int) (p1.length : Int)))], by kernel_rfl, by kernel_rfl⟩⟩

theorem s_slices_Clip_hs (p1 : List (ByteArray)) (r : Unit) (h : m_slices_Clip_hs p1 = some r) :
    Eng.Spec Try.prog 118 [.sl 0 0 p1.length] [.arr 1 (List.map enc_s p1)] (.sl 0 0 p1.length) [.arr 1 (List.map enc_s p1)] := by
  unfold m_slices_Clip_hs at h
  refine Eng.Spec.body Try.func118 (by kernel_rfl) rfl (by kernel_rfl) ?_
  refine AX.wkpost ?_
  refine AX.seq ?_
  refine AX.reg (its := []) [0] [0] (s1 := ⟨[(0, .sl 0 0 p1.length)], [(0, .arr 1 (List.map enc_s p1))]⟩) (C := True) (by kernel_rfl) trivial trivial ?_
  refine AX.seq ?_
  refine AX.reg (its := [.auto {}, .auto {}, .auto {}, .auto {}, .auto {}, .auto { y := some (.sl 0 0 p1.length) }]) [2] [0] (s1 := ⟨[(2, .sl 0 0 p1.length)], [(0, .arr 1 (List.map enc_s p1))]⟩) (C := ((0 ≤ (0 : Int) ∧ (0 : Int) ≤ (p1.length : Int) ∧ (p1.length : Int) ≤ (p1.length : Int) ∧ (p1.length : Int) ≤ (p1.length : Int)) ∧ (AV.sl 0 (0 + (0 : Int).toNat) ((p1.length : Int).toNat - (0 : Int).toNat) = AV.sl 0 0 p1.length)) ∧ True) (by kernel_rfl) ⟨⟨⟨by omega, by omega, by omega, by omega⟩, rfl⟩, trivial⟩ trivial ?_
  refine AX.ret ?_
  refine fin_wk (Wk.forget [2] [0] (s' := ⟨[(2, .sl 0 0 p1.length)], [(0, .arr 1 (List.map enc_s p1))]⟩) (by kernel_rfl)) ?_
  have hr := Option.some.inj h
  subst hr
  exact ⟨_, Wk.refl _, .inr rfl, ⟨[], by kernel_rfl, ⟨rfl, trivial⟩, [.sl 0 0 p1.length], by kernel_rfl, by kernel_rfl⟩⟩

theorem s_impl_MembersIn_L1 (p2 : Int) (x6 : List (ByteArray × Int)) (n : Nat) (g : List (ByteArray) × Int) (out : List (ByteArray)) (h : m_impl_MembersIn_L1 p2 x6 n g.1 g.2 = some out) :
    AX Try.prog 39 0 (codeAt [1, 1, 1, 0, 1, 1] (bodyOf Try.f44)) ((fun g : List (ByteArray) × Int => (⟨[(1, .v (.int .i64 p2)), (5, .sl 0 0 g.1.length), (19, .sl 1 0 x6.length), (20, .v (.int .i64 (x6.length : Int))), (21, .v (.int .i64 g.2))], [(0, .arr 1 (List.map enc_s g.1)), (1, .arr 2 (List.map enc_si x6))]⟩ : S)) g) (fun ex s => ex = .exit 0 ∧ s = (fun o : List (ByteArray) => (⟨[(5, .sl 0 0 o.length)], [(0, .arr 1 (List.map enc_s o))]⟩ : S)) out) := by
  refine AX.wkpost ?_
  refine AX.loop (G := Nat × (List (ByteArray) × Int)) (fun q => (fun g : List (ByteArray) × Int => (⟨[(1, .v (.int .i64 p2)), (5, .sl 0 0 g.1.length), (19, .sl 1 0 x6.length), (20, .v (.int .i64 (x6.length : Int))), (21, .v (.int .i64 g.2))], [(0, .arr 1 (List.map enc_s g.1)), (1, .arr 2 (List.map enc_si x6))]⟩ : S)) q.2) (fun q => m_impl_MembersIn_L1 p2 x6 q.1 q.2.1 q.2.2 = some out) (fun q => q.1) (n, g) h (Wk.refl _) ?_
  clear h
  rintro ⟨fu, v7, v8⟩ h
  cases fu with
  | zero => cases h
  | succ fu =>
    rw [m_impl_MembersIn_L1] at h
    refine AX.seq ?_
    refine AX.reg (its := []) [1, 5, 19, 20, 21, 22] [0, 1] (s1 := ⟨[(1, .v (.int .i64 p2)), (5, .sl 0 0 v7.length), (19, .sl 1 0 x6.length), (20, .v (.int .i64 (x6.length : Int))), (21, .v (.int .i64 v8)), (22, .v (.bool (decide (v8 < (x6.length : Int)))))], [(0, .arr 1 (List.map enc_s v7)), (1, .arr 2 (List.map enc_si x6))]⟩) (C := True) (by kernel_rfl) trivial trivial ?_
    refine AX.seq ?_
    rcases bool_cases (decide (v8 < (x6.length : Int))) with b7 | b7
    · replace h := cd_t b7 h
      refine AX.condT (decide (v8 < (x6.length : Int))) (by kernel_rfl) b7 ?_
      refine AX.skip ?_
      refine AX.seq ?_
      refine AX.block ?_
      refine AX.seq ?_
      obtain ⟨g8, h⟩ := gd_e h
      refine AX.reg (its := [.auto {}, .auto {}, .auto { y := some (.agg [.v (.string ((gt x6 v8).1)), .v (.int .i64 ((gt x6 v8).2))]) }, .auto { nk := 2 }]) [1, 5, 6, 7, 19, 20, 21] [0, 1, 2] (s1 := ⟨[(1, .v (.int .i64 p2)), (5, .sl 0 0 v7.length), (6, .v (.int .i64 v8)), (7, .pt 2 0), (19, .sl 1 0 x6.length), (20, .v (.int .i64 (x6.length : Int))), (21, .v (.int .i64 v8))], [(0, .arr 1 (List.map enc_s v7)), (1, .arr 2 (List.map enc_si x6)), (2, .box [.v (.string ((gt x6 v8).1)), .v (.int .i64 ((gt x6 v8).2))])]⟩) (C := (0 ≤ v8 ∧ v8 < (x6.length : Int)) ∧ (True ∧ (AV.agg ((((List.map enc_si x6).getD (0 + v8.toNat) []).drop 0 |>.take 2).map .v) = .agg [.v (.string ((gt x6 v8).1)), .v (.int .i64 ((gt x6 v8).2))])) ∧ True) (by kernel_rfl) ⟨g8, ⟨⟨trivial, (congrArg (fun z : List Value => AV.agg (((z.drop 0).take 2).map .v)) (idx_arr (enc := enc_si) rfl g8))⟩, trivial⟩⟩ trivial ?_
      refine AX.seq ?_
      obtain ⟨g9, h⟩ := gd_e h
      refine AX.reg (its := []) [1, 5, 7, 19, 20, 21, 30] [0, 1, 2] (s1 := ⟨[(1, .v (.int .i64 p2)), (5, .sl 0 0 v7.length), (7, .pt 2 0), (19, .sl 1 0 x6.length), (20, .v (.int .i64 (x6.length : Int))), (21, .v (.int .i64 v8)), (30, .v (.bool (decide ((Go.bits .and .i64 (p2 / 2 ^ v8.toNat) 1) = 1))))], [(0, .arr 1 (List.map enc_s v7)), (1, .arr 2 (List.map enc_si x6)), (2, .box [.v (.string ((gt x6 v8).1)), .v (.int .i64 ((gt x6 v8).2))])]⟩) (C := (0 ≤ v8 ∧ v8 ≤ (IntKind.bits .i64 : Int)) ∧ True) (by kernel_rfl) ⟨g9, trivial⟩ trivial ?_
      rcases bool_cases (decide ((Go.bits .and .i64 (p2 / 2 ^ v8.toNat) 1) = 1)) with b10 | b10
      · replace h := cd_t b10 h
        refine AX.condT (decide ((Go.bits .and .i64 (p2 / 2 ^ v8.toNat) 1) = 1)) (by kernel_rfl) b10 ?_
        obtain ⟨g11, h⟩ := gd_e h
        refine AX.reg (its := [.auto {}, .auto {}, .auto {}, .auto { nk := 3 }, .auto { y := some (.sl 4 0 ((v7 ++ ([(gt x6 v8).1] : List (ByteArray))).length)), els := some (List.map enc_s v7), els2 := some (List.map enc_s ([(gt x6 v8).1] : List (ByteArray))), nk := 4 }]) [1, 5, 19, 20, 21] [1, 4] (s1 := ⟨[(1, .v (.int .i64 p2)), (5, .sl 4 0 ((v7 ++ ([(gt x6 v8).1] : List (ByteArray))).length)), (19, .sl 1 0 x6.length), (20, .v (.int .i64 (x6.length : Int))), (21, .v (.int .i64 v8))], [(1, .arr 2 (List.map enc_si x6)), (4, .arr 1 (List.map enc_s v7 ++ List.map enc_s ([(gt x6 v8).1] : List (ByteArray))))]⟩) (C := ((((((List.map enc_s v7).drop 0).take (v7.length) = List.map enc_s v7) ∧ (((List.map enc_s ([(gt x6 v8).1] : List (ByteArray))).drop 0).take (([(gt x6 v8).1] : List (ByteArray)).length) = List.map enc_s ([(gt x6 v8).1] : List (ByteArray)))) ∧ (List.map enc_s v7).length + (List.map enc_s ([(gt x6 v8).1] : List (ByteArray))).length ≤ 1099511627776) ∧ (AV.sl 4 0 (List.map enc_s v7 ++ List.map enc_s ([(gt x6 v8).1] : List (ByteArray))).length = AV.sl 4 0 (v7 ++ ([(gt x6 v8).1] : List (ByteArray))).length)) ∧ True) (by kernel_rfl) ⟨⟨⟨⟨(dt_all (enc := enc_s) rfl rfl), (dt_all (enc := enc_s) rfl rfl)⟩, (by simp only [List.length_map, List.length_nil, List.length_replicate]; simpa using g11)⟩, sl_len (enc := enc_s) (app_can (enc := enc_s) rfl (rfl))⟩, trivial⟩ trivial ?_
        refine AX.reg (its := [.auto { raw := true }]) [1, 5, 19, 20, 21] [1, 4] (s1 := ⟨[(1, .v (.int .i64 p2)), (5, .sl 4 0 ((v7 ++ ([(gt x6 v8).1] : List (ByteArray))).length)), (19, .sl 1 0 x6.length), (20, .v (.int .i64 (x6.length : Int))), (21, .v (.int .i64 (IntKind.wrap .i64 (v8 + 1))))], [(1, .arr 2 (List.map enc_si x6)), (4, .arr 1 (List.map enc_s v7 ++ List.map enc_s ([(gt x6 v8).1] : List (ByteArray))))]⟩) (C := True) (by kernel_rfl) trivial trivial ?_
        refine ⟨(fu, (v7 ++ ([(gt x6 v8).1] : List (ByteArray)), IntKind.wrap .i64 (v8 + 1))), h, Nat.lt_succ_self _, ?_⟩
        refine Wk.trans (Wk.swap 0 4 (Nat.le_of_ble_eq_true (by kernel_rfl)) (Nat.le_of_ble_eq_true (by kernel_rfl)) rfl) ?_
        refine Wk.trans (Wk.forget [1, 5, 19, 20, 21] [0, 1] (s' := ⟨[(1, .v (.int .i64 p2)), (5, .sl 0 0 ((v7 ++ ([(gt x6 v8).1] : List (ByteArray))).length)), (19, .sl 1 0 x6.length), (20, .v (.int .i64 (x6.length : Int))), (21, .v (.int .i64 (IntKind.wrap .i64 (v8 + 1))))], [(0, .arr 1 (List.map enc_s v7 ++ List.map enc_s ([(gt x6 v8).1] : List (ByteArray)))), (1, .arr 2 (List.map enc_si x6))]⟩) (by kernel_rfl)) ?_
        refine Wk.trans (Wk.of_eq (congrArg (fun z => (⟨[(1, .v (.int .i64 p2)), (5, .sl 0 0 ((v7 ++ ([(gt x6 v8).1] : List (ByteArray))).length)), (19, .sl 1 0 x6.length), (20, .v (.int .i64 (x6.length : Int))), (21, .v (.int .i64 (IntKind.wrap .i64 (v8 + 1))))], [(0, .arr 1 (z)), (1, .arr 2 (List.map enc_si x6))]⟩ : S)) (app_can (enc := enc_s) rfl (rfl) : List.map enc_s v7 ++ List.map enc_s ([(gt x6 v8).1] : List (ByteArray)) = List.map enc_s (v7 ++ ([(gt x6 v8).1] : List (ByteArray)))))) ?_
        exact Wk.refl _
      · replace h := cd_f b10 h
        refine AX.condF (decide ((Go.bits .and .i64 (p2 / 2 ^ v8.toNat) 1) = 1)) (by kernel_rfl) b10 ?_
        refine AX.skip ?_
        refine AX.reg (its := [.auto { raw := true }]) [1, 5, 19, 20, 21] [0, 1] (s1 := ⟨[(1, .v (.int .i64 p2)), (5, .sl 0 0 v7.length), (19, .sl 1 0 x6.length), (20, .v (.int .i64 (x6.length : Int))), (21, .v (.int .i64 (IntKind.wrap .i64 (v8 + 1))))], [(0, .arr 1 (List.map enc_s v7)), (1, .arr 2 (List.map enc_si x6))]⟩) (C := True) (by kernel_rfl) trivial trivial ?_
        refine ⟨(fu, (v7, IntKind.wrap .i64 (v8 + 1))), h, Nat.lt_succ_self _, ?_⟩
        refine Wk.trans (Wk.forget [1, 5, 19, 20, 21] [0, 1] (s' := ⟨[(1, .v (.int .i64 p2)), (5, .sl 0 0 v7.length), (19, .sl 1 0 x6.length), (20, .v (.int .i64 (x6.length : Int))), (21, .v (.int .i64 (IntKind.wrap .i64 (v8 + 1))))], [(0, .arr 1 (List.map enc_s v7)), (1, .arr 2 (List.map enc_si x6))]⟩) (by kernel_rfl)) ?_
        exact Wk.refl _
    · replace h := cd_f b7 h
      refine AX.condF (decide (v8 < (x6.length : Int))) (by kernel_rfl) b7 ?_
      refine AX.exit ?_
      refine fin_wk (Wk.forget [5] [0] (s' := ⟨[(5, .sl 0 0 v7.length)], [(0, .arr 1 (List.map enc_s v7))]⟩) (by kernel_rfl)) ?_
      have hr := Option.some.inj h
      subst hr
      exact ⟨_, Wk.refl _, ⟨rfl, rfl⟩⟩

theorem s_impl_MembersIn (p1 : List (ByteArray × Int)) (p2 : Int) (r : List (ByteArray)) (h : m_impl_MembersIn p1 p2 = some r) :
    Eng.Spec Try.prog 44 [.agg [.bs false 2 (List.map enc_si p1)], .v (.int .i64 p2)] [] (.sl 0 0 r.length) [.arr 1 (List.map enc_s r)] := by
  unfold m_impl_MembersIn at h
  refine Eng.Spec.body Try.func44 (by kernel_rfl) rfl (by kernel_rfl) ?_
  refine AX.wkpost ?_
  refine AX.seq ?_
  refine AX.reg (its := [.auto { nk := 0 }]) [1, 2] [0] (s1 := ⟨[(1, .v (.int .i64 p2)), (2, .pt 0 0)], [(0, .box [.bs false 2 (List.map enc_si p1)])]⟩) (C := True) (by kernel_rfl) trivial trivial ?_
  refine AX.seq ?_
  refine AX.seq ?_
  obtain ⟨x3, e1, h⟩ := bd_e h
  rcases bool_cases ((!x3)) with b2 | b2
  · replace h := cd_t b2 h
    refine AX.reg (its := [.auto {}, .call 112 [.agg [.bs false 2 (List.map enc_si p1)]] (handO (rho ([] ++ [])) [] [] ++ []) (callEv [] [] (.v (.bool x3)) []), .auto { y := some (.v (.bool true)) }]) [1, 2, 17] [0] (s1 := ⟨[(1, .v (.int .i64 p2)), (2, .pt 0 0), (17, .v (.bool true))], [(0, .box [.bs false 2 (List.map enc_si p1)])]⟩) (C := ((([.agg [.bs false 2 (List.map enc_si p1)]] : List AV) = [.agg [.bs false 2 (List.map enc_si p1)]]) ∧ True) ∧ ((True) ∧ ((.v (.bool (!x3)) : AV) = (.v (.bool true) : AV))) ∧ True) (by kernel_rfl) ⟨⟨rfl, trivial⟩, ⟨⟨trivial, (congrArg (fun z => AV.v (.bool z)) b2)⟩, trivial⟩⟩ ⟨call_ok (ks := []) (ns := []) (bor := []) (bobjs := []) (s_impl_ValidEnum p1 x3 e1) (.cons (.c1 (.agg (.cons (.same _ (by kernel_rfl) (by kernel_rfl)) (.nil)))) (.nil)) (by kernel_rfl) trivial, trivial⟩ ?_
    refine AX.cond_true (by kernel_rfl) ?_
    refine AX.seq ?_
    refine AX.reg (its := []) [4] [] (s1 := ⟨[(4, .v (.slice none 0 0))], []⟩) (C := True) (by kernel_rfl) trivial trivial ?_
    refine AX.ret ?_
    refine fin_wk (Wk.mat 4 0 1 (by kernel_rfl) (Nat.le_of_ble_eq_true (by kernel_rfl)) (by kernel_rfl) rfl) ?_
    refine fin_wk (Wk.forget [4] [0] (s' := ⟨[(4, .sl 0 0 (([] : List (ByteArray)).length))], [(0, .arr 1 (List.map enc_s ([] : List (ByteArray))))]⟩) (by kernel_rfl)) ?_
    have hr := Option.some.inj h
    subst hr
    exact ⟨_, Wk.refl _, .inr rfl, ⟨[0], by kernel_rfl, ⟨rfl, trivial⟩, [.sl 0 0 (([] : List (ByteArray)).length)], by kernel_rfl, by kernel_rfl⟩⟩
  · replace h := cd_f b2 h
    obtain ⟨x4, e3, h⟩ := bd_e h
    obtain ⟨x5, e4, h⟩ := bd_e h
    refine AX.reg (its := [.auto {}, .call 112 [.agg [.bs false 2 (List.map enc_si p1)]] (handO (rho ([] ++ [])) [] [] ++ []) (callEv [] [] (.v (.bool x3)) []), .auto { y := some (.v (.bool false)) }, .auto {}, .auto {}, .call 113 [.agg [.bs false 2 (List.map enc_si p1)]] (handO (rho ([] ++ [1])) [] [] ++ []) (callEv [] [1] (.agg [.sl 0 0 x4.length, .v (.int .i64 0)]) [.arr 2 (List.map enc_si x4)]), .auto {}, .call 70 [.agg [.sl 1 0 x4.length, .v (.int .i64 0)], .v (.int .i64 p2)] (handO (rho ([] ++ [])) [] [] ++ [(1, .arr 2 (List.map enc_si x4))]) (callEv [] [] (.v (.bool x5)) [])]) [1, 2, 17] [0] (s1 := ⟨[(1, .v (.int .i64 p2)), (2, .pt 0 0), (17, .v (.bool (!x5)))], [(0, .box [.bs false 2 (List.map enc_si p1)])]⟩) (C := ((([.agg [.bs false 2 (List.map enc_si p1)]] : List AV) = [.agg [.bs false 2 (List.map enc_si p1)]]) ∧ True) ∧ ((True) ∧ ((.v (.bool (!x3)) : AV) = (.v (.bool false) : AV))) ∧ ((([.agg [.bs false 2 (List.map enc_si p1)]] : List AV) = [.agg [.bs false 2 (List.map enc_si p1)]]) ∧ True) ∧ ((([.agg [.sl 1 0 x4.length, .v (.int .i64 0)], .v (.int .i64 p2)] : List AV) = [.agg [.sl 1 0 x4.length, .v (.int .i64 0)], .v (.int .i64 p2)]) ∧ (AO.arr 2 (List.map enc_si x4) = AO.arr 2 (List.map enc_si x4)) ∧ True) ∧ True) (by kernel_rfl) ⟨⟨rfl, trivial⟩, ⟨⟨trivial, (congrArg (fun z => AV.v (.bool z)) b2)⟩, ⟨⟨rfl, trivial⟩, ⟨⟨rfl, rfl, trivial⟩, trivial⟩⟩⟩⟩ ⟨call_ok (ks := []) (ns := []) (bor := []) (bobjs := []) (s_impl_ValidEnum p1 x3 e1) (.cons (.c1 (.agg (.cons (.same _ (by kernel_rfl) (by kernel_rfl)) (.nil)))) (.nil)) (by kernel_rfl) trivial, ⟨call_ok (ks := []) (ns := [1]) (bor := []) (bobjs := []) (s_impl_FlagOf p1 x4 e3) (.cons (.c1 (.agg (.cons (.same _ (by kernel_rfl) (by kernel_rfl)) (.nil)))) (.nil)) (by kernel_rfl) trivial, ⟨call_ok (ks := []) (ns := []) (bor := [1]) (bobjs := [(1, .arr 2 (List.map enc_si x4))]) (s_impl_IsValue x4 0 p2 x5 e4) (.cons (.c1 (.agg (.cons (.arr rfl rfl ((rfl).trans (List.length_map ..).symm)) (.cons (.same _ (by kernel_rfl) (by kernel_rfl)) (.nil))))) (.cons (.c1 (.c0 (.same _ (by kernel_rfl) (by kernel_rfl)))) (.nil))) (by kernel_rfl) trivial, trivial⟩⟩⟩ ?_
    rcases bool_cases ((!x5)) with b5 | b5
    · replace h := cd_t b5 h
      refine AX.condT ((!x5)) (by kernel_rfl) b5 ?_
      refine AX.seq ?_
      refine AX.reg (its := []) [4] [] (s1 := ⟨[(4, .v (.slice none 0 0))], []⟩) (C := True) (by kernel_rfl) trivial trivial ?_
      refine AX.ret ?_
      refine fin_wk (Wk.mat 4 0 1 (by kernel_rfl) (Nat.le_of_ble_eq_true (by kernel_rfl)) (by kernel_rfl) rfl) ?_
      refine fin_wk (Wk.forget [4] [0] (s' := ⟨[(4, .sl 0 0 (([] : List (ByteArray)).length))], [(0, .arr 1 (List.map enc_s ([] : List (ByteArray))))]⟩) (by kernel_rfl)) ?_
      have hr := Option.some.inj h
      subst hr
      exact ⟨_, Wk.refl _, .inr rfl, ⟨[0], by kernel_rfl, ⟨rfl, trivial⟩, [.sl 0 0 (([] : List (ByteArray)).length)], by kernel_rfl, by kernel_rfl⟩⟩
    · replace h := cd_f b5 h
      refine AX.condF ((!x5)) (by kernel_rfl) b5 ?_
      refine AX.skip ?_
      refine AX.seq ?_
      refine AX.reg (its := []) [1, 2, 5] [0] (s1 := ⟨[(1, .v (.int .i64 p2)), (2, .pt 0 0), (5, .v (.slice none 0 0))], [(0, .box [.bs false 2 (List.map enc_si p1)])]⟩) (C := True) (by kernel_rfl) trivial trivial ?_
      refine AX.seq ?_
      refine AX.seq ?_
      obtain ⟨x6, e6, h⟩ := bd_e h
      refine AX.reg (its := [.auto {}, .call 117 [.agg [.bs false 2 (List.map enc_si p1)]] (handO (rho ([] ++ [1])) [] [] ++ []) (callEv [] [1] (.sl 0 0 x6.length) [.arr 2 (List.map enc_si x6)])]) [1, 5, 19, 20, 21] [1] (s1 := ⟨[(1, .v (.int .i64 p2)), (5, .v (.slice none 0 0)), (19, .sl 1 0 x6.length), (20, .v (.int .i64 (x6.length : Int))), (21, .v (.int .i64 0))], [(1, .arr 2 (List.map enc_si x6))]⟩) (C := ((([.agg [.bs false 2 (List.map enc_si p1)]] : List AV) = [.agg [.bs false 2 (List.map enc_si p1)]]) ∧ True) ∧ True) (by kernel_rfl) ⟨⟨rfl, trivial⟩, trivial⟩ ⟨call_ok (ks := []) (ns := [1]) (bor := []) (bobjs := []) (s_impl_Enum_members p1 x6 e6) (.cons (.c1 (.agg (.cons (.same _ (by kernel_rfl) (by kernel_rfl)) (.nil)))) (.nil)) (by kernel_rfl) trivial, trivial⟩ ?_
      refine AX.block ?_
      obtain ⟨x9, e12, h⟩ := bd_e h
      refine AX.wk (Wk.mat 5 2 1 (by kernel_rfl) (Nat.le_of_ble_eq_true (by kernel_rfl)) (by kernel_rfl) rfl) ?_
      refine AX.wk (Wk.swap 0 2 (Nat.le_of_ble_eq_true (by kernel_rfl)) (Nat.le_of_ble_eq_true (by kernel_rfl)) rfl) ?_
      refine AX.wk (Wk.forget [1, 5, 19, 20, 21] [0, 1] (s' := ⟨[(1, .v (.int .i64 p2)), (5, .sl 0 0 (([] : List (ByteArray)).length)), (19, .sl 1 0 x6.length), (20, .v (.int .i64 (x6.length : Int))), (21, .v (.int .i64 0))], [(0, .arr 1 (List.map enc_s ([] : List (ByteArray)))), (1, .arr 2 (List.map enc_si x6))]⟩) (by kernel_rfl)) ?_
      refine AX.mono (s_impl_MembersIn_L1 p2 x6 FU (([] : List (ByteArray)), 0) x9 e12) ?_
      rintro _ _ ⟨rfl, rfl⟩
      skip
      refine AX.seq ?_
      obtain ⟨x10, e13, h⟩ := bd_e h
      refine AX.reg (its := [.auto {}, .call 118 [.sl 0 0 x9.length] (handO (rho ([0] ++ [])) [0] [.arr 1 (List.map enc_s x9)] ++ []) (callEv [0] [] (.sl 0 0 x9.length) [.arr 1 (List.map enc_s x9)])]) [4] [0] (s1 := ⟨[(4, .sl 0 0 x9.length)], [(0, .arr 1 (List.map enc_s x9))]⟩) (C := ((([.sl 0 0 x9.length] : List AV) = [.sl 0 0 x9.length]) ∧ (AO.arr 1 (List.map enc_s x9) = AO.arr 1 (List.map enc_s x9)) ∧ True) ∧ True) (by kernel_rfl) ⟨⟨rfl, rfl, trivial⟩, trivial⟩ ⟨call_ok (ks := [0]) (ns := []) (bor := []) (bobjs := []) (s_slices_Clip_hs x9 x10 e13) (.cons (.c1 (.c0 (.same _ (by kernel_rfl) (by kernel_rfl)))) (.nil)) (by kernel_rfl) ⟨.inr rfl, trivial⟩, trivial⟩ ?_
      refine AX.ret ?_
      refine fin_wk (Wk.forget [4] [0] (s' := ⟨[(4, .sl 0 0 x9.length)], [(0, .arr 1 (List.map enc_s x9))]⟩) (by kernel_rfl)) ?_
      have hr := Option.some.inj h
      subst hr
      exact ⟨_, Wk.refl _, .inr rfl, ⟨[0], by kernel_rfl, ⟨rfl, trivial⟩, [.sl 0 0 x9.length], by kernel_rfl, by kernel_rfl⟩⟩

theorem s_impl_MissedMembers_1_lm (p1 : ByteArray) (p2 : Int) (p3 : List Int) (r : Unit) (h : m_impl_MissedMembers_1_lm p1 p2 p3 = some r) :
    Eng.Spec Try.prog 121 [.agg [.v (.string p1), .v (.int .i64 p2)], .bp [.bm p3] 0] [] (.v (.bool (!(List.any p3 (fun x => decide (x = p2)))))) [] := by
  unfold m_impl_MissedMembers_1_lm at h
  refine Eng.Spec.body Try.func121 (by kernel_rfl) rfl (by kernel_rfl) ?_
  refine AX.wkpost ?_
  refine AX.seq ?_
  refine AX.reg (its := [.auto { nk := 0 }]) [1, 2] [0] (s1 := ⟨[(1, .bp [.bm p3] 0), (2, .pt 0 0)], [(0, .box [.v (.string p1), .v (.int .i64 p2)])]⟩) (C := True) (by kernel_rfl) trivial trivial ?_
  refine AX.seq ?_
  refine AX.reg (its := []) [3] [] (s1 := ⟨[(3, .v (.bool (!(List.any p3 (fun x => decide (x = p2))))))], []⟩) (C := True) (by kernel_rfl) trivial trivial ?_
  refine AX.ret ?_
  refine fin_wk (Wk.forget [3] [] (s' := ⟨[(3, .v (.bool (!(List.any p3 (fun x => decide (x = p2))))))], []⟩) (by kernel_rfl)) ?_
  have hr := Option.some.inj h
  subst hr
  exact ⟨_, Wk.refl _, .inr rfl, ⟨[], by kernel_rfl, trivial, [.v (.bool (!(List.any p3 (fun x => decide (x = p2)))))], by kernel_rfl, by kernel_rfl⟩⟩

theorem s_impl_names_MissedMembers_1_lm_L1 (p1 : List (ByteArray × Int)) (p2 : List Int) (n : Nat) (g : List (ByteArray) × Int) (out : List (ByteArray)) (h : m_impl_names_MissedMembers_1_lm_L1 p1 p2 n g.1 g.2 = some out) :
    AX Try.prog 25 0 (codeAt [1, 1, 0, 1, 1] (bodyOf Try.f120)) ((fun g : List (ByteArray) × Int => (⟨[(1, .fn 121 [.bp [.bm p2] 0]), (5, .sl 0 0 g.1.length), (8, .bs false 2 (List.map enc_si p1)), (9, .v (.int .i64 (p1.length : Int))), (10, .v (.int .i64 g.2))], [(0, .arr 1 (List.map enc_s g.1))]⟩ : S)) g) (fun ex s => ex = .exit 0 ∧ s = (fun o : List (ByteArray) => (⟨[(5, .sl 0 0 o.length)], [(0, .arr 1 (List.map enc_s o))]⟩ : S)) out) := by
  refine AX.wkpost ?_
  refine AX.loop (G := Nat × (List (ByteArray) × Int)) (fun q => (fun g : List (ByteArray) × Int => (⟨[(1, .fn 121 [.bp [.bm p2] 0]), (5, .sl 0 0 g.1.length), (8, .bs false 2 (List.map enc_si p1)), (9, .v (.int .i64 (p1.length : Int))), (10, .v (.int .i64 g.2))], [(0, .arr 1 (List.map enc_s g.1))]⟩ : S)) q.2) (fun q => m_impl_names_MissedMembers_1_lm_L1 p1 p2 q.1 q.2.1 q.2.2 = some out) (fun q => q.1) (n, g) h (Wk.refl _) ?_
  clear h
  rintro ⟨fu, v3, v4⟩ h
  cases fu with
  | zero => cases h
  | succ fu =>
    rw [m_impl_names_MissedMembers_1_lm_L1] at h
    refine AX.seq ?_
    refine AX.reg (its := []) [1, 5, 8, 9, 10, 11] [0] (s1 := ⟨[(1, .fn 121 [.bp [.bm p2] 0]), (5, .sl 0 0 v3.length), (8, .bs false 2 (List.map enc_si p1)), (9, .v (.int .i64 (p1.length : Int))), (10, .v (.int .i64 v4)), (11, .v (.bool (decide (v4 < (p1.length : Int)))))], [(0, .arr 1 (List.map enc_s v3))]⟩) (C := True) (by kernel_rfl) trivial trivial ?_
    refine AX.seq ?_
    rcases bool_cases (decide (v4 < (p1.length : Int))) with b1 | b1
    · replace h := cd_t b1 h
      refine AX.condT (decide (v4 < (p1.length : Int))) (by kernel_rfl) b1 ?_
      refine AX.skip ?_
      refine AX.seq ?_
      refine AX.block ?_
      refine AX.seq ?_
      obtain ⟨g2, h⟩ := gd_e h
      refine AX.reg (its := [.auto { y := some (.be 2 (enc_si (gt p1 v4)) 0) }, .auto {}, .auto { nk := 1 }]) [1, 5, 7, 8, 9, 10] [0, 1] (s1 := ⟨[(1, .fn 121 [.bp [.bm p2] 0]), (5, .sl 0 0 v3.length), (7, .pt 1 0), (8, .bs false 2 (List.map enc_si p1)), (9, .v (.int .i64 (p1.length : Int))), (10, .v (.int .i64 v4))], [(0, .arr 1 (List.map enc_s v3)), (1, .box [.v (.string ((gt p1 v4).1)), .v (.int .i64 ((gt p1 v4).2))])]⟩) (C := ((0 ≤ v4 ∧ v4 < ((List.map enc_si p1).length : Int)) ∧ (AV.be 2 ((List.map enc_si p1).getD v4.toNat []) 0 = AV.be 2 (enc_si (gt p1 v4)) 0)) ∧ True) (by kernel_rfl) ⟨idx_bs enc_si p1 v4 2 g2, trivial⟩ trivial ?_
      refine AX.seq ?_
      obtain ⟨x5, e3, h⟩ := bd_e h
      refine AX.reg (its := [.auto {}, .auto {}, .call 121 [.agg [.v (.string ((gt p1 v4).1)), .v (.int .i64 ((gt p1 v4).2))], .bp [.bm p2] 0] (handO (rho ([] ++ [])) [] [] ++ []) (callEv [] [] (.v (.bool (!(List.any p2 (fun x => decide (x = ((gt p1 v4).2))))))) [])]) [1, 5, 7, 8, 9, 10, 16] [0, 1] (s1 := ⟨[(1, .fn 121 [.bp [.bm p2] 0]), (5, .sl 0 0 v3.length), (7, .pt 1 0), (8, .bs false 2 (List.map enc_si p1)), (9, .v (.int .i64 (p1.length : Int))), (10, .v (.int .i64 v4)), (16, .v (.bool (!(List.any p2 (fun x => decide (x = ((gt p1 v4).2)))))))], [(0, .arr 1 (List.map enc_s v3)), (1, .box [.v (.string ((gt p1 v4).1)), .v (.int .i64 ((gt p1 v4).2))])]⟩) (C := ((([.agg [.v (.string ((gt p1 v4).1)), .v (.int .i64 ((gt p1 v4).2))], .bp [.bm p2] 0] : List AV) = [.agg [.v (.string ((gt p1 v4).1)), .v (.int .i64 ((gt p1 v4).2))], .bp [.bm p2] 0]) ∧ True) ∧ True) (by kernel_rfl) ⟨⟨rfl, trivial⟩, trivial⟩ ⟨call_ok (ks := []) (ns := []) (bor := []) (bobjs := []) (s_impl_MissedMembers_1_lm ((gt p1 v4).1) ((gt p1 v4).2) p2 x5 e3) (.cons (.c1 (.agg (.cons (.same _ (by kernel_rfl) (by kernel_rfl)) (.cons (.same _ (by kernel_rfl) (by kernel_rfl)) (.nil))))) (.cons (.c1 (.bp (.cons (.same _ (by kernel_rfl) (by kernel_rfl)) (.nil)))) (.nil))) (by kernel_rfl) trivial, trivial⟩ ?_
      rcases bool_cases ((!(List.any p2 (fun x => decide (x = ((gt p1 v4).2)))))) with b4 | b4
      · replace h := cd_t b4 h
        refine AX.condT ((!(List.any p2 (fun x => decide (x = ((gt p1 v4).2)))))) (by kernel_rfl) b4 ?_
        obtain ⟨g5, h⟩ := gd_e h
        refine AX.reg (its := [.auto {}, .auto {}, .auto {}, .auto { nk := 2 }, .auto { y := some (.sl 3 0 ((v3 ++ ([(gt p1 v4).1] : List (ByteArray))).length)), els := some (List.map enc_s v3), els2 := some (List.map enc_s ([(gt p1 v4).1] : List (ByteArray))), nk := 3 }]) [1, 5, 8, 9, 10] [3] (s1 := ⟨[(1, .fn 121 [.bp [.bm p2] 0]), (5, .sl 3 0 ((v3 ++ ([(gt p1 v4).1] : List (ByteArray))).length)), (8, .bs false 2 (List.map enc_si p1)), (9, .v (.int .i64 (p1.length : Int))), (10, .v (.int .i64 v4))], [(3, .arr 1 (List.map enc_s v3 ++ List.map enc_s ([(gt p1 v4).1] : List (ByteArray))))]⟩) (C := ((((((List.map enc_s v3).drop 0).take (v3.length) = List.map enc_s v3) ∧ (((List.map enc_s ([(gt p1 v4).1] : List (ByteArray))).drop 0).take (([(gt p1 v4).1] : List (ByteArray)).length) = List.map enc_s ([(gt p1 v4).1] : List (ByteArray)))) ∧ (List.map enc_s v3).length + (List.map enc_s ([(gt p1 v4).1] : List (ByteArray))).length ≤ 1099511627776) ∧ (AV.sl 3 0 (List.map enc_s v3 ++ List.map enc_s ([(gt p1 v4).1] : List (ByteArray))).length = AV.sl 3 0 (v3 ++ ([(gt p1 v4).1] : List (ByteArray))).length)) ∧ True) (by kernel_rfl) ⟨⟨⟨⟨(dt_all (enc := enc_s) rfl rfl), (dt_all (enc := enc_s) rfl rfl)⟩, (by simp only [List.length_map, List.length_nil, List.length_replicate]; simpa using g5)⟩, sl_len (enc := enc_s) (app_can (enc := enc_s) rfl (rfl))⟩, trivial⟩ trivial ?_
        refine AX.reg (its := [.auto { raw := true }]) [1, 5, 8, 9, 10] [3] (s1 := ⟨[(1, .fn 121 [.bp [.bm p2] 0]), (5, .sl 3 0 ((v3 ++ ([(gt p1 v4).1] : List (ByteArray))).length)), (8, .bs false 2 (List.map enc_si p1)), (9, .v (.int .i64 (p1.length : Int))), (10, .v (.int .i64 (IntKind.wrap .i64 (v4 + 1))))], [(3, .arr 1 (List.map enc_s v3 ++ List.map enc_s ([(gt p1 v4).1] : List (ByteArray))))]⟩) (C := True) (by kernel_rfl) trivial trivial ?_
        refine ⟨(fu, (v3 ++ ([(gt p1 v4).1] : List (ByteArray)), IntKind.wrap .i64 (v4 + 1))), h, Nat.lt_succ_self _, ?_⟩
        refine Wk.trans (Wk.swap 0 3 (Nat.le_of_ble_eq_true (by kernel_rfl)) (Nat.le_of_ble_eq_true (by kernel_rfl)) rfl) ?_
        refine Wk.trans (Wk.forget [1, 5, 8, 9, 10] [0] (s' := ⟨[(1, .fn 121 [.bp [.bm p2] 0]), (5, .sl 0 0 ((v3 ++ ([(gt p1 v4).1] : List (ByteArray))).length)), (8, .bs false 2 (List.map enc_si p1)), (9, .v (.int .i64 (p1.length : Int))), (10, .v (.int .i64 (IntKind.wrap .i64 (v4 + 1))))], [(0, .arr 1 (List.map enc_s v3 ++ List.map enc_s ([(gt p1 v4).1] : List (ByteArray))))]⟩) (by kernel_rfl)) ?_
        refine Wk.trans (Wk.of_eq (congrArg (fun z => (⟨[(1, .fn 121 [.bp [.bm p2] 0]), (5, .sl 0 0 ((v3 ++ ([(gt p1 v4).1] : List (ByteArray))).length)), (8, .bs false 2 (List.map enc_si p1)), (9, .v (.int .i64 (p1.length : Int))), (10, .v (.int .i64 (IntKind.wrap .i64 (v4 + 1))))], [(0, .arr 1 (z))]⟩ : S)) (app_can (enc := enc_s) rfl (rfl) : List.map enc_s v3 ++ List.map enc_s ([(gt p1 v4).1] : List (ByteArray)) = List.map enc_s (v3 ++ ([(gt p1 v4).1] : List (ByteArray)))))) ?_
        exact Wk.refl _
      · replace h := cd_f b4 h
        refine AX.condF ((!(List.any p2 (fun x => decide (x = ((gt p1 v4).2)))))) (by kernel_rfl) b4 ?_
        refine AX.skip ?_
        refine AX.reg (its := [.auto { raw := true }]) [1, 5, 8, 9, 10] [0] (s1 := ⟨[(1, .fn 121 [.bp [.bm p2] 0]), (5, .sl 0 0 v3.length), (8, .bs false 2 (List.map enc_si p1)), (9, .v (.int .i64 (p1.length : Int))), (10, .v (.int .i64 (IntKind.wrap .i64 (v4 + 1))))], [(0, .arr 1 (List.map enc_s v3))]⟩) (C := True) (by kernel_rfl) trivial trivial ?_
        refine ⟨(fu, (v3, IntKind.wrap .i64 (v4 + 1))), h, Nat.lt_succ_self _, ?_⟩
        refine Wk.trans (Wk.forget [1, 5, 8, 9, 10] [0] (s' := ⟨[(1, .fn 121 [.bp [.bm p2] 0]), (5, .sl 0 0 v3.length), (8, .bs false 2 (List.map enc_si p1)), (9, .v (.int .i64 (p1.length : Int))), (10, .v (.int .i64 (IntKind.wrap .i64 (v4 + 1))))], [(0, .arr 1 (List.map enc_s v3))]⟩) (by kernel_rfl)) ?_
        exact Wk.refl _
    · replace h := cd_f b1 h
      refine AX.condF (decide (v4 < (p1.length : Int))) (by kernel_rfl) b1 ?_
      refine AX.exit ?_
      refine fin_wk (Wk.forget [5] [0] (s' := ⟨[(5, .sl 0 0 v3.length)], [(0, .arr 1 (List.map enc_s v3))]⟩) (by kernel_rfl)) ?_
      have hr := Option.some.inj h
      subst hr
      exact ⟨_, Wk.refl _, ⟨rfl, rfl⟩⟩

theorem s_impl_names_MissedMembers_1_lm (p1 : List (ByteArray × Int)) (p2 : List Int) (r : List (ByteArray)) (h : m_impl_names_MissedMembers_1_lm p1 p2 = some r) :
    Eng.Spec Try.prog 120 [.bs false 2 (List.map enc_si p1), .fn 121 [.bp [.bm p2] 0]] [] (.sl 0 0 r.length) [.arr 1 (List.map enc_s r)] := by
  unfold m_impl_names_MissedMembers_1_lm at h
  refine Eng.Spec.body Try.func120 (by kernel_rfl) rfl (by kernel_rfl) ?_
  refine AX.wkpost ?_
  refine AX.seq ?_
  refine AX.reg (its := []) [0, 1] [] (s1 := ⟨[(0, .bs false 2 (List.map enc_si p1)), (1, .fn 121 [.bp [.bm p2] 0])], []⟩) (C := True) (by kernel_rfl) trivial trivial ?_
  refine AX.seq ?_
  refine AX.reg (its := []) [0, 1, 5] [] (s1 := ⟨[(0, .bs false 2 (List.map enc_si p1)), (1, .fn 121 [.bp [.bm p2] 0]), (5, .v (.slice none 0 0))], []⟩) (C := True) (by kernel_rfl) trivial trivial ?_
  refine AX.seq ?_
  refine AX.seq ?_
  refine AX.reg (its := [.auto {}, .auto { y := some (.v (.int .i64 (p1.length : Int))) }]) [1, 5, 8, 9, 10] [] (s1 := ⟨[(1, .fn 121 [.bp [.bm p2] 0]), (5, .v (.slice none 0 0)), (8, .bs false 2 (List.map enc_si p1)), (9, .v (.int .i64 (p1.length : Int))), (10, .v (.int .i64 0))], []⟩) (C := (True ∧ (AV.v (.int .i64 ((List.map enc_si p1).length : Int)) = AV.v (.int .i64 (p1.length : Int)))) ∧ True) (by kernel_rfl) ⟨⟨trivial, len_map enc_si p1⟩, trivial⟩ trivial ?_
  refine AX.block ?_
  obtain ⟨x6, e6, h⟩ := bd_e h
  refine AX.wk (Wk.mat 5 0 1 (by kernel_rfl) (Nat.le_of_ble_eq_true (by kernel_rfl)) (by kernel_rfl) rfl) ?_
  refine AX.wk (Wk.forget [1, 5, 8, 9, 10] [0] (s' := ⟨[(1, .fn 121 [.bp [.bm p2] 0]), (5, .sl 0 0 (([] : List (ByteArray)).length)), (8, .bs false 2 (List.map enc_si p1)), (9, .v (.int .i64 (p1.length : Int))), (10, .v (.int .i64 0))], [(0, .arr 1 (List.map enc_s ([] : List (ByteArray))))]⟩) (by kernel_rfl)) ?_
  refine AX.mono (s_impl_names_MissedMembers_1_lm_L1 p1 p2 FU (([] : List (ByteArray)), 0) x6 e6) ?_
  rintro _ _ ⟨rfl, rfl⟩
  skip
  refine AX.seq ?_
  obtain ⟨x7, e7, h⟩ := bd_e h
  refine AX.reg (its := [.auto {}, .call 118 [.sl 0 0 x6.length] (handO (rho ([0] ++ [])) [0] [.arr 1 (List.map enc_s x6)] ++ []) (callEv [0] [] (.sl 0 0 x6.length) [.arr 1 (List.map enc_s x6)])]) [4] [0] (s1 := ⟨[(4, .sl 0 0 x6.length)], [(0, .arr 1 (List.map enc_s x6))]⟩) (C := ((([.sl 0 0 x6.length] : List AV) = [.sl 0 0 x6.length]) ∧ (AO.arr 1 (List.map enc_s x6) = AO.arr 1 (List.map enc_s x6)) ∧ True) ∧ True) (by kernel_rfl) ⟨⟨rfl, rfl, trivial⟩, trivial⟩ ⟨call_ok (ks := [0]) (ns := []) (bor := []) (bobjs := []) (s_slices_Clip_hs x6 x7 e7) (.cons (.c1 (.c0 (.same _ (by kernel_rfl) (by kernel_rfl)))) (.nil)) (by kernel_rfl) ⟨.inr rfl, trivial⟩, trivial⟩ ?_
  refine AX.ret ?_
  refine fin_wk (Wk.forget [4] [0] (s' := ⟨[(4, .sl 0 0 x6.length)], [(0, .arr 1 (List.map enc_s x6))]⟩) (by kernel_rfl)) ?_
  have hr := Option.some.inj h
  subst hr
  exact ⟨_, Wk.refl _, .inr rfl, ⟨[0], by kernel_rfl, ⟨rfl, trivial⟩, [.sl 0 0 x6.length], by kernel_rfl, by kernel_rfl⟩⟩

theorem s_impl_MissedMembers_L1 (p1 : List (ByteArray × Int)) (p2 : List (ByteArray)) (n : Nat) (g : List Int × Int) (out : Unit ⊕ List Int) (h : m_impl_MissedMembers_L1 p1 p2 n g.1 g.2 = some out) :
    AX Try.prog 35 0 (codeAt [1, 1, 1, 0, 1, 1] (bodyOf Try.f45)) ((fun g : List Int × Int => (⟨[(2, .pt 0 0), (5, .pt 1 0), (14, .bs false 1 (List.map enc_s p2)), (15, .v (.int .i64 (p2.length : Int))), (16, .v (.int .i64 g.2))], [(0, .box [.bs false 2 (List.map enc_si p1)]), (1, .box [.mp 2]), (2, .map g.1)]⟩ : S)) g) (fun ex s => (∃ o : Unit, out = Sum.inl o ∧ ex = .ret ∧ s = ⟨[(4, .v (.slice none 0 0))], []⟩) ∨ (∃ o : List Int, out = Sum.inr o ∧ ex = .exit 0 ∧ s = ⟨[(2, .pt 0 0), (5, .pt 1 0)], [(0, .box [.bs false 2 (List.map enc_si p1)]), (1, .box [.mp 2]), (2, .map o)]⟩)) := by
  refine AX.wkpost ?_
  refine AX.loop (G := Nat × (List Int × Int)) (fun q => (fun g : List Int × Int => (⟨[(2, .pt 0 0), (5, .pt 1 0), (14, .bs false 1 (List.map enc_s p2)), (15, .v (.int .i64 (p2.length : Int))), (16, .v (.int .i64 g.2))], [(0, .box [.bs false 2 (List.map enc_si p1)]), (1, .box [.mp 2]), (2, .map g.1)]⟩ : S)) q.2) (fun q => m_impl_MissedMembers_L1 p1 p2 q.1 q.2.1 q.2.2 = some out) (fun q => q.1) (n, g) h (Wk.refl _) ?_
  clear h
  rintro ⟨fu, v4, v5⟩ h
  cases fu with
  | zero => cases h
  | succ fu =>
    rw [m_impl_MissedMembers_L1] at h
    refine AX.seq ?_
    refine AX.reg (its := []) [2, 5, 14, 15, 16, 17] [0, 1, 2] (s1 := ⟨[(2, .pt 0 0), (5, .pt 1 0), (14, .bs false 1 (List.map enc_s p2)), (15, .v (.int .i64 (p2.length : Int))), (16, .v (.int .i64 v5)), (17, .v (.bool (decide (v5 < (p2.length : Int)))))], [(0, .box [.bs false 2 (List.map enc_si p1)]), (1, .box [.mp 2]), (2, .map v4)]⟩) (C := True) (by kernel_rfl) trivial trivial ?_
    refine AX.seq ?_
    rcases bool_cases (decide (v5 < (p2.length : Int))) with b3 | b3
    · replace h := cd_t b3 h
      refine AX.condT (decide (v5 < (p2.length : Int))) (by kernel_rfl) b3 ?_
      refine AX.skip ?_
      refine AX.seq ?_
      refine AX.block ?_
      refine AX.seq ?_
      obtain ⟨g4, h⟩ := gd_e h
      refine AX.reg (its := [.auto { y := some (.be 1 (enc_s (gt p2 v5)) 0) }]) [2, 5, 7, 14, 15, 16] [0, 1, 2] (s1 := ⟨[(2, .pt 0 0), (5, .pt 1 0), (7, .v (.string (gt p2 v5))), (14, .bs false 1 (List.map enc_s p2)), (15, .v (.int .i64 (p2.length : Int))), (16, .v (.int .i64 v5))], [(0, .box [.bs false 2 (List.map enc_si p1)]), (1, .box [.mp 2]), (2, .map v4)]⟩) (C := ((0 ≤ v5 ∧ v5 < ((List.map enc_s p2).length : Int)) ∧ (AV.be 1 ((List.map enc_s p2).getD v5.toNat []) 0 = AV.be 1 (enc_s (gt p2 v5)) 0)) ∧ True) (by kernel_rfl) ⟨idx_bs enc_s p2 v5 1 g4, trivial⟩ trivial ?_
      refine AX.seq ?_
      obtain ⟨x6, e5, h⟩ := bd_e h
      refine AX.reg (its := [.auto {}, .auto {}, .call 119 [.agg [.bs false 2 (List.map enc_si p1)], .v (.string (gt p2 v5))] (handO (rho ([] ++ [])) [] [] ++ []) (callEv [] [] (.tup [.v (.int .i64 x6.1), .v (.bool x6.2)]) [])]) [2, 5, 8, 9, 14, 15, 16] [0, 1, 2] (s1 := ⟨[(2, .pt 0 0), (5, .pt 1 0), (8, .v (.int .i64 x6.1)), (9, .v (.bool x6.2)), (14, .bs false 1 (List.map enc_s p2)), (15, .v (.int .i64 (p2.length : Int))), (16, .v (.int .i64 v5))], [(0, .box [.bs false 2 (List.map enc_si p1)]), (1, .box [.mp 2]), (2, .map v4)]⟩) (C := ((([.agg [.bs false 2 (List.map enc_si p1)], .v (.string (gt p2 v5))] : List AV) = [.agg [.bs false 2 (List.map enc_si p1)], .v (.string (gt p2 v5))]) ∧ True) ∧ True) (by kernel_rfl) ⟨⟨rfl, trivial⟩, trivial⟩ ⟨call_ok (ks := []) (ns := []) (bor := []) (bobjs := []) (s_impl_ValueOf p1 (gt p2 v5) x6 e5) (.cons (.c1 (.agg (.cons (.same _ (by kernel_rfl) (by kernel_rfl)) (.nil)))) (.cons (.c1 (.c0 (.same _ (by kernel_rfl) (by kernel_rfl)))) (.nil))) (by kernel_rfl) trivial, trivial⟩ ?_
      refine AX.seq ?_
      refine AX.seq ?_
      refine AX.reg (its := []) [2, 5, 8, 14, 15, 16, 27] [0, 1, 2] (s1 := ⟨[(2, .pt 0 0), (5, .pt 1 0), (8, .v (.int .i64 x6.1)), (14, .bs false 1 (List.map enc_s p2)), (15, .v (.int .i64 (p2.length : Int))), (16, .v (.int .i64 v5)), (27, .v (.bool (!x6.2)))], [(0, .box [.bs false 2 (List.map enc_si p1)]), (1, .box [.mp 2]), (2, .map v4)]⟩) (C := True) (by kernel_rfl) trivial trivial ?_
      rcases bool_cases ((!x6.2)) with b6 | b6
      · replace h := cd_t b6 h
        refine AX.condT ((!x6.2)) (by kernel_rfl) b6 ?_
        refine AX.seq ?_
        refine AX.reg (its := []) [4] [] (s1 := ⟨[(4, .v (.slice none 0 0))], []⟩) (C := True) (by kernel_rfl) trivial trivial ?_
        refine AX.ret ?_
        refine fin_wk (Wk.forget [4] [] (s' := ⟨[(4, .v (.slice none 0 0))], []⟩) (by kernel_rfl)) ?_
        have hr := Option.some.inj h
        subst hr
        exact ⟨_, Wk.refl _, .inl ⟨(), rfl, rfl, rfl⟩⟩
      · replace h := cd_f b6 h
        refine AX.condF ((!x6.2)) (by kernel_rfl) b6 ?_
        refine AX.skip ?_
        refine AX.reg (its := []) [2, 5, 14, 15, 16] [0, 1, 2] (s1 := ⟨[(2, .pt 0 0), (5, .pt 1 0), (14, .bs false 1 (List.map enc_s p2)), (15, .v (.int .i64 (p2.length : Int))), (16, .v (.int .i64 v5))], [(0, .box [.bs false 2 (List.map enc_si p1)]), (1, .box [.mp 2]), (2, .map (v4 ++ [x6.1]))]⟩) (C := True) (by kernel_rfl) trivial trivial ?_
        refine AX.reg (its := [.auto { raw := true }]) [2, 5, 14, 15, 16] [0, 1, 2] (s1 := ⟨[(2, .pt 0 0), (5, .pt 1 0), (14, .bs false 1 (List.map enc_s p2)), (15, .v (.int .i64 (p2.length : Int))), (16, .v (.int .i64 (IntKind.wrap .i64 (v5 + 1))))], [(0, .box [.bs false 2 (List.map enc_si p1)]), (1, .box [.mp 2]), (2, .map (v4 ++ [x6.1]))]⟩) (C := True) (by kernel_rfl) trivial trivial ?_
        refine ⟨(fu, (v4 ++ [x6.1], IntKind.wrap .i64 (v5 + 1))), h, Nat.lt_succ_self _, ?_⟩
        refine Wk.trans (Wk.forget [2, 5, 14, 15, 16] [0, 1, 2] (s' := ⟨[(2, .pt 0 0), (5, .pt 1 0), (14, .bs false 1 (List.map enc_s p2)), (15, .v (.int .i64 (p2.length : Int))), (16, .v (.int .i64 (IntKind.wrap .i64 (v5 + 1))))], [(0, .box [.bs false 2 (List.map enc_si p1)]), (1, .box [.mp 2]), (2, .map (v4 ++ [x6.1]))]⟩) (by kernel_rfl)) ?_
        exact Wk.refl _
    · replace h := cd_f b3 h
      refine AX.condF (decide (v5 < (p2.length : Int))) (by kernel_rfl) b3 ?_
      refine AX.exit ?_
      refine fin_wk (Wk.forget [2, 5] [0, 1, 2] (s' := ⟨[(2, .pt 0 0), (5, .pt 1 0)], [(0, .box [.bs false 2 (List.map enc_si p1)]), (1, .box [.mp 2]), (2, .map v4)]⟩) (by kernel_rfl)) ?_
      have hr := Option.some.inj h
      subst hr
      exact ⟨_, Wk.refl _, .inr ⟨v4, rfl, rfl, rfl⟩⟩

theorem s_impl_MissedMembers (p1 : List (ByteArray × Int)) (p2 : List (ByteArray)) (r : List (ByteArray)) (h : m_impl_MissedMembers p1 p2 = some r) :
    Eng.Spec Try.prog 45 [.agg [.bs false 2 (List.map enc_si p1)], .bs false 1 (List.map enc_s p2)] [] (.sl 0 0 r.length) [.arr 1 (List.map enc_s r)] := by
  unfold m_impl_MissedMembers at h
  refine Eng.Spec.body Try.func45 (by kernel_rfl) rfl (by kernel_rfl) ?_
  refine AX.wkpost ?_
  refine AX.seq ?_
  refine AX.reg (its := [.auto { nk := 0 }]) [1, 2] [0] (s1 := ⟨[(1, .bs false 1 (List.map enc_s p2)), (2, .pt 0 0)], [(0, .box [.bs false 2 (List.map enc_si p1)])]⟩) (C := True) (by kernel_rfl) trivial trivial ?_
  refine AX.seq ?_
  refine AX.seq ?_
  obtain ⟨x3, e1, h⟩ := bd_e h
  refine AX.reg (its := [.auto {}, .call 112 [.agg [.bs false 2 (List.map enc_si p1)]] (handO (rho ([] ++ [])) [] [] ++ []) (callEv [] [] (.v (.bool x3)) [])]) [1, 2, 12] [0] (s1 := ⟨[(1, .bs false 1 (List.map enc_s p2)), (2, .pt 0 0), (12, .v (.bool (!x3)))], [(0, .box [.bs false 2 (List.map enc_si p1)])]⟩) (C := ((([.agg [.bs false 2 (List.map enc_si p1)]] : List AV) = [.agg [.bs false 2 (List.map enc_si p1)]]) ∧ True) ∧ True) (by kernel_rfl) ⟨⟨rfl, trivial⟩, trivial⟩ ⟨call_ok (ks := []) (ns := []) (bor := []) (bobjs := []) (s_impl_ValidEnum p1 x3 e1) (.cons (.c1 (.agg (.cons (.same _ (by kernel_rfl) (by kernel_rfl)) (.nil)))) (.nil)) (by kernel_rfl) trivial, trivial⟩ ?_
  rcases bool_cases ((!x3)) with b2 | b2
  · replace h := cd_t b2 h
    refine AX.condT ((!x3)) (by kernel_rfl) b2 ?_
    refine AX.seq ?_
    refine AX.reg (its := []) [4] [] (s1 := ⟨[(4, .v (.slice none 0 0))], []⟩) (C := True) (by kernel_rfl) trivial trivial ?_
    refine AX.ret ?_
    refine fin_wk (Wk.mat 4 0 1 (by kernel_rfl) (Nat.le_of_ble_eq_true (by kernel_rfl)) (by kernel_rfl) rfl) ?_
    refine fin_wk (Wk.forget [4] [0] (s' := ⟨[(4, .sl 0 0 (([] : List (ByteArray)).length))], [(0, .arr 1 (List.map enc_s ([] : List (ByteArray))))]⟩) (by kernel_rfl)) ?_
    have hr := Option.some.inj h
    subst hr
    exact ⟨_, Wk.refl _, .inr rfl, ⟨[0], by kernel_rfl, ⟨rfl, trivial⟩, [.sl 0 0 (([] : List (ByteArray)).length)], by kernel_rfl, by kernel_rfl⟩⟩
  · replace h := cd_f b2 h
    refine AX.condF ((!x3)) (by kernel_rfl) b2 ?_
    refine AX.skip ?_
    refine AX.seq ?_
    refine AX.reg (its := [.auto { nk := 1 }, .auto { nk := 2 }]) [1, 2, 5] [0, 1, 2] (s1 := ⟨[(1, .bs false 1 (List.map enc_s p2)), (2, .pt 0 0), (5, .pt 2 0)], [(0, .box [.bs false 2 (List.map enc_si p1)]), (1, .map ([] : List Int)), (2, .box [.mp 1])]⟩) (C := True) (by kernel_rfl) trivial trivial ?_
    refine AX.seq ?_
    refine AX.seq ?_
    refine AX.reg (its := [.auto {}, .auto { y := some (.v (.int .i64 (p2.length : Int))) }]) [2, 5, 14, 15, 16] [0, 1, 2] (s1 := ⟨[(2, .pt 0 0), (5, .pt 2 0), (14, .bs false 1 (List.map enc_s p2)), (15, .v (.int .i64 (p2.length : Int))), (16, .v (.int .i64 0))], [(0, .box [.bs false 2 (List.map enc_si p1)]), (1, .map ([] : List Int)), (2, .box [.mp 1])]⟩) (C := (True ∧ (AV.v (.int .i64 ((List.map enc_s p2).length : Int)) = AV.v (.int .i64 (p2.length : Int)))) ∧ True) (by kernel_rfl) ⟨⟨trivial, len_map enc_s p2⟩, trivial⟩ trivial ?_
    refine AX.block ?_
    obtain ⟨x7, e7, h⟩ := bd_e h
    refine AX.wk (Wk.swap 1 2 (Nat.le_of_ble_eq_true (by kernel_rfl)) (Nat.le_of_ble_eq_true (by kernel_rfl)) rfl) ?_
    refine AX.wk (Wk.forget [2, 5, 14, 15, 16] [0, 1, 2] (s' := ⟨[(2, .pt 0 0), (5, .pt 1 0), (14, .bs false 1 (List.map enc_s p2)), (15, .v (.int .i64 (p2.length : Int))), (16, .v (.int .i64 0))], [(0, .box [.bs false 2 (List.map enc_si p1)]), (1, .box [.mp 2]), (2, .map ([] : List Int))]⟩) (by kernel_rfl)) ?_
    refine AX.mono (s_impl_MissedMembers_L1 p1 p2 FU (([] : List Int), 0) x7 e7) ?_
    rintro _ _ (⟨x8, rfl, rfl, rfl⟩ | ⟨x9, rfl, rfl, rfl⟩)
    · replace h := sm_l h
      refine fin_wk (Wk.mat 4 0 1 (by kernel_rfl) (Nat.le_of_ble_eq_true (by kernel_rfl)) (by kernel_rfl) rfl) ?_
      refine fin_wk (Wk.forget [4] [0] (s' := ⟨[(4, .sl 0 0 (([] : List (ByteArray)).length))], [(0, .arr 1 (List.map enc_s ([] : List (ByteArray))))]⟩) (by kernel_rfl)) ?_
      have hr := Option.some.inj h
      subst hr
      exact ⟨_, Wk.refl _, .inr rfl, ⟨[0], by kernel_rfl, ⟨rfl, trivial⟩, [.sl 0 0 (([] : List (ByteArray)).length)], by kernel_rfl, by kernel_rfl⟩⟩
    · replace h := sm_r h
      refine AX.seq ?_
      obtain ⟨x10, e8, h⟩ := bd_e h
      obtain ⟨x11, e9, h⟩ := bd_e h
      refine AX.reg (its := [.auto {}, .call 117 [.agg [.bs false 2 (List.map enc_si p1)]] (handO (rho ([] ++ [3])) [] [] ++ []) (callEv [] [3] (.sl 0 0 x10.length) [.arr 2 (List.map enc_si x10)]), .auto {}, .call 120 [.sl 3 0 x10.length, .fn 121 [.pt 1 0]] (handO (rho ([] ++ [4])) [] [] ++ [(3, .arr 2 (List.map enc_si x10)), (1, .box [.mp 2]), (2, .map x9)]) (callEv [] [4] (.sl 0 0 x11.length) [.arr 1 (List.map enc_s x11)])]) [4] [4] (s1 := ⟨[(4, .sl 4 0 x11.length)], [(4, .arr 1 (List.map enc_s x11))]⟩) (C := ((([.agg [.bs false 2 (List.map enc_si p1)]] : List AV) = [.agg [.bs false 2 (List.map enc_si p1)]]) ∧ True) ∧ ((([.sl 3 0 x10.length, .fn 121 [.pt 1 0]] : List AV) = [.sl 3 0 x10.length, .fn 121 [.pt 1 0]]) ∧ (AO.arr 2 (List.map enc_si x10) = AO.arr 2 (List.map enc_si x10)) ∧ (AO.box [.mp 2] = AO.box [.mp 2]) ∧ (AO.map x9 = AO.map x9) ∧ True) ∧ True) (by kernel_rfl) ⟨⟨rfl, trivial⟩, ⟨⟨rfl, rfl, rfl, rfl, trivial⟩, trivial⟩⟩ ⟨call_ok (ks := []) (ns := [3]) (bor := []) (bobjs := []) (s_impl_Enum_members p1 x10 e8) (.cons (.c1 (.agg (.cons (.same _ (by kernel_rfl) (by kernel_rfl)) (.nil)))) (.nil)) (by kernel_rfl) trivial, ⟨call_ok (ks := []) (ns := [4]) (bor := [3, 1, 2]) (bobjs := [(3, .arr 2 (List.map enc_si x10)), (1, .box [.mp 2]), (2, .map x9)]) (s_impl_names_MissedMembers_1_lm x10 x9 x11 e9) (.cons (.c1 (.c0 (.arr rfl rfl ((rfl).trans (List.length_map ..).symm)))) (.cons (.fn (.cons (.box rfl rfl (.cons (.mpl rfl rfl) (.nil))) (.nil))) (.nil))) (by kernel_rfl) trivial, trivial⟩⟩ ?_
      refine AX.ret ?_
      refine fin_wk (Wk.swap 0 4 (Nat.le_of_ble_eq_true (by kernel_rfl)) (Nat.le_of_ble_eq_true (by kernel_rfl)) rfl) ?_
      refine fin_wk (Wk.forget [4] [0] (s' := ⟨[(4, .sl 0 0 x11.length)], [(0, .arr 1 (List.map enc_s x11))]⟩) (by kernel_rfl)) ?_
      have hr := Option.some.inj h
      subst hr
      exact ⟨_, Wk.refl _, .inr rfl, ⟨[0], by kernel_rfl, ⟨rfl, trivial⟩, [.sl 0 0 x11.length], by kernel_rfl, by kernel_rfl⟩⟩

theorem s_impl_anyDef (p1 : ByteArray) (p2 : Int) (r : Unit) (h : m_impl_anyDef p1 p2 = some r) :
    Eng.Spec Try.prog 122 [.agg [.v (.string p1), .v (.int .i64 p2)]] [] (.v (.bool true)) [] := by
  unfold m_impl_anyDef at h
  refine Eng.Spec.body Try.func122 (by kernel_rfl) rfl (by kernel_rfl) ?_
  refine AX.wkpost ?_
  refine AX.seq ?_
  refine AX.reg (its := [.auto { nk := 0 }]) [] [] (s1 := ⟨[], []⟩) (C := True) (by kernel_rfl) trivial trivial ?_
  refine AX.seq ?_
  refine AX.reg (its := []) [2] [] (s1 := ⟨[(2, .v (.bool true))], []⟩) (C := True) (by kernel_rfl) trivial trivial ?_
  refine AX.ret ?_
  refine fin_wk (Wk.forget [2] [] (s' := ⟨[(2, .v (.bool true))], []⟩) (by kernel_rfl)) ?_
  have hr := Option.some.inj h
  subst hr
  exact ⟨_, Wk.refl _, .inr rfl, ⟨[], by kernel_rfl, trivial, [.v (.bool true)], by kernel_rfl, by kernel_rfl⟩⟩

theorem s_impl_names_anyDef_L1 (p1 : List (ByteArray × Int)) (n : Nat) (g : List (ByteArray) × Int) (out : List (ByteArray)) (h : m_impl_names_anyDef_L1 p1 n g.1 g.2 = some out) :
    AX Try.prog 25 0 (codeAt [1, 1, 0, 1, 1] (bodyOf Try.f120)) ((fun g : List (ByteArray) × Int => (⟨[(1, .fn 122 []), (5, .sl 0 0 g.1.length), (8, .bs false 2 (List.map enc_si p1)), (9, .v (.int .i64 (p1.length : Int))), (10, .v (.int .i64 g.2))], [(0, .arr 1 (List.map enc_s g.1))]⟩ : S)) g) (fun ex s => ex = .exit 0 ∧ s = (fun o : List (ByteArray) => (⟨[(5, .sl 0 0 o.length)], [(0, .arr 1 (List.map enc_s o))]⟩ : S)) out) := by
  refine AX.wkpost ?_
  refine AX.loop (G := Nat × (List (ByteArray) × Int)) (fun q => (fun g : List (ByteArray) × Int => (⟨[(1, .fn 122 []), (5, .sl 0 0 g.1.length), (8, .bs false 2 (List.map enc_si p1)), (9, .v (.int .i64 (p1.length : Int))), (10, .v (.int .i64 g.2))], [(0, .arr 1 (List.map enc_s g.1))]⟩ : S)) q.2) (fun q => m_impl_names_anyDef_L1 p1 q.1 q.2.1 q.2.2 = some out) (fun q => q.1) (n, g) h (Wk.refl _) ?_
  clear h
  rintro ⟨fu, v2, v3⟩ h
  cases fu with
  | zero => cases h
  | succ fu =>
    rw [m_impl_names_anyDef_L1] at h
    refine AX.seq ?_
    refine AX.reg (its := []) [1, 5, 8, 9, 10, 11] [0] (s1 := ⟨[(1, .fn 122 []), (5, .sl 0 0 v2.length), (8, .bs false 2 (List.map enc_si p1)), (9, .v (.int .i64 (p1.length : Int))), (10, .v (.int .i64 v3)), (11, .v (.bool (decide (v3 < (p1.length : Int)))))], [(0, .arr 1 (List.map enc_s v2))]⟩) (C := True) (by kernel_rfl) trivial trivial ?_
    refine AX.seq ?_
    rcases bool_cases (decide (v3 < (p1.length : Int))) with b1 | b1
    · replace h := cd_t b1 h
      refine AX.condT (decide (v3 < (p1.length : Int))) (by kernel_rfl) b1 ?_
      refine AX.skip ?_
      refine AX.seq ?_
      refine AX.block ?_
      refine AX.seq ?_
      obtain ⟨g2, h⟩ := gd_e h
      refine AX.reg (its := [.auto { y := some (.be 2 (enc_si (gt p1 v3)) 0) }, .auto {}, .auto { nk := 1 }]) [1, 5, 7, 8, 9, 10] [0, 1] (s1 := ⟨[(1, .fn 122 []), (5, .sl 0 0 v2.length), (7, .pt 1 0), (8, .bs false 2 (List.map enc_si p1)), (9, .v (.int .i64 (p1.length : Int))), (10, .v (.int .i64 v3))], [(0, .arr 1 (List.map enc_s v2)), (1, .box [.v (.string ((gt p1 v3).1)), .v (.int .i64 ((gt p1 v3).2))])]⟩) (C := ((0 ≤ v3 ∧ v3 < ((List.map enc_si p1).length : Int)) ∧ (AV.be 2 ((List.map enc_si p1).getD v3.toNat []) 0 = AV.be 2 (enc_si (gt p1 v3)) 0)) ∧ True) (by kernel_rfl) ⟨idx_bs enc_si p1 v3 2 g2, trivial⟩ trivial ?_
      refine AX.seq ?_
      obtain ⟨x4, e3, h⟩ := bd_e h
      refine AX.reg (its := [.auto {}, .auto {}, .call 122 [.agg [.v (.string ((gt p1 v3).1)), .v (.int .i64 ((gt p1 v3).2))]] (handO (rho ([] ++ [])) [] [] ++ []) (callEv [] [] (.v (.bool true)) [])]) [1, 5, 7, 8, 9, 10, 16] [0, 1] (s1 := ⟨[(1, .fn 122 []), (5, .sl 0 0 v2.length), (7, .pt 1 0), (8, .bs false 2 (List.map enc_si p1)), (9, .v (.int .i64 (p1.length : Int))), (10, .v (.int .i64 v3)), (16, .v (.bool true))], [(0, .arr 1 (List.map enc_s v2)), (1, .box [.v (.string ((gt p1 v3).1)), .v (.int .i64 ((gt p1 v3).2))])]⟩) (C := ((([.agg [.v (.string ((gt p1 v3).1)), .v (.int .i64 ((gt p1 v3).2))]] : List AV) = [.agg [.v (.string ((gt p1 v3).1)), .v (.int .i64 ((gt p1 v3).2))]]) ∧ True) ∧ True) (by kernel_rfl) ⟨⟨rfl, trivial⟩, trivial⟩ ⟨call_ok (ks := []) (ns := []) (bor := []) (bobjs := []) (s_impl_anyDef ((gt p1 v3).1) ((gt p1 v3).2) x4 e3) (.cons (.c1 (.agg (.cons (.same _ (by kernel_rfl) (by kernel_rfl)) (.cons (.same _ (by kernel_rfl) (by kernel_rfl)) (.nil))))) (.nil)) (by kernel_rfl) trivial, trivial⟩ ?_
      refine AX.cond_true (by kernel_rfl) ?_
      obtain ⟨g4, h⟩ := gd_e h
      refine AX.reg (its := [.auto {}, .auto {}, .auto {}, .auto { nk := 2 }, .auto { y := some (.sl 3 0 ((v2 ++ ([(gt p1 v3).1] : List (ByteArray))).length)), els := some (List.map enc_s v2), els2 := some (List.map enc_s ([(gt p1 v3).1] : List (ByteArray))), nk := 3 }]) [1, 5, 8, 9, 10] [3] (s1 := ⟨[(1, .fn 122 []), (5, .sl 3 0 ((v2 ++ ([(gt p1 v3).1] : List (ByteArray))).length)), (8, .bs false 2 (List.map enc_si p1)), (9, .v (.int .i64 (p1.length : Int))), (10, .v (.int .i64 v3))], [(3, .arr 1 (List.map enc_s v2 ++ List.map enc_s ([(gt p1 v3).1] : List (ByteArray))))]⟩) (C := ((((((List.map enc_s v2).drop 0).take (v2.length) = List.map enc_s v2) ∧ (((List.map enc_s ([(gt p1 v3).1] : List (ByteArray))).drop 0).take (([(gt p1 v3).1] : List (ByteArray)).length) = List.map enc_s ([(gt p1 v3).1] : List (ByteArray)))) ∧ (List.map enc_s v2).length + (List.map enc_s ([(gt p1 v3).1] : List (ByteArray))).length ≤ 1099511627776) ∧ (AV.sl 3 0 (List.map enc_s v2 ++ List.map enc_s ([(gt p1 v3).1] : List (ByteArray))).length = AV.sl 3 0 (v2 ++ ([(gt p1 v3).1] : List (ByteArray))).length)) ∧ True) (by kernel_rfl) ⟨⟨⟨⟨(dt_all (enc := enc_s) rfl rfl), (dt_all (enc := enc_s) rfl rfl)⟩, (by simp only [List.length_map, List.length_nil, List.length_replicate]; simpa using g4)⟩, sl_len (enc := enc_s) (app_can (enc := enc_s) rfl (rfl))⟩, trivial⟩ trivial ?_
      refine AX.reg (its := [.auto { raw := true }]) [1, 5, 8, 9, 10] [3] (s1 := ⟨[(1, .fn 122 []), (5, .sl 3 0 ((v2 ++ ([(gt p1 v3).1] : List (ByteArray))).length)), (8, .bs false 2 (List.map enc_si p1)), (9, .v (.int .i64 (p1.length : Int))), (10, .v (.int .i64 (IntKind.wrap .i64 (v3 + 1))))], [(3, .arr 1 (List.map enc_s v2 ++ List.map enc_s ([(gt p1 v3).1] : List (ByteArray))))]⟩) (C := True) (by kernel_rfl) trivial trivial ?_
      refine ⟨(fu, (v2 ++ ([(gt p1 v3).1] : List (ByteArray)), IntKind.wrap .i64 (v3 + 1))), h, Nat.lt_succ_self _, ?_⟩
      refine Wk.trans (Wk.swap 0 3 (Nat.le_of_ble_eq_true (by kernel_rfl)) (Nat.le_of_ble_eq_true (by kernel_rfl)) rfl) ?_
      refine Wk.trans (Wk.forget [1, 5, 8, 9, 10] [0] (s' := ⟨[(1, .fn 122 []), (5, .sl 0 0 ((v2 ++ ([(gt p1 v3).1] : List (ByteArray))).length)), (8, .bs false 2 (List.map enc_si p1)), (9, .v (.int .i64 (p1.length : Int))), (10, .v (.int .i64 (IntKind.wrap .i64 (v3 + 1))))], [(0, .arr 1 (List.map enc_s v2 ++ List.map enc_s ([(gt p1 v3).1] : List (ByteArray))))]⟩) (by kernel_rfl)) ?_
      refine Wk.trans (Wk.of_eq (congrArg (fun z => (⟨[(1, .fn 122 []), (5, .sl 0 0 ((v2 ++ ([(gt p1 v3).1] : List (ByteArray))).length)), (8, .bs false 2 (List.map enc_si p1)), (9, .v (.int .i64 (p1.length : Int))), (10, .v (.int .i64 (IntKind.wrap .i64 (v3 + 1))))], [(0, .arr 1 (z))]⟩ : S)) (app_can (enc := enc_s) rfl (rfl) : List.map enc_s v2 ++ List.map enc_s ([(gt p1 v3).1] : List (ByteArray)) = List.map enc_s (v2 ++ ([(gt p1 v3).1] : List (ByteArray)))))) ?_
      exact Wk.refl _
    · replace h := cd_f b1 h
      refine AX.condF (decide (v3 < (p1.length : Int))) (by kernel_rfl) b1 ?_
      refine AX.exit ?_
      refine fin_wk (Wk.forget [5] [0] (s' := ⟨[(5, .sl 0 0 v2.length)], [(0, .arr 1 (List.map enc_s v2))]⟩) (by kernel_rfl)) ?_
      have hr := Option.some.inj h
      subst hr
      exact ⟨_, Wk.refl _, ⟨rfl, rfl⟩⟩

theorem s_impl_names_anyDef (p1 : List (ByteArray × Int)) (r : List (ByteArray)) (h : m_impl_names_anyDef p1 = some r) :
    Eng.Spec Try.prog 120 [.bs false 2 (List.map enc_si p1), .fn 122 []] [] (.sl 0 0 r.length) [.arr 1 (List.map enc_s r)] := by
  unfold m_impl_names_anyDef at h
  refine Eng.Spec.body Try.func120 (by kernel_rfl) rfl (by kernel_rfl) ?_
  refine AX.wkpost ?_
  refine AX.seq ?_
  refine AX.reg (its := []) [0, 1] [] (s1 := ⟨[(0, .bs false 2 (List.map enc_si p1)), (1, .fn 122 [])], []⟩) (C := True) (by kernel_rfl) trivial trivial ?_
  refine AX.seq ?_
  refine AX.reg (its := []) [0, 1, 5] [] (s1 := ⟨[(0, .bs false 2 (List.map enc_si p1)), (1, .fn 122 []), (5, .v (.slice none 0 0))], []⟩) (C := True) (by kernel_rfl) trivial trivial ?_
  refine AX.seq ?_
  refine AX.seq ?_
  refine AX.reg (its := [.auto {}, .auto { y := some (.v (.int .i64 (p1.length : Int))) }]) [1, 5, 8, 9, 10] [] (s1 := ⟨[(1, .fn 122 []), (5, .v (.slice none 0 0)), (8, .bs false 2 (List.map enc_si p1)), (9, .v (.int .i64 (p1.length : Int))), (10, .v (.int .i64 0))], []⟩) (C := (True ∧ (AV.v (.int .i64 ((List.map enc_si p1).length : Int)) = AV.v (.int .i64 (p1.length : Int)))) ∧ True) (by kernel_rfl) ⟨⟨trivial, len_map enc_si p1⟩, trivial⟩ trivial ?_
  refine AX.block ?_
  obtain ⟨x5, e5, h⟩ := bd_e h
  refine AX.wk (Wk.mat 5 0 1 (by kernel_rfl) (Nat.le_of_ble_eq_true (by kernel_rfl)) (by kernel_rfl) rfl) ?_
  refine AX.wk (Wk.forget [1, 5, 8, 9, 10] [0] (s' := ⟨[(1, .fn 122 []), (5, .sl 0 0 (([] : List (ByteArray)).length)), (8, .bs false 2 (List.map enc_si p1)), (9, .v (.int .i64 (p1.length : Int))), (10, .v (.int .i64 0))], [(0, .arr 1 (List.map enc_s ([] : List (ByteArray))))]⟩) (by kernel_rfl)) ?_
  refine AX.mono (s_impl_names_anyDef_L1 p1 FU (([] : List (ByteArray)), 0) x5 e5) ?_
  rintro _ _ ⟨rfl, rfl⟩
  skip
  refine AX.seq ?_
  obtain ⟨x6, e6, h⟩ := bd_e h
  refine AX.reg (its := [.auto {}, .call 118 [.sl 0 0 x5.length] (handO (rho ([0] ++ [])) [0] [.arr 1 (List.map enc_s x5)] ++ []) (callEv [0] [] (.sl 0 0 x5.length) [.arr 1 (List.map enc_s x5)])]) [4] [0] (s1 := ⟨[(4, .sl 0 0 x5.length)], [(0, .arr 1 (List.map enc_s x5))]⟩) (C := ((([.sl 0 0 x5.length] : List AV) = [.sl 0 0 x5.length]) ∧ (AO.arr 1 (List.map enc_s x5) = AO.arr 1 (List.map enc_s x5)) ∧ True) ∧ True) (by kernel_rfl) ⟨⟨rfl, rfl, trivial⟩, trivial⟩ ⟨call_ok (ks := [0]) (ns := []) (bor := []) (bobjs := []) (s_slices_Clip_hs x5 x6 e6) (.cons (.c1 (.c0 (.same _ (by kernel_rfl) (by kernel_rfl)))) (.nil)) (by kernel_rfl) ⟨.inr rfl, trivial⟩, trivial⟩ ?_
  refine AX.ret ?_
  refine fin_wk (Wk.forget [4] [0] (s' := ⟨[(4, .sl 0 0 x5.length)], [(0, .arr 1 (List.map enc_s x5))]⟩) (by kernel_rfl)) ?_
  have hr := Option.some.inj h
  subst hr
  exact ⟨_, Wk.refl _, .inr rfl, ⟨[0], by kernel_rfl, ⟨rfl, trivial⟩, [.sl 0 0 x5.length], by kernel_rfl, by kernel_rfl⟩⟩

theorem s_impl_MembersOf (p1 : List (ByteArray × Int)) (r : List (ByteArray)) (h : m_impl_MembersOf p1 = some r) :
    Eng.Spec Try.prog 46 [.agg [.bs false 2 (List.map enc_si p1)]] [] (.sl 0 0 r.length) [.arr 1 (List.map enc_s r)] := by
  unfold m_impl_MembersOf at h
  refine Eng.Spec.body Try.func46 (by kernel_rfl) rfl (by kernel_rfl) ?_
  refine AX.wkpost ?_
  refine AX.seq ?_
  refine AX.reg (its := [.auto { nk := 0 }]) [1] [0] (s1 := ⟨[(1, .pt 0 0)], [(0, .box [.bs false 2 (List.map enc_si p1)])]⟩) (C := True) (by kernel_rfl) trivial trivial ?_
  refine AX.seq ?_
  refine AX.seq ?_
  obtain ⟨x2, e1, h⟩ := bd_e h
  refine AX.reg (its := [.auto {}, .call 112 [.agg [.bs false 2 (List.map enc_si p1)]] (handO (rho ([] ++ [])) [] [] ++ []) (callEv [] [] (.v (.bool x2)) [])]) [1, 5] [0] (s1 := ⟨[(1, .pt 0 0), (5, .v (.bool (!x2)))], [(0, .box [.bs false 2 (List.map enc_si p1)])]⟩) (C := ((([.agg [.bs false 2 (List.map enc_si p1)]] : List AV) = [.agg [.bs false 2 (List.map enc_si p1)]]) ∧ True) ∧ True) (by kernel_rfl) ⟨⟨rfl, trivial⟩, trivial⟩ ⟨call_ok (ks := []) (ns := []) (bor := []) (bobjs := []) (s_impl_ValidEnum p1 x2 e1) (.cons (.c1 (.agg (.cons (.same _ (by kernel_rfl) (by kernel_rfl)) (.nil)))) (.nil)) (by kernel_rfl) trivial, trivial⟩ ?_
  rcases bool_cases ((!x2)) with b2 | b2
  · replace h := cd_t b2 h
    refine AX.condT ((!x2)) (by kernel_rfl) b2 ?_
    refine AX.seq ?_
    refine AX.reg (its := []) [2] [] (s1 := ⟨[(2, .v (.slice none 0 0))], []⟩) (C := True) (by kernel_rfl) trivial trivial ?_
    refine AX.ret ?_
    refine fin_wk (Wk.mat 2 0 1 (by kernel_rfl) (Nat.le_of_ble_eq_true (by kernel_rfl)) (by kernel_rfl) rfl) ?_
    refine fin_wk (Wk.forget [2] [0] (s' := ⟨[(2, .sl 0 0 (([] : List (ByteArray)).length))], [(0, .arr 1 (List.map enc_s ([] : List (ByteArray))))]⟩) (by kernel_rfl)) ?_
    have hr := Option.some.inj h
    subst hr
    exact ⟨_, Wk.refl _, .inr rfl, ⟨[0], by kernel_rfl, ⟨rfl, trivial⟩, [.sl 0 0 (([] : List (ByteArray)).length)], by kernel_rfl, by kernel_rfl⟩⟩
  · replace h := cd_f b2 h
    refine AX.condF ((!x2)) (by kernel_rfl) b2 ?_
    refine AX.skip ?_
    refine AX.seq ?_
    obtain ⟨x3, e3, h⟩ := bd_e h
    obtain ⟨x4, e4, h⟩ := bd_e h
    refine AX.reg (its := [.auto {}, .call 117 [.agg [.bs false 2 (List.map enc_si p1)]] (handO (rho ([] ++ [1])) [] [] ++ []) (callEv [] [1] (.sl 0 0 x3.length) [.arr 2 (List.map enc_si x3)]), .call 120 [.sl 1 0 x3.length, .fn 122 []] (handO (rho ([] ++ [2])) [] [] ++ [(1, .arr 2 (List.map enc_si x3))]) (callEv [] [2] (.sl 0 0 x4.length) [.arr 1 (List.map enc_s x4)])]) [2] [2] (s1 := ⟨[(2, .sl 2 0 x4.length)], [(2, .arr 1 (List.map enc_s x4))]⟩) (C := ((([.agg [.bs false 2 (List.map enc_si p1)]] : List AV) = [.agg [.bs false 2 (List.map enc_si p1)]]) ∧ True) ∧ ((([.sl 1 0 x3.length, .fn 122 []] : List AV) = [.sl 1 0 x3.length, .fn 122 []]) ∧ (AO.arr 2 (List.map enc_si x3) = AO.arr 2 (List.map enc_si x3)) ∧ True) ∧ True) (by kernel_rfl) ⟨⟨rfl, trivial⟩, ⟨⟨rfl, rfl, trivial⟩, trivial⟩⟩ ⟨call_ok (ks := []) (ns := [1]) (bor := []) (bobjs := []) (s_impl_Enum_members p1 x3 e3) (.cons (.c1 (.agg (.cons (.same _ (by kernel_rfl) (by kernel_rfl)) (.nil)))) (.nil)) (by kernel_rfl) trivial, ⟨call_ok (ks := []) (ns := [2]) (bor := [1]) (bobjs := [(1, .arr 2 (List.map enc_si x3))]) (s_impl_names_anyDef x3 x4 e4) (.cons (.c1 (.c0 (.arr rfl rfl ((rfl).trans (List.length_map ..).symm)))) (.cons (.fn (.nil)) (.nil))) (by kernel_rfl) trivial, trivial⟩⟩ ?_
    refine AX.ret ?_
    refine fin_wk (Wk.swap 0 2 (Nat.le_of_ble_eq_true (by kernel_rfl)) (Nat.le_of_ble_eq_true (by kernel_rfl)) rfl) ?_
    refine fin_wk (Wk.forget [2] [0] (s' := ⟨[(2, .sl 0 0 x4.length)], [(0, .arr 1 (List.map enc_s x4))]⟩) (by kernel_rfl)) ?_
    have hr := Option.some.inj h
    subst hr
    exact ⟨_, Wk.refl _, .inr rfl, ⟨[0], by kernel_rfl, ⟨rfl, trivial⟩, [.sl 0 0 x4.length], by kernel_rfl, by kernel_rfl⟩⟩

theorem s_laws_hasText_L1 (p1 : List (ByteArray)) (p2 : ByteArray) (n : Nat) (g : Int) (out : Unit ⊕ Unit) (h : m_laws_hasText_L1 p1 p2 n g = some out) :
    AX Try.prog 18 0 (codeAt [1, 0, 1, 1] (bodyOf Try.f47)) ((fun g : Int => (⟨[(0, .bs false 1 (List.map enc_s p1)), (1, .v (.string p2)), (5, .v (.int .i64 g))], []⟩ : S)) g) (fun ex s => (∃ o : Unit, out = Sum.inl o ∧ ex = .ret ∧ s = ⟨[(4, .v (.bool true))], []⟩) ∨ (∃ o : Unit, out = Sum.inr o ∧ ex = .exit 0 ∧ s = ⟨[], []⟩)) := by
  refine AX.wkpost ?_
  refine AX.loop (G := Nat × (Int)) (fun q => (fun g : Int => (⟨[(0, .bs false 1 (List.map enc_s p1)), (1, .v (.string p2)), (5, .v (.int .i64 g))], []⟩ : S)) q.2) (fun q => m_laws_hasText_L1 p1 p2 q.1 q.2 = some out) (fun q => q.1) (n, g) h (Wk.refl _) ?_
  clear h
  rintro ⟨fu, v3⟩ h
  cases fu with
  | zero => cases h
  | succ fu =>
    rw [m_laws_hasText_L1] at h
    refine AX.seq ?_
    refine AX.seq ?_
    refine AX.reg (its := [.auto {}, .auto {}, .auto { y := some (.v (.int .i64 (p1.length : Int))) }]) [0, 1, 5, 9] [] (s1 := ⟨[(0, .bs false 1 (List.map enc_s p1)), (1, .v (.string p2)), (5, .v (.int .i64 v3)), (9, .v (.bool (decide (v3 < (p1.length : Int)))))], []⟩) (C := (True ∧ (AV.v (.int .i64 ((List.map enc_s p1).length : Int)) = AV.v (.int .i64 (p1.length : Int)))) ∧ True) (by kernel_rfl) ⟨⟨trivial, len_map enc_s p1⟩, trivial⟩ trivial ?_
    rcases bool_cases (decide (v3 < (p1.length : Int))) with b1 | b1
    · replace h := cd_t b1 h
      refine AX.condT (decide (v3 < (p1.length : Int))) (by kernel_rfl) b1 ?_
      refine AX.skip ?_
      refine AX.seq ?_
      refine AX.block ?_
      refine AX.seq ?_
      obtain ⟨g2, h⟩ := gd_e h
      refine AX.reg (its := [.auto {}, .auto {}, .auto { y := some (.be 1 (enc_s (gt p1 v3)) 0) }]) [0, 1, 5, 17] [] (s1 := ⟨[(0, .bs false 1 (List.map enc_s p1)), (1, .v (.string p2)), (5, .v (.int .i64 v3)), (17, .v (.bool (decide ((gt p1 v3) = p2))))], []⟩) (C := ((0 ≤ v3 ∧ v3 < ((List.map enc_s p1).length : Int)) ∧ (AV.be 1 ((List.map enc_s p1).getD v3.toNat []) 0 = AV.be 1 (enc_s (gt p1 v3)) 0)) ∧ True) (by kernel_rfl) ⟨idx_bs enc_s p1 v3 1 g2, trivial⟩ trivial ?_
      rcases bool_cases (decide ((gt p1 v3) = p2)) with b3 | b3
      · replace h := cd_t b3 h
        refine AX.condT (decide ((gt p1 v3) = p2)) (by kernel_rfl) b3 ?_
        refine AX.seq ?_
        refine AX.reg (its := []) [4] [] (s1 := ⟨[(4, .v (.bool true))], []⟩) (C := True) (by kernel_rfl) trivial trivial ?_
        refine AX.ret ?_
        refine fin_wk (Wk.forget [4] [] (s' := ⟨[(4, .v (.bool true))], []⟩) (by kernel_rfl)) ?_
        have hr := Option.some.inj h
        subst hr
        exact ⟨_, Wk.refl _, .inl ⟨(), rfl, rfl, rfl⟩⟩
      · replace h := cd_f b3 h
        refine AX.condF (decide ((gt p1 v3) = p2)) (by kernel_rfl) b3 ?_
        refine AX.skip ?_
        refine AX.reg (its := [.auto {}, .auto { raw := true }]) [0, 1, 5] [] (s1 := ⟨[(0, .bs false 1 (List.map enc_s p1)), (1, .v (.string p2)), (5, .v (.int .i64 (IntKind.wrap .i64 (v3 + 1))))], []⟩) (C := True) (by kernel_rfl) trivial trivial ?_
        refine ⟨(fu, IntKind.wrap .i64 (v3 + 1)), h, Nat.lt_succ_self _, ?_⟩
        refine Wk.trans (Wk.forget [0, 1, 5] [] (s' := ⟨[(0, .bs false 1 (List.map enc_s p1)), (1, .v (.string p2)), (5, .v (.int .i64 (IntKind.wrap .i64 (v3 + 1))))], []⟩) (by kernel_rfl)) ?_
        exact Wk.refl _
    · replace h := cd_f b1 h
      refine AX.condF (decide (v3 < (p1.length : Int))) (by kernel_rfl) b1 ?_
      refine AX.exit ?_
      refine fin_wk (Wk.forget [] [] (s' := ⟨[], []⟩) (by kernel_rfl)) ?_
      have hr := Option.some.inj h
      subst hr
      exact ⟨_, Wk.refl _, .inr ⟨(), rfl, rfl, rfl⟩⟩

theorem s_laws_hasText (p1 : List (ByteArray)) (p2 : ByteArray) (r : Bool) (h : m_laws_hasText p1 p2 = some r) :
    Eng.Spec Try.prog 47 [.bs false 1 (List.map enc_s p1), .v (.string p2)] [] (.v (.bool r)) [] := by
  unfold m_laws_hasText at h
  refine Eng.Spec.body Try.func47 (by kernel_rfl) rfl (by kernel_rfl) ?_
  refine AX.wkpost ?_
  refine AX.seq ?_
  refine AX.reg (its := []) [0, 1] [] (s1 := ⟨[(0, .bs false 1 (List.map enc_s p1)), (1, .v (.string p2))], []⟩) (C := True) (by kernel_rfl) trivial trivial ?_
  refine AX.seq ?_
  refine AX.seq ?_
  refine AX.reg (its := []) [0, 1, 5] [] (s1 := ⟨[(0, .bs false 1 (List.map enc_s p1)), (1, .v (.string p2)), (5, .v (.int .i64 0))], []⟩) (C := True) (by kernel_rfl) trivial trivial ?_
  refine AX.block ?_
  obtain ⟨x4, e4, h⟩ := bd_e h
  refine AX.wk (Wk.forget [0, 1, 5] [] (s' := ⟨[(0, .bs false 1 (List.map enc_s p1)), (1, .v (.string p2)), (5, .v (.int .i64 0))], []⟩) (by kernel_rfl)) ?_
  refine AX.mono (s_laws_hasText_L1 p1 p2 FU 0 x4 e4) ?_
  rintro _ _ (⟨x5, rfl, rfl, rfl⟩ | ⟨x6, rfl, rfl, rfl⟩)
  · replace h := sm_l h
    refine fin_wk (Wk.forget [4] [] (s' := ⟨[(4, .v (.bool true))], []⟩) (by kernel_rfl)) ?_
    have hr := Option.some.inj h
    subst hr
    exact ⟨_, Wk.refl _, .inr rfl, ⟨[], by kernel_rfl, trivial, [.v (.bool true)], by kernel_rfl, by kernel_rfl⟩⟩
  · replace h := sm_r h
    refine AX.seq ?_
    refine AX.reg (its := []) [4] [] (s1 := ⟨[(4, .v (.bool false))], []⟩) (C := True) (by kernel_rfl) trivial trivial ?_
    refine AX.ret ?_
    refine fin_wk (Wk.forget [4] [] (s' := ⟨[(4, .v (.bool false))], []⟩) (by kernel_rfl)) ?_
    have hr := Option.some.inj h
    subst hr
    exact ⟨_, Wk.refl _, .inr rfl, ⟨[], by kernel_rfl, trivial, [.v (.bool false)], by kernel_rfl, by kernel_rfl⟩⟩

theorem s_laws_FnSetOf_L1 (x2 : (List (ByteArray × Int)) × List (ByteArray)) (x3 : Int × Bool) (x5 : List (ByteArray)) (x6 : List (ByteArray)) (x7 : List (ByteArray)) (n : Nat) (g : Int) (out : Unit ⊕ Unit) (h : m_laws_FnSetOf_L1 x2 x3 x5 x6 x7 n g = some out) :
    AX Try.prog 104 0 (codeAt [1, 1, 1, 1, 1, 1, 1, 1, 1, 0, 1, 1] (bodyOf Try.f8)) ((fun g : Int => (⟨[(3, .pt 0 0), (5, .v (.int .i64 x3.1)), (9, .sl 2 0 x5.length), (10, .sl 3 0 x6.length), (11, .sl 4 0 x7.length), (12, .v (.int .i64 g))], [(0, .box [.sl 1 0 x2.1.length]), (1, .arr 2 (List.map enc_si x2.1)), (2, .arr 1 (List.map enc_s x5)), (3, .arr 1 (List.map enc_s x6)), (4, .arr 1 (List.map enc_s x7))]⟩ : S)) g) (fun ex s => (∃ o : Unit, out = Sum.inl o ∧ ex = .ret ∧ s = ⟨[(2, .v (.bool false))], []⟩) ∨ (∃ o : Unit, out = Sum.inr o ∧ ex = .exit 0 ∧ s = ⟨[(3, .pt 0 0), (5, .v (.int .i64 x3.1)), (9, .sl 2 0 x5.length), (10, .sl 3 0 x6.length), (11, .sl 4 0 x7.length)], [(0, .box [.sl 1 0 x2.1.length]), (1, .arr 2 (List.map enc_si x2.1)), (2, .arr 1 (List.map enc_s x5)), (3, .arr 1 (List.map enc_s x6)), (4, .arr 1 (List.map enc_s x7))]⟩)) := by
  refine AX.wkpost ?_
  refine AX.loop (G := Nat × (Int)) (fun q => (fun g : Int => (⟨[(3, .pt 0 0), (5, .v (.int .i64 x3.1)), (9, .sl 2 0 x5.length), (10, .sl 3 0 x6.length), (11, .sl 4 0 x7.length), (12, .v (.int .i64 g))], [(0, .box [.sl 1 0 x2.1.length]), (1, .arr 2 (List.map enc_si x2.1)), (2, .arr 1 (List.map enc_s x5)), (3, .arr 1 (List.map enc_s x6)), (4, .arr 1 (List.map enc_s x7))]⟩ : S)) q.2) (fun q => m_laws_FnSetOf_L1 x2 x3 x5 x6 x7 q.1 q.2 = some out) (fun q => q.1) (n, g) h (Wk.refl _) ?_
  clear h
  rintro ⟨fu, v8⟩ h
  cases fu with
  | zero => cases h
  | succ fu =>
    rw [m_laws_FnSetOf_L1] at h
    refine AX.seq ?_
    refine AX.seq ?_
    refine AX.reg (its := []) [3, 5, 9, 10, 11, 12, 66] [0, 1, 2, 3, 4] (s1 := ⟨[(3, .pt 0 0), (5, .v (.int .i64 x3.1)), (9, .sl 2 0 x5.length), (10, .sl 3 0 x6.length), (11, .sl 4 0 x7.length), (12, .v (.int .i64 v8)), (66, .v (.bool (decide (v8 < (x7.length : Int)))))], [(0, .box [.sl 1 0 x2.1.length]), (1, .arr 2 (List.map enc_si x2.1)), (2, .arr 1 (List.map enc_s x5)), (3, .arr 1 (List.map enc_s x6)), (4, .arr 1 (List.map enc_s x7))]⟩) (C := True) (by kernel_rfl) trivial trivial ?_
    rcases bool_cases (decide (v8 < (x7.length : Int))) with b14 | b14
    · replace h := cd_t b14 h
      refine AX.condT (decide (v8 < (x7.length : Int))) (by kernel_rfl) b14 ?_
      refine AX.skip ?_
      refine AX.seq ?_
      refine AX.block ?_
      refine AX.seq ?_
      obtain ⟨g15, h⟩ := gd_e h
      obtain ⟨x9, e16, h⟩ := bd_e h
      obtain ⟨x10, e17, h⟩ := bd_e h
      refine AX.drw mixed (its := [.auto {}, .auto {}, .auto {}, .auto {}, .auto { y := some (.v (.string (gt x7 v8))) }, .call 47 [.sl 2 0 x5.length, .v (.string (gt x7 v8))] (handO (rho ([] ++ [])) [] [] ++ [(2, .arr 1 (List.map enc_s x5))]) (callEv [] [] (.v (.bool x9)) []), .auto {}, .auto {}, .auto {}, .auto {}, .auto { y := some (.v (.string (gt x7 v8))) }, .call 47 [.sl 3 0 x6.length, .v (.string (gt x7 v8))] (handO (rho ([] ++ [])) [] [] ++ [(3, .arr 1 (List.map enc_s x6))]) (callEv [] [] (.v (.bool x10)) [])]) [3, 5, 9, 10, 11, 12, 81] [0, 1, 2, 3, 4] (s1 := ⟨[(3, .pt 0 0), (5, .v (.int .i64 x3.1)), (9, .sl 2 0 x5.length), (10, .sl 3 0 x6.length), (11, .sl 4 0 x7.length), (12, .v (.int .i64 v8)), (81, .v (.bool (x9 == x10)))], [(0, .box [.sl 1 0 x2.1.length]), (1, .arr 2 (List.map enc_si x2.1)), (2, .arr 1 (List.map enc_s x5)), (3, .arr 1 (List.map enc_s x6)), (4, .arr 1 (List.map enc_s x7))]⟩) (C := (0 ≤ v8 ∧ v8 < (x7.length : Int)) ∧ (True ∧ (AV.v (((List.map enc_s x7).getD (0 + v8.toNat) []).getD 0 undef) = .v (.string (gt x7 v8)))) ∧ ((([.sl 2 0 x5.length, .v (.string (gt x7 v8))] : List AV) = [.sl 2 0 x5.length, .v (.string (gt x7 v8))]) ∧ (AO.arr 1 (List.map enc_s x5) = AO.arr 1 (List.map enc_s x5)) ∧ True) ∧ (0 ≤ v8 ∧ v8 < (x7.length : Int)) ∧ (True ∧ (AV.v (((List.map enc_s x7).getD (0 + v8.toNat) []).getD 0 undef) = .v (.string (gt x7 v8)))) ∧ ((([.sl 3 0 x6.length, .v (.string (gt x7 v8))] : List AV) = [.sl 3 0 x6.length, .v (.string (gt x7 v8))]) ∧ (AO.arr 1 (List.map enc_s x6) = AO.arr 1 (List.map enc_s x6)) ∧ True) ∧ True) (by kernel_rfl) ⟨g15, ⟨⟨trivial, (congrArg (fun z : List Value => AV.v (z.getD 0 undef)) (idx_arr (enc := enc_s) rfl g15))⟩, ⟨⟨rfl, rfl, trivial⟩, ⟨g15, ⟨⟨trivial, (congrArg (fun z : List Value => AV.v (z.getD 0 undef)) (idx_arr (enc := enc_s) rfl g15))⟩, ⟨⟨rfl, rfl, trivial⟩, trivial⟩⟩⟩⟩⟩⟩ ⟨call_ok (ks := []) (ns := []) (bor := [2]) (bobjs := [(2, .arr 1 (List.map enc_s x5))]) (s_laws_hasText x5 (gt x7 v8) x9 e16) (.cons (.c1 (.c0 (.arr rfl rfl ((rfl).trans (List.length_map ..).symm)))) (.cons (.c1 (.c0 (.same _ (by kernel_rfl) (by kernel_rfl)))) (.nil))) (by kernel_rfl) trivial, ⟨call_ok (ks := []) (ns := []) (bor := [3]) (bobjs := [(3, .arr 1 (List.map enc_s x6))]) (s_laws_hasText x6 (gt x7 v8) x10 e17) (.cons (.c1 (.c0 (.arr rfl rfl ((rfl).trans (List.length_map ..).symm)))) (.cons (.c1 (.c0 (.same _ (by kernel_rfl) (by kernel_rfl)))) (.nil))) (by kernel_rfl) trivial, trivial⟩⟩ ?_
      rcases bool_cases ((x9 == x10)) with b18 | b18
      · replace h := cd_t b18 h
        refine AX.condT ((x9 == x10)) (by kernel_rfl) b18 ?_
        refine AX.seq ?_
        refine AX.reg (its := []) [2] [] (s1 := ⟨[(2, .v (.bool false))], []⟩) (C := True) (by kernel_rfl) trivial trivial ?_
        refine AX.ret ?_
        refine fin_wk (Wk.forget [2] [] (s' := ⟨[(2, .v (.bool false))], []⟩) (by kernel_rfl)) ?_
        have hr := Option.some.inj h
        subst hr
        exact ⟨_, Wk.refl _, .inl ⟨(), rfl, rfl, rfl⟩⟩
      · replace h := cd_f b18 h
        refine AX.condF ((x9 == x10)) (by kernel_rfl) b18 ?_
        refine AX.skip ?_
        refine AX.reg (its := [.auto {}, .auto { raw := true }]) [3, 5, 9, 10, 11, 12] [0, 1, 2, 3, 4] (s1 := ⟨[(3, .pt 0 0), (5, .v (.int .i64 x3.1)), (9, .sl 2 0 x5.length), (10, .sl 3 0 x6.length), (11, .sl 4 0 x7.length), (12, .v (.int .i64 (IntKind.wrap .i64 (v8 + 1))))], [(0, .box [.sl 1 0 x2.1.length]), (1, .arr 2 (List.map enc_si x2.1)), (2, .arr 1 (List.map enc_s x5)), (3, .arr 1 (List.map enc_s x6)), (4, .arr 1 (List.map enc_s x7))]⟩) (C := True) (by kernel_rfl) trivial trivial ?_
        refine ⟨(fu, IntKind.wrap .i64 (v8 + 1)), h, Nat.lt_succ_self _, ?_⟩
        refine Wk.trans (Wk.forget [3, 5, 9, 10, 11, 12] [0, 1, 2, 3, 4] (s' := ⟨[(3, .pt 0 0), (5, .v (.int .i64 x3.1)), (9, .sl 2 0 x5.length), (10, .sl 3 0 x6.length), (11, .sl 4 0 x7.length), (12, .v (.int .i64 (IntKind.wrap .i64 (v8 + 1))))], [(0, .box [.sl 1 0 x2.1.length]), (1, .arr 2 (List.map enc_si x2.1)), (2, .arr 1 (List.map enc_s x5)), (3, .arr 1 (List.map enc_s x6)), (4, .arr 1 (List.map enc_s x7))]⟩) (by kernel_rfl)) ?_
        exact Wk.refl _
    · replace h := cd_f b14 h
      refine AX.condF (decide (v8 < (x7.length : Int))) (by kernel_rfl) b14 ?_
      refine AX.exit ?_
      refine fin_wk (Wk.forget [3, 5, 9, 10, 11] [0, 1, 2, 3, 4] (s' := ⟨[(3, .pt 0 0), (5, .v (.int .i64 x3.1)), (9, .sl 2 0 x5.length), (10, .sl 3 0 x6.length), (11, .sl 4 0 x7.length)], [(0, .box [.sl 1 0 x2.1.length]), (1, .arr 2 (List.map enc_si x2.1)), (2, .arr 1 (List.map enc_s x5)), (3, .arr 1 (List.map enc_s x6)), (4, .arr 1 (List.map enc_s x7))]⟩) (by kernel_rfl)) ?_
      have hr := Option.some.inj h
      subst hr
      exact ⟨_, Wk.refl _, .inr ⟨(), rfl, rfl, rfl⟩⟩

theorem s_laws_FnSetOf (p1 : List (Int)) (r : Bool) (h : m_laws_FnSetOf p1 = some r) :
    Eng.Spec Try.prog 8 [.bs true 1 (List.map enc_y p1)] [] (.v (.bool r)) [] := by
  unfold m_laws_FnSetOf at h
  refine Eng.Spec.body Try.func8 (by kernel_rfl) rfl (by kernel_rfl) ?_
  refine AX.wkpost ?_
  refine AX.seq ?_
  refine AX.reg (its := []) [0] [] (s1 := ⟨[(0, .bs true 1 (List.map enc_y p1))], []⟩) (C := True) (by kernel_rfl) trivial trivial ?_
  refine AX.seq ?_
  refine AX.seq ?_
  refine AX.reg (its := [.auto {}, .auto { y := some (.v (.int .i64 (p1.length : Int))) }]) [0, 17] [] (s1 := ⟨[(0, .bs true 1 (List.map enc_y p1)), (17, .v (.bool (decide (1048576 < (p1.length : Int)))))], []⟩) (C := (True ∧ (AV.v (.int .i64 ((List.map enc_y p1).length : Int)) = AV.v (.int .i64 (p1.length : Int)))) ∧ True) (by kernel_rfl) ⟨⟨trivial, len_map enc_y p1⟩, trivial⟩ trivial ?_
  rcases bool_cases (decide (1048576 < (p1.length : Int))) with b1 | b1
  · replace h := cd_t b1 h
    refine AX.condT (decide (1048576 < (p1.length : Int))) (by kernel_rfl) b1 ?_
    refine AX.seq ?_
    refine AX.reg (its := []) [2] [] (s1 := ⟨[(2, .v (.bool true))], []⟩) (C := True) (by kernel_rfl) trivial trivial ?_
    refine AX.ret ?_
    refine fin_wk (Wk.forget [2] [] (s' := ⟨[(2, .v (.bool true))], []⟩) (by kernel_rfl)) ?_
    have hr := Option.some.inj h
    subst hr
    exact ⟨_, Wk.refl _, .inr rfl, ⟨[], by kernel_rfl, trivial, [.v (.bool true)], by kernel_rfl, by kernel_rfl⟩⟩
  · replace h := cd_f b1 h
    refine AX.condF (decide (1048576 < (p1.length : Int))) (by kernel_rfl) b1 ?_
    refine AX.skip ?_
    refine AX.seq ?_
    obtain ⟨x2, e2, h⟩ := bd_e h
    refine AX.reg (its := [.auto {}, .call 41 [.bs true 1 (List.map enc_y p1)] (handO (rho ([] ++ [0, 1])) [] [] ++ []) (callEv [] [0, 1] (.tup [.agg [.sl 0 0 x2.1.length], .sl 1 0 x2.2.length]) [.arr 2 (List.map enc_si x2.1), .arr 1 (List.map enc_s x2.2)]), .auto {}, .auto {}, .auto {}, .auto { nk := 2 }]) [3, 4] [0, 1, 2] (s1 := ⟨[(3, .pt 2 0), (4, .sl 1 0 x2.2.length)], [(0, .arr 2 (List.map enc_si x2.1)), (1, .arr 1 (List.map enc_s x2.2)), (2, .box [.sl 0 0 x2.1.length])]⟩) (C := ((([.bs true 1 (List.map enc_y p1)] : List AV) = [.bs true 1 (List.map enc_y p1)]) ∧ True) ∧ True) (by kernel_rfl) ⟨⟨rfl, trivial⟩, trivial⟩ ⟨call_ok (ks := []) (ns := [0, 1]) (bor := []) (bobjs := []) (s_spec_DrawSetOf p1 x2 e2) (.cons (.c1 (.c0 (.same _ (by kernel_rfl) (by kernel_rfl)))) (.nil)) (by kernel_rfl) trivial, trivial⟩ ?_
    refine AX.seq ?_
    obtain ⟨x3, e3, h⟩ := bd_e h
    refine AX.reg (its := [.auto {}, .auto {}, .call 42 [.agg [.sl 0 0 x2.1.length], .sl 1 0 x2.2.length] (handO (rho ([] ++ [])) [] [] ++ [(0, .arr 2 (List.map enc_si x2.1)), (1, .arr 1 (List.map enc_s x2.2))]) (callEv [] [] (.tup [.v (.int .i64 x3.1), .v (.bool x3.2)]) [])]) [3, 4, 5, 6] [0, 1, 2] (s1 := ⟨[(3, .pt 2 0), (4, .sl 1 0 x2.2.length), (5, .v (.int .i64 x3.1)), (6, .v (.bool x3.2))], [(0, .arr 2 (List.map enc_si x2.1)), (1, .arr 1 (List.map enc_s x2.2)), (2, .box [.sl 0 0 x2.1.length])]⟩) (C := ((([.agg [.sl 0 0 x2.1.length], .sl 1 0 x2.2.length] : List AV) = [.agg [.sl 0 0 x2.1.length], .sl 1 0 x2.2.length]) ∧ (AO.arr 2 (List.map enc_si x2.1) = AO.arr 2 (List.map enc_si x2.1)) ∧ (AO.arr 1 (List.map enc_s x2.2) = AO.arr 1 (List.map enc_s x2.2)) ∧ True) ∧ True) (by kernel_rfl) ⟨⟨rfl, rfl, rfl, trivial⟩, trivial⟩ ⟨call_ok (ks := []) (ns := []) (bor := [0, 1]) (bobjs := [(0, .arr 2 (List.map enc_si x2.1)), (1, .arr 1 (List.map enc_s x2.2))]) (s_impl_SetOf x2.1 x2.2 x3 e3) (.cons (.c1 (.agg (.cons (.arr rfl rfl ((rfl).trans (List.length_map ..).symm)) (.nil)))) (.cons (.c1 (.c0 (.arr rfl rfl ((rfl).trans (List.length_map ..).symm)))) (.nil))) (by kernel_rfl) trivial, trivial⟩ ?_
    refine AX.seq ?_
    obtain ⟨x4, e4, h⟩ := bd_e h
    refine AX.reg (its := [.auto {}, .auto {}, .call 43 [.agg [.sl 0 0 x2.1.length], .sl 1 0 x2.2.length] (handO (rho ([] ++ [])) [] [] ++ [(0, .arr 2 (List.map enc_si x2.1)), (1, .arr 1 (List.map enc_s x2.2))]) (callEv [] [] (.tup [.v (.int .i64 x4.1), .v (.bool x4.2)]) [])]) [3, 4, 5, 6, 7, 8] [0, 1, 2] (s1 := ⟨[(3, .pt 2 0), (4, .sl 1 0 x2.2.length), (5, .v (.int .i64 x3.1)), (6, .v (.bool x3.2)), (7, .v (.int .i64 x4.1)), (8, .v (.bool x4.2))], [(0, .arr 2 (List.map enc_si x2.1)), (1, .arr 1 (List.map enc_s x2.2)), (2, .box [.sl 0 0 x2.1.length])]⟩) (C := ((([.agg [.sl 0 0 x2.1.length], .sl 1 0 x2.2.length] : List AV) = [.agg [.sl 0 0 x2.1.length], .sl 1 0 x2.2.length]) ∧ (AO.arr 2 (List.map enc_si x2.1) = AO.arr 2 (List.map enc_si x2.1)) ∧ (AO.arr 1 (List.map enc_s x2.2) = AO.arr 1 (List.map enc_s x2.2)) ∧ True) ∧ True) (by kernel_rfl) ⟨⟨rfl, rfl, rfl, trivial⟩, trivial⟩ ⟨call_ok (ks := []) (ns := []) (bor := [0, 1]) (bobjs := [(0, .arr 2 (List.map enc_si x2.1)), (1, .arr 1 (List.map enc_s x2.2))]) (s_spec_SetOf x2.1 x2.2 x4 e4) (.cons (.c1 (.agg (.cons (.arr rfl rfl ((rfl).trans (List.length_map ..).symm)) (.nil)))) (.cons (.c1 (.c0 (.arr rfl rfl ((rfl).trans (List.length_map ..).symm)))) (.nil))) (by kernel_rfl) trivial, trivial⟩ ?_
    refine AX.seq ?_
    refine AX.seq ?_
    rcases bool_cases ((!decide (x3.1 = x4.1))) with b5 | b5
    · replace h := cd_t b5 h
      refine AX.reg (its := [.auto {}, .auto {}, .auto { y := some (.v (.bool true)) }]) [3, 4, 5, 6, 7, 8, 46] [0, 1, 2] (s1 := ⟨[(3, .pt 2 0), (4, .sl 1 0 x2.2.length), (5, .v (.int .i64 x3.1)), (6, .v (.bool x3.2)), (7, .v (.int .i64 x4.1)), (8, .v (.bool x4.2)), (46, .v (.bool true))], [(0, .arr 2 (List.map enc_si x2.1)), (1, .arr 1 (List.map enc_s x2.2)), (2, .box [.sl 0 0 x2.1.length])]⟩) (C := ((True) ∧ ((.v (.bool (!decide (x3.1 = x4.1))) : AV) = (.v (.bool true) : AV))) ∧ True) (by kernel_rfl) ⟨⟨trivial, (congrArg (fun z => AV.v (.bool z)) b5)⟩, trivial⟩ trivial ?_
      refine AX.cond_true (by kernel_rfl) ?_
      refine AX.seq ?_
      rcases bool_cases (decide (x3.1 = x4.1)) with b6 | b6
      · replace h := cd_t b6 h
        refine AX.reg (its := [.auto {}, .auto {}, .auto { y := some (.v (.bool true)) }]) [2] [] (s1 := ⟨[(2, .v (.bool (x3.2 == x4.2)))], []⟩) (C := ((True) ∧ ((.v (.bool (decide (x3.1 = x4.1))) : AV) = (.v (.bool true) : AV))) ∧ True) (by kernel_rfl) ⟨⟨trivial, (congrArg (fun z => AV.v (.bool z)) b6)⟩, trivial⟩ trivial ?_
        refine AX.ret ?_
        refine fin_wk (Wk.forget [2] [] (s' := ⟨[(2, .v (.bool (x3.2 == x4.2)))], []⟩) (by kernel_rfl)) ?_
        have hr := Option.some.inj h
        subst hr
        exact ⟨_, Wk.refl _, .inr rfl, ⟨[], by kernel_rfl, trivial, [.v (.bool (x3.2 == x4.2))], by kernel_rfl, by kernel_rfl⟩⟩
      · replace h := cd_f b6 h
        refine AX.reg (its := [.auto {}, .auto {}, .auto { y := some (.v (.bool false)) }]) [2] [] (s1 := ⟨[(2, .v (.bool false))], []⟩) (C := ((True) ∧ ((.v (.bool (decide (x3.1 = x4.1))) : AV) = (.v (.bool false) : AV))) ∧ True) (by kernel_rfl) ⟨⟨trivial, (congrArg (fun z => AV.v (.bool z)) b6)⟩, trivial⟩ trivial ?_
        refine AX.ret ?_
        refine fin_wk (Wk.forget [2] [] (s' := ⟨[(2, .v (.bool false))], []⟩) (by kernel_rfl)) ?_
        have hr := Option.some.inj h
        subst hr
        exact ⟨_, Wk.refl _, .inr rfl, ⟨[], by kernel_rfl, trivial, [.v (.bool false)], by kernel_rfl, by kernel_rfl⟩⟩
    · replace h := cd_f b5 h
      rcases bool_cases ((!(x3.2 == x4.2))) with b7 | b7
      · replace h := cd_t b7 h
        refine AX.reg (its := [.auto {}, .auto {}, .auto { y := some (.v (.bool false)) }, .auto {}, .auto {}, .auto {}, .auto { y := some (.v (.bool true)) }]) [3, 4, 5, 6, 7, 8, 46] [0, 1, 2] (s1 := ⟨[(3, .pt 2 0), (4, .sl 1 0 x2.2.length), (5, .v (.int .i64 x3.1)), (6, .v (.bool x3.2)), (7, .v (.int .i64 x4.1)), (8, .v (.bool x4.2)), (46, .v (.bool true))], [(0, .arr 2 (List.map enc_si x2.1)), (1, .arr 1 (List.map enc_s x2.2)), (2, .box [.sl 0 0 x2.1.length])]⟩) (C := ((True) ∧ ((.v (.bool (!decide (x3.1 = x4.1))) : AV) = (.v (.bool false) : AV))) ∧ ((True) ∧ ((.v (.bool (!(x3.2 == x4.2))) : AV) = (.v (.bool true) : AV))) ∧ True) (by kernel_rfl) ⟨⟨trivial, (congrArg (fun z => AV.v (.bool z)) b5)⟩, ⟨⟨trivial, (congrArg (fun z => AV.v (.bool z)) b7)⟩, trivial⟩⟩ trivial ?_
        refine AX.cond_true (by kernel_rfl) ?_
        refine AX.seq ?_
        rcases bool_cases (decide (x3.1 = x4.1)) with b8 | b8
        · replace h := cd_t b8 h
          refine AX.reg (its := [.auto {}, .auto {}, .auto { y := some (.v (.bool true)) }]) [2] [] (s1 := ⟨[(2, .v (.bool (x3.2 == x4.2)))], []⟩) (C := ((True) ∧ ((.v (.bool (decide (x3.1 = x4.1))) : AV) = (.v (.bool true) : AV))) ∧ True) (by kernel_rfl) ⟨⟨trivial, (congrArg (fun z => AV.v (.bool z)) b8)⟩, trivial⟩ trivial ?_
          refine AX.ret ?_
          refine fin_wk (Wk.forget [2] [] (s' := ⟨[(2, .v (.bool (x3.2 == x4.2)))], []⟩) (by kernel_rfl)) ?_
          have hr := Option.some.inj h
          subst hr
          exact ⟨_, Wk.refl _, .inr rfl, ⟨[], by kernel_rfl, trivial, [.v (.bool (x3.2 == x4.2))], by kernel_rfl, by kernel_rfl⟩⟩
        · replace h := cd_f b8 h
          refine AX.reg (its := [.auto {}, .auto {}, .auto { y := some (.v (.bool false)) }]) [2] [] (s1 := ⟨[(2, .v (.bool false))], []⟩) (C := ((True) ∧ ((.v (.bool (decide (x3.1 = x4.1))) : AV) = (.v (.bool false) : AV))) ∧ True) (by kernel_rfl) ⟨⟨trivial, (congrArg (fun z => AV.v (.bool z)) b8)⟩, trivial⟩ trivial ?_
          refine AX.ret ?_
          refine fin_wk (Wk.forget [2] [] (s' := ⟨[(2, .v (.bool false))], []⟩) (by kernel_rfl)) ?_
          have hr := Option.some.inj h
          subst hr
          exact ⟨_, Wk.refl _, .inr rfl, ⟨[], by kernel_rfl, trivial, [.v (.bool false)], by kernel_rfl, by kernel_rfl⟩⟩
      · replace h := cd_f b7 h
        refine AX.reg (its := [.auto {}, .auto {}, .auto { y := some (.v (.bool false)) }, .auto {}, .auto {}, .auto {}, .auto { y := some (.v (.bool false)) }]) [3, 4, 5, 6, 7, 8, 46] [0, 1, 2] (s1 := ⟨[(3, .pt 2 0), (4, .sl 1 0 x2.2.length), (5, .v (.int .i64 x3.1)), (6, .v (.bool x3.2)), (7, .v (.int .i64 x4.1)), (8, .v (.bool x4.2)), (46, .v (.bool (!x3.2)))], [(0, .arr 2 (List.map enc_si x2.1)), (1, .arr 1 (List.map enc_s x2.2)), (2, .box [.sl 0 0 x2.1.length])]⟩) (C := ((True) ∧ ((.v (.bool (!decide (x3.1 = x4.1))) : AV) = (.v (.bool false) : AV))) ∧ ((True) ∧ ((.v (.bool (!(x3.2 == x4.2))) : AV) = (.v (.bool false) : AV))) ∧ True) (by kernel_rfl) ⟨⟨trivial, (congrArg (fun z => AV.v (.bool z)) b5)⟩, ⟨⟨trivial, (congrArg (fun z => AV.v (.bool z)) b7)⟩, trivial⟩⟩ trivial ?_
        rcases bool_cases ((!x3.2)) with b9 | b9
        · replace h := cd_t b9 h
          refine AX.condT ((!x3.2)) (by kernel_rfl) b9 ?_
          refine AX.seq ?_
          rcases bool_cases (decide (x3.1 = x4.1)) with b10 | b10
          · replace h := cd_t b10 h
            refine AX.reg (its := [.auto {}, .auto {}, .auto { y := some (.v (.bool true)) }]) [2] [] (s1 := ⟨[(2, .v (.bool (x3.2 == x4.2)))], []⟩) (C := ((True) ∧ ((.v (.bool (decide (x3.1 = x4.1))) : AV) = (.v (.bool true) : AV))) ∧ True) (by kernel_rfl) ⟨⟨trivial, (congrArg (fun z => AV.v (.bool z)) b10)⟩, trivial⟩ trivial ?_
            refine AX.ret ?_
            refine fin_wk (Wk.forget [2] [] (s' := ⟨[(2, .v (.bool (x3.2 == x4.2)))], []⟩) (by kernel_rfl)) ?_
            have hr := Option.some.inj h
            subst hr
            exact ⟨_, Wk.refl _, .inr rfl, ⟨[], by kernel_rfl, trivial, [.v (.bool (x3.2 == x4.2))], by kernel_rfl, by kernel_rfl⟩⟩
          · replace h := cd_f b10 h
            refine AX.reg (its := [.auto {}, .auto {}, .auto { y := some (.v (.bool false)) }]) [2] [] (s1 := ⟨[(2, .v (.bool false))], []⟩) (C := ((True) ∧ ((.v (.bool (decide (x3.1 = x4.1))) : AV) = (.v (.bool false) : AV))) ∧ True) (by kernel_rfl) ⟨⟨trivial, (congrArg (fun z => AV.v (.bool z)) b10)⟩, trivial⟩ trivial ?_
            refine AX.ret ?_
            refine fin_wk (Wk.forget [2] [] (s' := ⟨[(2, .v (.bool false))], []⟩) (by kernel_rfl)) ?_
            have hr := Option.some.inj h
            subst hr
            exact ⟨_, Wk.refl _, .inr rfl, ⟨[], by kernel_rfl, trivial, [.v (.bool false)], by kernel_rfl, by kernel_rfl⟩⟩
        · replace h := cd_f b9 h
          refine AX.condF ((!x3.2)) (by kernel_rfl) b9 ?_
          refine AX.skip ?_
          refine AX.seq ?_
          obtain ⟨x5, e11, h⟩ := bd_e h
          refine AX.reg (its := [.auto {}, .auto {}, .call 44 [.agg [.sl 0 0 x2.1.length], .v (.int .i64 x3.1)] (handO (rho ([] ++ [3])) [] [] ++ [(0, .arr 2 (List.map enc_si x2.1))]) (callEv [] [3] (.sl 0 0 x5.length) [.arr 1 (List.map enc_s x5)])]) [3, 4, 5, 9] [0, 1, 2, 3] (s1 := ⟨[(3, .pt 2 0), (4, .sl 1 0 x2.2.length), (5, .v (.int .i64 x3.1)), (9, .sl 3 0 x5.length)], [(0, .arr 2 (List.map enc_si x2.1)), (1, .arr 1 (List.map enc_s x2.2)), (2, .box [.sl 0 0 x2.1.length]), (3, .arr 1 (List.map enc_s x5))]⟩) (C := ((([.agg [.sl 0 0 x2.1.length], .v (.int .i64 x3.1)] : List AV) = [.agg [.sl 0 0 x2.1.length], .v (.int .i64 x3.1)]) ∧ (AO.arr 2 (List.map enc_si x2.1) = AO.arr 2 (List.map enc_si x2.1)) ∧ True) ∧ True) (by kernel_rfl) ⟨⟨rfl, rfl, trivial⟩, trivial⟩ ⟨call_ok (ks := []) (ns := [3]) (bor := [0]) (bobjs := [(0, .arr 2 (List.map enc_si x2.1))]) (s_impl_MembersIn x2.1 x3.1 x5 e11) (.cons (.c1 (.agg (.cons (.arr rfl rfl ((rfl).trans (List.length_map ..).symm)) (.nil)))) (.cons (.c1 (.c0 (.same _ (by kernel_rfl) (by kernel_rfl)))) (.nil))) (by kernel_rfl) trivial, trivial⟩ ?_
          refine AX.seq ?_
          obtain ⟨x6, e12, h⟩ := bd_e h
          refine AX.reg (its := [.auto {}, .auto {}, .call 45 [.agg [.sl 0 0 x2.1.length], .sl 1 0 x2.2.length] (handO (rho ([] ++ [4])) [] [] ++ [(0, .arr 2 (List.map enc_si x2.1)), (1, .arr 1 (List.map enc_s x2.2))]) (callEv [] [4] (.sl 0 0 x6.length) [.arr 1 (List.map enc_s x6)])]) [3, 5, 9, 10] [0, 2, 3, 4] (s1 := ⟨[(3, .pt 2 0), (5, .v (.int .i64 x3.1)), (9, .sl 3 0 x5.length), (10, .sl 4 0 x6.length)], [(0, .arr 2 (List.map enc_si x2.1)), (2, .box [.sl 0 0 x2.1.length]), (3, .arr 1 (List.map enc_s x5)), (4, .arr 1 (List.map enc_s x6))]⟩) (C := ((([.agg [.sl 0 0 x2.1.length], .sl 1 0 x2.2.length] : List AV) = [.agg [.sl 0 0 x2.1.length], .sl 1 0 x2.2.length]) ∧ (AO.arr 2 (List.map enc_si x2.1) = AO.arr 2 (List.map enc_si x2.1)) ∧ (AO.arr 1 (List.map enc_s x2.2) = AO.arr 1 (List.map enc_s x2.2)) ∧ True) ∧ True) (by kernel_rfl) ⟨⟨rfl, rfl, rfl, trivial⟩, trivial⟩ ⟨call_ok (ks := []) (ns := [4]) (bor := [0, 1]) (bobjs := [(0, .arr 2 (List.map enc_si x2.1)), (1, .arr 1 (List.map enc_s x2.2))]) (s_impl_MissedMembers x2.1 x2.2 x6 e12) (.cons (.c1 (.agg (.cons (.arr rfl rfl ((rfl).trans (List.length_map ..).symm)) (.nil)))) (.cons (.c1 (.c0 (.arr rfl rfl ((rfl).trans (List.length_map ..).symm)))) (.nil))) (by kernel_rfl) trivial, trivial⟩ ?_
          refine AX.seq ?_
          obtain ⟨x7, e13, h⟩ := bd_e h
          refine AX.reg (its := [.auto {}, .call 46 [.agg [.sl 0 0 x2.1.length]] (handO (rho ([] ++ [5])) [] [] ++ [(0, .arr 2 (List.map enc_si x2.1))]) (callEv [] [5] (.sl 0 0 x7.length) [.arr 1 (List.map enc_s x7)])]) [3, 5, 9, 10, 11] [0, 2, 3, 4, 5] (s1 := ⟨[(3, .pt 2 0), (5, .v (.int .i64 x3.1)), (9, .sl 3 0 x5.length), (10, .sl 4 0 x6.length), (11, .sl 5 0 x7.length)], [(0, .arr 2 (List.map enc_si x2.1)), (2, .box [.sl 0 0 x2.1.length]), (3, .arr 1 (List.map enc_s x5)), (4, .arr 1 (List.map enc_s x6)), (5, .arr 1 (List.map enc_s x7))]⟩) (C := ((([.agg [.sl 0 0 x2.1.length]] : List AV) = [.agg [.sl 0 0 x2.1.length]]) ∧ (AO.arr 2 (List.map enc_si x2.1) = AO.arr 2 (List.map enc_si x2.1)) ∧ True) ∧ True) (by kernel_rfl) ⟨⟨rfl, rfl, trivial⟩, trivial⟩ ⟨call_ok (ks := []) (ns := [5]) (bor := [0]) (bobjs := [(0, .arr 2 (List.map enc_si x2.1))]) (s_impl_MembersOf x2.1 x7 e13) (.cons (.c1 (.agg (.cons (.arr rfl rfl ((rfl).trans (List.length_map ..).symm)) (.nil)))) (.nil)) (by kernel_rfl) trivial, trivial⟩ ?_
          refine AX.seq ?_
          refine AX.seq ?_
          refine AX.reg (its := []) [3, 5, 9, 10, 11, 12] [0, 2, 3, 4, 5] (s1 := ⟨[(3, .pt 2 0), (5, .v (.int .i64 x3.1)), (9, .sl 3 0 x5.length), (10, .sl 4 0 x6.length), (11, .sl 5 0 x7.length), (12, .v (.int .i64 0))], [(0, .arr 2 (List.map enc_si x2.1)), (2, .box [.sl 0 0 x2.1.length]), (3, .arr 1 (List.map enc_s x5)), (4, .arr 1 (List.map enc_s x6)), (5, .arr 1 (List.map enc_s x7))]⟩) (C := True) (by kernel_rfl) trivial trivial ?_
          refine AX.block ?_
          obtain ⟨x11, e19, h⟩ := bd_e h
          refine AX.wk (Wk.swap 0 2 (Nat.le_of_ble_eq_true (by kernel_rfl)) (Nat.le_of_ble_eq_true (by kernel_rfl)) rfl) ?_
          refine AX.wk (Wk.swap 1 2 (Nat.le_of_ble_eq_true (by kernel_rfl)) (Nat.le_of_ble_eq_true (by kernel_rfl)) rfl) ?_
          refine AX.wk (Wk.swap 2 3 (Nat.le_of_ble_eq_true (by kernel_rfl)) (Nat.le_of_ble_eq_true (by kernel_rfl)) rfl) ?_
          refine AX.wk (Wk.swap 3 4 (Nat.le_of_ble_eq_true (by kernel_rfl)) (Nat.le_of_ble_eq_true (by kernel_rfl)) rfl) ?_
          refine AX.wk (Wk.swap 4 5 (Nat.le_of_ble_eq_true (by kernel_rfl)) (Nat.le_of_ble_eq_true (by kernel_rfl)) rfl) ?_
          refine AX.wk (Wk.forget [3, 5, 9, 10, 11, 12] [0, 1, 2, 3, 4] (s' := ⟨[(3, .pt 0 0), (5, .v (.int .i64 x3.1)), (9, .sl 2 0 x5.length), (10, .sl 3 0 x6.length), (11, .sl 4 0 x7.length), (12, .v (.int .i64 0))], [(0, .box [.sl 1 0 x2.1.length]), (1, .arr 2 (List.map enc_si x2.1)), (2, .arr 1 (List.map enc_s x5)), (3, .arr 1 (List.map enc_s x6)), (4, .arr 1 (List.map enc_s x7))]⟩) (by kernel_rfl)) ?_
          refine AX.mono (s_laws_FnSetOf_L1 x2 x3 x5 x6 x7 FU 0 x11 e19) ?_
          rintro _ _ (⟨x12, rfl, rfl, rfl⟩ | ⟨x13, rfl, rfl, rfl⟩)
          · replace h := sm_l h
            refine fin_wk (Wk.forget [2] [] (s' := ⟨[(2, .v (.bool false))], []⟩) (by kernel_rfl)) ?_
            have hr := Option.some.inj h
            subst hr
            exact ⟨_, Wk.refl _, .inr rfl, ⟨[], by kernel_rfl, trivial, [.v (.bool false)], by kernel_rfl, by kernel_rfl⟩⟩
          · replace h := sm_r h
            refine AX.seq ?_
            obtain ⟨x14, e20, h⟩ := bd_e h
            refine AX.reg (its := [.auto {}, .auto {}, .call 42 [.agg [.sl 1 0 x2.1.length], .sl 2 0 x5.length] (handO (rho ([] ++ [])) [] [] ++ [(1, .arr 2 (List.map enc_si x2.1)), (2, .arr 1 (List.map enc_s x5))]) (callEv [] [] (.tup [.v (.int .i64 x14.1), .v (.bool x14.2)]) [])]) [5, 9, 10, 11, 13, 14] [2, 3, 4] (s1 := ⟨[(5, .v (.int .i64 x3.1)), (9, .sl 2 0 x5.length), (10, .sl 3 0 x6.length), (11, .sl 4 0 x7.length), (13, .v (.int .i64 x14.1)), (14, .v (.bool x14.2))], [(2, .arr 1 (List.map enc_s x5)), (3, .arr 1 (List.map enc_s x6)), (4, .arr 1 (List.map enc_s x7))]⟩) (C := ((([.agg [.sl 1 0 x2.1.length], .sl 2 0 x5.length] : List AV) = [.agg [.sl 1 0 x2.1.length], .sl 2 0 x5.length]) ∧ (AO.arr 2 (List.map enc_si x2.1) = AO.arr 2 (List.map enc_si x2.1)) ∧ (AO.arr 1 (List.map enc_s x5) = AO.arr 1 (List.map enc_s x5)) ∧ True) ∧ True) (by kernel_rfl) ⟨⟨rfl, rfl, rfl, trivial⟩, trivial⟩ ⟨call_ok (ks := []) (ns := []) (bor := [1, 2]) (bobjs := [(1, .arr 2 (List.map enc_si x2.1)), (2, .arr 1 (List.map enc_s x5))]) (s_impl_SetOf x2.1 x5 x14 e20) (.cons (.c1 (.agg (.cons (.arr rfl rfl ((rfl).trans (List.length_map ..).symm)) (.nil)))) (.cons (.c1 (.c0 (.arr rfl rfl ((rfl).trans (List.length_map ..).symm)))) (.nil))) (by kernel_rfl) trivial, trivial⟩ ?_
            refine AX.seq ?_
            rcases bool_cases (x14.2) with b21 | b21
            · replace h := cd_t b21 h
              rcases bool_cases (decide (x14.1 = x3.1)) with b22 | b22
              · replace h := cd_t b22 h
                obtain ⟨v15, q23, h⟩ := nm_e h
                refine AX.reg (its := [.auto { y := some (.v (.bool true)) }, .auto {}, .auto {}, .auto {}, .auto { y := some (.v (.bool true)) }, .auto {}, .auto {}, .auto {}, .auto {}, .auto {}, .auto {}, .auto { raw := true }, .auto {}, .auto {}, .auto { y := some (.v (.bool v15)) }]) [2] [] (s1 := ⟨[(2, .v (.bool v15))], []⟩) (C := ((True) ∧ ((.v (.bool x14.2) : AV) = (.v (.bool true) : AV))) ∧ ((True) ∧ ((.v (.bool (decide (x14.1 = x3.1))) : AV) = (.v (.bool true) : AV))) ∧ ((True) ∧ ((.v (.bool (decide ((IntKind.wrap .i64 ((x5.length : Int) + (x6.length : Int))) = (x7.length : Int)))) : AV) = (.v (.bool v15) : AV))) ∧ True) (by kernel_rfl) ⟨⟨trivial, (congrArg (fun z => AV.v (.bool z)) b21)⟩, ⟨⟨trivial, (congrArg (fun z => AV.v (.bool z)) b22)⟩, ⟨⟨trivial, (congrArg (fun z => AV.v (.bool z)) q23)⟩, trivial⟩⟩⟩ trivial ?_
                refine AX.ret ?_
                refine fin_wk (Wk.forget [2] [] (s' := ⟨[(2, .v (.bool v15))], []⟩) (by kernel_rfl)) ?_
                have hr := Option.some.inj h
                subst hr
                exact ⟨_, Wk.refl _, .inr rfl, ⟨[], by kernel_rfl, trivial, [.v (.bool v15)], by kernel_rfl, by kernel_rfl⟩⟩
              · replace h := cd_f b22 h
                refine AX.reg (its := [.auto { y := some (.v (.bool true)) }, .auto {}, .auto {}, .auto {}, .auto { y := some (.v (.bool false)) }]) [2] [] (s1 := ⟨[(2, .v (.bool false))], []⟩) (C := ((True) ∧ ((.v (.bool x14.2) : AV) = (.v (.bool true) : AV))) ∧ ((True) ∧ ((.v (.bool (decide (x14.1 = x3.1))) : AV) = (.v (.bool false) : AV))) ∧ True) (by kernel_rfl) ⟨⟨trivial, (congrArg (fun z => AV.v (.bool z)) b21)⟩, ⟨⟨trivial, (congrArg (fun z => AV.v (.bool z)) b22)⟩, trivial⟩⟩ trivial ?_
                refine AX.ret ?_
                refine fin_wk (Wk.forget [2] [] (s' := ⟨[(2, .v (.bool false))], []⟩) (by kernel_rfl)) ?_
                have hr := Option.some.inj h
                subst hr
                exact ⟨_, Wk.refl _, .inr rfl, ⟨[], by kernel_rfl, trivial, [.v (.bool false)], by kernel_rfl, by kernel_rfl⟩⟩
            · replace h := cd_f b21 h
              refine AX.reg (its := [.auto { y := some (.v (.bool false)) }]) [2] [] (s1 := ⟨[(2, .v (.bool false))], []⟩) (C := ((True) ∧ ((.v (.bool x14.2) : AV) = (.v (.bool false) : AV))) ∧ True) (by kernel_rfl) ⟨⟨trivial, (congrArg (fun z => AV.v (.bool z)) b21)⟩, trivial⟩ trivial ?_
              refine AX.ret ?_
              refine fin_wk (Wk.forget [2] [] (s' := ⟨[(2, .v (.bool false))], []⟩) (by kernel_rfl)) ?_
              have hr := Option.some.inj h
              subst hr
              exact ⟨_, Wk.refl _, .inr rfl, ⟨[], by kernel_rfl, trivial, [.v (.bool false)], by kernel_rfl, by kernel_rfl⟩⟩

end Go.Eng
