/- What is proved here: each function keeps to its model, whatever its arguments, wherever the model has an answer. Printed by gen.py. -/
import Derived.Test.YtpoaggicbnldhaaCExactApplyChangesModels
import Derived.Test.YtpoaggicbnldhaaProg
import Derived.KernelRfl
set_option linter.unusedVariables false
namespace Go.Eng
open Go Go.Proofs

theorem mixed : Try.prog.follows .mixedOrders = true := by kernel_rfl

theorem s_laws_szDef (p1 : ByteArray) (p2 : Int) (p3 : Int) (r : Int) (h : m_laws_szDef p1 p2 p3 = some r) :
    Eng.Spec Try.prog 79 [.agg [.v (.string p1), .v (.int .i64 p2)], .v (.int .i64 p3)] [] (.v (.int .i64 r)) [] := by
  unfold m_laws_szDef at h
  refine Eng.Spec.body Try.func79 (by kernel_rfl) rfl (by kernel_rfl) ?_
  refine AX.wkpost ?_
  refine AX.seq ?_
  refine AX.reg (its := [.auto { nk := 0 }]) [1, 2] [0] (s1 := ⟨[(1, .v (.int .i64 p3)), (2, .pt 0 0)], [(0, .box [.v (.string p1), .v (.int .i64 p2)])]⟩) (C := True) (by kernel_rfl) trivial trivial ?_
  refine AX.seq ?_
  refine AX.reg (its := [.auto {}, .auto {}, .auto {}, .auto {}, .auto { raw := true }]) [1] [] (s1 := ⟨[(1, .v (.int .i64 (IntKind.wrap .i64 (p3 - (p1.size : Int)))))], []⟩) (C := True) (by kernel_rfl) trivial trivial ?_
  refine AX.seq ?_
  refine AX.seq ?_
  refine AX.reg (its := []) [1, 11] [] (s1 := ⟨[(1, .v (.int .i64 (IntKind.wrap .i64 (p3 - (p1.size : Int))))), (11, .v (.bool (decide ((IntKind.wrap .i64 (p3 - (p1.size : Int))) < 0))))], []⟩) (C := True) (by kernel_rfl) trivial trivial ?_
  rcases bool_cases (decide ((IntKind.wrap .i64 (p3 - (p1.size : Int))) < 0)) with b1 | b1
  · replace h := cd_t b1 h
    refine AX.condT (decide ((IntKind.wrap .i64 (p3 - (p1.size : Int))) < 0)) (by kernel_rfl) b1 ?_
    refine AX.seq ?_
    refine AX.reg (its := []) [4] [] (s1 := ⟨[(4, .v (.int .i64 (-1)))], []⟩) (C := True) (by kernel_rfl) trivial trivial ?_
    refine AX.ret ?_
    refine fin_wk (Wk.forget [4] [] (s' := ⟨[(4, .v (.int .i64 (-1)))], []⟩) (by kernel_rfl)) ?_
    have hr := Option.some.inj h
    subst hr
    exact ⟨_, Wk.refl _, .inr rfl, ⟨[], by kernel_rfl, trivial, [.v (.int .i64 (-1))], by kernel_rfl, by kernel_rfl⟩⟩
  · replace h := cd_f b1 h
    refine AX.condF (decide ((IntKind.wrap .i64 (p3 - (p1.size : Int))) < 0)) (by kernel_rfl) b1 ?_
    refine AX.skip ?_
    refine AX.seq ?_
    refine AX.reg (its := []) [4] [] (s1 := ⟨[(4, .v (.int .i64 (IntKind.wrap .i64 (p3 - (p1.size : Int)))))], []⟩) (C := True) (by kernel_rfl) trivial trivial ?_
    refine AX.ret ?_
    refine fin_wk (Wk.forget [4] [] (s' := ⟨[(4, .v (.int .i64 (IntKind.wrap .i64 (p3 - (p1.size : Int)))))], []⟩) (by kernel_rfl)) ?_
    have hr := Option.some.inj h
    subst hr
    exact ⟨_, Wk.refl _, .inr rfl, ⟨[], by kernel_rfl, trivial, [.v (.int .i64 (IntKind.wrap .i64 (p3 - (p1.size : Int))))], by kernel_rfl, by kernel_rfl⟩⟩

theorem s_laws_szDefS_L1 (p1 : List (ByteArray × Int)) (n : Nat) (g : Int × Int) (out : Unit ⊕ Int) (h : m_laws_szDefS_L1 p1 n g.1 g.2 = some out) :
    AX Try.prog 27 0 (codeAt [1, 1, 1, 0, 1, 1] (bodyOf Try.f44)) ((fun g : Int × Int => (⟨[(0, .bs true 2 (List.map enc_si p1)), (1, .v (.int .i64 g.1)), (5, .v (.int .i64 g.2))], []⟩ : S)) g) (fun ex s => (∃ o : Unit, out = Sum.inl o ∧ ex = .ret ∧ s = ⟨[(4, .v (.int .i64 (-1)))], []⟩) ∨ (∃ o : Int, out = Sum.inr o ∧ ex = .exit 0 ∧ s = ⟨[(1, .v (.int .i64 o))], []⟩)) := by
  refine AX.wkpost ?_
  refine AX.loop (G := Nat × (Int × Int)) (fun q => (fun g : Int × Int => (⟨[(0, .bs true 2 (List.map enc_si p1)), (1, .v (.int .i64 g.1)), (5, .v (.int .i64 g.2))], []⟩ : S)) q.2) (fun q => m_laws_szDefS_L1 p1 q.1 q.2.1 q.2.2 = some out) (fun q => q.1) (n, g) h (Wk.refl _) ?_
  clear h
  rintro ⟨fu, v3, v4⟩ h
  cases fu with
  | zero => cases h
  | succ fu =>
    rw [m_laws_szDefS_L1] at h
    refine AX.seq ?_
    refine AX.seq ?_
    refine AX.reg (its := [.auto {}, .auto {}, .auto { y := some (.v (.int .i64 (p1.length : Int))) }]) [0, 1, 5, 15] [] (s1 := ⟨[(0, .bs true 2 (List.map enc_si p1)), (1, .v (.int .i64 v3)), (5, .v (.int .i64 v4)), (15, .v (.bool (decide (v4 < (p1.length : Int)))))], []⟩) (C := (True ∧ (AV.v (.int .i64 ((List.map enc_si p1).length : Int)) = AV.v (.int .i64 (p1.length : Int)))) ∧ True) (by kernel_rfl) ⟨⟨trivial, len_map enc_si p1⟩, trivial⟩ trivial ?_
    rcases bool_cases (decide (v4 < (p1.length : Int))) with b2 | b2
    · replace h := cd_t b2 h
      refine AX.condT (decide (v4 < (p1.length : Int))) (by kernel_rfl) b2 ?_
      refine AX.skip ?_
      refine AX.seq ?_
      refine AX.block ?_
      refine AX.seq ?_
      obtain ⟨g3, h⟩ := gd_e h
      obtain ⟨x5, e4, h⟩ := bd_e h
      refine AX.reg (its := [.auto {}, .auto {}, .auto { y := some (.be 2 (enc_si (gt p1 v4)) 0) }, .auto {}, .auto {}, .call 79 [.agg [.v (.string ((gt p1 v4).1)), .v (.int .i64 ((gt p1 v4).2))], .v (.int .i64 v3)] (handO (rho ([] ++ [])) [] [] ++ []) (callEv [] [] (.v (.int .i64 x5)) [])]) [0, 1, 5] [] (s1 := ⟨[(0, .bs true 2 (List.map enc_si p1)), (1, .v (.int .i64 x5)), (5, .v (.int .i64 v4))], []⟩) (C := ((0 ≤ v4 ∧ v4 < ((List.map enc_si p1).length : Int)) ∧ (AV.be 2 ((List.map enc_si p1).getD v4.toNat []) 0 = AV.be 2 (enc_si (gt p1 v4)) 0)) ∧ ((([.agg [.v (.string ((gt p1 v4).1)), .v (.int .i64 ((gt p1 v4).2))], .v (.int .i64 v3)] : List AV) = [.agg [.v (.string ((gt p1 v4).1)), .v (.int .i64 ((gt p1 v4).2))], .v (.int .i64 v3)]) ∧ True) ∧ True) (by kernel_rfl) ⟨idx_bs enc_si p1 v4 2 g3, ⟨⟨rfl, trivial⟩, trivial⟩⟩ ⟨call_ok (ks := []) (ns := []) (bor := []) (bobjs := []) (s_laws_szDef ((gt p1 v4).1) ((gt p1 v4).2) v3 x5 e4) (.cons (.c1 (.agg (.cons (.same _ (by kernel_rfl) (by kernel_rfl)) (.cons (.same _ (by kernel_rfl) (by kernel_rfl)) (.nil))))) (.cons (.c1 (.c0 (.same _ (by kernel_rfl) (by kernel_rfl)))) (.nil))) (by kernel_rfl) trivial, trivial⟩ ?_
      refine AX.seq ?_
      refine AX.reg (its := []) [0, 1, 5, 25] [] (s1 := ⟨[(0, .bs true 2 (List.map enc_si p1)), (1, .v (.int .i64 x5)), (5, .v (.int .i64 v4)), (25, .v (.bool (decide (x5 < 0))))], []⟩) (C := True) (by kernel_rfl) trivial trivial ?_
      rcases bool_cases (decide (x5 < 0)) with b5 | b5
      · replace h := cd_t b5 h
        refine AX.condT (decide (x5 < 0)) (by kernel_rfl) b5 ?_
        refine AX.seq ?_
        refine AX.reg (its := []) [4] [] (s1 := ⟨[(4, .v (.int .i64 (-1)))], []⟩) (C := True) (by kernel_rfl) trivial trivial ?_
        refine AX.ret ?_
        refine fin_wk (Wk.forget [4] [] (s' := ⟨[(4, .v (.int .i64 (-1)))], []⟩) (by kernel_rfl)) ?_
        have hr := Option.some.inj h
        subst hr
        exact ⟨_, Wk.refl _, .inl ⟨(), rfl, rfl, rfl⟩⟩
      · replace h := cd_f b5 h
        refine AX.condF (decide (x5 < 0)) (by kernel_rfl) b5 ?_
        refine AX.skip ?_
        refine AX.reg (its := [.auto {}, .auto { raw := true }]) [0, 1, 5] [] (s1 := ⟨[(0, .bs true 2 (List.map enc_si p1)), (1, .v (.int .i64 x5)), (5, .v (.int .i64 (IntKind.wrap .i64 (v4 + 1))))], []⟩) (C := True) (by kernel_rfl) trivial trivial ?_
        refine ⟨(fu, (x5, IntKind.wrap .i64 (v4 + 1))), h, Nat.lt_succ_self _, ?_⟩
        refine Wk.trans (Wk.forget [0, 1, 5] [] (s' := ⟨[(0, .bs true 2 (List.map enc_si p1)), (1, .v (.int .i64 x5)), (5, .v (.int .i64 (IntKind.wrap .i64 (v4 + 1))))], []⟩) (by kernel_rfl)) ?_
        exact Wk.refl _
    · replace h := cd_f b2 h
      refine AX.condF (decide (v4 < (p1.length : Int))) (by kernel_rfl) b2 ?_
      refine AX.exit ?_
      refine fin_wk (Wk.forget [1] [] (s' := ⟨[(1, .v (.int .i64 v3))], []⟩) (by kernel_rfl)) ?_
      have hr := Option.some.inj h
      subst hr
      exact ⟨_, Wk.refl _, .inr ⟨v3, rfl, rfl, rfl⟩⟩

theorem s_laws_szDefS (p1 : List (ByteArray × Int)) (p2 : Int) (r : Int) (h : m_laws_szDefS p1 p2 = some r) :
    Eng.Spec Try.prog 44 [.bs true 2 (List.map enc_si p1), .v (.int .i64 p2)] [] (.v (.int .i64 r)) [] := by
  unfold m_laws_szDefS at h
  refine Eng.Spec.body Try.func44 (by kernel_rfl) rfl (by kernel_rfl) ?_
  refine AX.wkpost ?_
  refine AX.seq ?_
  refine AX.reg (its := []) [0, 1] [] (s1 := ⟨[(0, .bs true 2 (List.map enc_si p1)), (1, .v (.int .i64 p2))], []⟩) (C := True) (by kernel_rfl) trivial trivial ?_
  refine AX.seq ?_
  refine AX.reg (its := [.auto {}, .auto {}, .auto { y := some (.v (.int .i64 (p1.length : Int))) }, .auto { raw := true }]) [0, 1] [] (s1 := ⟨[(0, .bs true 2 (List.map enc_si p1)), (1, .v (.int .i64 (IntKind.wrap .i64 (p2 - (p1.length : Int)))))], []⟩) (C := (True ∧ (AV.v (.int .i64 ((List.map enc_si p1).length : Int)) = AV.v (.int .i64 (p1.length : Int)))) ∧ True) (by kernel_rfl) ⟨⟨trivial, len_map enc_si p1⟩, trivial⟩ trivial ?_
  refine AX.seq ?_
  refine AX.seq ?_
  refine AX.reg (its := []) [0, 1, 11] [] (s1 := ⟨[(0, .bs true 2 (List.map enc_si p1)), (1, .v (.int .i64 (IntKind.wrap .i64 (p2 - (p1.length : Int))))), (11, .v (.bool (decide ((IntKind.wrap .i64 (p2 - (p1.length : Int))) < 0))))], []⟩) (C := True) (by kernel_rfl) trivial trivial ?_
  rcases bool_cases (decide ((IntKind.wrap .i64 (p2 - (p1.length : Int))) < 0)) with b1 | b1
  · replace h := cd_t b1 h
    refine AX.condT (decide ((IntKind.wrap .i64 (p2 - (p1.length : Int))) < 0)) (by kernel_rfl) b1 ?_
    refine AX.seq ?_
    refine AX.reg (its := []) [4] [] (s1 := ⟨[(4, .v (.int .i64 (-1)))], []⟩) (C := True) (by kernel_rfl) trivial trivial ?_
    refine AX.ret ?_
    refine fin_wk (Wk.forget [4] [] (s' := ⟨[(4, .v (.int .i64 (-1)))], []⟩) (by kernel_rfl)) ?_
    have hr := Option.some.inj h
    subst hr
    exact ⟨_, Wk.refl _, .inr rfl, ⟨[], by kernel_rfl, trivial, [.v (.int .i64 (-1))], by kernel_rfl, by kernel_rfl⟩⟩
  · replace h := cd_f b1 h
    refine AX.condF (decide ((IntKind.wrap .i64 (p2 - (p1.length : Int))) < 0)) (by kernel_rfl) b1 ?_
    refine AX.skip ?_
    refine AX.seq ?_
    refine AX.seq ?_
    refine AX.reg (its := []) [0, 1, 5] [] (s1 := ⟨[(0, .bs true 2 (List.map enc_si p1)), (1, .v (.int .i64 (IntKind.wrap .i64 (p2 - (p1.length : Int))))), (5, .v (.int .i64 0))], []⟩) (C := True) (by kernel_rfl) trivial trivial ?_
    refine AX.block ?_
    obtain ⟨x6, e6, h⟩ := bd_e h
    refine AX.wk (Wk.forget [0, 1, 5] [] (s' := ⟨[(0, .bs true 2 (List.map enc_si p1)), (1, .v (.int .i64 (IntKind.wrap .i64 (p2 - (p1.length : Int))))), (5, .v (.int .i64 0))], []⟩) (by kernel_rfl)) ?_
    refine AX.mono (s_laws_szDefS_L1 p1 FU (IntKind.wrap .i64 (p2 - (p1.length : Int)), 0) x6 e6) ?_
    rintro _ _ (⟨x7, rfl, rfl, rfl⟩ | ⟨x8, rfl, rfl, rfl⟩)
    · replace h := sm_l h
      refine fin_wk (Wk.forget [4] [] (s' := ⟨[(4, .v (.int .i64 (-1)))], []⟩) (by kernel_rfl)) ?_
      have hr := Option.some.inj h
      subst hr
      exact ⟨_, Wk.refl _, .inr rfl, ⟨[], by kernel_rfl, trivial, [.v (.int .i64 (-1))], by kernel_rfl, by kernel_rfl⟩⟩
    · replace h := sm_r h
      refine AX.seq ?_
      refine AX.reg (its := []) [4] [] (s1 := ⟨[(4, .v (.int .i64 x8))], []⟩) (C := True) (by kernel_rfl) trivial trivial ?_
      refine AX.ret ?_
      refine fin_wk (Wk.forget [4] [] (s' := ⟨[(4, .v (.int .i64 x8))], []⟩) (by kernel_rfl)) ?_
      have hr := Option.some.inj h
      subst hr
      exact ⟨_, Wk.refl _, .inr rfl, ⟨[], by kernel_rfl, trivial, [.v (.int .i64 x8)], by kernel_rfl, by kernel_rfl⟩⟩

theorem s_laws_szEnum (p1 : List (ByteArray × Int)) (p2 : Int) (r : Int) (h : m_laws_szEnum p1 p2 = some r) :
    Eng.Spec Try.prog 15 [.agg [.bs true 2 (List.map enc_si p1)], .v (.int .i64 p2)] [] (.v (.int .i64 r)) [] := by
  unfold m_laws_szEnum at h
  refine Eng.Spec.body Try.func15 (by kernel_rfl) rfl (by kernel_rfl) ?_
  refine AX.wkpost ?_
  refine AX.seq ?_
  refine AX.reg (its := [.auto { nk := 0 }]) [1, 2] [0] (s1 := ⟨[(1, .v (.int .i64 p2)), (2, .pt 0 0)], [(0, .box [.bs true 2 (List.map enc_si p1)])]⟩) (C := True) (by kernel_rfl) trivial trivial ?_
  refine AX.seq ?_
  obtain ⟨x3, e1, h⟩ := bd_e h
  refine AX.reg (its := [.auto {}, .auto {}, .auto {}, .call 44 [.bs true 2 (List.map enc_si p1), .v (.int .i64 p2)] (handO (rho ([] ++ [])) [] [] ++ []) (callEv [] [] (.v (.int .i64 x3)) [])]) [1] [] (s1 := ⟨[(1, .v (.int .i64 x3))], []⟩) (C := ((([.bs true 2 (List.map enc_si p1), .v (.int .i64 p2)] : List AV) = [.bs true 2 (List.map enc_si p1), .v (.int .i64 p2)]) ∧ True) ∧ True) (by kernel_rfl) ⟨⟨rfl, trivial⟩, trivial⟩ ⟨call_ok (ks := []) (ns := []) (bor := []) (bobjs := []) (s_laws_szDefS p1 p2 x3 e1) (.cons (.c1 (.c0 (.same _ (by kernel_rfl) (by kernel_rfl)))) (.cons (.c1 (.c0 (.same _ (by kernel_rfl) (by kernel_rfl)))) (.nil))) (by kernel_rfl) trivial, trivial⟩ ?_
  refine AX.seq ?_
  refine AX.seq ?_
  refine AX.reg (its := []) [1, 10] [] (s1 := ⟨[(1, .v (.int .i64 x3)), (10, .v (.bool (decide (x3 < 0))))], []⟩) (C := True) (by kernel_rfl) trivial trivial ?_
  rcases bool_cases (decide (x3 < 0)) with b2 | b2
  · replace h := cd_t b2 h
    refine AX.condT (decide (x3 < 0)) (by kernel_rfl) b2 ?_
    refine AX.seq ?_
    refine AX.reg (its := []) [4] [] (s1 := ⟨[(4, .v (.int .i64 (-1)))], []⟩) (C := True) (by kernel_rfl) trivial trivial ?_
    refine AX.ret ?_
    refine fin_wk (Wk.forget [4] [] (s' := ⟨[(4, .v (.int .i64 (-1)))], []⟩) (by kernel_rfl)) ?_
    have hr := Option.some.inj h
    subst hr
    exact ⟨_, Wk.refl _, .inr rfl, ⟨[], by kernel_rfl, trivial, [.v (.int .i64 (-1))], by kernel_rfl, by kernel_rfl⟩⟩
  · replace h := cd_f b2 h
    refine AX.condF (decide (x3 < 0)) (by kernel_rfl) b2 ?_
    refine AX.skip ?_
    refine AX.seq ?_
    refine AX.reg (its := []) [4] [] (s1 := ⟨[(4, .v (.int .i64 x3))], []⟩) (C := True) (by kernel_rfl) trivial trivial ?_
    refine AX.ret ?_
    refine fin_wk (Wk.forget [4] [] (s' := ⟨[(4, .v (.int .i64 x3))], []⟩) (by kernel_rfl)) ?_
    have hr := Option.some.inj h
    subst hr
    exact ⟨_, Wk.refl _, .inr rfl, ⟨[], by kernel_rfl, trivial, [.v (.int .i64 x3)], by kernel_rfl, by kernel_rfl⟩⟩

theorem s_laws_szChange (p1 : Int) (p2 : ByteArray) (p3 : Int) (p4 : Int) (p5 : Int) (r : Int) (h : m_laws_szChange p1 p2 p3 p4 p5 = some r) :
    Eng.Spec Try.prog 45 [.agg [.v (.int .i64 p1), .v (.string p2), .v (.int .i64 p3), .v (.int .i64 p4)], .v (.int .i64 p5)] [] (.v (.int .i64 r)) [] := by
  unfold m_laws_szChange at h
  refine Eng.Spec.body Try.func45 (by kernel_rfl) rfl (by kernel_rfl) ?_
  refine AX.wkpost ?_
  refine AX.seq ?_
  refine AX.reg (its := [.auto { nk := 0 }]) [1, 2] [0] (s1 := ⟨[(1, .v (.int .i64 p5)), (2, .pt 0 0)], [(0, .box [.v (.int .i64 p1), .v (.string p2), .v (.int .i64 p3), .v (.int .i64 p4)])]⟩) (C := True) (by kernel_rfl) trivial trivial ?_
  refine AX.seq ?_
  refine AX.reg (its := [.auto {}, .auto {}, .auto {}, .auto {}, .auto { raw := true }]) [1] [] (s1 := ⟨[(1, .v (.int .i64 (IntKind.wrap .i64 (p5 - (p2.size : Int)))))], []⟩) (C := True) (by kernel_rfl) trivial trivial ?_
  refine AX.seq ?_
  refine AX.seq ?_
  refine AX.reg (its := []) [1, 11] [] (s1 := ⟨[(1, .v (.int .i64 (IntKind.wrap .i64 (p5 - (p2.size : Int))))), (11, .v (.bool (decide ((IntKind.wrap .i64 (p5 - (p2.size : Int))) < 0))))], []⟩) (C := True) (by kernel_rfl) trivial trivial ?_
  rcases bool_cases (decide ((IntKind.wrap .i64 (p5 - (p2.size : Int))) < 0)) with b1 | b1
  · replace h := cd_t b1 h
    refine AX.condT (decide ((IntKind.wrap .i64 (p5 - (p2.size : Int))) < 0)) (by kernel_rfl) b1 ?_
    refine AX.seq ?_
    refine AX.reg (its := []) [4] [] (s1 := ⟨[(4, .v (.int .i64 (-1)))], []⟩) (C := True) (by kernel_rfl) trivial trivial ?_
    refine AX.ret ?_
    refine fin_wk (Wk.forget [4] [] (s' := ⟨[(4, .v (.int .i64 (-1)))], []⟩) (by kernel_rfl)) ?_
    have hr := Option.some.inj h
    subst hr
    exact ⟨_, Wk.refl _, .inr rfl, ⟨[], by kernel_rfl, trivial, [.v (.int .i64 (-1))], by kernel_rfl, by kernel_rfl⟩⟩
  · replace h := cd_f b1 h
    refine AX.condF (decide ((IntKind.wrap .i64 (p5 - (p2.size : Int))) < 0)) (by kernel_rfl) b1 ?_
    refine AX.skip ?_
    refine AX.seq ?_
    refine AX.reg (its := []) [4] [] (s1 := ⟨[(4, .v (.int .i64 (IntKind.wrap .i64 (p5 - (p2.size : Int)))))], []⟩) (C := True) (by kernel_rfl) trivial trivial ?_
    refine AX.ret ?_
    refine fin_wk (Wk.forget [4] [] (s' := ⟨[(4, .v (.int .i64 (IntKind.wrap .i64 (p5 - (p2.size : Int)))))], []⟩) (by kernel_rfl)) ?_
    have hr := Option.some.inj h
    subst hr
    exact ⟨_, Wk.refl _, .inr rfl, ⟨[], by kernel_rfl, trivial, [.v (.int .i64 (IntKind.wrap .i64 (p5 - (p2.size : Int))))], by kernel_rfl, by kernel_rfl⟩⟩

theorem s_laws_szChangeS_L1 (p1 : List (Int × ByteArray × Int × Int)) (n : Nat) (g : Int × Int) (out : Unit ⊕ Int) (h : m_laws_szChangeS_L1 p1 n g.1 g.2 = some out) :
    AX Try.prog 27 0 (codeAt [1, 1, 1, 0, 1, 1] (bodyOf Try.f16)) ((fun g : Int × Int => (⟨[(0, .bs true 4 (List.map enc_isii p1)), (1, .v (.int .i64 g.1)), (5, .v (.int .i64 g.2))], []⟩ : S)) g) (fun ex s => (∃ o : Unit, out = Sum.inl o ∧ ex = .ret ∧ s = ⟨[(4, .v (.int .i64 (-1)))], []⟩) ∨ (∃ o : Int, out = Sum.inr o ∧ ex = .exit 0 ∧ s = ⟨[(1, .v (.int .i64 o))], []⟩)) := by
  refine AX.wkpost ?_
  refine AX.loop (G := Nat × (Int × Int)) (fun q => (fun g : Int × Int => (⟨[(0, .bs true 4 (List.map enc_isii p1)), (1, .v (.int .i64 g.1)), (5, .v (.int .i64 g.2))], []⟩ : S)) q.2) (fun q => m_laws_szChangeS_L1 p1 q.1 q.2.1 q.2.2 = some out) (fun q => q.1) (n, g) h (Wk.refl _) ?_
  clear h
  rintro ⟨fu, v3, v4⟩ h
  cases fu with
  | zero => cases h
  | succ fu =>
    rw [m_laws_szChangeS_L1] at h
    refine AX.seq ?_
    refine AX.seq ?_
    refine AX.reg (its := [.auto {}, .auto {}, .auto { y := some (.v (.int .i64 (p1.length : Int))) }]) [0, 1, 5, 15] [] (s1 := ⟨[(0, .bs true 4 (List.map enc_isii p1)), (1, .v (.int .i64 v3)), (5, .v (.int .i64 v4)), (15, .v (.bool (decide (v4 < (p1.length : Int)))))], []⟩) (C := (True ∧ (AV.v (.int .i64 ((List.map enc_isii p1).length : Int)) = AV.v (.int .i64 (p1.length : Int)))) ∧ True) (by kernel_rfl) ⟨⟨trivial, len_map enc_isii p1⟩, trivial⟩ trivial ?_
    rcases bool_cases (decide (v4 < (p1.length : Int))) with b2 | b2
    · replace h := cd_t b2 h
      refine AX.condT (decide (v4 < (p1.length : Int))) (by kernel_rfl) b2 ?_
      refine AX.skip ?_
      refine AX.seq ?_
      refine AX.block ?_
      refine AX.seq ?_
      obtain ⟨g3, h⟩ := gd_e h
      obtain ⟨x5, e4, h⟩ := bd_e h
      refine AX.reg (its := [.auto {}, .auto {}, .auto { y := some (.be 4 (enc_isii (gt p1 v4)) 0) }, .auto {}, .auto {}, .call 45 [.agg [.v (.int .i64 ((gt p1 v4).1)), .v (.string ((gt p1 v4).2.1)), .v (.int .i64 ((gt p1 v4).2.2.1)), .v (.int .i64 ((gt p1 v4).2.2.2))], .v (.int .i64 v3)] (handO (rho ([] ++ [])) [] [] ++ []) (callEv [] [] (.v (.int .i64 x5)) [])]) [0, 1, 5] [] (s1 := ⟨[(0, .bs true 4 (List.map enc_isii p1)), (1, .v (.int .i64 x5)), (5, .v (.int .i64 v4))], []⟩) (C := ((0 ≤ v4 ∧ v4 < ((List.map enc_isii p1).length : Int)) ∧ (AV.be 4 ((List.map enc_isii p1).getD v4.toNat []) 0 = AV.be 4 (enc_isii (gt p1 v4)) 0)) ∧ ((([.agg [.v (.int .i64 ((gt p1 v4).1)), .v (.string ((gt p1 v4).2.1)), .v (.int .i64 ((gt p1 v4).2.2.1)), .v (.int .i64 ((gt p1 v4).2.2.2))], .v (.int .i64 v3)] : List AV) = [.agg [.v (.int .i64 ((gt p1 v4).1)), .v (.string ((gt p1 v4).2.1)), .v (.int .i64 ((gt p1 v4).2.2.1)), .v (.int .i64 ((gt p1 v4).2.2.2))], .v (.int .i64 v3)]) ∧ True) ∧ True) (by kernel_rfl) ⟨idx_bs enc_isii p1 v4 4 g3, ⟨⟨rfl, trivial⟩, trivial⟩⟩ ⟨call_ok (ks := []) (ns := []) (bor := []) (bobjs := []) (s_laws_szChange ((gt p1 v4).1) ((gt p1 v4).2.1) ((gt p1 v4).2.2.1) ((gt p1 v4).2.2.2) v3 x5 e4) (.cons (.c1 (.agg (.cons (.same _ (by kernel_rfl) (by kernel_rfl)) (.cons (.same _ (by kernel_rfl) (by kernel_rfl)) (.cons (.same _ (by kernel_rfl) (by kernel_rfl)) (.cons (.same _ (by kernel_rfl) (by kernel_rfl)) (.nil))))))) (.cons (.c1 (.c0 (.same _ (by kernel_rfl) (by kernel_rfl)))) (.nil))) (by kernel_rfl) trivial, trivial⟩ ?_
      refine AX.seq ?_
      refine AX.reg (its := []) [0, 1, 5, 25] [] (s1 := ⟨[(0, .bs true 4 (List.map enc_isii p1)), (1, .v (.int .i64 x5)), (5, .v (.int .i64 v4)), (25, .v (.bool (decide (x5 < 0))))], []⟩) (C := True) (by kernel_rfl) trivial trivial ?_
      rcases bool_cases (decide (x5 < 0)) with b5 | b5
      · replace h := cd_t b5 h
        refine AX.condT (decide (x5 < 0)) (by kernel_rfl) b5 ?_
        refine AX.seq ?_
        refine AX.reg (its := []) [4] [] (s1 := ⟨[(4, .v (.int .i64 (-1)))], []⟩) (C := True) (by kernel_rfl) trivial trivial ?_
        refine AX.ret ?_
        refine fin_wk (Wk.forget [4] [] (s' := ⟨[(4, .v (.int .i64 (-1)))], []⟩) (by kernel_rfl)) ?_
        have hr := Option.some.inj h
        subst hr
        exact ⟨_, Wk.refl _, .inl ⟨(), rfl, rfl, rfl⟩⟩
      · replace h := cd_f b5 h
        refine AX.condF (decide (x5 < 0)) (by kernel_rfl) b5 ?_
        refine AX.skip ?_
        refine AX.reg (its := [.auto {}, .auto { raw := true }]) [0, 1, 5] [] (s1 := ⟨[(0, .bs true 4 (List.map enc_isii p1)), (1, .v (.int .i64 x5)), (5, .v (.int .i64 (IntKind.wrap .i64 (v4 + 1))))], []⟩) (C := True) (by kernel_rfl) trivial trivial ?_
        refine ⟨(fu, (x5, IntKind.wrap .i64 (v4 + 1))), h, Nat.lt_succ_self _, ?_⟩
        refine Wk.trans (Wk.forget [0, 1, 5] [] (s' := ⟨[(0, .bs true 4 (List.map enc_isii p1)), (1, .v (.int .i64 x5)), (5, .v (.int .i64 (IntKind.wrap .i64 (v4 + 1))))], []⟩) (by kernel_rfl)) ?_
        exact Wk.refl _
    · replace h := cd_f b2 h
      refine AX.condF (decide (v4 < (p1.length : Int))) (by kernel_rfl) b2 ?_
      refine AX.exit ?_
      refine fin_wk (Wk.forget [1] [] (s' := ⟨[(1, .v (.int .i64 v3))], []⟩) (by kernel_rfl)) ?_
      have hr := Option.some.inj h
      subst hr
      exact ⟨_, Wk.refl _, .inr ⟨v3, rfl, rfl, rfl⟩⟩

theorem s_laws_szChangeS (p1 : List (Int × ByteArray × Int × Int)) (p2 : Int) (r : Int) (h : m_laws_szChangeS p1 p2 = some r) :
    Eng.Spec Try.prog 16 [.bs true 4 (List.map enc_isii p1), .v (.int .i64 p2)] [] (.v (.int .i64 r)) [] := by
  unfold m_laws_szChangeS at h
  refine Eng.Spec.body Try.func16 (by kernel_rfl) rfl (by kernel_rfl) ?_
  refine AX.wkpost ?_
  refine AX.seq ?_
  refine AX.reg (its := []) [0, 1] [] (s1 := ⟨[(0, .bs true 4 (List.map enc_isii p1)), (1, .v (.int .i64 p2))], []⟩) (C := True) (by kernel_rfl) trivial trivial ?_
  refine AX.seq ?_
  refine AX.reg (its := [.auto {}, .auto {}, .auto { y := some (.v (.int .i64 (p1.length : Int))) }, .auto { raw := true }]) [0, 1] [] (s1 := ⟨[(0, .bs true 4 (List.map enc_isii p1)), (1, .v (.int .i64 (IntKind.wrap .i64 (p2 - (p1.length : Int)))))], []⟩) (C := (True ∧ (AV.v (.int .i64 ((List.map enc_isii p1).length : Int)) = AV.v (.int .i64 (p1.length : Int)))) ∧ True) (by kernel_rfl) ⟨⟨trivial, len_map enc_isii p1⟩, trivial⟩ trivial ?_
  refine AX.seq ?_
  refine AX.seq ?_
  refine AX.reg (its := []) [0, 1, 11] [] (s1 := ⟨[(0, .bs true 4 (List.map enc_isii p1)), (1, .v (.int .i64 (IntKind.wrap .i64 (p2 - (p1.length : Int))))), (11, .v (.bool (decide ((IntKind.wrap .i64 (p2 - (p1.length : Int))) < 0))))], []⟩) (C := True) (by kernel_rfl) trivial trivial ?_
  rcases bool_cases (decide ((IntKind.wrap .i64 (p2 - (p1.length : Int))) < 0)) with b1 | b1
  · replace h := cd_t b1 h
    refine AX.condT (decide ((IntKind.wrap .i64 (p2 - (p1.length : Int))) < 0)) (by kernel_rfl) b1 ?_
    refine AX.seq ?_
    refine AX.reg (its := []) [4] [] (s1 := ⟨[(4, .v (.int .i64 (-1)))], []⟩) (C := True) (by kernel_rfl) trivial trivial ?_
    refine AX.ret ?_
    refine fin_wk (Wk.forget [4] [] (s' := ⟨[(4, .v (.int .i64 (-1)))], []⟩) (by kernel_rfl)) ?_
    have hr := Option.some.inj h
    subst hr
    exact ⟨_, Wk.refl _, .inr rfl, ⟨[], by kernel_rfl, trivial, [.v (.int .i64 (-1))], by kernel_rfl, by kernel_rfl⟩⟩
  · replace h := cd_f b1 h
    refine AX.condF (decide ((IntKind.wrap .i64 (p2 - (p1.length : Int))) < 0)) (by kernel_rfl) b1 ?_
    refine AX.skip ?_
    refine AX.seq ?_
    refine AX.seq ?_
    refine AX.reg (its := []) [0, 1, 5] [] (s1 := ⟨[(0, .bs true 4 (List.map enc_isii p1)), (1, .v (.int .i64 (IntKind.wrap .i64 (p2 - (p1.length : Int))))), (5, .v (.int .i64 0))], []⟩) (C := True) (by kernel_rfl) trivial trivial ?_
    refine AX.block ?_
    obtain ⟨x6, e6, h⟩ := bd_e h
    refine AX.wk (Wk.forget [0, 1, 5] [] (s' := ⟨[(0, .bs true 4 (List.map enc_isii p1)), (1, .v (.int .i64 (IntKind.wrap .i64 (p2 - (p1.length : Int))))), (5, .v (.int .i64 0))], []⟩) (by kernel_rfl)) ?_
    refine AX.mono (s_laws_szChangeS_L1 p1 FU (IntKind.wrap .i64 (p2 - (p1.length : Int)), 0) x6 e6) ?_
    rintro _ _ (⟨x7, rfl, rfl, rfl⟩ | ⟨x8, rfl, rfl, rfl⟩)
    · replace h := sm_l h
      refine fin_wk (Wk.forget [4] [] (s' := ⟨[(4, .v (.int .i64 (-1)))], []⟩) (by kernel_rfl)) ?_
      have hr := Option.some.inj h
      subst hr
      exact ⟨_, Wk.refl _, .inr rfl, ⟨[], by kernel_rfl, trivial, [.v (.int .i64 (-1))], by kernel_rfl, by kernel_rfl⟩⟩
    · replace h := sm_r h
      refine AX.seq ?_
      refine AX.reg (its := []) [4] [] (s1 := ⟨[(4, .v (.int .i64 x8))], []⟩) (C := True) (by kernel_rfl) trivial trivial ?_
      refine AX.ret ?_
      refine fin_wk (Wk.forget [4] [] (s' := ⟨[(4, .v (.int .i64 x8))], []⟩) (by kernel_rfl)) ?_
      have hr := Option.some.inj h
      subst hr
      exact ⟨_, Wk.refl _, .inr rfl, ⟨[], by kernel_rfl, trivial, [.v (.int .i64 x8)], by kernel_rfl, by kernel_rfl⟩⟩

theorem s_laws_toDef (p1 : ByteArray) (p2 : Int) (r : Unit) (h : m_laws_toDef p1 p2 = some r) :
    Eng.Spec Try.prog 80 [.agg [.v (.string p1), .v (.int .i64 p2)]] [] (.agg [.v (.string p1), .v (.int .i64 p2)]) [] := by
  unfold m_laws_toDef at h
  refine Eng.Spec.body Try.func80 (by kernel_rfl) rfl (by kernel_rfl) ?_
  refine AX.wkpost ?_
  refine AX.seq ?_
  refine AX.reg (its := [.auto { nk := 0 }, .auto { nk := 1 }]) [1, 2] [0, 1] (s1 := ⟨[(1, .pt 0 0), (2, .pt 1 0)], [(0, .box [.v (.string p1), .v (.int .i64 p2)]), (1, .box [.v (.string ByteArray.empty), .v (.int .i64 0)])]⟩) (C := True) (by kernel_rfl) trivial trivial ?_
  refine AX.seq ?_
  refine AX.reg (its := [.auto { nk := 2 }]) [1, 2, 3] [0, 1, 2] (s1 := ⟨[(1, .pt 0 0), (2, .pt 1 0), (3, .pt 2 0)], [(0, .box [.v (.string p1), .v (.int .i64 p2)]), (1, .box [.v (.string ByteArray.empty), .v (.int .i64 0)]), (2, .box [.v (.string ByteArray.empty), .v (.int .i64 0)])]⟩) (C := True) (by kernel_rfl) trivial trivial ?_
  refine AX.seq ?_
  refine AX.reg (its := []) [1, 2, 3] [0, 1, 2] (s1 := ⟨[(1, .pt 0 0), (2, .pt 1 0), (3, .pt 2 0)], [(0, .box [.v (.string p1), .v (.int .i64 p2)]), (1, .box [.v (.string ByteArray.empty), .v (.int .i64 0)]), (2, .box [.v (.string p1), .v (.int .i64 0)])]⟩) (C := True) (by kernel_rfl) trivial trivial ?_
  refine AX.seq ?_
  refine AX.reg (its := []) [2, 3] [1, 2] (s1 := ⟨[(2, .pt 1 0), (3, .pt 2 0)], [(1, .box [.v (.string ByteArray.empty), .v (.int .i64 0)]), (2, .box [.v (.string p1), .v (.int .i64 p2)])]⟩) (C := True) (by kernel_rfl) trivial trivial ?_
  refine AX.seq ?_
  refine AX.reg (its := []) [2] [1] (s1 := ⟨[(2, .pt 1 0)], [(1, .box [.v (.string p1), .v (.int .i64 p2)])]⟩) (C := True) (by kernel_rfl) trivial trivial ?_
  refine AX.ret ?_
  refine fin_wk (Wk.swap 0 1 (Nat.le_of_ble_eq_true (by kernel_rfl)) (Nat.le_of_ble_eq_true (by kernel_rfl)) rfl) ?_
  refine fin_wk (Wk.forget [2] [0] (s' := ⟨[(2, .pt 0 0)], [(0, .box [.v (.string p1), .v (.int .i64 p2)])]⟩) (by kernel_rfl)) ?_
  have hr := Option.some.inj h
  subst hr
  exact ⟨_, Wk.refl _, .inr rfl, ⟨[], by kernel_rfl, trivial, [.agg [.v (.string p1), .v (.int .i64 p2)]], by kernel_rfl, by kernel_rfl⟩⟩

theorem s_laws_toDefS_L1 (p1 : List (ByteArray × Int)) (n : Nat) (g : (List (ByteArray × Int)) × Int) (out : List (ByteArray × Int)) (h : m_laws_toDefS_L1 p1 n g.1 g.2 = some out) :
    AX Try.prog 23 0 (codeAt [1, 1, 0, 1, 1] (bodyOf Try.f46)) ((fun g : (List (ByteArray × Int)) × Int => (⟨[(0, .bs true 2 (List.map enc_si p1)), (3, .sl 0 0 g.1.length), (4, .v (.int .i64 g.2))], [(0, .arr 2 (List.map enc_si g.1))]⟩ : S)) g) (fun ex s => ex = .exit 0 ∧ s = (fun o : List (ByteArray × Int) => (⟨[(3, .sl 0 0 o.length)], [(0, .arr 2 (List.map enc_si o))]⟩ : S)) out) := by
  refine AX.wkpost ?_
  refine AX.loop (G := Nat × ((List (ByteArray × Int)) × Int)) (fun q => (fun g : (List (ByteArray × Int)) × Int => (⟨[(0, .bs true 2 (List.map enc_si p1)), (3, .sl 0 0 g.1.length), (4, .v (.int .i64 g.2))], [(0, .arr 2 (List.map enc_si g.1))]⟩ : S)) q.2) (fun q => m_laws_toDefS_L1 p1 q.1 q.2.1 q.2.2 = some out) (fun q => q.1) (n, g) h (Wk.refl _) ?_
  clear h
  rintro ⟨fu, v2, v3⟩ h
  cases fu with
  | zero => cases h
  | succ fu =>
    rw [m_laws_toDefS_L1] at h
    refine AX.seq ?_
    refine AX.seq ?_
    refine AX.reg (its := [.auto {}, .auto {}, .auto { y := some (.v (.int .i64 (p1.length : Int))) }]) [0, 3, 4, 11] [0] (s1 := ⟨[(0, .bs true 2 (List.map enc_si p1)), (3, .sl 0 0 v2.length), (4, .v (.int .i64 v3)), (11, .v (.bool (decide (v3 < (p1.length : Int)))))], [(0, .arr 2 (List.map enc_si v2))]⟩) (C := (True ∧ (AV.v (.int .i64 ((List.map enc_si p1).length : Int)) = AV.v (.int .i64 (p1.length : Int)))) ∧ True) (by kernel_rfl) ⟨⟨trivial, len_map enc_si p1⟩, trivial⟩ trivial ?_
    rcases bool_cases (decide (v3 < (p1.length : Int))) with b2 | b2
    · replace h := cd_t b2 h
      refine AX.condT (decide (v3 < (p1.length : Int))) (by kernel_rfl) b2 ?_
      refine AX.skip ?_
      refine AX.seq ?_
      refine AX.block ?_
      obtain ⟨g3, h⟩ := gd_e h
      obtain ⟨x4, e4, h⟩ := bd_e h
      obtain ⟨g5, h⟩ := gd_e h
      refine AX.reg (its := [.auto {}, .auto {}, .auto {}, .auto {}, .auto { y := some (.be 2 (enc_si (gt p1 v3)) 0) }, .auto {}, .call 80 [.agg [.v (.string ((gt p1 v3).1)), .v (.int .i64 ((gt p1 v3).2))]] (handO (rho ([] ++ [])) [] [] ++ []) (callEv [] [] (.agg [.v (.string ((gt p1 v3).1)), .v (.int .i64 ((gt p1 v3).2))]) [])]) [0, 3, 4] [0] (s1 := ⟨[(0, .bs true 2 (List.map enc_si p1)), (3, .sl 0 0 v2.length), (4, .v (.int .i64 v3))], [(0, .arr 2 ((List.map enc_si v2).set (0 + v3.toNat) [(.string ((gt p1 v3).1)), (.int .i64 ((gt p1 v3).2))]))]⟩) (C := ((0 ≤ v3 ∧ v3 < ((List.map enc_si p1).length : Int)) ∧ (AV.be 2 ((List.map enc_si p1).getD v3.toNat []) 0 = AV.be 2 (enc_si (gt p1 v3)) 0)) ∧ ((([.agg [.v (.string ((gt p1 v3).1)), .v (.int .i64 ((gt p1 v3).2))]] : List AV) = [.agg [.v (.string ((gt p1 v3).1)), .v (.int .i64 ((gt p1 v3).2))]]) ∧ True) ∧ (0 ≤ v3 ∧ v3 < (v2.length : Int)) ∧ True) (by kernel_rfl) ⟨idx_bs enc_si p1 v3 2 g3, ⟨⟨rfl, trivial⟩, ⟨g5, trivial⟩⟩⟩ ⟨call_ok (ks := []) (ns := []) (bor := []) (bobjs := []) (s_laws_toDef ((gt p1 v3).1) ((gt p1 v3).2) x4 e4) (.cons (.c1 (.agg (.cons (.same _ (by kernel_rfl) (by kernel_rfl)) (.cons (.same _ (by kernel_rfl) (by kernel_rfl)) (.nil))))) (.nil)) (by kernel_rfl) trivial, trivial⟩ ?_
      refine AX.reg (its := [.auto {}, .auto { raw := true }]) [0, 3, 4] [0] (s1 := ⟨[(0, .bs true 2 (List.map enc_si p1)), (3, .sl 0 0 v2.length), (4, .v (.int .i64 (IntKind.wrap .i64 (v3 + 1))))], [(0, .arr 2 ((List.map enc_si v2).set (0 + v3.toNat) [(.string ((gt p1 v3).1)), (.int .i64 ((gt p1 v3).2))]))]⟩) (C := True) (by kernel_rfl) trivial trivial ?_
      refine ⟨(fu, (v2.set (0 + v3.toNat) (((gt p1 v3).1), ((gt p1 v3).2)), IntKind.wrap .i64 (v3 + 1))), h, Nat.lt_succ_self _, ?_⟩
      refine Wk.trans (Wk.forget [0, 3, 4] [0] (s' := ⟨[(0, .bs true 2 (List.map enc_si p1)), (3, .sl 0 0 v2.length), (4, .v (.int .i64 (IntKind.wrap .i64 (v3 + 1))))], [(0, .arr 2 ((List.map enc_si v2).set (0 + v3.toNat) [(.string ((gt p1 v3).1)), (.int .i64 ((gt p1 v3).2))]))]⟩) (by kernel_rfl)) ?_
      refine Wk.trans (Wk.of_eq (congrArg (fun z => (⟨[(0, .bs true 2 (List.map enc_si p1)), (3, .sl 0 0 v2.length), (4, .v (.int .i64 (IntKind.wrap .i64 (v3 + 1))))], [(0, .arr 2 (z))]⟩ : S)) (set_can (enc := enc_si) rfl (0 + v3.toNat) (((gt p1 v3).1), ((gt p1 v3).2))))) ?_
      refine Wk.trans (Wk.of_eq (congrArg (fun z => (⟨[(0, .bs true 2 (List.map enc_si p1)), (3, .sl 0 0 z), (4, .v (.int .i64 (IntKind.wrap .i64 (v3 + 1))))], [(0, .arr 2 (List.map enc_si (v2.set (0 + v3.toNat) (((gt p1 v3).1), ((gt p1 v3).2)))))]⟩ : S)) (set_len ((rfl : v2.length = v2.length)) (0 + v3.toNat) (((gt p1 v3).1), ((gt p1 v3).2))))) ?_
      exact Wk.refl _
    · replace h := cd_f b2 h
      refine AX.condF (decide (v3 < (p1.length : Int))) (by kernel_rfl) b2 ?_
      refine AX.exit ?_
      refine fin_wk (Wk.forget [3] [0] (s' := ⟨[(3, .sl 0 0 v2.length)], [(0, .arr 2 (List.map enc_si v2))]⟩) (by kernel_rfl)) ?_
      have hr := Option.some.inj h
      subst hr
      exact ⟨_, Wk.refl _, ⟨rfl, rfl⟩⟩

theorem s_laws_toDefS (p1 : List (ByteArray × Int)) (r : List (ByteArray × Int)) (h : m_laws_toDefS p1 = some r) :
    Eng.Spec Try.prog 46 [.bs true 2 (List.map enc_si p1)] [] (.sl 0 0 r.length) [.arr 2 (List.map enc_si r)] := by
  unfold m_laws_toDefS at h
  refine Eng.Spec.body Try.func46 (by kernel_rfl) rfl (by kernel_rfl) ?_
  refine AX.wkpost ?_
  refine AX.seq ?_
  refine AX.reg (its := []) [0] [] (s1 := ⟨[(0, .bs true 2 (List.map enc_si p1))], []⟩) (C := True) (by kernel_rfl) trivial trivial ?_
  refine AX.seq ?_
  obtain ⟨g1, h⟩ := gd_e h
  refine AX.reg (its := [.auto {}, .auto { y := some (.v (.int .i64 (p1.length : Int))) }, .auto { y := some (.sl 0 0 ((List.replicate (p1.length : Int).toNat ((ByteArray.empty, 0) : ByteArray × Int)).length)), nk := 0 }]) [0, 3] [0] (s1 := ⟨[(0, .bs true 2 (List.map enc_si p1)), (3, .sl 0 0 ((List.replicate (p1.length : Int).toNat ((ByteArray.empty, 0) : ByteArray × Int)).length))], [(0, .arr 2 (List.replicate (p1.length : Int).toNat (enc_si ((ByteArray.empty, 0) : ByteArray × Int))))]⟩) (C := (True ∧ (AV.v (.int .i64 ((List.map enc_si p1).length : Int)) = AV.v (.int .i64 (p1.length : Int)))) ∧ ((0 ≤ (p1.length : Int) ∧ (p1.length : Int) = (p1.length : Int) ∧ (24 : Int) * (p1.length : Int) ≤ 281474976710656 ∧ (p1.length : Int) ≤ 9223372036854775807) ∧ (AV.sl 0 0 (List.replicate (p1.length : Int).toNat (enc_si ((ByteArray.empty, 0) : ByteArray × Int))).length = AV.sl 0 0 (List.replicate (p1.length : Int).toNat ((ByteArray.empty, 0) : ByteArray × Int)).length)) ∧ True) (by kernel_rfl) ⟨⟨trivial, len_map enc_si p1⟩, ⟨⟨g1, sl_len (enc := enc_si) (rep_can (p1.length : Int).toNat ((ByteArray.empty, 0) : ByteArray × Int))⟩, trivial⟩⟩ trivial ?_
  refine AX.seq ?_
  refine AX.seq ?_
  refine AX.reg (its := []) [0, 3, 4] [0] (s1 := ⟨[(0, .bs true 2 (List.map enc_si p1)), (3, .sl 0 0 ((List.replicate (p1.length : Int).toNat ((ByteArray.empty, 0) : ByteArray × Int)).length)), (4, .v (.int .i64 0))], [(0, .arr 2 (List.replicate (p1.length : Int).toNat (enc_si ((ByteArray.empty, 0) : ByteArray × Int))))]⟩) (C := True) (by kernel_rfl) trivial trivial ?_
  refine AX.block ?_
  obtain ⟨x5, e6, h⟩ := bd_e h
  refine AX.wk (Wk.forget [0, 3, 4] [0] (s' := ⟨[(0, .bs true 2 (List.map enc_si p1)), (3, .sl 0 0 ((List.replicate (p1.length : Int).toNat ((ByteArray.empty, 0) : ByteArray × Int)).length)), (4, .v (.int .i64 0))], [(0, .arr 2 (List.replicate (p1.length : Int).toNat (enc_si ((ByteArray.empty, 0) : ByteArray × Int))))]⟩) (by kernel_rfl)) ?_
  refine AX.wk (Wk.of_eq (congrArg (fun z => (⟨[(0, .bs true 2 (List.map enc_si p1)), (3, .sl 0 0 ((List.replicate (p1.length : Int).toNat ((ByteArray.empty, 0) : ByteArray × Int)).length)), (4, .v (.int .i64 0))], [(0, .arr 2 (z))]⟩ : S)) (rep_can (enc := enc_si) (p1.length : Int).toNat ((ByteArray.empty, 0) : ByteArray × Int)))) ?_
  refine AX.mono (s_laws_toDefS_L1 p1 FU (List.replicate (p1.length : Int).toNat ((ByteArray.empty, 0) : ByteArray × Int), 0) x5 e6) ?_
  rintro _ _ ⟨rfl, rfl⟩
  skip
  refine AX.seq ?_
  refine AX.reg (its := []) [2] [0] (s1 := ⟨[(2, .sl 0 0 x5.length)], [(0, .arr 2 (List.map enc_si x5))]⟩) (C := True) (by kernel_rfl) trivial trivial ?_
  refine AX.ret ?_
  refine fin_wk (Wk.forget [2] [0] (s' := ⟨[(2, .sl 0 0 x5.length)], [(0, .arr 2 (List.map enc_si x5))]⟩) (by kernel_rfl)) ?_
  have hr := Option.some.inj h
  subst hr
  exact ⟨_, Wk.refl _, .inr rfl, ⟨[0], by kernel_rfl, ⟨rfl, trivial⟩, [.sl 0 0 x5.length], by kernel_rfl, by kernel_rfl⟩⟩

theorem s_laws_toEnum (p1 : List (ByteArray × Int)) (r : List (ByteArray × Int)) (h : m_laws_toEnum p1 = some r) :
    Eng.Spec Try.prog 17 [.agg [.bs true 2 (List.map enc_si p1)]] [] (.agg [.sl 0 0 r.length]) [.arr 2 (List.map enc_si r)] := by
  unfold m_laws_toEnum at h
  refine Eng.Spec.body Try.func17 (by kernel_rfl) rfl (by kernel_rfl) ?_
  refine AX.wkpost ?_
  refine AX.seq ?_
  refine AX.reg (its := [.auto { nk := 0 }, .auto { nk := 1 }]) [1, 2] [0, 1] (s1 := ⟨[(1, .pt 0 0), (2, .pt 1 0)], [(0, .box [.bs true 2 (List.map enc_si p1)]), (1, .box [.v (.slice none 0 0)])]⟩) (C := True) (by kernel_rfl) trivial trivial ?_
  refine AX.seq ?_
  refine AX.reg (its := [.auto { nk := 2 }]) [1, 2, 3] [0, 1, 2] (s1 := ⟨[(1, .pt 0 0), (2, .pt 1 0), (3, .pt 2 0)], [(0, .box [.bs true 2 (List.map enc_si p1)]), (1, .box [.v (.slice none 0 0)]), (2, .box [.v (.slice none 0 0)])]⟩) (C := True) (by kernel_rfl) trivial trivial ?_
  refine AX.seq ?_
  obtain ⟨x2, e1, h⟩ := bd_e h
  refine AX.reg (its := [.auto {}, .auto {}, .call 46 [.bs true 2 (List.map enc_si p1)] (handO (rho ([] ++ [3])) [] [] ++ []) (callEv [] [3] (.sl 0 0 x2.length) [.arr 2 (List.map enc_si x2)])]) [2, 3] [1, 2, 3] (s1 := ⟨[(2, .pt 1 0), (3, .pt 2 0)], [(1, .box [.v (.slice none 0 0)]), (2, .box [.sl 3 0 x2.length]), (3, .arr 2 (List.map enc_si x2))]⟩) (C := ((([.bs true 2 (List.map enc_si p1)] : List AV) = [.bs true 2 (List.map enc_si p1)]) ∧ True) ∧ True) (by kernel_rfl) ⟨⟨rfl, trivial⟩, trivial⟩ ⟨call_ok (ks := []) (ns := [3]) (bor := []) (bobjs := []) (s_laws_toDefS p1 x2 e1) (.cons (.c1 (.c0 (.same _ (by kernel_rfl) (by kernel_rfl)))) (.nil)) (by kernel_rfl) trivial, trivial⟩ ?_
  refine AX.seq ?_
  refine AX.reg (its := []) [2] [1, 3] (s1 := ⟨[(2, .pt 1 0)], [(1, .box [.sl 3 0 x2.length]), (3, .arr 2 (List.map enc_si x2))]⟩) (C := True) (by kernel_rfl) trivial trivial ?_
  refine AX.ret ?_
  refine fin_wk (Wk.swap 0 1 (Nat.le_of_ble_eq_true (by kernel_rfl)) (Nat.le_of_ble_eq_true (by kernel_rfl)) rfl) ?_
  refine fin_wk (Wk.swap 1 3 (Nat.le_of_ble_eq_true (by kernel_rfl)) (Nat.le_of_ble_eq_true (by kernel_rfl)) rfl) ?_
  refine fin_wk (Wk.forget [2] [0, 1] (s' := ⟨[(2, .pt 0 0)], [(0, .box [.sl 1 0 x2.length]), (1, .arr 2 (List.map enc_si x2))]⟩) (by kernel_rfl)) ?_
  have hr := Option.some.inj h
  subst hr
  exact ⟨_, Wk.refl _, .inr rfl, ⟨[1], by kernel_rfl, ⟨rfl, trivial⟩, [.agg [.sl 1 0 x2.length]], by kernel_rfl, by kernel_rfl⟩⟩

theorem s_laws_toChange (p1 : Int) (p2 : ByteArray) (p3 : Int) (p4 : Int) (r : Unit) (h : m_laws_toChange p1 p2 p3 p4 = some r) :
    Eng.Spec Try.prog 47 [.agg [.v (.int .i64 p1), .v (.string p2), .v (.int .i64 p3), .v (.int .i64 p4)]] [] (.agg [.v (.int .i64 p1), .v (.string p2), .v (.int .i64 p3), .v (.int .i64 p4)]) [] := by
  unfold m_laws_toChange at h
  refine Eng.Spec.body Try.func47 (by kernel_rfl) rfl (by kernel_rfl) ?_
  refine AX.wkpost ?_
  refine AX.seq ?_
  refine AX.reg (its := [.auto { nk := 0 }, .auto { nk := 1 }]) [1, 2] [0, 1] (s1 := ⟨[(1, .pt 0 0), (2, .pt 1 0)], [(0, .box [.v (.int .i64 p1), .v (.string p2), .v (.int .i64 p3), .v (.int .i64 p4)]), (1, .box [.v (.int .i64 0), .v (.string ByteArray.empty), .v (.int .i64 0), .v (.int .i64 0)])]⟩) (C := True) (by kernel_rfl) trivial trivial ?_
  refine AX.seq ?_
  refine AX.reg (its := [.auto { nk := 2 }]) [1, 2, 3] [0, 1, 2] (s1 := ⟨[(1, .pt 0 0), (2, .pt 1 0), (3, .pt 2 0)], [(0, .box [.v (.int .i64 p1), .v (.string p2), .v (.int .i64 p3), .v (.int .i64 p4)]), (1, .box [.v (.int .i64 0), .v (.string ByteArray.empty), .v (.int .i64 0), .v (.int .i64 0)]), (2, .box [.v (.int .i64 0), .v (.string ByteArray.empty), .v (.int .i64 0), .v (.int .i64 0)])]⟩) (C := True) (by kernel_rfl) trivial trivial ?_
  refine AX.seq ?_
  refine AX.reg (its := []) [1, 2, 3] [0, 1, 2] (s1 := ⟨[(1, .pt 0 0), (2, .pt 1 0), (3, .pt 2 0)], [(0, .box [.v (.int .i64 p1), .v (.string p2), .v (.int .i64 p3), .v (.int .i64 p4)]), (1, .box [.v (.int .i64 0), .v (.string ByteArray.empty), .v (.int .i64 0), .v (.int .i64 0)]), (2, .box [.v (.int .i64 p1), .v (.string ByteArray.empty), .v (.int .i64 0), .v (.int .i64 0)])]⟩) (C := True) (by kernel_rfl) trivial trivial ?_
  refine AX.seq ?_
  refine AX.reg (its := []) [1, 2, 3] [0, 1, 2] (s1 := ⟨[(1, .pt 0 0), (2, .pt 1 0), (3, .pt 2 0)], [(0, .box [.v (.int .i64 p1), .v (.string p2), .v (.int .i64 p3), .v (.int .i64 p4)]), (1, .box [.v (.int .i64 0), .v (.string ByteArray.empty), .v (.int .i64 0), .v (.int .i64 0)]), (2, .box [.v (.int .i64 p1), .v (.string p2), .v (.int .i64 0), .v (.int .i64 0)])]⟩) (C := True) (by kernel_rfl) trivial trivial ?_
  refine AX.seq ?_
  refine AX.reg (its := []) [1, 2, 3] [0, 1, 2] (s1 := ⟨[(1, .pt 0 0), (2, .pt 1 0), (3, .pt 2 0)], [(0, .box [.v (.int .i64 p1), .v (.string p2), .v (.int .i64 p3), .v (.int .i64 p4)]), (1, .box [.v (.int .i64 0), .v (.string ByteArray.empty), .v (.int .i64 0), .v (.int .i64 0)]), (2, .box [.v (.int .i64 p1), .v (.string p2), .v (.int .i64 p3), .v (.int .i64 0)])]⟩) (C := True) (by kernel_rfl) trivial trivial ?_
  refine AX.seq ?_
  refine AX.reg (its := []) [2, 3] [1, 2] (s1 := ⟨[(2, .pt 1 0), (3, .pt 2 0)], [(1, .box [.v (.int .i64 0), .v (.string ByteArray.empty), .v (.int .i64 0), .v (.int .i64 0)]), (2, .box [.v (.int .i64 p1), .v (.string p2), .v (.int .i64 p3), .v (.int .i64 p4)])]⟩) (C := True) (by kernel_rfl) trivial trivial ?_
  refine AX.seq ?_
  refine AX.reg (its := []) [2] [1] (s1 := ⟨[(2, .pt 1 0)], [(1, .box [.v (.int .i64 p1), .v (.string p2), .v (.int .i64 p3), .v (.int .i64 p4)])]⟩) (C := True) (by kernel_rfl) trivial trivial ?_
  refine AX.ret ?_
  refine fin_wk (Wk.swap 0 1 (Nat.le_of_ble_eq_true (by kernel_rfl)) (Nat.le_of_ble_eq_true (by kernel_rfl)) rfl) ?_
  refine fin_wk (Wk.forget [2] [0] (s' := ⟨[(2, .pt 0 0)], [(0, .box [.v (.int .i64 p1), .v (.string p2), .v (.int .i64 p3), .v (.int .i64 p4)])]⟩) (by kernel_rfl)) ?_
  have hr := Option.some.inj h
  subst hr
  exact ⟨_, Wk.refl _, .inr rfl, ⟨[], by kernel_rfl, trivial, [.agg [.v (.int .i64 p1), .v (.string p2), .v (.int .i64 p3), .v (.int .i64 p4)]], by kernel_rfl, by kernel_rfl⟩⟩

theorem s_laws_toChangeS_L1 (p1 : List (Int × ByteArray × Int × Int)) (n : Nat) (g : (List (Int × ByteArray × Int × Int)) × Int) (out : List (Int × ByteArray × Int × Int)) (h : m_laws_toChangeS_L1 p1 n g.1 g.2 = some out) :
    AX Try.prog 23 0 (codeAt [1, 1, 0, 1, 1] (bodyOf Try.f18)) ((fun g : (List (Int × ByteArray × Int × Int)) × Int => (⟨[(0, .bs true 4 (List.map enc_isii p1)), (3, .sl 0 0 g.1.length), (4, .v (.int .i64 g.2))], [(0, .arr 4 (List.map enc_isii g.1))]⟩ : S)) g) (fun ex s => ex = .exit 0 ∧ s = (fun o : List (Int × ByteArray × Int × Int) => (⟨[(3, .sl 0 0 o.length)], [(0, .arr 4 (List.map enc_isii o))]⟩ : S)) out) := by
  refine AX.wkpost ?_
  refine AX.loop (G := Nat × ((List (Int × ByteArray × Int × Int)) × Int)) (fun q => (fun g : (List (Int × ByteArray × Int × Int)) × Int => (⟨[(0, .bs true 4 (List.map enc_isii p1)), (3, .sl 0 0 g.1.length), (4, .v (.int .i64 g.2))], [(0, .arr 4 (List.map enc_isii g.1))]⟩ : S)) q.2) (fun q => m_laws_toChangeS_L1 p1 q.1 q.2.1 q.2.2 = some out) (fun q => q.1) (n, g) h (Wk.refl _) ?_
  clear h
  rintro ⟨fu, v2, v3⟩ h
  cases fu with
  | zero => cases h
  | succ fu =>
    rw [m_laws_toChangeS_L1] at h
    refine AX.seq ?_
    refine AX.seq ?_
    refine AX.reg (its := [.auto {}, .auto {}, .auto { y := some (.v (.int .i64 (p1.length : Int))) }]) [0, 3, 4, 11] [0] (s1 := ⟨[(0, .bs true 4 (List.map enc_isii p1)), (3, .sl 0 0 v2.length), (4, .v (.int .i64 v3)), (11, .v (.bool (decide (v3 < (p1.length : Int)))))], [(0, .arr 4 (List.map enc_isii v2))]⟩) (C := (True ∧ (AV.v (.int .i64 ((List.map enc_isii p1).length : Int)) = AV.v (.int .i64 (p1.length : Int)))) ∧ True) (by kernel_rfl) ⟨⟨trivial, len_map enc_isii p1⟩, trivial⟩ trivial ?_
    rcases bool_cases (decide (v3 < (p1.length : Int))) with b2 | b2
    · replace h := cd_t b2 h
      refine AX.condT (decide (v3 < (p1.length : Int))) (by kernel_rfl) b2 ?_
      refine AX.skip ?_
      refine AX.seq ?_
      refine AX.block ?_
      obtain ⟨g3, h⟩ := gd_e h
      obtain ⟨x4, e4, h⟩ := bd_e h
      obtain ⟨g5, h⟩ := gd_e h
      refine AX.reg (its := [.auto {}, .auto {}, .auto {}, .auto {}, .auto { y := some (.be 4 (enc_isii (gt p1 v3)) 0) }, .auto {}, .call 47 [.agg [.v (.int .i64 ((gt p1 v3).1)), .v (.string ((gt p1 v3).2.1)), .v (.int .i64 ((gt p1 v3).2.2.1)), .v (.int .i64 ((gt p1 v3).2.2.2))]] (handO (rho ([] ++ [])) [] [] ++ []) (callEv [] [] (.agg [.v (.int .i64 ((gt p1 v3).1)), .v (.string ((gt p1 v3).2.1)), .v (.int .i64 ((gt p1 v3).2.2.1)), .v (.int .i64 ((gt p1 v3).2.2.2))]) [])]) [0, 3, 4] [0] (s1 := ⟨[(0, .bs true 4 (List.map enc_isii p1)), (3, .sl 0 0 v2.length), (4, .v (.int .i64 v3))], [(0, .arr 4 ((List.map enc_isii v2).set (0 + v3.toNat) [(.int .i64 ((gt p1 v3).1)), (.string ((gt p1 v3).2.1)), (.int .i64 ((gt p1 v3).2.2.1)), (.int .i64 ((gt p1 v3).2.2.2))]))]⟩) (C := ((0 ≤ v3 ∧ v3 < ((List.map enc_isii p1).length : Int)) ∧ (AV.be 4 ((List.map enc_isii p1).getD v3.toNat []) 0 = AV.be 4 (enc_isii (gt p1 v3)) 0)) ∧ ((([.agg [.v (.int .i64 ((gt p1 v3).1)), .v (.string ((gt p1 v3).2.1)), .v (.int .i64 ((gt p1 v3).2.2.1)), .v (.int .i64 ((gt p1 v3).2.2.2))]] : List AV) = [.agg [.v (.int .i64 ((gt p1 v3).1)), .v (.string ((gt p1 v3).2.1)), .v (.int .i64 ((gt p1 v3).2.2.1)), .v (.int .i64 ((gt p1 v3).2.2.2))]]) ∧ True) ∧ (0 ≤ v3 ∧ v3 < (v2.length : Int)) ∧ True) (by kernel_rfl) ⟨idx_bs enc_isii p1 v3 4 g3, ⟨⟨rfl, trivial⟩, ⟨g5, trivial⟩⟩⟩ ⟨call_ok (ks := []) (ns := []) (bor := []) (bobjs := []) (s_laws_toChange ((gt p1 v3).1) ((gt p1 v3).2.1) ((gt p1 v3).2.2.1) ((gt p1 v3).2.2.2) x4 e4) (.cons (.c1 (.agg (.cons (.same _ (by kernel_rfl) (by kernel_rfl)) (.cons (.same _ (by kernel_rfl) (by kernel_rfl)) (.cons (.same _ (by kernel_rfl) (by kernel_rfl)) (.cons (.same _ (by kernel_rfl) (by kernel_rfl)) (.nil))))))) (.nil)) (by kernel_rfl) trivial, trivial⟩ ?_
      refine AX.reg (its := [.auto {}, .auto { raw := true }]) [0, 3, 4] [0] (s1 := ⟨[(0, .bs true 4 (List.map enc_isii p1)), (3, .sl 0 0 v2.length), (4, .v (.int .i64 (IntKind.wrap .i64 (v3 + 1))))], [(0, .arr 4 ((List.map enc_isii v2).set (0 + v3.toNat) [(.int .i64 ((gt p1 v3).1)), (.string ((gt p1 v3).2.1)), (.int .i64 ((gt p1 v3).2.2.1)), (.int .i64 ((gt p1 v3).2.2.2))]))]⟩) (C := True) (by kernel_rfl) trivial trivial ?_
      refine ⟨(fu, (v2.set (0 + v3.toNat) (((gt p1 v3).1), ((gt p1 v3).2.1), ((gt p1 v3).2.2.1), ((gt p1 v3).2.2.2)), IntKind.wrap .i64 (v3 + 1))), h, Nat.lt_succ_self _, ?_⟩
      refine Wk.trans (Wk.forget [0, 3, 4] [0] (s' := ⟨[(0, .bs true 4 (List.map enc_isii p1)), (3, .sl 0 0 v2.length), (4, .v (.int .i64 (IntKind.wrap .i64 (v3 + 1))))], [(0, .arr 4 ((List.map enc_isii v2).set (0 + v3.toNat) [(.int .i64 ((gt p1 v3).1)), (.string ((gt p1 v3).2.1)), (.int .i64 ((gt p1 v3).2.2.1)), (.int .i64 ((gt p1 v3).2.2.2))]))]⟩) (by kernel_rfl)) ?_
      refine Wk.trans (Wk.of_eq (congrArg (fun z => (⟨[(0, .bs true 4 (List.map enc_isii p1)), (3, .sl 0 0 v2.length), (4, .v (.int .i64 (IntKind.wrap .i64 (v3 + 1))))], [(0, .arr 4 (z))]⟩ : S)) (set_can (enc := enc_isii) rfl (0 + v3.toNat) (((gt p1 v3).1), ((gt p1 v3).2.1), ((gt p1 v3).2.2.1), ((gt p1 v3).2.2.2))))) ?_
      refine Wk.trans (Wk.of_eq (congrArg (fun z => (⟨[(0, .bs true 4 (List.map enc_isii p1)), (3, .sl 0 0 z), (4, .v (.int .i64 (IntKind.wrap .i64 (v3 + 1))))], [(0, .arr 4 (List.map enc_isii (v2.set (0 + v3.toNat) (((gt p1 v3).1), ((gt p1 v3).2.1), ((gt p1 v3).2.2.1), ((gt p1 v3).2.2.2)))))]⟩ : S)) (set_len ((rfl : v2.length = v2.length)) (0 + v3.toNat) (((gt p1 v3).1), ((gt p1 v3).2.1), ((gt p1 v3).2.2.1), ((gt p1 v3).2.2.2))))) ?_
      exact Wk.refl _
    · replace h := cd_f b2 h
      refine AX.condF (decide (v3 < (p1.length : Int))) (by kernel_rfl) b2 ?_
      refine AX.exit ?_
      refine fin_wk (Wk.forget [3] [0] (s' := ⟨[(3, .sl 0 0 v2.length)], [(0, .arr 4 (List.map enc_isii v2))]⟩) (by kernel_rfl)) ?_
      have hr := Option.some.inj h
      subst hr
      exact ⟨_, Wk.refl _, ⟨rfl, rfl⟩⟩

theorem s_laws_toChangeS (p1 : List (Int × ByteArray × Int × Int)) (r : List (Int × ByteArray × Int × Int)) (h : m_laws_toChangeS p1 = some r) :
    Eng.Spec Try.prog 18 [.bs true 4 (List.map enc_isii p1)] [] (.sl 0 0 r.length) [.arr 4 (List.map enc_isii r)] := by
  unfold m_laws_toChangeS at h
  refine Eng.Spec.body Try.func18 (by kernel_rfl) rfl (by kernel_rfl) ?_
  refine AX.wkpost ?_
  refine AX.seq ?_
  refine AX.reg (its := []) [0] [] (s1 := ⟨[(0, .bs true 4 (List.map enc_isii p1))], []⟩) (C := True) (by kernel_rfl) trivial trivial ?_
  refine AX.seq ?_
  obtain ⟨g1, h⟩ := gd_e h
  refine AX.reg (its := [.auto {}, .auto { y := some (.v (.int .i64 (p1.length : Int))) }, .auto { y := some (.sl 0 0 ((List.replicate (p1.length : Int).toNat ((0, ByteArray.empty, 0, 0) : Int × ByteArray × Int × Int)).length)), nk := 0 }]) [0, 3] [0] (s1 := ⟨[(0, .bs true 4 (List.map enc_isii p1)), (3, .sl 0 0 ((List.replicate (p1.length : Int).toNat ((0, ByteArray.empty, 0, 0) : Int × ByteArray × Int × Int)).length))], [(0, .arr 4 (List.replicate (p1.length : Int).toNat (enc_isii ((0, ByteArray.empty, 0, 0) : Int × ByteArray × Int × Int))))]⟩) (C := (True ∧ (AV.v (.int .i64 ((List.map enc_isii p1).length : Int)) = AV.v (.int .i64 (p1.length : Int)))) ∧ ((0 ≤ (p1.length : Int) ∧ (p1.length : Int) = (p1.length : Int) ∧ (40 : Int) * (p1.length : Int) ≤ 281474976710656 ∧ (p1.length : Int) ≤ 9223372036854775807) ∧ (AV.sl 0 0 (List.replicate (p1.length : Int).toNat (enc_isii ((0, ByteArray.empty, 0, 0) : Int × ByteArray × Int × Int))).length = AV.sl 0 0 (List.replicate (p1.length : Int).toNat ((0, ByteArray.empty, 0, 0) : Int × ByteArray × Int × Int)).length)) ∧ True) (by kernel_rfl) ⟨⟨trivial, len_map enc_isii p1⟩, ⟨⟨g1, sl_len (enc := enc_isii) (rep_can (p1.length : Int).toNat ((0, ByteArray.empty, 0, 0) : Int × ByteArray × Int × Int))⟩, trivial⟩⟩ trivial ?_
  refine AX.seq ?_
  refine AX.seq ?_
  refine AX.reg (its := []) [0, 3, 4] [0] (s1 := ⟨[(0, .bs true 4 (List.map enc_isii p1)), (3, .sl 0 0 ((List.replicate (p1.length : Int).toNat ((0, ByteArray.empty, 0, 0) : Int × ByteArray × Int × Int)).length)), (4, .v (.int .i64 0))], [(0, .arr 4 (List.replicate (p1.length : Int).toNat (enc_isii ((0, ByteArray.empty, 0, 0) : Int × ByteArray × Int × Int))))]⟩) (C := True) (by kernel_rfl) trivial trivial ?_
  refine AX.block ?_
  obtain ⟨x5, e6, h⟩ := bd_e h
  refine AX.wk (Wk.forget [0, 3, 4] [0] (s' := ⟨[(0, .bs true 4 (List.map enc_isii p1)), (3, .sl 0 0 ((List.replicate (p1.length : Int).toNat ((0, ByteArray.empty, 0, 0) : Int × ByteArray × Int × Int)).length)), (4, .v (.int .i64 0))], [(0, .arr 4 (List.replicate (p1.length : Int).toNat (enc_isii ((0, ByteArray.empty, 0, 0) : Int × ByteArray × Int × Int))))]⟩) (by kernel_rfl)) ?_
  refine AX.wk (Wk.of_eq (congrArg (fun z => (⟨[(0, .bs true 4 (List.map enc_isii p1)), (3, .sl 0 0 ((List.replicate (p1.length : Int).toNat ((0, ByteArray.empty, 0, 0) : Int × ByteArray × Int × Int)).length)), (4, .v (.int .i64 0))], [(0, .arr 4 (z))]⟩ : S)) (rep_can (enc := enc_isii) (p1.length : Int).toNat ((0, ByteArray.empty, 0, 0) : Int × ByteArray × Int × Int)))) ?_
  refine AX.mono (s_laws_toChangeS_L1 p1 FU (List.replicate (p1.length : Int).toNat ((0, ByteArray.empty, 0, 0) : Int × ByteArray × Int × Int), 0) x5 e6) ?_
  rintro _ _ ⟨rfl, rfl⟩
  skip
  refine AX.seq ?_
  refine AX.reg (its := []) [2] [0] (s1 := ⟨[(2, .sl 0 0 x5.length)], [(0, .arr 4 (List.map enc_isii x5))]⟩) (C := True) (by kernel_rfl) trivial trivial ?_
  refine AX.ret ?_
  refine fin_wk (Wk.forget [2] [0] (s' := ⟨[(2, .sl 0 0 x5.length)], [(0, .arr 4 (List.map enc_isii x5))]⟩) (by kernel_rfl)) ?_
  have hr := Option.some.inj h
  subst hr
  exact ⟨_, Wk.refl _, .inr rfl, ⟨[0], by kernel_rfl, ⟨rfl, trivial⟩, [.sl 0 0 x5.length], by kernel_rfl, by kernel_rfl⟩⟩

theorem s_spec_inRange (p1 : Int) (p2 : Int) (p3 : Int) (r : Bool) (h : m_spec_inRange p1 p2 p3 = some r) :
    Eng.Spec Try.prog 91 [.v (.int .i64 p1), .v (.int .i64 p2), .v (.int .i64 p3)] [] (.v (.bool r)) [] := by
  unfold m_spec_inRange at h
  refine Eng.Spec.body Try.func91 (by kernel_rfl) rfl (by kernel_rfl) ?_
  refine AX.wkpost ?_
  refine AX.seq ?_
  refine AX.reg (its := []) [0, 1, 2] [] (s1 := ⟨[(0, .v (.int .i64 p1)), (1, .v (.int .i64 p2)), (2, .v (.int .i64 p3))], []⟩) (C := True) (by kernel_rfl) trivial trivial ?_
  refine AX.seq ?_
  rcases bool_cases (decide (p2 ≤ p1)) with b1 | b1
  · replace h := cd_t b1 h
    refine AX.reg (its := [.auto {}, .auto {}, .auto { y := some (.v (.bool true)) }]) [6] [] (s1 := ⟨[(6, .v (.bool (decide (p1 ≤ p3))))], []⟩) (C := ((True) ∧ ((.v (.bool (decide (p2 ≤ p1))) : AV) = (.v (.bool true) : AV))) ∧ True) (by kernel_rfl) ⟨⟨trivial, (congrArg (fun z => AV.v (.bool z)) b1)⟩, trivial⟩ trivial ?_
    refine AX.ret ?_
    refine fin_wk (Wk.forget [6] [] (s' := ⟨[(6, .v (.bool (decide (p1 ≤ p3))))], []⟩) (by kernel_rfl)) ?_
    have hr := Option.some.inj h
    subst hr
    exact ⟨_, Wk.refl _, .inr rfl, ⟨[], by kernel_rfl, trivial, [.v (.bool (decide (p1 ≤ p3)))], by kernel_rfl, by kernel_rfl⟩⟩
  · replace h := cd_f b1 h
    refine AX.reg (its := [.auto {}, .auto {}, .auto { y := some (.v (.bool false)) }]) [6] [] (s1 := ⟨[(6, .v (.bool false))], []⟩) (C := ((True) ∧ ((.v (.bool (decide (p2 ≤ p1))) : AV) = (.v (.bool false) : AV))) ∧ True) (by kernel_rfl) ⟨⟨trivial, (congrArg (fun z => AV.v (.bool z)) b1)⟩, trivial⟩ trivial ?_
    refine AX.ret ?_
    refine fin_wk (Wk.forget [6] [] (s' := ⟨[(6, .v (.bool false))], []⟩) (by kernel_rfl)) ?_
    have hr := Option.some.inj h
    subst hr
    exact ⟨_, Wk.refl _, .inr rfl, ⟨[], by kernel_rfl, trivial, [.v (.bool false)], by kernel_rfl, by kernel_rfl⟩⟩

theorem s_spec_validName_L1 (p1 : ByteArray) (n : Nat) (g : Int) (out : Unit ⊕ Unit) (h : m_spec_validName_L1 p1 n g = some out) :
    AX Try.prog 23 0 (codeAt [1, 0, 1, 1] (bodyOf Try.f90)) ((fun g : Int => (⟨[(0, .v (.string p1)), (3, .v (.int .i64 g))], []⟩ : S)) g) (fun ex s => (∃ o : Unit, out = Sum.inl o ∧ ex = .ret ∧ s = ⟨[(2, .v (.bool false))], []⟩) ∨ (∃ o : Unit, out = Sum.inr o ∧ ex = .exit 0 ∧ s = ⟨[(0, .v (.string p1))], []⟩)) := by
  refine AX.wkpost ?_
  refine AX.loop (G := Nat × (Int)) (fun q => (fun g : Int => (⟨[(0, .v (.string p1)), (3, .v (.int .i64 g))], []⟩ : S)) q.2) (fun q => m_spec_validName_L1 p1 q.1 q.2 = some out) (fun q => q.1) (n, g) h (Wk.refl _) ?_
  clear h
  rintro ⟨fu, v2⟩ h
  cases fu with
  | zero => cases h
  | succ fu =>
    rw [m_spec_validName_L1] at h
    refine AX.seq ?_
    refine AX.seq ?_
    refine AX.reg (its := []) [0, 3, 7] [] (s1 := ⟨[(0, .v (.string p1)), (3, .v (.int .i64 v2)), (7, .v (.bool (decide (v2 < (p1.size : Int)))))], []⟩) (C := True) (by kernel_rfl) trivial trivial ?_
    rcases bool_cases (decide (v2 < (p1.size : Int))) with b1 | b1
    · replace h := cd_t b1 h
      refine AX.condT (decide (v2 < (p1.size : Int))) (by kernel_rfl) b1 ?_
      refine AX.skip ?_
      refine AX.seq ?_
      refine AX.block ?_
      refine AX.seq ?_
      obtain ⟨g2, h⟩ := gd_e h
      rcases bool_cases (decide ((byteAt p1 v2.toNat) < 97)) with b3 | b3
      · replace h := cd_t b3 h
        refine AX.reg (its := [.auto {}, .auto {}, .auto {}, .auto { y := some (.v (.bool true)) }]) [0, 3, 19] [] (s1 := ⟨[(0, .v (.string p1)), (3, .v (.int .i64 v2)), (19, .v (.bool true))], []⟩) (C := (0 ≤ v2 ∧ v2 < (p1.size : Int)) ∧ ((True) ∧ ((.v (.bool (decide ((byteAt p1 v2.toNat) < 97))) : AV) = (.v (.bool true) : AV))) ∧ True) (by kernel_rfl) ⟨g2, ⟨⟨trivial, (congrArg (fun z => AV.v (.bool z)) b3)⟩, trivial⟩⟩ trivial ?_
        refine AX.cond_true (by kernel_rfl) ?_
        refine AX.seq ?_
        refine AX.reg (its := []) [2] [] (s1 := ⟨[(2, .v (.bool false))], []⟩) (C := True) (by kernel_rfl) trivial trivial ?_
        refine AX.ret ?_
        refine fin_wk (Wk.forget [2] [] (s' := ⟨[(2, .v (.bool false))], []⟩) (by kernel_rfl)) ?_
        have hr := Option.some.inj h
        subst hr
        exact ⟨_, Wk.refl _, .inl ⟨(), rfl, rfl, rfl⟩⟩
      · replace h := cd_f b3 h
        refine AX.reg (its := [.auto {}, .auto {}, .auto {}, .auto { y := some (.v (.bool false)) }]) [0, 3, 19] [] (s1 := ⟨[(0, .v (.string p1)), (3, .v (.int .i64 v2)), (19, .v (.bool (decide (122 < (byteAt p1 v2.toNat)))))], []⟩) (C := (0 ≤ v2 ∧ v2 < (p1.size : Int)) ∧ ((True) ∧ ((.v (.bool (decide ((byteAt p1 v2.toNat) < 97))) : AV) = (.v (.bool false) : AV))) ∧ (0 ≤ v2 ∧ v2 < (p1.size : Int)) ∧ True) (by kernel_rfl) ⟨g2, ⟨⟨trivial, (congrArg (fun z => AV.v (.bool z)) b3)⟩, ⟨g2, trivial⟩⟩⟩ trivial ?_
        rcases bool_cases (decide (122 < (byteAt p1 v2.toNat))) with b4 | b4
        · replace h := cd_t b4 h
          refine AX.condT (decide (122 < (byteAt p1 v2.toNat))) (by kernel_rfl) b4 ?_
          refine AX.seq ?_
          refine AX.reg (its := []) [2] [] (s1 := ⟨[(2, .v (.bool false))], []⟩) (C := True) (by kernel_rfl) trivial trivial ?_
          refine AX.ret ?_
          refine fin_wk (Wk.forget [2] [] (s' := ⟨[(2, .v (.bool false))], []⟩) (by kernel_rfl)) ?_
          have hr := Option.some.inj h
          subst hr
          exact ⟨_, Wk.refl _, .inl ⟨(), rfl, rfl, rfl⟩⟩
        · replace h := cd_f b4 h
          refine AX.condF (decide (122 < (byteAt p1 v2.toNat))) (by kernel_rfl) b4 ?_
          refine AX.skip ?_
          refine AX.reg (its := [.auto {}, .auto { raw := true }]) [0, 3] [] (s1 := ⟨[(0, .v (.string p1)), (3, .v (.int .i64 (IntKind.wrap .i64 (v2 + 1))))], []⟩) (C := True) (by kernel_rfl) trivial trivial ?_
          refine ⟨(fu, IntKind.wrap .i64 (v2 + 1)), h, Nat.lt_succ_self _, ?_⟩
          refine Wk.trans (Wk.forget [0, 3] [] (s' := ⟨[(0, .v (.string p1)), (3, .v (.int .i64 (IntKind.wrap .i64 (v2 + 1))))], []⟩) (by kernel_rfl)) ?_
          exact Wk.refl _
    · replace h := cd_f b1 h
      refine AX.condF (decide (v2 < (p1.size : Int))) (by kernel_rfl) b1 ?_
      refine AX.exit ?_
      refine fin_wk (Wk.forget [0] [] (s' := ⟨[(0, .v (.string p1))], []⟩) (by kernel_rfl)) ?_
      have hr := Option.some.inj h
      subst hr
      exact ⟨_, Wk.refl _, .inr ⟨(), rfl, rfl, rfl⟩⟩

theorem s_spec_validName (p1 : ByteArray) (r : Bool) (h : m_spec_validName p1 = some r) :
    Eng.Spec Try.prog 90 [.v (.string p1)] [] (.v (.bool r)) [] := by
  unfold m_spec_validName at h
  refine Eng.Spec.body Try.func90 (by kernel_rfl) rfl (by kernel_rfl) ?_
  refine AX.wkpost ?_
  refine AX.seq ?_
  refine AX.reg (its := []) [0] [] (s1 := ⟨[(0, .v (.string p1))], []⟩) (C := True) (by kernel_rfl) trivial trivial ?_
  refine AX.seq ?_
  refine AX.seq ?_
  refine AX.reg (its := []) [0, 3] [] (s1 := ⟨[(0, .v (.string p1)), (3, .v (.int .i64 0))], []⟩) (C := True) (by kernel_rfl) trivial trivial ?_
  refine AX.block ?_
  obtain ⟨x3, e5, h⟩ := bd_e h
  refine AX.wk (Wk.forget [0, 3] [] (s' := ⟨[(0, .v (.string p1)), (3, .v (.int .i64 0))], []⟩) (by kernel_rfl)) ?_
  refine AX.mono (s_spec_validName_L1 p1 FU 0 x3 e5) ?_
  rintro _ _ (⟨x4, rfl, rfl, rfl⟩ | ⟨x5, rfl, rfl, rfl⟩)
  · replace h := sm_l h
    refine fin_wk (Wk.forget [2] [] (s' := ⟨[(2, .v (.bool false))], []⟩) (by kernel_rfl)) ?_
    have hr := Option.some.inj h
    subst hr
    exact ⟨_, Wk.refl _, .inr rfl, ⟨[], by kernel_rfl, trivial, [.v (.bool false)], by kernel_rfl, by kernel_rfl⟩⟩
  · replace h := sm_r h
    refine AX.seq ?_
    obtain ⟨x6, e6, h⟩ := bd_e h
    refine AX.reg (its := [.auto {}, .auto {}, .call 91 [.v (.int .i64 (p1.size : Int)), .v (.int .i64 1), .v (.int .i64 6)] (handO (rho ([] ++ [])) [] [] ++ []) (callEv [] [] (.v (.bool x6)) [])]) [2] [] (s1 := ⟨[(2, .v (.bool x6))], []⟩) (C := ((([.v (.int .i64 (p1.size : Int)), .v (.int .i64 1), .v (.int .i64 6)] : List AV) = [.v (.int .i64 (p1.size : Int)), .v (.int .i64 1), .v (.int .i64 6)]) ∧ True) ∧ True) (by kernel_rfl) ⟨⟨rfl, trivial⟩, trivial⟩ ⟨call_ok (ks := []) (ns := []) (bor := []) (bobjs := []) (s_spec_inRange (p1.size : Int) 1 6 x6 e6) (.cons (.c1 (.c0 (.same _ (by kernel_rfl) (by kernel_rfl)))) (.cons (.c1 (.c0 (.same _ (by kernel_rfl) (by kernel_rfl)))) (.cons (.c1 (.c0 (.same _ (by kernel_rfl) (by kernel_rfl)))) (.nil)))) (by kernel_rfl) trivial, trivial⟩ ?_
    refine AX.ret ?_
    refine fin_wk (Wk.forget [2] [] (s' := ⟨[(2, .v (.bool x6))], []⟩) (by kernel_rfl)) ?_
    have hr := Option.some.inj h
    subst hr
    exact ⟨_, Wk.refl _, .inr rfl, ⟨[], by kernel_rfl, trivial, [.v (.bool x6)], by kernel_rfl, by kernel_rfl⟩⟩

theorem s_spec_indexOf_L1 (p1 : List (ByteArray × Int)) (p2 : ByteArray) (n : Nat) (g : Int) (out : Int ⊕ Unit) (h : m_spec_indexOf_L1 p1 p2 n g = some out) :
    AX Try.prog 20 0 (codeAt [1, 0, 1, 1] (bodyOf Try.f73)) ((fun g : Int => (⟨[(0, .bs false 2 (List.map enc_si p1)), (1, .v (.string p2)), (5, .v (.int .i64 g))], []⟩ : S)) g) (fun ex s => (∃ o : Int, out = Sum.inl o ∧ ex = .ret ∧ s = ⟨[(4, .v (.int .i64 o))], []⟩) ∨ (∃ o : Unit, out = Sum.inr o ∧ ex = .exit 0 ∧ s = ⟨[], []⟩)) := by
  refine AX.wkpost ?_
  refine AX.loop (G := Nat × (Int)) (fun q => (fun g : Int => (⟨[(0, .bs false 2 (List.map enc_si p1)), (1, .v (.string p2)), (5, .v (.int .i64 g))], []⟩ : S)) q.2) (fun q => m_spec_indexOf_L1 p1 p2 q.1 q.2 = some out) (fun q => q.1) (n, g) h (Wk.refl _) ?_
  clear h
  rintro ⟨fu, v3⟩ h
  cases fu with
  | zero => cases h
  | succ fu =>
    rw [m_spec_indexOf_L1] at h
    refine AX.seq ?_
    refine AX.seq ?_
    refine AX.reg (its := [.auto {}, .auto {}, .auto { y := some (.v (.int .i64 (p1.length : Int))) }]) [0, 1, 5, 9] [] (s1 := ⟨[(0, .bs false 2 (List.map enc_si p1)), (1, .v (.string p2)), (5, .v (.int .i64 v3)), (9, .v (.bool (decide (v3 < (p1.length : Int)))))], []⟩) (C := (True ∧ (AV.v (.int .i64 ((List.map enc_si p1).length : Int)) = AV.v (.int .i64 (p1.length : Int)))) ∧ True) (by kernel_rfl) ⟨⟨trivial, len_map enc_si p1⟩, trivial⟩ trivial ?_
    rcases bool_cases (decide (v3 < (p1.length : Int))) with b1 | b1
    · replace h := cd_t b1 h
      refine AX.condT (decide (v3 < (p1.length : Int))) (by kernel_rfl) b1 ?_
      refine AX.skip ?_
      refine AX.seq ?_
      refine AX.block ?_
      refine AX.seq ?_
      obtain ⟨g2, h⟩ := gd_e h
      refine AX.reg (its := [.auto {}, .auto {}, .auto { y := some (.be 2 (enc_si (gt p1 v3)) 0) }]) [0, 1, 5, 18] [] (s1 := ⟨[(0, .bs false 2 (List.map enc_si p1)), (1, .v (.string p2)), (5, .v (.int .i64 v3)), (18, .v (.bool (decide (((gt p1 v3).1) = p2))))], []⟩) (C := ((0 ≤ v3 ∧ v3 < ((List.map enc_si p1).length : Int)) ∧ (AV.be 2 ((List.map enc_si p1).getD v3.toNat []) 0 = AV.be 2 (enc_si (gt p1 v3)) 0)) ∧ True) (by kernel_rfl) ⟨idx_bs enc_si p1 v3 2 g2, trivial⟩ trivial ?_
      rcases bool_cases (decide (((gt p1 v3).1) = p2)) with b3 | b3
      · replace h := cd_t b3 h
        refine AX.condT (decide (((gt p1 v3).1) = p2)) (by kernel_rfl) b3 ?_
        refine AX.seq ?_
        refine AX.reg (its := []) [4] [] (s1 := ⟨[(4, .v (.int .i64 v3))], []⟩) (C := True) (by kernel_rfl) trivial trivial ?_
        refine AX.ret ?_
        refine fin_wk (Wk.forget [4] [] (s' := ⟨[(4, .v (.int .i64 v3))], []⟩) (by kernel_rfl)) ?_
        have hr := Option.some.inj h
        subst hr
        exact ⟨_, Wk.refl _, .inl ⟨v3, rfl, rfl, rfl⟩⟩
      · replace h := cd_f b3 h
        refine AX.condF (decide (((gt p1 v3).1) = p2)) (by kernel_rfl) b3 ?_
        refine AX.skip ?_
        refine AX.reg (its := [.auto {}, .auto { raw := true }]) [0, 1, 5] [] (s1 := ⟨[(0, .bs false 2 (List.map enc_si p1)), (1, .v (.string p2)), (5, .v (.int .i64 (IntKind.wrap .i64 (v3 + 1))))], []⟩) (C := True) (by kernel_rfl) trivial trivial ?_
        refine ⟨(fu, IntKind.wrap .i64 (v3 + 1)), h, Nat.lt_succ_self _, ?_⟩
        refine Wk.trans (Wk.forget [0, 1, 5] [] (s' := ⟨[(0, .bs false 2 (List.map enc_si p1)), (1, .v (.string p2)), (5, .v (.int .i64 (IntKind.wrap .i64 (v3 + 1))))], []⟩) (by kernel_rfl)) ?_
        exact Wk.refl _
    · replace h := cd_f b1 h
      refine AX.condF (decide (v3 < (p1.length : Int))) (by kernel_rfl) b1 ?_
      refine AX.exit ?_
      refine fin_wk (Wk.forget [] [] (s' := ⟨[], []⟩) (by kernel_rfl)) ?_
      have hr := Option.some.inj h
      subst hr
      exact ⟨_, Wk.refl _, .inr ⟨(), rfl, rfl, rfl⟩⟩

theorem s_spec_indexOf (p1 : List (ByteArray × Int)) (p2 : ByteArray) (r : Int) (h : m_spec_indexOf p1 p2 = some r) :
    Eng.Spec Try.prog 73 [.bs false 2 (List.map enc_si p1), .v (.string p2)] [] (.v (.int .i64 r)) [] := by
  unfold m_spec_indexOf at h
  refine Eng.Spec.body Try.func73 (by kernel_rfl) rfl (by kernel_rfl) ?_
  refine AX.wkpost ?_
  refine AX.seq ?_
  refine AX.reg (its := []) [0, 1] [] (s1 := ⟨[(0, .bs false 2 (List.map enc_si p1)), (1, .v (.string p2))], []⟩) (C := True) (by kernel_rfl) trivial trivial ?_
  refine AX.seq ?_
  refine AX.seq ?_
  refine AX.reg (its := []) [0, 1, 5] [] (s1 := ⟨[(0, .bs false 2 (List.map enc_si p1)), (1, .v (.string p2)), (5, .v (.int .i64 0))], []⟩) (C := True) (by kernel_rfl) trivial trivial ?_
  refine AX.block ?_
  obtain ⟨x4, e4, h⟩ := bd_e h
  refine AX.wk (Wk.forget [0, 1, 5] [] (s' := ⟨[(0, .bs false 2 (List.map enc_si p1)), (1, .v (.string p2)), (5, .v (.int .i64 0))], []⟩) (by kernel_rfl)) ?_
  refine AX.mono (s_spec_indexOf_L1 p1 p2 FU 0 x4 e4) ?_
  rintro _ _ (⟨x5, rfl, rfl, rfl⟩ | ⟨x6, rfl, rfl, rfl⟩)
  · replace h := sm_l h
    refine fin_wk (Wk.forget [4] [] (s' := ⟨[(4, .v (.int .i64 x5))], []⟩) (by kernel_rfl)) ?_
    have hr := Option.some.inj h
    subst hr
    exact ⟨_, Wk.refl _, .inr rfl, ⟨[], by kernel_rfl, trivial, [.v (.int .i64 x5)], by kernel_rfl, by kernel_rfl⟩⟩
  · replace h := sm_r h
    refine AX.seq ?_
    refine AX.reg (its := []) [4] [] (s1 := ⟨[(4, .v (.int .i64 (-1)))], []⟩) (C := True) (by kernel_rfl) trivial trivial ?_
    refine AX.ret ?_
    refine fin_wk (Wk.forget [4] [] (s' := ⟨[(4, .v (.int .i64 (-1)))], []⟩) (by kernel_rfl)) ?_
    have hr := Option.some.inj h
    subst hr
    exact ⟨_, Wk.refl _, .inr rfl, ⟨[], by kernel_rfl, trivial, [.v (.int .i64 (-1))], by kernel_rfl, by kernel_rfl⟩⟩

theorem s_spec_validDefs_L1 (p1 : List (ByteArray × Int)) (p2 : Int) (p3 : Int) (n : Nat) (g : Int) (out : Unit ⊕ Unit) (h : m_spec_validDefs_L1 p1 p2 p3 n g = some out) :
    AX Try.prog 47 0 (codeAt [1, 0, 1, 1] (bodyOf Try.f72)) ((fun g : Int => (⟨[(0, .bs false 2 (List.map enc_si p1)), (1, .v (.int .i64 p2)), (2, .v (.int .i64 p3)), (7, .v (.int .i64 g))], []⟩ : S)) g) (fun ex s => (∃ o : Unit, out = Sum.inl o ∧ ex = .ret ∧ s = ⟨[(6, .v (.bool false))], []⟩) ∨ (∃ o : Unit, out = Sum.inr o ∧ ex = .exit 0 ∧ s = ⟨[(0, .bs false 2 (List.map enc_si p1))], []⟩)) := by
  refine AX.wkpost ?_
  refine AX.loop (G := Nat × (Int)) (fun q => (fun g : Int => (⟨[(0, .bs false 2 (List.map enc_si p1)), (1, .v (.int .i64 p2)), (2, .v (.int .i64 p3)), (7, .v (.int .i64 g))], []⟩ : S)) q.2) (fun q => m_spec_validDefs_L1 p1 p2 p3 q.1 q.2 = some out) (fun q => q.1) (n, g) h (Wk.refl _) ?_
  clear h
  rintro ⟨fu, v4⟩ h
  cases fu with
  | zero => cases h
  | succ fu =>
    rw [m_spec_validDefs_L1] at h
    refine AX.seq ?_
    refine AX.seq ?_
    refine AX.reg (its := [.auto {}, .auto {}, .auto { y := some (.v (.int .i64 (p1.length : Int))) }]) [0, 1, 2, 7, 11] [] (s1 := ⟨[(0, .bs false 2 (List.map enc_si p1)), (1, .v (.int .i64 p2)), (2, .v (.int .i64 p3)), (7, .v (.int .i64 v4)), (11, .v (.bool (decide (v4 < (p1.length : Int)))))], []⟩) (C := (True ∧ (AV.v (.int .i64 ((List.map enc_si p1).length : Int)) = AV.v (.int .i64 (p1.length : Int)))) ∧ True) (by kernel_rfl) ⟨⟨trivial, len_map enc_si p1⟩, trivial⟩ trivial ?_
    rcases bool_cases (decide (v4 < (p1.length : Int))) with b1 | b1
    · replace h := cd_t b1 h
      refine AX.condT (decide (v4 < (p1.length : Int))) (by kernel_rfl) b1 ?_
      refine AX.skip ?_
      refine AX.seq ?_
      refine AX.block ?_
      refine AX.seq ?_
      obtain ⟨g2, h⟩ := gd_e h
      obtain ⟨x5, e3, h⟩ := bd_e h
      rcases bool_cases ((!x5)) with b4 | b4
      · replace h := cd_t b4 h
        refine AX.drw mixed (its := [.auto {}, .auto {}, .auto { y := some (.be 2 (enc_si (gt p1 v4)) 0) }, .auto {}, .auto {}, .call 90 [.v (.string ((gt p1 v4).1))] (handO (rho ([] ++ [])) [] [] ++ []) (callEv [] [] (.v (.bool x5)) []), .auto { y := some (.v (.bool true)) }]) [0, 1, 2, 7, 43] [] (s1 := ⟨[(0, .bs false 2 (List.map enc_si p1)), (1, .v (.int .i64 p2)), (2, .v (.int .i64 p3)), (7, .v (.int .i64 v4)), (43, .v (.bool true))], []⟩) (C := ((0 ≤ v4 ∧ v4 < ((List.map enc_si p1).length : Int)) ∧ (AV.be 2 ((List.map enc_si p1).getD v4.toNat []) 0 = AV.be 2 (enc_si (gt p1 v4)) 0)) ∧ ((([.v (.string ((gt p1 v4).1))] : List AV) = [.v (.string ((gt p1 v4).1))]) ∧ True) ∧ ((True) ∧ ((.v (.bool (!x5)) : AV) = (.v (.bool true) : AV))) ∧ True) (by kernel_rfl) ⟨idx_bs enc_si p1 v4 2 g2, ⟨⟨rfl, trivial⟩, ⟨⟨trivial, (congrArg (fun z => AV.v (.bool z)) b4)⟩, trivial⟩⟩⟩ ⟨call_ok (ks := []) (ns := []) (bor := []) (bobjs := []) (s_spec_validName ((gt p1 v4).1) x5 e3) (.cons (.c1 (.c0 (.same _ (by kernel_rfl) (by kernel_rfl)))) (.nil)) (by kernel_rfl) trivial, trivial⟩ ?_
        refine AX.cond_true (by kernel_rfl) ?_
        refine AX.seq ?_
        refine AX.reg (its := []) [6] [] (s1 := ⟨[(6, .v (.bool false))], []⟩) (C := True) (by kernel_rfl) trivial trivial ?_
        refine AX.ret ?_
        refine fin_wk (Wk.forget [6] [] (s' := ⟨[(6, .v (.bool false))], []⟩) (by kernel_rfl)) ?_
        have hr := Option.some.inj h
        subst hr
        exact ⟨_, Wk.refl _, .inl ⟨(), rfl, rfl, rfl⟩⟩
      · replace h := cd_f b4 h
        obtain ⟨x6, e5, h⟩ := bd_e h
        rcases bool_cases ((!x6)) with b6 | b6
        · replace h := cd_t b6 h
          refine AX.drw mixed (its := [.auto {}, .auto {}, .auto { y := some (.be 2 (enc_si (gt p1 v4)) 0) }, .auto {}, .auto {}, .call 90 [.v (.string ((gt p1 v4).1))] (handO (rho ([] ++ [])) [] [] ++ []) (callEv [] [] (.v (.bool x5)) []), .auto { y := some (.v (.bool false)) }, .auto {}, .auto {}, .auto {}, .auto { y := some (.be 2 (enc_si (gt p1 v4)) 0) }, .auto {}, .auto {}, .auto {}, .auto {}, .call 91 [.v (.int .i64 ((gt p1 v4).2)), .v (.int .i64 p2), .v (.int .i64 p3)] (handO (rho ([] ++ [])) [] [] ++ []) (callEv [] [] (.v (.bool x6)) []), .auto { y := some (.v (.bool true)) }]) [0, 1, 2, 7, 43] [] (s1 := ⟨[(0, .bs false 2 (List.map enc_si p1)), (1, .v (.int .i64 p2)), (2, .v (.int .i64 p3)), (7, .v (.int .i64 v4)), (43, .v (.bool true))], []⟩) (C := ((0 ≤ v4 ∧ v4 < ((List.map enc_si p1).length : Int)) ∧ (AV.be 2 ((List.map enc_si p1).getD v4.toNat []) 0 = AV.be 2 (enc_si (gt p1 v4)) 0)) ∧ ((([.v (.string ((gt p1 v4).1))] : List AV) = [.v (.string ((gt p1 v4).1))]) ∧ True) ∧ ((True) ∧ ((.v (.bool (!x5)) : AV) = (.v (.bool false) : AV))) ∧ ((0 ≤ v4 ∧ v4 < ((List.map enc_si p1).length : Int)) ∧ (AV.be 2 ((List.map enc_si p1).getD v4.toNat []) 0 = AV.be 2 (enc_si (gt p1 v4)) 0)) ∧ ((([.v (.int .i64 ((gt p1 v4).2)), .v (.int .i64 p2), .v (.int .i64 p3)] : List AV) = [.v (.int .i64 ((gt p1 v4).2)), .v (.int .i64 p2), .v (.int .i64 p3)]) ∧ True) ∧ ((True) ∧ ((.v (.bool (!x6)) : AV) = (.v (.bool true) : AV))) ∧ True) (by kernel_rfl) ⟨idx_bs enc_si p1 v4 2 g2, ⟨⟨rfl, trivial⟩, ⟨⟨trivial, (congrArg (fun z => AV.v (.bool z)) b4)⟩, ⟨idx_bs enc_si p1 v4 2 g2, ⟨⟨rfl, trivial⟩, ⟨⟨trivial, (congrArg (fun z => AV.v (.bool z)) b6)⟩, trivial⟩⟩⟩⟩⟩⟩ ⟨call_ok (ks := []) (ns := []) (bor := []) (bobjs := []) (s_spec_validName ((gt p1 v4).1) x5 e3) (.cons (.c1 (.c0 (.same _ (by kernel_rfl) (by kernel_rfl)))) (.nil)) (by kernel_rfl) trivial, ⟨call_ok (ks := []) (ns := []) (bor := []) (bobjs := []) (s_spec_inRange ((gt p1 v4).2) p2 p3 x6 e5) (.cons (.c1 (.c0 (.same _ (by kernel_rfl) (by kernel_rfl)))) (.cons (.c1 (.c0 (.same _ (by kernel_rfl) (by kernel_rfl)))) (.cons (.c1 (.c0 (.same _ (by kernel_rfl) (by kernel_rfl)))) (.nil)))) (by kernel_rfl) trivial, trivial⟩⟩ ?_
          refine AX.cond_true (by kernel_rfl) ?_
          refine AX.seq ?_
          refine AX.reg (its := []) [6] [] (s1 := ⟨[(6, .v (.bool false))], []⟩) (C := True) (by kernel_rfl) trivial trivial ?_
          refine AX.ret ?_
          refine fin_wk (Wk.forget [6] [] (s' := ⟨[(6, .v (.bool false))], []⟩) (by kernel_rfl)) ?_
          have hr := Option.some.inj h
          subst hr
          exact ⟨_, Wk.refl _, .inl ⟨(), rfl, rfl, rfl⟩⟩
        · replace h := cd_f b6 h
          obtain ⟨g7, h⟩ := gd_e h
          obtain ⟨x7, e8, h⟩ := bd_e h
          refine AX.drw mixed (its := [.auto {}, .auto {}, .auto { y := some (.be 2 (enc_si (gt p1 v4)) 0) }, .auto {}, .auto {}, .call 90 [.v (.string ((gt p1 v4).1))] (handO (rho ([] ++ [])) [] [] ++ []) (callEv [] [] (.v (.bool x5)) []), .auto { y := some (.v (.bool false)) }, .auto {}, .auto {}, .auto {}, .auto { y := some (.be 2 (enc_si (gt p1 v4)) 0) }, .auto {}, .auto {}, .auto {}, .auto {}, .call 91 [.v (.int .i64 ((gt p1 v4).2)), .v (.int .i64 p2), .v (.int .i64 p3)] (handO (rho ([] ++ [])) [] [] ++ []) (callEv [] [] (.v (.bool x6)) []), .auto { y := some (.v (.bool false)) }, .auto {}, .auto {}, .auto {}, .auto {}, .auto { y := some (.bs false 2 (List.map enc_si (sub p1 (0 : Int) v4))) }, .auto {}, .auto {}, .auto { y := some (.be 2 (enc_si (gt p1 v4)) 0) }, .auto {}, .auto {}, .call 73 [.bs false 2 (List.map enc_si (sub p1 (0 : Int) v4)), .v (.string ((gt p1 v4).1))] (handO (rho ([] ++ [])) [] [] ++ []) (callEv [] [] (.v (.int .i64 x7)) [])]) [0, 1, 2, 7, 43] [] (s1 := ⟨[(0, .bs false 2 (List.map enc_si p1)), (1, .v (.int .i64 p2)), (2, .v (.int .i64 p3)), (7, .v (.int .i64 v4)), (43, .v (.bool (decide (0 ≤ x7))))], []⟩) (C := ((0 ≤ v4 ∧ v4 < ((List.map enc_si p1).length : Int)) ∧ (AV.be 2 ((List.map enc_si p1).getD v4.toNat []) 0 = AV.be 2 (enc_si (gt p1 v4)) 0)) ∧ ((([.v (.string ((gt p1 v4).1))] : List AV) = [.v (.string ((gt p1 v4).1))]) ∧ True) ∧ ((True) ∧ ((.v (.bool (!x5)) : AV) = (.v (.bool false) : AV))) ∧ ((0 ≤ v4 ∧ v4 < ((List.map enc_si p1).length : Int)) ∧ (AV.be 2 ((List.map enc_si p1).getD v4.toNat []) 0 = AV.be 2 (enc_si (gt p1 v4)) 0)) ∧ ((([.v (.int .i64 ((gt p1 v4).2)), .v (.int .i64 p2), .v (.int .i64 p3)] : List AV) = [.v (.int .i64 ((gt p1 v4).2)), .v (.int .i64 p2), .v (.int .i64 p3)]) ∧ True) ∧ ((True) ∧ ((.v (.bool (!x6)) : AV) = (.v (.bool false) : AV))) ∧ ((0 ≤ (0 : Int) ∧ (0 : Int) ≤ v4 ∧ v4 ≤ ((List.map enc_si p1).length : Int) ∧ ((List.map enc_si p1).length : Int) ≤ ((List.map enc_si p1).length : Int)) ∧ (AV.bs false 2 (((List.map enc_si p1).drop (0 : Int).toNat).take (v4.toNat - (0 : Int).toNat)) = (.bs false 2 (List.map enc_si (sub p1 (0 : Int) v4)) : AV))) ∧ ((0 ≤ v4 ∧ v4 < ((List.map enc_si p1).length : Int)) ∧ (AV.be 2 ((List.map enc_si p1).getD v4.toNat []) 0 = AV.be 2 (enc_si (gt p1 v4)) 0)) ∧ ((([.bs false 2 (List.map enc_si (sub p1 (0 : Int) v4)), .v (.string ((gt p1 v4).1))] : List AV) = [.bs false 2 (List.map enc_si (sub p1 (0 : Int) v4)), .v (.string ((gt p1 v4).1))]) ∧ True) ∧ True) (by kernel_rfl) ⟨idx_bs enc_si p1 v4 2 g2, ⟨⟨rfl, trivial⟩, ⟨⟨trivial, (congrArg (fun z => AV.v (.bool z)) b4)⟩, ⟨idx_bs enc_si p1 v4 2 g2, ⟨⟨rfl, trivial⟩, ⟨⟨trivial, (congrArg (fun z => AV.v (.bool z)) b6)⟩, ⟨⟨by first | exact g7 | simpa only [List.length_map] using g7, by first | exact sub_can enc_si p1 (0 : Int) v4 false 2 | (simp only [List.length_map]; exact sub_can enc_si p1 (0 : Int) v4 false 2)⟩, ⟨idx_bs enc_si p1 v4 2 g2, ⟨⟨rfl, trivial⟩, trivial⟩⟩⟩⟩⟩⟩⟩⟩⟩ ⟨call_ok (ks := []) (ns := []) (bor := []) (bobjs := []) (s_spec_validName ((gt p1 v4).1) x5 e3) (.cons (.c1 (.c0 (.same _ (by kernel_rfl) (by kernel_rfl)))) (.nil)) (by kernel_rfl) trivial, ⟨call_ok (ks := []) (ns := []) (bor := []) (bobjs := []) (s_spec_inRange ((gt p1 v4).2) p2 p3 x6 e5) (.cons (.c1 (.c0 (.same _ (by kernel_rfl) (by kernel_rfl)))) (.cons (.c1 (.c0 (.same _ (by kernel_rfl) (by kernel_rfl)))) (.cons (.c1 (.c0 (.same _ (by kernel_rfl) (by kernel_rfl)))) (.nil)))) (by kernel_rfl) trivial, ⟨call_ok (ks := []) (ns := []) (bor := []) (bobjs := []) (s_spec_indexOf (sub p1 (0 : Int) v4) ((gt p1 v4).1) x7 e8) (.cons (.c1 (.c0 (.same _ (by kernel_rfl) (by kernel_rfl)))) (.cons (.c1 (.c0 (.same _ (by kernel_rfl) (by kernel_rfl)))) (.nil))) (by kernel_rfl) trivial, trivial⟩⟩⟩ ?_
          rcases bool_cases (decide (0 ≤ x7)) with b9 | b9
          · replace h := cd_t b9 h
            refine AX.condT (decide (0 ≤ x7)) (by kernel_rfl) b9 ?_
            refine AX.seq ?_
            refine AX.reg (its := []) [6] [] (s1 := ⟨[(6, .v (.bool false))], []⟩) (C := True) (by kernel_rfl) trivial trivial ?_
            refine AX.ret ?_
            refine fin_wk (Wk.forget [6] [] (s' := ⟨[(6, .v (.bool false))], []⟩) (by kernel_rfl)) ?_
            have hr := Option.some.inj h
            subst hr
            exact ⟨_, Wk.refl _, .inl ⟨(), rfl, rfl, rfl⟩⟩
          · replace h := cd_f b9 h
            refine AX.condF (decide (0 ≤ x7)) (by kernel_rfl) b9 ?_
            refine AX.skip ?_
            refine AX.reg (its := [.auto {}, .auto { raw := true }]) [0, 1, 2, 7] [] (s1 := ⟨[(0, .bs false 2 (List.map enc_si p1)), (1, .v (.int .i64 p2)), (2, .v (.int .i64 p3)), (7, .v (.int .i64 (IntKind.wrap .i64 (v4 + 1))))], []⟩) (C := True) (by kernel_rfl) trivial trivial ?_
            refine ⟨(fu, IntKind.wrap .i64 (v4 + 1)), h, Nat.lt_succ_self _, ?_⟩
            refine Wk.trans (Wk.forget [0, 1, 2, 7] [] (s' := ⟨[(0, .bs false 2 (List.map enc_si p1)), (1, .v (.int .i64 p2)), (2, .v (.int .i64 p3)), (7, .v (.int .i64 (IntKind.wrap .i64 (v4 + 1))))], []⟩) (by kernel_rfl)) ?_
            exact Wk.refl _
    · replace h := cd_f b1 h
      refine AX.condF (decide (v4 < (p1.length : Int))) (by kernel_rfl) b1 ?_
      refine AX.exit ?_
      refine fin_wk (Wk.forget [0] [] (s' := ⟨[(0, .bs false 2 (List.map enc_si p1))], []⟩) (by kernel_rfl)) ?_
      have hr := Option.some.inj h
      subst hr
      exact ⟨_, Wk.refl _, .inr ⟨(), rfl, rfl, rfl⟩⟩

theorem s_spec_validDefs (p1 : List (ByteArray × Int)) (p2 : Int) (p3 : Int) (r : Bool) (h : m_spec_validDefs p1 p2 p3 = some r) :
    Eng.Spec Try.prog 72 [.bs false 2 (List.map enc_si p1), .v (.int .i64 p2), .v (.int .i64 p3)] [] (.v (.bool r)) [] := by
  unfold m_spec_validDefs at h
  refine Eng.Spec.body Try.func72 (by kernel_rfl) rfl (by kernel_rfl) ?_
  refine AX.wkpost ?_
  refine AX.seq ?_
  refine AX.reg (its := []) [0, 1, 2] [] (s1 := ⟨[(0, .bs false 2 (List.map enc_si p1)), (1, .v (.int .i64 p2)), (2, .v (.int .i64 p3))], []⟩) (C := True) (by kernel_rfl) trivial trivial ?_
  refine AX.seq ?_
  refine AX.seq ?_
  refine AX.reg (its := []) [0, 1, 2, 7] [] (s1 := ⟨[(0, .bs false 2 (List.map enc_si p1)), (1, .v (.int .i64 p2)), (2, .v (.int .i64 p3)), (7, .v (.int .i64 0))], []⟩) (C := True) (by kernel_rfl) trivial trivial ?_
  refine AX.block ?_
  obtain ⟨x8, e10, h⟩ := bd_e h
  refine AX.wk (Wk.forget [0, 1, 2, 7] [] (s' := ⟨[(0, .bs false 2 (List.map enc_si p1)), (1, .v (.int .i64 p2)), (2, .v (.int .i64 p3)), (7, .v (.int .i64 0))], []⟩) (by kernel_rfl)) ?_
  refine AX.mono (s_spec_validDefs_L1 p1 p2 p3 FU 0 x8 e10) ?_
  rintro _ _ (⟨x9, rfl, rfl, rfl⟩ | ⟨x10, rfl, rfl, rfl⟩)
  · replace h := sm_l h
    refine fin_wk (Wk.forget [6] [] (s' := ⟨[(6, .v (.bool false))], []⟩) (by kernel_rfl)) ?_
    have hr := Option.some.inj h
    subst hr
    exact ⟨_, Wk.refl _, .inr rfl, ⟨[], by kernel_rfl, trivial, [.v (.bool false)], by kernel_rfl, by kernel_rfl⟩⟩
  · replace h := sm_r h
    refine AX.seq ?_
    refine AX.reg (its := [.auto {}, .auto { y := some (.v (.int .i64 (p1.length : Int))) }]) [6] [] (s1 := ⟨[(6, .v (.bool (decide ((p1.length : Int) ≤ 12))))], []⟩) (C := (True ∧ (AV.v (.int .i64 ((List.map enc_si p1).length : Int)) = AV.v (.int .i64 (p1.length : Int)))) ∧ True) (by kernel_rfl) ⟨⟨trivial, len_map enc_si p1⟩, trivial⟩ trivial ?_
    refine AX.ret ?_
    refine fin_wk (Wk.forget [6] [] (s' := ⟨[(6, .v (.bool (decide ((p1.length : Int) ≤ 12))))], []⟩) (by kernel_rfl)) ?_
    have hr := Option.some.inj h
    subst hr
    exact ⟨_, Wk.refl _, .inr rfl, ⟨[], by kernel_rfl, trivial, [.v (.bool (decide ((p1.length : Int) ≤ 12)))], by kernel_rfl, by kernel_rfl⟩⟩

theorem s_spec_validEnum (p1 : List (ByteArray × Int)) (r : Bool) (h : m_spec_validEnum p1 = some r) :
    Eng.Spec Try.prog 36 [.agg [.bs false 2 (List.map enc_si p1)]] [] (.v (.bool r)) [] := by
  unfold m_spec_validEnum at h
  refine Eng.Spec.body Try.func36 (by kernel_rfl) rfl (by kernel_rfl) ?_
  refine AX.wkpost ?_
  refine AX.seq ?_
  refine AX.reg (its := [.auto { nk := 0 }]) [1] [0] (s1 := ⟨[(1, .pt 0 0)], [(0, .box [.bs false 2 (List.map enc_si p1)])]⟩) (C := True) (by kernel_rfl) trivial trivial ?_
  refine AX.seq ?_
  obtain ⟨x2, e1, h⟩ := bd_e h
  refine AX.reg (its := [.auto {}, .auto {}, .call 72 [.bs false 2 (List.map enc_si p1), .v (.int .i64 (-1000)), .v (.int .i64 1000)] (handO (rho ([] ++ [])) [] [] ++ []) (callEv [] [] (.v (.bool x2)) [])]) [2] [] (s1 := ⟨[(2, .v (.bool x2))], []⟩) (C := ((([.bs false 2 (List.map enc_si p1), .v (.int .i64 (-1000)), .v (.int .i64 1000)] : List AV) = [.bs false 2 (List.map enc_si p1), .v (.int .i64 (-1000)), .v (.int .i64 1000)]) ∧ True) ∧ True) (by kernel_rfl) ⟨⟨rfl, trivial⟩, trivial⟩ ⟨call_ok (ks := []) (ns := []) (bor := []) (bobjs := []) (s_spec_validDefs p1 (-1000) 1000 x2 e1) (.cons (.c1 (.c0 (.same _ (by kernel_rfl) (by kernel_rfl)))) (.cons (.c1 (.c0 (.same _ (by kernel_rfl) (by kernel_rfl)))) (.cons (.c1 (.c0 (.same _ (by kernel_rfl) (by kernel_rfl)))) (.nil)))) (by kernel_rfl) trivial, trivial⟩ ?_
  refine AX.ret ?_
  refine fin_wk (Wk.forget [2] [] (s' := ⟨[(2, .v (.bool x2))], []⟩) (by kernel_rfl)) ?_
  have hr := Option.some.inj h
  subst hr
  exact ⟨_, Wk.refl _, .inr rfl, ⟨[], by kernel_rfl, trivial, [.v (.bool x2)], by kernel_rfl, by kernel_rfl⟩⟩

theorem s_spec_copyDefs (p1 : List (ByteArray × Int)) (r : Unit) (h : m_spec_copyDefs p1 = some r) :
    Eng.Spec Try.prog 37 [.bs false 2 (List.map enc_si p1)] [] (.sl 0 0 ((([] : List (ByteArray × Int)) ++ p1).length)) [.arr 2 (List.map enc_si (([] : List (ByteArray × Int)) ++ p1))] := by
  unfold m_spec_copyDefs at h
  refine Eng.Spec.body Try.func37 (by kernel_rfl) rfl (by kernel_rfl) ?_
  refine AX.wkpost ?_
  refine AX.seq ?_
  refine AX.reg (its := []) [0] [] (s1 := ⟨[(0, .bs false 2 (List.map enc_si p1))], []⟩) (C := True) (by kernel_rfl) trivial trivial ?_
  refine AX.seq ?_
  obtain ⟨g1, h⟩ := gd_e h
  refine AX.reg (its := [.auto { nk := 0 }, .auto {}, .auto { y := some (.sl 1 0 ((([] : List (ByteArray × Int)) ++ p1).length)), els := some (List.map enc_si ([] : List (ByteArray × Int))), nk := 1 }]) [2] [1] (s1 := ⟨[(2, .sl 1 0 ((([] : List (ByteArray × Int)) ++ p1).length))], [(1, .arr 2 (List.map enc_si ([] : List (ByteArray × Int)) ++ List.map enc_si p1))]⟩) (C := ((((((List.map enc_si ([] : List (ByteArray × Int))).drop 0).take (([] : List (ByteArray × Int)).length) = List.map enc_si ([] : List (ByteArray × Int))) ∧ True) ∧ (List.map enc_si ([] : List (ByteArray × Int))).length + (List.map enc_si p1).length ≤ 1099511627776) ∧ (AV.sl 1 0 (List.map enc_si ([] : List (ByteArray × Int)) ++ List.map enc_si p1).length = AV.sl 1 0 (([] : List (ByteArray × Int)) ++ p1).length)) ∧ True) (by kernel_rfl) ⟨⟨⟨⟨(dt_all (enc := enc_si) rfl rfl), trivial⟩, (by simp only [List.length_map, List.length_nil, List.length_replicate]; simpa using g1)⟩, sl_len (enc := enc_si) (app_can (enc := enc_si) rfl (rfl))⟩, trivial⟩ trivial ?_
  refine AX.ret ?_
  refine fin_wk (Wk.swap 0 1 (Nat.le_of_ble_eq_true (by kernel_rfl)) (Nat.le_of_ble_eq_true (by kernel_rfl)) rfl) ?_
  refine fin_wk (Wk.forget [2] [0] (s' := ⟨[(2, .sl 0 0 ((([] : List (ByteArray × Int)) ++ p1).length))], [(0, .arr 2 (List.map enc_si ([] : List (ByteArray × Int)) ++ List.map enc_si p1))]⟩) (by kernel_rfl)) ?_
  refine fin_wk (Wk.of_eq (congrArg (fun z => (⟨[(2, .sl 0 0 ((([] : List (ByteArray × Int)) ++ p1).length))], [(0, .arr 2 (z))]⟩ : S)) (app_can (enc := enc_si) rfl (rfl) : List.map enc_si ([] : List (ByteArray × Int)) ++ List.map enc_si p1 = List.map enc_si (([] : List (ByteArray × Int)) ++ p1)))) ?_
  have hr := Option.some.inj h
  subst hr
  exact ⟨_, Wk.refl _, .inr rfl, ⟨[0], by kernel_rfl, ⟨rfl, trivial⟩, [.sl 0 0 ((([] : List (ByteArray × Int)) ++ p1).length)], by kernel_rfl, by kernel_rfl⟩⟩

theorem s_spec_dropped (p1 : List (ByteArray × Int)) (p2 : Int) (r : Unit) (h : m_spec_dropped p1 p2 = some r) :
    Eng.Spec Try.prog 74 [.bs false 2 (List.map enc_si p1), .v (.int .i64 p2)] [] (.sl 0 0 (((([] : List (ByteArray × Int)) ++ (sub p1 (0 : Int) p2)) ++ (sub p1 (IntKind.wrap .i64 (p2 + 1)) (p1.length : Int))).length)) [.arr 2 (List.map enc_si ((([] : List (ByteArray × Int)) ++ (sub p1 (0 : Int) p2)) ++ (sub p1 (IntKind.wrap .i64 (p2 + 1)) (p1.length : Int))))] := by
  unfold m_spec_dropped at h
  refine Eng.Spec.body Try.func74 (by kernel_rfl) rfl (by kernel_rfl) ?_
  refine AX.wkpost ?_
  refine AX.seq ?_
  refine AX.reg (its := []) [0, 1] [] (s1 := ⟨[(0, .bs false 2 (List.map enc_si p1)), (1, .v (.int .i64 p2))], []⟩) (C := True) (by kernel_rfl) trivial trivial ?_
  refine AX.seq ?_
  obtain ⟨g1, h⟩ := gd_e h
  obtain ⟨x3, e2, h⟩ := bd_e h
  obtain ⟨g3, h⟩ := gd_e h
  obtain ⟨g4, h⟩ := gd_e h
  refine AX.drw mixed (its := [.auto {}, .auto {}, .auto { y := some (.bs false 2 (List.map enc_si (sub p1 (0 : Int) p2))) }, .call 37 [.bs false 2 (List.map enc_si (sub p1 (0 : Int) p2))] (handO (rho ([] ++ [0])) [] [] ++ []) (callEv [] [0] (.sl 0 0 ((([] : List (ByteArray × Int)) ++ (sub p1 (0 : Int) p2)).length)) [.arr 2 (List.map enc_si (([] : List (ByteArray × Int)) ++ (sub p1 (0 : Int) p2)))]), .auto {}, .auto {}, .auto { raw := true }, .auto { y := some (.bs false 2 (List.map enc_si (sub p1 (IntKind.wrap .i64 (p2 + 1)) (p1.length : Int)))) }, .auto { y := some (.sl 1 0 (((([] : List (ByteArray × Int)) ++ (sub p1 (0 : Int) p2)) ++ (sub p1 (IntKind.wrap .i64 (p2 + 1)) (p1.length : Int))).length)), els := some (List.map enc_si (([] : List (ByteArray × Int)) ++ (sub p1 (0 : Int) p2))), nk := 1 }]) [4] [1] (s1 := ⟨[(4, .sl 1 0 (((([] : List (ByteArray × Int)) ++ (sub p1 (0 : Int) p2)) ++ (sub p1 (IntKind.wrap .i64 (p2 + 1)) (p1.length : Int))).length))], [(1, .arr 2 (List.map enc_si (([] : List (ByteArray × Int)) ++ (sub p1 (0 : Int) p2)) ++ List.map enc_si (sub p1 (IntKind.wrap .i64 (p2 + 1)) (p1.length : Int))))]⟩) (C := ((0 ≤ (0 : Int) ∧ (0 : Int) ≤ p2 ∧ p2 ≤ ((List.map enc_si p1).length : Int) ∧ ((List.map enc_si p1).length : Int) ≤ ((List.map enc_si p1).length : Int)) ∧ (AV.bs false 2 (((List.map enc_si p1).drop (0 : Int).toNat).take (p2.toNat - (0 : Int).toNat)) = (.bs false 2 (List.map enc_si (sub p1 (0 : Int) p2)) : AV))) ∧ ((([.bs false 2 (List.map enc_si (sub p1 (0 : Int) p2))] : List AV) = [.bs false 2 (List.map enc_si (sub p1 (0 : Int) p2))]) ∧ True) ∧ ((0 ≤ (IntKind.wrap .i64 (p2 + 1)) ∧ (IntKind.wrap .i64 (p2 + 1)) ≤ ((List.map enc_si p1).length : Int) ∧ ((List.map enc_si p1).length : Int) ≤ ((List.map enc_si p1).length : Int) ∧ ((List.map enc_si p1).length : Int) ≤ ((List.map enc_si p1).length : Int)) ∧ (AV.bs false 2 (((List.map enc_si p1).drop (IntKind.wrap .i64 (p2 + 1)).toNat).take (((List.map enc_si p1).length : Int).toNat - (IntKind.wrap .i64 (p2 + 1)).toNat)) = (.bs false 2 (List.map enc_si (sub p1 (IntKind.wrap .i64 (p2 + 1)) (p1.length : Int))) : AV))) ∧ ((((((List.map enc_si (([] : List (ByteArray × Int)) ++ (sub p1 (0 : Int) p2))).drop 0).take ((([] : List (ByteArray × Int)) ++ (sub p1 (0 : Int) p2)).length) = List.map enc_si (([] : List (ByteArray × Int)) ++ (sub p1 (0 : Int) p2))) ∧ True) ∧ (List.map enc_si (([] : List (ByteArray × Int)) ++ (sub p1 (0 : Int) p2))).length + (List.map enc_si (sub p1 (IntKind.wrap .i64 (p2 + 1)) (p1.length : Int))).length ≤ 1099511627776) ∧ (AV.sl 1 0 (List.map enc_si (([] : List (ByteArray × Int)) ++ (sub p1 (0 : Int) p2)) ++ List.map enc_si (sub p1 (IntKind.wrap .i64 (p2 + 1)) (p1.length : Int))).length = AV.sl 1 0 ((([] : List (ByteArray × Int)) ++ (sub p1 (0 : Int) p2)) ++ (sub p1 (IntKind.wrap .i64 (p2 + 1)) (p1.length : Int))).length)) ∧ True) (by kernel_rfl) ⟨⟨by first | exact g1 | simpa only [List.length_map] using g1, by first | exact sub_can enc_si p1 (0 : Int) p2 false 2 | (simp only [List.length_map]; exact sub_can enc_si p1 (0 : Int) p2 false 2)⟩, ⟨⟨rfl, trivial⟩, ⟨⟨by first | exact g3 | simpa only [List.length_map] using g3, by first | exact sub_can enc_si p1 (IntKind.wrap .i64 (p2 + 1)) (p1.length : Int) false 2 | (simp only [List.length_map]; exact sub_can enc_si p1 (IntKind.wrap .i64 (p2 + 1)) (p1.length : Int) false 2)⟩, ⟨⟨⟨⟨(dt_all (enc := enc_si) rfl rfl), trivial⟩, (by simp only [List.length_map, List.length_nil, List.length_replicate]; simpa using g4)⟩, sl_len (enc := enc_si) (app_can (enc := enc_si) rfl (rfl))⟩, trivial⟩⟩⟩⟩ ⟨call_ok (ks := []) (ns := [0]) (bor := []) (bobjs := []) (s_spec_copyDefs (sub p1 (0 : Int) p2) x3 e2) (.cons (.c1 (.c0 (.same _ (by kernel_rfl) (by kernel_rfl)))) (.nil)) (by kernel_rfl) trivial, trivial⟩ ?_
  refine AX.ret ?_
  refine fin_wk (Wk.swap 0 1 (Nat.le_of_ble_eq_true (by kernel_rfl)) (Nat.le_of_ble_eq_true (by kernel_rfl)) rfl) ?_
  refine fin_wk (Wk.forget [4] [0] (s' := ⟨[(4, .sl 0 0 (((([] : List (ByteArray × Int)) ++ (sub p1 (0 : Int) p2)) ++ (sub p1 (IntKind.wrap .i64 (p2 + 1)) (p1.length : Int))).length))], [(0, .arr 2 (List.map enc_si (([] : List (ByteArray × Int)) ++ (sub p1 (0 : Int) p2)) ++ List.map enc_si (sub p1 (IntKind.wrap .i64 (p2 + 1)) (p1.length : Int))))]⟩) (by kernel_rfl)) ?_
  refine fin_wk (Wk.of_eq (congrArg (fun z => (⟨[(4, .sl 0 0 (((([] : List (ByteArray × Int)) ++ (sub p1 (0 : Int) p2)) ++ (sub p1 (IntKind.wrap .i64 (p2 + 1)) (p1.length : Int))).length))], [(0, .arr 2 (z))]⟩ : S)) (app_can (enc := enc_si) rfl (rfl) : List.map enc_si (([] : List (ByteArray × Int)) ++ (sub p1 (0 : Int) p2)) ++ List.map enc_si (sub p1 (IntKind.wrap .i64 (p2 + 1)) (p1.length : Int)) = List.map enc_si ((([] : List (ByteArray × Int)) ++ (sub p1 (0 : Int) p2)) ++ (sub p1 (IntKind.wrap .i64 (p2 + 1)) (p1.length : Int)))))) ?_
  have hr := Option.some.inj h
  subst hr
  exact ⟨_, Wk.refl _, .inr rfl, ⟨[0], by kernel_rfl, ⟨rfl, trivial⟩, [.sl 0 0 (((([] : List (ByteArray × Int)) ++ (sub p1 (0 : Int) p2)) ++ (sub p1 (IntKind.wrap .i64 (p2 + 1)) (p1.length : Int))).length)], by kernel_rfl, by kernel_rfl⟩⟩

theorem s_spec_applied (p1 : List (ByteArray × Int)) (p2 : Int) (p3 : ByteArray) (p4 : Int) (p5 : Int) (r : (List (ByteArray × Int)) × Bool) (h : m_spec_applied p1 p2 p3 p4 p5 = some r) :
    Eng.Spec Try.prog 38 [.bs false 2 (List.map enc_si p1), .agg [.v (.int .i64 p2), .v (.string p3), .v (.int .i64 p4), .v (.int .i64 p5)]] [] (.tup [.sl 0 0 r.1.length, .v (.bool r.2)]) [.arr 2 (List.map enc_si r.1)] := by
  unfold m_spec_applied at h
  refine Eng.Spec.body Try.func38 (by kernel_rfl) rfl (by kernel_rfl) ?_
  refine AX.wkpost ?_
  refine AX.seq ?_
  refine AX.reg (its := [.auto { nk := 0 }]) [0, 3] [0] (s1 := ⟨[(0, .bs false 2 (List.map enc_si p1)), (3, .pt 0 0)], [(0, .box [.v (.int .i64 p2), .v (.string p3), .v (.int .i64 p4), .v (.int .i64 p5)])]⟩) (C := True) (by kernel_rfl) trivial trivial ?_
  refine AX.seq ?_
  obtain ⟨x6, e1, h⟩ := bd_e h
  refine AX.reg (its := [.auto {}, .auto {}, .auto {}, .call 73 [.bs false 2 (List.map enc_si p1), .v (.string p3)] (handO (rho ([] ++ [])) [] [] ++ []) (callEv [] [] (.v (.int .i64 x6)) [])]) [0, 3, 6] [0] (s1 := ⟨[(0, .bs false 2 (List.map enc_si p1)), (3, .pt 0 0), (6, .v (.int .i64 x6))], [(0, .box [.v (.int .i64 p2), .v (.string p3), .v (.int .i64 p4), .v (.int .i64 p5)])]⟩) (C := ((([.bs false 2 (List.map enc_si p1), .v (.string p3)] : List AV) = [.bs false 2 (List.map enc_si p1), .v (.string p3)]) ∧ True) ∧ True) (by kernel_rfl) ⟨⟨rfl, trivial⟩, trivial⟩ ⟨call_ok (ks := []) (ns := []) (bor := []) (bobjs := []) (s_spec_indexOf p1 p3 x6 e1) (.cons (.c1 (.c0 (.same _ (by kernel_rfl) (by kernel_rfl)))) (.cons (.c1 (.c0 (.same _ (by kernel_rfl) (by kernel_rfl)))) (.nil))) (by kernel_rfl) trivial, trivial⟩ ?_
  refine AX.seq ?_
  refine AX.seq ?_
  refine AX.reg (its := []) [0, 3, 6, 13] [0] (s1 := ⟨[(0, .bs false 2 (List.map enc_si p1)), (3, .pt 0 0), (6, .v (.int .i64 x6)), (13, .v (.int .i64 p2))], [(0, .box [.v (.int .i64 p2), .v (.string p3), .v (.int .i64 p4), .v (.int .i64 p5)])]⟩) (C := True) (by kernel_rfl) trivial trivial ?_
  refine AX.block ?_
  refine AX.seq ?_
  refine AX.reg (its := []) [0, 3, 6, 13, 14] [0] (s1 := ⟨[(0, .bs false 2 (List.map enc_si p1)), (3, .pt 0 0), (6, .v (.int .i64 x6)), (13, .v (.int .i64 p2)), (14, .v (.bool (decide (p2 = 0))))], [(0, .box [.v (.int .i64 p2), .v (.string p3), .v (.int .i64 p4), .v (.int .i64 p5)])]⟩) (C := True) (by kernel_rfl) trivial trivial ?_
  rcases bool_cases (decide (p2 = 0)) with b2 | b2
  · replace h := cd_t b2 h
    refine AX.condT (decide (p2 = 0)) (by kernel_rfl) b2 ?_
    refine AX.seq ?_
    obtain ⟨x7, e3, h⟩ := bd_e h
    obtain ⟨g4, h⟩ := gd_e h
    rcases bool_cases (decide (x6 < 0)) with b5 | b5
    · replace h := cd_t b5 h
      refine AX.drw mixed (its := [.auto {}, .call 37 [.bs false 2 (List.map enc_si p1)] (handO (rho ([] ++ [1])) [] [] ++ []) (callEv [] [1] (.sl 0 0 ((([] : List (ByteArray × Int)) ++ p1).length)) [.arr 2 (List.map enc_si (([] : List (ByteArray × Int)) ++ p1))]), .auto {}, .auto {}, .auto {}, .auto {}, .auto {}, .auto { nk := 2 }, .auto { y := some (.sl 3 0 (((([] : List (ByteArray × Int)) ++ p1) ++ ([(p3, p5)] : List (ByteArray × Int))).length)), els := some (List.map enc_si (([] : List (ByteArray × Int)) ++ p1)), els2 := some (List.map enc_si ([(p3, p5)] : List (ByteArray × Int))), nk := 3 }, .auto {}, .auto { y := some (.v (.bool true)) }]) [4, 5] [3] (s1 := ⟨[(4, .sl 3 0 (((([] : List (ByteArray × Int)) ++ p1) ++ ([(p3, p5)] : List (ByteArray × Int))).length)), (5, .v (.bool (decide (p4 = 0))))], [(3, .arr 2 (List.map enc_si (([] : List (ByteArray × Int)) ++ p1) ++ List.map enc_si ([(p3, p5)] : List (ByteArray × Int))))]⟩) (C := ((([.bs false 2 (List.map enc_si p1)] : List AV) = [.bs false 2 (List.map enc_si p1)]) ∧ True) ∧ ((((((List.map enc_si (([] : List (ByteArray × Int)) ++ p1)).drop 0).take ((([] : List (ByteArray × Int)) ++ p1).length) = List.map enc_si (([] : List (ByteArray × Int)) ++ p1)) ∧ (((List.map enc_si ([(p3, p5)] : List (ByteArray × Int))).drop 0).take (([(p3, p5)] : List (ByteArray × Int)).length) = List.map enc_si ([(p3, p5)] : List (ByteArray × Int)))) ∧ (List.map enc_si (([] : List (ByteArray × Int)) ++ p1)).length + (List.map enc_si ([(p3, p5)] : List (ByteArray × Int))).length ≤ 1099511627776) ∧ (AV.sl 3 0 (List.map enc_si (([] : List (ByteArray × Int)) ++ p1) ++ List.map enc_si ([(p3, p5)] : List (ByteArray × Int))).length = AV.sl 3 0 ((([] : List (ByteArray × Int)) ++ p1) ++ ([(p3, p5)] : List (ByteArray × Int))).length)) ∧ ((True) ∧ ((.v (.bool (decide (x6 < 0))) : AV) = (.v (.bool true) : AV))) ∧ True) (by kernel_rfl) ⟨⟨rfl, trivial⟩, ⟨⟨⟨⟨(dt_all (enc := enc_si) rfl rfl), (dt_all (enc := enc_si) rfl rfl)⟩, (by simp only [List.length_map, List.length_nil, List.length_replicate]; simpa using g4)⟩, sl_len (enc := enc_si) (app_can (enc := enc_si) rfl (rfl))⟩, ⟨⟨trivial, (congrArg (fun z => AV.v (.bool z)) b5)⟩, trivial⟩⟩⟩ ⟨call_ok (ks := []) (ns := [1]) (bor := []) (bobjs := []) (s_spec_copyDefs p1 x7 e3) (.cons (.c1 (.c0 (.same _ (by kernel_rfl) (by kernel_rfl)))) (.nil)) (by kernel_rfl) trivial, trivial⟩ ?_
      refine AX.ret ?_
      refine fin_wk (Wk.swap 0 3 (Nat.le_of_ble_eq_true (by kernel_rfl)) (Nat.le_of_ble_eq_true (by kernel_rfl)) rfl) ?_
      refine fin_wk (Wk.forget [4, 5] [0] (s' := ⟨[(4, .sl 0 0 (((([] : List (ByteArray × Int)) ++ p1) ++ ([(p3, p5)] : List (ByteArray × Int))).length)), (5, .v (.bool (decide (p4 = 0))))], [(0, .arr 2 (List.map enc_si (([] : List (ByteArray × Int)) ++ p1) ++ List.map enc_si ([(p3, p5)] : List (ByteArray × Int))))]⟩) (by kernel_rfl)) ?_
      refine fin_wk (Wk.of_eq (congrArg (fun z => (⟨[(4, .sl 0 0 (((([] : List (ByteArray × Int)) ++ p1) ++ ([(p3, p5)] : List (ByteArray × Int))).length)), (5, .v (.bool (decide (p4 = 0))))], [(0, .arr 2 (z))]⟩ : S)) (app_can (enc := enc_si) rfl (rfl) : List.map enc_si (([] : List (ByteArray × Int)) ++ p1) ++ List.map enc_si ([(p3, p5)] : List (ByteArray × Int)) = List.map enc_si ((([] : List (ByteArray × Int)) ++ p1) ++ ([(p3, p5)] : List (ByteArray × Int)))))) ?_
      have hr := Option.some.inj h
      subst hr
      exact ⟨_, Wk.refl _, .inr rfl, ⟨[0], by kernel_rfl, ⟨rfl, trivial⟩, [.sl 0 0 (((([] : List (ByteArray × Int)) ++ p1) ++ ([(p3, p5)] : List (ByteArray × Int))).length), .v (.bool (decide (p4 = 0)))], by kernel_rfl, by kernel_rfl⟩⟩
    · replace h := cd_f b5 h
      refine AX.drw mixed (its := [.auto {}, .call 37 [.bs false 2 (List.map enc_si p1)] (handO (rho ([] ++ [1])) [] [] ++ []) (callEv [] [1] (.sl 0 0 ((([] : List (ByteArray × Int)) ++ p1).length)) [.arr 2 (List.map enc_si (([] : List (ByteArray × Int)) ++ p1))]), .auto {}, .auto {}, .auto {}, .auto {}, .auto {}, .auto { nk := 2 }, .auto { y := some (.sl 3 0 (((([] : List (ByteArray × Int)) ++ p1) ++ ([(p3, p5)] : List (ByteArray × Int))).length)), els := some (List.map enc_si (([] : List (ByteArray × Int)) ++ p1)), els2 := some (List.map enc_si ([(p3, p5)] : List (ByteArray × Int))), nk := 3 }, .auto {}, .auto { y := some (.v (.bool false)) }]) [4, 5] [3] (s1 := ⟨[(4, .sl 3 0 (((([] : List (ByteArray × Int)) ++ p1) ++ ([(p3, p5)] : List (ByteArray × Int))).length)), (5, .v (.bool false))], [(3, .arr 2 (List.map enc_si (([] : List (ByteArray × Int)) ++ p1) ++ List.map enc_si ([(p3, p5)] : List (ByteArray × Int))))]⟩) (C := ((([.bs false 2 (List.map enc_si p1)] : List AV) = [.bs false 2 (List.map enc_si p1)]) ∧ True) ∧ ((((((List.map enc_si (([] : List (ByteArray × Int)) ++ p1)).drop 0).take ((([] : List (ByteArray × Int)) ++ p1).length) = List.map enc_si (([] : List (ByteArray × Int)) ++ p1)) ∧ (((List.map enc_si ([(p3, p5)] : List (ByteArray × Int))).drop 0).take (([(p3, p5)] : List (ByteArray × Int)).length) = List.map enc_si ([(p3, p5)] : List (ByteArray × Int)))) ∧ (List.map enc_si (([] : List (ByteArray × Int)) ++ p1)).length + (List.map enc_si ([(p3, p5)] : List (ByteArray × Int))).length ≤ 1099511627776) ∧ (AV.sl 3 0 (List.map enc_si (([] : List (ByteArray × Int)) ++ p1) ++ List.map enc_si ([(p3, p5)] : List (ByteArray × Int))).length = AV.sl 3 0 ((([] : List (ByteArray × Int)) ++ p1) ++ ([(p3, p5)] : List (ByteArray × Int))).length)) ∧ ((True) ∧ ((.v (.bool (decide (x6 < 0))) : AV) = (.v (.bool false) : AV))) ∧ True) (by kernel_rfl) ⟨⟨rfl, trivial⟩, ⟨⟨⟨⟨(dt_all (enc := enc_si) rfl rfl), (dt_all (enc := enc_si) rfl rfl)⟩, (by simp only [List.length_map, List.length_nil, List.length_replicate]; simpa using g4)⟩, sl_len (enc := enc_si) (app_can (enc := enc_si) rfl (rfl))⟩, ⟨⟨trivial, (congrArg (fun z => AV.v (.bool z)) b5)⟩, trivial⟩⟩⟩ ⟨call_ok (ks := []) (ns := [1]) (bor := []) (bobjs := []) (s_spec_copyDefs p1 x7 e3) (.cons (.c1 (.c0 (.same _ (by kernel_rfl) (by kernel_rfl)))) (.nil)) (by kernel_rfl) trivial, trivial⟩ ?_
      refine AX.ret ?_
      refine fin_wk (Wk.swap 0 3 (Nat.le_of_ble_eq_true (by kernel_rfl)) (Nat.le_of_ble_eq_true (by kernel_rfl)) rfl) ?_
      refine fin_wk (Wk.forget [4, 5] [0] (s' := ⟨[(4, .sl 0 0 (((([] : List (ByteArray × Int)) ++ p1) ++ ([(p3, p5)] : List (ByteArray × Int))).length)), (5, .v (.bool false))], [(0, .arr 2 (List.map enc_si (([] : List (ByteArray × Int)) ++ p1) ++ List.map enc_si ([(p3, p5)] : List (ByteArray × Int))))]⟩) (by kernel_rfl)) ?_
      refine fin_wk (Wk.of_eq (congrArg (fun z => (⟨[(4, .sl 0 0 (((([] : List (ByteArray × Int)) ++ p1) ++ ([(p3, p5)] : List (ByteArray × Int))).length)), (5, .v (.bool false))], [(0, .arr 2 (z))]⟩ : S)) (app_can (enc := enc_si) rfl (rfl) : List.map enc_si (([] : List (ByteArray × Int)) ++ p1) ++ List.map enc_si ([(p3, p5)] : List (ByteArray × Int)) = List.map enc_si ((([] : List (ByteArray × Int)) ++ p1) ++ ([(p3, p5)] : List (ByteArray × Int)))))) ?_
      have hr := Option.some.inj h
      subst hr
      exact ⟨_, Wk.refl _, .inr rfl, ⟨[0], by kernel_rfl, ⟨rfl, trivial⟩, [.sl 0 0 (((([] : List (ByteArray × Int)) ++ p1) ++ ([(p3, p5)] : List (ByteArray × Int))).length), .v (.bool false)], by kernel_rfl, by kernel_rfl⟩⟩
  · replace h := cd_f b2 h
    refine AX.condF (decide (p2 = 0)) (by kernel_rfl) b2 ?_
    refine AX.seq ?_
    refine AX.reg (its := []) [0, 3, 6, 13, 32] [0] (s1 := ⟨[(0, .bs false 2 (List.map enc_si p1)), (3, .pt 0 0), (6, .v (.int .i64 x6)), (13, .v (.int .i64 p2)), (32, .v (.bool (decide (p2 = 1))))], [(0, .box [.v (.int .i64 p2), .v (.string p3), .v (.int .i64 p4), .v (.int .i64 p5)])]⟩) (C := True) (by kernel_rfl) trivial trivial ?_
    rcases bool_cases (decide (p2 = 1)) with b6 | b6
    · replace h := cd_t b6 h
      refine AX.condT (decide (p2 = 1)) (by kernel_rfl) b6 ?_
      refine AX.seq ?_
      refine AX.seq ?_
      rcases bool_cases (decide (x6 < 0)) with b7 | b7
      · replace h := cd_t b7 h
        refine AX.drw mixed (its := [.auto {}, .auto { y := some (.v (.bool true)) }]) [0, 6, 50] [] (s1 := ⟨[(0, .bs false 2 (List.map enc_si p1)), (6, .v (.int .i64 x6)), (50, .v (.bool true))], []⟩) (C := ((True) ∧ ((.v (.bool (decide (x6 < 0))) : AV) = (.v (.bool true) : AV))) ∧ True) (by kernel_rfl) ⟨⟨trivial, (congrArg (fun z => AV.v (.bool z)) b7)⟩, trivial⟩ trivial ?_
        refine AX.cond_true (by kernel_rfl) ?_
        refine AX.seq ?_
        refine AX.reg (its := []) [4, 5] [] (s1 := ⟨[(4, .v (.slice none 0 0)), (5, .v (.bool false))], []⟩) (C := True) (by kernel_rfl) trivial trivial ?_
        refine AX.ret ?_
        refine fin_wk (Wk.mat 4 0 2 (by kernel_rfl) (Nat.le_of_ble_eq_true (by kernel_rfl)) (by kernel_rfl) rfl) ?_
        refine fin_wk (Wk.forget [4, 5] [0] (s' := ⟨[(4, .sl 0 0 (([] : List (ByteArray × Int)).length)), (5, .v (.bool false))], [(0, .arr 2 (List.map enc_si ([] : List (ByteArray × Int))))]⟩) (by kernel_rfl)) ?_
        have hr := Option.some.inj h
        subst hr
        exact ⟨_, Wk.refl _, .inr rfl, ⟨[0], by kernel_rfl, ⟨rfl, trivial⟩, [.sl 0 0 (([] : List (ByteArray × Int)).length), .v (.bool false)], by kernel_rfl, by kernel_rfl⟩⟩
      · replace h := cd_f b7 h
        obtain ⟨g8, h⟩ := gd_e h
        rcases bool_cases ((!decide (((gt p1 x6).2) = p4))) with b9 | b9
        · replace h := cd_t b9 h
          refine AX.drw mixed (its := [.auto {}, .auto { y := some (.v (.bool false)) }, .auto {}, .auto {}, .auto {}, .auto { y := some (.be 2 (enc_si (gt p1 x6)) 0) }, .auto {}, .auto {}, .auto {}, .auto {}, .auto { y := some (.v (.bool true)) }]) [0, 6, 50] [] (s1 := ⟨[(0, .bs false 2 (List.map enc_si p1)), (6, .v (.int .i64 x6)), (50, .v (.bool true))], []⟩) (C := ((True) ∧ ((.v (.bool (decide (x6 < 0))) : AV) = (.v (.bool false) : AV))) ∧ ((0 ≤ x6 ∧ x6 < ((List.map enc_si p1).length : Int)) ∧ (AV.be 2 ((List.map enc_si p1).getD x6.toNat []) 0 = AV.be 2 (enc_si (gt p1 x6)) 0)) ∧ ((True) ∧ ((.v (.bool (!decide (((gt p1 x6).2) = p4))) : AV) = (.v (.bool true) : AV))) ∧ True) (by kernel_rfl) ⟨⟨trivial, (congrArg (fun z => AV.v (.bool z)) b7)⟩, ⟨idx_bs enc_si p1 x6 2 g8, ⟨⟨trivial, (congrArg (fun z => AV.v (.bool z)) b9)⟩, trivial⟩⟩⟩ trivial ?_
          refine AX.cond_true (by kernel_rfl) ?_
          refine AX.seq ?_
          refine AX.reg (its := []) [4, 5] [] (s1 := ⟨[(4, .v (.slice none 0 0)), (5, .v (.bool false))], []⟩) (C := True) (by kernel_rfl) trivial trivial ?_
          refine AX.ret ?_
          refine fin_wk (Wk.mat 4 0 2 (by kernel_rfl) (Nat.le_of_ble_eq_true (by kernel_rfl)) (by kernel_rfl) rfl) ?_
          refine fin_wk (Wk.forget [4, 5] [0] (s' := ⟨[(4, .sl 0 0 (([] : List (ByteArray × Int)).length)), (5, .v (.bool false))], [(0, .arr 2 (List.map enc_si ([] : List (ByteArray × Int))))]⟩) (by kernel_rfl)) ?_
          have hr := Option.some.inj h
          subst hr
          exact ⟨_, Wk.refl _, .inr rfl, ⟨[0], by kernel_rfl, ⟨rfl, trivial⟩, [.sl 0 0 (([] : List (ByteArray × Int)).length), .v (.bool false)], by kernel_rfl, by kernel_rfl⟩⟩
        · replace h := cd_f b9 h
          refine AX.drw mixed (its := [.auto {}, .auto { y := some (.v (.bool false)) }, .auto {}, .auto {}, .auto {}, .auto { y := some (.be 2 (enc_si (gt p1 x6)) 0) }, .auto {}, .auto {}, .auto {}, .auto {}, .auto { y := some (.v (.bool false)) }]) [0, 6, 50] [] (s1 := ⟨[(0, .bs false 2 (List.map enc_si p1)), (6, .v (.int .i64 x6)), (50, .v (.bool (!decide (p5 = 0))))], []⟩) (C := ((True) ∧ ((.v (.bool (decide (x6 < 0))) : AV) = (.v (.bool false) : AV))) ∧ ((0 ≤ x6 ∧ x6 < ((List.map enc_si p1).length : Int)) ∧ (AV.be 2 ((List.map enc_si p1).getD x6.toNat []) 0 = AV.be 2 (enc_si (gt p1 x6)) 0)) ∧ ((True) ∧ ((.v (.bool (!decide (((gt p1 x6).2) = p4))) : AV) = (.v (.bool false) : AV))) ∧ True) (by kernel_rfl) ⟨⟨trivial, (congrArg (fun z => AV.v (.bool z)) b7)⟩, ⟨idx_bs enc_si p1 x6 2 g8, ⟨⟨trivial, (congrArg (fun z => AV.v (.bool z)) b9)⟩, trivial⟩⟩⟩ trivial ?_
          rcases bool_cases ((!decide (p5 = 0))) with b10 | b10
          · replace h := cd_t b10 h
            refine AX.condT ((!decide (p5 = 0))) (by kernel_rfl) b10 ?_
            refine AX.seq ?_
            refine AX.reg (its := []) [4, 5] [] (s1 := ⟨[(4, .v (.slice none 0 0)), (5, .v (.bool false))], []⟩) (C := True) (by kernel_rfl) trivial trivial ?_
            refine AX.ret ?_
            refine fin_wk (Wk.mat 4 0 2 (by kernel_rfl) (Nat.le_of_ble_eq_true (by kernel_rfl)) (by kernel_rfl) rfl) ?_
            refine fin_wk (Wk.forget [4, 5] [0] (s' := ⟨[(4, .sl 0 0 (([] : List (ByteArray × Int)).length)), (5, .v (.bool false))], [(0, .arr 2 (List.map enc_si ([] : List (ByteArray × Int))))]⟩) (by kernel_rfl)) ?_
            have hr := Option.some.inj h
            subst hr
            exact ⟨_, Wk.refl _, .inr rfl, ⟨[0], by kernel_rfl, ⟨rfl, trivial⟩, [.sl 0 0 (([] : List (ByteArray × Int)).length), .v (.bool false)], by kernel_rfl, by kernel_rfl⟩⟩
          · replace h := cd_f b10 h
            refine AX.condF ((!decide (p5 = 0))) (by kernel_rfl) b10 ?_
            refine AX.skip ?_
            refine AX.seq ?_
            obtain ⟨x8, e11, h⟩ := bd_e h
            refine AX.reg (its := [.auto {}, .auto {}, .call 74 [.bs false 2 (List.map enc_si p1), .v (.int .i64 x6)] (handO (rho ([] ++ [0])) [] [] ++ []) (callEv [] [0] (.sl 0 0 (((([] : List (ByteArray × Int)) ++ (sub p1 (0 : Int) x6)) ++ (sub p1 (IntKind.wrap .i64 (x6 + 1)) (p1.length : Int))).length)) [.arr 2 (List.map enc_si ((([] : List (ByteArray × Int)) ++ (sub p1 (0 : Int) x6)) ++ (sub p1 (IntKind.wrap .i64 (x6 + 1)) (p1.length : Int))))])]) [4, 5] [0] (s1 := ⟨[(4, .sl 0 0 (((([] : List (ByteArray × Int)) ++ (sub p1 (0 : Int) x6)) ++ (sub p1 (IntKind.wrap .i64 (x6 + 1)) (p1.length : Int))).length)), (5, .v (.bool true))], [(0, .arr 2 (List.map enc_si ((([] : List (ByteArray × Int)) ++ (sub p1 (0 : Int) x6)) ++ (sub p1 (IntKind.wrap .i64 (x6 + 1)) (p1.length : Int)))))]⟩) (C := ((([.bs false 2 (List.map enc_si p1), .v (.int .i64 x6)] : List AV) = [.bs false 2 (List.map enc_si p1), .v (.int .i64 x6)]) ∧ True) ∧ True) (by kernel_rfl) ⟨⟨rfl, trivial⟩, trivial⟩ ⟨call_ok (ks := []) (ns := [0]) (bor := []) (bobjs := []) (s_spec_dropped p1 x6 x8 e11) (.cons (.c1 (.c0 (.same _ (by kernel_rfl) (by kernel_rfl)))) (.cons (.c1 (.c0 (.same _ (by kernel_rfl) (by kernel_rfl)))) (.nil))) (by kernel_rfl) trivial, trivial⟩ ?_
            refine AX.ret ?_
            refine fin_wk (Wk.forget [4, 5] [0] (s' := ⟨[(4, .sl 0 0 (((([] : List (ByteArray × Int)) ++ (sub p1 (0 : Int) x6)) ++ (sub p1 (IntKind.wrap .i64 (x6 + 1)) (p1.length : Int))).length)), (5, .v (.bool true))], [(0, .arr 2 (List.map enc_si ((([] : List (ByteArray × Int)) ++ (sub p1 (0 : Int) x6)) ++ (sub p1 (IntKind.wrap .i64 (x6 + 1)) (p1.length : Int)))))]⟩) (by kernel_rfl)) ?_
            have hr := Option.some.inj h
            subst hr
            exact ⟨_, Wk.refl _, .inr rfl, ⟨[0], by kernel_rfl, ⟨rfl, trivial⟩, [.sl 0 0 (((([] : List (ByteArray × Int)) ++ (sub p1 (0 : Int) x6)) ++ (sub p1 (IntKind.wrap .i64 (x6 + 1)) (p1.length : Int))).length), .v (.bool true)], by kernel_rfl, by kernel_rfl⟩⟩
    · replace h := cd_f b6 h
      refine AX.condF (decide (p2 = 1)) (by kernel_rfl) b6 ?_
      refine AX.seq ?_
      refine AX.reg (its := []) [0, 3, 6, 54] [0] (s1 := ⟨[(0, .bs false 2 (List.map enc_si p1)), (3, .pt 0 0), (6, .v (.int .i64 x6)), (54, .v (.bool (decide (p2 = 2))))], [(0, .box [.v (.int .i64 p2), .v (.string p3), .v (.int .i64 p4), .v (.int .i64 p5)])]⟩) (C := True) (by kernel_rfl) trivial trivial ?_
      rcases bool_cases (decide (p2 = 2)) with b12 | b12
      · replace h := cd_t b12 h
        refine AX.condT (decide (p2 = 2)) (by kernel_rfl) b12 ?_
        refine AX.seq ?_
        refine AX.seq ?_
        rcases bool_cases (decide (x6 < 0)) with b13 | b13
        · replace h := cd_t b13 h
          refine AX.drw mixed (its := [.auto {}, .auto { y := some (.v (.bool true)) }]) [0, 3, 6, 67] [0] (s1 := ⟨[(0, .bs false 2 (List.map enc_si p1)), (3, .pt 0 0), (6, .v (.int .i64 x6)), (67, .v (.bool true))], [(0, .box [.v (.int .i64 p2), .v (.string p3), .v (.int .i64 p4), .v (.int .i64 p5)])]⟩) (C := ((True) ∧ ((.v (.bool (decide (x6 < 0))) : AV) = (.v (.bool true) : AV))) ∧ True) (by kernel_rfl) ⟨⟨trivial, (congrArg (fun z => AV.v (.bool z)) b13)⟩, trivial⟩ trivial ?_
          refine AX.cond_true (by kernel_rfl) ?_
          refine AX.seq ?_
          refine AX.reg (its := []) [4, 5] [] (s1 := ⟨[(4, .v (.slice none 0 0)), (5, .v (.bool false))], []⟩) (C := True) (by kernel_rfl) trivial trivial ?_
          refine AX.ret ?_
          refine fin_wk (Wk.mat 4 0 2 (by kernel_rfl) (Nat.le_of_ble_eq_true (by kernel_rfl)) (by kernel_rfl) rfl) ?_
          refine fin_wk (Wk.forget [4, 5] [0] (s' := ⟨[(4, .sl 0 0 (([] : List (ByteArray × Int)).length)), (5, .v (.bool false))], [(0, .arr 2 (List.map enc_si ([] : List (ByteArray × Int))))]⟩) (by kernel_rfl)) ?_
          have hr := Option.some.inj h
          subst hr
          exact ⟨_, Wk.refl _, .inr rfl, ⟨[0], by kernel_rfl, ⟨rfl, trivial⟩, [.sl 0 0 (([] : List (ByteArray × Int)).length), .v (.bool false)], by kernel_rfl, by kernel_rfl⟩⟩
        · replace h := cd_f b13 h
          obtain ⟨g14, h⟩ := gd_e h
          refine AX.drw mixed (its := [.auto {}, .auto { y := some (.v (.bool false)) }, .auto {}, .auto {}, .auto {}, .auto { y := some (.be 2 (enc_si (gt p1 x6)) 0) }]) [0, 3, 6, 67] [0] (s1 := ⟨[(0, .bs false 2 (List.map enc_si p1)), (3, .pt 0 0), (6, .v (.int .i64 x6)), (67, .v (.bool (!decide (((gt p1 x6).2) = p4))))], [(0, .box [.v (.int .i64 p2), .v (.string p3), .v (.int .i64 p4), .v (.int .i64 p5)])]⟩) (C := ((True) ∧ ((.v (.bool (decide (x6 < 0))) : AV) = (.v (.bool false) : AV))) ∧ ((0 ≤ x6 ∧ x6 < ((List.map enc_si p1).length : Int)) ∧ (AV.be 2 ((List.map enc_si p1).getD x6.toNat []) 0 = AV.be 2 (enc_si (gt p1 x6)) 0)) ∧ True) (by kernel_rfl) ⟨⟨trivial, (congrArg (fun z => AV.v (.bool z)) b13)⟩, ⟨idx_bs enc_si p1 x6 2 g14, trivial⟩⟩ trivial ?_
          rcases bool_cases ((!decide (((gt p1 x6).2) = p4))) with b15 | b15
          · replace h := cd_t b15 h
            refine AX.condT ((!decide (((gt p1 x6).2) = p4))) (by kernel_rfl) b15 ?_
            refine AX.seq ?_
            refine AX.reg (its := []) [4, 5] [] (s1 := ⟨[(4, .v (.slice none 0 0)), (5, .v (.bool false))], []⟩) (C := True) (by kernel_rfl) trivial trivial ?_
            refine AX.ret ?_
            refine fin_wk (Wk.mat 4 0 2 (by kernel_rfl) (Nat.le_of_ble_eq_true (by kernel_rfl)) (by kernel_rfl) rfl) ?_
            refine fin_wk (Wk.forget [4, 5] [0] (s' := ⟨[(4, .sl 0 0 (([] : List (ByteArray × Int)).length)), (5, .v (.bool false))], [(0, .arr 2 (List.map enc_si ([] : List (ByteArray × Int))))]⟩) (by kernel_rfl)) ?_
            have hr := Option.some.inj h
            subst hr
            exact ⟨_, Wk.refl _, .inr rfl, ⟨[0], by kernel_rfl, ⟨rfl, trivial⟩, [.sl 0 0 (([] : List (ByteArray × Int)).length), .v (.bool false)], by kernel_rfl, by kernel_rfl⟩⟩
          · replace h := cd_f b15 h
            refine AX.condF ((!decide (((gt p1 x6).2) = p4))) (by kernel_rfl) b15 ?_
            refine AX.skip ?_
            refine AX.seq ?_
            obtain ⟨x9, e16, h⟩ := bd_e h
            refine AX.reg (its := [.auto {}, .call 37 [.bs false 2 (List.map enc_si p1)] (handO (rho ([] ++ [1])) [] [] ++ []) (callEv [] [1] (.sl 0 0 ((([] : List (ByteArray × Int)) ++ p1).length)) [.arr 2 (List.map enc_si (([] : List (ByteArray × Int)) ++ p1))])]) [3, 6, 7] [0, 1] (s1 := ⟨[(3, .pt 0 0), (6, .v (.int .i64 x6)), (7, .sl 1 0 ((([] : List (ByteArray × Int)) ++ p1).length))], [(0, .box [.v (.int .i64 p2), .v (.string p3), .v (.int .i64 p4), .v (.int .i64 p5)]), (1, .arr 2 (List.map enc_si (([] : List (ByteArray × Int)) ++ p1)))]⟩) (C := ((([.bs false 2 (List.map enc_si p1)] : List AV) = [.bs false 2 (List.map enc_si p1)]) ∧ True) ∧ True) (by kernel_rfl) ⟨⟨rfl, trivial⟩, trivial⟩ ⟨call_ok (ks := []) (ns := [1]) (bor := []) (bobjs := []) (s_spec_copyDefs p1 x9 e16) (.cons (.c1 (.c0 (.same _ (by kernel_rfl) (by kernel_rfl)))) (.nil)) (by kernel_rfl) trivial, trivial⟩ ?_
            refine AX.seq ?_
            obtain ⟨g17, h⟩ := gd_e h
            refine AX.reg (its := [.auto {}, .auto {}, .auto {}, .auto {}, .auto {}, .auto {}, .auto { els := some ([enc_si ((gt (([] : List (ByteArray × Int)) ++ p1) x6).1, p5)]) }]) [7] [1] (s1 := ⟨[(7, .sl 1 0 ((([] : List (ByteArray × Int)) ++ p1).length))], [(1, .arr 2 ((List.map enc_si (([] : List (ByteArray × Int)) ++ p1)).set (0 + x6.toNat) (enc_si ((gt (([] : List (ByteArray × Int)) ++ p1) x6).1, p5))))]⟩) (C := (0 ≤ x6 ∧ x6 < ((([] : List (ByteArray × Int)) ++ p1).length : Int)) ∧ ((((List.map enc_si (([] : List (ByteArray × Int)) ++ p1)).getD (0 + x6.toNat) []).take 1 ++ [(.int .i64 p5)] ++ ((List.map enc_si (([] : List (ByteArray × Int)) ++ p1)).getD (0 + x6.toNat) []).drop 2 = enc_si ((gt (([] : List (ByteArray × Int)) ++ p1) x6).1, p5))) ∧ True) (by kernel_rfl) ⟨g17, ⟨(congrArg (fun z : List Value => z.take 1 ++ [(.int .i64 p5)] ++ z.drop 2) (idx_arr (enc := enc_si) rfl g17)), trivial⟩⟩ trivial ?_
            refine AX.seq ?_
            refine AX.reg (its := []) [4, 5] [1] (s1 := ⟨[(4, .sl 1 0 ((([] : List (ByteArray × Int)) ++ p1).length)), (5, .v (.bool true))], [(1, .arr 2 ((List.map enc_si (([] : List (ByteArray × Int)) ++ p1)).set (0 + x6.toNat) (enc_si ((gt (([] : List (ByteArray × Int)) ++ p1) x6).1, p5))))]⟩) (C := True) (by kernel_rfl) trivial trivial ?_
            refine AX.ret ?_
            refine fin_wk (Wk.swap 0 1 (Nat.le_of_ble_eq_true (by kernel_rfl)) (Nat.le_of_ble_eq_true (by kernel_rfl)) rfl) ?_
            refine fin_wk (Wk.forget [4, 5] [0] (s' := ⟨[(4, .sl 0 0 ((([] : List (ByteArray × Int)) ++ p1).length)), (5, .v (.bool true))], [(0, .arr 2 ((List.map enc_si (([] : List (ByteArray × Int)) ++ p1)).set (0 + x6.toNat) (enc_si ((gt (([] : List (ByteArray × Int)) ++ p1) x6).1, p5))))]⟩) (by kernel_rfl)) ?_
            refine fin_wk (Wk.of_eq (congrArg (fun z => (⟨[(4, .sl 0 0 ((([] : List (ByteArray × Int)) ++ p1).length)), (5, .v (.bool true))], [(0, .arr 2 (z))]⟩ : S)) (set_can (enc := enc_si) rfl (0 + x6.toNat) ((gt (([] : List (ByteArray × Int)) ++ p1) x6).1, p5)))) ?_
            refine fin_wk (Wk.of_eq (congrArg (fun z => (⟨[(4, .sl 0 0 z), (5, .v (.bool true))], [(0, .arr 2 (List.map enc_si ((([] : List (ByteArray × Int)) ++ p1).set (0 + x6.toNat) ((gt (([] : List (ByteArray × Int)) ++ p1) x6).1, p5))))]⟩ : S)) (set_len ((rfl : (([] : List (ByteArray × Int)) ++ p1).length = (([] : List (ByteArray × Int)) ++ p1).length)) (0 + x6.toNat) ((gt (([] : List (ByteArray × Int)) ++ p1) x6).1, p5)))) ?_
            have hr := Option.some.inj h
            subst hr
            exact ⟨_, Wk.refl _, .inr rfl, ⟨[0], by kernel_rfl, ⟨rfl, trivial⟩, [.sl 0 0 (((([] : List (ByteArray × Int)) ++ p1).set (0 + x6.toNat) ((gt (([] : List (ByteArray × Int)) ++ p1) x6).1, p5)).length), .v (.bool true)], by kernel_rfl, by kernel_rfl⟩⟩
      · replace h := cd_f b12 h
        refine AX.condF (decide (p2 = 2)) (by kernel_rfl) b12 ?_
        refine AX.skip ?_
        refine AX.seq ?_
        refine AX.reg (its := []) [4, 5] [] (s1 := ⟨[(4, .v (.slice none 0 0)), (5, .v (.bool false))], []⟩) (C := True) (by kernel_rfl) trivial trivial ?_
        refine AX.ret ?_
        refine fin_wk (Wk.mat 4 0 2 (by kernel_rfl) (Nat.le_of_ble_eq_true (by kernel_rfl)) (by kernel_rfl) rfl) ?_
        refine fin_wk (Wk.forget [4, 5] [0] (s' := ⟨[(4, .sl 0 0 (([] : List (ByteArray × Int)).length)), (5, .v (.bool false))], [(0, .arr 2 (List.map enc_si ([] : List (ByteArray × Int))))]⟩) (by kernel_rfl)) ?_
        have hr := Option.some.inj h
        subst hr
        exact ⟨_, Wk.refl _, .inr rfl, ⟨[0], by kernel_rfl, ⟨rfl, trivial⟩, [.sl 0 0 (([] : List (ByteArray × Int)).length), .v (.bool false)], by kernel_rfl, by kernel_rfl⟩⟩

theorem s_spec_ApplyChanges_L1 (p2 : List (Int × ByteArray × Int × Int)) (n : Nat) (g : (List (ByteArray × Int)) × Int) (out : Unit ⊕ List (ByteArray × Int)) (h : m_spec_ApplyChanges_L1 p2 n g.1 g.2 = some out) :
    AX Try.prog 49 0 (codeAt [1, 1, 1, 0, 1, 1] (bodyOf Try.f10)) ((fun g : (List (ByteArray × Int)) × Int => (⟨[(1, .bs false 4 (List.map enc_isii p2)), (4, .pt 0 0), (6, .sl 1 0 g.1.length), (7, .v (.int .i64 g.2))], [(0, .box [.v (.slice none 0 0)]), (1, .arr 2 (List.map enc_si g.1))]⟩ : S)) g) (fun ex s => (∃ o : Unit, out = Sum.inl o ∧ ex = .ret ∧ s = ⟨[(4, .pt 0 0), (5, .v (.bool false))], [(0, .box [.v (.slice none 0 0)])]⟩) ∨ (∃ o : List (ByteArray × Int), out = Sum.inr o ∧ ex = .exit 0 ∧ s = ⟨[(4, .pt 0 0), (6, .sl 1 0 o.length)], [(0, .box [.v (.slice none 0 0)]), (1, .arr 2 (List.map enc_si o))]⟩)) := by
  refine AX.wkpost ?_
  refine AX.loop (G := Nat × ((List (ByteArray × Int)) × Int)) (fun q => (fun g : (List (ByteArray × Int)) × Int => (⟨[(1, .bs false 4 (List.map enc_isii p2)), (4, .pt 0 0), (6, .sl 1 0 g.1.length), (7, .v (.int .i64 g.2))], [(0, .box [.v (.slice none 0 0)]), (1, .arr 2 (List.map enc_si g.1))]⟩ : S)) q.2) (fun q => m_spec_ApplyChanges_L1 p2 q.1 q.2.1 q.2.2 = some out) (fun q => q.1) (n, g) h (Wk.refl _) ?_
  clear h
  rintro ⟨fu, v5, v6⟩ h
  cases fu with
  | zero => cases h
  | succ fu =>
    rw [m_spec_ApplyChanges_L1] at h
    refine AX.seq ?_
    refine AX.seq ?_
    refine AX.reg (its := [.auto {}, .auto {}, .auto { y := some (.v (.int .i64 (p2.length : Int))) }]) [1, 4, 6, 7, 25] [0, 1] (s1 := ⟨[(1, .bs false 4 (List.map enc_isii p2)), (4, .pt 0 0), (6, .sl 1 0 v5.length), (7, .v (.int .i64 v6)), (25, .v (.bool (decide (v6 < (p2.length : Int)))))], [(0, .box [.v (.slice none 0 0)]), (1, .arr 2 (List.map enc_si v5))]⟩) (C := (True ∧ (AV.v (.int .i64 ((List.map enc_isii p2).length : Int)) = AV.v (.int .i64 (p2.length : Int)))) ∧ True) (by kernel_rfl) ⟨⟨trivial, len_map enc_isii p2⟩, trivial⟩ trivial ?_
    rcases bool_cases (decide (v6 < (p2.length : Int))) with b5 | b5
    · replace h := cd_t b5 h
      refine AX.condT (decide (v6 < (p2.length : Int))) (by kernel_rfl) b5 ?_
      refine AX.skip ?_
      refine AX.seq ?_
      refine AX.block ?_
      refine AX.seq ?_
      obtain ⟨g6, h⟩ := gd_e h
      obtain ⟨x7, e7, h⟩ := bd_e h
      refine AX.reg (its := [.auto {}, .auto {}, .auto {}, .auto { y := some (.be 4 (enc_isii (gt p2 v6)) 0) }, .auto {}, .call 38 [.sl 1 0 v5.length, .agg [.v (.int .i64 ((gt p2 v6).1)), .v (.string ((gt p2 v6).2.1)), .v (.int .i64 ((gt p2 v6).2.2.1)), .v (.int .i64 ((gt p2 v6).2.2.2))]] (handO (rho ([] ++ [2])) [] [] ++ [(1, .arr 2 (List.map enc_si v5))]) (callEv [] [2] (.tup [.sl 0 0 x7.1.length, .v (.bool x7.2)]) [.arr 2 (List.map enc_si x7.1)])]) [1, 4, 7, 8, 9] [0, 2] (s1 := ⟨[(1, .bs false 4 (List.map enc_isii p2)), (4, .pt 0 0), (7, .v (.int .i64 v6)), (8, .sl 2 0 x7.1.length), (9, .v (.bool x7.2))], [(0, .box [.v (.slice none 0 0)]), (2, .arr 2 (List.map enc_si x7.1))]⟩) (C := ((0 ≤ v6 ∧ v6 < ((List.map enc_isii p2).length : Int)) ∧ (AV.be 4 ((List.map enc_isii p2).getD v6.toNat []) 0 = AV.be 4 (enc_isii (gt p2 v6)) 0)) ∧ ((([.sl 1 0 v5.length, .agg [.v (.int .i64 ((gt p2 v6).1)), .v (.string ((gt p2 v6).2.1)), .v (.int .i64 ((gt p2 v6).2.2.1)), .v (.int .i64 ((gt p2 v6).2.2.2))]] : List AV) = [.sl 1 0 v5.length, .agg [.v (.int .i64 ((gt p2 v6).1)), .v (.string ((gt p2 v6).2.1)), .v (.int .i64 ((gt p2 v6).2.2.1)), .v (.int .i64 ((gt p2 v6).2.2.2))]]) ∧ (AO.arr 2 (List.map enc_si v5) = AO.arr 2 (List.map enc_si v5)) ∧ True) ∧ True) (by kernel_rfl) ⟨idx_bs enc_isii p2 v6 4 g6, ⟨⟨rfl, rfl, trivial⟩, trivial⟩⟩ ⟨call_ok (ks := []) (ns := [2]) (bor := [1]) (bobjs := [(1, .arr 2 (List.map enc_si v5))]) (s_spec_applied v5 ((gt p2 v6).1) ((gt p2 v6).2.1) ((gt p2 v6).2.2.1) ((gt p2 v6).2.2.2) x7 e7) (.cons (.c1 (.c0 (.arr rfl rfl ((rfl).trans (List.length_map ..).symm)))) (.cons (.c1 (.agg (.cons (.same _ (by kernel_rfl) (by kernel_rfl)) (.cons (.same _ (by kernel_rfl) (by kernel_rfl)) (.cons (.same _ (by kernel_rfl) (by kernel_rfl)) (.cons (.same _ (by kernel_rfl) (by kernel_rfl)) (.nil))))))) (.nil))) (by kernel_rfl) trivial, trivial⟩ ?_
      refine AX.seq ?_
      refine AX.seq ?_
      rcases bool_cases ((!x7.2)) with b8 | b8
      · replace h := cd_t b8 h
        refine AX.reg (its := [.auto {}, .auto { y := some (.v (.bool true)) }]) [1, 4, 7, 8, 44] [0, 2] (s1 := ⟨[(1, .bs false 4 (List.map enc_isii p2)), (4, .pt 0 0), (7, .v (.int .i64 v6)), (8, .sl 2 0 x7.1.length), (44, .v (.bool true))], [(0, .box [.v (.slice none 0 0)]), (2, .arr 2 (List.map enc_si x7.1))]⟩) (C := ((True) ∧ ((.v (.bool (!x7.2)) : AV) = (.v (.bool true) : AV))) ∧ True) (by kernel_rfl) ⟨⟨trivial, (congrArg (fun z => AV.v (.bool z)) b8)⟩, trivial⟩ trivial ?_
        refine AX.cond_true (by kernel_rfl) ?_
        refine AX.seq ?_
        refine AX.reg (its := []) [4, 5] [0] (s1 := ⟨[(4, .pt 0 0), (5, .v (.bool false))], [(0, .box [.v (.slice none 0 0)])]⟩) (C := True) (by kernel_rfl) trivial trivial ?_
        refine AX.ret ?_
        refine fin_wk (Wk.forget [4, 5] [0] (s' := ⟨[(4, .pt 0 0), (5, .v (.bool false))], [(0, .box [.v (.slice none 0 0)])]⟩) (by kernel_rfl)) ?_
        have hr := Option.some.inj h
        subst hr
        exact ⟨_, Wk.refl _, .inl ⟨(), rfl, rfl, rfl⟩⟩
      · replace h := cd_f b8 h
        obtain ⟨x8, e9, h⟩ := bd_e h
        refine AX.reg (its := [.auto {}, .auto { y := some (.v (.bool false)) }, .auto {}, .auto {}, .auto {}, .call 36 [.agg [.sl 2 0 x7.1.length]] (handO (rho ([] ++ [])) [] [] ++ [(2, .arr 2 (List.map enc_si x7.1))]) (callEv [] [] (.v (.bool x8)) [])]) [1, 4, 7, 8, 44] [0, 2] (s1 := ⟨[(1, .bs false 4 (List.map enc_isii p2)), (4, .pt 0 0), (7, .v (.int .i64 v6)), (8, .sl 2 0 x7.1.length), (44, .v (.bool (!x8)))], [(0, .box [.v (.slice none 0 0)]), (2, .arr 2 (List.map enc_si x7.1))]⟩) (C := ((True) ∧ ((.v (.bool (!x7.2)) : AV) = (.v (.bool false) : AV))) ∧ ((([.agg [.sl 2 0 x7.1.length]] : List AV) = [.agg [.sl 2 0 x7.1.length]]) ∧ (AO.arr 2 (List.map enc_si x7.1) = AO.arr 2 (List.map enc_si x7.1)) ∧ True) ∧ True) (by kernel_rfl) ⟨⟨trivial, (congrArg (fun z => AV.v (.bool z)) b8)⟩, ⟨⟨rfl, rfl, trivial⟩, trivial⟩⟩ ⟨call_ok (ks := []) (ns := []) (bor := [2]) (bobjs := [(2, .arr 2 (List.map enc_si x7.1))]) (s_spec_validEnum x7.1 x8 e9) (.cons (.c1 (.agg (.cons (.arr rfl rfl ((rfl).trans (List.length_map ..).symm)) (.nil)))) (.nil)) (by kernel_rfl) trivial, trivial⟩ ?_
        rcases bool_cases ((!x8)) with b10 | b10
        · replace h := cd_t b10 h
          refine AX.condT ((!x8)) (by kernel_rfl) b10 ?_
          refine AX.seq ?_
          refine AX.reg (its := []) [4, 5] [0] (s1 := ⟨[(4, .pt 0 0), (5, .v (.bool false))], [(0, .box [.v (.slice none 0 0)])]⟩) (C := True) (by kernel_rfl) trivial trivial ?_
          refine AX.ret ?_
          refine fin_wk (Wk.forget [4, 5] [0] (s' := ⟨[(4, .pt 0 0), (5, .v (.bool false))], [(0, .box [.v (.slice none 0 0)])]⟩) (by kernel_rfl)) ?_
          have hr := Option.some.inj h
          subst hr
          exact ⟨_, Wk.refl _, .inl ⟨(), rfl, rfl, rfl⟩⟩
        · replace h := cd_f b10 h
          refine AX.condF ((!x8)) (by kernel_rfl) b10 ?_
          refine AX.skip ?_
          refine AX.reg (its := []) [1, 4, 6, 7] [0, 2] (s1 := ⟨[(1, .bs false 4 (List.map enc_isii p2)), (4, .pt 0 0), (6, .sl 2 0 x7.1.length), (7, .v (.int .i64 v6))], [(0, .box [.v (.slice none 0 0)]), (2, .arr 2 (List.map enc_si x7.1))]⟩) (C := True) (by kernel_rfl) trivial trivial ?_
          refine AX.reg (its := [.auto {}, .auto { raw := true }]) [1, 4, 6, 7] [0, 2] (s1 := ⟨[(1, .bs false 4 (List.map enc_isii p2)), (4, .pt 0 0), (6, .sl 2 0 x7.1.length), (7, .v (.int .i64 (IntKind.wrap .i64 (v6 + 1))))], [(0, .box [.v (.slice none 0 0)]), (2, .arr 2 (List.map enc_si x7.1))]⟩) (C := True) (by kernel_rfl) trivial trivial ?_
          refine ⟨(fu, (x7.1, IntKind.wrap .i64 (v6 + 1))), h, Nat.lt_succ_self _, ?_⟩
          refine Wk.trans (Wk.swap 1 2 (Nat.le_of_ble_eq_true (by kernel_rfl)) (Nat.le_of_ble_eq_true (by kernel_rfl)) rfl) ?_
          refine Wk.trans (Wk.forget [1, 4, 6, 7] [0, 1] (s' := ⟨[(1, .bs false 4 (List.map enc_isii p2)), (4, .pt 0 0), (6, .sl 1 0 x7.1.length), (7, .v (.int .i64 (IntKind.wrap .i64 (v6 + 1))))], [(0, .box [.v (.slice none 0 0)]), (1, .arr 2 (List.map enc_si x7.1))]⟩) (by kernel_rfl)) ?_
          exact Wk.refl _
    · replace h := cd_f b5 h
      refine AX.condF (decide (v6 < (p2.length : Int))) (by kernel_rfl) b5 ?_
      refine AX.exit ?_
      refine fin_wk (Wk.forget [4, 6] [0, 1] (s' := ⟨[(4, .pt 0 0), (6, .sl 1 0 v5.length)], [(0, .box [.v (.slice none 0 0)]), (1, .arr 2 (List.map enc_si v5))]⟩) (by kernel_rfl)) ?_
      have hr := Option.some.inj h
      subst hr
      exact ⟨_, Wk.refl _, .inr ⟨v5, rfl, rfl, rfl⟩⟩

theorem s_spec_ApplyChanges (p1 : List (ByteArray × Int)) (p2 : List (Int × ByteArray × Int × Int)) (r : (List (ByteArray × Int)) × Bool) (h : m_spec_ApplyChanges p1 p2 = some r) :
    Eng.Spec Try.prog 10 [.agg [.bs false 2 (List.map enc_si p1)], .bs false 4 (List.map enc_isii p2)] [] (.tup [.agg [.sl 0 0 r.1.length], .v (.bool r.2)]) [.arr 2 (List.map enc_si r.1)] := by
  unfold m_spec_ApplyChanges at h
  refine Eng.Spec.body Try.func10 (by kernel_rfl) rfl (by kernel_rfl) ?_
  refine AX.wkpost ?_
  refine AX.seq ?_
  refine AX.reg (its := [.auto { nk := 0 }, .auto { nk := 1 }]) [1, 2, 4] [0, 1] (s1 := ⟨[(1, .bs false 4 (List.map enc_isii p2)), (2, .pt 0 0), (4, .pt 1 0)], [(0, .box [.bs false 2 (List.map enc_si p1)]), (1, .box [.v (.slice none 0 0)])]⟩) (C := True) (by kernel_rfl) trivial trivial ?_
  refine AX.seq ?_
  refine AX.seq ?_
  obtain ⟨x3, e1, h⟩ := bd_e h
  rcases bool_cases ((!x3)) with b2 | b2
  · replace h := cd_t b2 h
    refine AX.reg (its := [.auto {}, .call 36 [.agg [.bs false 2 (List.map enc_si p1)]] (handO (rho ([] ++ [])) [] [] ++ []) (callEv [] [] (.v (.bool x3)) []), .auto { y := some (.v (.bool true)) }]) [1, 2, 4, 17] [0, 1] (s1 := ⟨[(1, .bs false 4 (List.map enc_isii p2)), (2, .pt 0 0), (4, .pt 1 0), (17, .v (.bool true))], [(0, .box [.bs false 2 (List.map enc_si p1)]), (1, .box [.v (.slice none 0 0)])]⟩) (C := ((([.agg [.bs false 2 (List.map enc_si p1)]] : List AV) = [.agg [.bs false 2 (List.map enc_si p1)]]) ∧ True) ∧ ((True) ∧ ((.v (.bool (!x3)) : AV) = (.v (.bool true) : AV))) ∧ True) (by kernel_rfl) ⟨⟨rfl, trivial⟩, ⟨⟨trivial, (congrArg (fun z => AV.v (.bool z)) b2)⟩, trivial⟩⟩ ⟨call_ok (ks := []) (ns := []) (bor := []) (bobjs := []) (s_spec_validEnum p1 x3 e1) (.cons (.c1 (.agg (.cons (.same _ (by kernel_rfl) (by kernel_rfl)) (.nil)))) (.nil)) (by kernel_rfl) trivial, trivial⟩ ?_
    refine AX.cond_true (by kernel_rfl) ?_
    refine AX.seq ?_
    refine AX.reg (its := []) [4, 5] [1] (s1 := ⟨[(4, .pt 1 0), (5, .v (.bool false))], [(1, .box [.v (.slice none 0 0)])]⟩) (C := True) (by kernel_rfl) trivial trivial ?_
    refine AX.ret ?_
    refine fin_wk (Wk.matB 1 0 2 2 (cs := [.v (.slice none 0 0)]) (by kernel_rfl) (by kernel_rfl) (Nat.le_of_ble_eq_true (by kernel_rfl)) (by kernel_rfl) (by decide) rfl) ?_
    refine fin_wk (Wk.swap 0 1 (Nat.le_of_ble_eq_true (by kernel_rfl)) (Nat.le_of_ble_eq_true (by kernel_rfl)) rfl) ?_
    refine fin_wk (Wk.swap 1 2 (Nat.le_of_ble_eq_true (by kernel_rfl)) (Nat.le_of_ble_eq_true (by kernel_rfl)) rfl) ?_
    refine fin_wk (Wk.forget [4, 5] [0, 1] (s' := ⟨[(4, .pt 0 0), (5, .v (.bool false))], [(0, .box [.sl 1 0 (([] : List (ByteArray × Int)).length)]), (1, .arr 2 (List.map enc_si ([] : List (ByteArray × Int))))]⟩) (by kernel_rfl)) ?_
    have hr := Option.some.inj h
    subst hr
    exact ⟨_, Wk.refl _, .inr rfl, ⟨[1], by kernel_rfl, ⟨rfl, trivial⟩, [.agg [.sl 1 0 (([] : List (ByteArray × Int)).length)], .v (.bool false)], by kernel_rfl, by kernel_rfl⟩⟩
  · replace h := cd_f b2 h
    refine AX.reg (its := [.auto {}, .call 36 [.agg [.bs false 2 (List.map enc_si p1)]] (handO (rho ([] ++ [])) [] [] ++ []) (callEv [] [] (.v (.bool x3)) []), .auto { y := some (.v (.bool false)) }, .auto {}, .auto {}, .auto { y := some (.v (.int .i64 (p2.length : Int))) }]) [1, 2, 4, 17] [0, 1] (s1 := ⟨[(1, .bs false 4 (List.map enc_isii p2)), (2, .pt 0 0), (4, .pt 1 0), (17, .v (.bool (decide (30 < (p2.length : Int)))))], [(0, .box [.bs false 2 (List.map enc_si p1)]), (1, .box [.v (.slice none 0 0)])]⟩) (C := ((([.agg [.bs false 2 (List.map enc_si p1)]] : List AV) = [.agg [.bs false 2 (List.map enc_si p1)]]) ∧ True) ∧ ((True) ∧ ((.v (.bool (!x3)) : AV) = (.v (.bool false) : AV))) ∧ (True ∧ (AV.v (.int .i64 ((List.map enc_isii p2).length : Int)) = AV.v (.int .i64 (p2.length : Int)))) ∧ True) (by kernel_rfl) ⟨⟨rfl, trivial⟩, ⟨⟨trivial, (congrArg (fun z => AV.v (.bool z)) b2)⟩, ⟨⟨trivial, len_map enc_isii p2⟩, trivial⟩⟩⟩ ⟨call_ok (ks := []) (ns := []) (bor := []) (bobjs := []) (s_spec_validEnum p1 x3 e1) (.cons (.c1 (.agg (.cons (.same _ (by kernel_rfl) (by kernel_rfl)) (.nil)))) (.nil)) (by kernel_rfl) trivial, trivial⟩ ?_
    rcases bool_cases (decide (30 < (p2.length : Int))) with b3 | b3
    · replace h := cd_t b3 h
      refine AX.condT (decide (30 < (p2.length : Int))) (by kernel_rfl) b3 ?_
      refine AX.seq ?_
      refine AX.reg (its := []) [4, 5] [1] (s1 := ⟨[(4, .pt 1 0), (5, .v (.bool false))], [(1, .box [.v (.slice none 0 0)])]⟩) (C := True) (by kernel_rfl) trivial trivial ?_
      refine AX.ret ?_
      refine fin_wk (Wk.matB 1 0 2 2 (cs := [.v (.slice none 0 0)]) (by kernel_rfl) (by kernel_rfl) (Nat.le_of_ble_eq_true (by kernel_rfl)) (by kernel_rfl) (by decide) rfl) ?_
      refine fin_wk (Wk.swap 0 1 (Nat.le_of_ble_eq_true (by kernel_rfl)) (Nat.le_of_ble_eq_true (by kernel_rfl)) rfl) ?_
      refine fin_wk (Wk.swap 1 2 (Nat.le_of_ble_eq_true (by kernel_rfl)) (Nat.le_of_ble_eq_true (by kernel_rfl)) rfl) ?_
      refine fin_wk (Wk.forget [4, 5] [0, 1] (s' := ⟨[(4, .pt 0 0), (5, .v (.bool false))], [(0, .box [.sl 1 0 (([] : List (ByteArray × Int)).length)]), (1, .arr 2 (List.map enc_si ([] : List (ByteArray × Int))))]⟩) (by kernel_rfl)) ?_
      have hr := Option.some.inj h
      subst hr
      exact ⟨_, Wk.refl _, .inr rfl, ⟨[1], by kernel_rfl, ⟨rfl, trivial⟩, [.agg [.sl 1 0 (([] : List (ByteArray × Int)).length)], .v (.bool false)], by kernel_rfl, by kernel_rfl⟩⟩
    · replace h := cd_f b3 h
      refine AX.condF (decide (30 < (p2.length : Int))) (by kernel_rfl) b3 ?_
      refine AX.skip ?_
      refine AX.seq ?_
      obtain ⟨x4, e4, h⟩ := bd_e h
      refine AX.reg (its := [.auto {}, .auto {}, .call 37 [.bs false 2 (List.map enc_si p1)] (handO (rho ([] ++ [2])) [] [] ++ []) (callEv [] [2] (.sl 0 0 ((([] : List (ByteArray × Int)) ++ p1).length)) [.arr 2 (List.map enc_si (([] : List (ByteArray × Int)) ++ p1))])]) [1, 4, 6] [1, 2] (s1 := ⟨[(1, .bs false 4 (List.map enc_isii p2)), (4, .pt 1 0), (6, .sl 2 0 ((([] : List (ByteArray × Int)) ++ p1).length))], [(1, .box [.v (.slice none 0 0)]), (2, .arr 2 (List.map enc_si (([] : List (ByteArray × Int)) ++ p1)))]⟩) (C := ((([.bs false 2 (List.map enc_si p1)] : List AV) = [.bs false 2 (List.map enc_si p1)]) ∧ True) ∧ True) (by kernel_rfl) ⟨⟨rfl, trivial⟩, trivial⟩ ⟨call_ok (ks := []) (ns := [2]) (bor := []) (bobjs := []) (s_spec_copyDefs p1 x4 e4) (.cons (.c1 (.c0 (.same _ (by kernel_rfl) (by kernel_rfl)))) (.nil)) (by kernel_rfl) trivial, trivial⟩ ?_
      refine AX.seq ?_
      refine AX.seq ?_
      refine AX.reg (its := []) [1, 4, 6, 7] [1, 2] (s1 := ⟨[(1, .bs false 4 (List.map enc_isii p2)), (4, .pt 1 0), (6, .sl 2 0 ((([] : List (ByteArray × Int)) ++ p1).length)), (7, .v (.int .i64 0))], [(1, .box [.v (.slice none 0 0)]), (2, .arr 2 (List.map enc_si (([] : List (ByteArray × Int)) ++ p1)))]⟩) (C := True) (by kernel_rfl) trivial trivial ?_
      refine AX.block ?_
      obtain ⟨x9, e11, h⟩ := bd_e h
      refine AX.wk (Wk.swap 0 1 (Nat.le_of_ble_eq_true (by kernel_rfl)) (Nat.le_of_ble_eq_true (by kernel_rfl)) rfl) ?_
      refine AX.wk (Wk.swap 1 2 (Nat.le_of_ble_eq_true (by kernel_rfl)) (Nat.le_of_ble_eq_true (by kernel_rfl)) rfl) ?_
      refine AX.wk (Wk.forget [1, 4, 6, 7] [0, 1] (s' := ⟨[(1, .bs false 4 (List.map enc_isii p2)), (4, .pt 0 0), (6, .sl 1 0 ((([] : List (ByteArray × Int)) ++ p1).length)), (7, .v (.int .i64 0))], [(0, .box [.v (.slice none 0 0)]), (1, .arr 2 (List.map enc_si (([] : List (ByteArray × Int)) ++ p1)))]⟩) (by kernel_rfl)) ?_
      refine AX.mono (s_spec_ApplyChanges_L1 p2 FU (([] : List (ByteArray × Int)) ++ p1, 0) x9 e11) ?_
      rintro _ _ (⟨x10, rfl, rfl, rfl⟩ | ⟨x11, rfl, rfl, rfl⟩)
      · replace h := sm_l h
        refine fin_wk (Wk.matB 0 0 1 2 (cs := [.v (.slice none 0 0)]) (by kernel_rfl) (by kernel_rfl) (Nat.le_of_ble_eq_true (by kernel_rfl)) (by kernel_rfl) (by decide) rfl) ?_
        refine fin_wk (Wk.forget [4, 5] [0, 1] (s' := ⟨[(4, .pt 0 0), (5, .v (.bool false))], [(0, .box [.sl 1 0 (([] : List (ByteArray × Int)).length)]), (1, .arr 2 (List.map enc_si ([] : List (ByteArray × Int))))]⟩) (by kernel_rfl)) ?_
        have hr := Option.some.inj h
        subst hr
        exact ⟨_, Wk.refl _, .inr rfl, ⟨[1], by kernel_rfl, ⟨rfl, trivial⟩, [.agg [.sl 1 0 (([] : List (ByteArray × Int)).length)], .v (.bool false)], by kernel_rfl, by kernel_rfl⟩⟩
      · replace h := sm_r h
        refine AX.seq ?_
        refine AX.reg (its := []) [4, 5] [0, 1] (s1 := ⟨[(4, .pt 0 0), (5, .v (.bool true))], [(0, .box [.sl 1 0 x11.length]), (1, .arr 2 (List.map enc_si x11))]⟩) (C := True) (by kernel_rfl) trivial trivial ?_
        refine AX.ret ?_
        refine fin_wk (Wk.forget [4, 5] [0, 1] (s' := ⟨[(4, .pt 0 0), (5, .v (.bool true))], [(0, .box [.sl 1 0 x11.length]), (1, .arr 2 (List.map enc_si x11))]⟩) (by kernel_rfl)) ?_
        have hr := Option.some.inj h
        subst hr
        exact ⟨_, Wk.refl _, .inr rfl, ⟨[1], by kernel_rfl, ⟨rfl, trivial⟩, [.agg [.sl 1 0 x11.length], .v (.bool true)], by kernel_rfl, by kernel_rfl⟩⟩

theorem s_impl_in (p1 : Int) (p2 : Int) (p3 : Int) (r : Bool) (h : m_impl_in p1 p2 p3 = some r) :
    Eng.Spec Try.prog 77 [.v (.int .i64 p1), .v (.int .i64 p2), .v (.int .i64 p3)] [] (.v (.bool r)) [] := by
  unfold m_impl_in at h
  refine Eng.Spec.body Try.func77 (by kernel_rfl) rfl (by kernel_rfl) ?_
  refine AX.wkpost ?_
  refine AX.seq ?_
  refine AX.reg (its := []) [0, 1, 2] [] (s1 := ⟨[(0, .v (.int .i64 p1)), (1, .v (.int .i64 p2)), (2, .v (.int .i64 p3))], []⟩) (C := True) (by kernel_rfl) trivial trivial ?_
  refine AX.seq ?_
  rcases bool_cases (decide (p2 ≤ p1)) with b1 | b1
  · replace h := cd_t b1 h
    refine AX.reg (its := [.auto {}, .auto {}, .auto { y := some (.v (.bool true)) }]) [6] [] (s1 := ⟨[(6, .v (.bool (decide (p1 ≤ p3))))], []⟩) (C := ((True) ∧ ((.v (.bool (decide (p2 ≤ p1))) : AV) = (.v (.bool true) : AV))) ∧ True) (by kernel_rfl) ⟨⟨trivial, (congrArg (fun z => AV.v (.bool z)) b1)⟩, trivial⟩ trivial ?_
    refine AX.ret ?_
    refine fin_wk (Wk.forget [6] [] (s' := ⟨[(6, .v (.bool (decide (p1 ≤ p3))))], []⟩) (by kernel_rfl)) ?_
    have hr := Option.some.inj h
    subst hr
    exact ⟨_, Wk.refl _, .inr rfl, ⟨[], by kernel_rfl, trivial, [.v (.bool (decide (p1 ≤ p3)))], by kernel_rfl, by kernel_rfl⟩⟩
  · replace h := cd_f b1 h
    refine AX.reg (its := [.auto {}, .auto {}, .auto { y := some (.v (.bool false)) }]) [6] [] (s1 := ⟨[(6, .v (.bool false))], []⟩) (C := ((True) ∧ ((.v (.bool (decide (p2 ≤ p1))) : AV) = (.v (.bool false) : AV))) ∧ True) (by kernel_rfl) ⟨⟨trivial, (congrArg (fun z => AV.v (.bool z)) b1)⟩, trivial⟩ trivial ?_
    refine AX.ret ?_
    refine fin_wk (Wk.forget [6] [] (s' := ⟨[(6, .v (.bool false))], []⟩) (by kernel_rfl)) ?_
    have hr := Option.some.inj h
    subst hr
    exact ⟨_, Wk.refl _, .inr rfl, ⟨[], by kernel_rfl, trivial, [.v (.bool false)], by kernel_rfl, by kernel_rfl⟩⟩

theorem s_impl_ValidName_L1 (p1 : ByteArray) (n : Nat) (g : Int) (out : Unit ⊕ Unit) (h : m_impl_ValidName_L1 p1 n g = some out) :
    AX Try.prog 23 0 (codeAt [1, 0, 1, 1] (bodyOf Try.f76)) ((fun g : Int => (⟨[(0, .v (.string p1)), (3, .v (.int .i64 g))], []⟩ : S)) g) (fun ex s => (∃ o : Unit, out = Sum.inl o ∧ ex = .ret ∧ s = ⟨[(2, .v (.bool false))], []⟩) ∨ (∃ o : Unit, out = Sum.inr o ∧ ex = .exit 0 ∧ s = ⟨[(0, .v (.string p1))], []⟩)) := by
  refine AX.wkpost ?_
  refine AX.loop (G := Nat × (Int)) (fun q => (fun g : Int => (⟨[(0, .v (.string p1)), (3, .v (.int .i64 g))], []⟩ : S)) q.2) (fun q => m_impl_ValidName_L1 p1 q.1 q.2 = some out) (fun q => q.1) (n, g) h (Wk.refl _) ?_
  clear h
  rintro ⟨fu, v2⟩ h
  cases fu with
  | zero => cases h
  | succ fu =>
    rw [m_impl_ValidName_L1] at h
    refine AX.seq ?_
    refine AX.seq ?_
    refine AX.reg (its := []) [0, 3, 7] [] (s1 := ⟨[(0, .v (.string p1)), (3, .v (.int .i64 v2)), (7, .v (.bool (decide (v2 < (p1.size : Int)))))], []⟩) (C := True) (by kernel_rfl) trivial trivial ?_
    rcases bool_cases (decide (v2 < (p1.size : Int))) with b1 | b1
    · replace h := cd_t b1 h
      refine AX.condT (decide (v2 < (p1.size : Int))) (by kernel_rfl) b1 ?_
      refine AX.skip ?_
      refine AX.seq ?_
      refine AX.block ?_
      refine AX.seq ?_
      obtain ⟨g2, h⟩ := gd_e h
      rcases bool_cases (decide ((byteAt p1 v2.toNat) < 97)) with b3 | b3
      · replace h := cd_t b3 h
        refine AX.reg (its := [.auto {}, .auto {}, .auto {}, .auto { y := some (.v (.bool true)) }]) [0, 3, 19] [] (s1 := ⟨[(0, .v (.string p1)), (3, .v (.int .i64 v2)), (19, .v (.bool true))], []⟩) (C := (0 ≤ v2 ∧ v2 < (p1.size : Int)) ∧ ((True) ∧ ((.v (.bool (decide ((byteAt p1 v2.toNat) < 97))) : AV) = (.v (.bool true) : AV))) ∧ True) (by kernel_rfl) ⟨g2, ⟨⟨trivial, (congrArg (fun z => AV.v (.bool z)) b3)⟩, trivial⟩⟩ trivial ?_
        refine AX.cond_true (by kernel_rfl) ?_
        refine AX.seq ?_
        refine AX.reg (its := []) [2] [] (s1 := ⟨[(2, .v (.bool false))], []⟩) (C := True) (by kernel_rfl) trivial trivial ?_
        refine AX.ret ?_
        refine fin_wk (Wk.forget [2] [] (s' := ⟨[(2, .v (.bool false))], []⟩) (by kernel_rfl)) ?_
        have hr := Option.some.inj h
        subst hr
        exact ⟨_, Wk.refl _, .inl ⟨(), rfl, rfl, rfl⟩⟩
      · replace h := cd_f b3 h
        refine AX.reg (its := [.auto {}, .auto {}, .auto {}, .auto { y := some (.v (.bool false)) }]) [0, 3, 19] [] (s1 := ⟨[(0, .v (.string p1)), (3, .v (.int .i64 v2)), (19, .v (.bool (decide (122 < (byteAt p1 v2.toNat)))))], []⟩) (C := (0 ≤ v2 ∧ v2 < (p1.size : Int)) ∧ ((True) ∧ ((.v (.bool (decide ((byteAt p1 v2.toNat) < 97))) : AV) = (.v (.bool false) : AV))) ∧ (0 ≤ v2 ∧ v2 < (p1.size : Int)) ∧ True) (by kernel_rfl) ⟨g2, ⟨⟨trivial, (congrArg (fun z => AV.v (.bool z)) b3)⟩, ⟨g2, trivial⟩⟩⟩ trivial ?_
        rcases bool_cases (decide (122 < (byteAt p1 v2.toNat))) with b4 | b4
        · replace h := cd_t b4 h
          refine AX.condT (decide (122 < (byteAt p1 v2.toNat))) (by kernel_rfl) b4 ?_
          refine AX.seq ?_
          refine AX.reg (its := []) [2] [] (s1 := ⟨[(2, .v (.bool false))], []⟩) (C := True) (by kernel_rfl) trivial trivial ?_
          refine AX.ret ?_
          refine fin_wk (Wk.forget [2] [] (s' := ⟨[(2, .v (.bool false))], []⟩) (by kernel_rfl)) ?_
          have hr := Option.some.inj h
          subst hr
          exact ⟨_, Wk.refl _, .inl ⟨(), rfl, rfl, rfl⟩⟩
        · replace h := cd_f b4 h
          refine AX.condF (decide (122 < (byteAt p1 v2.toNat))) (by kernel_rfl) b4 ?_
          refine AX.skip ?_
          refine AX.reg (its := [.auto {}, .auto { raw := true }]) [0, 3] [] (s1 := ⟨[(0, .v (.string p1)), (3, .v (.int .i64 (IntKind.wrap .i64 (v2 + 1))))], []⟩) (C := True) (by kernel_rfl) trivial trivial ?_
          refine ⟨(fu, IntKind.wrap .i64 (v2 + 1)), h, Nat.lt_succ_self _, ?_⟩
          refine Wk.trans (Wk.forget [0, 3] [] (s' := ⟨[(0, .v (.string p1)), (3, .v (.int .i64 (IntKind.wrap .i64 (v2 + 1))))], []⟩) (by kernel_rfl)) ?_
          exact Wk.refl _
    · replace h := cd_f b1 h
      refine AX.condF (decide (v2 < (p1.size : Int))) (by kernel_rfl) b1 ?_
      refine AX.exit ?_
      refine fin_wk (Wk.forget [0] [] (s' := ⟨[(0, .v (.string p1))], []⟩) (by kernel_rfl)) ?_
      have hr := Option.some.inj h
      subst hr
      exact ⟨_, Wk.refl _, .inr ⟨(), rfl, rfl, rfl⟩⟩

theorem s_impl_ValidName (p1 : ByteArray) (r : Bool) (h : m_impl_ValidName p1 = some r) :
    Eng.Spec Try.prog 76 [.v (.string p1)] [] (.v (.bool r)) [] := by
  unfold m_impl_ValidName at h
  refine Eng.Spec.body Try.func76 (by kernel_rfl) rfl (by kernel_rfl) ?_
  refine AX.wkpost ?_
  refine AX.seq ?_
  refine AX.reg (its := []) [0] [] (s1 := ⟨[(0, .v (.string p1))], []⟩) (C := True) (by kernel_rfl) trivial trivial ?_
  refine AX.seq ?_
  refine AX.seq ?_
  refine AX.reg (its := []) [0, 3] [] (s1 := ⟨[(0, .v (.string p1)), (3, .v (.int .i64 0))], []⟩) (C := True) (by kernel_rfl) trivial trivial ?_
  refine AX.block ?_
  obtain ⟨x3, e5, h⟩ := bd_e h
  refine AX.wk (Wk.forget [0, 3] [] (s' := ⟨[(0, .v (.string p1)), (3, .v (.int .i64 0))], []⟩) (by kernel_rfl)) ?_
  refine AX.mono (s_impl_ValidName_L1 p1 FU 0 x3 e5) ?_
  rintro _ _ (⟨x4, rfl, rfl, rfl⟩ | ⟨x5, rfl, rfl, rfl⟩)
  · replace h := sm_l h
    refine fin_wk (Wk.forget [2] [] (s' := ⟨[(2, .v (.bool false))], []⟩) (by kernel_rfl)) ?_
    have hr := Option.some.inj h
    subst hr
    exact ⟨_, Wk.refl _, .inr rfl, ⟨[], by kernel_rfl, trivial, [.v (.bool false)], by kernel_rfl, by kernel_rfl⟩⟩
  · replace h := sm_r h
    refine AX.seq ?_
    obtain ⟨x6, e6, h⟩ := bd_e h
    refine AX.reg (its := [.auto {}, .auto {}, .call 77 [.v (.int .i64 (p1.size : Int)), .v (.int .i64 1), .v (.int .i64 6)] (handO (rho ([] ++ [])) [] [] ++ []) (callEv [] [] (.v (.bool x6)) [])]) [2] [] (s1 := ⟨[(2, .v (.bool x6))], []⟩) (C := ((([.v (.int .i64 (p1.size : Int)), .v (.int .i64 1), .v (.int .i64 6)] : List AV) = [.v (.int .i64 (p1.size : Int)), .v (.int .i64 1), .v (.int .i64 6)]) ∧ True) ∧ True) (by kernel_rfl) ⟨⟨rfl, trivial⟩, trivial⟩ ⟨call_ok (ks := []) (ns := []) (bor := []) (bobjs := []) (s_impl_in (p1.size : Int) 1 6 x6 e6) (.cons (.c1 (.c0 (.same _ (by kernel_rfl) (by kernel_rfl)))) (.cons (.c1 (.c0 (.same _ (by kernel_rfl) (by kernel_rfl)))) (.cons (.c1 (.c0 (.same _ (by kernel_rfl) (by kernel_rfl)))) (.nil)))) (by kernel_rfl) trivial, trivial⟩ ?_
    refine AX.ret ?_
    refine fin_wk (Wk.forget [2] [] (s' := ⟨[(2, .v (.bool x6))], []⟩) (by kernel_rfl)) ?_
    have hr := Option.some.inj h
    subst hr
    exact ⟨_, Wk.refl _, .inr rfl, ⟨[], by kernel_rfl, trivial, [.v (.bool x6)], by kernel_rfl, by kernel_rfl⟩⟩

theorem s_impl_named_1_l (p1 : ByteArray) (p2 : Int) (p3 : ByteArray) (r : Unit) (h : m_impl_named_1_l p1 p2 p3 = some r) :
    Eng.Spec Try.prog 88 [.agg [.v (.string p1), .v (.int .i64 p2)], .bp [.v (.string p3)] 0] [] (.v (.bool (decide (p1 = p3)))) [] := by
  unfold m_impl_named_1_l at h
  refine Eng.Spec.body Try.func88 (by kernel_rfl) rfl (by kernel_rfl) ?_
  refine AX.wkpost ?_
  refine AX.seq ?_
  refine AX.reg (its := [.auto { nk := 0 }]) [1, 2] [0] (s1 := ⟨[(1, .bp [.v (.string p3)] 0), (2, .pt 0 0)], [(0, .box [.v (.string p1), .v (.int .i64 p2)])]⟩) (C := True) (by kernel_rfl) trivial trivial ?_
  refine AX.seq ?_
  refine AX.reg (its := []) [3] [] (s1 := ⟨[(3, .v (.bool (decide (p1 = p3))))], []⟩) (C := True) (by kernel_rfl) trivial trivial ?_
  refine AX.ret ?_
  refine fin_wk (Wk.forget [3] [] (s' := ⟨[(3, .v (.bool (decide (p1 = p3))))], []⟩) (by kernel_rfl)) ?_
  have hr := Option.some.inj h
  subst hr
  exact ⟨_, Wk.refl _, .inr rfl, ⟨[], by kernel_rfl, trivial, [.v (.bool (decide (p1 = p3)))], by kernel_rfl, by kernel_rfl⟩⟩

theorem s_slices_IndexFunc_si_named_1_l_L1 (p1 : List (ByteArray × Int)) (p2 : ByteArray) (n : Nat) (g : Int) (out : Int ⊕ Unit) (h : m_slices_IndexFunc_si_named_1_l_L1 p1 p2 n g = some out) :
    AX Try.prog 19 0 (codeAt [1, 0, 1, 1] (bodyOf Try.f87)) ((fun g : Int => (⟨[(0, .bs false 2 (List.map enc_si p1)), (1, .fn 88 [.bp [.v (.string p2)] 0]), (7, .v (.int .i64 (p1.length : Int))), (8, .v (.int .i64 g))], []⟩ : S)) g) (fun ex s => (∃ o : Int, out = Sum.inl o ∧ ex = .ret ∧ s = ⟨[(4, .v (.int .i64 o))], []⟩) ∨ (∃ o : Unit, out = Sum.inr o ∧ ex = .exit 0 ∧ s = ⟨[], []⟩)) := by
  refine AX.wkpost ?_
  refine AX.loop (G := Nat × (Int)) (fun q => (fun g : Int => (⟨[(0, .bs false 2 (List.map enc_si p1)), (1, .fn 88 [.bp [.v (.string p2)] 0]), (7, .v (.int .i64 (p1.length : Int))), (8, .v (.int .i64 g))], []⟩ : S)) q.2) (fun q => m_slices_IndexFunc_si_named_1_l_L1 p1 p2 q.1 q.2 = some out) (fun q => q.1) (n, g) h (Wk.refl _) ?_
  clear h
  rintro ⟨fu, v3⟩ h
  cases fu with
  | zero => cases h
  | succ fu =>
    rw [m_slices_IndexFunc_si_named_1_l_L1] at h
    refine AX.seq ?_
    refine AX.reg (its := []) [0, 1, 7, 8, 9] [] (s1 := ⟨[(0, .bs false 2 (List.map enc_si p1)), (1, .fn 88 [.bp [.v (.string p2)] 0]), (7, .v (.int .i64 (p1.length : Int))), (8, .v (.int .i64 v3)), (9, .v (.bool (decide (v3 < (p1.length : Int)))))], []⟩) (C := True) (by kernel_rfl) trivial trivial ?_
    refine AX.seq ?_
    rcases bool_cases (decide (v3 < (p1.length : Int))) with b1 | b1
    · replace h := cd_t b1 h
      refine AX.condT (decide (v3 < (p1.length : Int))) (by kernel_rfl) b1 ?_
      refine AX.skip ?_
      refine AX.seq ?_
      refine AX.block ?_
      refine AX.seq ?_
      refine AX.reg (its := []) [0, 1, 5, 7, 8] [] (s1 := ⟨[(0, .bs false 2 (List.map enc_si p1)), (1, .fn 88 [.bp [.v (.string p2)] 0]), (5, .v (.int .i64 v3)), (7, .v (.int .i64 (p1.length : Int))), (8, .v (.int .i64 v3))], []⟩) (C := True) (by kernel_rfl) trivial trivial ?_
      refine AX.seq ?_
      obtain ⟨g2, h⟩ := gd_e h
      obtain ⟨x4, e3, h⟩ := bd_e h
      refine AX.reg (its := [.auto {}, .auto {}, .auto {}, .auto { y := some (.be 2 (enc_si (gt p1 v3)) 0) }, .auto {}, .call 88 [.agg [.v (.string ((gt p1 v3).1)), .v (.int .i64 ((gt p1 v3).2))], .bp [.v (.string p2)] 0] (handO (rho ([] ++ [])) [] [] ++ []) (callEv [] [] (.v (.bool (decide (((gt p1 v3).1) = p2)))) [])]) [0, 1, 5, 7, 8, 16] [] (s1 := ⟨[(0, .bs false 2 (List.map enc_si p1)), (1, .fn 88 [.bp [.v (.string p2)] 0]), (5, .v (.int .i64 v3)), (7, .v (.int .i64 (p1.length : Int))), (8, .v (.int .i64 v3)), (16, .v (.bool (decide (((gt p1 v3).1) = p2))))], []⟩) (C := ((0 ≤ v3 ∧ v3 < ((List.map enc_si p1).length : Int)) ∧ (AV.be 2 ((List.map enc_si p1).getD v3.toNat []) 0 = AV.be 2 (enc_si (gt p1 v3)) 0)) ∧ ((([.agg [.v (.string ((gt p1 v3).1)), .v (.int .i64 ((gt p1 v3).2))], .bp [.v (.string p2)] 0] : List AV) = [.agg [.v (.string ((gt p1 v3).1)), .v (.int .i64 ((gt p1 v3).2))], .bp [.v (.string p2)] 0]) ∧ True) ∧ True) (by kernel_rfl) ⟨idx_bs enc_si p1 v3 2 g2, ⟨⟨rfl, trivial⟩, trivial⟩⟩ ⟨call_ok (ks := []) (ns := []) (bor := []) (bobjs := []) (s_impl_named_1_l ((gt p1 v3).1) ((gt p1 v3).2) p2 x4 e3) (.cons (.c1 (.agg (.cons (.same _ (by kernel_rfl) (by kernel_rfl)) (.cons (.same _ (by kernel_rfl) (by kernel_rfl)) (.nil))))) (.cons (.c1 (.bp (.cons (.same _ (by kernel_rfl) (by kernel_rfl)) (.nil)))) (.nil))) (by kernel_rfl) trivial, trivial⟩ ?_
      rcases bool_cases (decide (((gt p1 v3).1) = p2)) with b4 | b4
      · replace h := cd_t b4 h
        refine AX.condT (decide (((gt p1 v3).1) = p2)) (by kernel_rfl) b4 ?_
        refine AX.seq ?_
        refine AX.reg (its := []) [4] [] (s1 := ⟨[(4, .v (.int .i64 v3))], []⟩) (C := True) (by kernel_rfl) trivial trivial ?_
        refine AX.ret ?_
        refine fin_wk (Wk.forget [4] [] (s' := ⟨[(4, .v (.int .i64 v3))], []⟩) (by kernel_rfl)) ?_
        have hr := Option.some.inj h
        subst hr
        exact ⟨_, Wk.refl _, .inl ⟨v3, rfl, rfl, rfl⟩⟩
      · replace h := cd_f b4 h
        refine AX.condF (decide (((gt p1 v3).1) = p2)) (by kernel_rfl) b4 ?_
        refine AX.skip ?_
        refine AX.reg (its := [.auto { raw := true }]) [0, 1, 7, 8] [] (s1 := ⟨[(0, .bs false 2 (List.map enc_si p1)), (1, .fn 88 [.bp [.v (.string p2)] 0]), (7, .v (.int .i64 (p1.length : Int))), (8, .v (.int .i64 (IntKind.wrap .i64 (v3 + 1))))], []⟩) (C := True) (by kernel_rfl) trivial trivial ?_
        refine ⟨(fu, IntKind.wrap .i64 (v3 + 1)), h, Nat.lt_succ_self _, ?_⟩
        refine Wk.trans (Wk.forget [0, 1, 7, 8] [] (s' := ⟨[(0, .bs false 2 (List.map enc_si p1)), (1, .fn 88 [.bp [.v (.string p2)] 0]), (7, .v (.int .i64 (p1.length : Int))), (8, .v (.int .i64 (IntKind.wrap .i64 (v3 + 1))))], []⟩) (by kernel_rfl)) ?_
        exact Wk.refl _
    · replace h := cd_f b1 h
      refine AX.condF (decide (v3 < (p1.length : Int))) (by kernel_rfl) b1 ?_
      refine AX.exit ?_
      refine fin_wk (Wk.forget [] [] (s' := ⟨[], []⟩) (by kernel_rfl)) ?_
      have hr := Option.some.inj h
      subst hr
      exact ⟨_, Wk.refl _, .inr ⟨(), rfl, rfl, rfl⟩⟩

theorem s_slices_IndexFunc_si_named_1_l (p1 : List (ByteArray × Int)) (p2 : ByteArray) (r : Int) (h : m_slices_IndexFunc_si_named_1_l p1 p2 = some r) :
    Eng.Spec Try.prog 87 [.bs false 2 (List.map enc_si p1), .fn 88 [.bp [.v (.string p2)] 0]] [] (.v (.int .i64 r)) [] := by
  unfold m_slices_IndexFunc_si_named_1_l at h
  refine Eng.Spec.body Try.func87 (by kernel_rfl) rfl (by kernel_rfl) ?_
  refine AX.wkpost ?_
  refine AX.seq ?_
  refine AX.reg (its := []) [0, 1] [] (s1 := ⟨[(0, .bs false 2 (List.map enc_si p1)), (1, .fn 88 [.bp [.v (.string p2)] 0])], []⟩) (C := True) (by kernel_rfl) trivial trivial ?_
  refine AX.seq ?_
  refine AX.seq ?_
  refine AX.reg (its := [.auto {}, .auto { y := some (.v (.int .i64 (p1.length : Int))) }]) [0, 1, 7, 8] [] (s1 := ⟨[(0, .bs false 2 (List.map enc_si p1)), (1, .fn 88 [.bp [.v (.string p2)] 0]), (7, .v (.int .i64 (p1.length : Int))), (8, .v (.int .i64 0))], []⟩) (C := (True ∧ (AV.v (.int .i64 ((List.map enc_si p1).length : Int)) = AV.v (.int .i64 (p1.length : Int)))) ∧ True) (by kernel_rfl) ⟨⟨trivial, len_map enc_si p1⟩, trivial⟩ trivial ?_
  refine AX.block ?_
  obtain ⟨x5, e5, h⟩ := bd_e h
  refine AX.wk (Wk.forget [0, 1, 7, 8] [] (s' := ⟨[(0, .bs false 2 (List.map enc_si p1)), (1, .fn 88 [.bp [.v (.string p2)] 0]), (7, .v (.int .i64 (p1.length : Int))), (8, .v (.int .i64 0))], []⟩) (by kernel_rfl)) ?_
  refine AX.mono (s_slices_IndexFunc_si_named_1_l_L1 p1 p2 FU 0 x5 e5) ?_
  rintro _ _ (⟨x6, rfl, rfl, rfl⟩ | ⟨x7, rfl, rfl, rfl⟩)
  · replace h := sm_l h
    refine fin_wk (Wk.forget [4] [] (s' := ⟨[(4, .v (.int .i64 x6))], []⟩) (by kernel_rfl)) ?_
    have hr := Option.some.inj h
    subst hr
    exact ⟨_, Wk.refl _, .inr rfl, ⟨[], by kernel_rfl, trivial, [.v (.int .i64 x6)], by kernel_rfl, by kernel_rfl⟩⟩
  · replace h := sm_r h
    refine AX.seq ?_
    refine AX.reg (its := []) [4] [] (s1 := ⟨[(4, .v (.int .i64 (-1)))], []⟩) (C := True) (by kernel_rfl) trivial trivial ?_
    refine AX.ret ?_
    refine fin_wk (Wk.forget [4] [] (s' := ⟨[(4, .v (.int .i64 (-1)))], []⟩) (by kernel_rfl)) ?_
    have hr := Option.some.inj h
    subst hr
    exact ⟨_, Wk.refl _, .inr rfl, ⟨[], by kernel_rfl, trivial, [.v (.int .i64 (-1))], by kernel_rfl, by kernel_rfl⟩⟩

end Go.Eng
