/- What is proved here: each function keeps to its model, whatever its arguments, wherever the model has an answer. Printed by gen.py. -/
import Derived.Test.YtehcdfddbnhniaaCExactGreatestArmsModels
import Derived.Test.YtehcdfddbnhniaaProg
import Derived.KernelRfl
set_option linter.unusedVariables false
namespace Go.Eng
open Go Go.Proofs

theorem mixed : Try.prog.follows .mixedOrders = true := by kernel_rfl

theorem s_laws_szDef (p1 : ByteArray) (p2 : Int) (p3 : Int) (r : Int) (h : m_laws_szDef p1 p2 p3 = some r) :
    Eng.Spec Try.prog 149 [.agg [.v (.string p1), .v (.int .i64 p2)], .v (.int .i64 p3)] [] (.v (.int .i64 r)) [] := by
  unfold m_laws_szDef at h
  refine Eng.Spec.body Try.func149 (by kernel_rfl) rfl (by kernel_rfl) ?_
  refine AX.wkpost ?_
  refine AX.seq ?_
  refine AX.reg (its := [.auto { nk := 0 }]) [1, 2] [0] (s1 := ⟨[(1, .v (.int .i64 p3)), (2, .pt 0 0)], [(0, .box [.v (.string p1), .v (.int .i64 p2)])]⟩) (C := True) (by kernel_rfl) trivial trivial ?_
  refine AX.seq ?_
  refine AX.reg (its := [.auto {}, .auto {}, .auto {}, .auto {}, .auto { raw := true }]) [1] [] (s1 := ⟨[(1, .v (.int .i64 (IntKind.wrap .i64 (p3 - (p1.size : Int)))))], []⟩) (C := True) (by kernel_rfl) trivial trivial ?_
  refine AX.seq ?_
  refine AX.seq ?_
  refine AX.reg (its := []) [1, 11] [] (s1 := ⟨[(1, .v (.int .i64 (IntKind.wrap .i64 (p3 - (p1.size : Int))))), (11, .v (.bool (decide ((IntKind.wrap .i64 (p3 - (p1.size : Int))) < 0))))], []⟩) (C := True) (by kernel_rfl) trivial trivial ?_
  rcases bool_cases (decide ((IntKind.wrap .i64 (p3 - (p1.size : Int))) < 0)) with b1 | b1
  · replace h := cd_t b1 h
    refine AX.condT (decide ((IntKind.wrap .i64 (p3 - (p1.size : Int))) < 0)) (by kernel_rfl) b1 ?_
    refine AX.seq ?_
    refine AX.reg (its := []) [4] [] (s1 := ⟨[(4, .v (.int .i64 (-1)))], []⟩) (C := True) (by kernel_rfl) trivial trivial ?_
    refine AX.ret ?_
    refine fin_wk (Wk.forget [4] [] (s' := ⟨[(4, .v (.int .i64 (-1)))], []⟩) (by kernel_rfl)) ?_
    have hr := Option.some.inj h
    subst hr
    exact ⟨_, Wk.refl _, .inr rfl, ⟨[], by kernel_rfl, trivial, [.v (.int .i64 (-1))], by kernel_rfl, by kernel_rfl⟩⟩
  · replace h := cd_f b1 h
    refine AX.condF (decide ((IntKind.wrap .i64 (p3 - (p1.size : Int))) < 0)) (by kernel_rfl) b1 ?_
    refine AX.skip ?_
    refine AX.seq ?_
    refine AX.reg (its := []) [4] [] (s1 := ⟨[(4, .v (.int .i64 (IntKind.wrap .i64 (p3 - (p1.size : Int)))))], []⟩) (C := True) (by kernel_rfl) trivial trivial ?_
    refine AX.ret ?_
    refine fin_wk (Wk.forget [4] [] (s' := ⟨[(4, .v (.int .i64 (IntKind.wrap .i64 (p3 - (p1.size : Int)))))], []⟩) (by kernel_rfl)) ?_
    have hr := Option.some.inj h
    subst hr
    exact ⟨_, Wk.refl _, .inr rfl, ⟨[], by kernel_rfl, trivial, [.v (.int .i64 (IntKind.wrap .i64 (p3 - (p1.size : Int))))], by kernel_rfl, by kernel_rfl⟩⟩

theorem s_laws_szDefS_L1 (p1 : List (ByteArray × Int)) (n : Nat) (g : Int × Int) (out : Unit ⊕ Int) (h : m_laws_szDefS_L1 p1 n g.1 g.2 = some out) :
    AX Try.prog 27 0 (codeAt [1, 1, 1, 0, 1, 1] (bodyOf Try.f99)) ((fun g : Int × Int => (⟨[(0, .bs true 2 (List.map enc_si p1)), (1, .v (.int .i64 g.1)), (5, .v (.int .i64 g.2))], []⟩ : S)) g) (fun ex s => (∃ o : Unit, out = Sum.inl o ∧ ex = .ret ∧ s = ⟨[(4, .v (.int .i64 (-1)))], []⟩) ∨ (∃ o : Int, out = Sum.inr o ∧ ex = .exit 0 ∧ s = ⟨[(1, .v (.int .i64 o))], []⟩)) := by
  refine AX.wkpost ?_
  refine AX.loop (G := Nat × (Int × Int)) (fun q => (fun g : Int × Int => (⟨[(0, .bs true 2 (List.map enc_si p1)), (1, .v (.int .i64 g.1)), (5, .v (.int .i64 g.2))], []⟩ : S)) q.2) (fun q => m_laws_szDefS_L1 p1 q.1 q.2.1 q.2.2 = some out) (fun q => q.1) (n, g) h (Wk.refl _) ?_
  clear h
  rintro ⟨fu, v3, v4⟩ h
  cases fu with
  | zero => cases h
  | succ fu =>
    rw [m_laws_szDefS_L1] at h
    refine AX.seq ?_
    refine AX.seq ?_
    refine AX.reg (its := [.auto {}, .auto {}, .auto { y := some (.v (.int .i64 (p1.length : Int))) }]) [0, 1, 5, 15] [] (s1 := ⟨[(0, .bs true 2 (List.map enc_si p1)), (1, .v (.int .i64 v3)), (5, .v (.int .i64 v4)), (15, .v (.bool (decide (v4 < (p1.length : Int)))))], []⟩) (C := (True ∧ (AV.v (.int .i64 ((List.map enc_si p1).length : Int)) = AV.v (.int .i64 (p1.length : Int)))) ∧ True) (by kernel_rfl) ⟨⟨trivial, len_map enc_si p1⟩, trivial⟩ trivial ?_
    rcases bool_cases (decide (v4 < (p1.length : Int))) with b2 | b2
    · replace h := cd_t b2 h
      refine AX.condT (decide (v4 < (p1.length : Int))) (by kernel_rfl) b2 ?_
      refine AX.skip ?_
      refine AX.seq ?_
      refine AX.block ?_
      refine AX.seq ?_
      obtain ⟨g3, h⟩ := gd_e h
      obtain ⟨x5, e4, h⟩ := bd_e h
      refine AX.reg (its := [.auto {}, .auto {}, .auto { y := some (.be 2 (enc_si (gt p1 v4)) 0) }, .auto {}, .auto {}, .call 149 [.agg [.v (.string ((gt p1 v4).1)), .v (.int .i64 ((gt p1 v4).2))], .v (.int .i64 v3)] (handO (rho ([] ++ [])) [] [] ++ []) (callEv [] [] (.v (.int .i64 x5)) [])]) [0, 1, 5] [] (s1 := ⟨[(0, .bs true 2 (List.map enc_si p1)), (1, .v (.int .i64 x5)), (5, .v (.int .i64 v4))], []⟩) (C := ((0 ≤ v4 ∧ v4 < ((List.map enc_si p1).length : Int)) ∧ (AV.be 2 ((List.map enc_si p1).getD v4.toNat []) 0 = AV.be 2 (enc_si (gt p1 v4)) 0)) ∧ ((([.agg [.v (.string ((gt p1 v4).1)), .v (.int .i64 ((gt p1 v4).2))], .v (.int .i64 v3)] : List AV) = [.agg [.v (.string ((gt p1 v4).1)), .v (.int .i64 ((gt p1 v4).2))], .v (.int .i64 v3)]) ∧ True) ∧ True) (by kernel_rfl) ⟨idx_bs enc_si p1 v4 2 g3, ⟨⟨rfl, trivial⟩, trivial⟩⟩ ⟨call_ok (ks := []) (ns := []) (bor := []) (bobjs := []) (s_laws_szDef ((gt p1 v4).1) ((gt p1 v4).2) v3 x5 e4) (.cons (.c1 (.agg (.cons (.same _ (by kernel_rfl) (by kernel_rfl)) (.cons (.same _ (by kernel_rfl) (by kernel_rfl)) (.nil))))) (.cons (.c1 (.c0 (.same _ (by kernel_rfl) (by kernel_rfl)))) (.nil))) (by kernel_rfl) trivial, trivial⟩ ?_
      refine AX.seq ?_
      refine AX.reg (its := []) [0, 1, 5, 25] [] (s1 := ⟨[(0, .bs true 2 (List.map enc_si p1)), (1, .v (.int .i64 x5)), (5, .v (.int .i64 v4)), (25, .v (.bool (decide (x5 < 0))))], []⟩) (C := True) (by kernel_rfl) trivial trivial ?_
      rcases bool_cases (decide (x5 < 0)) with b5 | b5
      · replace h := cd_t b5 h
        refine AX.condT (decide (x5 < 0)) (by kernel_rfl) b5 ?_
        refine AX.seq ?_
        refine AX.reg (its := []) [4] [] (s1 := ⟨[(4, .v (.int .i64 (-1)))], []⟩) (C := True) (by kernel_rfl) trivial trivial ?_
        refine AX.ret ?_
        refine fin_wk (Wk.forget [4] [] (s' := ⟨[(4, .v (.int .i64 (-1)))], []⟩) (by kernel_rfl)) ?_
        have hr := Option.some.inj h
        subst hr
        exact ⟨_, Wk.refl _, .inl ⟨(), rfl, rfl, rfl⟩⟩
      · replace h := cd_f b5 h
        refine AX.condF (decide (x5 < 0)) (by kernel_rfl) b5 ?_
        refine AX.skip ?_
        refine AX.reg (its := [.auto {}, .auto { raw := true }]) [0, 1, 5] [] (s1 := ⟨[(0, .bs true 2 (List.map enc_si p1)), (1, .v (.int .i64 x5)), (5, .v (.int .i64 (IntKind.wrap .i64 (v4 + 1))))], []⟩) (C := True) (by kernel_rfl) trivial trivial ?_
        refine ⟨(fu, (x5, IntKind.wrap .i64 (v4 + 1))), h, Nat.lt_succ_self _, ?_⟩
        refine Wk.trans (Wk.forget [0, 1, 5] [] (s' := ⟨[(0, .bs true 2 (List.map enc_si p1)), (1, .v (.int .i64 x5)), (5, .v (.int .i64 (IntKind.wrap .i64 (v4 + 1))))], []⟩) (by kernel_rfl)) ?_
        exact Wk.refl _
    · replace h := cd_f b2 h
      refine AX.condF (decide (v4 < (p1.length : Int))) (by kernel_rfl) b2 ?_
      refine AX.exit ?_
      refine fin_wk (Wk.forget [1] [] (s' := ⟨[(1, .v (.int .i64 v3))], []⟩) (by kernel_rfl)) ?_
      have hr := Option.some.inj h
      subst hr
      exact ⟨_, Wk.refl _, .inr ⟨v3, rfl, rfl, rfl⟩⟩

theorem s_laws_szDefS (p1 : List (ByteArray × Int)) (p2 : Int) (r : Int) (h : m_laws_szDefS p1 p2 = some r) :
    Eng.Spec Try.prog 99 [.bs true 2 (List.map enc_si p1), .v (.int .i64 p2)] [] (.v (.int .i64 r)) [] := by
  unfold m_laws_szDefS at h
  refine Eng.Spec.body Try.func99 (by kernel_rfl) rfl (by kernel_rfl) ?_
  refine AX.wkpost ?_
  refine AX.seq ?_
  refine AX.reg (its := []) [0, 1] [] (s1 := ⟨[(0, .bs true 2 (List.map enc_si p1)), (1, .v (.int .i64 p2))], []⟩) (C := True) (by kernel_rfl) trivial trivial ?_
  refine AX.seq ?_
  refine AX.reg (its := [.auto {}, .auto {}, .auto { y := some (.v (.int .i64 (p1.length : Int))) }, .auto { raw := true }]) [0, 1] [] (s1 := ⟨[(0, .bs true 2 (List.map enc_si p1)), (1, .v (.int .i64 (IntKind.wrap .i64 (p2 - (p1.length : Int)))))], []⟩) (C := (True ∧ (AV.v (.int .i64 ((List.map enc_si p1).length : Int)) = AV.v (.int .i64 (p1.length : Int)))) ∧ True) (by kernel_rfl) ⟨⟨trivial, len_map enc_si p1⟩, trivial⟩ trivial ?_
  refine AX.seq ?_
  refine AX.seq ?_
  refine AX.reg (its := []) [0, 1, 11] [] (s1 := ⟨[(0, .bs true 2 (List.map enc_si p1)), (1, .v (.int .i64 (IntKind.wrap .i64 (p2 - (p1.length : Int))))), (11, .v (.bool (decide ((IntKind.wrap .i64 (p2 - (p1.length : Int))) < 0))))], []⟩) (C := True) (by kernel_rfl) trivial trivial ?_
  rcases bool_cases (decide ((IntKind.wrap .i64 (p2 - (p1.length : Int))) < 0)) with b1 | b1
  · replace h := cd_t b1 h
    refine AX.condT (decide ((IntKind.wrap .i64 (p2 - (p1.length : Int))) < 0)) (by kernel_rfl) b1 ?_
    refine AX.seq ?_
    refine AX.reg (its := []) [4] [] (s1 := ⟨[(4, .v (.int .i64 (-1)))], []⟩) (C := True) (by kernel_rfl) trivial trivial ?_
    refine AX.ret ?_
    refine fin_wk (Wk.forget [4] [] (s' := ⟨[(4, .v (.int .i64 (-1)))], []⟩) (by kernel_rfl)) ?_
    have hr := Option.some.inj h
    subst hr
    exact ⟨_, Wk.refl _, .inr rfl, ⟨[], by kernel_rfl, trivial, [.v (.int .i64 (-1))], by kernel_rfl, by kernel_rfl⟩⟩
  · replace h := cd_f b1 h
    refine AX.condF (decide ((IntKind.wrap .i64 (p2 - (p1.length : Int))) < 0)) (by kernel_rfl) b1 ?_
    refine AX.skip ?_
    refine AX.seq ?_
    refine AX.seq ?_
    refine AX.reg (its := []) [0, 1, 5] [] (s1 := ⟨[(0, .bs true 2 (List.map enc_si p1)), (1, .v (.int .i64 (IntKind.wrap .i64 (p2 - (p1.length : Int))))), (5, .v (.int .i64 0))], []⟩) (C := True) (by kernel_rfl) trivial trivial ?_
    refine AX.block ?_
    obtain ⟨x6, e6, h⟩ := bd_e h
    refine AX.wk (Wk.forget [0, 1, 5] [] (s' := ⟨[(0, .bs true 2 (List.map enc_si p1)), (1, .v (.int .i64 (IntKind.wrap .i64 (p2 - (p1.length : Int))))), (5, .v (.int .i64 0))], []⟩) (by kernel_rfl)) ?_
    refine AX.mono (s_laws_szDefS_L1 p1 FU (IntKind.wrap .i64 (p2 - (p1.length : Int)), 0) x6 e6) ?_
    rintro _ _ (⟨x7, rfl, rfl, rfl⟩ | ⟨x8, rfl, rfl, rfl⟩)
    · replace h := sm_l h
      refine fin_wk (Wk.forget [4] [] (s' := ⟨[(4, .v (.int .i64 (-1)))], []⟩) (by kernel_rfl)) ?_
      have hr := Option.some.inj h
      subst hr
      exact ⟨_, Wk.refl _, .inr rfl, ⟨[], by kernel_rfl, trivial, [.v (.int .i64 (-1))], by kernel_rfl, by kernel_rfl⟩⟩
    · replace h := sm_r h
      refine AX.seq ?_
      refine AX.reg (its := []) [4] [] (s1 := ⟨[(4, .v (.int .i64 x8))], []⟩) (C := True) (by kernel_rfl) trivial trivial ?_
      refine AX.ret ?_
      refine fin_wk (Wk.forget [4] [] (s' := ⟨[(4, .v (.int .i64 x8))], []⟩) (by kernel_rfl)) ?_
      have hr := Option.some.inj h
      subst hr
      exact ⟨_, Wk.refl _, .inr rfl, ⟨[], by kernel_rfl, trivial, [.v (.int .i64 x8)], by kernel_rfl, by kernel_rfl⟩⟩

theorem s_laws_szFlag (p1 : List (ByteArray × Int)) (p2 : Int) (p3 : Int) (r : Int) (h : m_laws_szFlag p1 p2 p3 = some r) :
    Eng.Spec Try.prog 22 [.agg [.bs true 2 (List.map enc_si p1), .v (.int .i64 p2)], .v (.int .i64 p3)] [] (.v (.int .i64 r)) [] := by
  unfold m_laws_szFlag at h
  refine Eng.Spec.body Try.func22 (by kernel_rfl) rfl (by kernel_rfl) ?_
  refine AX.wkpost ?_
  refine AX.seq ?_
  refine AX.reg (its := [.auto { nk := 0 }]) [1, 2] [0] (s1 := ⟨[(1, .v (.int .i64 p3)), (2, .pt 0 0)], [(0, .box [.bs true 2 (List.map enc_si p1), .v (.int .i64 p2)])]⟩) (C := True) (by kernel_rfl) trivial trivial ?_
  refine AX.seq ?_
  obtain ⟨x4, e1, h⟩ := bd_e h
  refine AX.reg (its := [.auto {}, .auto {}, .auto {}, .call 99 [.bs true 2 (List.map enc_si p1), .v (.int .i64 p3)] (handO (rho ([] ++ [])) [] [] ++ []) (callEv [] [] (.v (.int .i64 x4)) [])]) [1] [] (s1 := ⟨[(1, .v (.int .i64 x4))], []⟩) (C := ((([.bs true 2 (List.map enc_si p1), .v (.int .i64 p3)] : List AV) = [.bs true 2 (List.map enc_si p1), .v (.int .i64 p3)]) ∧ True) ∧ True) (by kernel_rfl) ⟨⟨rfl, trivial⟩, trivial⟩ ⟨call_ok (ks := []) (ns := []) (bor := []) (bobjs := []) (s_laws_szDefS p1 p3 x4 e1) (.cons (.c1 (.c0 (.same _ (by kernel_rfl) (by kernel_rfl)))) (.cons (.c1 (.c0 (.same _ (by kernel_rfl) (by kernel_rfl)))) (.nil))) (by kernel_rfl) trivial, trivial⟩ ?_
  refine AX.seq ?_
  refine AX.seq ?_
  refine AX.reg (its := []) [1, 10] [] (s1 := ⟨[(1, .v (.int .i64 x4)), (10, .v (.bool (decide (x4 < 0))))], []⟩) (C := True) (by kernel_rfl) trivial trivial ?_
  rcases bool_cases (decide (x4 < 0)) with b2 | b2
  · replace h := cd_t b2 h
    refine AX.condT (decide (x4 < 0)) (by kernel_rfl) b2 ?_
    refine AX.seq ?_
    refine AX.reg (its := []) [4] [] (s1 := ⟨[(4, .v (.int .i64 (-1)))], []⟩) (C := True) (by kernel_rfl) trivial trivial ?_
    refine AX.ret ?_
    refine fin_wk (Wk.forget [4] [] (s' := ⟨[(4, .v (.int .i64 (-1)))], []⟩) (by kernel_rfl)) ?_
    have hr := Option.some.inj h
    subst hr
    exact ⟨_, Wk.refl _, .inr rfl, ⟨[], by kernel_rfl, trivial, [.v (.int .i64 (-1))], by kernel_rfl, by kernel_rfl⟩⟩
  · replace h := cd_f b2 h
    refine AX.condF (decide (x4 < 0)) (by kernel_rfl) b2 ?_
    refine AX.skip ?_
    refine AX.seq ?_
    refine AX.reg (its := []) [4] [] (s1 := ⟨[(4, .v (.int .i64 x4))], []⟩) (C := True) (by kernel_rfl) trivial trivial ?_
    refine AX.ret ?_
    refine fin_wk (Wk.forget [4] [] (s' := ⟨[(4, .v (.int .i64 x4))], []⟩) (by kernel_rfl)) ?_
    have hr := Option.some.inj h
    subst hr
    exact ⟨_, Wk.refl _, .inr rfl, ⟨[], by kernel_rfl, trivial, [.v (.int .i64 x4)], by kernel_rfl, by kernel_rfl⟩⟩

theorem s_laws_toDef (p1 : ByteArray) (p2 : Int) (r : Unit) (h : m_laws_toDef p1 p2 = some r) :
    Eng.Spec Try.prog 150 [.agg [.v (.string p1), .v (.int .i64 p2)]] [] (.agg [.v (.string p1), .v (.int .i64 p2)]) [] := by
  unfold m_laws_toDef at h
  refine Eng.Spec.body Try.func150 (by kernel_rfl) rfl (by kernel_rfl) ?_
  refine AX.wkpost ?_
  refine AX.seq ?_
  refine AX.reg (its := [.auto { nk := 0 }, .auto { nk := 1 }]) [1, 2] [0, 1] (s1 := ⟨[(1, .pt 0 0), (2, .pt 1 0)], [(0, .box [.v (.string p1), .v (.int .i64 p2)]), (1, .box [.v (.string ByteArray.empty), .v (.int .i64 0)])]⟩) (C := True) (by kernel_rfl) trivial trivial ?_
  refine AX.seq ?_
  refine AX.reg (its := [.auto { nk := 2 }]) [1, 2, 3] [0, 1, 2] (s1 := ⟨[(1, .pt 0 0), (2, .pt 1 0), (3, .pt 2 0)], [(0, .box [.v (.string p1), .v (.int .i64 p2)]), (1, .box [.v (.string ByteArray.empty), .v (.int .i64 0)]), (2, .box [.v (.string ByteArray.empty), .v (.int .i64 0)])]⟩) (C := True) (by kernel_rfl) trivial trivial ?_
  refine AX.seq ?_
  refine AX.reg (its := []) [1, 2, 3] [0, 1, 2] (s1 := ⟨[(1, .pt 0 0), (2, .pt 1 0), (3, .pt 2 0)], [(0, .box [.v (.string p1), .v (.int .i64 p2)]), (1, .box [.v (.string ByteArray.empty), .v (.int .i64 0)]), (2, .box [.v (.string p1), .v (.int .i64 0)])]⟩) (C := True) (by kernel_rfl) trivial trivial ?_
  refine AX.seq ?_
  refine AX.reg (its := []) [2, 3] [1, 2] (s1 := ⟨[(2, .pt 1 0), (3, .pt 2 0)], [(1, .box [.v (.string ByteArray.empty), .v (.int .i64 0)]), (2, .box [.v (.string p1), .v (.int .i64 p2)])]⟩) (C := True) (by kernel_rfl) trivial trivial ?_
  refine AX.seq ?_
  refine AX.reg (its := []) [2] [1] (s1 := ⟨[(2, .pt 1 0)], [(1, .box [.v (.string p1), .v (.int .i64 p2)])]⟩) (C := True) (by kernel_rfl) trivial trivial ?_
  refine AX.ret ?_
  refine fin_wk (Wk.swap 0 1 (Nat.le_of_ble_eq_true (by kernel_rfl)) (Nat.le_of_ble_eq_true (by kernel_rfl)) rfl) ?_
  refine fin_wk (Wk.forget [2] [0] (s' := ⟨[(2, .pt 0 0)], [(0, .box [.v (.string p1), .v (.int .i64 p2)])]⟩) (by kernel_rfl)) ?_
  have hr := Option.some.inj h
  subst hr
  exact ⟨_, Wk.refl _, .inr rfl, ⟨[], by kernel_rfl, trivial, [.agg [.v (.string p1), .v (.int .i64 p2)]], by kernel_rfl, by kernel_rfl⟩⟩

theorem s_laws_toDefS_L1 (p1 : List (ByteArray × Int)) (n : Nat) (g : (List (ByteArray × Int)) × Int) (out : List (ByteArray × Int)) (h : m_laws_toDefS_L1 p1 n g.1 g.2 = some out) :
    AX Try.prog 23 0 (codeAt [1, 1, 0, 1, 1] (bodyOf Try.f100)) ((fun g : (List (ByteArray × Int)) × Int => (⟨[(0, .bs true 2 (List.map enc_si p1)), (3, .sl 0 0 g.1.length), (4, .v (.int .i64 g.2))], [(0, .arr 2 (List.map enc_si g.1))]⟩ : S)) g) (fun ex s => ex = .exit 0 ∧ s = (fun o : List (ByteArray × Int) => (⟨[(3, .sl 0 0 o.length)], [(0, .arr 2 (List.map enc_si o))]⟩ : S)) out) := by
  refine AX.wkpost ?_
  refine AX.loop (G := Nat × ((List (ByteArray × Int)) × Int)) (fun q => (fun g : (List (ByteArray × Int)) × Int => (⟨[(0, .bs true 2 (List.map enc_si p1)), (3, .sl 0 0 g.1.length), (4, .v (.int .i64 g.2))], [(0, .arr 2 (List.map enc_si g.1))]⟩ : S)) q.2) (fun q => m_laws_toDefS_L1 p1 q.1 q.2.1 q.2.2 = some out) (fun q => q.1) (n, g) h (Wk.refl _) ?_
  clear h
  rintro ⟨fu, v2, v3⟩ h
  cases fu with
  | zero => cases h
  | succ fu =>
    rw [m_laws_toDefS_L1] at h
    refine AX.seq ?_
    refine AX.seq ?_
    refine AX.reg (its := [.auto {}, .auto {}, .auto { y := some (.v (.int .i64 (p1.length : Int))) }]) [0, 3, 4, 11] [0] (s1 := ⟨[(0, .bs true 2 (List.map enc_si p1)), (3, .sl 0 0 v2.length), (4, .v (.int .i64 v3)), (11, .v (.bool (decide (v3 < (p1.length : Int)))))], [(0, .arr 2 (List.map enc_si v2))]⟩) (C := (True ∧ (AV.v (.int .i64 ((List.map enc_si p1).length : Int)) = AV.v (.int .i64 (p1.length : Int)))) ∧ True) (by kernel_rfl) ⟨⟨trivial, len_map enc_si p1⟩, trivial⟩ trivial ?_
    rcases bool_cases (decide (v3 < (p1.length : Int))) with b2 | b2
    · replace h := cd_t b2 h
      refine AX.condT (decide (v3 < (p1.length : Int))) (by kernel_rfl) b2 ?_
      refine AX.skip ?_
      refine AX.seq ?_
      refine AX.block ?_
      obtain ⟨g3, h⟩ := gd_e h
      obtain ⟨x4, e4, h⟩ := bd_e h
      obtain ⟨g5, h⟩ := gd_e h
      refine AX.reg (its := [.auto {}, .auto {}, .auto {}, .auto {}, .auto { y := some (.be 2 (enc_si (gt p1 v3)) 0) }, .auto {}, .call 150 [.agg [.v (.string ((gt p1 v3).1)), .v (.int .i64 ((gt p1 v3).2))]] (handO (rho ([] ++ [])) [] [] ++ []) (callEv [] [] (.agg [.v (.string ((gt p1 v3).1)), .v (.int .i64 ((gt p1 v3).2))]) [])]) [0, 3, 4] [0] (s1 := ⟨[(0, .bs true 2 (List.map enc_si p1)), (3, .sl 0 0 v2.length), (4, .v (.int .i64 v3))], [(0, .arr 2 ((List.map enc_si v2).set (0 + v3.toNat) [(.string ((gt p1 v3).1)), (.int .i64 ((gt p1 v3).2))]))]⟩) (C := ((0 ≤ v3 ∧ v3 < ((List.map enc_si p1).length : Int)) ∧ (AV.be 2 ((List.map enc_si p1).getD v3.toNat []) 0 = AV.be 2 (enc_si (gt p1 v3)) 0)) ∧ ((([.agg [.v (.string ((gt p1 v3).1)), .v (.int .i64 ((gt p1 v3).2))]] : List AV) = [.agg [.v (.string ((gt p1 v3).1)), .v (.int .i64 ((gt p1 v3).2))]]) ∧ True) ∧ (0 ≤ v3 ∧ v3 < (v2.length : Int)) ∧ True) (by kernel_rfl) ⟨idx_bs enc_si p1 v3 2 g3, ⟨⟨rfl, trivial⟩, ⟨g5, trivial⟩⟩⟩ ⟨call_ok (ks := []) (ns := []) (bor := []) (bobjs := []) (s_laws_toDef ((gt p1 v3).1) ((gt p1 v3).2) x4 e4) (.cons (.c1 (.agg (.cons (.same _ (by kernel_rfl) (by kernel_rfl)) (.cons (.same _ (by kernel_rfl) (by kernel_rfl)) (.nil))))) (.nil)) (by kernel_rfl) trivial, trivial⟩ ?_
      refine AX.reg (its := [.auto {}, .auto { raw := true }]) [0, 3, 4] [0] (s1 := ⟨[(0, .bs true 2 (List.map enc_si p1)), (3, .sl 0 0 v2.length), (4, .v (.int .i64 (IntKind.wrap .i64 (v3 + 1))))], [(0, .arr 2 ((List.map enc_si v2).set (0 + v3.toNat) [(.string ((gt p1 v3).1)), (.int .i64 ((gt p1 v3).2))]))]⟩) (C := True) (by kernel_rfl) trivial trivial ?_
      refine ⟨(fu, (v2.set (0 + v3.toNat) (((gt p1 v3).1), ((gt p1 v3).2)), IntKind.wrap .i64 (v3 + 1))), h, Nat.lt_succ_self _, ?_⟩
      refine Wk.trans (Wk.forget [0, 3, 4] [0] (s' := ⟨[(0, .bs true 2 (List.map enc_si p1)), (3, .sl 0 0 v2.length), (4, .v (.int .i64 (IntKind.wrap .i64 (v3 + 1))))], [(0, .arr 2 ((List.map enc_si v2).set (0 + v3.toNat) [(.string ((gt p1 v3).1)), (.int .i64 ((gt p1 v3).2))]))]⟩) (by kernel_rfl)) ?_
      refine Wk.trans (Wk.of_eq (congrArg (fun z => (⟨[(0, .bs true 2 (List.map enc_si p1)), (3, .sl 0 0 v2.length), (4, .v (.int .i64 (IntKind.wrap .i64 (v3 + 1))))], [(0, .arr 2 (z))]⟩ : S)) (set_can (enc := enc_si) rfl (0 + v3.toNat) (((gt p1 v3).1), ((gt p1 v3).2))))) ?_
      refine Wk.trans (Wk.of_eq (congrArg (fun z => (⟨[(0, .bs true 2 (List.map enc_si p1)), (3, .sl 0 0 z), (4, .v (.int .i64 (IntKind.wrap .i64 (v3 + 1))))], [(0, .arr 2 (List.map enc_si (v2.set (0 + v3.toNat) (((gt p1 v3).1), ((gt p1 v3).2)))))]⟩ : S)) (set_len ((rfl : v2.length = v2.length)) (0 + v3.toNat) (((gt p1 v3).1), ((gt p1 v3).2))))) ?_
      exact Wk.refl _
    · replace h := cd_f b2 h
      refine AX.condF (decide (v3 < (p1.length : Int))) (by kernel_rfl) b2 ?_
      refine AX.exit ?_
      refine fin_wk (Wk.forget [3] [0] (s' := ⟨[(3, .sl 0 0 v2.length)], [(0, .arr 2 (List.map enc_si v2))]⟩) (by kernel_rfl)) ?_
      have hr := Option.some.inj h
      subst hr
      exact ⟨_, Wk.refl _, ⟨rfl, rfl⟩⟩

theorem s_laws_toDefS (p1 : List (ByteArray × Int)) (r : List (ByteArray × Int)) (h : m_laws_toDefS p1 = some r) :
    Eng.Spec Try.prog 100 [.bs true 2 (List.map enc_si p1)] [] (.sl 0 0 r.length) [.arr 2 (List.map enc_si r)] := by
  unfold m_laws_toDefS at h
  refine Eng.Spec.body Try.func100 (by kernel_rfl) rfl (by kernel_rfl) ?_
  refine AX.wkpost ?_
  refine AX.seq ?_
  refine AX.reg (its := []) [0] [] (s1 := ⟨[(0, .bs true 2 (List.map enc_si p1))], []⟩) (C := True) (by kernel_rfl) trivial trivial ?_
  refine AX.seq ?_
  obtain ⟨g1, h⟩ := gd_e h
  refine AX.reg (its := [.auto {}, .auto { y := some (.v (.int .i64 (p1.length : Int))) }, .auto { y := some (.sl 0 0 ((List.replicate (p1.length : Int).toNat ((ByteArray.empty, 0) : ByteArray × Int)).length)), nk := 0 }]) [0, 3] [0] (s1 := ⟨[(0, .bs true 2 (List.map enc_si p1)), (3, .sl 0 0 ((List.replicate (p1.length : Int).toNat ((ByteArray.empty, 0) : ByteArray × Int)).length))], [(0, .arr 2 (List.replicate (p1.length : Int).toNat (enc_si ((ByteArray.empty, 0) : ByteArray × Int))))]⟩) (C := (True ∧ (AV.v (.int .i64 ((List.map enc_si p1).length : Int)) = AV.v (.int .i64 (p1.length : Int)))) ∧ ((0 ≤ (p1.length : Int) ∧ (p1.length : Int) = (p1.length : Int) ∧ (24 : Int) * (p1.length : Int) ≤ 281474976710656 ∧ (p1.length : Int) ≤ 9223372036854775807) ∧ (AV.sl 0 0 (List.replicate (p1.length : Int).toNat (enc_si ((ByteArray.empty, 0) : ByteArray × Int))).length = AV.sl 0 0 (List.replicate (p1.length : Int).toNat ((ByteArray.empty, 0) : ByteArray × Int)).length)) ∧ True) (by kernel_rfl) ⟨⟨trivial, len_map enc_si p1⟩, ⟨⟨g1, sl_len (enc := enc_si) (rep_can (p1.length : Int).toNat ((ByteArray.empty, 0) : ByteArray × Int))⟩, trivial⟩⟩ trivial ?_
  refine AX.seq ?_
  refine AX.seq ?_
  refine AX.reg (its := []) [0, 3, 4] [0] (s1 := ⟨[(0, .bs true 2 (List.map enc_si p1)), (3, .sl 0 0 ((List.replicate (p1.length : Int).toNat ((ByteArray.empty, 0) : ByteArray × Int)).length)), (4, .v (.int .i64 0))], [(0, .arr 2 (List.replicate (p1.length : Int).toNat (enc_si ((ByteArray.empty, 0) : ByteArray × Int))))]⟩) (C := True) (by kernel_rfl) trivial trivial ?_
  refine AX.block ?_
  obtain ⟨x5, e6, h⟩ := bd_e h
  refine AX.wk (Wk.forget [0, 3, 4] [0] (s' := ⟨[(0, .bs true 2 (List.map enc_si p1)), (3, .sl 0 0 ((List.replicate (p1.length : Int).toNat ((ByteArray.empty, 0) : ByteArray × Int)).length)), (4, .v (.int .i64 0))], [(0, .arr 2 (List.replicate (p1.length : Int).toNat (enc_si ((ByteArray.empty, 0) : ByteArray × Int))))]⟩) (by kernel_rfl)) ?_
  refine AX.wk (Wk.of_eq (congrArg (fun z => (⟨[(0, .bs true 2 (List.map enc_si p1)), (3, .sl 0 0 ((List.replicate (p1.length : Int).toNat ((ByteArray.empty, 0) : ByteArray × Int)).length)), (4, .v (.int .i64 0))], [(0, .arr 2 (z))]⟩ : S)) (rep_can (enc := enc_si) (p1.length : Int).toNat ((ByteArray.empty, 0) : ByteArray × Int)))) ?_
  refine AX.mono (s_laws_toDefS_L1 p1 FU (List.replicate (p1.length : Int).toNat ((ByteArray.empty, 0) : ByteArray × Int), 0) x5 e6) ?_
  rintro _ _ ⟨rfl, rfl⟩
  skip
  refine AX.seq ?_
  refine AX.reg (its := []) [2] [0] (s1 := ⟨[(2, .sl 0 0 x5.length)], [(0, .arr 2 (List.map enc_si x5))]⟩) (C := True) (by kernel_rfl) trivial trivial ?_
  refine AX.ret ?_
  refine fin_wk (Wk.forget [2] [0] (s' := ⟨[(2, .sl 0 0 x5.length)], [(0, .arr 2 (List.map enc_si x5))]⟩) (by kernel_rfl)) ?_
  have hr := Option.some.inj h
  subst hr
  exact ⟨_, Wk.refl _, .inr rfl, ⟨[0], by kernel_rfl, ⟨rfl, trivial⟩, [.sl 0 0 x5.length], by kernel_rfl, by kernel_rfl⟩⟩

theorem s_laws_toFlag (p1 : List (ByteArray × Int)) (p2 : Int) (r : List (ByteArray × Int)) (h : m_laws_toFlag p1 p2 = some r) :
    Eng.Spec Try.prog 23 [.agg [.bs true 2 (List.map enc_si p1), .v (.int .i64 p2)]] [] (.agg [.sl 0 0 r.length, .v (.int .i64 p2)]) [.arr 2 (List.map enc_si r)] := by
  unfold m_laws_toFlag at h
  refine Eng.Spec.body Try.func23 (by kernel_rfl) rfl (by kernel_rfl) ?_
  refine AX.wkpost ?_
  refine AX.seq ?_
  refine AX.reg (its := [.auto { nk := 0 }, .auto { nk := 1 }]) [1, 2] [0, 1] (s1 := ⟨[(1, .pt 0 0), (2, .pt 1 0)], [(0, .box [.bs true 2 (List.map enc_si p1), .v (.int .i64 p2)]), (1, .box [.v (.slice none 0 0), .v (.int .i64 0)])]⟩) (C := True) (by kernel_rfl) trivial trivial ?_
  refine AX.seq ?_
  refine AX.reg (its := [.auto { nk := 2 }]) [1, 2, 3] [0, 1, 2] (s1 := ⟨[(1, .pt 0 0), (2, .pt 1 0), (3, .pt 2 0)], [(0, .box [.bs true 2 (List.map enc_si p1), .v (.int .i64 p2)]), (1, .box [.v (.slice none 0 0), .v (.int .i64 0)]), (2, .box [.v (.slice none 0 0), .v (.int .i64 0)])]⟩) (C := True) (by kernel_rfl) trivial trivial ?_
  refine AX.seq ?_
  obtain ⟨x3, e1, h⟩ := bd_e h
  refine AX.reg (its := [.auto {}, .auto {}, .call 100 [.bs true 2 (List.map enc_si p1)] (handO (rho ([] ++ [3])) [] [] ++ []) (callEv [] [3] (.sl 0 0 x3.length) [.arr 2 (List.map enc_si x3)])]) [1, 2, 3] [0, 1, 2, 3] (s1 := ⟨[(1, .pt 0 0), (2, .pt 1 0), (3, .pt 2 0)], [(0, .box [.bs true 2 (List.map enc_si p1), .v (.int .i64 p2)]), (1, .box [.v (.slice none 0 0), .v (.int .i64 0)]), (2, .box [.sl 3 0 x3.length, .v (.int .i64 0)]), (3, .arr 2 (List.map enc_si x3))]⟩) (C := ((([.bs true 2 (List.map enc_si p1)] : List AV) = [.bs true 2 (List.map enc_si p1)]) ∧ True) ∧ True) (by kernel_rfl) ⟨⟨rfl, trivial⟩, trivial⟩ ⟨call_ok (ks := []) (ns := [3]) (bor := []) (bobjs := []) (s_laws_toDefS p1 x3 e1) (.cons (.c1 (.c0 (.same _ (by kernel_rfl) (by kernel_rfl)))) (.nil)) (by kernel_rfl) trivial, trivial⟩ ?_
  refine AX.seq ?_
  refine AX.reg (its := []) [2, 3] [1, 2, 3] (s1 := ⟨[(2, .pt 1 0), (3, .pt 2 0)], [(1, .box [.v (.slice none 0 0), .v (.int .i64 0)]), (2, .box [.sl 3 0 x3.length, .v (.int .i64 p2)]), (3, .arr 2 (List.map enc_si x3))]⟩) (C := True) (by kernel_rfl) trivial trivial ?_
  refine AX.seq ?_
  refine AX.reg (its := []) [2] [1, 3] (s1 := ⟨[(2, .pt 1 0)], [(1, .box [.sl 3 0 x3.length, .v (.int .i64 p2)]), (3, .arr 2 (List.map enc_si x3))]⟩) (C := True) (by kernel_rfl) trivial trivial ?_
  refine AX.ret ?_
  refine fin_wk (Wk.swap 0 1 (Nat.le_of_ble_eq_true (by kernel_rfl)) (Nat.le_of_ble_eq_true (by kernel_rfl)) rfl) ?_
  refine fin_wk (Wk.swap 1 3 (Nat.le_of_ble_eq_true (by kernel_rfl)) (Nat.le_of_ble_eq_true (by kernel_rfl)) rfl) ?_
  refine fin_wk (Wk.forget [2] [0, 1] (s' := ⟨[(2, .pt 0 0)], [(0, .box [.sl 1 0 x3.length, .v (.int .i64 p2)]), (1, .arr 2 (List.map enc_si x3))]⟩) (by kernel_rfl)) ?_
  have hr := Option.some.inj h
  subst hr
  exact ⟨_, Wk.refl _, .inr rfl, ⟨[1], by kernel_rfl, ⟨rfl, trivial⟩, [.agg [.sl 1 0 x3.length, .v (.int .i64 p2)]], by kernel_rfl, by kernel_rfl⟩⟩

theorem s_laws_toIntS_L1 (p1 : List (Int)) (n : Nat) (g : List (Int) × Int) (out : List (Int)) (h : m_laws_toIntS_L1 p1 n g.1 g.2 = some out) :
    AX Try.prog 22 0 (codeAt [1, 1, 0, 1, 1] (bodyOf Try.f24)) ((fun g : List (Int) × Int => (⟨[(0, .bs true 1 (List.map enc_i p1)), (3, .sl 0 0 g.1.length), (4, .v (.int .i64 g.2))], [(0, .arr 1 (List.map enc_i g.1))]⟩ : S)) g) (fun ex s => ex = .exit 0 ∧ s = (fun o : List (Int) => (⟨[(3, .sl 0 0 o.length)], [(0, .arr 1 (List.map enc_i o))]⟩ : S)) out) := by
  refine AX.wkpost ?_
  refine AX.loop (G := Nat × (List (Int) × Int)) (fun q => (fun g : List (Int) × Int => (⟨[(0, .bs true 1 (List.map enc_i p1)), (3, .sl 0 0 g.1.length), (4, .v (.int .i64 g.2))], [(0, .arr 1 (List.map enc_i g.1))]⟩ : S)) q.2) (fun q => m_laws_toIntS_L1 p1 q.1 q.2.1 q.2.2 = some out) (fun q => q.1) (n, g) h (Wk.refl _) ?_
  clear h
  rintro ⟨fu, v2, v3⟩ h
  cases fu with
  | zero => cases h
  | succ fu =>
    rw [m_laws_toIntS_L1] at h
    refine AX.seq ?_
    refine AX.seq ?_
    refine AX.reg (its := [.auto {}, .auto {}, .auto { y := some (.v (.int .i64 (p1.length : Int))) }]) [0, 3, 4, 11] [0] (s1 := ⟨[(0, .bs true 1 (List.map enc_i p1)), (3, .sl 0 0 v2.length), (4, .v (.int .i64 v3)), (11, .v (.bool (decide (v3 < (p1.length : Int)))))], [(0, .arr 1 (List.map enc_i v2))]⟩) (C := (True ∧ (AV.v (.int .i64 ((List.map enc_i p1).length : Int)) = AV.v (.int .i64 (p1.length : Int)))) ∧ True) (by kernel_rfl) ⟨⟨trivial, len_map enc_i p1⟩, trivial⟩ trivial ?_
    rcases bool_cases (decide (v3 < (p1.length : Int))) with b2 | b2
    · replace h := cd_t b2 h
      refine AX.condT (decide (v3 < (p1.length : Int))) (by kernel_rfl) b2 ?_
      refine AX.skip ?_
      refine AX.seq ?_
      refine AX.block ?_
      obtain ⟨g3, h⟩ := gd_e h
      obtain ⟨g4, h⟩ := gd_e h
      refine AX.reg (its := [.auto {}, .auto {}, .auto {}, .auto {}, .auto { y := some (.be 1 (enc_i (gt p1 v3)) 0) }]) [0, 3, 4] [0] (s1 := ⟨[(0, .bs true 1 (List.map enc_i p1)), (3, .sl 0 0 v2.length), (4, .v (.int .i64 v3))], [(0, .arr 1 ((List.map enc_i v2).set (0 + v3.toNat) [(.int .i64 (gt p1 v3))]))]⟩) (C := ((0 ≤ v3 ∧ v3 < ((List.map enc_i p1).length : Int)) ∧ (AV.be 1 ((List.map enc_i p1).getD v3.toNat []) 0 = AV.be 1 (enc_i (gt p1 v3)) 0)) ∧ (0 ≤ v3 ∧ v3 < (v2.length : Int)) ∧ True) (by kernel_rfl) ⟨idx_bs enc_i p1 v3 1 g3, ⟨g4, trivial⟩⟩ trivial ?_
      refine AX.reg (its := [.auto {}, .auto { raw := true }]) [0, 3, 4] [0] (s1 := ⟨[(0, .bs true 1 (List.map enc_i p1)), (3, .sl 0 0 v2.length), (4, .v (.int .i64 (IntKind.wrap .i64 (v3 + 1))))], [(0, .arr 1 ((List.map enc_i v2).set (0 + v3.toNat) [(.int .i64 (gt p1 v3))]))]⟩) (C := True) (by kernel_rfl) trivial trivial ?_
      refine ⟨(fu, (v2.set (0 + v3.toNat) (gt p1 v3), IntKind.wrap .i64 (v3 + 1))), h, Nat.lt_succ_self _, ?_⟩
      refine Wk.trans (Wk.forget [0, 3, 4] [0] (s' := ⟨[(0, .bs true 1 (List.map enc_i p1)), (3, .sl 0 0 v2.length), (4, .v (.int .i64 (IntKind.wrap .i64 (v3 + 1))))], [(0, .arr 1 ((List.map enc_i v2).set (0 + v3.toNat) [(.int .i64 (gt p1 v3))]))]⟩) (by kernel_rfl)) ?_
      refine Wk.trans (Wk.of_eq (congrArg (fun z => (⟨[(0, .bs true 1 (List.map enc_i p1)), (3, .sl 0 0 v2.length), (4, .v (.int .i64 (IntKind.wrap .i64 (v3 + 1))))], [(0, .arr 1 (z))]⟩ : S)) (set_can (enc := enc_i) rfl (0 + v3.toNat) (gt p1 v3)))) ?_
      refine Wk.trans (Wk.of_eq (congrArg (fun z => (⟨[(0, .bs true 1 (List.map enc_i p1)), (3, .sl 0 0 z), (4, .v (.int .i64 (IntKind.wrap .i64 (v3 + 1))))], [(0, .arr 1 (List.map enc_i (v2.set (0 + v3.toNat) (gt p1 v3))))]⟩ : S)) (set_len ((rfl : v2.length = v2.length)) (0 + v3.toNat) (gt p1 v3)))) ?_
      exact Wk.refl _
    · replace h := cd_f b2 h
      refine AX.condF (decide (v3 < (p1.length : Int))) (by kernel_rfl) b2 ?_
      refine AX.exit ?_
      refine fin_wk (Wk.forget [3] [0] (s' := ⟨[(3, .sl 0 0 v2.length)], [(0, .arr 1 (List.map enc_i v2))]⟩) (by kernel_rfl)) ?_
      have hr := Option.some.inj h
      subst hr
      exact ⟨_, Wk.refl _, ⟨rfl, rfl⟩⟩

theorem s_laws_toIntS (p1 : List (Int)) (r : List (Int)) (h : m_laws_toIntS p1 = some r) :
    Eng.Spec Try.prog 24 [.bs true 1 (List.map enc_i p1)] [] (.sl 0 0 r.length) [.arr 1 (List.map enc_i r)] := by
  unfold m_laws_toIntS at h
  refine Eng.Spec.body Try.func24 (by kernel_rfl) rfl (by kernel_rfl) ?_
  refine AX.wkpost ?_
  refine AX.seq ?_
  refine AX.reg (its := []) [0] [] (s1 := ⟨[(0, .bs true 1 (List.map enc_i p1))], []⟩) (C := True) (by kernel_rfl) trivial trivial ?_
  refine AX.seq ?_
  obtain ⟨g1, h⟩ := gd_e h
  refine AX.reg (its := [.auto {}, .auto { y := some (.v (.int .i64 (p1.length : Int))) }, .auto { y := some (.sl 0 0 ((List.replicate (p1.length : Int).toNat (0 : Int)).length)), nk := 0 }]) [0, 3] [0] (s1 := ⟨[(0, .bs true 1 (List.map enc_i p1)), (3, .sl 0 0 ((List.replicate (p1.length : Int).toNat (0 : Int)).length))], [(0, .arr 1 (List.replicate (p1.length : Int).toNat (enc_i (0 : Int))))]⟩) (C := (True ∧ (AV.v (.int .i64 ((List.map enc_i p1).length : Int)) = AV.v (.int .i64 (p1.length : Int)))) ∧ ((0 ≤ (p1.length : Int) ∧ (p1.length : Int) = (p1.length : Int) ∧ (8 : Int) * (p1.length : Int) ≤ 281474976710656 ∧ (p1.length : Int) ≤ 9223372036854775807) ∧ (AV.sl 0 0 (List.replicate (p1.length : Int).toNat (enc_i (0 : Int))).length = AV.sl 0 0 (List.replicate (p1.length : Int).toNat (0 : Int)).length)) ∧ True) (by kernel_rfl) ⟨⟨trivial, len_map enc_i p1⟩, ⟨⟨g1, sl_len (enc := enc_i) (rep_can (p1.length : Int).toNat (0 : Int))⟩, trivial⟩⟩ trivial ?_
  refine AX.seq ?_
  refine AX.seq ?_
  refine AX.reg (its := []) [0, 3, 4] [0] (s1 := ⟨[(0, .bs true 1 (List.map enc_i p1)), (3, .sl 0 0 ((List.replicate (p1.length : Int).toNat (0 : Int)).length)), (4, .v (.int .i64 0))], [(0, .arr 1 (List.replicate (p1.length : Int).toNat (enc_i (0 : Int))))]⟩) (C := True) (by kernel_rfl) trivial trivial ?_
  refine AX.block ?_
  obtain ⟨x4, e5, h⟩ := bd_e h
  refine AX.wk (Wk.forget [0, 3, 4] [0] (s' := ⟨[(0, .bs true 1 (List.map enc_i p1)), (3, .sl 0 0 ((List.replicate (p1.length : Int).toNat (0 : Int)).length)), (4, .v (.int .i64 0))], [(0, .arr 1 (List.replicate (p1.length : Int).toNat (enc_i (0 : Int))))]⟩) (by kernel_rfl)) ?_
  refine AX.wk (Wk.of_eq (congrArg (fun z => (⟨[(0, .bs true 1 (List.map enc_i p1)), (3, .sl 0 0 ((List.replicate (p1.length : Int).toNat (0 : Int)).length)), (4, .v (.int .i64 0))], [(0, .arr 1 (z))]⟩ : S)) (rep_can (enc := enc_i) (p1.length : Int).toNat (0 : Int)))) ?_
  refine AX.mono (s_laws_toIntS_L1 p1 FU (List.replicate (p1.length : Int).toNat (0 : Int), 0) x4 e5) ?_
  rintro _ _ ⟨rfl, rfl⟩
  skip
  refine AX.seq ?_
  refine AX.reg (its := []) [2] [0] (s1 := ⟨[(2, .sl 0 0 x4.length)], [(0, .arr 1 (List.map enc_i x4))]⟩) (C := True) (by kernel_rfl) trivial trivial ?_
  refine AX.ret ?_
  refine fin_wk (Wk.forget [2] [0] (s' := ⟨[(2, .sl 0 0 x4.length)], [(0, .arr 1 (List.map enc_i x4))]⟩) (by kernel_rfl)) ?_
  have hr := Option.some.inj h
  subst hr
  exact ⟨_, Wk.refl _, .inr rfl, ⟨[0], by kernel_rfl, ⟨rfl, trivial⟩, [.sl 0 0 x4.length], by kernel_rfl, by kernel_rfl⟩⟩

theorem s_spec_both_L1 (p1 : Int) (p2 : Int) (n : Nat) (g : Int × Int) (out : Int) (h : m_spec_both_L1 p1 p2 n g.1 g.2 = some out) :
    AX Try.prog 27 0 (codeAt [1, 1, 0, 1, 1] (bodyOf Try.f142)) ((fun g : Int × Int => (⟨[(0, .v (.int .i64 p1)), (1, .v (.int .i64 p2)), (5, .v (.int .i64 g.1)), (6, .v (.int .i64 g.2))], []⟩ : S)) g) (fun ex s => ex = .exit 0 ∧ s = (fun o : Int => (⟨[(5, .v (.int .i64 o))], []⟩ : S)) out) := by
  refine AX.wkpost ?_
  refine AX.loop (G := Nat × (Int × Int)) (fun q => (fun g : Int × Int => (⟨[(0, .v (.int .i64 p1)), (1, .v (.int .i64 p2)), (5, .v (.int .i64 g.1)), (6, .v (.int .i64 g.2))], []⟩ : S)) q.2) (fun q => m_spec_both_L1 p1 p2 q.1 q.2.1 q.2.2 = some out) (fun q => q.1) (n, g) h (Wk.refl _) ?_
  clear h
  rintro ⟨fu, v3, v4⟩ h
  cases fu with
  | zero => cases h
  | succ fu =>
    rw [m_spec_both_L1] at h
    refine AX.seq ?_
    refine AX.seq ?_
    refine AX.reg (its := []) [0, 1, 5, 6, 8] [] (s1 := ⟨[(0, .v (.int .i64 p1)), (1, .v (.int .i64 p2)), (5, .v (.int .i64 v3)), (6, .v (.int .i64 v4)), (8, .v (.bool (decide (v4 ≤ 4095))))], []⟩) (C := True) (by kernel_rfl) trivial trivial ?_
    rcases bool_cases (decide (v4 ≤ 4095)) with b1 | b1
    · replace h := cd_t b1 h
      refine AX.condT (decide (v4 ≤ 4095)) (by kernel_rfl) b1 ?_
      refine AX.skip ?_
      refine AX.seq ?_
      refine AX.block ?_
      refine AX.seq ?_
      obtain ⟨g2, h⟩ := gd_e h
      obtain ⟨g3, h⟩ := gd_e h
      rcases bool_cases (decide ((Int.tmod (Int.tdiv p1 v4) 2) = 1)) with b4 | b4
      · replace h := cd_t b4 h
        obtain ⟨g5, h⟩ := gd_e h
        refine AX.reg (its := [.auto {}, .auto {}, .auto {}, .auto {}, .auto { y := some (.v (.bool true)) }]) [0, 1, 5, 6, 22] [] (s1 := ⟨[(0, .v (.int .i64 p1)), (1, .v (.int .i64 p2)), (5, .v (.int .i64 v3)), (6, .v (.int .i64 v4)), (22, .v (.bool (decide ((Int.tmod (Int.tdiv p2 v4) 2) = 1))))], []⟩) (C := (v4 ≠ 0 ∧ IntKind.wrap .i64 (Int.tdiv p1 v4) = Int.tdiv p1 v4) ∧ ((2 : Int) ≠ 0) ∧ ((True) ∧ ((.v (.bool (decide ((Int.tmod (Int.tdiv p1 v4) 2) = 1))) : AV) = (.v (.bool true) : AV))) ∧ (v4 ≠ 0 ∧ IntKind.wrap .i64 (Int.tdiv p2 v4) = Int.tdiv p2 v4) ∧ ((2 : Int) ≠ 0) ∧ True) (by kernel_rfl) ⟨g2, ⟨g3, ⟨⟨trivial, (congrArg (fun z => AV.v (.bool z)) b4)⟩, ⟨g5, ⟨g3, trivial⟩⟩⟩⟩⟩ trivial ?_
        rcases bool_cases (decide ((Int.tmod (Int.tdiv p2 v4) 2) = 1)) with b6 | b6
        · replace h := cd_t b6 h
          refine AX.condT (decide ((Int.tmod (Int.tdiv p2 v4) 2) = 1)) (by kernel_rfl) b6 ?_
          refine AX.reg (its := [.auto {}, .auto {}, .auto { raw := true }]) [0, 1, 5, 6] [] (s1 := ⟨[(0, .v (.int .i64 p1)), (1, .v (.int .i64 p2)), (5, .v (.int .i64 (IntKind.wrap .i64 (v3 + v4)))), (6, .v (.int .i64 v4))], []⟩) (C := True) (by kernel_rfl) trivial trivial ?_
          refine AX.reg (its := [.auto {}, .auto { raw := true }]) [0, 1, 5, 6] [] (s1 := ⟨[(0, .v (.int .i64 p1)), (1, .v (.int .i64 p2)), (5, .v (.int .i64 (IntKind.wrap .i64 (v3 + v4)))), (6, .v (.int .i64 (IntKind.wrap .i64 (v4 * 2))))], []⟩) (C := True) (by kernel_rfl) trivial trivial ?_
          refine ⟨(fu, (IntKind.wrap .i64 (v3 + v4), IntKind.wrap .i64 (v4 * 2))), h, Nat.lt_succ_self _, ?_⟩
          refine Wk.trans (Wk.forget [0, 1, 5, 6] [] (s' := ⟨[(0, .v (.int .i64 p1)), (1, .v (.int .i64 p2)), (5, .v (.int .i64 (IntKind.wrap .i64 (v3 + v4)))), (6, .v (.int .i64 (IntKind.wrap .i64 (v4 * 2))))], []⟩) (by kernel_rfl)) ?_
          exact Wk.refl _
        · replace h := cd_f b6 h
          refine AX.condF (decide ((Int.tmod (Int.tdiv p2 v4) 2) = 1)) (by kernel_rfl) b6 ?_
          refine AX.skip ?_
          refine AX.reg (its := [.auto {}, .auto { raw := true }]) [0, 1, 5, 6] [] (s1 := ⟨[(0, .v (.int .i64 p1)), (1, .v (.int .i64 p2)), (5, .v (.int .i64 v3)), (6, .v (.int .i64 (IntKind.wrap .i64 (v4 * 2))))], []⟩) (C := True) (by kernel_rfl) trivial trivial ?_
          refine ⟨(fu, (v3, IntKind.wrap .i64 (v4 * 2))), h, Nat.lt_succ_self _, ?_⟩
          refine Wk.trans (Wk.forget [0, 1, 5, 6] [] (s' := ⟨[(0, .v (.int .i64 p1)), (1, .v (.int .i64 p2)), (5, .v (.int .i64 v3)), (6, .v (.int .i64 (IntKind.wrap .i64 (v4 * 2))))], []⟩) (by kernel_rfl)) ?_
          exact Wk.refl _
      · replace h := cd_f b4 h
        refine AX.reg (its := [.auto {}, .auto {}, .auto {}, .auto {}, .auto { y := some (.v (.bool false)) }]) [0, 1, 5, 6, 22] [] (s1 := ⟨[(0, .v (.int .i64 p1)), (1, .v (.int .i64 p2)), (5, .v (.int .i64 v3)), (6, .v (.int .i64 v4)), (22, .v (.bool false))], []⟩) (C := (v4 ≠ 0 ∧ IntKind.wrap .i64 (Int.tdiv p1 v4) = Int.tdiv p1 v4) ∧ ((2 : Int) ≠ 0) ∧ ((True) ∧ ((.v (.bool (decide ((Int.tmod (Int.tdiv p1 v4) 2) = 1))) : AV) = (.v (.bool false) : AV))) ∧ True) (by kernel_rfl) ⟨g2, ⟨g3, ⟨⟨trivial, (congrArg (fun z => AV.v (.bool z)) b4)⟩, trivial⟩⟩⟩ trivial ?_
        refine AX.cond_false (by kernel_rfl) ?_
        refine AX.skip ?_
        refine AX.reg (its := [.auto {}, .auto { raw := true }]) [0, 1, 5, 6] [] (s1 := ⟨[(0, .v (.int .i64 p1)), (1, .v (.int .i64 p2)), (5, .v (.int .i64 v3)), (6, .v (.int .i64 (IntKind.wrap .i64 (v4 * 2))))], []⟩) (C := True) (by kernel_rfl) trivial trivial ?_
        refine ⟨(fu, (v3, IntKind.wrap .i64 (v4 * 2))), h, Nat.lt_succ_self _, ?_⟩
        refine Wk.trans (Wk.forget [0, 1, 5, 6] [] (s' := ⟨[(0, .v (.int .i64 p1)), (1, .v (.int .i64 p2)), (5, .v (.int .i64 v3)), (6, .v (.int .i64 (IntKind.wrap .i64 (v4 * 2))))], []⟩) (by kernel_rfl)) ?_
        exact Wk.refl _
    · replace h := cd_f b1 h
      refine AX.condF (decide (v4 ≤ 4095)) (by kernel_rfl) b1 ?_
      refine AX.exit ?_
      refine fin_wk (Wk.forget [5] [] (s' := ⟨[(5, .v (.int .i64 v3))], []⟩) (by kernel_rfl)) ?_
      have hr := Option.some.inj h
      subst hr
      exact ⟨_, Wk.refl _, ⟨rfl, rfl⟩⟩

theorem s_spec_both (p1 : Int) (p2 : Int) (r : Int) (h : m_spec_both p1 p2 = some r) :
    Eng.Spec Try.prog 142 [.v (.int .i64 p1), .v (.int .i64 p2)] [] (.v (.int .i64 r)) [] := by
  unfold m_spec_both at h
  refine Eng.Spec.body Try.func142 (by kernel_rfl) rfl (by kernel_rfl) ?_
  refine AX.wkpost ?_
  refine AX.seq ?_
  refine AX.reg (its := []) [0, 1] [] (s1 := ⟨[(0, .v (.int .i64 p1)), (1, .v (.int .i64 p2))], []⟩) (C := True) (by kernel_rfl) trivial trivial ?_
  refine AX.seq ?_
  refine AX.reg (its := []) [0, 1, 5] [] (s1 := ⟨[(0, .v (.int .i64 p1)), (1, .v (.int .i64 p2)), (5, .v (.int .i64 0))], []⟩) (C := True) (by kernel_rfl) trivial trivial ?_
  refine AX.seq ?_
  refine AX.seq ?_
  refine AX.reg (its := []) [0, 1, 5, 6] [] (s1 := ⟨[(0, .v (.int .i64 p1)), (1, .v (.int .i64 p2)), (5, .v (.int .i64 0)), (6, .v (.int .i64 1))], []⟩) (C := True) (by kernel_rfl) trivial trivial ?_
  refine AX.block ?_
  obtain ⟨x5, e7, h⟩ := bd_e h
  refine AX.wk (Wk.forget [0, 1, 5, 6] [] (s' := ⟨[(0, .v (.int .i64 p1)), (1, .v (.int .i64 p2)), (5, .v (.int .i64 0)), (6, .v (.int .i64 1))], []⟩) (by kernel_rfl)) ?_
  refine AX.mono (s_spec_both_L1 p1 p2 FU (0, 1) x5 e7) ?_
  rintro _ _ ⟨rfl, rfl⟩
  skip
  refine AX.seq ?_
  refine AX.reg (its := []) [4] [] (s1 := ⟨[(4, .v (.int .i64 x5))], []⟩) (C := True) (by kernel_rfl) trivial trivial ?_
  refine AX.ret ?_
  refine fin_wk (Wk.forget [4] [] (s' := ⟨[(4, .v (.int .i64 x5))], []⟩) (by kernel_rfl)) ?_
  have hr := Option.some.inj h
  subst hr
  exact ⟨_, Wk.refl _, .inr rfl, ⟨[], by kernel_rfl, trivial, [.v (.int .i64 x5)], by kernel_rfl, by kernel_rfl⟩⟩

theorem s_spec_either (p1 : Int) (p2 : Int) (r : Int) (h : m_spec_either p1 p2 = some r) :
    Eng.Spec Try.prog 141 [.v (.int .i64 p1), .v (.int .i64 p2)] [] (.v (.int .i64 r)) [] := by
  unfold m_spec_either at h
  refine Eng.Spec.body Try.func141 (by kernel_rfl) rfl (by kernel_rfl) ?_
  refine AX.wkpost ?_
  refine AX.seq ?_
  refine AX.reg (its := []) [0, 1] [] (s1 := ⟨[(0, .v (.int .i64 p1)), (1, .v (.int .i64 p2))], []⟩) (C := True) (by kernel_rfl) trivial trivial ?_
  refine AX.seq ?_
  obtain ⟨x3, e1, h⟩ := bd_e h
  refine AX.reg (its := [.auto {}, .auto {}, .auto { raw := true }, .auto {}, .auto {}, .call 142 [.v (.int .i64 p1), .v (.int .i64 p2)] (handO (rho ([] ++ [])) [] [] ++ []) (callEv [] [] (.v (.int .i64 x3)) []), .auto { raw := true }]) [4] [] (s1 := ⟨[(4, .v (.int .i64 (IntKind.wrap .i64 ((IntKind.wrap .i64 (p1 + p2)) - x3))))], []⟩) (C := ((([.v (.int .i64 p1), .v (.int .i64 p2)] : List AV) = [.v (.int .i64 p1), .v (.int .i64 p2)]) ∧ True) ∧ True) (by kernel_rfl) ⟨⟨rfl, trivial⟩, trivial⟩ ⟨call_ok (ks := []) (ns := []) (bor := []) (bobjs := []) (s_spec_both p1 p2 x3 e1) (.cons (.c1 (.c0 (.same _ (by kernel_rfl) (by kernel_rfl)))) (.cons (.c1 (.c0 (.same _ (by kernel_rfl) (by kernel_rfl)))) (.nil))) (by kernel_rfl) trivial, trivial⟩ ?_
  refine AX.ret ?_
  refine fin_wk (Wk.forget [4] [] (s' := ⟨[(4, .v (.int .i64 (IntKind.wrap .i64 ((IntKind.wrap .i64 (p1 + p2)) - x3))))], []⟩) (by kernel_rfl)) ?_
  have hr := Option.some.inj h
  subst hr
  exact ⟨_, Wk.refl _, .inr rfl, ⟨[], by kernel_rfl, trivial, [.v (.int .i64 (IntKind.wrap .i64 ((IntKind.wrap .i64 (p1 + p2)) - x3)))], by kernel_rfl, by kernel_rfl⟩⟩

theorem s_spec_mask_L1 (p1 : List (ByteArray × Int)) (n : Nat) (g : Int × Int) (out : Int) (h : m_spec_mask_L1 p1 n g.1 g.2 = some out) :
    AX Try.prog 19 0 (codeAt [1, 1, 0, 1, 1] (bodyOf Try.f76)) ((fun g : Int × Int => (⟨[(0, .bs false 2 (List.map enc_si p1)), (3, .v (.int .i64 g.1)), (4, .v (.int .i64 g.2))], []⟩ : S)) g) (fun ex s => ex = .exit 0 ∧ s = (fun o : Int => (⟨[(3, .v (.int .i64 o))], []⟩ : S)) out) := by
  refine AX.wkpost ?_
  refine AX.loop (G := Nat × (Int × Int)) (fun q => (fun g : Int × Int => (⟨[(0, .bs false 2 (List.map enc_si p1)), (3, .v (.int .i64 g.1)), (4, .v (.int .i64 g.2))], []⟩ : S)) q.2) (fun q => m_spec_mask_L1 p1 q.1 q.2.1 q.2.2 = some out) (fun q => q.1) (n, g) h (Wk.refl _) ?_
  clear h
  rintro ⟨fu, v2, v3⟩ h
  cases fu with
  | zero => cases h
  | succ fu =>
    rw [m_spec_mask_L1] at h
    refine AX.seq ?_
    refine AX.seq ?_
    refine AX.reg (its := [.auto {}, .auto {}, .auto { y := some (.v (.int .i64 (p1.length : Int))) }]) [0, 3, 4, 8] [] (s1 := ⟨[(0, .bs false 2 (List.map enc_si p1)), (3, .v (.int .i64 v2)), (4, .v (.int .i64 v3)), (8, .v (.bool (decide (v3 < (p1.length : Int)))))], []⟩) (C := (True ∧ (AV.v (.int .i64 ((List.map enc_si p1).length : Int)) = AV.v (.int .i64 (p1.length : Int)))) ∧ True) (by kernel_rfl) ⟨⟨trivial, len_map enc_si p1⟩, trivial⟩ trivial ?_
    rcases bool_cases (decide (v3 < (p1.length : Int))) with b1 | b1
    · replace h := cd_t b1 h
      refine AX.condT (decide (v3 < (p1.length : Int))) (by kernel_rfl) b1 ?_
      refine AX.skip ?_
      refine AX.seq ?_
      refine AX.block ?_
      obtain ⟨g2, h⟩ := gd_e h
      obtain ⟨x4, e3, h⟩ := bd_e h
      refine AX.reg (its := [.auto {}, .auto {}, .auto {}, .auto { y := some (.be 2 (enc_si (gt p1 v3)) 0) }, .auto {}, .auto {}, .call 141 [.v (.int .i64 v2), .v (.int .i64 ((gt p1 v3).2))] (handO (rho ([] ++ [])) [] [] ++ []) (callEv [] [] (.v (.int .i64 x4)) [])]) [0, 3, 4] [] (s1 := ⟨[(0, .bs false 2 (List.map enc_si p1)), (3, .v (.int .i64 x4)), (4, .v (.int .i64 v3))], []⟩) (C := ((0 ≤ v3 ∧ v3 < ((List.map enc_si p1).length : Int)) ∧ (AV.be 2 ((List.map enc_si p1).getD v3.toNat []) 0 = AV.be 2 (enc_si (gt p1 v3)) 0)) ∧ ((([.v (.int .i64 v2), .v (.int .i64 ((gt p1 v3).2))] : List AV) = [.v (.int .i64 v2), .v (.int .i64 ((gt p1 v3).2))]) ∧ True) ∧ True) (by kernel_rfl) ⟨idx_bs enc_si p1 v3 2 g2, ⟨⟨rfl, trivial⟩, trivial⟩⟩ ⟨call_ok (ks := []) (ns := []) (bor := []) (bobjs := []) (s_spec_either v2 ((gt p1 v3).2) x4 e3) (.cons (.c1 (.c0 (.same _ (by kernel_rfl) (by kernel_rfl)))) (.cons (.c1 (.c0 (.same _ (by kernel_rfl) (by kernel_rfl)))) (.nil))) (by kernel_rfl) trivial, trivial⟩ ?_
      refine AX.reg (its := [.auto {}, .auto { raw := true }]) [0, 3, 4] [] (s1 := ⟨[(0, .bs false 2 (List.map enc_si p1)), (3, .v (.int .i64 x4)), (4, .v (.int .i64 (IntKind.wrap .i64 (v3 + 1))))], []⟩) (C := True) (by kernel_rfl) trivial trivial ?_
      refine ⟨(fu, (x4, IntKind.wrap .i64 (v3 + 1))), h, Nat.lt_succ_self _, ?_⟩
      refine Wk.trans (Wk.forget [0, 3, 4] [] (s' := ⟨[(0, .bs false 2 (List.map enc_si p1)), (3, .v (.int .i64 x4)), (4, .v (.int .i64 (IntKind.wrap .i64 (v3 + 1))))], []⟩) (by kernel_rfl)) ?_
      exact Wk.refl _
    · replace h := cd_f b1 h
      refine AX.condF (decide (v3 < (p1.length : Int))) (by kernel_rfl) b1 ?_
      refine AX.exit ?_
      refine fin_wk (Wk.forget [3] [] (s' := ⟨[(3, .v (.int .i64 v2))], []⟩) (by kernel_rfl)) ?_
      have hr := Option.some.inj h
      subst hr
      exact ⟨_, Wk.refl _, ⟨rfl, rfl⟩⟩

theorem s_spec_mask (p1 : List (ByteArray × Int)) (r : Int) (h : m_spec_mask p1 = some r) :
    Eng.Spec Try.prog 76 [.bs false 2 (List.map enc_si p1)] [] (.v (.int .i64 r)) [] := by
  unfold m_spec_mask at h
  refine Eng.Spec.body Try.func76 (by kernel_rfl) rfl (by kernel_rfl) ?_
  refine AX.wkpost ?_
  refine AX.seq ?_
  refine AX.reg (its := []) [0] [] (s1 := ⟨[(0, .bs false 2 (List.map enc_si p1))], []⟩) (C := True) (by kernel_rfl) trivial trivial ?_
  refine AX.seq ?_
  refine AX.reg (its := []) [0, 3] [] (s1 := ⟨[(0, .bs false 2 (List.map enc_si p1)), (3, .v (.int .i64 0))], []⟩) (C := True) (by kernel_rfl) trivial trivial ?_
  refine AX.seq ?_
  refine AX.seq ?_
  refine AX.reg (its := []) [0, 3, 4] [] (s1 := ⟨[(0, .bs false 2 (List.map enc_si p1)), (3, .v (.int .i64 0)), (4, .v (.int .i64 0))], []⟩) (C := True) (by kernel_rfl) trivial trivial ?_
  refine AX.block ?_
  obtain ⟨x5, e4, h⟩ := bd_e h
  refine AX.wk (Wk.forget [0, 3, 4] [] (s' := ⟨[(0, .bs false 2 (List.map enc_si p1)), (3, .v (.int .i64 0)), (4, .v (.int .i64 0))], []⟩) (by kernel_rfl)) ?_
  refine AX.mono (s_spec_mask_L1 p1 FU (0, 0) x5 e4) ?_
  rintro _ _ ⟨rfl, rfl⟩
  skip
  refine AX.seq ?_
  refine AX.reg (its := []) [2] [] (s1 := ⟨[(2, .v (.int .i64 x5))], []⟩) (C := True) (by kernel_rfl) trivial trivial ?_
  refine AX.ret ?_
  refine fin_wk (Wk.forget [2] [] (s' := ⟨[(2, .v (.int .i64 x5))], []⟩) (by kernel_rfl)) ?_
  have hr := Option.some.inj h
  subst hr
  exact ⟨_, Wk.refl _, .inr rfl, ⟨[], by kernel_rfl, trivial, [.v (.int .i64 x5)], by kernel_rfl, by kernel_rfl⟩⟩

theorem s_spec_inRange (p1 : Int) (p2 : Int) (p3 : Int) (r : Bool) (h : m_spec_inRange p1 p2 p3 = some r) :
    Eng.Spec Try.prog 93 [.v (.int .i64 p1), .v (.int .i64 p2), .v (.int .i64 p3)] [] (.v (.bool r)) [] := by
  unfold m_spec_inRange at h
  refine Eng.Spec.body Try.func93 (by kernel_rfl) rfl (by kernel_rfl) ?_
  refine AX.wkpost ?_
  refine AX.seq ?_
  refine AX.reg (its := []) [0, 1, 2] [] (s1 := ⟨[(0, .v (.int .i64 p1)), (1, .v (.int .i64 p2)), (2, .v (.int .i64 p3))], []⟩) (C := True) (by kernel_rfl) trivial trivial ?_
  refine AX.seq ?_
  rcases bool_cases (decide (p2 ≤ p1)) with b1 | b1
  · replace h := cd_t b1 h
    refine AX.reg (its := [.auto {}, .auto {}, .auto { y := some (.v (.bool true)) }]) [6] [] (s1 := ⟨[(6, .v (.bool (decide (p1 ≤ p3))))], []⟩) (C := ((True) ∧ ((.v (.bool (decide (p2 ≤ p1))) : AV) = (.v (.bool true) : AV))) ∧ True) (by kernel_rfl) ⟨⟨trivial, (congrArg (fun z => AV.v (.bool z)) b1)⟩, trivial⟩ trivial ?_
    refine AX.ret ?_
    refine fin_wk (Wk.forget [6] [] (s' := ⟨[(6, .v (.bool (decide (p1 ≤ p3))))], []⟩) (by kernel_rfl)) ?_
    have hr := Option.some.inj h
    subst hr
    exact ⟨_, Wk.refl _, .inr rfl, ⟨[], by kernel_rfl, trivial, [.v (.bool (decide (p1 ≤ p3)))], by kernel_rfl, by kernel_rfl⟩⟩
  · replace h := cd_f b1 h
    refine AX.reg (its := [.auto {}, .auto {}, .auto { y := some (.v (.bool false)) }]) [6] [] (s1 := ⟨[(6, .v (.bool false))], []⟩) (C := ((True) ∧ ((.v (.bool (decide (p2 ≤ p1))) : AV) = (.v (.bool false) : AV))) ∧ True) (by kernel_rfl) ⟨⟨trivial, (congrArg (fun z => AV.v (.bool z)) b1)⟩, trivial⟩ trivial ?_
    refine AX.ret ?_
    refine fin_wk (Wk.forget [6] [] (s' := ⟨[(6, .v (.bool false))], []⟩) (by kernel_rfl)) ?_
    have hr := Option.some.inj h
    subst hr
    exact ⟨_, Wk.refl _, .inr rfl, ⟨[], by kernel_rfl, trivial, [.v (.bool false)], by kernel_rfl, by kernel_rfl⟩⟩

theorem s_spec_validName_L1 (p1 : ByteArray) (n : Nat) (g : Int) (out : Unit ⊕ Unit) (h : m_spec_validName_L1 p1 n g = some out) :
    AX Try.prog 23 0 (codeAt [1, 0, 1, 1] (bodyOf Try.f179)) ((fun g : Int => (⟨[(0, .v (.string p1)), (3, .v (.int .i64 g))], []⟩ : S)) g) (fun ex s => (∃ o : Unit, out = Sum.inl o ∧ ex = .ret ∧ s = ⟨[(2, .v (.bool false))], []⟩) ∨ (∃ o : Unit, out = Sum.inr o ∧ ex = .exit 0 ∧ s = ⟨[(0, .v (.string p1))], []⟩)) := by
  refine AX.wkpost ?_
  refine AX.loop (G := Nat × (Int)) (fun q => (fun g : Int => (⟨[(0, .v (.string p1)), (3, .v (.int .i64 g))], []⟩ : S)) q.2) (fun q => m_spec_validName_L1 p1 q.1 q.2 = some out) (fun q => q.1) (n, g) h (Wk.refl _) ?_
  clear h
  rintro ⟨fu, v2⟩ h
  cases fu with
  | zero => cases h
  | succ fu =>
    rw [m_spec_validName_L1] at h
    refine AX.seq ?_
    refine AX.seq ?_
    refine AX.reg (its := []) [0, 3, 7] [] (s1 := ⟨[(0, .v (.string p1)), (3, .v (.int .i64 v2)), (7, .v (.bool (decide (v2 < (p1.size : Int)))))], []⟩) (C := True) (by kernel_rfl) trivial trivial ?_
    rcases bool_cases (decide (v2 < (p1.size : Int))) with b1 | b1
    · replace h := cd_t b1 h
      refine AX.condT (decide (v2 < (p1.size : Int))) (by kernel_rfl) b1 ?_
      refine AX.skip ?_
      refine AX.seq ?_
      refine AX.block ?_
      refine AX.seq ?_
      obtain ⟨g2, h⟩ := gd_e h
      rcases bool_cases (decide ((byteAt p1 v2.toNat) < 97)) with b3 | b3
      · replace h := cd_t b3 h
        refine AX.reg (its := [.auto {}, .auto {}, .auto {}, .auto { y := some (.v (.bool true)) }]) [0, 3, 19] [] (s1 := ⟨[(0, .v (.string p1)), (3, .v (.int .i64 v2)), (19, .v (.bool true))], []⟩) (C := (0 ≤ v2 ∧ v2 < (p1.size : Int)) ∧ ((True) ∧ ((.v (.bool (decide ((byteAt p1 v2.toNat) < 97))) : AV) = (.v (.bool true) : AV))) ∧ True) (by kernel_rfl) ⟨g2, ⟨⟨trivial, (congrArg (fun z => AV.v (.bool z)) b3)⟩, trivial⟩⟩ trivial ?_
        refine AX.cond_true (by kernel_rfl) ?_
        refine AX.seq ?_
        refine AX.reg (its := []) [2] [] (s1 := ⟨[(2, .v (.bool false))], []⟩) (C := True) (by kernel_rfl) trivial trivial ?_
        refine AX.ret ?_
        refine fin_wk (Wk.forget [2] [] (s' := ⟨[(2, .v (.bool false))], []⟩) (by kernel_rfl)) ?_
        have hr := Option.some.inj h
        subst hr
        exact ⟨_, Wk.refl _, .inl ⟨(), rfl, rfl, rfl⟩⟩
      · replace h := cd_f b3 h
        refine AX.reg (its := [.auto {}, .auto {}, .auto {}, .auto { y := some (.v (.bool false)) }]) [0, 3, 19] [] (s1 := ⟨[(0, .v (.string p1)), (3, .v (.int .i64 v2)), (19, .v (.bool (decide (122 < (byteAt p1 v2.toNat)))))], []⟩) (C := (0 ≤ v2 ∧ v2 < (p1.size : Int)) ∧ ((True) ∧ ((.v (.bool (decide ((byteAt p1 v2.toNat) < 97))) : AV) = (.v (.bool false) : AV))) ∧ (0 ≤ v2 ∧ v2 < (p1.size : Int)) ∧ True) (by kernel_rfl) ⟨g2, ⟨⟨trivial, (congrArg (fun z => AV.v (.bool z)) b3)⟩, ⟨g2, trivial⟩⟩⟩ trivial ?_
        rcases bool_cases (decide (122 < (byteAt p1 v2.toNat))) with b4 | b4
        · replace h := cd_t b4 h
          refine AX.condT (decide (122 < (byteAt p1 v2.toNat))) (by kernel_rfl) b4 ?_
          refine AX.seq ?_
          refine AX.reg (its := []) [2] [] (s1 := ⟨[(2, .v (.bool false))], []⟩) (C := True) (by kernel_rfl) trivial trivial ?_
          refine AX.ret ?_
          refine fin_wk (Wk.forget [2] [] (s' := ⟨[(2, .v (.bool false))], []⟩) (by kernel_rfl)) ?_
          have hr := Option.some.inj h
          subst hr
          exact ⟨_, Wk.refl _, .inl ⟨(), rfl, rfl, rfl⟩⟩
        · replace h := cd_f b4 h
          refine AX.condF (decide (122 < (byteAt p1 v2.toNat))) (by kernel_rfl) b4 ?_
          refine AX.skip ?_
          refine AX.reg (its := [.auto {}, .auto { raw := true }]) [0, 3] [] (s1 := ⟨[(0, .v (.string p1)), (3, .v (.int .i64 (IntKind.wrap .i64 (v2 + 1))))], []⟩) (C := True) (by kernel_rfl) trivial trivial ?_
          refine ⟨(fu, IntKind.wrap .i64 (v2 + 1)), h, Nat.lt_succ_self _, ?_⟩
          refine Wk.trans (Wk.forget [0, 3] [] (s' := ⟨[(0, .v (.string p1)), (3, .v (.int .i64 (IntKind.wrap .i64 (v2 + 1))))], []⟩) (by kernel_rfl)) ?_
          exact Wk.refl _
    · replace h := cd_f b1 h
      refine AX.condF (decide (v2 < (p1.size : Int))) (by kernel_rfl) b1 ?_
      refine AX.exit ?_
      refine fin_wk (Wk.forget [0] [] (s' := ⟨[(0, .v (.string p1))], []⟩) (by kernel_rfl)) ?_
      have hr := Option.some.inj h
      subst hr
      exact ⟨_, Wk.refl _, .inr ⟨(), rfl, rfl, rfl⟩⟩

theorem s_spec_validName (p1 : ByteArray) (r : Bool) (h : m_spec_validName p1 = some r) :
    Eng.Spec Try.prog 179 [.v (.string p1)] [] (.v (.bool r)) [] := by
  unfold m_spec_validName at h
  refine Eng.Spec.body Try.func179 (by kernel_rfl) rfl (by kernel_rfl) ?_
  refine AX.wkpost ?_
  refine AX.seq ?_
  refine AX.reg (its := []) [0] [] (s1 := ⟨[(0, .v (.string p1))], []⟩) (C := True) (by kernel_rfl) trivial trivial ?_
  refine AX.seq ?_
  refine AX.seq ?_
  refine AX.reg (its := []) [0, 3] [] (s1 := ⟨[(0, .v (.string p1)), (3, .v (.int .i64 0))], []⟩) (C := True) (by kernel_rfl) trivial trivial ?_
  refine AX.block ?_
  obtain ⟨x3, e5, h⟩ := bd_e h
  refine AX.wk (Wk.forget [0, 3] [] (s' := ⟨[(0, .v (.string p1)), (3, .v (.int .i64 0))], []⟩) (by kernel_rfl)) ?_
  refine AX.mono (s_spec_validName_L1 p1 FU 0 x3 e5) ?_
  rintro _ _ (⟨x4, rfl, rfl, rfl⟩ | ⟨x5, rfl, rfl, rfl⟩)
  · replace h := sm_l h
    refine fin_wk (Wk.forget [2] [] (s' := ⟨[(2, .v (.bool false))], []⟩) (by kernel_rfl)) ?_
    have hr := Option.some.inj h
    subst hr
    exact ⟨_, Wk.refl _, .inr rfl, ⟨[], by kernel_rfl, trivial, [.v (.bool false)], by kernel_rfl, by kernel_rfl⟩⟩
  · replace h := sm_r h
    refine AX.seq ?_
    obtain ⟨x6, e6, h⟩ := bd_e h
    refine AX.reg (its := [.auto {}, .auto {}, .call 93 [.v (.int .i64 (p1.size : Int)), .v (.int .i64 1), .v (.int .i64 6)] (handO (rho ([] ++ [])) [] [] ++ []) (callEv [] [] (.v (.bool x6)) [])]) [2] [] (s1 := ⟨[(2, .v (.bool x6))], []⟩) (C := ((([.v (.int .i64 (p1.size : Int)), .v (.int .i64 1), .v (.int .i64 6)] : List AV) = [.v (.int .i64 (p1.size : Int)), .v (.int .i64 1), .v (.int .i64 6)]) ∧ True) ∧ True) (by kernel_rfl) ⟨⟨rfl, trivial⟩, trivial⟩ ⟨call_ok (ks := []) (ns := []) (bor := []) (bobjs := []) (s_spec_inRange (p1.size : Int) 1 6 x6 e6) (.cons (.c1 (.c0 (.same _ (by kernel_rfl) (by kernel_rfl)))) (.cons (.c1 (.c0 (.same _ (by kernel_rfl) (by kernel_rfl)))) (.cons (.c1 (.c0 (.same _ (by kernel_rfl) (by kernel_rfl)))) (.nil)))) (by kernel_rfl) trivial, trivial⟩ ?_
    refine AX.ret ?_
    refine fin_wk (Wk.forget [2] [] (s' := ⟨[(2, .v (.bool x6))], []⟩) (by kernel_rfl)) ?_
    have hr := Option.some.inj h
    subst hr
    exact ⟨_, Wk.refl _, .inr rfl, ⟨[], by kernel_rfl, trivial, [.v (.bool x6)], by kernel_rfl, by kernel_rfl⟩⟩

theorem s_spec_indexOf_L1 (p1 : List (ByteArray × Int)) (p2 : ByteArray) (n : Nat) (g : Int) (out : Int ⊕ Unit) (h : m_spec_indexOf_L1 p1 p2 n g = some out) :
    AX Try.prog 20 0 (codeAt [1, 0, 1, 1] (bodyOf Try.f161)) ((fun g : Int => (⟨[(0, .bs false 2 (List.map enc_si p1)), (1, .v (.string p2)), (5, .v (.int .i64 g))], []⟩ : S)) g) (fun ex s => (∃ o : Int, out = Sum.inl o ∧ ex = .ret ∧ s = ⟨[(4, .v (.int .i64 o))], []⟩) ∨ (∃ o : Unit, out = Sum.inr o ∧ ex = .exit 0 ∧ s = ⟨[], []⟩)) := by
  refine AX.wkpost ?_
  refine AX.loop (G := Nat × (Int)) (fun q => (fun g : Int => (⟨[(0, .bs false 2 (List.map enc_si p1)), (1, .v (.string p2)), (5, .v (.int .i64 g))], []⟩ : S)) q.2) (fun q => m_spec_indexOf_L1 p1 p2 q.1 q.2 = some out) (fun q => q.1) (n, g) h (Wk.refl _) ?_
  clear h
  rintro ⟨fu, v3⟩ h
  cases fu with
  | zero => cases h
  | succ fu =>
    rw [m_spec_indexOf_L1] at h
    refine AX.seq ?_
    refine AX.seq ?_
    refine AX.reg (its := [.auto {}, .auto {}, .auto { y := some (.v (.int .i64 (p1.length : Int))) }]) [0, 1, 5, 9] [] (s1 := ⟨[(0, .bs false 2 (List.map enc_si p1)), (1, .v (.string p2)), (5, .v (.int .i64 v3)), (9, .v (.bool (decide (v3 < (p1.length : Int)))))], []⟩) (C := (True ∧ (AV.v (.int .i64 ((List.map enc_si p1).length : Int)) = AV.v (.int .i64 (p1.length : Int)))) ∧ True) (by kernel_rfl) ⟨⟨trivial, len_map enc_si p1⟩, trivial⟩ trivial ?_
    rcases bool_cases (decide (v3 < (p1.length : Int))) with b1 | b1
    · replace h := cd_t b1 h
      refine AX.condT (decide (v3 < (p1.length : Int))) (by kernel_rfl) b1 ?_
      refine AX.skip ?_
      refine AX.seq ?_
      refine AX.block ?_
      refine AX.seq ?_
      obtain ⟨g2, h⟩ := gd_e h
      refine AX.reg (its := [.auto {}, .auto {}, .auto { y := some (.be 2 (enc_si (gt p1 v3)) 0) }]) [0, 1, 5, 18] [] (s1 := ⟨[(0, .bs false 2 (List.map enc_si p1)), (1, .v (.string p2)), (5, .v (.int .i64 v3)), (18, .v (.bool (decide (((gt p1 v3).1) = p2))))], []⟩) (C := ((0 ≤ v3 ∧ v3 < ((List.map enc_si p1).length : Int)) ∧ (AV.be 2 ((List.map enc_si p1).getD v3.toNat []) 0 = AV.be 2 (enc_si (gt p1 v3)) 0)) ∧ True) (by kernel_rfl) ⟨idx_bs enc_si p1 v3 2 g2, trivial⟩ trivial ?_
      rcases bool_cases (decide (((gt p1 v3).1) = p2)) with b3 | b3
      · replace h := cd_t b3 h
        refine AX.condT (decide (((gt p1 v3).1) = p2)) (by kernel_rfl) b3 ?_
        refine AX.seq ?_
        refine AX.reg (its := []) [4] [] (s1 := ⟨[(4, .v (.int .i64 v3))], []⟩) (C := True) (by kernel_rfl) trivial trivial ?_
        refine AX.ret ?_
        refine fin_wk (Wk.forget [4] [] (s' := ⟨[(4, .v (.int .i64 v3))], []⟩) (by kernel_rfl)) ?_
        have hr := Option.some.inj h
        subst hr
        exact ⟨_, Wk.refl _, .inl ⟨v3, rfl, rfl, rfl⟩⟩
      · replace h := cd_f b3 h
        refine AX.condF (decide (((gt p1 v3).1) = p2)) (by kernel_rfl) b3 ?_
        refine AX.skip ?_
        refine AX.reg (its := [.auto {}, .auto { raw := true }]) [0, 1, 5] [] (s1 := ⟨[(0, .bs false 2 (List.map enc_si p1)), (1, .v (.string p2)), (5, .v (.int .i64 (IntKind.wrap .i64 (v3 + 1))))], []⟩) (C := True) (by kernel_rfl) trivial trivial ?_
        refine ⟨(fu, IntKind.wrap .i64 (v3 + 1)), h, Nat.lt_succ_self _, ?_⟩
        refine Wk.trans (Wk.forget [0, 1, 5] [] (s' := ⟨[(0, .bs false 2 (List.map enc_si p1)), (1, .v (.string p2)), (5, .v (.int .i64 (IntKind.wrap .i64 (v3 + 1))))], []⟩) (by kernel_rfl)) ?_
        exact Wk.refl _
    · replace h := cd_f b1 h
      refine AX.condF (decide (v3 < (p1.length : Int))) (by kernel_rfl) b1 ?_
      refine AX.exit ?_
      refine fin_wk (Wk.forget [] [] (s' := ⟨[], []⟩) (by kernel_rfl)) ?_
      have hr := Option.some.inj h
      subst hr
      exact ⟨_, Wk.refl _, .inr ⟨(), rfl, rfl, rfl⟩⟩

theorem s_spec_indexOf (p1 : List (ByteArray × Int)) (p2 : ByteArray) (r : Int) (h : m_spec_indexOf p1 p2 = some r) :
    Eng.Spec Try.prog 161 [.bs false 2 (List.map enc_si p1), .v (.string p2)] [] (.v (.int .i64 r)) [] := by
  unfold m_spec_indexOf at h
  refine Eng.Spec.body Try.func161 (by kernel_rfl) rfl (by kernel_rfl) ?_
  refine AX.wkpost ?_
  refine AX.seq ?_
  refine AX.reg (its := []) [0, 1] [] (s1 := ⟨[(0, .bs false 2 (List.map enc_si p1)), (1, .v (.string p2))], []⟩) (C := True) (by kernel_rfl) trivial trivial ?_
  refine AX.seq ?_
  refine AX.seq ?_
  refine AX.reg (its := []) [0, 1, 5] [] (s1 := ⟨[(0, .bs false 2 (List.map enc_si p1)), (1, .v (.string p2)), (5, .v (.int .i64 0))], []⟩) (C := True) (by kernel_rfl) trivial trivial ?_
  refine AX.block ?_
  obtain ⟨x4, e4, h⟩ := bd_e h
  refine AX.wk (Wk.forget [0, 1, 5] [] (s' := ⟨[(0, .bs false 2 (List.map enc_si p1)), (1, .v (.string p2)), (5, .v (.int .i64 0))], []⟩) (by kernel_rfl)) ?_
  refine AX.mono (s_spec_indexOf_L1 p1 p2 FU 0 x4 e4) ?_
  rintro _ _ (⟨x5, rfl, rfl, rfl⟩ | ⟨x6, rfl, rfl, rfl⟩)
  · replace h := sm_l h
    refine fin_wk (Wk.forget [4] [] (s' := ⟨[(4, .v (.int .i64 x5))], []⟩) (by kernel_rfl)) ?_
    have hr := Option.some.inj h
    subst hr
    exact ⟨_, Wk.refl _, .inr rfl, ⟨[], by kernel_rfl, trivial, [.v (.int .i64 x5)], by kernel_rfl, by kernel_rfl⟩⟩
  · replace h := sm_r h
    refine AX.seq ?_
    refine AX.reg (its := []) [4] [] (s1 := ⟨[(4, .v (.int .i64 (-1)))], []⟩) (C := True) (by kernel_rfl) trivial trivial ?_
    refine AX.ret ?_
    refine fin_wk (Wk.forget [4] [] (s' := ⟨[(4, .v (.int .i64 (-1)))], []⟩) (by kernel_rfl)) ?_
    have hr := Option.some.inj h
    subst hr
    exact ⟨_, Wk.refl _, .inr rfl, ⟨[], by kernel_rfl, trivial, [.v (.int .i64 (-1))], by kernel_rfl, by kernel_rfl⟩⟩

theorem s_spec_validDefs_L1 (p1 : List (ByteArray × Int)) (p2 : Int) (p3 : Int) (n : Nat) (g : Int) (out : Unit ⊕ Unit) (h : m_spec_validDefs_L1 p1 p2 p3 n g = some out) :
    AX Try.prog 47 0 (codeAt [1, 0, 1, 1] (bodyOf Try.f140)) ((fun g : Int => (⟨[(0, .bs false 2 (List.map enc_si p1)), (1, .v (.int .i64 p2)), (2, .v (.int .i64 p3)), (7, .v (.int .i64 g))], []⟩ : S)) g) (fun ex s => (∃ o : Unit, out = Sum.inl o ∧ ex = .ret ∧ s = ⟨[(6, .v (.bool false))], []⟩) ∨ (∃ o : Unit, out = Sum.inr o ∧ ex = .exit 0 ∧ s = ⟨[(0, .bs false 2 (List.map enc_si p1))], []⟩)) := by
  refine AX.wkpost ?_
  refine AX.loop (G := Nat × (Int)) (fun q => (fun g : Int => (⟨[(0, .bs false 2 (List.map enc_si p1)), (1, .v (.int .i64 p2)), (2, .v (.int .i64 p3)), (7, .v (.int .i64 g))], []⟩ : S)) q.2) (fun q => m_spec_validDefs_L1 p1 p2 p3 q.1 q.2 = some out) (fun q => q.1) (n, g) h (Wk.refl _) ?_
  clear h
  rintro ⟨fu, v4⟩ h
  cases fu with
  | zero => cases h
  | succ fu =>
    rw [m_spec_validDefs_L1] at h
    refine AX.seq ?_
    refine AX.seq ?_
    refine AX.reg (its := [.auto {}, .auto {}, .auto { y := some (.v (.int .i64 (p1.length : Int))) }]) [0, 1, 2, 7, 11] [] (s1 := ⟨[(0, .bs false 2 (List.map enc_si p1)), (1, .v (.int .i64 p2)), (2, .v (.int .i64 p3)), (7, .v (.int .i64 v4)), (11, .v (.bool (decide (v4 < (p1.length : Int)))))], []⟩) (C := (True ∧ (AV.v (.int .i64 ((List.map enc_si p1).length : Int)) = AV.v (.int .i64 (p1.length : Int)))) ∧ True) (by kernel_rfl) ⟨⟨trivial, len_map enc_si p1⟩, trivial⟩ trivial ?_
    rcases bool_cases (decide (v4 < (p1.length : Int))) with b1 | b1
    · replace h := cd_t b1 h
      refine AX.condT (decide (v4 < (p1.length : Int))) (by kernel_rfl) b1 ?_
      refine AX.skip ?_
      refine AX.seq ?_
      refine AX.block ?_
      refine AX.seq ?_
      obtain ⟨g2, h⟩ := gd_e h
      obtain ⟨x5, e3, h⟩ := bd_e h
      rcases bool_cases ((!x5)) with b4 | b4
      · replace h := cd_t b4 h
        refine AX.drw mixed (its := [.auto {}, .auto {}, .auto { y := some (.be 2 (enc_si (gt p1 v4)) 0) }, .auto {}, .auto {}, .call 179 [.v (.string ((gt p1 v4).1))] (handO (rho ([] ++ [])) [] [] ++ []) (callEv [] [] (.v (.bool x5)) []), .auto { y := some (.v (.bool true)) }]) [0, 1, 2, 7, 43] [] (s1 := ⟨[(0, .bs false 2 (List.map enc_si p1)), (1, .v (.int .i64 p2)), (2, .v (.int .i64 p3)), (7, .v (.int .i64 v4)), (43, .v (.bool true))], []⟩) (C := ((0 ≤ v4 ∧ v4 < ((List.map enc_si p1).length : Int)) ∧ (AV.be 2 ((List.map enc_si p1).getD v4.toNat []) 0 = AV.be 2 (enc_si (gt p1 v4)) 0)) ∧ ((([.v (.string ((gt p1 v4).1))] : List AV) = [.v (.string ((gt p1 v4).1))]) ∧ True) ∧ ((True) ∧ ((.v (.bool (!x5)) : AV) = (.v (.bool true) : AV))) ∧ True) (by kernel_rfl) ⟨idx_bs enc_si p1 v4 2 g2, ⟨⟨rfl, trivial⟩, ⟨⟨trivial, (congrArg (fun z => AV.v (.bool z)) b4)⟩, trivial⟩⟩⟩ ⟨call_ok (ks := []) (ns := []) (bor := []) (bobjs := []) (s_spec_validName ((gt p1 v4).1) x5 e3) (.cons (.c1 (.c0 (.same _ (by kernel_rfl) (by kernel_rfl)))) (.nil)) (by kernel_rfl) trivial, trivial⟩ ?_
        refine AX.cond_true (by kernel_rfl) ?_
        refine AX.seq ?_
        refine AX.reg (its := []) [6] [] (s1 := ⟨[(6, .v (.bool false))], []⟩) (C := True) (by kernel_rfl) trivial trivial ?_
        refine AX.ret ?_
        refine fin_wk (Wk.forget [6] [] (s' := ⟨[(6, .v (.bool false))], []⟩) (by kernel_rfl)) ?_
        have hr := Option.some.inj h
        subst hr
        exact ⟨_, Wk.refl _, .inl ⟨(), rfl, rfl, rfl⟩⟩
      · replace h := cd_f b4 h
        obtain ⟨x6, e5, h⟩ := bd_e h
        rcases bool_cases ((!x6)) with b6 | b6
        · replace h := cd_t b6 h
          refine AX.drw mixed (its := [.auto {}, .auto {}, .auto { y := some (.be 2 (enc_si (gt p1 v4)) 0) }, .auto {}, .auto {}, .call 179 [.v (.string ((gt p1 v4).1))] (handO (rho ([] ++ [])) [] [] ++ []) (callEv [] [] (.v (.bool x5)) []), .auto { y := some (.v (.bool false)) }, .auto {}, .auto {}, .auto {}, .auto { y := some (.be 2 (enc_si (gt p1 v4)) 0) }, .auto {}, .auto {}, .auto {}, .auto {}, .call 93 [.v (.int .i64 ((gt p1 v4).2)), .v (.int .i64 p2), .v (.int .i64 p3)] (handO (rho ([] ++ [])) [] [] ++ []) (callEv [] [] (.v (.bool x6)) []), .auto { y := some (.v (.bool true)) }]) [0, 1, 2, 7, 43] [] (s1 := ⟨[(0, .bs false 2 (List.map enc_si p1)), (1, .v (.int .i64 p2)), (2, .v (.int .i64 p3)), (7, .v (.int .i64 v4)), (43, .v (.bool true))], []⟩) (C := ((0 ≤ v4 ∧ v4 < ((List.map enc_si p1).length : Int)) ∧ (AV.be 2 ((List.map enc_si p1).getD v4.toNat []) 0 = AV.be 2 (enc_si (gt p1 v4)) 0)) ∧ ((([.v (.string ((gt p1 v4).1))] : List AV) = [.v (.string ((gt p1 v4).1))]) ∧ True) ∧ ((True) ∧ ((.v (.bool (!x5)) : AV) = (.v (.bool false) : AV))) ∧ ((0 ≤ v4 ∧ v4 < ((List.map enc_si p1).length : Int)) ∧ (AV.be 2 ((List.map enc_si p1).getD v4.toNat []) 0 = AV.be 2 (enc_si (gt p1 v4)) 0)) ∧ ((([.v (.int .i64 ((gt p1 v4).2)), .v (.int .i64 p2), .v (.int .i64 p3)] : List AV) = [.v (.int .i64 ((gt p1 v4).2)), .v (.int .i64 p2), .v (.int .i64 p3)]) ∧ True) ∧ ((True) ∧ ((.v (.bool (!x6)) : AV) = (.v (.bool true) : AV))) ∧ True) (by kernel_rfl) ⟨idx_bs enc_si p1 v4 2 g2, ⟨⟨rfl, trivial⟩, ⟨⟨trivial, (congrArg (fun z => AV.v (.bool z)) b4)⟩, ⟨idx_bs enc_si p1 v4 2 g2, ⟨⟨rfl, trivial⟩, ⟨⟨trivial, (congrArg (fun z => AV.v (.bool z)) b6)⟩, trivial⟩⟩⟩⟩⟩⟩ ⟨call_ok (ks := []) (ns := []) (bor := []) (bobjs := []) (s_spec_validName ((gt p1 v4).1) x5 e3) (.cons (.c1 (.c0 (.same _ (by kernel_rfl) (by kernel_rfl)))) (.nil)) (by kernel_rfl) trivial, ⟨call_ok (ks := []) (ns := []) (bor := []) (bobjs := []) (s_spec_inRange ((gt p1 v4).2) p2 p3 x6 e5) (.cons (.c1 (.c0 (.same _ (by kernel_rfl) (by kernel_rfl)))) (.cons (.c1 (.c0 (.same _ (by kernel_rfl) (by kernel_rfl)))) (.cons (.c1 (.c0 (.same _ (by kernel_rfl) (by kernel_rfl)))) (.nil)))) (by kernel_rfl) trivial, trivial⟩⟩ ?_
          refine AX.cond_true (by kernel_rfl) ?_
          refine AX.seq ?_
          refine AX.reg (its := []) [6] [] (s1 := ⟨[(6, .v (.bool false))], []⟩) (C := True) (by kernel_rfl) trivial trivial ?_
          refine AX.ret ?_
          refine fin_wk (Wk.forget [6] [] (s' := ⟨[(6, .v (.bool false))], []⟩) (by kernel_rfl)) ?_
          have hr := Option.some.inj h
          subst hr
          exact ⟨_, Wk.refl _, .inl ⟨(), rfl, rfl, rfl⟩⟩
        · replace h := cd_f b6 h
          obtain ⟨g7, h⟩ := gd_e h
          obtain ⟨x7, e8, h⟩ := bd_e h
          refine AX.drw mixed (its := [.auto {}, .auto {}, .auto { y := some (.be 2 (enc_si (gt p1 v4)) 0) }, .auto {}, .auto {}, .call 179 [.v (.string ((gt p1 v4).1))] (handO (rho ([] ++ [])) [] [] ++ []) (callEv [] [] (.v (.bool x5)) []), .auto { y := some (.v (.bool false)) }, .auto {}, .auto {}, .auto {}, .auto { y := some (.be 2 (enc_si (gt p1 v4)) 0) }, .auto {}, .auto {}, .auto {}, .auto {}, .call 93 [.v (.int .i64 ((gt p1 v4).2)), .v (.int .i64 p2), .v (.int .i64 p3)] (handO (rho ([] ++ [])) [] [] ++ []) (callEv [] [] (.v (.bool x6)) []), .auto { y := some (.v (.bool false)) }, .auto {}, .auto {}, .auto {}, .auto {}, .auto { y := some (.bs false 2 (List.map enc_si (sub p1 (0 : Int) v4))) }, .auto {}, .auto {}, .auto { y := some (.be 2 (enc_si (gt p1 v4)) 0) }, .auto {}, .auto {}, .call 161 [.bs false 2 (List.map enc_si (sub p1 (0 : Int) v4)), .v (.string ((gt p1 v4).1))] (handO (rho ([] ++ [])) [] [] ++ []) (callEv [] [] (.v (.int .i64 x7)) [])]) [0, 1, 2, 7, 43] [] (s1 := ⟨[(0, .bs false 2 (List.map enc_si p1)), (1, .v (.int .i64 p2)), (2, .v (.int .i64 p3)), (7, .v (.int .i64 v4)), (43, .v (.bool (decide (0 ≤ x7))))], []⟩) (C := ((0 ≤ v4 ∧ v4 < ((List.map enc_si p1).length : Int)) ∧ (AV.be 2 ((List.map enc_si p1).getD v4.toNat []) 0 = AV.be 2 (enc_si (gt p1 v4)) 0)) ∧ ((([.v (.string ((gt p1 v4).1))] : List AV) = [.v (.string ((gt p1 v4).1))]) ∧ True) ∧ ((True) ∧ ((.v (.bool (!x5)) : AV) = (.v (.bool false) : AV))) ∧ ((0 ≤ v4 ∧ v4 < ((List.map enc_si p1).length : Int)) ∧ (AV.be 2 ((List.map enc_si p1).getD v4.toNat []) 0 = AV.be 2 (enc_si (gt p1 v4)) 0)) ∧ ((([.v (.int .i64 ((gt p1 v4).2)), .v (.int .i64 p2), .v (.int .i64 p3)] : List AV) = [.v (.int .i64 ((gt p1 v4).2)), .v (.int .i64 p2), .v (.int .i64 p3)]) ∧ True) ∧ ((True) ∧ ((.v (.bool (!x6)) : AV) = (.v (.bool false) : AV))) ∧ ((0 ≤ (0 : Int) ∧ (0 : Int) ≤ v4 ∧ v4 ≤ ((List.map enc_si p1).length : Int) ∧ ((List.map enc_si p1).length : Int) ≤ ((List.map enc_si p1).length : Int)) ∧ (AV.bs false 2 (((List.map enc_si p1).drop (0 : Int).toNat).take (v4.toNat - (0 : Int).toNat)) = (.bs false 2 (List.map enc_si (sub p1 (0 : Int) v4)) : AV))) ∧ ((0 ≤ v4 ∧ v4 < ((List.map enc_si p1).length : Int)) ∧ (AV.be 2 ((List.map enc_si p1).getD v4.toNat []) 0 = AV.be 2 (enc_si (gt p1 v4)) 0)) ∧ ((([.bs false 2 (List.map enc_si (sub p1 (0 : Int) v4)), .v (.string ((gt p1 v4).1))] : List AV) = [.bs false 2 (List.map enc_si (sub p1 (0 : Int) v4)), .v (.string ((gt p1 v4).1))]) ∧ True) ∧ True) (by kernel_rfl) ⟨idx_bs enc_si p1 v4 2 g2, ⟨⟨rfl, trivial⟩, ⟨⟨trivial, (congrArg (fun z => AV.v (.bool z)) b4)⟩, ⟨idx_bs enc_si p1 v4 2 g2, ⟨⟨rfl, trivial⟩, ⟨⟨trivial, (congrArg (fun z => AV.v (.bool z)) b6)⟩, ⟨⟨by first | exact g7 | simpa only [List.length_map] using g7, by first | exact sub_can enc_si p1 (0 : Int) v4 false 2 | (simp only [List.length_map]; exact sub_can enc_si p1 (0 : Int) v4 false 2)⟩, ⟨idx_bs enc_si p1 v4 2 g2, ⟨⟨rfl, trivial⟩, trivial⟩⟩⟩⟩⟩⟩⟩⟩⟩ ⟨call_ok (ks := []) (ns := []) (bor := []) (bobjs := []) (s_spec_validName ((gt p1 v4).1) x5 e3) (.cons (.c1 (.c0 (.same _ (by kernel_rfl) (by kernel_rfl)))) (.nil)) (by kernel_rfl) trivial, ⟨call_ok (ks := []) (ns := []) (bor := []) (bobjs := []) (s_spec_inRange ((gt p1 v4).2) p2 p3 x6 e5) (.cons (.c1 (.c0 (.same _ (by kernel_rfl) (by kernel_rfl)))) (.cons (.c1 (.c0 (.same _ (by kernel_rfl) (by kernel_rfl)))) (.cons (.c1 (.c0 (.same _ (by kernel_rfl) (by kernel_rfl)))) (.nil)))) (by kernel_rfl) trivial, ⟨call_ok (ks := []) (ns := []) (bor := []) (bobjs := []) (s_spec_indexOf (sub p1 (0 : Int) v4) ((gt p1 v4).1) x7 e8) (.cons (.c1 (.c0 (.same _ (by kernel_rfl) (by kernel_rfl)))) (.cons (.c1 (.c0 (.same _ (by kernel_rfl) (by kernel_rfl)))) (.nil))) (by kernel_rfl) trivial, trivial⟩⟩⟩ ?_
          rcases bool_cases (decide (0 ≤ x7)) with b9 | b9
          · replace h := cd_t b9 h
            refine AX.condT (decide (0 ≤ x7)) (by kernel_rfl) b9 ?_
            refine AX.seq ?_
            refine AX.reg (its := []) [6] [] (s1 := ⟨[(6, .v (.bool false))], []⟩) (C := True) (by kernel_rfl) trivial trivial ?_
            refine AX.ret ?_
            refine fin_wk (Wk.forget [6] [] (s' := ⟨[(6, .v (.bool false))], []⟩) (by kernel_rfl)) ?_
            have hr := Option.some.inj h
            subst hr
            exact ⟨_, Wk.refl _, .inl ⟨(), rfl, rfl, rfl⟩⟩
          · replace h := cd_f b9 h
            refine AX.condF (decide (0 ≤ x7)) (by kernel_rfl) b9 ?_
            refine AX.skip ?_
            refine AX.reg (its := [.auto {}, .auto { raw := true }]) [0, 1, 2, 7] [] (s1 := ⟨[(0, .bs false 2 (List.map enc_si p1)), (1, .v (.int .i64 p2)), (2, .v (.int .i64 p3)), (7, .v (.int .i64 (IntKind.wrap .i64 (v4 + 1))))], []⟩) (C := True) (by kernel_rfl) trivial trivial ?_
            refine ⟨(fu, IntKind.wrap .i64 (v4 + 1)), h, Nat.lt_succ_self _, ?_⟩
            refine Wk.trans (Wk.forget [0, 1, 2, 7] [] (s' := ⟨[(0, .bs false 2 (List.map enc_si p1)), (1, .v (.int .i64 p2)), (2, .v (.int .i64 p3)), (7, .v (.int .i64 (IntKind.wrap .i64 (v4 + 1))))], []⟩) (by kernel_rfl)) ?_
            exact Wk.refl _
    · replace h := cd_f b1 h
      refine AX.condF (decide (v4 < (p1.length : Int))) (by kernel_rfl) b1 ?_
      refine AX.exit ?_
      refine fin_wk (Wk.forget [0] [] (s' := ⟨[(0, .bs false 2 (List.map enc_si p1))], []⟩) (by kernel_rfl)) ?_
      have hr := Option.some.inj h
      subst hr
      exact ⟨_, Wk.refl _, .inr ⟨(), rfl, rfl, rfl⟩⟩

theorem s_spec_validDefs (p1 : List (ByteArray × Int)) (p2 : Int) (p3 : Int) (r : Bool) (h : m_spec_validDefs p1 p2 p3 = some r) :
    Eng.Spec Try.prog 140 [.bs false 2 (List.map enc_si p1), .v (.int .i64 p2), .v (.int .i64 p3)] [] (.v (.bool r)) [] := by
  unfold m_spec_validDefs at h
  refine Eng.Spec.body Try.func140 (by kernel_rfl) rfl (by kernel_rfl) ?_
  refine AX.wkpost ?_
  refine AX.seq ?_
  refine AX.reg (its := []) [0, 1, 2] [] (s1 := ⟨[(0, .bs false 2 (List.map enc_si p1)), (1, .v (.int .i64 p2)), (2, .v (.int .i64 p3))], []⟩) (C := True) (by kernel_rfl) trivial trivial ?_
  refine AX.seq ?_
  refine AX.seq ?_
  refine AX.reg (its := []) [0, 1, 2, 7] [] (s1 := ⟨[(0, .bs false 2 (List.map enc_si p1)), (1, .v (.int .i64 p2)), (2, .v (.int .i64 p3)), (7, .v (.int .i64 0))], []⟩) (C := True) (by kernel_rfl) trivial trivial ?_
  refine AX.block ?_
  obtain ⟨x8, e10, h⟩ := bd_e h
  refine AX.wk (Wk.forget [0, 1, 2, 7] [] (s' := ⟨[(0, .bs false 2 (List.map enc_si p1)), (1, .v (.int .i64 p2)), (2, .v (.int .i64 p3)), (7, .v (.int .i64 0))], []⟩) (by kernel_rfl)) ?_
  refine AX.mono (s_spec_validDefs_L1 p1 p2 p3 FU 0 x8 e10) ?_
  rintro _ _ (⟨x9, rfl, rfl, rfl⟩ | ⟨x10, rfl, rfl, rfl⟩)
  · replace h := sm_l h
    refine fin_wk (Wk.forget [6] [] (s' := ⟨[(6, .v (.bool false))], []⟩) (by kernel_rfl)) ?_
    have hr := Option.some.inj h
    subst hr
    exact ⟨_, Wk.refl _, .inr rfl, ⟨[], by kernel_rfl, trivial, [.v (.bool false)], by kernel_rfl, by kernel_rfl⟩⟩
  · replace h := sm_r h
    refine AX.seq ?_
    refine AX.reg (its := [.auto {}, .auto { y := some (.v (.int .i64 (p1.length : Int))) }]) [6] [] (s1 := ⟨[(6, .v (.bool (decide ((p1.length : Int) ≤ 12))))], []⟩) (C := (True ∧ (AV.v (.int .i64 ((List.map enc_si p1).length : Int)) = AV.v (.int .i64 (p1.length : Int)))) ∧ True) (by kernel_rfl) ⟨⟨trivial, len_map enc_si p1⟩, trivial⟩ trivial ?_
    refine AX.ret ?_
    refine fin_wk (Wk.forget [6] [] (s' := ⟨[(6, .v (.bool (decide ((p1.length : Int) ≤ 12))))], []⟩) (by kernel_rfl)) ?_
    have hr := Option.some.inj h
    subst hr
    exact ⟨_, Wk.refl _, .inr rfl, ⟨[], by kernel_rfl, trivial, [.v (.bool (decide ((p1.length : Int) ≤ 12)))], by kernel_rfl, by kernel_rfl⟩⟩

theorem s_spec_validFlag (p1 : List (ByteArray × Int)) (p2 : Int) (r : Bool) (h : m_spec_validFlag p1 p2 = some r) :
    Eng.Spec Try.prog 74 [.agg [.bs false 2 (List.map enc_si p1), .v (.int .i64 p2)]] [] (.v (.bool r)) [] := by
  unfold m_spec_validFlag at h
  refine Eng.Spec.body Try.func74 (by kernel_rfl) rfl (by kernel_rfl) ?_
  refine AX.wkpost ?_
  refine AX.seq ?_
  refine AX.reg (its := [.auto { nk := 0 }]) [1] [0] (s1 := ⟨[(1, .pt 0 0)], [(0, .box [.bs false 2 (List.map enc_si p1), .v (.int .i64 p2)])]⟩) (C := True) (by kernel_rfl) trivial trivial ?_
  refine AX.seq ?_
  obtain ⟨x3, e1, h⟩ := bd_e h
  rcases bool_cases (x3) with b2 | b2
  · replace h := cd_t b2 h
    obtain ⟨x4, e3, h⟩ := bd_e h
    refine AX.reg (its := [.auto {}, .auto {}, .call 140 [.bs false 2 (List.map enc_si p1), .v (.int .i64 0), .v (.int .i64 4095)] (handO (rho ([] ++ [])) [] [] ++ []) (callEv [] [] (.v (.bool true)) []), .auto {}, .auto {}, .auto {}, .call 93 [.v (.int .i64 p2), .v (.int .i64 0), .v (.int .i64 3)] (handO (rho ([] ++ [])) [] [] ++ []) (callEv [] [] (.v (.bool x4)) [])]) [2] [] (s1 := ⟨[(2, .v (.bool x4))], []⟩) (C := ((([.bs false 2 (List.map enc_si p1), .v (.int .i64 0), .v (.int .i64 4095)] : List AV) = [.bs false 2 (List.map enc_si p1), .v (.int .i64 0), .v (.int .i64 4095)]) ∧ True) ∧ ((([.v (.int .i64 p2), .v (.int .i64 0), .v (.int .i64 3)] : List AV) = [.v (.int .i64 p2), .v (.int .i64 0), .v (.int .i64 3)]) ∧ True) ∧ True) (by kernel_rfl) ⟨⟨rfl, trivial⟩, ⟨⟨rfl, trivial⟩, trivial⟩⟩ ⟨call_ok (ks := []) (ns := []) (bor := []) (bobjs := []) (show Eng.Spec Try.prog 140 [.bs false 2 (List.map enc_si p1), .v (.int .i64 0), .v (.int .i64 4095)] [] (.v (.bool true)) [] from by have q := s_spec_validDefs p1 0 4095 x3 e1; rw [b2] at q; exact q) (.cons (.c1 (.c0 (.same _ (by kernel_rfl) (by kernel_rfl)))) (.cons (.c1 (.c0 (.same _ (by kernel_rfl) (by kernel_rfl)))) (.cons (.c1 (.c0 (.same _ (by kernel_rfl) (by kernel_rfl)))) (.nil)))) (by kernel_rfl) trivial, ⟨call_ok (ks := []) (ns := []) (bor := []) (bobjs := []) (s_spec_inRange p2 0 3 x4 e3) (.cons (.c1 (.c0 (.same _ (by kernel_rfl) (by kernel_rfl)))) (.cons (.c1 (.c0 (.same _ (by kernel_rfl) (by kernel_rfl)))) (.cons (.c1 (.c0 (.same _ (by kernel_rfl) (by kernel_rfl)))) (.nil)))) (by kernel_rfl) trivial, trivial⟩⟩ ?_
    refine AX.ret ?_
    refine fin_wk (Wk.forget [2] [] (s' := ⟨[(2, .v (.bool x4))], []⟩) (by kernel_rfl)) ?_
    have hr := Option.some.inj h
    subst hr
    exact ⟨_, Wk.refl _, .inr rfl, ⟨[], by kernel_rfl, trivial, [.v (.bool x4)], by kernel_rfl, by kernel_rfl⟩⟩
  · replace h := cd_f b2 h
    refine AX.reg (its := [.auto {}, .auto {}, .call 140 [.bs false 2 (List.map enc_si p1), .v (.int .i64 0), .v (.int .i64 4095)] (handO (rho ([] ++ [])) [] [] ++ []) (callEv [] [] (.v (.bool false)) [])]) [2] [] (s1 := ⟨[(2, .v (.bool false))], []⟩) (C := ((([.bs false 2 (List.map enc_si p1), .v (.int .i64 0), .v (.int .i64 4095)] : List AV) = [.bs false 2 (List.map enc_si p1), .v (.int .i64 0), .v (.int .i64 4095)]) ∧ True) ∧ True) (by kernel_rfl) ⟨⟨rfl, trivial⟩, trivial⟩ ⟨call_ok (ks := []) (ns := []) (bor := []) (bobjs := []) (show Eng.Spec Try.prog 140 [.bs false 2 (List.map enc_si p1), .v (.int .i64 0), .v (.int .i64 4095)] [] (.v (.bool false)) [] from by have q := s_spec_validDefs p1 0 4095 x3 e1; rw [b2] at q; exact q) (.cons (.c1 (.c0 (.same _ (by kernel_rfl) (by kernel_rfl)))) (.cons (.c1 (.c0 (.same _ (by kernel_rfl) (by kernel_rfl)))) (.cons (.c1 (.c0 (.same _ (by kernel_rfl) (by kernel_rfl)))) (.nil)))) (by kernel_rfl) trivial, trivial⟩ ?_
    refine AX.ret ?_
    refine fin_wk (Wk.forget [2] [] (s' := ⟨[(2, .v (.bool false))], []⟩) (by kernel_rfl)) ?_
    have hr := Option.some.inj h
    subst hr
    exact ⟨_, Wk.refl _, .inr rfl, ⟨[], by kernel_rfl, trivial, [.v (.bool false)], by kernel_rfl, by kernel_rfl⟩⟩

theorem s_spec_bitCount_L1  (n : Nat) (g : Int × Int) (out : Int) (h : m_spec_bitCount_L1 n g.1 g.2 = some out) :
    AX Try.prog 13 0 (codeAt [1, 1, 0, 1] (bodyOf Try.f75)) ((fun g : Int × Int => (⟨[(0, .v (.int .i64 g.1)), (3, .v (.int .i64 g.2))], []⟩ : S)) g) (fun ex s => ex = .exit 0 ∧ s = (fun o : Int => (⟨[(3, .v (.int .i64 o))], []⟩ : S)) out) := by
  refine AX.wkpost ?_
  refine AX.loop (G := Nat × (Int × Int)) (fun q => (fun g : Int × Int => (⟨[(0, .v (.int .i64 g.1)), (3, .v (.int .i64 g.2))], []⟩ : S)) q.2) (fun q => m_spec_bitCount_L1 q.1 q.2.1 q.2.2 = some out) (fun q => q.1) (n, g) h (Wk.refl _) ?_
  clear h
  rintro ⟨fu, v2, v3⟩ h
  cases fu with
  | zero => cases h
  | succ fu =>
    rw [m_spec_bitCount_L1] at h
    refine AX.seq ?_
    refine AX.seq ?_
    refine AX.reg (its := []) [0, 3, 5] [] (s1 := ⟨[(0, .v (.int .i64 v2)), (3, .v (.int .i64 v3)), (5, .v (.bool (decide (0 < v2))))], []⟩) (C := True) (by kernel_rfl) trivial trivial ?_
    rcases bool_cases (decide (0 < v2)) with b1 | b1
    · replace h := cd_t b1 h
      refine AX.condT (decide (0 < v2)) (by kernel_rfl) b1 ?_
      refine AX.skip ?_
      refine AX.block ?_
      refine AX.seq ?_
      obtain ⟨g2, h⟩ := gd_e h
      refine AX.reg (its := [.auto {}, .auto {}, .auto {}, .auto { raw := true }]) [0, 3] [] (s1 := ⟨[(0, .v (.int .i64 v2)), (3, .v (.int .i64 (IntKind.wrap .i64 (v3 + (Int.tmod v2 2)))))], []⟩) (C := ((2 : Int) ≠ 0) ∧ True) (by kernel_rfl) ⟨g2, trivial⟩ trivial ?_
      obtain ⟨g3, h⟩ := gd_e h
      refine AX.reg (its := []) [0, 3] [] (s1 := ⟨[(0, .v (.int .i64 (Int.tdiv v2 2))), (3, .v (.int .i64 (IntKind.wrap .i64 (v3 + (Int.tmod v2 2)))))], []⟩) (C := ((2 : Int) ≠ 0 ∧ IntKind.wrap .i64 (Int.tdiv v2 2) = Int.tdiv v2 2) ∧ True) (by kernel_rfl) ⟨g3, trivial⟩ trivial ?_
      refine ⟨(fu, (Int.tdiv v2 2, IntKind.wrap .i64 (v3 + (Int.tmod v2 2)))), h, Nat.lt_succ_self _, ?_⟩
      refine Wk.trans (Wk.forget [0, 3] [] (s' := ⟨[(0, .v (.int .i64 (Int.tdiv v2 2))), (3, .v (.int .i64 (IntKind.wrap .i64 (v3 + (Int.tmod v2 2)))))], []⟩) (by kernel_rfl)) ?_
      exact Wk.refl _
    · replace h := cd_f b1 h
      refine AX.condF (decide (0 < v2)) (by kernel_rfl) b1 ?_
      refine AX.exit ?_
      refine fin_wk (Wk.forget [3] [] (s' := ⟨[(3, .v (.int .i64 v3))], []⟩) (by kernel_rfl)) ?_
      have hr := Option.some.inj h
      subst hr
      exact ⟨_, Wk.refl _, ⟨rfl, rfl⟩⟩

theorem s_spec_bitCount (p1 : Int) (r : Int) (h : m_spec_bitCount p1 = some r) :
    Eng.Spec Try.prog 75 [.v (.int .i64 p1)] [] (.v (.int .i64 r)) [] := by
  unfold m_spec_bitCount at h
  refine Eng.Spec.body Try.func75 (by kernel_rfl) rfl (by kernel_rfl) ?_
  refine AX.wkpost ?_
  refine AX.seq ?_
  refine AX.reg (its := []) [0] [] (s1 := ⟨[(0, .v (.int .i64 p1))], []⟩) (C := True) (by kernel_rfl) trivial trivial ?_
  refine AX.seq ?_
  refine AX.reg (its := []) [0, 3] [] (s1 := ⟨[(0, .v (.int .i64 p1)), (3, .v (.int .i64 0))], []⟩) (C := True) (by kernel_rfl) trivial trivial ?_
  refine AX.seq ?_
  refine AX.block ?_
  obtain ⟨x4, e4, h⟩ := bd_e h
  refine AX.wk (Wk.forget [0, 3] [] (s' := ⟨[(0, .v (.int .i64 p1)), (3, .v (.int .i64 0))], []⟩) (by kernel_rfl)) ?_
  refine AX.mono (s_spec_bitCount_L1  FU (p1, 0) x4 e4) ?_
  rintro _ _ ⟨rfl, rfl⟩
  skip
  refine AX.seq ?_
  refine AX.reg (its := []) [2] [] (s1 := ⟨[(2, .v (.int .i64 x4))], []⟩) (C := True) (by kernel_rfl) trivial trivial ?_
  refine AX.ret ?_
  refine fin_wk (Wk.forget [2] [] (s' := ⟨[(2, .v (.int .i64 x4))], []⟩) (by kernel_rfl)) ?_
  have hr := Option.some.inj h
  subst hr
  exact ⟨_, Wk.refl _, .inr rfl, ⟨[], by kernel_rfl, trivial, [.v (.int .i64 x4)], by kernel_rfl, by kernel_rfl⟩⟩

theorem s_spec_less (p1 : Int) (p2 : Int) (r : Int) (h : m_spec_less p1 p2 = some r) :
    Eng.Spec Try.prog 94 [.v (.int .i64 p1), .v (.int .i64 p2)] [] (.v (.int .i64 r)) [] := by
  unfold m_spec_less at h
  refine Eng.Spec.body Try.func94 (by kernel_rfl) rfl (by kernel_rfl) ?_
  refine AX.wkpost ?_
  refine AX.seq ?_
  refine AX.reg (its := []) [0, 1] [] (s1 := ⟨[(0, .v (.int .i64 p1)), (1, .v (.int .i64 p2))], []⟩) (C := True) (by kernel_rfl) trivial trivial ?_
  refine AX.seq ?_
  obtain ⟨x3, e1, h⟩ := bd_e h
  refine AX.reg (its := [.auto {}, .auto {}, .auto {}, .call 142 [.v (.int .i64 p1), .v (.int .i64 p2)] (handO (rho ([] ++ [])) [] [] ++ []) (callEv [] [] (.v (.int .i64 x3)) []), .auto { raw := true }]) [4] [] (s1 := ⟨[(4, .v (.int .i64 (IntKind.wrap .i64 (p1 - x3))))], []⟩) (C := ((([.v (.int .i64 p1), .v (.int .i64 p2)] : List AV) = [.v (.int .i64 p1), .v (.int .i64 p2)]) ∧ True) ∧ True) (by kernel_rfl) ⟨⟨rfl, trivial⟩, trivial⟩ ⟨call_ok (ks := []) (ns := []) (bor := []) (bobjs := []) (s_spec_both p1 p2 x3 e1) (.cons (.c1 (.c0 (.same _ (by kernel_rfl) (by kernel_rfl)))) (.cons (.c1 (.c0 (.same _ (by kernel_rfl) (by kernel_rfl)))) (.nil))) (by kernel_rfl) trivial, trivial⟩ ?_
  refine AX.ret ?_
  refine fin_wk (Wk.forget [4] [] (s' := ⟨[(4, .v (.int .i64 (IntKind.wrap .i64 (p1 - x3))))], []⟩) (by kernel_rfl)) ?_
  have hr := Option.some.inj h
  subst hr
  exact ⟨_, Wk.refl _, .inr rfl, ⟨[], by kernel_rfl, trivial, [.v (.int .i64 (IntKind.wrap .i64 (p1 - x3)))], by kernel_rfl, by kernel_rfl⟩⟩

theorem s_spec_partsIn_L1 (p1 : Int) (n : Nat) (g : List (Int) × Int) (out : List (Int)) (h : m_spec_partsIn_L1 p1 n g.1 g.2 = some out) :
    AX Try.prog 20 0 (codeAt [1, 1, 0, 1, 1] (bodyOf Try.f108)) ((fun g : List (Int) × Int => (⟨[(0, .v (.int .i64 p1)), (3, .sl 0 0 g.1.length), (4, .v (.int .i64 g.2))], [(0, .arr 1 (List.map enc_i g.1))]⟩ : S)) g) (fun ex s => ex = .exit 0 ∧ s = (fun o : List (Int) => (⟨[(3, .sl 0 0 o.length)], [(0, .arr 1 (List.map enc_i o))]⟩ : S)) out) := by
  refine AX.wkpost ?_
  refine AX.loop (G := Nat × (List (Int) × Int)) (fun q => (fun g : List (Int) × Int => (⟨[(0, .v (.int .i64 p1)), (3, .sl 0 0 g.1.length), (4, .v (.int .i64 g.2))], [(0, .arr 1 (List.map enc_i g.1))]⟩ : S)) q.2) (fun q => m_spec_partsIn_L1 p1 q.1 q.2.1 q.2.2 = some out) (fun q => q.1) (n, g) h (Wk.refl _) ?_
  clear h
  rintro ⟨fu, v2, v3⟩ h
  cases fu with
  | zero => cases h
  | succ fu =>
    rw [m_spec_partsIn_L1] at h
    refine AX.seq ?_
    refine AX.seq ?_
    refine AX.reg (its := []) [0, 3, 4, 8] [0] (s1 := ⟨[(0, .v (.int .i64 p1)), (3, .sl 0 0 v2.length), (4, .v (.int .i64 v3)), (8, .v (.bool (decide (v3 ≤ p1))))], [(0, .arr 1 (List.map enc_i v2))]⟩) (C := True) (by kernel_rfl) trivial trivial ?_
    rcases bool_cases (decide (v3 ≤ p1)) with b1 | b1
    · replace h := cd_t b1 h
      refine AX.condT (decide (v3 ≤ p1)) (by kernel_rfl) b1 ?_
      refine AX.skip ?_
      refine AX.seq ?_
      refine AX.block ?_
      refine AX.seq ?_
      obtain ⟨x4, e2, h⟩ := bd_e h
      refine AX.reg (its := [.auto {}, .auto {}, .call 94 [.v (.int .i64 v3), .v (.int .i64 p1)] (handO (rho ([] ++ [])) [] [] ++ []) (callEv [] [] (.v (.int .i64 x4)) [])]) [0, 3, 4, 14] [0] (s1 := ⟨[(0, .v (.int .i64 p1)), (3, .sl 0 0 v2.length), (4, .v (.int .i64 v3)), (14, .v (.bool (decide (x4 = 0))))], [(0, .arr 1 (List.map enc_i v2))]⟩) (C := ((([.v (.int .i64 v3), .v (.int .i64 p1)] : List AV) = [.v (.int .i64 v3), .v (.int .i64 p1)]) ∧ True) ∧ True) (by kernel_rfl) ⟨⟨rfl, trivial⟩, trivial⟩ ⟨call_ok (ks := []) (ns := []) (bor := []) (bobjs := []) (s_spec_less v3 p1 x4 e2) (.cons (.c1 (.c0 (.same _ (by kernel_rfl) (by kernel_rfl)))) (.cons (.c1 (.c0 (.same _ (by kernel_rfl) (by kernel_rfl)))) (.nil))) (by kernel_rfl) trivial, trivial⟩ ?_
      rcases bool_cases (decide (x4 = 0)) with b3 | b3
      · replace h := cd_t b3 h
        refine AX.condT (decide (x4 = 0)) (by kernel_rfl) b3 ?_
        obtain ⟨g4, h⟩ := gd_e h
        refine AX.reg (its := [.auto {}, .auto {}, .auto { nk := 1 }, .auto { y := some (.sl 2 0 ((v2 ++ ([v3] : List (Int))).length)), els := some (List.map enc_i v2), els2 := some (List.map enc_i ([v3] : List (Int))), nk := 2 }]) [0, 3, 4] [2] (s1 := ⟨[(0, .v (.int .i64 p1)), (3, .sl 2 0 ((v2 ++ ([v3] : List (Int))).length)), (4, .v (.int .i64 v3))], [(2, .arr 1 (List.map enc_i v2 ++ List.map enc_i ([v3] : List (Int))))]⟩) (C := ((((((List.map enc_i v2).drop 0).take (v2.length) = List.map enc_i v2) ∧ (((List.map enc_i ([v3] : List (Int))).drop 0).take (([v3] : List (Int)).length) = List.map enc_i ([v3] : List (Int)))) ∧ (List.map enc_i v2).length + (List.map enc_i ([v3] : List (Int))).length ≤ 1099511627776) ∧ (AV.sl 2 0 (List.map enc_i v2 ++ List.map enc_i ([v3] : List (Int))).length = AV.sl 2 0 (v2 ++ ([v3] : List (Int))).length)) ∧ True) (by kernel_rfl) ⟨⟨⟨⟨(dt_all (enc := enc_i) rfl rfl), (dt_all (enc := enc_i) rfl rfl)⟩, (by simp only [List.length_map, List.length_nil]; simpa using g4)⟩, sl_len (enc := enc_i) (app_can (enc := enc_i) rfl rfl)⟩, trivial⟩ trivial ?_
        refine AX.reg (its := [.auto {}, .auto { raw := true }]) [0, 3, 4] [2] (s1 := ⟨[(0, .v (.int .i64 p1)), (3, .sl 2 0 ((v2 ++ ([v3] : List (Int))).length)), (4, .v (.int .i64 (IntKind.wrap .i64 (v3 + 1))))], [(2, .arr 1 (List.map enc_i v2 ++ List.map enc_i ([v3] : List (Int))))]⟩) (C := True) (by kernel_rfl) trivial trivial ?_
        refine ⟨(fu, (v2 ++ ([v3] : List (Int)), IntKind.wrap .i64 (v3 + 1))), h, Nat.lt_succ_self _, ?_⟩
        refine Wk.trans (Wk.swap 0 2 (Nat.le_of_ble_eq_true (by kernel_rfl)) (Nat.le_of_ble_eq_true (by kernel_rfl)) rfl) ?_
        refine Wk.trans (Wk.forget [0, 3, 4] [0] (s' := ⟨[(0, .v (.int .i64 p1)), (3, .sl 0 0 ((v2 ++ ([v3] : List (Int))).length)), (4, .v (.int .i64 (IntKind.wrap .i64 (v3 + 1))))], [(0, .arr 1 (List.map enc_i v2 ++ List.map enc_i ([v3] : List (Int))))]⟩) (by kernel_rfl)) ?_
        refine Wk.trans (Wk.of_eq (congrArg (fun z => (⟨[(0, .v (.int .i64 p1)), (3, .sl 0 0 ((v2 ++ ([v3] : List (Int))).length)), (4, .v (.int .i64 (IntKind.wrap .i64 (v3 + 1))))], [(0, .arr 1 (z))]⟩ : S)) (app_can (enc := enc_i) rfl rfl : List.map enc_i v2 ++ List.map enc_i ([v3] : List (Int)) = List.map enc_i (v2 ++ ([v3] : List (Int)))))) ?_
        exact Wk.refl _
      · replace h := cd_f b3 h
        refine AX.condF (decide (x4 = 0)) (by kernel_rfl) b3 ?_
        refine AX.skip ?_
        refine AX.reg (its := [.auto {}, .auto { raw := true }]) [0, 3, 4] [0] (s1 := ⟨[(0, .v (.int .i64 p1)), (3, .sl 0 0 v2.length), (4, .v (.int .i64 (IntKind.wrap .i64 (v3 + 1))))], [(0, .arr 1 (List.map enc_i v2))]⟩) (C := True) (by kernel_rfl) trivial trivial ?_
        refine ⟨(fu, (v2, IntKind.wrap .i64 (v3 + 1))), h, Nat.lt_succ_self _, ?_⟩
        refine Wk.trans (Wk.forget [0, 3, 4] [0] (s' := ⟨[(0, .v (.int .i64 p1)), (3, .sl 0 0 v2.length), (4, .v (.int .i64 (IntKind.wrap .i64 (v3 + 1))))], [(0, .arr 1 (List.map enc_i v2))]⟩) (by kernel_rfl)) ?_
        exact Wk.refl _
    · replace h := cd_f b1 h
      refine AX.condF (decide (v3 ≤ p1)) (by kernel_rfl) b1 ?_
      refine AX.exit ?_
      refine fin_wk (Wk.forget [3] [0] (s' := ⟨[(3, .sl 0 0 v2.length)], [(0, .arr 1 (List.map enc_i v2))]⟩) (by kernel_rfl)) ?_
      have hr := Option.some.inj h
      subst hr
      exact ⟨_, Wk.refl _, ⟨rfl, rfl⟩⟩

theorem s_spec_partsIn (p1 : Int) (r : List (Int)) (h : m_spec_partsIn p1 = some r) :
    Eng.Spec Try.prog 108 [.v (.int .i64 p1)] [] (.sl 0 0 r.length) [.arr 1 (List.map enc_i r)] := by
  unfold m_spec_partsIn at h
  refine Eng.Spec.body Try.func108 (by kernel_rfl) rfl (by kernel_rfl) ?_
  refine AX.wkpost ?_
  refine AX.seq ?_
  refine AX.reg (its := []) [0] [] (s1 := ⟨[(0, .v (.int .i64 p1))], []⟩) (C := True) (by kernel_rfl) trivial trivial ?_
  refine AX.seq ?_
  refine AX.reg (its := [.auto { nk := 0 }]) [0, 3] [0] (s1 := ⟨[(0, .v (.int .i64 p1)), (3, .sl 0 0 (([] : List (Int)).length))], [(0, .arr 1 (List.map enc_i ([] : List (Int))))]⟩) (C := True) (by kernel_rfl) trivial trivial ?_
  refine AX.seq ?_
  refine AX.seq ?_
  refine AX.reg (its := []) [0, 3, 4] [0] (s1 := ⟨[(0, .v (.int .i64 p1)), (3, .sl 0 0 (([] : List (Int)).length)), (4, .v (.int .i64 0))], [(0, .arr 1 (List.map enc_i ([] : List (Int))))]⟩) (C := True) (by kernel_rfl) trivial trivial ?_
  refine AX.block ?_
  obtain ⟨x5, e5, h⟩ := bd_e h
  refine AX.wk (Wk.forget [0, 3, 4] [0] (s' := ⟨[(0, .v (.int .i64 p1)), (3, .sl 0 0 (([] : List (Int)).length)), (4, .v (.int .i64 0))], [(0, .arr 1 (List.map enc_i ([] : List (Int))))]⟩) (by kernel_rfl)) ?_
  refine AX.mono (s_spec_partsIn_L1 p1 FU (([] : List (Int)), 0) x5 e5) ?_
  rintro _ _ ⟨rfl, rfl⟩
  skip
  refine AX.seq ?_
  refine AX.reg (its := []) [2] [0] (s1 := ⟨[(2, .sl 0 0 x5.length)], [(0, .arr 1 (List.map enc_i x5))]⟩) (C := True) (by kernel_rfl) trivial trivial ?_
  refine AX.ret ?_
  refine fin_wk (Wk.forget [2] [0] (s' := ⟨[(2, .sl 0 0 x5.length)], [(0, .arr 1 (List.map enc_i x5))]⟩) (by kernel_rfl)) ?_
  have hr := Option.some.inj h
  subst hr
  exact ⟨_, Wk.refl _, .inr rfl, ⟨[0], by kernel_rfl, ⟨rfl, trivial⟩, [.sl 0 0 x5.length], by kernel_rfl, by kernel_rfl⟩⟩

theorem s_spec_matches (p1 : Int) (p2 : Int) (p3 : Int) (r : Bool) (h : m_spec_matches p1 p2 p3 = some r) :
    Eng.Spec Try.prog 156 [.agg [.v (.int .i64 p1), .v (.int .i64 p2)], .v (.int .i64 p3)] [] (.v (.bool r)) [] := by
  unfold m_spec_matches at h
  refine Eng.Spec.body Try.func156 (by kernel_rfl) rfl (by kernel_rfl) ?_
  refine AX.wkpost ?_
  refine AX.seq ?_
  refine AX.reg (its := [.auto { nk := 0 }]) [1, 2] [0] (s1 := ⟨[(1, .v (.int .i64 p3)), (2, .pt 0 0)], [(0, .box [.v (.int .i64 p1), .v (.int .i64 p2)])]⟩) (C := True) (by kernel_rfl) trivial trivial ?_
  refine AX.seq ?_
  obtain ⟨x4, e1, h⟩ := bd_e h
  rcases bool_cases (decide (x4 = 0)) with b2 | b2
  · replace h := cd_t b2 h
    obtain ⟨x5, e3, h⟩ := bd_e h
    refine AX.reg (its := [.auto {}, .auto {}, .auto {}, .call 94 [.v (.int .i64 p1), .v (.int .i64 p3)] (handO (rho ([] ++ [])) [] [] ++ []) (callEv [] [] (.v (.int .i64 x4)) []), .auto { y := some (.v (.bool true)) }, .auto {}, .auto {}, .auto {}, .auto {}, .call 142 [.v (.int .i64 p2), .v (.int .i64 p3)] (handO (rho ([] ++ [])) [] [] ++ []) (callEv [] [] (.v (.int .i64 x5)) [])]) [4] [] (s1 := ⟨[(4, .v (.bool (decide (x5 = 0))))], []⟩) (C := ((([.v (.int .i64 p1), .v (.int .i64 p3)] : List AV) = [.v (.int .i64 p1), .v (.int .i64 p3)]) ∧ True) ∧ ((True) ∧ ((.v (.bool (decide (x4 = 0))) : AV) = (.v (.bool true) : AV))) ∧ ((([.v (.int .i64 p2), .v (.int .i64 p3)] : List AV) = [.v (.int .i64 p2), .v (.int .i64 p3)]) ∧ True) ∧ True) (by kernel_rfl) ⟨⟨rfl, trivial⟩, ⟨⟨trivial, (congrArg (fun z => AV.v (.bool z)) b2)⟩, ⟨⟨rfl, trivial⟩, trivial⟩⟩⟩ ⟨call_ok (ks := []) (ns := []) (bor := []) (bobjs := []) (s_spec_less p1 p3 x4 e1) (.cons (.c1 (.c0 (.same _ (by kernel_rfl) (by kernel_rfl)))) (.cons (.c1 (.c0 (.same _ (by kernel_rfl) (by kernel_rfl)))) (.nil))) (by kernel_rfl) trivial, ⟨call_ok (ks := []) (ns := []) (bor := []) (bobjs := []) (s_spec_both p2 p3 x5 e3) (.cons (.c1 (.c0 (.same _ (by kernel_rfl) (by kernel_rfl)))) (.cons (.c1 (.c0 (.same _ (by kernel_rfl) (by kernel_rfl)))) (.nil))) (by kernel_rfl) trivial, trivial⟩⟩ ?_
    refine AX.ret ?_
    refine fin_wk (Wk.forget [4] [] (s' := ⟨[(4, .v (.bool (decide (x5 = 0))))], []⟩) (by kernel_rfl)) ?_
    have hr := Option.some.inj h
    subst hr
    exact ⟨_, Wk.refl _, .inr rfl, ⟨[], by kernel_rfl, trivial, [.v (.bool (decide (x5 = 0)))], by kernel_rfl, by kernel_rfl⟩⟩
  · replace h := cd_f b2 h
    refine AX.reg (its := [.auto {}, .auto {}, .auto {}, .call 94 [.v (.int .i64 p1), .v (.int .i64 p3)] (handO (rho ([] ++ [])) [] [] ++ []) (callEv [] [] (.v (.int .i64 x4)) []), .auto { y := some (.v (.bool false)) }]) [4] [] (s1 := ⟨[(4, .v (.bool false))], []⟩) (C := ((([.v (.int .i64 p1), .v (.int .i64 p3)] : List AV) = [.v (.int .i64 p1), .v (.int .i64 p3)]) ∧ True) ∧ ((True) ∧ ((.v (.bool (decide (x4 = 0))) : AV) = (.v (.bool false) : AV))) ∧ True) (by kernel_rfl) ⟨⟨rfl, trivial⟩, ⟨⟨trivial, (congrArg (fun z => AV.v (.bool z)) b2)⟩, trivial⟩⟩ ⟨call_ok (ks := []) (ns := []) (bor := []) (bobjs := []) (s_spec_less p1 p3 x4 e1) (.cons (.c1 (.c0 (.same _ (by kernel_rfl) (by kernel_rfl)))) (.cons (.c1 (.c0 (.same _ (by kernel_rfl) (by kernel_rfl)))) (.nil))) (by kernel_rfl) trivial, trivial⟩ ?_
    refine AX.ret ?_
    refine fin_wk (Wk.forget [4] [] (s' := ⟨[(4, .v (.bool false))], []⟩) (by kernel_rfl)) ?_
    have hr := Option.some.inj h
    subst hr
    exact ⟨_, Wk.refl _, .inr rfl, ⟨[], by kernel_rfl, trivial, [.v (.bool false)], by kernel_rfl, by kernel_rfl⟩⟩

theorem s_spec_hasInt_L1 (p1 : List (Int)) (p2 : Int) (n : Nat) (g : Int) (out : Unit ⊕ Unit) (h : m_spec_hasInt_L1 p1 p2 n g = some out) :
    AX Try.prog 18 0 (codeAt [1, 0, 1, 1] (bodyOf Try.f180)) ((fun g : Int => (⟨[(0, .bs false 1 (List.map enc_i p1)), (1, .v (.int .i64 p2)), (5, .v (.int .i64 g))], []⟩ : S)) g) (fun ex s => (∃ o : Unit, out = Sum.inl o ∧ ex = .ret ∧ s = ⟨[(4, .v (.bool true))], []⟩) ∨ (∃ o : Unit, out = Sum.inr o ∧ ex = .exit 0 ∧ s = ⟨[], []⟩)) := by
  refine AX.wkpost ?_
  refine AX.loop (G := Nat × (Int)) (fun q => (fun g : Int => (⟨[(0, .bs false 1 (List.map enc_i p1)), (1, .v (.int .i64 p2)), (5, .v (.int .i64 g))], []⟩ : S)) q.2) (fun q => m_spec_hasInt_L1 p1 p2 q.1 q.2 = some out) (fun q => q.1) (n, g) h (Wk.refl _) ?_
  clear h
  rintro ⟨fu, v3⟩ h
  cases fu with
  | zero => cases h
  | succ fu =>
    rw [m_spec_hasInt_L1] at h
    refine AX.seq ?_
    refine AX.seq ?_
    refine AX.reg (its := [.auto {}, .auto {}, .auto { y := some (.v (.int .i64 (p1.length : Int))) }]) [0, 1, 5, 9] [] (s1 := ⟨[(0, .bs false 1 (List.map enc_i p1)), (1, .v (.int .i64 p2)), (5, .v (.int .i64 v3)), (9, .v (.bool (decide (v3 < (p1.length : Int)))))], []⟩) (C := (True ∧ (AV.v (.int .i64 ((List.map enc_i p1).length : Int)) = AV.v (.int .i64 (p1.length : Int)))) ∧ True) (by kernel_rfl) ⟨⟨trivial, len_map enc_i p1⟩, trivial⟩ trivial ?_
    rcases bool_cases (decide (v3 < (p1.length : Int))) with b1 | b1
    · replace h := cd_t b1 h
      refine AX.condT (decide (v3 < (p1.length : Int))) (by kernel_rfl) b1 ?_
      refine AX.skip ?_
      refine AX.seq ?_
      refine AX.block ?_
      refine AX.seq ?_
      obtain ⟨g2, h⟩ := gd_e h
      refine AX.reg (its := [.auto {}, .auto {}, .auto { y := some (.be 1 (enc_i (gt p1 v3)) 0) }]) [0, 1, 5, 17] [] (s1 := ⟨[(0, .bs false 1 (List.map enc_i p1)), (1, .v (.int .i64 p2)), (5, .v (.int .i64 v3)), (17, .v (.bool (decide ((gt p1 v3) = p2))))], []⟩) (C := ((0 ≤ v3 ∧ v3 < ((List.map enc_i p1).length : Int)) ∧ (AV.be 1 ((List.map enc_i p1).getD v3.toNat []) 0 = AV.be 1 (enc_i (gt p1 v3)) 0)) ∧ True) (by kernel_rfl) ⟨idx_bs enc_i p1 v3 1 g2, trivial⟩ trivial ?_
      rcases bool_cases (decide ((gt p1 v3) = p2)) with b3 | b3
      · replace h := cd_t b3 h
        refine AX.condT (decide ((gt p1 v3) = p2)) (by kernel_rfl) b3 ?_
        refine AX.seq ?_
        refine AX.reg (its := []) [4] [] (s1 := ⟨[(4, .v (.bool true))], []⟩) (C := True) (by kernel_rfl) trivial trivial ?_
        refine AX.ret ?_
        refine fin_wk (Wk.forget [4] [] (s' := ⟨[(4, .v (.bool true))], []⟩) (by kernel_rfl)) ?_
        have hr := Option.some.inj h
        subst hr
        exact ⟨_, Wk.refl _, .inl ⟨(), rfl, rfl, rfl⟩⟩
      · replace h := cd_f b3 h
        refine AX.condF (decide ((gt p1 v3) = p2)) (by kernel_rfl) b3 ?_
        refine AX.skip ?_
        refine AX.reg (its := [.auto {}, .auto { raw := true }]) [0, 1, 5] [] (s1 := ⟨[(0, .bs false 1 (List.map enc_i p1)), (1, .v (.int .i64 p2)), (5, .v (.int .i64 (IntKind.wrap .i64 (v3 + 1))))], []⟩) (C := True) (by kernel_rfl) trivial trivial ?_
        refine ⟨(fu, IntKind.wrap .i64 (v3 + 1)), h, Nat.lt_succ_self _, ?_⟩
        refine Wk.trans (Wk.forget [0, 1, 5] [] (s' := ⟨[(0, .bs false 1 (List.map enc_i p1)), (1, .v (.int .i64 p2)), (5, .v (.int .i64 (IntKind.wrap .i64 (v3 + 1))))], []⟩) (by kernel_rfl)) ?_
        exact Wk.refl _
    · replace h := cd_f b1 h
      refine AX.condF (decide (v3 < (p1.length : Int))) (by kernel_rfl) b1 ?_
      refine AX.exit ?_
      refine fin_wk (Wk.forget [] [] (s' := ⟨[], []⟩) (by kernel_rfl)) ?_
      have hr := Option.some.inj h
      subst hr
      exact ⟨_, Wk.refl _, .inr ⟨(), rfl, rfl, rfl⟩⟩

theorem s_spec_hasInt (p1 : List (Int)) (p2 : Int) (r : Bool) (h : m_spec_hasInt p1 p2 = some r) :
    Eng.Spec Try.prog 180 [.bs false 1 (List.map enc_i p1), .v (.int .i64 p2)] [] (.v (.bool r)) [] := by
  unfold m_spec_hasInt at h
  refine Eng.Spec.body Try.func180 (by kernel_rfl) rfl (by kernel_rfl) ?_
  refine AX.wkpost ?_
  refine AX.seq ?_
  refine AX.reg (its := []) [0, 1] [] (s1 := ⟨[(0, .bs false 1 (List.map enc_i p1)), (1, .v (.int .i64 p2))], []⟩) (C := True) (by kernel_rfl) trivial trivial ?_
  refine AX.seq ?_
  refine AX.seq ?_
  refine AX.reg (its := []) [0, 1, 5] [] (s1 := ⟨[(0, .bs false 1 (List.map enc_i p1)), (1, .v (.int .i64 p2)), (5, .v (.int .i64 0))], []⟩) (C := True) (by kernel_rfl) trivial trivial ?_
  refine AX.block ?_
  obtain ⟨x4, e4, h⟩ := bd_e h
  refine AX.wk (Wk.forget [0, 1, 5] [] (s' := ⟨[(0, .bs false 1 (List.map enc_i p1)), (1, .v (.int .i64 p2)), (5, .v (.int .i64 0))], []⟩) (by kernel_rfl)) ?_
  refine AX.mono (s_spec_hasInt_L1 p1 p2 FU 0 x4 e4) ?_
  rintro _ _ (⟨x5, rfl, rfl, rfl⟩ | ⟨x6, rfl, rfl, rfl⟩)
  · replace h := sm_l h
    refine fin_wk (Wk.forget [4] [] (s' := ⟨[(4, .v (.bool true))], []⟩) (by kernel_rfl)) ?_
    have hr := Option.some.inj h
    subst hr
    exact ⟨_, Wk.refl _, .inr rfl, ⟨[], by kernel_rfl, trivial, [.v (.bool true)], by kernel_rfl, by kernel_rfl⟩⟩
  · replace h := sm_r h
    refine AX.seq ?_
    refine AX.reg (its := []) [4] [] (s1 := ⟨[(4, .v (.bool false))], []⟩) (C := True) (by kernel_rfl) trivial trivial ?_
    refine AX.ret ?_
    refine fin_wk (Wk.forget [4] [] (s' := ⟨[(4, .v (.bool false))], []⟩) (by kernel_rfl)) ?_
    have hr := Option.some.inj h
    subst hr
    exact ⟨_, Wk.refl _, .inr rfl, ⟨[], by kernel_rfl, trivial, [.v (.bool false)], by kernel_rfl, by kernel_rfl⟩⟩

theorem s_spec_allIn_L1 (p1 : List (Int)) (p2 : List (Int)) (p3 : Int) (p4 : Int) (n : Nat) (g : Int) (out : Unit ⊕ Unit) (h : m_spec_allIn_L1 p1 p2 p3 p4 n g = some out) :
    AX Try.prog 29 0 (codeAt [1, 0, 1, 1] (bodyOf Try.f148)) ((fun g : Int => (⟨[(0, .bs false 1 (List.map enc_i p1)), (1, .bs false 1 (List.map enc_i p2)), (5, .pt 0 0), (7, .v (.int .i64 g))], [(0, .box [.v (.int .i64 p3), .v (.int .i64 p4)])]⟩ : S)) g) (fun ex s => (∃ o : Unit, out = Sum.inl o ∧ ex = .ret ∧ s = ⟨[(6, .v (.bool false))], []⟩) ∨ (∃ o : Unit, out = Sum.inr o ∧ ex = .exit 0 ∧ s = ⟨[], []⟩)) := by
  refine AX.wkpost ?_
  refine AX.loop (G := Nat × (Int)) (fun q => (fun g : Int => (⟨[(0, .bs false 1 (List.map enc_i p1)), (1, .bs false 1 (List.map enc_i p2)), (5, .pt 0 0), (7, .v (.int .i64 g))], [(0, .box [.v (.int .i64 p3), .v (.int .i64 p4)])]⟩ : S)) q.2) (fun q => m_spec_allIn_L1 p1 p2 p3 p4 q.1 q.2 = some out) (fun q => q.1) (n, g) h (Wk.refl _) ?_
  clear h
  rintro ⟨fu, v5⟩ h
  cases fu with
  | zero => cases h
  | succ fu =>
    rw [m_spec_allIn_L1] at h
    refine AX.seq ?_
    refine AX.seq ?_
    refine AX.reg (its := [.auto {}, .auto {}, .auto { y := some (.v (.int .i64 (p1.length : Int))) }]) [0, 1, 5, 7, 11] [0] (s1 := ⟨[(0, .bs false 1 (List.map enc_i p1)), (1, .bs false 1 (List.map enc_i p2)), (5, .pt 0 0), (7, .v (.int .i64 v5)), (11, .v (.bool (decide (v5 < (p1.length : Int)))))], [(0, .box [.v (.int .i64 p3), .v (.int .i64 p4)])]⟩) (C := (True ∧ (AV.v (.int .i64 ((List.map enc_i p1).length : Int)) = AV.v (.int .i64 (p1.length : Int)))) ∧ True) (by kernel_rfl) ⟨⟨trivial, len_map enc_i p1⟩, trivial⟩ trivial ?_
    rcases bool_cases (decide (v5 < (p1.length : Int))) with b1 | b1
    · replace h := cd_t b1 h
      refine AX.condT (decide (v5 < (p1.length : Int))) (by kernel_rfl) b1 ?_
      refine AX.skip ?_
      refine AX.seq ?_
      refine AX.block ?_
      refine AX.seq ?_
      obtain ⟨g2, h⟩ := gd_e h
      obtain ⟨x6, e3, h⟩ := bd_e h
      rcases bool_cases (x6) with b4 | b4
      · replace h := cd_t b4 h
        obtain ⟨x7, e5, h⟩ := bd_e h
        refine AX.drw mixed (its := [.auto {}, .auto {}, .auto {}, .auto { y := some (.be 1 (enc_i (gt p1 v5)) 0) }, .auto {}, .call 156 [.agg [.v (.int .i64 p3), .v (.int .i64 p4)], .v (.int .i64 (gt p1 v5))] (handO (rho ([] ++ [])) [] [] ++ []) (callEv [] [] (.v (.bool true)) []), .auto {}, .auto {}, .auto {}, .auto {}, .auto { y := some (.be 1 (enc_i (gt p1 v5)) 0) }, .auto {}, .call 180 [.bs false 1 (List.map enc_i p2), .v (.int .i64 (gt p1 v5))] (handO (rho ([] ++ [])) [] [] ++ []) (callEv [] [] (.v (.bool x7)) [])]) [0, 1, 5, 7, 28] [0] (s1 := ⟨[(0, .bs false 1 (List.map enc_i p1)), (1, .bs false 1 (List.map enc_i p2)), (5, .pt 0 0), (7, .v (.int .i64 v5)), (28, .v (.bool (!x7)))], [(0, .box [.v (.int .i64 p3), .v (.int .i64 p4)])]⟩) (C := ((0 ≤ v5 ∧ v5 < ((List.map enc_i p1).length : Int)) ∧ (AV.be 1 ((List.map enc_i p1).getD v5.toNat []) 0 = AV.be 1 (enc_i (gt p1 v5)) 0)) ∧ ((([.agg [.v (.int .i64 p3), .v (.int .i64 p4)], .v (.int .i64 (gt p1 v5))] : List AV) = [.agg [.v (.int .i64 p3), .v (.int .i64 p4)], .v (.int .i64 (gt p1 v5))]) ∧ True) ∧ ((0 ≤ v5 ∧ v5 < ((List.map enc_i p1).length : Int)) ∧ (AV.be 1 ((List.map enc_i p1).getD v5.toNat []) 0 = AV.be 1 (enc_i (gt p1 v5)) 0)) ∧ ((([.bs false 1 (List.map enc_i p2), .v (.int .i64 (gt p1 v5))] : List AV) = [.bs false 1 (List.map enc_i p2), .v (.int .i64 (gt p1 v5))]) ∧ True) ∧ True) (by kernel_rfl) ⟨idx_bs enc_i p1 v5 1 g2, ⟨⟨rfl, trivial⟩, ⟨idx_bs enc_i p1 v5 1 g2, ⟨⟨rfl, trivial⟩, trivial⟩⟩⟩⟩ ⟨call_ok (ks := []) (ns := []) (bor := []) (bobjs := []) (show Eng.Spec Try.prog 156 [.agg [.v (.int .i64 p3), .v (.int .i64 p4)], .v (.int .i64 (gt p1 v5))] [] (.v (.bool true)) [] from by have q := s_spec_matches p3 p4 (gt p1 v5) x6 e3; rw [b4] at q; exact q) (.cons (.c1 (.agg (.cons (.same _ (by kernel_rfl) (by kernel_rfl)) (.cons (.same _ (by kernel_rfl) (by kernel_rfl)) (.nil))))) (.cons (.c1 (.c0 (.same _ (by kernel_rfl) (by kernel_rfl)))) (.nil))) (by kernel_rfl) trivial, ⟨call_ok (ks := []) (ns := []) (bor := []) (bobjs := []) (s_spec_hasInt p2 (gt p1 v5) x7 e5) (.cons (.c1 (.c0 (.same _ (by kernel_rfl) (by kernel_rfl)))) (.cons (.c1 (.c0 (.same _ (by kernel_rfl) (by kernel_rfl)))) (.nil))) (by kernel_rfl) trivial, trivial⟩⟩ ?_
        rcases bool_cases ((!x7)) with b6 | b6
        · replace h := cd_t b6 h
          refine AX.condT ((!x7)) (by kernel_rfl) b6 ?_
          refine AX.seq ?_
          refine AX.reg (its := []) [6] [] (s1 := ⟨[(6, .v (.bool false))], []⟩) (C := True) (by kernel_rfl) trivial trivial ?_
          refine AX.ret ?_
          refine fin_wk (Wk.forget [6] [] (s' := ⟨[(6, .v (.bool false))], []⟩) (by kernel_rfl)) ?_
          have hr := Option.some.inj h
          subst hr
          exact ⟨_, Wk.refl _, .inl ⟨(), rfl, rfl, rfl⟩⟩
        · replace h := cd_f b6 h
          refine AX.condF ((!x7)) (by kernel_rfl) b6 ?_
          refine AX.skip ?_
          refine AX.reg (its := [.auto {}, .auto { raw := true }]) [0, 1, 5, 7] [0] (s1 := ⟨[(0, .bs false 1 (List.map enc_i p1)), (1, .bs false 1 (List.map enc_i p2)), (5, .pt 0 0), (7, .v (.int .i64 (IntKind.wrap .i64 (v5 + 1))))], [(0, .box [.v (.int .i64 p3), .v (.int .i64 p4)])]⟩) (C := True) (by kernel_rfl) trivial trivial ?_
          refine ⟨(fu, IntKind.wrap .i64 (v5 + 1)), h, Nat.lt_succ_self _, ?_⟩
          refine Wk.trans (Wk.forget [0, 1, 5, 7] [0] (s' := ⟨[(0, .bs false 1 (List.map enc_i p1)), (1, .bs false 1 (List.map enc_i p2)), (5, .pt 0 0), (7, .v (.int .i64 (IntKind.wrap .i64 (v5 + 1))))], [(0, .box [.v (.int .i64 p3), .v (.int .i64 p4)])]⟩) (by kernel_rfl)) ?_
          exact Wk.refl _
      · replace h := cd_f b4 h
        refine AX.drw mixed (its := [.auto {}, .auto {}, .auto {}, .auto { y := some (.be 1 (enc_i (gt p1 v5)) 0) }, .auto {}, .call 156 [.agg [.v (.int .i64 p3), .v (.int .i64 p4)], .v (.int .i64 (gt p1 v5))] (handO (rho ([] ++ [])) [] [] ++ []) (callEv [] [] (.v (.bool false)) [])]) [0, 1, 5, 7, 28] [0] (s1 := ⟨[(0, .bs false 1 (List.map enc_i p1)), (1, .bs false 1 (List.map enc_i p2)), (5, .pt 0 0), (7, .v (.int .i64 v5)), (28, .v (.bool false))], [(0, .box [.v (.int .i64 p3), .v (.int .i64 p4)])]⟩) (C := ((0 ≤ v5 ∧ v5 < ((List.map enc_i p1).length : Int)) ∧ (AV.be 1 ((List.map enc_i p1).getD v5.toNat []) 0 = AV.be 1 (enc_i (gt p1 v5)) 0)) ∧ ((([.agg [.v (.int .i64 p3), .v (.int .i64 p4)], .v (.int .i64 (gt p1 v5))] : List AV) = [.agg [.v (.int .i64 p3), .v (.int .i64 p4)], .v (.int .i64 (gt p1 v5))]) ∧ True) ∧ True) (by kernel_rfl) ⟨idx_bs enc_i p1 v5 1 g2, ⟨⟨rfl, trivial⟩, trivial⟩⟩ ⟨call_ok (ks := []) (ns := []) (bor := []) (bobjs := []) (show Eng.Spec Try.prog 156 [.agg [.v (.int .i64 p3), .v (.int .i64 p4)], .v (.int .i64 (gt p1 v5))] [] (.v (.bool false)) [] from by have q := s_spec_matches p3 p4 (gt p1 v5) x6 e3; rw [b4] at q; exact q) (.cons (.c1 (.agg (.cons (.same _ (by kernel_rfl) (by kernel_rfl)) (.cons (.same _ (by kernel_rfl) (by kernel_rfl)) (.nil))))) (.cons (.c1 (.c0 (.same _ (by kernel_rfl) (by kernel_rfl)))) (.nil))) (by kernel_rfl) trivial, trivial⟩ ?_
        refine AX.cond_false (by kernel_rfl) ?_
        refine AX.skip ?_
        refine AX.reg (its := [.auto {}, .auto { raw := true }]) [0, 1, 5, 7] [0] (s1 := ⟨[(0, .bs false 1 (List.map enc_i p1)), (1, .bs false 1 (List.map enc_i p2)), (5, .pt 0 0), (7, .v (.int .i64 (IntKind.wrap .i64 (v5 + 1))))], [(0, .box [.v (.int .i64 p3), .v (.int .i64 p4)])]⟩) (C := True) (by kernel_rfl) trivial trivial ?_
        refine ⟨(fu, IntKind.wrap .i64 (v5 + 1)), h, Nat.lt_succ_self _, ?_⟩
        refine Wk.trans (Wk.forget [0, 1, 5, 7] [0] (s' := ⟨[(0, .bs false 1 (List.map enc_i p1)), (1, .bs false 1 (List.map enc_i p2)), (5, .pt 0 0), (7, .v (.int .i64 (IntKind.wrap .i64 (v5 + 1))))], [(0, .box [.v (.int .i64 p3), .v (.int .i64 p4)])]⟩) (by kernel_rfl)) ?_
        exact Wk.refl _
    · replace h := cd_f b1 h
      refine AX.condF (decide (v5 < (p1.length : Int))) (by kernel_rfl) b1 ?_
      refine AX.exit ?_
      refine fin_wk (Wk.forget [] [] (s' := ⟨[], []⟩) (by kernel_rfl)) ?_
      have hr := Option.some.inj h
      subst hr
      exact ⟨_, Wk.refl _, .inr ⟨(), rfl, rfl, rfl⟩⟩

theorem s_spec_allIn (p1 : List (Int)) (p2 : List (Int)) (p3 : Int) (p4 : Int) (r : Bool) (h : m_spec_allIn p1 p2 p3 p4 = some r) :
    Eng.Spec Try.prog 148 [.bs false 1 (List.map enc_i p1), .bs false 1 (List.map enc_i p2), .agg [.v (.int .i64 p3), .v (.int .i64 p4)]] [] (.v (.bool r)) [] := by
  unfold m_spec_allIn at h
  refine Eng.Spec.body Try.func148 (by kernel_rfl) rfl (by kernel_rfl) ?_
  refine AX.wkpost ?_
  refine AX.seq ?_
  refine AX.reg (its := [.auto { nk := 0 }]) [0, 1, 5] [0] (s1 := ⟨[(0, .bs false 1 (List.map enc_i p1)), (1, .bs false 1 (List.map enc_i p2)), (5, .pt 0 0)], [(0, .box [.v (.int .i64 p3), .v (.int .i64 p4)])]⟩) (C := True) (by kernel_rfl) trivial trivial ?_
  refine AX.seq ?_
  refine AX.seq ?_
  refine AX.reg (its := []) [0, 1, 5, 7] [0] (s1 := ⟨[(0, .bs false 1 (List.map enc_i p1)), (1, .bs false 1 (List.map enc_i p2)), (5, .pt 0 0), (7, .v (.int .i64 0))], [(0, .box [.v (.int .i64 p3), .v (.int .i64 p4)])]⟩) (C := True) (by kernel_rfl) trivial trivial ?_
  refine AX.block ?_
  obtain ⟨x8, e7, h⟩ := bd_e h
  refine AX.wk (Wk.forget [0, 1, 5, 7] [0] (s' := ⟨[(0, .bs false 1 (List.map enc_i p1)), (1, .bs false 1 (List.map enc_i p2)), (5, .pt 0 0), (7, .v (.int .i64 0))], [(0, .box [.v (.int .i64 p3), .v (.int .i64 p4)])]⟩) (by kernel_rfl)) ?_
  refine AX.mono (s_spec_allIn_L1 p1 p2 p3 p4 FU 0 x8 e7) ?_
  rintro _ _ (⟨x9, rfl, rfl, rfl⟩ | ⟨x10, rfl, rfl, rfl⟩)
  · replace h := sm_l h
    refine fin_wk (Wk.forget [6] [] (s' := ⟨[(6, .v (.bool false))], []⟩) (by kernel_rfl)) ?_
    have hr := Option.some.inj h
    subst hr
    exact ⟨_, Wk.refl _, .inr rfl, ⟨[], by kernel_rfl, trivial, [.v (.bool false)], by kernel_rfl, by kernel_rfl⟩⟩
  · replace h := sm_r h
    refine AX.seq ?_
    refine AX.reg (its := []) [6] [] (s1 := ⟨[(6, .v (.bool true))], []⟩) (C := True) (by kernel_rfl) trivial trivial ?_
    refine AX.ret ?_
    refine fin_wk (Wk.forget [6] [] (s' := ⟨[(6, .v (.bool true))], []⟩) (by kernel_rfl)) ?_
    have hr := Option.some.inj h
    subst hr
    exact ⟨_, Wk.refl _, .inr rfl, ⟨[], by kernel_rfl, trivial, [.v (.bool true)], by kernel_rfl, by kernel_rfl⟩⟩

theorem s_spec_armsIn_L2 (p1 : Int) (p2 : List (Int)) (x3 : List (Int)) (v5 : Int) (x7 : List (Int)) (n : Nat) (g : (List (Int × Int)) × Int) (out : List (Int × Int)) (h : m_spec_armsIn_L2 p1 p2 x3 v5 x7 n g.1 g.2 = some out) :
    AX Try.prog 51 0 (codeAt [1, 1, 1, 0, 1, 1, 1, 1, 0, 1, 1, 1, 1] (bodyOf Try.f95)) ((fun g : (List (Int × Int)) × Int => (⟨[(0, .v (.int .i64 p1)), (1, .bs false 1 (List.map enc_i p2)), (5, .sl 0 0 g.1.length), (6, .sl 1 0 x3.length), (7, .v (.int .i64 v5)), (8, .sl 2 0 x7.length), (9, .v (.int .i64 g.2))], [(0, .arr 2 (List.map enc_ii g.1)), (1, .arr 1 (List.map enc_i x3)), (2, .arr 1 (List.map enc_i x7))]⟩ : S)) g) (fun ex s => ex = .exit 2 ∧ s = (fun o : List (Int × Int) => (⟨[(0, .v (.int .i64 p1)), (1, .bs false 1 (List.map enc_i p2)), (5, .sl 0 0 o.length), (6, .sl 1 0 x3.length), (7, .v (.int .i64 v5))], [(0, .arr 2 (List.map enc_ii o)), (1, .arr 1 (List.map enc_i x3))]⟩ : S)) out) := by
  refine AX.wkpost ?_
  refine AX.loop (G := Nat × ((List (Int × Int)) × Int)) (fun q => (fun g : (List (Int × Int)) × Int => (⟨[(0, .v (.int .i64 p1)), (1, .bs false 1 (List.map enc_i p2)), (5, .sl 0 0 g.1.length), (6, .sl 1 0 x3.length), (7, .v (.int .i64 v5)), (8, .sl 2 0 x7.length), (9, .v (.int .i64 g.2))], [(0, .arr 2 (List.map enc_ii g.1)), (1, .arr 1 (List.map enc_i x3)), (2, .arr 1 (List.map enc_i x7))]⟩ : S)) q.2) (fun q => m_spec_armsIn_L2 p1 p2 x3 v5 x7 q.1 q.2.1 q.2.2 = some out) (fun q => q.1) (n, g) h (Wk.refl _) ?_
  clear h
  rintro ⟨fu, v8, v9⟩ h
  cases fu with
  | zero => cases h
  | succ fu =>
    rw [m_spec_armsIn_L2] at h
    refine AX.seq ?_
    refine AX.seq ?_
    refine AX.reg (its := []) [0, 1, 5, 6, 7, 8, 9, 30] [0, 1, 2] (s1 := ⟨[(0, .v (.int .i64 p1)), (1, .bs false 1 (List.map enc_i p2)), (5, .sl 0 0 v8.length), (6, .sl 1 0 x3.length), (7, .v (.int .i64 v5)), (8, .sl 2 0 x7.length), (9, .v (.int .i64 v9)), (30, .v (.bool (decide (v9 < (x7.length : Int)))))], [(0, .arr 2 (List.map enc_ii v8)), (1, .arr 1 (List.map enc_i x3)), (2, .arr 1 (List.map enc_i x7))]⟩) (C := True) (by kernel_rfl) trivial trivial ?_
    rcases bool_cases (decide (v9 < (x7.length : Int))) with b6 | b6
    · replace h := cd_t b6 h
      refine AX.condT (decide (v9 < (x7.length : Int))) (by kernel_rfl) b6 ?_
      refine AX.skip ?_
      refine AX.seq ?_
      refine AX.block ?_
      refine AX.seq ?_
      obtain ⟨g7, h⟩ := gd_e h
      obtain ⟨g8, h⟩ := gd_e h
      refine AX.drw mixed (its := [.auto {}, .auto {}, .auto {}, .auto { y := some (.v (.int .i64 (gt x3 v5))) }, .auto {}, .auto {}, .auto {}, .auto { y := some (.v (.int .i64 (gt x7 v9))) }, .auto {}, .auto { nk := 3 }]) [0, 1, 5, 6, 7, 8, 9, 10] [0, 1, 2, 3] (s1 := ⟨[(0, .v (.int .i64 p1)), (1, .bs false 1 (List.map enc_i p2)), (5, .sl 0 0 v8.length), (6, .sl 1 0 x3.length), (7, .v (.int .i64 v5)), (8, .sl 2 0 x7.length), (9, .v (.int .i64 v9)), (10, .pt 3 0)], [(0, .arr 2 (List.map enc_ii v8)), (1, .arr 1 (List.map enc_i x3)), (2, .arr 1 (List.map enc_i x7)), (3, .box [.v (.int .i64 (gt x3 v5)), .v (.int .i64 (gt x7 v9))])]⟩) (C := (0 ≤ v5 ∧ v5 < (x3.length : Int)) ∧ (True ∧ (AV.v (((List.map enc_i x3).getD (0 + v5.toNat) []).getD 0 undef) = .v (.int .i64 (gt x3 v5)))) ∧ (0 ≤ v9 ∧ v9 < (x7.length : Int)) ∧ (True ∧ (AV.v (((List.map enc_i x7).getD (0 + v9.toNat) []).getD 0 undef) = .v (.int .i64 (gt x7 v9)))) ∧ True) (by kernel_rfl) ⟨g7, ⟨⟨trivial, (congrArg (fun z : List Value => AV.v (z.getD 0 undef)) (idx_arr (enc := enc_i) rfl g7))⟩, ⟨g8, ⟨⟨trivial, (congrArg (fun z : List Value => AV.v (z.getD 0 undef)) (idx_arr (enc := enc_i) rfl g8))⟩, trivial⟩⟩⟩⟩ trivial ?_
      refine AX.seq ?_
      obtain ⟨x10, e9, h⟩ := bd_e h
      refine AX.reg (its := [.auto {}, .auto {}, .auto {}, .call 148 [.sl 1 0 x3.length, .bs false 1 (List.map enc_i p2), .agg [.v (.int .i64 (gt x3 v5)), .v (.int .i64 (gt x7 v9))]] (handO (rho ([] ++ [])) [] [] ++ [(1, .arr 1 (List.map enc_i x3))]) (callEv [] [] (.v (.bool x10)) [])]) [0, 1, 5, 6, 7, 8, 9, 10, 45] [0, 1, 2, 3] (s1 := ⟨[(0, .v (.int .i64 p1)), (1, .bs false 1 (List.map enc_i p2)), (5, .sl 0 0 v8.length), (6, .sl 1 0 x3.length), (7, .v (.int .i64 v5)), (8, .sl 2 0 x7.length), (9, .v (.int .i64 v9)), (10, .pt 3 0), (45, .v (.bool x10))], [(0, .arr 2 (List.map enc_ii v8)), (1, .arr 1 (List.map enc_i x3)), (2, .arr 1 (List.map enc_i x7)), (3, .box [.v (.int .i64 (gt x3 v5)), .v (.int .i64 (gt x7 v9))])]⟩) (C := ((([.sl 1 0 x3.length, .bs false 1 (List.map enc_i p2), .agg [.v (.int .i64 (gt x3 v5)), .v (.int .i64 (gt x7 v9))]] : List AV) = [.sl 1 0 x3.length, .bs false 1 (List.map enc_i p2), .agg [.v (.int .i64 (gt x3 v5)), .v (.int .i64 (gt x7 v9))]]) ∧ (AO.arr 1 (List.map enc_i x3) = AO.arr 1 (List.map enc_i x3)) ∧ True) ∧ True) (by kernel_rfl) ⟨⟨rfl, rfl, trivial⟩, trivial⟩ ⟨call_ok (ks := []) (ns := []) (bor := [1]) (bobjs := [(1, .arr 1 (List.map enc_i x3))]) (s_spec_allIn x3 p2 (gt x3 v5) (gt x7 v9) x10 e9) (.cons (.c1 (.c0 (.arr rfl rfl ((rfl).trans (List.length_map ..).symm)))) (.cons (.c1 (.c0 (.same _ (by kernel_rfl) (by kernel_rfl)))) (.cons (.c1 (.agg (.cons (.same _ (by kernel_rfl) (by kernel_rfl)) (.cons (.same _ (by kernel_rfl) (by kernel_rfl)) (.nil))))) (.nil)))) (by kernel_rfl) trivial, trivial⟩ ?_
      rcases bool_cases (x10) with b10 | b10
      · replace h := cd_t b10 h
        refine AX.condT (x10) (by kernel_rfl) b10 ?_
        obtain ⟨g11, h⟩ := gd_e h
        refine AX.reg (its := [.auto {}, .auto {}, .auto { nk := 4 }, .auto { y := some (.sl 5 0 ((v8 ++ ([((gt x3 v5), (gt x7 v9))] : List (Int × Int))).length)), els := some (List.map enc_ii v8), els2 := some (List.map enc_ii ([((gt x3 v5), (gt x7 v9))] : List (Int × Int))), nk := 5 }]) [0, 1, 5, 6, 7, 8, 9] [1, 2, 5] (s1 := ⟨[(0, .v (.int .i64 p1)), (1, .bs false 1 (List.map enc_i p2)), (5, .sl 5 0 ((v8 ++ ([((gt x3 v5), (gt x7 v9))] : List (Int × Int))).length)), (6, .sl 1 0 x3.length), (7, .v (.int .i64 v5)), (8, .sl 2 0 x7.length), (9, .v (.int .i64 v9))], [(1, .arr 1 (List.map enc_i x3)), (2, .arr 1 (List.map enc_i x7)), (5, .arr 2 (List.map enc_ii v8 ++ List.map enc_ii ([((gt x3 v5), (gt x7 v9))] : List (Int × Int))))]⟩) (C := ((((((List.map enc_ii v8).drop 0).take (v8.length) = List.map enc_ii v8) ∧ (((List.map enc_ii ([((gt x3 v5), (gt x7 v9))] : List (Int × Int))).drop 0).take (([((gt x3 v5), (gt x7 v9))] : List (Int × Int)).length) = List.map enc_ii ([((gt x3 v5), (gt x7 v9))] : List (Int × Int)))) ∧ (List.map enc_ii v8).length + (List.map enc_ii ([((gt x3 v5), (gt x7 v9))] : List (Int × Int))).length ≤ 1099511627776) ∧ (AV.sl 5 0 (List.map enc_ii v8 ++ List.map enc_ii ([((gt x3 v5), (gt x7 v9))] : List (Int × Int))).length = AV.sl 5 0 (v8 ++ ([((gt x3 v5), (gt x7 v9))] : List (Int × Int))).length)) ∧ True) (by kernel_rfl) ⟨⟨⟨⟨(dt_all (enc := enc_ii) rfl rfl), (dt_all (enc := enc_ii) rfl rfl)⟩, (by simp only [List.length_map, List.length_nil]; simpa using g11)⟩, sl_len (enc := enc_ii) (app_can (enc := enc_ii) rfl rfl)⟩, trivial⟩ trivial ?_
        refine AX.reg (its := [.auto {}, .auto { raw := true }]) [0, 1, 5, 6, 7, 8, 9] [1, 2, 5] (s1 := ⟨[(0, .v (.int .i64 p1)), (1, .bs false 1 (List.map enc_i p2)), (5, .sl 5 0 ((v8 ++ ([((gt x3 v5), (gt x7 v9))] : List (Int × Int))).length)), (6, .sl 1 0 x3.length), (7, .v (.int .i64 v5)), (8, .sl 2 0 x7.length), (9, .v (.int .i64 (IntKind.wrap .i64 (v9 + 1))))], [(1, .arr 1 (List.map enc_i x3)), (2, .arr 1 (List.map enc_i x7)), (5, .arr 2 (List.map enc_ii v8 ++ List.map enc_ii ([((gt x3 v5), (gt x7 v9))] : List (Int × Int))))]⟩) (C := True) (by kernel_rfl) trivial trivial ?_
        refine ⟨(fu, (v8 ++ ([((gt x3 v5), (gt x7 v9))] : List (Int × Int)), IntKind.wrap .i64 (v9 + 1))), h, Nat.lt_succ_self _, ?_⟩
        refine Wk.trans (Wk.swap 0 5 (Nat.le_of_ble_eq_true (by kernel_rfl)) (Nat.le_of_ble_eq_true (by kernel_rfl)) rfl) ?_
        refine Wk.trans (Wk.forget [0, 1, 5, 6, 7, 8, 9] [0, 1, 2] (s' := ⟨[(0, .v (.int .i64 p1)), (1, .bs false 1 (List.map enc_i p2)), (5, .sl 0 0 ((v8 ++ ([((gt x3 v5), (gt x7 v9))] : List (Int × Int))).length)), (6, .sl 1 0 x3.length), (7, .v (.int .i64 v5)), (8, .sl 2 0 x7.length), (9, .v (.int .i64 (IntKind.wrap .i64 (v9 + 1))))], [(0, .arr 2 (List.map enc_ii v8 ++ List.map enc_ii ([((gt x3 v5), (gt x7 v9))] : List (Int × Int)))), (1, .arr 1 (List.map enc_i x3)), (2, .arr 1 (List.map enc_i x7))]⟩) (by kernel_rfl)) ?_
        refine Wk.trans (Wk.of_eq (congrArg (fun z => (⟨[(0, .v (.int .i64 p1)), (1, .bs false 1 (List.map enc_i p2)), (5, .sl 0 0 ((v8 ++ ([((gt x3 v5), (gt x7 v9))] : List (Int × Int))).length)), (6, .sl 1 0 x3.length), (7, .v (.int .i64 v5)), (8, .sl 2 0 x7.length), (9, .v (.int .i64 (IntKind.wrap .i64 (v9 + 1))))], [(0, .arr 2 (z)), (1, .arr 1 (List.map enc_i x3)), (2, .arr 1 (List.map enc_i x7))]⟩ : S)) (app_can (enc := enc_ii) rfl rfl : List.map enc_ii v8 ++ List.map enc_ii ([((gt x3 v5), (gt x7 v9))] : List (Int × Int)) = List.map enc_ii (v8 ++ ([((gt x3 v5), (gt x7 v9))] : List (Int × Int)))))) ?_
        exact Wk.refl _
      · replace h := cd_f b10 h
        refine AX.condF (x10) (by kernel_rfl) b10 ?_
        refine AX.skip ?_
        refine AX.reg (its := [.auto {}, .auto { raw := true }]) [0, 1, 5, 6, 7, 8, 9] [0, 1, 2] (s1 := ⟨[(0, .v (.int .i64 p1)), (1, .bs false 1 (List.map enc_i p2)), (5, .sl 0 0 v8.length), (6, .sl 1 0 x3.length), (7, .v (.int .i64 v5)), (8, .sl 2 0 x7.length), (9, .v (.int .i64 (IntKind.wrap .i64 (v9 + 1))))], [(0, .arr 2 (List.map enc_ii v8)), (1, .arr 1 (List.map enc_i x3)), (2, .arr 1 (List.map enc_i x7))]⟩) (C := True) (by kernel_rfl) trivial trivial ?_
        refine ⟨(fu, (v8, IntKind.wrap .i64 (v9 + 1))), h, Nat.lt_succ_self _, ?_⟩
        refine Wk.trans (Wk.forget [0, 1, 5, 6, 7, 8, 9] [0, 1, 2] (s' := ⟨[(0, .v (.int .i64 p1)), (1, .bs false 1 (List.map enc_i p2)), (5, .sl 0 0 v8.length), (6, .sl 1 0 x3.length), (7, .v (.int .i64 v5)), (8, .sl 2 0 x7.length), (9, .v (.int .i64 (IntKind.wrap .i64 (v9 + 1))))], [(0, .arr 2 (List.map enc_ii v8)), (1, .arr 1 (List.map enc_i x3)), (2, .arr 1 (List.map enc_i x7))]⟩) (by kernel_rfl)) ?_
        exact Wk.refl _
    · replace h := cd_f b6 h
      refine AX.condF (decide (v9 < (x7.length : Int))) (by kernel_rfl) b6 ?_
      refine AX.exit ?_
      refine fin_wk (Wk.forget [0, 1, 5, 6, 7] [0, 1] (s' := ⟨[(0, .v (.int .i64 p1)), (1, .bs false 1 (List.map enc_i p2)), (5, .sl 0 0 v8.length), (6, .sl 1 0 x3.length), (7, .v (.int .i64 v5))], [(0, .arr 2 (List.map enc_ii v8)), (1, .arr 1 (List.map enc_i x3))]⟩) (by kernel_rfl)) ?_
      have hr := Option.some.inj h
      subst hr
      exact ⟨_, Wk.refl _, ⟨rfl, rfl⟩⟩

theorem s_spec_armsIn_L1 (p1 : Int) (p2 : List (Int)) (x3 : List (Int)) (n : Nat) (g : (List (Int × Int)) × Int) (out : List (Int × Int)) (h : m_spec_armsIn_L1 p1 p2 x3 n g.1 g.2 = some out) :
    AX Try.prog 51 0 (codeAt [1, 1, 1, 0, 1, 1] (bodyOf Try.f95)) ((fun g : (List (Int × Int)) × Int => (⟨[(0, .v (.int .i64 p1)), (1, .bs false 1 (List.map enc_i p2)), (5, .sl 0 0 g.1.length), (6, .sl 1 0 x3.length), (7, .v (.int .i64 g.2))], [(0, .arr 2 (List.map enc_ii g.1)), (1, .arr 1 (List.map enc_i x3))]⟩ : S)) g) (fun ex s => ex = .exit 0 ∧ s = (fun o : List (Int × Int) => (⟨[(5, .sl 0 0 o.length)], [(0, .arr 2 (List.map enc_ii o))]⟩ : S)) out) := by
  refine AX.wkpost ?_
  refine AX.loop (G := Nat × ((List (Int × Int)) × Int)) (fun q => (fun g : (List (Int × Int)) × Int => (⟨[(0, .v (.int .i64 p1)), (1, .bs false 1 (List.map enc_i p2)), (5, .sl 0 0 g.1.length), (6, .sl 1 0 x3.length), (7, .v (.int .i64 g.2))], [(0, .arr 2 (List.map enc_ii g.1)), (1, .arr 1 (List.map enc_i x3))]⟩ : S)) q.2) (fun q => m_spec_armsIn_L1 p1 p2 x3 q.1 q.2.1 q.2.2 = some out) (fun q => q.1) (n, g) h (Wk.refl _) ?_
  clear h
  rintro ⟨fu, v4, v5⟩ h
  cases fu with
  | zero => cases h
  | succ fu =>
    rw [m_spec_armsIn_L1] at h
    refine AX.seq ?_
    refine AX.seq ?_
    refine AX.reg (its := []) [0, 1, 5, 6, 7, 17] [0, 1] (s1 := ⟨[(0, .v (.int .i64 p1)), (1, .bs false 1 (List.map enc_i p2)), (5, .sl 0 0 v4.length), (6, .sl 1 0 x3.length), (7, .v (.int .i64 v5)), (17, .v (.bool (decide (v5 < (x3.length : Int)))))], [(0, .arr 2 (List.map enc_ii v4)), (1, .arr 1 (List.map enc_i x3))]⟩) (C := True) (by kernel_rfl) trivial trivial ?_
    rcases bool_cases (decide (v5 < (x3.length : Int))) with b2 | b2
    · replace h := cd_t b2 h
      refine AX.condT (decide (v5 < (x3.length : Int))) (by kernel_rfl) b2 ?_
      refine AX.skip ?_
      refine AX.seq ?_
      refine AX.block ?_
      refine AX.seq ?_
      obtain ⟨g3, h⟩ := gd_e h
      obtain ⟨x6, e4, h⟩ := bd_e h
      obtain ⟨x7, e5, h⟩ := bd_e h
      refine AX.reg (its := [.auto {}, .auto {}, .auto {}, .auto {}, .auto { y := some (.v (.int .i64 (gt x3 v5))) }, .call 94 [.v (.int .i64 p1), .v (.int .i64 (gt x3 v5))] (handO (rho ([] ++ [])) [] [] ++ []) (callEv [] [] (.v (.int .i64 x6)) []), .call 108 [.v (.int .i64 x6)] (handO (rho ([] ++ [2])) [] [] ++ []) (callEv [] [2] (.sl 0 0 x7.length) [.arr 1 (List.map enc_i x7)])]) [0, 1, 5, 6, 7, 8] [0, 1, 2] (s1 := ⟨[(0, .v (.int .i64 p1)), (1, .bs false 1 (List.map enc_i p2)), (5, .sl 0 0 v4.length), (6, .sl 1 0 x3.length), (7, .v (.int .i64 v5)), (8, .sl 2 0 x7.length)], [(0, .arr 2 (List.map enc_ii v4)), (1, .arr 1 (List.map enc_i x3)), (2, .arr 1 (List.map enc_i x7))]⟩) (C := (0 ≤ v5 ∧ v5 < (x3.length : Int)) ∧ (True ∧ (AV.v (((List.map enc_i x3).getD (0 + v5.toNat) []).getD 0 undef) = .v (.int .i64 (gt x3 v5)))) ∧ ((([.v (.int .i64 p1), .v (.int .i64 (gt x3 v5))] : List AV) = [.v (.int .i64 p1), .v (.int .i64 (gt x3 v5))]) ∧ True) ∧ ((([.v (.int .i64 x6)] : List AV) = [.v (.int .i64 x6)]) ∧ True) ∧ True) (by kernel_rfl) ⟨g3, ⟨⟨trivial, (congrArg (fun z : List Value => AV.v (z.getD 0 undef)) (idx_arr (enc := enc_i) rfl g3))⟩, ⟨⟨rfl, trivial⟩, ⟨⟨rfl, trivial⟩, trivial⟩⟩⟩⟩ ⟨call_ok (ks := []) (ns := []) (bor := []) (bobjs := []) (s_spec_less p1 (gt x3 v5) x6 e4) (.cons (.c1 (.c0 (.same _ (by kernel_rfl) (by kernel_rfl)))) (.cons (.c1 (.c0 (.same _ (by kernel_rfl) (by kernel_rfl)))) (.nil))) (by kernel_rfl) trivial, ⟨call_ok (ks := []) (ns := [2]) (bor := []) (bobjs := []) (s_spec_partsIn x6 x7 e5) (.cons (.c1 (.c0 (.same _ (by kernel_rfl) (by kernel_rfl)))) (.nil)) (by kernel_rfl) trivial, trivial⟩⟩ ?_
      refine AX.seq ?_
      refine AX.reg (its := []) [0, 1, 5, 6, 7, 8, 9] [0, 1, 2] (s1 := ⟨[(0, .v (.int .i64 p1)), (1, .bs false 1 (List.map enc_i p2)), (5, .sl 0 0 v4.length), (6, .sl 1 0 x3.length), (7, .v (.int .i64 v5)), (8, .sl 2 0 x7.length), (9, .v (.int .i64 0))], [(0, .arr 2 (List.map enc_ii v4)), (1, .arr 1 (List.map enc_i x3)), (2, .arr 1 (List.map enc_i x7))]⟩) (C := True) (by kernel_rfl) trivial trivial ?_
      refine AX.block ?_
      obtain ⟨x11, e12, h⟩ := bd_e h
      refine AX.wk (Wk.forget [0, 1, 5, 6, 7, 8, 9] [0, 1, 2] (s' := ⟨[(0, .v (.int .i64 p1)), (1, .bs false 1 (List.map enc_i p2)), (5, .sl 0 0 v4.length), (6, .sl 1 0 x3.length), (7, .v (.int .i64 v5)), (8, .sl 2 0 x7.length), (9, .v (.int .i64 0))], [(0, .arr 2 (List.map enc_ii v4)), (1, .arr 1 (List.map enc_i x3)), (2, .arr 1 (List.map enc_i x7))]⟩) (by kernel_rfl)) ?_
      refine AX.mono (s_spec_armsIn_L2 p1 p2 x3 v5 x7 FU (v4, 0) x11 e12) ?_
      rintro _ _ ⟨rfl, rfl⟩
      skip
      refine AX.reg (its := [.auto {}, .auto { raw := true }]) [0, 1, 5, 6, 7] [0, 1] (s1 := ⟨[(0, .v (.int .i64 p1)), (1, .bs false 1 (List.map enc_i p2)), (5, .sl 0 0 x11.length), (6, .sl 1 0 x3.length), (7, .v (.int .i64 (IntKind.wrap .i64 (v5 + 1))))], [(0, .arr 2 (List.map enc_ii x11)), (1, .arr 1 (List.map enc_i x3))]⟩) (C := True) (by kernel_rfl) trivial trivial ?_
      refine ⟨(fu, (x11, IntKind.wrap .i64 (v5 + 1))), h, Nat.lt_succ_self _, ?_⟩
      refine Wk.trans (Wk.forget [0, 1, 5, 6, 7] [0, 1] (s' := ⟨[(0, .v (.int .i64 p1)), (1, .bs false 1 (List.map enc_i p2)), (5, .sl 0 0 x11.length), (6, .sl 1 0 x3.length), (7, .v (.int .i64 (IntKind.wrap .i64 (v5 + 1))))], [(0, .arr 2 (List.map enc_ii x11)), (1, .arr 1 (List.map enc_i x3))]⟩) (by kernel_rfl)) ?_
      exact Wk.refl _
    · replace h := cd_f b2 h
      refine AX.condF (decide (v5 < (x3.length : Int))) (by kernel_rfl) b2 ?_
      refine AX.exit ?_
      refine fin_wk (Wk.forget [5] [0] (s' := ⟨[(5, .sl 0 0 v4.length)], [(0, .arr 2 (List.map enc_ii v4))]⟩) (by kernel_rfl)) ?_
      have hr := Option.some.inj h
      subst hr
      exact ⟨_, Wk.refl _, ⟨rfl, rfl⟩⟩

theorem s_spec_armsIn (p1 : Int) (p2 : List (Int)) (r : List (Int × Int)) (h : m_spec_armsIn p1 p2 = some r) :
    Eng.Spec Try.prog 95 [.v (.int .i64 p1), .bs false 1 (List.map enc_i p2)] [] (.sl 0 0 r.length) [.arr 2 (List.map enc_ii r)] := by
  unfold m_spec_armsIn at h
  refine Eng.Spec.body Try.func95 (by kernel_rfl) rfl (by kernel_rfl) ?_
  refine AX.wkpost ?_
  refine AX.seq ?_
  refine AX.reg (its := []) [0, 1] [] (s1 := ⟨[(0, .v (.int .i64 p1)), (1, .bs false 1 (List.map enc_i p2))], []⟩) (C := True) (by kernel_rfl) trivial trivial ?_
  refine AX.seq ?_
  refine AX.reg (its := [.auto { nk := 0 }]) [0, 1, 5] [0] (s1 := ⟨[(0, .v (.int .i64 p1)), (1, .bs false 1 (List.map enc_i p2)), (5, .sl 0 0 (([] : List (Int × Int)).length))], [(0, .arr 2 (List.map enc_ii ([] : List (Int × Int))))]⟩) (C := True) (by kernel_rfl) trivial trivial ?_
  refine AX.seq ?_
  obtain ⟨x3, e1, h⟩ := bd_e h
  refine AX.reg (its := [.auto {}, .call 108 [.v (.int .i64 p1)] (handO (rho ([] ++ [1])) [] [] ++ []) (callEv [] [1] (.sl 0 0 x3.length) [.arr 1 (List.map enc_i x3)])]) [0, 1, 5, 6] [0, 1] (s1 := ⟨[(0, .v (.int .i64 p1)), (1, .bs false 1 (List.map enc_i p2)), (5, .sl 0 0 (([] : List (Int × Int)).length)), (6, .sl 1 0 x3.length)], [(0, .arr 2 (List.map enc_ii ([] : List (Int × Int)))), (1, .arr 1 (List.map enc_i x3))]⟩) (C := ((([.v (.int .i64 p1)] : List AV) = [.v (.int .i64 p1)]) ∧ True) ∧ True) (by kernel_rfl) ⟨⟨rfl, trivial⟩, trivial⟩ ⟨call_ok (ks := []) (ns := [1]) (bor := []) (bobjs := []) (s_spec_partsIn p1 x3 e1) (.cons (.c1 (.c0 (.same _ (by kernel_rfl) (by kernel_rfl)))) (.nil)) (by kernel_rfl) trivial, trivial⟩ ?_
  refine AX.seq ?_
  refine AX.seq ?_
  refine AX.reg (its := []) [0, 1, 5, 6, 7] [0, 1] (s1 := ⟨[(0, .v (.int .i64 p1)), (1, .bs false 1 (List.map enc_i p2)), (5, .sl 0 0 (([] : List (Int × Int)).length)), (6, .sl 1 0 x3.length), (7, .v (.int .i64 0))], [(0, .arr 2 (List.map enc_ii ([] : List (Int × Int)))), (1, .arr 1 (List.map enc_i x3))]⟩) (C := True) (by kernel_rfl) trivial trivial ?_
  refine AX.block ?_
  obtain ⟨x12, e13, h⟩ := bd_e h
  refine AX.wk (Wk.forget [0, 1, 5, 6, 7] [0, 1] (s' := ⟨[(0, .v (.int .i64 p1)), (1, .bs false 1 (List.map enc_i p2)), (5, .sl 0 0 (([] : List (Int × Int)).length)), (6, .sl 1 0 x3.length), (7, .v (.int .i64 0))], [(0, .arr 2 (List.map enc_ii ([] : List (Int × Int)))), (1, .arr 1 (List.map enc_i x3))]⟩) (by kernel_rfl)) ?_
  refine AX.mono (s_spec_armsIn_L1 p1 p2 x3 FU (([] : List (Int × Int)), 0) x12 e13) ?_
  rintro _ _ ⟨rfl, rfl⟩
  skip
  refine AX.seq ?_
  refine AX.reg (its := []) [4] [0] (s1 := ⟨[(4, .sl 0 0 x12.length)], [(0, .arr 2 (List.map enc_ii x12))]⟩) (C := True) (by kernel_rfl) trivial trivial ?_
  refine AX.ret ?_
  refine fin_wk (Wk.forget [4] [0] (s' := ⟨[(4, .sl 0 0 x12.length)], [(0, .arr 2 (List.map enc_ii x12))]⟩) (by kernel_rfl)) ?_
  have hr := Option.some.inj h
  subst hr
  exact ⟨_, Wk.refl _, .inr rfl, ⟨[0], by kernel_rfl, ⟨rfl, trivial⟩, [.sl 0 0 x12.length], by kernel_rfl, by kernel_rfl⟩⟩

theorem s_spec_covers (p1 : Int) (p2 : Int) (p3 : Int) (p4 : Int) (r : Bool) (h : m_spec_covers p1 p2 p3 p4 = some r) :
    Eng.Spec Try.prog 96 [.agg [.v (.int .i64 p1), .v (.int .i64 p2)], .agg [.v (.int .i64 p3), .v (.int .i64 p4)]] [] (.v (.bool r)) [] := by
  unfold m_spec_covers at h
  refine Eng.Spec.body Try.func96 (by kernel_rfl) rfl (by kernel_rfl) ?_
  refine AX.wkpost ?_
  refine AX.seq ?_
  refine AX.reg (its := [.auto { nk := 0 }, .auto { nk := 1 }]) [2, 3] [0, 1] (s1 := ⟨[(2, .pt 0 0), (3, .pt 1 0)], [(0, .box [.v (.int .i64 p1), .v (.int .i64 p2)]), (1, .box [.v (.int .i64 p3), .v (.int .i64 p4)])]⟩) (C := True) (by kernel_rfl) trivial trivial ?_
  refine AX.seq ?_
  obtain ⟨x5, e1, h⟩ := bd_e h
  rcases bool_cases (decide (x5 = 0)) with b2 | b2
  · replace h := cd_t b2 h
    obtain ⟨x6, e3, h⟩ := bd_e h
    refine AX.reg (its := [.auto {}, .auto {}, .auto {}, .auto {}, .call 94 [.v (.int .i64 p1), .v (.int .i64 p3)] (handO (rho ([] ++ [])) [] [] ++ []) (callEv [] [] (.v (.int .i64 x5)) []), .auto { y := some (.v (.bool true)) }, .auto {}, .auto {}, .auto {}, .auto {}, .auto {}, .call 94 [.v (.int .i64 p2), .v (.int .i64 p4)] (handO (rho ([] ++ [])) [] [] ++ []) (callEv [] [] (.v (.int .i64 x6)) [])]) [4] [] (s1 := ⟨[(4, .v (.bool (decide (x6 = 0))))], []⟩) (C := ((([.v (.int .i64 p1), .v (.int .i64 p3)] : List AV) = [.v (.int .i64 p1), .v (.int .i64 p3)]) ∧ True) ∧ ((True) ∧ ((.v (.bool (decide (x5 = 0))) : AV) = (.v (.bool true) : AV))) ∧ ((([.v (.int .i64 p2), .v (.int .i64 p4)] : List AV) = [.v (.int .i64 p2), .v (.int .i64 p4)]) ∧ True) ∧ True) (by kernel_rfl) ⟨⟨rfl, trivial⟩, ⟨⟨trivial, (congrArg (fun z => AV.v (.bool z)) b2)⟩, ⟨⟨rfl, trivial⟩, trivial⟩⟩⟩ ⟨call_ok (ks := []) (ns := []) (bor := []) (bobjs := []) (s_spec_less p1 p3 x5 e1) (.cons (.c1 (.c0 (.same _ (by kernel_rfl) (by kernel_rfl)))) (.cons (.c1 (.c0 (.same _ (by kernel_rfl) (by kernel_rfl)))) (.nil))) (by kernel_rfl) trivial, ⟨call_ok (ks := []) (ns := []) (bor := []) (bobjs := []) (s_spec_less p2 p4 x6 e3) (.cons (.c1 (.c0 (.same _ (by kernel_rfl) (by kernel_rfl)))) (.cons (.c1 (.c0 (.same _ (by kernel_rfl) (by kernel_rfl)))) (.nil))) (by kernel_rfl) trivial, trivial⟩⟩ ?_
    refine AX.ret ?_
    refine fin_wk (Wk.forget [4] [] (s' := ⟨[(4, .v (.bool (decide (x6 = 0))))], []⟩) (by kernel_rfl)) ?_
    have hr := Option.some.inj h
    subst hr
    exact ⟨_, Wk.refl _, .inr rfl, ⟨[], by kernel_rfl, trivial, [.v (.bool (decide (x6 = 0)))], by kernel_rfl, by kernel_rfl⟩⟩
  · replace h := cd_f b2 h
    refine AX.reg (its := [.auto {}, .auto {}, .auto {}, .auto {}, .call 94 [.v (.int .i64 p1), .v (.int .i64 p3)] (handO (rho ([] ++ [])) [] [] ++ []) (callEv [] [] (.v (.int .i64 x5)) []), .auto { y := some (.v (.bool false)) }]) [4] [] (s1 := ⟨[(4, .v (.bool false))], []⟩) (C := ((([.v (.int .i64 p1), .v (.int .i64 p3)] : List AV) = [.v (.int .i64 p1), .v (.int .i64 p3)]) ∧ True) ∧ ((True) ∧ ((.v (.bool (decide (x5 = 0))) : AV) = (.v (.bool false) : AV))) ∧ True) (by kernel_rfl) ⟨⟨rfl, trivial⟩, ⟨⟨trivial, (congrArg (fun z => AV.v (.bool z)) b2)⟩, trivial⟩⟩ ⟨call_ok (ks := []) (ns := []) (bor := []) (bobjs := []) (s_spec_less p1 p3 x5 e1) (.cons (.c1 (.c0 (.same _ (by kernel_rfl) (by kernel_rfl)))) (.cons (.c1 (.c0 (.same _ (by kernel_rfl) (by kernel_rfl)))) (.nil))) (by kernel_rfl) trivial, trivial⟩ ?_
    refine AX.ret ?_
    refine fin_wk (Wk.forget [4] [] (s' := ⟨[(4, .v (.bool false))], []⟩) (by kernel_rfl)) ?_
    have hr := Option.some.inj h
    subst hr
    exact ⟨_, Wk.refl _, .inr rfl, ⟨[], by kernel_rfl, trivial, [.v (.bool false)], by kernel_rfl, by kernel_rfl⟩⟩

theorem s_spec_GreatestArms_L1 (p3 : List (Int)) (x4 : Int) (n : Nat) (g : Int) (out : Unit ⊕ Unit) (h : m_spec_GreatestArms_L1 p3 x4 n g = some out) :
    AX Try.prog 92 0 (codeAt [1, 1, 1, 0, 1, 1] (bodyOf Try.f16)) ((fun g : Int => (⟨[(1, .bs false 1 (List.map enc_i p3)), (5, .v (.int .i64 x4)), (6, .v (.int .i64 g))], []⟩ : S)) g) (fun ex s => (∃ o : Unit, out = Sum.inl o ∧ ex = .ret ∧ s = ⟨[(4, .v (.slice none 0 0))], []⟩) ∨ (∃ o : Unit, out = Sum.inr o ∧ ex = .exit 0 ∧ s = ⟨[(1, .bs false 1 (List.map enc_i p3)), (5, .v (.int .i64 x4))], []⟩)) := by
  refine AX.wkpost ?_
  refine AX.loop (G := Nat × (Int)) (fun q => (fun g : Int => (⟨[(1, .bs false 1 (List.map enc_i p3)), (5, .v (.int .i64 x4)), (6, .v (.int .i64 g))], []⟩ : S)) q.2) (fun q => m_spec_GreatestArms_L1 p3 x4 q.1 q.2 = some out) (fun q => q.1) (n, g) h (Wk.refl _) ?_
  clear h
  rintro ⟨fu, v7⟩ h
  cases fu with
  | zero => cases h
  | succ fu =>
    rw [m_spec_GreatestArms_L1] at h
    refine AX.seq ?_
    refine AX.seq ?_
    refine AX.reg (its := [.auto {}, .auto {}, .auto { y := some (.v (.int .i64 (p3.length : Int))) }]) [1, 5, 6, 31] [] (s1 := ⟨[(1, .bs false 1 (List.map enc_i p3)), (5, .v (.int .i64 x4)), (6, .v (.int .i64 v7)), (31, .v (.bool (decide (v7 < (p3.length : Int)))))], []⟩) (C := (True ∧ (AV.v (.int .i64 ((List.map enc_i p3).length : Int)) = AV.v (.int .i64 (p3.length : Int)))) ∧ True) (by kernel_rfl) ⟨⟨trivial, len_map enc_i p3⟩, trivial⟩ trivial ?_
    rcases bool_cases (decide (v7 < (p3.length : Int))) with b7 | b7
    · replace h := cd_t b7 h
      refine AX.condT (decide (v7 < (p3.length : Int))) (by kernel_rfl) b7 ?_
      refine AX.skip ?_
      refine AX.seq ?_
      refine AX.block ?_
      refine AX.seq ?_
      obtain ⟨g8, h⟩ := gd_e h
      obtain ⟨x8, e9, h⟩ := bd_e h
      rcases bool_cases ((!x8)) with b10 | b10
      · replace h := cd_t b10 h
        refine AX.reg (its := [.auto {}, .auto {}, .auto { y := some (.be 1 (enc_i (gt p3 v7)) 0) }, .auto {}, .call 93 [.v (.int .i64 (gt p3 v7)), .v (.int .i64 0), .v (.int .i64 4095)] (handO (rho ([] ++ [])) [] [] ++ []) (callEv [] [] (.v (.bool x8)) []), .auto { y := some (.v (.bool true)) }]) [1, 5, 6, 48] [] (s1 := ⟨[(1, .bs false 1 (List.map enc_i p3)), (5, .v (.int .i64 x4)), (6, .v (.int .i64 v7)), (48, .v (.bool true))], []⟩) (C := ((0 ≤ v7 ∧ v7 < ((List.map enc_i p3).length : Int)) ∧ (AV.be 1 ((List.map enc_i p3).getD v7.toNat []) 0 = AV.be 1 (enc_i (gt p3 v7)) 0)) ∧ ((([.v (.int .i64 (gt p3 v7)), .v (.int .i64 0), .v (.int .i64 4095)] : List AV) = [.v (.int .i64 (gt p3 v7)), .v (.int .i64 0), .v (.int .i64 4095)]) ∧ True) ∧ ((True) ∧ ((.v (.bool (!x8)) : AV) = (.v (.bool true) : AV))) ∧ True) (by kernel_rfl) ⟨idx_bs enc_i p3 v7 1 g8, ⟨⟨rfl, trivial⟩, ⟨⟨trivial, (congrArg (fun z => AV.v (.bool z)) b10)⟩, trivial⟩⟩⟩ ⟨call_ok (ks := []) (ns := []) (bor := []) (bobjs := []) (s_spec_inRange (gt p3 v7) 0 4095 x8 e9) (.cons (.c1 (.c0 (.same _ (by kernel_rfl) (by kernel_rfl)))) (.cons (.c1 (.c0 (.same _ (by kernel_rfl) (by kernel_rfl)))) (.cons (.c1 (.c0 (.same _ (by kernel_rfl) (by kernel_rfl)))) (.nil)))) (by kernel_rfl) trivial, trivial⟩ ?_
        refine AX.cond_true (by kernel_rfl) ?_
        refine AX.seq ?_
        refine AX.reg (its := []) [4] [] (s1 := ⟨[(4, .v (.slice none 0 0))], []⟩) (C := True) (by kernel_rfl) trivial trivial ?_
        refine AX.ret ?_
        refine fin_wk (Wk.forget [4] [] (s' := ⟨[(4, .v (.slice none 0 0))], []⟩) (by kernel_rfl)) ?_
        have hr := Option.some.inj h
        subst hr
        exact ⟨_, Wk.refl _, .inl ⟨(), rfl, rfl, rfl⟩⟩
      · replace h := cd_f b10 h
        obtain ⟨x9, e11, h⟩ := bd_e h
        refine AX.reg (its := [.auto {}, .auto {}, .auto { y := some (.be 1 (enc_i (gt p3 v7)) 0) }, .auto {}, .call 93 [.v (.int .i64 (gt p3 v7)), .v (.int .i64 0), .v (.int .i64 4095)] (handO (rho ([] ++ [])) [] [] ++ []) (callEv [] [] (.v (.bool x8)) []), .auto { y := some (.v (.bool false)) }, .auto {}, .auto {}, .auto {}, .auto { y := some (.be 1 (enc_i (gt p3 v7)) 0) }, .auto {}, .auto {}, .call 94 [.v (.int .i64 (gt p3 v7)), .v (.int .i64 x4)] (handO (rho ([] ++ [])) [] [] ++ []) (callEv [] [] (.v (.int .i64 x9)) [])]) [1, 5, 6, 48] [] (s1 := ⟨[(1, .bs false 1 (List.map enc_i p3)), (5, .v (.int .i64 x4)), (6, .v (.int .i64 v7)), (48, .v (.bool (decide (0 < x9))))], []⟩) (C := ((0 ≤ v7 ∧ v7 < ((List.map enc_i p3).length : Int)) ∧ (AV.be 1 ((List.map enc_i p3).getD v7.toNat []) 0 = AV.be 1 (enc_i (gt p3 v7)) 0)) ∧ ((([.v (.int .i64 (gt p3 v7)), .v (.int .i64 0), .v (.int .i64 4095)] : List AV) = [.v (.int .i64 (gt p3 v7)), .v (.int .i64 0), .v (.int .i64 4095)]) ∧ True) ∧ ((True) ∧ ((.v (.bool (!x8)) : AV) = (.v (.bool false) : AV))) ∧ ((0 ≤ v7 ∧ v7 < ((List.map enc_i p3).length : Int)) ∧ (AV.be 1 ((List.map enc_i p3).getD v7.toNat []) 0 = AV.be 1 (enc_i (gt p3 v7)) 0)) ∧ ((([.v (.int .i64 (gt p3 v7)), .v (.int .i64 x4)] : List AV) = [.v (.int .i64 (gt p3 v7)), .v (.int .i64 x4)]) ∧ True) ∧ True) (by kernel_rfl) ⟨idx_bs enc_i p3 v7 1 g8, ⟨⟨rfl, trivial⟩, ⟨⟨trivial, (congrArg (fun z => AV.v (.bool z)) b10)⟩, ⟨idx_bs enc_i p3 v7 1 g8, ⟨⟨rfl, trivial⟩, trivial⟩⟩⟩⟩⟩ ⟨call_ok (ks := []) (ns := []) (bor := []) (bobjs := []) (s_spec_inRange (gt p3 v7) 0 4095 x8 e9) (.cons (.c1 (.c0 (.same _ (by kernel_rfl) (by kernel_rfl)))) (.cons (.c1 (.c0 (.same _ (by kernel_rfl) (by kernel_rfl)))) (.cons (.c1 (.c0 (.same _ (by kernel_rfl) (by kernel_rfl)))) (.nil)))) (by kernel_rfl) trivial, ⟨call_ok (ks := []) (ns := []) (bor := []) (bobjs := []) (s_spec_less (gt p3 v7) x4 x9 e11) (.cons (.c1 (.c0 (.same _ (by kernel_rfl) (by kernel_rfl)))) (.cons (.c1 (.c0 (.same _ (by kernel_rfl) (by kernel_rfl)))) (.nil))) (by kernel_rfl) trivial, trivial⟩⟩ ?_
        rcases bool_cases (decide (0 < x9)) with b12 | b12
        · replace h := cd_t b12 h
          refine AX.condT (decide (0 < x9)) (by kernel_rfl) b12 ?_
          refine AX.seq ?_
          refine AX.reg (its := []) [4] [] (s1 := ⟨[(4, .v (.slice none 0 0))], []⟩) (C := True) (by kernel_rfl) trivial trivial ?_
          refine AX.ret ?_
          refine fin_wk (Wk.forget [4] [] (s' := ⟨[(4, .v (.slice none 0 0))], []⟩) (by kernel_rfl)) ?_
          have hr := Option.some.inj h
          subst hr
          exact ⟨_, Wk.refl _, .inl ⟨(), rfl, rfl, rfl⟩⟩
        · replace h := cd_f b12 h
          refine AX.condF (decide (0 < x9)) (by kernel_rfl) b12 ?_
          refine AX.skip ?_
          refine AX.reg (its := [.auto {}, .auto { raw := true }]) [1, 5, 6] [] (s1 := ⟨[(1, .bs false 1 (List.map enc_i p3)), (5, .v (.int .i64 x4)), (6, .v (.int .i64 (IntKind.wrap .i64 (v7 + 1))))], []⟩) (C := True) (by kernel_rfl) trivial trivial ?_
          refine ⟨(fu, IntKind.wrap .i64 (v7 + 1)), h, Nat.lt_succ_self _, ?_⟩
          refine Wk.trans (Wk.forget [1, 5, 6] [] (s' := ⟨[(1, .bs false 1 (List.map enc_i p3)), (5, .v (.int .i64 x4)), (6, .v (.int .i64 (IntKind.wrap .i64 (v7 + 1))))], []⟩) (by kernel_rfl)) ?_
          exact Wk.refl _
    · replace h := cd_f b7 h
      refine AX.condF (decide (v7 < (p3.length : Int))) (by kernel_rfl) b7 ?_
      refine AX.exit ?_
      refine fin_wk (Wk.forget [1, 5] [] (s' := ⟨[(1, .bs false 1 (List.map enc_i p3)), (5, .v (.int .i64 x4))], []⟩) (by kernel_rfl)) ?_
      have hr := Option.some.inj h
      subst hr
      exact ⟨_, Wk.refl _, .inr ⟨(), rfl, rfl, rfl⟩⟩

theorem s_spec_GreatestArms_L3 (x13 : List (Int × Int)) (v14 : List (Int × Int)) (v15 : Int) (n : Nat) (g : Bool × Int) (out : Bool) (h : m_spec_GreatestArms_L3 x13 v14 v15 n g.1 g.2 = some out) :
    AX Try.prog 92 0 (codeAt [1, 1, 1, 1, 1, 1, 0, 1, 1, 1, 1, 0, 1, 1, 0, 1, 1] (bodyOf Try.f16)) ((fun g : Bool × Int => (⟨[(7, .sl 0 0 x13.length), (8, .sl 1 0 v14.length), (9, .v (.int .i64 v15)), (10, .v (.bool g.1)), (11, .v (.int .i64 g.2))], [(0, .arr 2 (List.map enc_ii x13)), (1, .arr 2 (List.map enc_ii v14))]⟩ : S)) g) (fun ex s => ex = .exit 4 ∧ s = (fun o : Bool => (⟨[(7, .sl 0 0 x13.length), (8, .sl 1 0 v14.length), (9, .v (.int .i64 v15)), (10, .v (.bool o))], [(0, .arr 2 (List.map enc_ii x13)), (1, .arr 2 (List.map enc_ii v14))]⟩ : S)) out) := by
  refine AX.wkpost ?_
  refine AX.loop (G := Nat × (Bool × Int)) (fun q => (fun g : Bool × Int => (⟨[(7, .sl 0 0 x13.length), (8, .sl 1 0 v14.length), (9, .v (.int .i64 v15)), (10, .v (.bool g.1)), (11, .v (.int .i64 g.2))], [(0, .arr 2 (List.map enc_ii x13)), (1, .arr 2 (List.map enc_ii v14))]⟩ : S)) q.2) (fun q => m_spec_GreatestArms_L3 x13 v14 v15 q.1 q.2.1 q.2.2 = some out) (fun q => q.1) (n, g) h (Wk.refl _) ?_
  clear h
  rintro ⟨fu, v16, v17⟩ h
  cases fu with
  | zero => cases h
  | succ fu =>
    rw [m_spec_GreatestArms_L3] at h
    refine AX.seq ?_
    refine AX.seq ?_
    refine AX.reg (its := []) [7, 8, 9, 10, 11, 62] [0, 1] (s1 := ⟨[(7, .sl 0 0 x13.length), (8, .sl 1 0 v14.length), (9, .v (.int .i64 v15)), (10, .v (.bool v16)), (11, .v (.int .i64 v17)), (62, .v (.bool (decide (v17 < (x13.length : Int)))))], [(0, .arr 2 (List.map enc_ii x13)), (1, .arr 2 (List.map enc_ii v14))]⟩) (C := True) (by kernel_rfl) trivial trivial ?_
    rcases bool_cases (decide (v17 < (x13.length : Int))) with b16 | b16
    · replace h := cd_t b16 h
      refine AX.condT (decide (v17 < (x13.length : Int))) (by kernel_rfl) b16 ?_
      refine AX.skip ?_
      refine AX.seq ?_
      refine AX.block ?_
      rcases bool_cases (v16) with b17 | b17
      · replace h := cd_t b17 h
        refine AX.drw mixed (its := [.auto { y := some (.v (.bool true)) }]) [7, 8, 9, 10, 11] [0, 1] (s1 := ⟨[(7, .sl 0 0 x13.length), (8, .sl 1 0 v14.length), (9, .v (.int .i64 v15)), (10, .v (.bool true)), (11, .v (.int .i64 v17))], [(0, .arr 2 (List.map enc_ii x13)), (1, .arr 2 (List.map enc_ii v14))]⟩) (C := ((True) ∧ ((.v (.bool v16) : AV) = (.v (.bool true) : AV))) ∧ True) (by kernel_rfl) ⟨⟨trivial, (congrArg (fun z => AV.v (.bool z)) b17)⟩, trivial⟩ trivial ?_
        refine AX.reg (its := [.auto {}, .auto { raw := true }]) [7, 8, 9, 10, 11] [0, 1] (s1 := ⟨[(7, .sl 0 0 x13.length), (8, .sl 1 0 v14.length), (9, .v (.int .i64 v15)), (10, .v (.bool true)), (11, .v (.int .i64 (IntKind.wrap .i64 (v17 + 1))))], [(0, .arr 2 (List.map enc_ii x13)), (1, .arr 2 (List.map enc_ii v14))]⟩) (C := True) (by kernel_rfl) trivial trivial ?_
        refine ⟨(fu, (true, IntKind.wrap .i64 (v17 + 1))), h, Nat.lt_succ_self _, ?_⟩
        refine Wk.trans (Wk.forget [7, 8, 9, 10, 11] [0, 1] (s' := ⟨[(7, .sl 0 0 x13.length), (8, .sl 1 0 v14.length), (9, .v (.int .i64 v15)), (10, .v (.bool true)), (11, .v (.int .i64 (IntKind.wrap .i64 (v17 + 1))))], [(0, .arr 2 (List.map enc_ii x13)), (1, .arr 2 (List.map enc_ii v14))]⟩) (by kernel_rfl)) ?_
        exact Wk.refl _
      · replace h := cd_f b17 h
        rcases bool_cases ((!decide (v17 = v15))) with b18 | b18
        · replace h := cd_t b18 h
          obtain ⟨g19, h⟩ := gd_e h
          obtain ⟨g20, h⟩ := gd_e h
          obtain ⟨x18, e21, h⟩ := bd_e h
          refine AX.drw mixed (its := [.auto { y := some (.v (.bool false)) }, .auto {}, .auto {}, .auto {}, .auto { y := some (.v (.bool true)) }, .auto {}, .auto {}, .auto {}, .auto {}, .auto { y := some (.agg [.v (.int .i64 ((gt x13 v17).1)), .v (.int .i64 ((gt x13 v17).2))]) }, .auto {}, .auto {}, .auto {}, .auto { y := some (.agg [.v (.int .i64 ((gt x13 v15).1)), .v (.int .i64 ((gt x13 v15).2))]) }, .call 96 [.agg [.v (.int .i64 ((gt x13 v17).1)), .v (.int .i64 ((gt x13 v17).2))], .agg [.v (.int .i64 ((gt x13 v15).1)), .v (.int .i64 ((gt x13 v15).2))]] (handO (rho ([] ++ [])) [] [] ++ []) (callEv [] [] (.v (.bool x18)) [])]) [7, 8, 9, 10, 11] [0, 1] (s1 := ⟨[(7, .sl 0 0 x13.length), (8, .sl 1 0 v14.length), (9, .v (.int .i64 v15)), (10, .v (.bool x18)), (11, .v (.int .i64 v17))], [(0, .arr 2 (List.map enc_ii x13)), (1, .arr 2 (List.map enc_ii v14))]⟩) (C := ((True) ∧ ((.v (.bool v16) : AV) = (.v (.bool false) : AV))) ∧ ((True) ∧ ((.v (.bool (!decide (v17 = v15))) : AV) = (.v (.bool true) : AV))) ∧ (0 ≤ v17 ∧ v17 < (x13.length : Int)) ∧ (True ∧ (AV.agg ((((List.map enc_ii x13).getD (0 + v17.toNat) []).drop 0 |>.take 2).map .v) = .agg [.v (.int .i64 ((gt x13 v17).1)), .v (.int .i64 ((gt x13 v17).2))])) ∧ (0 ≤ v15 ∧ v15 < (x13.length : Int)) ∧ (True ∧ (AV.agg ((((List.map enc_ii x13).getD (0 + v15.toNat) []).drop 0 |>.take 2).map .v) = .agg [.v (.int .i64 ((gt x13 v15).1)), .v (.int .i64 ((gt x13 v15).2))])) ∧ ((([.agg [.v (.int .i64 ((gt x13 v17).1)), .v (.int .i64 ((gt x13 v17).2))], .agg [.v (.int .i64 ((gt x13 v15).1)), .v (.int .i64 ((gt x13 v15).2))]] : List AV) = [.agg [.v (.int .i64 ((gt x13 v17).1)), .v (.int .i64 ((gt x13 v17).2))], .agg [.v (.int .i64 ((gt x13 v15).1)), .v (.int .i64 ((gt x13 v15).2))]]) ∧ True) ∧ True) (by kernel_rfl) ⟨⟨trivial, (congrArg (fun z => AV.v (.bool z)) b17)⟩, ⟨⟨trivial, (congrArg (fun z => AV.v (.bool z)) b18)⟩, ⟨g19, ⟨⟨trivial, (congrArg (fun z : List Value => AV.agg (((z.drop 0).take 2).map .v)) (idx_arr (enc := enc_ii) rfl g19))⟩, ⟨g20, ⟨⟨trivial, (congrArg (fun z : List Value => AV.agg (((z.drop 0).take 2).map .v)) (idx_arr (enc := enc_ii) rfl g20))⟩, ⟨⟨rfl, trivial⟩, trivial⟩⟩⟩⟩⟩⟩⟩ ⟨call_ok (ks := []) (ns := []) (bor := []) (bobjs := []) (s_spec_covers ((gt x13 v17).1) ((gt x13 v17).2) ((gt x13 v15).1) ((gt x13 v15).2) x18 e21) (.cons (.c1 (.agg (.cons (.same _ (by kernel_rfl) (by kernel_rfl)) (.cons (.same _ (by kernel_rfl) (by kernel_rfl)) (.nil))))) (.cons (.c1 (.agg (.cons (.same _ (by kernel_rfl) (by kernel_rfl)) (.cons (.same _ (by kernel_rfl) (by kernel_rfl)) (.nil))))) (.nil))) (by kernel_rfl) trivial, trivial⟩ ?_
          refine AX.reg (its := [.auto {}, .auto { raw := true }]) [7, 8, 9, 10, 11] [0, 1] (s1 := ⟨[(7, .sl 0 0 x13.length), (8, .sl 1 0 v14.length), (9, .v (.int .i64 v15)), (10, .v (.bool x18)), (11, .v (.int .i64 (IntKind.wrap .i64 (v17 + 1))))], [(0, .arr 2 (List.map enc_ii x13)), (1, .arr 2 (List.map enc_ii v14))]⟩) (C := True) (by kernel_rfl) trivial trivial ?_
          refine ⟨(fu, (x18, IntKind.wrap .i64 (v17 + 1))), h, Nat.lt_succ_self _, ?_⟩
          refine Wk.trans (Wk.forget [7, 8, 9, 10, 11] [0, 1] (s' := ⟨[(7, .sl 0 0 x13.length), (8, .sl 1 0 v14.length), (9, .v (.int .i64 v15)), (10, .v (.bool x18)), (11, .v (.int .i64 (IntKind.wrap .i64 (v17 + 1))))], [(0, .arr 2 (List.map enc_ii x13)), (1, .arr 2 (List.map enc_ii v14))]⟩) (by kernel_rfl)) ?_
          exact Wk.refl _
        · replace h := cd_f b18 h
          refine AX.drw mixed (its := [.auto { y := some (.v (.bool false)) }, .auto {}, .auto {}, .auto {}, .auto { y := some (.v (.bool false)) }]) [7, 8, 9, 10, 11] [0, 1] (s1 := ⟨[(7, .sl 0 0 x13.length), (8, .sl 1 0 v14.length), (9, .v (.int .i64 v15)), (10, .v (.bool false)), (11, .v (.int .i64 v17))], [(0, .arr 2 (List.map enc_ii x13)), (1, .arr 2 (List.map enc_ii v14))]⟩) (C := ((True) ∧ ((.v (.bool v16) : AV) = (.v (.bool false) : AV))) ∧ ((True) ∧ ((.v (.bool (!decide (v17 = v15))) : AV) = (.v (.bool false) : AV))) ∧ True) (by kernel_rfl) ⟨⟨trivial, (congrArg (fun z => AV.v (.bool z)) b17)⟩, ⟨⟨trivial, (congrArg (fun z => AV.v (.bool z)) b18)⟩, trivial⟩⟩ trivial ?_
          refine AX.reg (its := [.auto {}, .auto { raw := true }]) [7, 8, 9, 10, 11] [0, 1] (s1 := ⟨[(7, .sl 0 0 x13.length), (8, .sl 1 0 v14.length), (9, .v (.int .i64 v15)), (10, .v (.bool false)), (11, .v (.int .i64 (IntKind.wrap .i64 (v17 + 1))))], [(0, .arr 2 (List.map enc_ii x13)), (1, .arr 2 (List.map enc_ii v14))]⟩) (C := True) (by kernel_rfl) trivial trivial ?_
          refine ⟨(fu, (false, IntKind.wrap .i64 (v17 + 1))), h, Nat.lt_succ_self _, ?_⟩
          refine Wk.trans (Wk.forget [7, 8, 9, 10, 11] [0, 1] (s' := ⟨[(7, .sl 0 0 x13.length), (8, .sl 1 0 v14.length), (9, .v (.int .i64 v15)), (10, .v (.bool false)), (11, .v (.int .i64 (IntKind.wrap .i64 (v17 + 1))))], [(0, .arr 2 (List.map enc_ii x13)), (1, .arr 2 (List.map enc_ii v14))]⟩) (by kernel_rfl)) ?_
          exact Wk.refl _
    · replace h := cd_f b16 h
      refine AX.condF (decide (v17 < (x13.length : Int))) (by kernel_rfl) b16 ?_
      refine AX.exit ?_
      refine fin_wk (Wk.forget [7, 8, 9, 10] [0, 1] (s' := ⟨[(7, .sl 0 0 x13.length), (8, .sl 1 0 v14.length), (9, .v (.int .i64 v15)), (10, .v (.bool v16))], [(0, .arr 2 (List.map enc_ii x13)), (1, .arr 2 (List.map enc_ii v14))]⟩) (by kernel_rfl)) ?_
      have hr := Option.some.inj h
      subst hr
      exact ⟨_, Wk.refl _, ⟨rfl, rfl⟩⟩

end Go.Eng
