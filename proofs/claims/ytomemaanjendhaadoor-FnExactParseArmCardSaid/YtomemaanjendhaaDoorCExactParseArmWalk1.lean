/- What is proved here: each function keeps to its model, whatever its arguments, wherever the model has an answer. Printed by gen.py. -/
import Derived.Test.YtomemaanjendhaaDoorCExactParseArmModels
import Derived.Test.YtomemaanjendhaaDoorProg
import Derived.Test.YtomemaanjendhaaDoorCExactParseArmShelf
import Derived.KernelRfl
set_option linter.unusedVariables false
set_option linter.unusedSimpArgs false
set_option linter.unnecessarySimpa false
namespace Go.Eng
open Go Go.Proofs

theorem mixed : Tryd.prog.follows .mixedOrders = true := by kernel_rfl

theorem s_laws_szDef (p1 : ByteArray) (p2 : Int) (p3 : Int) (r : Int) (h : m_laws_szDef p1 p2 p3 = some r) :
    Eng.Spec Tryd.prog 78 [.agg [.v (.string p1), .v (.int .i64 p2)], .v (.int .i64 p3)] [] (.v (.int .i64 r)) [] := by
  unfold m_laws_szDef at h
  refine Eng.Spec.body Tryd.func78 (by kernel_rfl) rfl (by kernel_rfl) ?_
  refine AX.wkpost ?_
  refine AX.seq ?_
  refine AX.reg (its := [.auto { nk := 0 }]) [1, 2] [0] (s1 := ⟨[(1, .v (.int .i64 p3)), (2, .pt 0 0)], [(0, .box [.v (.string p1), .v (.int .i64 p2)])]⟩) (C := True) (by kernel_rfl) trivial trivial ?_
  refine AX.seq ?_
  refine AX.reg (its := [.auto {}, .auto {}, .auto {}, .auto {}, .auto { raw := true }]) [1] [] (s1 := ⟨[(1, .v (.int .i64 (IntKind.wrap .i64 (p3 - (p1.size : Int)))))], []⟩) (C := True) (by kernel_rfl) trivial trivial ?_
  refine AX.seq ?_
  refine AX.seq ?_
  refine AX.reg (its := []) [1, 11] [] (s1 := ⟨[(1, .v (.int .i64 (IntKind.wrap .i64 (p3 - (p1.size : Int))))), (11, .v (.bool (decide ((IntKind.wrap .i64 (p3 - (p1.size : Int))) < 0))))], []⟩) (C := True) (by kernel_rfl) trivial trivial ?_
  rcases bool_cases (decide ((IntKind.wrap .i64 (p3 - (p1.size : Int))) < 0)) with b1 | b1
  · replace h := cd_t b1 h
    refine AX.condT (decide ((IntKind.wrap .i64 (p3 - (p1.size : Int))) < 0)) (by kernel_rfl) b1 ?_
    refine AX.seq ?_
    refine AX.reg (its := []) [4] [] (s1 := ⟨[(4, .v (.int .i64 (-1)))], []⟩) (C := True) (by kernel_rfl) trivial trivial ?_
    refine AX.ret ?_
    refine fin_wk (Wk.forget [4] [] (s' := ⟨[(4, .v (.int .i64 (-1)))], []⟩) (by kernel_rfl)) ?_
    have hr := Option.some.inj h
    subst hr
    exact ⟨_, Wk.refl _, .inr rfl, ⟨[], by kernel_rfl, trivial, [.v (.int .i64 (-1))], by kernel_rfl, by kernel_rfl⟩⟩
  · replace h := cd_f b1 h
    refine AX.condF (decide ((IntKind.wrap .i64 (p3 - (p1.size : Int))) < 0)) (by kernel_rfl) b1 ?_
    refine AX.skip ?_
    refine AX.seq ?_
    refine AX.reg (its := []) [4] [] (s1 := ⟨[(4, .v (.int .i64 (IntKind.wrap .i64 (p3 - (p1.size : Int)))))], []⟩) (C := True) (by kernel_rfl) trivial trivial ?_
    refine AX.ret ?_
    refine fin_wk (Wk.forget [4] [] (s' := ⟨[(4, .v (.int .i64 (IntKind.wrap .i64 (p3 - (p1.size : Int)))))], []⟩) (by kernel_rfl)) ?_
    have hr := Option.some.inj h
    subst hr
    exact ⟨_, Wk.refl _, .inr rfl, ⟨[], by kernel_rfl, trivial, [.v (.int .i64 (IntKind.wrap .i64 (p3 - (p1.size : Int))))], by kernel_rfl, by kernel_rfl⟩⟩

theorem s_laws_szDefS_L1 (p1 : List (ByteArray × Int)) (n : Nat) (g : Int × Int) (out : Unit ⊕ Int) (h : m_laws_szDefS_L1 p1 n g.1 g.2 = some out) :
    AX Tryd.prog 27 0 (codeAt [1, 1, 1, 0, 1, 1] (bodyOf Tryd.f34)) ((fun g : Int × Int => (⟨[(0, .bs true 2 (List.map enc_si p1)), (1, .v (.int .i64 g.1)), (5, .v (.int .i64 g.2))], []⟩ : S)) g) (fun ex s => (∃ o : Unit, out = Sum.inl o ∧ ex = .ret ∧ s = ⟨[(4, .v (.int .i64 (-1)))], []⟩) ∨ (∃ o : Int, out = Sum.inr o ∧ ex = .exit 0 ∧ s = ⟨[(1, .v (.int .i64 o))], []⟩)) := by
  refine AX.wkpost ?_
  refine AX.loop (G := Nat × (Int × Int)) (fun q => (fun g : Int × Int => (⟨[(0, .bs true 2 (List.map enc_si p1)), (1, .v (.int .i64 g.1)), (5, .v (.int .i64 g.2))], []⟩ : S)) q.2) (fun q => m_laws_szDefS_L1 p1 q.1 q.2.1 q.2.2 = some out) (fun q => q.1) (n, g) h (Wk.refl _) ?_
  clear h
  rintro ⟨fu, v3, v4⟩ h
  cases fu with
  | zero => cases h
  | succ fu =>
    rw [m_laws_szDefS_L1] at h
    refine AX.seq ?_
    refine AX.seq ?_
    refine AX.reg (its := [.auto {}, .auto {}, .auto { y := some (.v (.int .i64 (p1.length : Int))) }]) [0, 1, 5, 15] [] (s1 := ⟨[(0, .bs true 2 (List.map enc_si p1)), (1, .v (.int .i64 v3)), (5, .v (.int .i64 v4)), (15, .v (.bool (decide (v4 < (p1.length : Int)))))], []⟩) (C := (True ∧ (AV.v (.int .i64 ((List.map enc_si p1).length : Int)) = AV.v (.int .i64 (p1.length : Int)))) ∧ True) (by kernel_rfl) ⟨⟨trivial, len_map enc_si p1⟩, trivial⟩ trivial ?_
    rcases bool_cases (decide (v4 < (p1.length : Int))) with b2 | b2
    · replace h := cd_t b2 h
      refine AX.condT (decide (v4 < (p1.length : Int))) (by kernel_rfl) b2 ?_
      refine AX.skip ?_
      refine AX.seq ?_
      refine AX.block ?_
      refine AX.seq ?_
      obtain ⟨g3, h⟩ := gd_e h
      obtain ⟨x5, e4, h⟩ := bd_e h
      refine AX.reg (its := [.auto {}, .auto {}, .auto { y := some (.be 2 (enc_si (gt p1 v4)) 0) }, .auto {}, .auto {}, .call 78 [.agg [.v (.string ((gt p1 v4).1)), .v (.int .i64 ((gt p1 v4).2))], .v (.int .i64 v3)] (handO (rho ([] ++ [])) [] [] ++ []) (callEv [] [] (.v (.int .i64 x5)) [])]) [0, 1, 5] [] (s1 := ⟨[(0, .bs true 2 (List.map enc_si p1)), (1, .v (.int .i64 x5)), (5, .v (.int .i64 v4))], []⟩) (C := ((0 ≤ v4 ∧ v4 < ((List.map enc_si p1).length : Int)) ∧ (AV.be 2 ((List.map enc_si p1).getD v4.toNat []) 0 = AV.be 2 (enc_si (gt p1 v4)) 0)) ∧ ((([.agg [.v (.string ((gt p1 v4).1)), .v (.int .i64 ((gt p1 v4).2))], .v (.int .i64 v3)] : List AV) = [.agg [.v (.string ((gt p1 v4).1)), .v (.int .i64 ((gt p1 v4).2))], .v (.int .i64 v3)]) ∧ True) ∧ True) (by kernel_rfl) ⟨idx_bs enc_si p1 v4 2 g3, ⟨⟨rfl, trivial⟩, trivial⟩⟩ ⟨call_ok (ks := []) (ns := []) (bor := []) (bobjs := []) (s_laws_szDef ((gt p1 v4).1) ((gt p1 v4).2) v3 x5 e4) (.cons (.c1 (.agg (.cons (.same _ (by kernel_rfl) (by kernel_rfl)) (.cons (.same _ (by kernel_rfl) (by kernel_rfl)) (.nil))))) (.cons (.c1 (.c0 (.same _ (by kernel_rfl) (by kernel_rfl)))) (.nil))) (by kernel_rfl) trivial, trivial⟩ ?_
      refine AX.seq ?_
      refine AX.reg (its := []) [0, 1, 5, 25] [] (s1 := ⟨[(0, .bs true 2 (List.map enc_si p1)), (1, .v (.int .i64 x5)), (5, .v (.int .i64 v4)), (25, .v (.bool (decide (x5 < 0))))], []⟩) (C := True) (by kernel_rfl) trivial trivial ?_
      rcases bool_cases (decide (x5 < 0)) with b5 | b5
      · replace h := cd_t b5 h
        refine AX.condT (decide (x5 < 0)) (by kernel_rfl) b5 ?_
        refine AX.seq ?_
        refine AX.reg (its := []) [4] [] (s1 := ⟨[(4, .v (.int .i64 (-1)))], []⟩) (C := True) (by kernel_rfl) trivial trivial ?_
        refine AX.ret ?_
        refine fin_wk (Wk.forget [4] [] (s' := ⟨[(4, .v (.int .i64 (-1)))], []⟩) (by kernel_rfl)) ?_
        have hr := Option.some.inj h
        subst hr
        exact ⟨_, Wk.refl _, .inl ⟨(), rfl, rfl, rfl⟩⟩
      · replace h := cd_f b5 h
        refine AX.condF (decide (x5 < 0)) (by kernel_rfl) b5 ?_
        refine AX.skip ?_
        refine AX.reg (its := [.auto {}, .auto { raw := true }]) [0, 1, 5] [] (s1 := ⟨[(0, .bs true 2 (List.map enc_si p1)), (1, .v (.int .i64 x5)), (5, .v (.int .i64 (IntKind.wrap .i64 (v4 + 1))))], []⟩) (C := True) (by kernel_rfl) trivial trivial ?_
        refine ⟨(fu, (x5, IntKind.wrap .i64 (v4 + 1))), h, Nat.lt_succ_self _, ?_⟩
        refine Wk.trans (Wk.forget [0, 1, 5] [] (s' := ⟨[(0, .bs true 2 (List.map enc_si p1)), (1, .v (.int .i64 x5)), (5, .v (.int .i64 (IntKind.wrap .i64 (v4 + 1))))], []⟩) (by kernel_rfl)) ?_
        exact Wk.refl _
    · replace h := cd_f b2 h
      refine AX.condF (decide (v4 < (p1.length : Int))) (by kernel_rfl) b2 ?_
      refine AX.exit ?_
      refine fin_wk (Wk.forget [1] [] (s' := ⟨[(1, .v (.int .i64 v3))], []⟩) (by kernel_rfl)) ?_
      have hr := Option.some.inj h
      subst hr
      exact ⟨_, Wk.refl _, .inr ⟨v3, rfl, rfl, rfl⟩⟩

theorem s_laws_szDefS (p1 : List (ByteArray × Int)) (p2 : Int) (r : Int) (h : m_laws_szDefS p1 p2 = some r) :
    Eng.Spec Tryd.prog 34 [.bs true 2 (List.map enc_si p1), .v (.int .i64 p2)] [] (.v (.int .i64 r)) [] := by
  unfold m_laws_szDefS at h
  refine Eng.Spec.body Tryd.func34 (by kernel_rfl) rfl (by kernel_rfl) ?_
  refine AX.wkpost ?_
  refine AX.seq ?_
  refine AX.reg (its := []) [0, 1] [] (s1 := ⟨[(0, .bs true 2 (List.map enc_si p1)), (1, .v (.int .i64 p2))], []⟩) (C := True) (by kernel_rfl) trivial trivial ?_
  refine AX.seq ?_
  refine AX.reg (its := [.auto {}, .auto {}, .auto { y := some (.v (.int .i64 (p1.length : Int))) }, .auto { raw := true }]) [0, 1] [] (s1 := ⟨[(0, .bs true 2 (List.map enc_si p1)), (1, .v (.int .i64 (IntKind.wrap .i64 (p2 - (p1.length : Int)))))], []⟩) (C := (True ∧ (AV.v (.int .i64 ((List.map enc_si p1).length : Int)) = AV.v (.int .i64 (p1.length : Int)))) ∧ True) (by kernel_rfl) ⟨⟨trivial, len_map enc_si p1⟩, trivial⟩ trivial ?_
  refine AX.seq ?_
  refine AX.seq ?_
  refine AX.reg (its := []) [0, 1, 11] [] (s1 := ⟨[(0, .bs true 2 (List.map enc_si p1)), (1, .v (.int .i64 (IntKind.wrap .i64 (p2 - (p1.length : Int))))), (11, .v (.bool (decide ((IntKind.wrap .i64 (p2 - (p1.length : Int))) < 0))))], []⟩) (C := True) (by kernel_rfl) trivial trivial ?_
  rcases bool_cases (decide ((IntKind.wrap .i64 (p2 - (p1.length : Int))) < 0)) with b1 | b1
  · replace h := cd_t b1 h
    refine AX.condT (decide ((IntKind.wrap .i64 (p2 - (p1.length : Int))) < 0)) (by kernel_rfl) b1 ?_
    refine AX.seq ?_
    refine AX.reg (its := []) [4] [] (s1 := ⟨[(4, .v (.int .i64 (-1)))], []⟩) (C := True) (by kernel_rfl) trivial trivial ?_
    refine AX.ret ?_
    refine fin_wk (Wk.forget [4] [] (s' := ⟨[(4, .v (.int .i64 (-1)))], []⟩) (by kernel_rfl)) ?_
    have hr := Option.some.inj h
    subst hr
    exact ⟨_, Wk.refl _, .inr rfl, ⟨[], by kernel_rfl, trivial, [.v (.int .i64 (-1))], by kernel_rfl, by kernel_rfl⟩⟩
  · replace h := cd_f b1 h
    refine AX.condF (decide ((IntKind.wrap .i64 (p2 - (p1.length : Int))) < 0)) (by kernel_rfl) b1 ?_
    refine AX.skip ?_
    refine AX.seq ?_
    refine AX.seq ?_
    refine AX.reg (its := []) [0, 1, 5] [] (s1 := ⟨[(0, .bs true 2 (List.map enc_si p1)), (1, .v (.int .i64 (IntKind.wrap .i64 (p2 - (p1.length : Int))))), (5, .v (.int .i64 0))], []⟩) (C := True) (by kernel_rfl) trivial trivial ?_
    refine AX.block ?_
    obtain ⟨x6, e6, h⟩ := bd_e h
    refine AX.wk (Wk.forget [0, 1, 5] [] (s' := ⟨[(0, .bs true 2 (List.map enc_si p1)), (1, .v (.int .i64 (IntKind.wrap .i64 (p2 - (p1.length : Int))))), (5, .v (.int .i64 0))], []⟩) (by kernel_rfl)) ?_
    refine AX.mono (s_laws_szDefS_L1 p1 FU (IntKind.wrap .i64 (p2 - (p1.length : Int)), 0) x6 e6) ?_
    rintro _ _ (⟨x7, rfl, rfl, rfl⟩ | ⟨x8, rfl, rfl, rfl⟩)
    · replace h := sm_l h
      refine fin_wk (Wk.forget [4] [] (s' := ⟨[(4, .v (.int .i64 (-1)))], []⟩) (by kernel_rfl)) ?_
      have hr := Option.some.inj h
      subst hr
      exact ⟨_, Wk.refl _, .inr rfl, ⟨[], by kernel_rfl, trivial, [.v (.int .i64 (-1))], by kernel_rfl, by kernel_rfl⟩⟩
    · replace h := sm_r h
      refine AX.seq ?_
      refine AX.reg (its := []) [4] [] (s1 := ⟨[(4, .v (.int .i64 x8))], []⟩) (C := True) (by kernel_rfl) trivial trivial ?_
      refine AX.ret ?_
      refine fin_wk (Wk.forget [4] [] (s' := ⟨[(4, .v (.int .i64 x8))], []⟩) (by kernel_rfl)) ?_
      have hr := Option.some.inj h
      subst hr
      exact ⟨_, Wk.refl _, .inr rfl, ⟨[], by kernel_rfl, trivial, [.v (.int .i64 x8)], by kernel_rfl, by kernel_rfl⟩⟩

theorem s_laws_szFlag (p1 : List (ByteArray × Int)) (p2 : Int) (p3 : Int) (r : Int) (h : m_laws_szFlag p1 p2 p3 = some r) :
    Eng.Spec Tryd.prog 10 [.agg [.bs true 2 (List.map enc_si p1), .v (.int .i64 p2)], .v (.int .i64 p3)] [] (.v (.int .i64 r)) [] := by
  unfold m_laws_szFlag at h
  refine Eng.Spec.body Tryd.func10 (by kernel_rfl) rfl (by kernel_rfl) ?_
  refine AX.wkpost ?_
  refine AX.seq ?_
  refine AX.reg (its := [.auto { nk := 0 }]) [1, 2] [0] (s1 := ⟨[(1, .v (.int .i64 p3)), (2, .pt 0 0)], [(0, .box [.bs true 2 (List.map enc_si p1), .v (.int .i64 p2)])]⟩) (C := True) (by kernel_rfl) trivial trivial ?_
  refine AX.seq ?_
  obtain ⟨x4, e1, h⟩ := bd_e h
  refine AX.reg (its := [.auto {}, .auto {}, .auto {}, .call 34 [.bs true 2 (List.map enc_si p1), .v (.int .i64 p3)] (handO (rho ([] ++ [])) [] [] ++ []) (callEv [] [] (.v (.int .i64 x4)) [])]) [1] [] (s1 := ⟨[(1, .v (.int .i64 x4))], []⟩) (C := ((([.bs true 2 (List.map enc_si p1), .v (.int .i64 p3)] : List AV) = [.bs true 2 (List.map enc_si p1), .v (.int .i64 p3)]) ∧ True) ∧ True) (by kernel_rfl) ⟨⟨rfl, trivial⟩, trivial⟩ ⟨call_ok (ks := []) (ns := []) (bor := []) (bobjs := []) (s_laws_szDefS p1 p3 x4 e1) (.cons (.c1 (.c0 (.same _ (by kernel_rfl) (by kernel_rfl)))) (.cons (.c1 (.c0 (.same _ (by kernel_rfl) (by kernel_rfl)))) (.nil))) (by kernel_rfl) trivial, trivial⟩ ?_
  refine AX.seq ?_
  refine AX.seq ?_
  refine AX.reg (its := []) [1, 10] [] (s1 := ⟨[(1, .v (.int .i64 x4)), (10, .v (.bool (decide (x4 < 0))))], []⟩) (C := True) (by kernel_rfl) trivial trivial ?_
  rcases bool_cases (decide (x4 < 0)) with b2 | b2
  · replace h := cd_t b2 h
    refine AX.condT (decide (x4 < 0)) (by kernel_rfl) b2 ?_
    refine AX.seq ?_
    refine AX.reg (its := []) [4] [] (s1 := ⟨[(4, .v (.int .i64 (-1)))], []⟩) (C := True) (by kernel_rfl) trivial trivial ?_
    refine AX.ret ?_
    refine fin_wk (Wk.forget [4] [] (s' := ⟨[(4, .v (.int .i64 (-1)))], []⟩) (by kernel_rfl)) ?_
    have hr := Option.some.inj h
    subst hr
    exact ⟨_, Wk.refl _, .inr rfl, ⟨[], by kernel_rfl, trivial, [.v (.int .i64 (-1))], by kernel_rfl, by kernel_rfl⟩⟩
  · replace h := cd_f b2 h
    refine AX.condF (decide (x4 < 0)) (by kernel_rfl) b2 ?_
    refine AX.skip ?_
    refine AX.seq ?_
    refine AX.reg (its := []) [4] [] (s1 := ⟨[(4, .v (.int .i64 x4))], []⟩) (C := True) (by kernel_rfl) trivial trivial ?_
    refine AX.ret ?_
    refine fin_wk (Wk.forget [4] [] (s' := ⟨[(4, .v (.int .i64 x4))], []⟩) (by kernel_rfl)) ?_
    have hr := Option.some.inj h
    subst hr
    exact ⟨_, Wk.refl _, .inr rfl, ⟨[], by kernel_rfl, trivial, [.v (.int .i64 x4)], by kernel_rfl, by kernel_rfl⟩⟩

theorem s_laws_toDef (p1 : ByteArray) (p2 : Int) (r : Unit) (h : m_laws_toDef p1 p2 = some r) :
    Eng.Spec Tryd.prog 83 [.agg [.v (.string p1), .v (.int .i64 p2)]] [] (.agg [.v (.string p1), .v (.int .i64 p2)]) [] := by
  unfold m_laws_toDef at h
  refine Eng.Spec.body Tryd.func83 (by kernel_rfl) rfl (by kernel_rfl) ?_
  refine AX.wkpost ?_
  refine AX.seq ?_
  refine AX.reg (its := [.auto { nk := 0 }, .auto { nk := 1 }]) [1, 2] [0, 1] (s1 := ⟨[(1, .pt 0 0), (2, .pt 1 0)], [(0, .box [.v (.string p1), .v (.int .i64 p2)]), (1, .box [.v (.string ByteArray.empty), .v (.int .i64 0)])]⟩) (C := True) (by kernel_rfl) trivial trivial ?_
  refine AX.seq ?_
  refine AX.reg (its := [.auto { nk := 2 }]) [1, 2, 3] [0, 1, 2] (s1 := ⟨[(1, .pt 0 0), (2, .pt 1 0), (3, .pt 2 0)], [(0, .box [.v (.string p1), .v (.int .i64 p2)]), (1, .box [.v (.string ByteArray.empty), .v (.int .i64 0)]), (2, .box [.v (.string ByteArray.empty), .v (.int .i64 0)])]⟩) (C := True) (by kernel_rfl) trivial trivial ?_
  refine AX.seq ?_
  refine AX.reg (its := []) [1, 2, 3] [0, 1, 2] (s1 := ⟨[(1, .pt 0 0), (2, .pt 1 0), (3, .pt 2 0)], [(0, .box [.v (.string p1), .v (.int .i64 p2)]), (1, .box [.v (.string ByteArray.empty), .v (.int .i64 0)]), (2, .box [.v (.string p1), .v (.int .i64 0)])]⟩) (C := True) (by kernel_rfl) trivial trivial ?_
  refine AX.seq ?_
  refine AX.reg (its := []) [2, 3] [1, 2] (s1 := ⟨[(2, .pt 1 0), (3, .pt 2 0)], [(1, .box [.v (.string ByteArray.empty), .v (.int .i64 0)]), (2, .box [.v (.string p1), .v (.int .i64 p2)])]⟩) (C := True) (by kernel_rfl) trivial trivial ?_
  refine AX.seq ?_
  refine AX.reg (its := []) [2] [1] (s1 := ⟨[(2, .pt 1 0)], [(1, .box [.v (.string p1), .v (.int .i64 p2)])]⟩) (C := True) (by kernel_rfl) trivial trivial ?_
  refine AX.ret ?_
  refine fin_wk (Wk.swap 0 1 (Nat.le_of_ble_eq_true (by kernel_rfl)) (Nat.le_of_ble_eq_true (by kernel_rfl)) rfl) ?_
  refine fin_wk (Wk.forget [2] [0] (s' := ⟨[(2, .pt 0 0)], [(0, .box [.v (.string p1), .v (.int .i64 p2)])]⟩) (by kernel_rfl)) ?_
  have hr := Option.some.inj h
  subst hr
  exact ⟨_, Wk.refl _, .inr rfl, ⟨[], by kernel_rfl, trivial, [.agg [.v (.string p1), .v (.int .i64 p2)]], by kernel_rfl, by kernel_rfl⟩⟩

theorem s_laws_toDefS_L1 (p1 : List (ByteArray × Int)) (n : Nat) (g : (List (ByteArray × Int)) × Int) (out : List (ByteArray × Int)) (h : m_laws_toDefS_L1 p1 n g.1 g.2 = some out) :
    AX Tryd.prog 23 0 (codeAt [1, 1, 0, 1, 1] (bodyOf Tryd.f37)) ((fun g : (List (ByteArray × Int)) × Int => (⟨[(0, .bs true 2 (List.map enc_si p1)), (3, .sl 0 0 g.1.length), (4, .v (.int .i64 g.2))], [(0, .arr 2 (List.map enc_si g.1))]⟩ : S)) g) (fun ex s => ex = .exit 0 ∧ s = (fun o : List (ByteArray × Int) => (⟨[(3, .sl 0 0 o.length)], [(0, .arr 2 (List.map enc_si o))]⟩ : S)) out) := by
  refine AX.wkpost ?_
  refine AX.loop (G := Nat × ((List (ByteArray × Int)) × Int)) (fun q => (fun g : (List (ByteArray × Int)) × Int => (⟨[(0, .bs true 2 (List.map enc_si p1)), (3, .sl 0 0 g.1.length), (4, .v (.int .i64 g.2))], [(0, .arr 2 (List.map enc_si g.1))]⟩ : S)) q.2) (fun q => m_laws_toDefS_L1 p1 q.1 q.2.1 q.2.2 = some out) (fun q => q.1) (n, g) h (Wk.refl _) ?_
  clear h
  rintro ⟨fu, v2, v3⟩ h
  cases fu with
  | zero => cases h
  | succ fu =>
    rw [m_laws_toDefS_L1] at h
    refine AX.seq ?_
    refine AX.seq ?_
    refine AX.reg (its := [.auto {}, .auto {}, .auto { y := some (.v (.int .i64 (p1.length : Int))) }]) [0, 3, 4, 11] [0] (s1 := ⟨[(0, .bs true 2 (List.map enc_si p1)), (3, .sl 0 0 v2.length), (4, .v (.int .i64 v3)), (11, .v (.bool (decide (v3 < (p1.length : Int)))))], [(0, .arr 2 (List.map enc_si v2))]⟩) (C := (True ∧ (AV.v (.int .i64 ((List.map enc_si p1).length : Int)) = AV.v (.int .i64 (p1.length : Int)))) ∧ True) (by kernel_rfl) ⟨⟨trivial, len_map enc_si p1⟩, trivial⟩ trivial ?_
    rcases bool_cases (decide (v3 < (p1.length : Int))) with b2 | b2
    · replace h := cd_t b2 h
      refine AX.condT (decide (v3 < (p1.length : Int))) (by kernel_rfl) b2 ?_
      refine AX.skip ?_
      refine AX.seq ?_
      refine AX.block ?_
      obtain ⟨g3, h⟩ := gd_e h
      obtain ⟨x4, e4, h⟩ := bd_e h
      obtain ⟨g5, h⟩ := gd_e h
      refine AX.reg (its := [.auto {}, .auto {}, .auto {}, .auto {}, .auto { y := some (.be 2 (enc_si (gt p1 v3)) 0) }, .auto {}, .call 83 [.agg [.v (.string ((gt p1 v3).1)), .v (.int .i64 ((gt p1 v3).2))]] (handO (rho ([] ++ [])) [] [] ++ []) (callEv [] [] (.agg [.v (.string ((gt p1 v3).1)), .v (.int .i64 ((gt p1 v3).2))]) [])]) [0, 3, 4] [0] (s1 := ⟨[(0, .bs true 2 (List.map enc_si p1)), (3, .sl 0 0 v2.length), (4, .v (.int .i64 v3))], [(0, .arr 2 ((List.map enc_si v2).set (0 + v3.toNat) [(.string ((gt p1 v3).1)), (.int .i64 ((gt p1 v3).2))]))]⟩) (C := ((0 ≤ v3 ∧ v3 < ((List.map enc_si p1).length : Int)) ∧ (AV.be 2 ((List.map enc_si p1).getD v3.toNat []) 0 = AV.be 2 (enc_si (gt p1 v3)) 0)) ∧ ((([.agg [.v (.string ((gt p1 v3).1)), .v (.int .i64 ((gt p1 v3).2))]] : List AV) = [.agg [.v (.string ((gt p1 v3).1)), .v (.int .i64 ((gt p1 v3).2))]]) ∧ True) ∧ (0 ≤ v3 ∧ v3 < (v2.length : Int)) ∧ True) (by kernel_rfl) ⟨idx_bs enc_si p1 v3 2 g3, ⟨⟨rfl, trivial⟩, ⟨g5, trivial⟩⟩⟩ ⟨call_ok (ks := []) (ns := []) (bor := []) (bobjs := []) (s_laws_toDef ((gt p1 v3).1) ((gt p1 v3).2) x4 e4) (.cons (.c1 (.agg (.cons (.same _ (by kernel_rfl) (by kernel_rfl)) (.cons (.same _ (by kernel_rfl) (by kernel_rfl)) (.nil))))) (.nil)) (by kernel_rfl) trivial, trivial⟩ ?_
      refine AX.reg (its := [.auto {}, .auto { raw := true }]) [0, 3, 4] [0] (s1 := ⟨[(0, .bs true 2 (List.map enc_si p1)), (3, .sl 0 0 v2.length), (4, .v (.int .i64 (IntKind.wrap .i64 (v3 + 1))))], [(0, .arr 2 ((List.map enc_si v2).set (0 + v3.toNat) [(.string ((gt p1 v3).1)), (.int .i64 ((gt p1 v3).2))]))]⟩) (C := True) (by kernel_rfl) trivial trivial ?_
      refine ⟨(fu, (v2.set (0 + v3.toNat) (((gt p1 v3).1), ((gt p1 v3).2)), IntKind.wrap .i64 (v3 + 1))), h, Nat.lt_succ_self _, ?_⟩
      refine Wk.trans (Wk.forget [0, 3, 4] [0] (s' := ⟨[(0, .bs true 2 (List.map enc_si p1)), (3, .sl 0 0 v2.length), (4, .v (.int .i64 (IntKind.wrap .i64 (v3 + 1))))], [(0, .arr 2 ((List.map enc_si v2).set (0 + v3.toNat) [(.string ((gt p1 v3).1)), (.int .i64 ((gt p1 v3).2))]))]⟩) (by kernel_rfl)) ?_
      refine Wk.trans (Wk.of_eq (congrArg (fun z => (⟨[(0, .bs true 2 (List.map enc_si p1)), (3, .sl 0 0 v2.length), (4, .v (.int .i64 (IntKind.wrap .i64 (v3 + 1))))], [(0, .arr 2 (z))]⟩ : S)) (set_can (enc := enc_si) rfl (0 + v3.toNat) (((gt p1 v3).1), ((gt p1 v3).2))))) ?_
      refine Wk.trans (Wk.of_eq (congrArg (fun z => (⟨[(0, .bs true 2 (List.map enc_si p1)), (3, .sl 0 0 z), (4, .v (.int .i64 (IntKind.wrap .i64 (v3 + 1))))], [(0, .arr 2 (List.map enc_si (v2.set (0 + v3.toNat) (((gt p1 v3).1), ((gt p1 v3).2)))))]⟩ : S)) (set_len ((rfl : v2.length = v2.length)) (0 + v3.toNat) (((gt p1 v3).1), ((gt p1 v3).2))))) ?_
      exact Wk.refl _
    · replace h := cd_f b2 h
      refine AX.condF (decide (v3 < (p1.length : Int))) (by kernel_rfl) b2 ?_
      refine AX.exit ?_
      refine fin_wk (Wk.forget [3] [0] (s' := ⟨[(3, .sl 0 0 v2.length)], [(0, .arr 2 (List.map enc_si v2))]⟩) (by kernel_rfl)) ?_
      have hr := Option.some.inj h
      subst hr
      exact ⟨_, Wk.refl _, ⟨rfl, rfl⟩⟩

theorem s_laws_toDefS (p1 : List (ByteArray × Int)) (r : List (ByteArray × Int)) (h : m_laws_toDefS p1 = some r) :
    Eng.Spec Tryd.prog 37 [.bs true 2 (List.map enc_si p1)] [] (.sl 0 0 r.length) [.arr 2 (List.map enc_si r)] := by
  unfold m_laws_toDefS at h
  refine Eng.Spec.body Tryd.func37 (by kernel_rfl) rfl (by kernel_rfl) ?_
  refine AX.wkpost ?_
  refine AX.seq ?_
  refine AX.reg (its := []) [0] [] (s1 := ⟨[(0, .bs true 2 (List.map enc_si p1))], []⟩) (C := True) (by kernel_rfl) trivial trivial ?_
  refine AX.seq ?_
  obtain ⟨g1, h⟩ := gd_e h
  refine AX.reg (its := [.auto {}, .auto { y := some (.v (.int .i64 (p1.length : Int))) }, .auto { y := some (.sl 0 0 ((List.replicate (p1.length : Int).toNat ((ByteArray.empty, 0) : ByteArray × Int)).length)), nk := 0 }]) [0, 3] [0] (s1 := ⟨[(0, .bs true 2 (List.map enc_si p1)), (3, .sl 0 0 ((List.replicate (p1.length : Int).toNat ((ByteArray.empty, 0) : ByteArray × Int)).length))], [(0, .arr 2 (List.replicate (p1.length : Int).toNat (enc_si ((ByteArray.empty, 0) : ByteArray × Int))))]⟩) (C := (True ∧ (AV.v (.int .i64 ((List.map enc_si p1).length : Int)) = AV.v (.int .i64 (p1.length : Int)))) ∧ ((0 ≤ (p1.length : Int) ∧ (p1.length : Int) = (p1.length : Int) ∧ (24 : Int) * (p1.length : Int) ≤ 281474976710656 ∧ (p1.length : Int) ≤ 9223372036854775807) ∧ (AV.sl 0 0 (List.replicate (p1.length : Int).toNat (enc_si ((ByteArray.empty, 0) : ByteArray × Int))).length = AV.sl 0 0 (List.replicate (p1.length : Int).toNat ((ByteArray.empty, 0) : ByteArray × Int)).length)) ∧ True) (by kernel_rfl) ⟨⟨trivial, len_map enc_si p1⟩, ⟨⟨g1, sl_len (enc := enc_si) (rep_can (p1.length : Int).toNat ((ByteArray.empty, 0) : ByteArray × Int))⟩, trivial⟩⟩ trivial ?_
  refine AX.seq ?_
  refine AX.seq ?_
  refine AX.reg (its := []) [0, 3, 4] [0] (s1 := ⟨[(0, .bs true 2 (List.map enc_si p1)), (3, .sl 0 0 ((List.replicate (p1.length : Int).toNat ((ByteArray.empty, 0) : ByteArray × Int)).length)), (4, .v (.int .i64 0))], [(0, .arr 2 (List.replicate (p1.length : Int).toNat (enc_si ((ByteArray.empty, 0) : ByteArray × Int))))]⟩) (C := True) (by kernel_rfl) trivial trivial ?_
  refine AX.block ?_
  obtain ⟨x5, e6, h⟩ := bd_e h
  refine AX.wk (Wk.forget [0, 3, 4] [0] (s' := ⟨[(0, .bs true 2 (List.map enc_si p1)), (3, .sl 0 0 ((List.replicate (p1.length : Int).toNat ((ByteArray.empty, 0) : ByteArray × Int)).length)), (4, .v (.int .i64 0))], [(0, .arr 2 (List.replicate (p1.length : Int).toNat (enc_si ((ByteArray.empty, 0) : ByteArray × Int))))]⟩) (by kernel_rfl)) ?_
  refine AX.wk (Wk.of_eq (congrArg (fun z => (⟨[(0, .bs true 2 (List.map enc_si p1)), (3, .sl 0 0 ((List.replicate (p1.length : Int).toNat ((ByteArray.empty, 0) : ByteArray × Int)).length)), (4, .v (.int .i64 0))], [(0, .arr 2 (z))]⟩ : S)) (rep_can (enc := enc_si) (p1.length : Int).toNat ((ByteArray.empty, 0) : ByteArray × Int)))) ?_
  refine AX.mono (s_laws_toDefS_L1 p1 FU (List.replicate (p1.length : Int).toNat ((ByteArray.empty, 0) : ByteArray × Int), 0) x5 e6) ?_
  rintro _ _ ⟨rfl, rfl⟩
  skip
  refine AX.seq ?_
  refine AX.reg (its := []) [2] [0] (s1 := ⟨[(2, .sl 0 0 x5.length)], [(0, .arr 2 (List.map enc_si x5))]⟩) (C := True) (by kernel_rfl) trivial trivial ?_
  refine AX.ret ?_
  refine fin_wk (Wk.forget [2] [0] (s' := ⟨[(2, .sl 0 0 x5.length)], [(0, .arr 2 (List.map enc_si x5))]⟩) (by kernel_rfl)) ?_
  have hr := Option.some.inj h
  subst hr
  exact ⟨_, Wk.refl _, .inr rfl, ⟨[0], by kernel_rfl, ⟨rfl, trivial⟩, [.sl 0 0 x5.length], by kernel_rfl, by kernel_rfl⟩⟩

theorem s_laws_toFlag (p1 : List (ByteArray × Int)) (p2 : Int) (r : List (ByteArray × Int)) (h : m_laws_toFlag p1 p2 = some r) :
    Eng.Spec Tryd.prog 12 [.agg [.bs true 2 (List.map enc_si p1), .v (.int .i64 p2)]] [] (.agg [.sl 0 0 r.length, .v (.int .i64 p2)]) [.arr 2 (List.map enc_si r)] := by
  unfold m_laws_toFlag at h
  refine Eng.Spec.body Tryd.func12 (by kernel_rfl) rfl (by kernel_rfl) ?_
  refine AX.wkpost ?_
  refine AX.seq ?_
  refine AX.reg (its := [.auto { nk := 0 }, .auto { nk := 1 }]) [1, 2] [0, 1] (s1 := ⟨[(1, .pt 0 0), (2, .pt 1 0)], [(0, .box [.bs true 2 (List.map enc_si p1), .v (.int .i64 p2)]), (1, .box [.v (.slice none 0 0), .v (.int .i64 0)])]⟩) (C := True) (by kernel_rfl) trivial trivial ?_
  refine AX.seq ?_
  refine AX.reg (its := [.auto { nk := 2 }]) [1, 2, 3] [0, 1, 2] (s1 := ⟨[(1, .pt 0 0), (2, .pt 1 0), (3, .pt 2 0)], [(0, .box [.bs true 2 (List.map enc_si p1), .v (.int .i64 p2)]), (1, .box [.v (.slice none 0 0), .v (.int .i64 0)]), (2, .box [.v (.slice none 0 0), .v (.int .i64 0)])]⟩) (C := True) (by kernel_rfl) trivial trivial ?_
  refine AX.seq ?_
  obtain ⟨x3, e1, h⟩ := bd_e h
  refine AX.reg (its := [.auto {}, .auto {}, .call 37 [.bs true 2 (List.map enc_si p1)] (handO (rho ([] ++ [3])) [] [] ++ []) (callEv [] [3] (.sl 0 0 x3.length) [.arr 2 (List.map enc_si x3)])]) [1, 2, 3] [0, 1, 2, 3] (s1 := ⟨[(1, .pt 0 0), (2, .pt 1 0), (3, .pt 2 0)], [(0, .box [.bs true 2 (List.map enc_si p1), .v (.int .i64 p2)]), (1, .box [.v (.slice none 0 0), .v (.int .i64 0)]), (2, .box [.sl 3 0 x3.length, .v (.int .i64 0)]), (3, .arr 2 (List.map enc_si x3))]⟩) (C := ((([.bs true 2 (List.map enc_si p1)] : List AV) = [.bs true 2 (List.map enc_si p1)]) ∧ True) ∧ True) (by kernel_rfl) ⟨⟨rfl, trivial⟩, trivial⟩ ⟨call_ok (ks := []) (ns := [3]) (bor := []) (bobjs := []) (s_laws_toDefS p1 x3 e1) (.cons (.c1 (.c0 (.same _ (by kernel_rfl) (by kernel_rfl)))) (.nil)) (by kernel_rfl) trivial, trivial⟩ ?_
  refine AX.seq ?_
  refine AX.reg (its := []) [2, 3] [1, 2, 3] (s1 := ⟨[(2, .pt 1 0), (3, .pt 2 0)], [(1, .box [.v (.slice none 0 0), .v (.int .i64 0)]), (2, .box [.sl 3 0 x3.length, .v (.int .i64 p2)]), (3, .arr 2 (List.map enc_si x3))]⟩) (C := True) (by kernel_rfl) trivial trivial ?_
  refine AX.seq ?_
  refine AX.reg (its := []) [2] [1, 3] (s1 := ⟨[(2, .pt 1 0)], [(1, .box [.sl 3 0 x3.length, .v (.int .i64 p2)]), (3, .arr 2 (List.map enc_si x3))]⟩) (C := True) (by kernel_rfl) trivial trivial ?_
  refine AX.ret ?_
  refine fin_wk (Wk.swap 0 1 (Nat.le_of_ble_eq_true (by kernel_rfl)) (Nat.le_of_ble_eq_true (by kernel_rfl)) rfl) ?_
  refine fin_wk (Wk.swap 1 3 (Nat.le_of_ble_eq_true (by kernel_rfl)) (Nat.le_of_ble_eq_true (by kernel_rfl)) rfl) ?_
  refine fin_wk (Wk.forget [2] [0, 1] (s' := ⟨[(2, .pt 0 0)], [(0, .box [.sl 1 0 x3.length, .v (.int .i64 p2)]), (1, .arr 2 (List.map enc_si x3))]⟩) (by kernel_rfl)) ?_
  have hr := Option.some.inj h
  subst hr
  exact ⟨_, Wk.refl _, .inr rfl, ⟨[1], by kernel_rfl, ⟨rfl, trivial⟩, [.agg [.sl 1 0 x3.length, .v (.int .i64 p2)]], by kernel_rfl, by kernel_rfl⟩⟩

theorem s_spec_inRange (p1 : Int) (p2 : Int) (p3 : Int) (r : Bool) (h : m_spec_inRange p1 p2 p3 = some r) :
    Eng.Spec Tryd.prog 59 [.v (.int .i64 p1), .v (.int .i64 p2), .v (.int .i64 p3)] [] (.v (.bool r)) [] := by
  unfold m_spec_inRange at h
  refine Eng.Spec.body Tryd.func59 (by kernel_rfl) rfl (by kernel_rfl) ?_
  refine AX.wkpost ?_
  refine AX.seq ?_
  refine AX.reg (its := []) [0, 1, 2] [] (s1 := ⟨[(0, .v (.int .i64 p1)), (1, .v (.int .i64 p2)), (2, .v (.int .i64 p3))], []⟩) (C := True) (by kernel_rfl) trivial trivial ?_
  refine AX.seq ?_
  rcases bool_cases (decide (p2 ≤ p1)) with b1 | b1
  · replace h := cd_t b1 h
    refine AX.reg (its := [.auto {}, .auto {}, .auto { y := some (.v (.bool true)) }]) [6] [] (s1 := ⟨[(6, .v (.bool (decide (p1 ≤ p3))))], []⟩) (C := ((True) ∧ ((.v (.bool (decide (p2 ≤ p1))) : AV) = (.v (.bool true) : AV))) ∧ True) (by kernel_rfl) ⟨⟨trivial, (congrArg (fun z => AV.v (.bool z)) b1)⟩, trivial⟩ trivial ?_
    refine AX.ret ?_
    refine fin_wk (Wk.forget [6] [] (s' := ⟨[(6, .v (.bool (decide (p1 ≤ p3))))], []⟩) (by kernel_rfl)) ?_
    have hr := Option.some.inj h
    subst hr
    exact ⟨_, Wk.refl _, .inr rfl, ⟨[], by kernel_rfl, trivial, [.v (.bool (decide (p1 ≤ p3)))], by kernel_rfl, by kernel_rfl⟩⟩
  · replace h := cd_f b1 h
    refine AX.reg (its := [.auto {}, .auto {}, .auto { y := some (.v (.bool false)) }]) [6] [] (s1 := ⟨[(6, .v (.bool false))], []⟩) (C := ((True) ∧ ((.v (.bool (decide (p2 ≤ p1))) : AV) = (.v (.bool false) : AV))) ∧ True) (by kernel_rfl) ⟨⟨trivial, (congrArg (fun z => AV.v (.bool z)) b1)⟩, trivial⟩ trivial ?_
    refine AX.ret ?_
    refine fin_wk (Wk.forget [6] [] (s' := ⟨[(6, .v (.bool false))], []⟩) (by kernel_rfl)) ?_
    have hr := Option.some.inj h
    subst hr
    exact ⟨_, Wk.refl _, .inr rfl, ⟨[], by kernel_rfl, trivial, [.v (.bool false)], by kernel_rfl, by kernel_rfl⟩⟩

theorem s_spec_validName_L1 (p1 : ByteArray) (n : Nat) (g : Int) (out : Unit ⊕ Unit) (h : m_spec_validName_L1 p1 n g = some out) :
    AX Tryd.prog 23 0 (codeAt [1, 0, 1, 1] (bodyOf Tryd.f124)) ((fun g : Int => (⟨[(0, .v (.string p1)), (3, .v (.int .i64 g))], []⟩ : S)) g) (fun ex s => (∃ o : Unit, out = Sum.inl o ∧ ex = .ret ∧ s = ⟨[(2, .v (.bool false))], []⟩) ∨ (∃ o : Unit, out = Sum.inr o ∧ ex = .exit 0 ∧ s = ⟨[(0, .v (.string p1))], []⟩)) := by
  refine AX.wkpost ?_
  refine AX.loop (G := Nat × (Int)) (fun q => (fun g : Int => (⟨[(0, .v (.string p1)), (3, .v (.int .i64 g))], []⟩ : S)) q.2) (fun q => m_spec_validName_L1 p1 q.1 q.2 = some out) (fun q => q.1) (n, g) h (Wk.refl _) ?_
  clear h
  rintro ⟨fu, v2⟩ h
  cases fu with
  | zero => cases h
  | succ fu =>
    rw [m_spec_validName_L1] at h
    refine AX.seq ?_
    refine AX.seq ?_
    refine AX.reg (its := []) [0, 3, 7] [] (s1 := ⟨[(0, .v (.string p1)), (3, .v (.int .i64 v2)), (7, .v (.bool (decide (v2 < (p1.size : Int)))))], []⟩) (C := True) (by kernel_rfl) trivial trivial ?_
    rcases bool_cases (decide (v2 < (p1.size : Int))) with b1 | b1
    · replace h := cd_t b1 h
      refine AX.condT (decide (v2 < (p1.size : Int))) (by kernel_rfl) b1 ?_
      refine AX.skip ?_
      refine AX.seq ?_
      refine AX.block ?_
      refine AX.seq ?_
      obtain ⟨g2, h⟩ := gd_e h
      rcases bool_cases (decide ((byteAt p1 v2.toNat) < 97)) with b3 | b3
      · replace h := cd_t b3 h
        refine AX.reg (its := [.auto {}, .auto {}, .auto {}, .auto { y := some (.v (.bool true)) }]) [0, 3, 19] [] (s1 := ⟨[(0, .v (.string p1)), (3, .v (.int .i64 v2)), (19, .v (.bool true))], []⟩) (C := (0 ≤ v2 ∧ v2 < (p1.size : Int)) ∧ ((True) ∧ ((.v (.bool (decide ((byteAt p1 v2.toNat) < 97))) : AV) = (.v (.bool true) : AV))) ∧ True) (by kernel_rfl) ⟨g2, ⟨⟨trivial, (congrArg (fun z => AV.v (.bool z)) b3)⟩, trivial⟩⟩ trivial ?_
        refine AX.cond_true (by kernel_rfl) ?_
        refine AX.seq ?_
        refine AX.reg (its := []) [2] [] (s1 := ⟨[(2, .v (.bool false))], []⟩) (C := True) (by kernel_rfl) trivial trivial ?_
        refine AX.ret ?_
        refine fin_wk (Wk.forget [2] [] (s' := ⟨[(2, .v (.bool false))], []⟩) (by kernel_rfl)) ?_
        have hr := Option.some.inj h
        subst hr
        exact ⟨_, Wk.refl _, .inl ⟨(), rfl, rfl, rfl⟩⟩
      · replace h := cd_f b3 h
        refine AX.reg (its := [.auto {}, .auto {}, .auto {}, .auto { y := some (.v (.bool false)) }]) [0, 3, 19] [] (s1 := ⟨[(0, .v (.string p1)), (3, .v (.int .i64 v2)), (19, .v (.bool (decide (122 < (byteAt p1 v2.toNat)))))], []⟩) (C := (0 ≤ v2 ∧ v2 < (p1.size : Int)) ∧ ((True) ∧ ((.v (.bool (decide ((byteAt p1 v2.toNat) < 97))) : AV) = (.v (.bool false) : AV))) ∧ (0 ≤ v2 ∧ v2 < (p1.size : Int)) ∧ True) (by kernel_rfl) ⟨g2, ⟨⟨trivial, (congrArg (fun z => AV.v (.bool z)) b3)⟩, ⟨g2, trivial⟩⟩⟩ trivial ?_
        rcases bool_cases (decide (122 < (byteAt p1 v2.toNat))) with b4 | b4
        · replace h := cd_t b4 h
          refine AX.condT (decide (122 < (byteAt p1 v2.toNat))) (by kernel_rfl) b4 ?_
          refine AX.seq ?_
          refine AX.reg (its := []) [2] [] (s1 := ⟨[(2, .v (.bool false))], []⟩) (C := True) (by kernel_rfl) trivial trivial ?_
          refine AX.ret ?_
          refine fin_wk (Wk.forget [2] [] (s' := ⟨[(2, .v (.bool false))], []⟩) (by kernel_rfl)) ?_
          have hr := Option.some.inj h
          subst hr
          exact ⟨_, Wk.refl _, .inl ⟨(), rfl, rfl, rfl⟩⟩
        · replace h := cd_f b4 h
          refine AX.condF (decide (122 < (byteAt p1 v2.toNat))) (by kernel_rfl) b4 ?_
          refine AX.skip ?_
          refine AX.reg (its := [.auto {}, .auto { raw := true }]) [0, 3] [] (s1 := ⟨[(0, .v (.string p1)), (3, .v (.int .i64 (IntKind.wrap .i64 (v2 + 1))))], []⟩) (C := True) (by kernel_rfl) trivial trivial ?_
          refine ⟨(fu, IntKind.wrap .i64 (v2 + 1)), h, Nat.lt_succ_self _, ?_⟩
          refine Wk.trans (Wk.forget [0, 3] [] (s' := ⟨[(0, .v (.string p1)), (3, .v (.int .i64 (IntKind.wrap .i64 (v2 + 1))))], []⟩) (by kernel_rfl)) ?_
          exact Wk.refl _
    · replace h := cd_f b1 h
      refine AX.condF (decide (v2 < (p1.size : Int))) (by kernel_rfl) b1 ?_
      refine AX.exit ?_
      refine fin_wk (Wk.forget [0] [] (s' := ⟨[(0, .v (.string p1))], []⟩) (by kernel_rfl)) ?_
      have hr := Option.some.inj h
      subst hr
      exact ⟨_, Wk.refl _, .inr ⟨(), rfl, rfl, rfl⟩⟩

theorem s_spec_validName (p1 : ByteArray) (r : Bool) (h : m_spec_validName p1 = some r) :
    Eng.Spec Tryd.prog 124 [.v (.string p1)] [] (.v (.bool r)) [] := by
  unfold m_spec_validName at h
  refine Eng.Spec.body Tryd.func124 (by kernel_rfl) rfl (by kernel_rfl) ?_
  refine AX.wkpost ?_
  refine AX.seq ?_
  refine AX.reg (its := []) [0] [] (s1 := ⟨[(0, .v (.string p1))], []⟩) (C := True) (by kernel_rfl) trivial trivial ?_
  refine AX.seq ?_
  refine AX.seq ?_
  refine AX.reg (its := []) [0, 3] [] (s1 := ⟨[(0, .v (.string p1)), (3, .v (.int .i64 0))], []⟩) (C := True) (by kernel_rfl) trivial trivial ?_
  refine AX.block ?_
  obtain ⟨x3, e5, h⟩ := bd_e h
  refine AX.wk (Wk.forget [0, 3] [] (s' := ⟨[(0, .v (.string p1)), (3, .v (.int .i64 0))], []⟩) (by kernel_rfl)) ?_
  refine AX.mono (s_spec_validName_L1 p1 FU 0 x3 e5) ?_
  rintro _ _ (⟨x4, rfl, rfl, rfl⟩ | ⟨x5, rfl, rfl, rfl⟩)
  · replace h := sm_l h
    refine fin_wk (Wk.forget [2] [] (s' := ⟨[(2, .v (.bool false))], []⟩) (by kernel_rfl)) ?_
    have hr := Option.some.inj h
    subst hr
    exact ⟨_, Wk.refl _, .inr rfl, ⟨[], by kernel_rfl, trivial, [.v (.bool false)], by kernel_rfl, by kernel_rfl⟩⟩
  · replace h := sm_r h
    refine AX.seq ?_
    obtain ⟨x6, e6, h⟩ := bd_e h
    refine AX.reg (its := [.auto {}, .auto {}, .call 59 [.v (.int .i64 (p1.size : Int)), .v (.int .i64 1), .v (.int .i64 6)] (handO (rho ([] ++ [])) [] [] ++ []) (callEv [] [] (.v (.bool x6)) [])]) [2] [] (s1 := ⟨[(2, .v (.bool x6))], []⟩) (C := ((([.v (.int .i64 (p1.size : Int)), .v (.int .i64 1), .v (.int .i64 6)] : List AV) = [.v (.int .i64 (p1.size : Int)), .v (.int .i64 1), .v (.int .i64 6)]) ∧ True) ∧ True) (by kernel_rfl) ⟨⟨rfl, trivial⟩, trivial⟩ ⟨call_ok (ks := []) (ns := []) (bor := []) (bobjs := []) (s_spec_inRange (p1.size : Int) 1 6 x6 e6) (.cons (.c1 (.c0 (.same _ (by kernel_rfl) (by kernel_rfl)))) (.cons (.c1 (.c0 (.same _ (by kernel_rfl) (by kernel_rfl)))) (.cons (.c1 (.c0 (.same _ (by kernel_rfl) (by kernel_rfl)))) (.nil)))) (by kernel_rfl) trivial, trivial⟩ ?_
    refine AX.ret ?_
    refine fin_wk (Wk.forget [2] [] (s' := ⟨[(2, .v (.bool x6))], []⟩) (by kernel_rfl)) ?_
    have hr := Option.some.inj h
    subst hr
    exact ⟨_, Wk.refl _, .inr rfl, ⟨[], by kernel_rfl, trivial, [.v (.bool x6)], by kernel_rfl, by kernel_rfl⟩⟩

theorem s_spec_indexOf_L1 (p1 : List (ByteArray × Int)) (p2 : ByteArray) (n : Nat) (g : Int) (out : Int ⊕ Unit) (h : m_spec_indexOf_L1 p1 p2 n g = some out) :
    AX Tryd.prog 20 0 (codeAt [1, 0, 1, 1] (bodyOf Tryd.f101)) ((fun g : Int => (⟨[(0, .bs false 2 (List.map enc_si p1)), (1, .v (.string p2)), (5, .v (.int .i64 g))], []⟩ : S)) g) (fun ex s => (∃ o : Int, out = Sum.inl o ∧ ex = .ret ∧ s = ⟨[(4, .v (.int .i64 o))], []⟩) ∨ (∃ o : Unit, out = Sum.inr o ∧ ex = .exit 0 ∧ s = ⟨[], []⟩)) := by
  refine AX.wkpost ?_
  refine AX.loop (G := Nat × (Int)) (fun q => (fun g : Int => (⟨[(0, .bs false 2 (List.map enc_si p1)), (1, .v (.string p2)), (5, .v (.int .i64 g))], []⟩ : S)) q.2) (fun q => m_spec_indexOf_L1 p1 p2 q.1 q.2 = some out) (fun q => q.1) (n, g) h (Wk.refl _) ?_
  clear h
  rintro ⟨fu, v3⟩ h
  cases fu with
  | zero => cases h
  | succ fu =>
    rw [m_spec_indexOf_L1] at h
    refine AX.seq ?_
    refine AX.seq ?_
    refine AX.reg (its := [.auto {}, .auto {}, .auto { y := some (.v (.int .i64 (p1.length : Int))) }]) [0, 1, 5, 9] [] (s1 := ⟨[(0, .bs false 2 (List.map enc_si p1)), (1, .v (.string p2)), (5, .v (.int .i64 v3)), (9, .v (.bool (decide (v3 < (p1.length : Int)))))], []⟩) (C := (True ∧ (AV.v (.int .i64 ((List.map enc_si p1).length : Int)) = AV.v (.int .i64 (p1.length : Int)))) ∧ True) (by kernel_rfl) ⟨⟨trivial, len_map enc_si p1⟩, trivial⟩ trivial ?_
    rcases bool_cases (decide (v3 < (p1.length : Int))) with b1 | b1
    · replace h := cd_t b1 h
      refine AX.condT (decide (v3 < (p1.length : Int))) (by kernel_rfl) b1 ?_
      refine AX.skip ?_
      refine AX.seq ?_
      refine AX.block ?_
      refine AX.seq ?_
      obtain ⟨g2, h⟩ := gd_e h
      refine AX.reg (its := [.auto {}, .auto {}, .auto { y := some (.be 2 (enc_si (gt p1 v3)) 0) }]) [0, 1, 5, 18] [] (s1 := ⟨[(0, .bs false 2 (List.map enc_si p1)), (1, .v (.string p2)), (5, .v (.int .i64 v3)), (18, .v (.bool (decide (((gt p1 v3).1) = p2))))], []⟩) (C := ((0 ≤ v3 ∧ v3 < ((List.map enc_si p1).length : Int)) ∧ (AV.be 2 ((List.map enc_si p1).getD v3.toNat []) 0 = AV.be 2 (enc_si (gt p1 v3)) 0)) ∧ True) (by kernel_rfl) ⟨idx_bs enc_si p1 v3 2 g2, trivial⟩ trivial ?_
      rcases bool_cases (decide (((gt p1 v3).1) = p2)) with b3 | b3
      · replace h := cd_t b3 h
        refine AX.condT (decide (((gt p1 v3).1) = p2)) (by kernel_rfl) b3 ?_
        refine AX.seq ?_
        refine AX.reg (its := []) [4] [] (s1 := ⟨[(4, .v (.int .i64 v3))], []⟩) (C := True) (by kernel_rfl) trivial trivial ?_
        refine AX.ret ?_
        refine fin_wk (Wk.forget [4] [] (s' := ⟨[(4, .v (.int .i64 v3))], []⟩) (by kernel_rfl)) ?_
        have hr := Option.some.inj h
        subst hr
        exact ⟨_, Wk.refl _, .inl ⟨v3, rfl, rfl, rfl⟩⟩
      · replace h := cd_f b3 h
        refine AX.condF (decide (((gt p1 v3).1) = p2)) (by kernel_rfl) b3 ?_
        refine AX.skip ?_
        refine AX.reg (its := [.auto {}, .auto { raw := true }]) [0, 1, 5] [] (s1 := ⟨[(0, .bs false 2 (List.map enc_si p1)), (1, .v (.string p2)), (5, .v (.int .i64 (IntKind.wrap .i64 (v3 + 1))))], []⟩) (C := True) (by kernel_rfl) trivial trivial ?_
        refine ⟨(fu, IntKind.wrap .i64 (v3 + 1)), h, Nat.lt_succ_self _, ?_⟩
        refine Wk.trans (Wk.forget [0, 1, 5] [] (s' := ⟨[(0, .bs false 2 (List.map enc_si p1)), (1, .v (.string p2)), (5, .v (.int .i64 (IntKind.wrap .i64 (v3 + 1))))], []⟩) (by kernel_rfl)) ?_
        exact Wk.refl _
    · replace h := cd_f b1 h
      refine AX.condF (decide (v3 < (p1.length : Int))) (by kernel_rfl) b1 ?_
      refine AX.exit ?_
      refine fin_wk (Wk.forget [] [] (s' := ⟨[], []⟩) (by kernel_rfl)) ?_
      have hr := Option.some.inj h
      subst hr
      exact ⟨_, Wk.refl _, .inr ⟨(), rfl, rfl, rfl⟩⟩

theorem s_spec_indexOf (p1 : List (ByteArray × Int)) (p2 : ByteArray) (r : Int) (h : m_spec_indexOf p1 p2 = some r) :
    Eng.Spec Tryd.prog 101 [.bs false 2 (List.map enc_si p1), .v (.string p2)] [] (.v (.int .i64 r)) [] := by
  unfold m_spec_indexOf at h
  refine Eng.Spec.body Tryd.func101 (by kernel_rfl) rfl (by kernel_rfl) ?_
  refine AX.wkpost ?_
  refine AX.seq ?_
  refine AX.reg (its := []) [0, 1] [] (s1 := ⟨[(0, .bs false 2 (List.map enc_si p1)), (1, .v (.string p2))], []⟩) (C := True) (by kernel_rfl) trivial trivial ?_
  refine AX.seq ?_
  refine AX.seq ?_
  refine AX.reg (its := []) [0, 1, 5] [] (s1 := ⟨[(0, .bs false 2 (List.map enc_si p1)), (1, .v (.string p2)), (5, .v (.int .i64 0))], []⟩) (C := True) (by kernel_rfl) trivial trivial ?_
  refine AX.block ?_
  obtain ⟨x4, e4, h⟩ := bd_e h
  refine AX.wk (Wk.forget [0, 1, 5] [] (s' := ⟨[(0, .bs false 2 (List.map enc_si p1)), (1, .v (.string p2)), (5, .v (.int .i64 0))], []⟩) (by kernel_rfl)) ?_
  refine AX.mono (s_spec_indexOf_L1 p1 p2 FU 0 x4 e4) ?_
  rintro _ _ (⟨x5, rfl, rfl, rfl⟩ | ⟨x6, rfl, rfl, rfl⟩)
  · replace h := sm_l h
    refine fin_wk (Wk.forget [4] [] (s' := ⟨[(4, .v (.int .i64 x5))], []⟩) (by kernel_rfl)) ?_
    have hr := Option.some.inj h
    subst hr
    exact ⟨_, Wk.refl _, .inr rfl, ⟨[], by kernel_rfl, trivial, [.v (.int .i64 x5)], by kernel_rfl, by kernel_rfl⟩⟩
  · replace h := sm_r h
    refine AX.seq ?_
    refine AX.reg (its := []) [4] [] (s1 := ⟨[(4, .v (.int .i64 (-1)))], []⟩) (C := True) (by kernel_rfl) trivial trivial ?_
    refine AX.ret ?_
    refine fin_wk (Wk.forget [4] [] (s' := ⟨[(4, .v (.int .i64 (-1)))], []⟩) (by kernel_rfl)) ?_
    have hr := Option.some.inj h
    subst hr
    exact ⟨_, Wk.refl _, .inr rfl, ⟨[], by kernel_rfl, trivial, [.v (.int .i64 (-1))], by kernel_rfl, by kernel_rfl⟩⟩

theorem s_spec_validDefs_L1 (p1 : List (ByteArray × Int)) (p2 : Int) (p3 : Int) (n : Nat) (g : Int) (out : Unit ⊕ Unit) (h : m_spec_validDefs_L1 p1 p2 p3 n g = some out) :
    AX Tryd.prog 47 0 (codeAt [1, 0, 1, 1] (bodyOf Tryd.f79)) ((fun g : Int => (⟨[(0, .bs false 2 (List.map enc_si p1)), (1, .v (.int .i64 p2)), (2, .v (.int .i64 p3)), (7, .v (.int .i64 g))], []⟩ : S)) g) (fun ex s => (∃ o : Unit, out = Sum.inl o ∧ ex = .ret ∧ s = ⟨[(6, .v (.bool false))], []⟩) ∨ (∃ o : Unit, out = Sum.inr o ∧ ex = .exit 0 ∧ s = ⟨[(0, .bs false 2 (List.map enc_si p1))], []⟩)) := by
  refine AX.wkpost ?_
  refine AX.loop (G := Nat × (Int)) (fun q => (fun g : Int => (⟨[(0, .bs false 2 (List.map enc_si p1)), (1, .v (.int .i64 p2)), (2, .v (.int .i64 p3)), (7, .v (.int .i64 g))], []⟩ : S)) q.2) (fun q => m_spec_validDefs_L1 p1 p2 p3 q.1 q.2 = some out) (fun q => q.1) (n, g) h (Wk.refl _) ?_
  clear h
  rintro ⟨fu, v4⟩ h
  cases fu with
  | zero => cases h
  | succ fu =>
    rw [m_spec_validDefs_L1] at h
    refine AX.seq ?_
    refine AX.seq ?_
    refine AX.reg (its := [.auto {}, .auto {}, .auto { y := some (.v (.int .i64 (p1.length : Int))) }]) [0, 1, 2, 7, 11] [] (s1 := ⟨[(0, .bs false 2 (List.map enc_si p1)), (1, .v (.int .i64 p2)), (2, .v (.int .i64 p3)), (7, .v (.int .i64 v4)), (11, .v (.bool (decide (v4 < (p1.length : Int)))))], []⟩) (C := (True ∧ (AV.v (.int .i64 ((List.map enc_si p1).length : Int)) = AV.v (.int .i64 (p1.length : Int)))) ∧ True) (by kernel_rfl) ⟨⟨trivial, len_map enc_si p1⟩, trivial⟩ trivial ?_
    rcases bool_cases (decide (v4 < (p1.length : Int))) with b1 | b1
    · replace h := cd_t b1 h
      refine AX.condT (decide (v4 < (p1.length : Int))) (by kernel_rfl) b1 ?_
      refine AX.skip ?_
      refine AX.seq ?_
      refine AX.block ?_
      refine AX.seq ?_
      obtain ⟨g2, h⟩ := gd_e h
      obtain ⟨x5, e3, h⟩ := bd_e h
      rcases bool_cases ((!x5)) with b4 | b4
      · replace h := cd_t b4 h
        refine AX.drw mixed (its := [.auto {}, .auto {}, .auto { y := some (.be 2 (enc_si (gt p1 v4)) 0) }, .auto {}, .auto {}, .call 124 [.v (.string ((gt p1 v4).1))] (handO (rho ([] ++ [])) [] [] ++ []) (callEv [] [] (.v (.bool x5)) []), .auto { y := some (.v (.bool true)) }]) [0, 1, 2, 7, 43] [] (s1 := ⟨[(0, .bs false 2 (List.map enc_si p1)), (1, .v (.int .i64 p2)), (2, .v (.int .i64 p3)), (7, .v (.int .i64 v4)), (43, .v (.bool true))], []⟩) (C := ((0 ≤ v4 ∧ v4 < ((List.map enc_si p1).length : Int)) ∧ (AV.be 2 ((List.map enc_si p1).getD v4.toNat []) 0 = AV.be 2 (enc_si (gt p1 v4)) 0)) ∧ ((([.v (.string ((gt p1 v4).1))] : List AV) = [.v (.string ((gt p1 v4).1))]) ∧ True) ∧ ((True) ∧ ((.v (.bool (!x5)) : AV) = (.v (.bool true) : AV))) ∧ True) (by kernel_rfl) ⟨idx_bs enc_si p1 v4 2 g2, ⟨⟨rfl, trivial⟩, ⟨⟨trivial, (congrArg (fun z => AV.v (.bool z)) b4)⟩, trivial⟩⟩⟩ ⟨call_ok (ks := []) (ns := []) (bor := []) (bobjs := []) (s_spec_validName ((gt p1 v4).1) x5 e3) (.cons (.c1 (.c0 (.same _ (by kernel_rfl) (by kernel_rfl)))) (.nil)) (by kernel_rfl) trivial, trivial⟩ ?_
        refine AX.cond_true (by kernel_rfl) ?_
        refine AX.seq ?_
        refine AX.reg (its := []) [6] [] (s1 := ⟨[(6, .v (.bool false))], []⟩) (C := True) (by kernel_rfl) trivial trivial ?_
        refine AX.ret ?_
        refine fin_wk (Wk.forget [6] [] (s' := ⟨[(6, .v (.bool false))], []⟩) (by kernel_rfl)) ?_
        have hr := Option.some.inj h
        subst hr
        exact ⟨_, Wk.refl _, .inl ⟨(), rfl, rfl, rfl⟩⟩
      · replace h := cd_f b4 h
        obtain ⟨x6, e5, h⟩ := bd_e h
        rcases bool_cases ((!x6)) with b6 | b6
        · replace h := cd_t b6 h
          refine AX.drw mixed (its := [.auto {}, .auto {}, .auto { y := some (.be 2 (enc_si (gt p1 v4)) 0) }, .auto {}, .auto {}, .call 124 [.v (.string ((gt p1 v4).1))] (handO (rho ([] ++ [])) [] [] ++ []) (callEv [] [] (.v (.bool x5)) []), .auto { y := some (.v (.bool false)) }, .auto {}, .auto {}, .auto {}, .auto { y := some (.be 2 (enc_si (gt p1 v4)) 0) }, .auto {}, .auto {}, .auto {}, .auto {}, .call 59 [.v (.int .i64 ((gt p1 v4).2)), .v (.int .i64 p2), .v (.int .i64 p3)] (handO (rho ([] ++ [])) [] [] ++ []) (callEv [] [] (.v (.bool x6)) []), .auto { y := some (.v (.bool true)) }]) [0, 1, 2, 7, 43] [] (s1 := ⟨[(0, .bs false 2 (List.map enc_si p1)), (1, .v (.int .i64 p2)), (2, .v (.int .i64 p3)), (7, .v (.int .i64 v4)), (43, .v (.bool true))], []⟩) (C := ((0 ≤ v4 ∧ v4 < ((List.map enc_si p1).length : Int)) ∧ (AV.be 2 ((List.map enc_si p1).getD v4.toNat []) 0 = AV.be 2 (enc_si (gt p1 v4)) 0)) ∧ ((([.v (.string ((gt p1 v4).1))] : List AV) = [.v (.string ((gt p1 v4).1))]) ∧ True) ∧ ((True) ∧ ((.v (.bool (!x5)) : AV) = (.v (.bool false) : AV))) ∧ ((0 ≤ v4 ∧ v4 < ((List.map enc_si p1).length : Int)) ∧ (AV.be 2 ((List.map enc_si p1).getD v4.toNat []) 0 = AV.be 2 (enc_si (gt p1 v4)) 0)) ∧ ((([.v (.int .i64 ((gt p1 v4).2)), .v (.int .i64 p2), .v (.int .i64 p3)] : List AV) = [.v (.int .i64 ((gt p1 v4).2)), .v (.int .i64 p2), .v (.int .i64 p3)]) ∧ True) ∧ ((True) ∧ ((.v (.bool (!x6)) : AV) = (.v (.bool true) : AV))) ∧ True) (by kernel_rfl) ⟨idx_bs enc_si p1 v4 2 g2, ⟨⟨rfl, trivial⟩, ⟨⟨trivial, (congrArg (fun z => AV.v (.bool z)) b4)⟩, ⟨idx_bs enc_si p1 v4 2 g2, ⟨⟨rfl, trivial⟩, ⟨⟨trivial, (congrArg (fun z => AV.v (.bool z)) b6)⟩, trivial⟩⟩⟩⟩⟩⟩ ⟨call_ok (ks := []) (ns := []) (bor := []) (bobjs := []) (s_spec_validName ((gt p1 v4).1) x5 e3) (.cons (.c1 (.c0 (.same _ (by kernel_rfl) (by kernel_rfl)))) (.nil)) (by kernel_rfl) trivial, ⟨call_ok (ks := []) (ns := []) (bor := []) (bobjs := []) (s_spec_inRange ((gt p1 v4).2) p2 p3 x6 e5) (.cons (.c1 (.c0 (.same _ (by kernel_rfl) (by kernel_rfl)))) (.cons (.c1 (.c0 (.same _ (by kernel_rfl) (by kernel_rfl)))) (.cons (.c1 (.c0 (.same _ (by kernel_rfl) (by kernel_rfl)))) (.nil)))) (by kernel_rfl) trivial, trivial⟩⟩ ?_
          refine AX.cond_true (by kernel_rfl) ?_
          refine AX.seq ?_
          refine AX.reg (its := []) [6] [] (s1 := ⟨[(6, .v (.bool false))], []⟩) (C := True) (by kernel_rfl) trivial trivial ?_
          refine AX.ret ?_
          refine fin_wk (Wk.forget [6] [] (s' := ⟨[(6, .v (.bool false))], []⟩) (by kernel_rfl)) ?_
          have hr := Option.some.inj h
          subst hr
          exact ⟨_, Wk.refl _, .inl ⟨(), rfl, rfl, rfl⟩⟩
        · replace h := cd_f b6 h
          obtain ⟨g7, h⟩ := gd_e h
          obtain ⟨x7, e8, h⟩ := bd_e h
          refine AX.drw mixed (its := [.auto {}, .auto {}, .auto { y := some (.be 2 (enc_si (gt p1 v4)) 0) }, .auto {}, .auto {}, .call 124 [.v (.string ((gt p1 v4).1))] (handO (rho ([] ++ [])) [] [] ++ []) (callEv [] [] (.v (.bool x5)) []), .auto { y := some (.v (.bool false)) }, .auto {}, .auto {}, .auto {}, .auto { y := some (.be 2 (enc_si (gt p1 v4)) 0) }, .auto {}, .auto {}, .auto {}, .auto {}, .call 59 [.v (.int .i64 ((gt p1 v4).2)), .v (.int .i64 p2), .v (.int .i64 p3)] (handO (rho ([] ++ [])) [] [] ++ []) (callEv [] [] (.v (.bool x6)) []), .auto { y := some (.v (.bool false)) }, .auto {}, .auto {}, .auto {}, .auto {}, .auto { y := some (.bs false 2 (List.map enc_si (sub p1 (0 : Int) v4))) }, .auto {}, .auto {}, .auto { y := some (.be 2 (enc_si (gt p1 v4)) 0) }, .auto {}, .auto {}, .call 101 [.bs false 2 (List.map enc_si (sub p1 (0 : Int) v4)), .v (.string ((gt p1 v4).1))] (handO (rho ([] ++ [])) [] [] ++ []) (callEv [] [] (.v (.int .i64 x7)) [])]) [0, 1, 2, 7, 43] [] (s1 := ⟨[(0, .bs false 2 (List.map enc_si p1)), (1, .v (.int .i64 p2)), (2, .v (.int .i64 p3)), (7, .v (.int .i64 v4)), (43, .v (.bool (decide (0 ≤ x7))))], []⟩) (C := ((0 ≤ v4 ∧ v4 < ((List.map enc_si p1).length : Int)) ∧ (AV.be 2 ((List.map enc_si p1).getD v4.toNat []) 0 = AV.be 2 (enc_si (gt p1 v4)) 0)) ∧ ((([.v (.string ((gt p1 v4).1))] : List AV) = [.v (.string ((gt p1 v4).1))]) ∧ True) ∧ ((True) ∧ ((.v (.bool (!x5)) : AV) = (.v (.bool false) : AV))) ∧ ((0 ≤ v4 ∧ v4 < ((List.map enc_si p1).length : Int)) ∧ (AV.be 2 ((List.map enc_si p1).getD v4.toNat []) 0 = AV.be 2 (enc_si (gt p1 v4)) 0)) ∧ ((([.v (.int .i64 ((gt p1 v4).2)), .v (.int .i64 p2), .v (.int .i64 p3)] : List AV) = [.v (.int .i64 ((gt p1 v4).2)), .v (.int .i64 p2), .v (.int .i64 p3)]) ∧ True) ∧ ((True) ∧ ((.v (.bool (!x6)) : AV) = (.v (.bool false) : AV))) ∧ ((0 ≤ (0 : Int) ∧ (0 : Int) ≤ v4 ∧ v4 ≤ ((List.map enc_si p1).length : Int) ∧ ((List.map enc_si p1).length : Int) ≤ ((List.map enc_si p1).length : Int)) ∧ (AV.bs false 2 (((List.map enc_si p1).drop (0 : Int).toNat).take (v4.toNat - (0 : Int).toNat)) = (.bs false 2 (List.map enc_si (sub p1 (0 : Int) v4)) : AV))) ∧ ((0 ≤ v4 ∧ v4 < ((List.map enc_si p1).length : Int)) ∧ (AV.be 2 ((List.map enc_si p1).getD v4.toNat []) 0 = AV.be 2 (enc_si (gt p1 v4)) 0)) ∧ ((([.bs false 2 (List.map enc_si (sub p1 (0 : Int) v4)), .v (.string ((gt p1 v4).1))] : List AV) = [.bs false 2 (List.map enc_si (sub p1 (0 : Int) v4)), .v (.string ((gt p1 v4).1))]) ∧ True) ∧ True) (by kernel_rfl) ⟨idx_bs enc_si p1 v4 2 g2, ⟨⟨rfl, trivial⟩, ⟨⟨trivial, (congrArg (fun z => AV.v (.bool z)) b4)⟩, ⟨idx_bs enc_si p1 v4 2 g2, ⟨⟨rfl, trivial⟩, ⟨⟨trivial, (congrArg (fun z => AV.v (.bool z)) b6)⟩, ⟨⟨by first | exact g7 | simpa only [List.length_map] using g7, by first | exact sub_can enc_si p1 (0 : Int) v4 false 2 | (simp only [List.length_map]; exact sub_can enc_si p1 (0 : Int) v4 false 2)⟩, ⟨idx_bs enc_si p1 v4 2 g2, ⟨⟨rfl, trivial⟩, trivial⟩⟩⟩⟩⟩⟩⟩⟩⟩ ⟨call_ok (ks := []) (ns := []) (bor := []) (bobjs := []) (s_spec_validName ((gt p1 v4).1) x5 e3) (.cons (.c1 (.c0 (.same _ (by kernel_rfl) (by kernel_rfl)))) (.nil)) (by kernel_rfl) trivial, ⟨call_ok (ks := []) (ns := []) (bor := []) (bobjs := []) (s_spec_inRange ((gt p1 v4).2) p2 p3 x6 e5) (.cons (.c1 (.c0 (.same _ (by kernel_rfl) (by kernel_rfl)))) (.cons (.c1 (.c0 (.same _ (by kernel_rfl) (by kernel_rfl)))) (.cons (.c1 (.c0 (.same _ (by kernel_rfl) (by kernel_rfl)))) (.nil)))) (by kernel_rfl) trivial, ⟨call_ok (ks := []) (ns := []) (bor := []) (bobjs := []) (s_spec_indexOf (sub p1 (0 : Int) v4) ((gt p1 v4).1) x7 e8) (.cons (.c1 (.c0 (.same _ (by kernel_rfl) (by kernel_rfl)))) (.cons (.c1 (.c0 (.same _ (by kernel_rfl) (by kernel_rfl)))) (.nil))) (by kernel_rfl) trivial, trivial⟩⟩⟩ ?_
          rcases bool_cases (decide (0 ≤ x7)) with b9 | b9
          · replace h := cd_t b9 h
            refine AX.condT (decide (0 ≤ x7)) (by kernel_rfl) b9 ?_
            refine AX.seq ?_
            refine AX.reg (its := []) [6] [] (s1 := ⟨[(6, .v (.bool false))], []⟩) (C := True) (by kernel_rfl) trivial trivial ?_
            refine AX.ret ?_
            refine fin_wk (Wk.forget [6] [] (s' := ⟨[(6, .v (.bool false))], []⟩) (by kernel_rfl)) ?_
            have hr := Option.some.inj h
            subst hr
            exact ⟨_, Wk.refl _, .inl ⟨(), rfl, rfl, rfl⟩⟩
          · replace h := cd_f b9 h
            refine AX.condF (decide (0 ≤ x7)) (by kernel_rfl) b9 ?_
            refine AX.skip ?_
            refine AX.reg (its := [.auto {}, .auto { raw := true }]) [0, 1, 2, 7] [] (s1 := ⟨[(0, .bs false 2 (List.map enc_si p1)), (1, .v (.int .i64 p2)), (2, .v (.int .i64 p3)), (7, .v (.int .i64 (IntKind.wrap .i64 (v4 + 1))))], []⟩) (C := True) (by kernel_rfl) trivial trivial ?_
            refine ⟨(fu, IntKind.wrap .i64 (v4 + 1)), h, Nat.lt_succ_self _, ?_⟩
            refine Wk.trans (Wk.forget [0, 1, 2, 7] [] (s' := ⟨[(0, .bs false 2 (List.map enc_si p1)), (1, .v (.int .i64 p2)), (2, .v (.int .i64 p3)), (7, .v (.int .i64 (IntKind.wrap .i64 (v4 + 1))))], []⟩) (by kernel_rfl)) ?_
            exact Wk.refl _
    · replace h := cd_f b1 h
      refine AX.condF (decide (v4 < (p1.length : Int))) (by kernel_rfl) b1 ?_
      refine AX.exit ?_
      refine fin_wk (Wk.forget [0] [] (s' := ⟨[(0, .bs false 2 (List.map enc_si p1))], []⟩) (by kernel_rfl)) ?_
      have hr := Option.some.inj h
      subst hr
      exact ⟨_, Wk.refl _, .inr ⟨(), rfl, rfl, rfl⟩⟩

theorem s_spec_validDefs (p1 : List (ByteArray × Int)) (p2 : Int) (p3 : Int) (r : Bool) (h : m_spec_validDefs p1 p2 p3 = some r) :
    Eng.Spec Tryd.prog 79 [.bs false 2 (List.map enc_si p1), .v (.int .i64 p2), .v (.int .i64 p3)] [] (.v (.bool r)) [] := by
  unfold m_spec_validDefs at h
  refine Eng.Spec.body Tryd.func79 (by kernel_rfl) rfl (by kernel_rfl) ?_
  refine AX.wkpost ?_
  refine AX.seq ?_
  refine AX.reg (its := []) [0, 1, 2] [] (s1 := ⟨[(0, .bs false 2 (List.map enc_si p1)), (1, .v (.int .i64 p2)), (2, .v (.int .i64 p3))], []⟩) (C := True) (by kernel_rfl) trivial trivial ?_
  refine AX.seq ?_
  refine AX.seq ?_
  refine AX.reg (its := []) [0, 1, 2, 7] [] (s1 := ⟨[(0, .bs false 2 (List.map enc_si p1)), (1, .v (.int .i64 p2)), (2, .v (.int .i64 p3)), (7, .v (.int .i64 0))], []⟩) (C := True) (by kernel_rfl) trivial trivial ?_
  refine AX.block ?_
  obtain ⟨x8, e10, h⟩ := bd_e h
  refine AX.wk (Wk.forget [0, 1, 2, 7] [] (s' := ⟨[(0, .bs false 2 (List.map enc_si p1)), (1, .v (.int .i64 p2)), (2, .v (.int .i64 p3)), (7, .v (.int .i64 0))], []⟩) (by kernel_rfl)) ?_
  refine AX.mono (s_spec_validDefs_L1 p1 p2 p3 FU 0 x8 e10) ?_
  rintro _ _ (⟨x9, rfl, rfl, rfl⟩ | ⟨x10, rfl, rfl, rfl⟩)
  · replace h := sm_l h
    refine fin_wk (Wk.forget [6] [] (s' := ⟨[(6, .v (.bool false))], []⟩) (by kernel_rfl)) ?_
    have hr := Option.some.inj h
    subst hr
    exact ⟨_, Wk.refl _, .inr rfl, ⟨[], by kernel_rfl, trivial, [.v (.bool false)], by kernel_rfl, by kernel_rfl⟩⟩
  · replace h := sm_r h
    refine AX.seq ?_
    refine AX.reg (its := [.auto {}, .auto { y := some (.v (.int .i64 (p1.length : Int))) }]) [6] [] (s1 := ⟨[(6, .v (.bool (decide ((p1.length : Int) ≤ 12))))], []⟩) (C := (True ∧ (AV.v (.int .i64 ((List.map enc_si p1).length : Int)) = AV.v (.int .i64 (p1.length : Int)))) ∧ True) (by kernel_rfl) ⟨⟨trivial, len_map enc_si p1⟩, trivial⟩ trivial ?_
    refine AX.ret ?_
    refine fin_wk (Wk.forget [6] [] (s' := ⟨[(6, .v (.bool (decide ((p1.length : Int) ≤ 12))))], []⟩) (by kernel_rfl)) ?_
    have hr := Option.some.inj h
    subst hr
    exact ⟨_, Wk.refl _, .inr rfl, ⟨[], by kernel_rfl, trivial, [.v (.bool (decide ((p1.length : Int) ≤ 12)))], by kernel_rfl, by kernel_rfl⟩⟩

theorem s_spec_validFlag (p1 : List (ByteArray × Int)) (p2 : Int) (r : Bool) (h : m_spec_validFlag p1 p2 = some r) :
    Eng.Spec Tryd.prog 35 [.agg [.bs false 2 (List.map enc_si p1), .v (.int .i64 p2)]] [] (.v (.bool r)) [] := by
  unfold m_spec_validFlag at h
  refine Eng.Spec.body Tryd.func35 (by kernel_rfl) rfl (by kernel_rfl) ?_
  refine AX.wkpost ?_
  refine AX.seq ?_
  refine AX.reg (its := [.auto { nk := 0 }]) [1] [0] (s1 := ⟨[(1, .pt 0 0)], [(0, .box [.bs false 2 (List.map enc_si p1), .v (.int .i64 p2)])]⟩) (C := True) (by kernel_rfl) trivial trivial ?_
  refine AX.seq ?_
  obtain ⟨x3, e1, h⟩ := bd_e h
  rcases bool_cases (x3) with b2 | b2
  · replace h := cd_t b2 h
    obtain ⟨x4, e3, h⟩ := bd_e h
    refine AX.reg (its := [.auto {}, .auto {}, .call 79 [.bs false 2 (List.map enc_si p1), .v (.int .i64 0), .v (.int .i64 4095)] (handO (rho ([] ++ [])) [] [] ++ []) (callEv [] [] (.v (.bool true)) []), .auto {}, .auto {}, .auto {}, .call 59 [.v (.int .i64 p2), .v (.int .i64 0), .v (.int .i64 3)] (handO (rho ([] ++ [])) [] [] ++ []) (callEv [] [] (.v (.bool x4)) [])]) [2] [] (s1 := ⟨[(2, .v (.bool x4))], []⟩) (C := ((([.bs false 2 (List.map enc_si p1), .v (.int .i64 0), .v (.int .i64 4095)] : List AV) = [.bs false 2 (List.map enc_si p1), .v (.int .i64 0), .v (.int .i64 4095)]) ∧ True) ∧ ((([.v (.int .i64 p2), .v (.int .i64 0), .v (.int .i64 3)] : List AV) = [.v (.int .i64 p2), .v (.int .i64 0), .v (.int .i64 3)]) ∧ True) ∧ True) (by kernel_rfl) ⟨⟨rfl, trivial⟩, ⟨⟨rfl, trivial⟩, trivial⟩⟩ ⟨call_ok (ks := []) (ns := []) (bor := []) (bobjs := []) (show Eng.Spec Tryd.prog 79 [.bs false 2 (List.map enc_si p1), .v (.int .i64 0), .v (.int .i64 4095)] [] (.v (.bool true)) [] from by have q := s_spec_validDefs p1 0 4095 x3 e1; rw [b2] at q; exact q) (.cons (.c1 (.c0 (.same _ (by kernel_rfl) (by kernel_rfl)))) (.cons (.c1 (.c0 (.same _ (by kernel_rfl) (by kernel_rfl)))) (.cons (.c1 (.c0 (.same _ (by kernel_rfl) (by kernel_rfl)))) (.nil)))) (by kernel_rfl) trivial, ⟨call_ok (ks := []) (ns := []) (bor := []) (bobjs := []) (s_spec_inRange p2 0 3 x4 e3) (.cons (.c1 (.c0 (.same _ (by kernel_rfl) (by kernel_rfl)))) (.cons (.c1 (.c0 (.same _ (by kernel_rfl) (by kernel_rfl)))) (.cons (.c1 (.c0 (.same _ (by kernel_rfl) (by kernel_rfl)))) (.nil)))) (by kernel_rfl) trivial, trivial⟩⟩ ?_
    refine AX.ret ?_
    refine fin_wk (Wk.forget [2] [] (s' := ⟨[(2, .v (.bool x4))], []⟩) (by kernel_rfl)) ?_
    have hr := Option.some.inj h
    subst hr
    exact ⟨_, Wk.refl _, .inr rfl, ⟨[], by kernel_rfl, trivial, [.v (.bool x4)], by kernel_rfl, by kernel_rfl⟩⟩
  · replace h := cd_f b2 h
    refine AX.reg (its := [.auto {}, .auto {}, .call 79 [.bs false 2 (List.map enc_si p1), .v (.int .i64 0), .v (.int .i64 4095)] (handO (rho ([] ++ [])) [] [] ++ []) (callEv [] [] (.v (.bool false)) [])]) [2] [] (s1 := ⟨[(2, .v (.bool false))], []⟩) (C := ((([.bs false 2 (List.map enc_si p1), .v (.int .i64 0), .v (.int .i64 4095)] : List AV) = [.bs false 2 (List.map enc_si p1), .v (.int .i64 0), .v (.int .i64 4095)]) ∧ True) ∧ True) (by kernel_rfl) ⟨⟨rfl, trivial⟩, trivial⟩ ⟨call_ok (ks := []) (ns := []) (bor := []) (bobjs := []) (show Eng.Spec Tryd.prog 79 [.bs false 2 (List.map enc_si p1), .v (.int .i64 0), .v (.int .i64 4095)] [] (.v (.bool false)) [] from by have q := s_spec_validDefs p1 0 4095 x3 e1; rw [b2] at q; exact q) (.cons (.c1 (.c0 (.same _ (by kernel_rfl) (by kernel_rfl)))) (.cons (.c1 (.c0 (.same _ (by kernel_rfl) (by kernel_rfl)))) (.cons (.c1 (.c0 (.same _ (by kernel_rfl) (by kernel_rfl)))) (.nil)))) (by kernel_rfl) trivial, trivial⟩ ?_
    refine AX.ret ?_
    refine fin_wk (Wk.forget [2] [] (s' := ⟨[(2, .v (.bool false))], []⟩) (by kernel_rfl)) ?_
    have hr := Option.some.inj h
    subst hr
    exact ⟨_, Wk.refl _, .inr rfl, ⟨[], by kernel_rfl, trivial, [.v (.bool false)], by kernel_rfl, by kernel_rfl⟩⟩

theorem s_spec_splitAt_L1 (p1 : ByteArray) (p2 : Int) (n : Nat) (g : List (ByteArray) × Int × Int) (out : List (ByteArray) × Int) (h : m_spec_splitAt_L1 p1 p2 n g.1 g.2.1 g.2.2 = some out) :
    AX Tryd.prog 35 0 (codeAt [1, 1, 1, 0, 1, 1] (bodyOf Tryd.f80)) ((fun g : List (ByteArray) × Int × Int => (⟨[(0, .v (.string p1)), (1, .v (.int .u8 p2)), (5, .sl 0 0 g.1.length), (6, .v (.int .i64 g.2.1)), (7, .v (.int .i64 g.2.2))], [(0, .arr 1 (List.map enc_s g.1))]⟩ : S)) g) (fun ex s => ex = .exit 0 ∧ s = (fun o : List (ByteArray) × Int => (⟨[(0, .v (.string p1)), (5, .sl 0 0 o.1.length), (6, .v (.int .i64 o.2))], [(0, .arr 1 (List.map enc_s o.1))]⟩ : S)) out) := by
  refine AX.wkpost ?_
  refine AX.loop (G := Nat × (List (ByteArray) × Int × Int)) (fun q => (fun g : List (ByteArray) × Int × Int => (⟨[(0, .v (.string p1)), (1, .v (.int .u8 p2)), (5, .sl 0 0 g.1.length), (6, .v (.int .i64 g.2.1)), (7, .v (.int .i64 g.2.2))], [(0, .arr 1 (List.map enc_s g.1))]⟩ : S)) q.2) (fun q => m_spec_splitAt_L1 p1 p2 q.1 q.2.1 q.2.2.1 q.2.2.2 = some out) (fun q => q.1) (n, g) h (Wk.refl _) ?_
  clear h
  rintro ⟨fu, v3, v4, v5⟩ h
  cases fu with
  | zero => cases h
  | succ fu =>
    rw [m_spec_splitAt_L1] at h
    refine AX.seq ?_
    refine AX.seq ?_
    refine AX.reg (its := []) [0, 1, 5, 6, 7, 12] [0] (s1 := ⟨[(0, .v (.string p1)), (1, .v (.int .u8 p2)), (5, .sl 0 0 v3.length), (6, .v (.int .i64 v4)), (7, .v (.int .i64 v5)), (12, .v (.bool (decide (v5 < (p1.size : Int)))))], [(0, .arr 1 (List.map enc_s v3))]⟩) (C := True) (by kernel_rfl) trivial trivial ?_
    rcases bool_cases (decide (v5 < (p1.size : Int))) with b1 | b1
    · replace h := cd_t b1 h
      refine AX.condT (decide (v5 < (p1.size : Int))) (by kernel_rfl) b1 ?_
      refine AX.skip ?_
      refine AX.seq ?_
      refine AX.block ?_
      refine AX.seq ?_
      obtain ⟨g2, h⟩ := gd_e h
      refine AX.reg (its := []) [0, 1, 5, 6, 7, 19] [0] (s1 := ⟨[(0, .v (.string p1)), (1, .v (.int .u8 p2)), (5, .sl 0 0 v3.length), (6, .v (.int .i64 v4)), (7, .v (.int .i64 v5)), (19, .v (.bool (decide ((byteAt p1 v5.toNat) = p2))))], [(0, .arr 1 (List.map enc_s v3))]⟩) (C := (0 ≤ v5 ∧ v5 < (p1.size : Int)) ∧ True) (by kernel_rfl) ⟨g2, trivial⟩ trivial ?_
      rcases bool_cases (decide ((byteAt p1 v5.toNat) = p2)) with b3 | b3
      · replace h := cd_t b3 h
        refine AX.condT (decide ((byteAt p1 v5.toNat) = p2)) (by kernel_rfl) b3 ?_
        refine AX.seq ?_
        obtain ⟨g4, h⟩ := gd_e h
        obtain ⟨g5, h⟩ := gd_e h
        refine AX.reg (its := [.auto {}, .auto {}, .auto {}, .auto {}, .auto {}, .auto { nk := 1 }, .auto { y := some (.sl 2 0 ((v3 ++ ([p1.extract v4.toNat v5.toNat] : List (ByteArray))).length)), els := some (List.map enc_s v3), els2 := some (List.map enc_s ([p1.extract v4.toNat v5.toNat] : List (ByteArray))), nk := 2 }]) [0, 1, 5, 7] [2] (s1 := ⟨[(0, .v (.string p1)), (1, .v (.int .u8 p2)), (5, .sl 2 0 ((v3 ++ ([p1.extract v4.toNat v5.toNat] : List (ByteArray))).length)), (7, .v (.int .i64 v5))], [(2, .arr 1 (List.map enc_s v3 ++ List.map enc_s ([p1.extract v4.toNat v5.toNat] : List (ByteArray))))]⟩) (C := (0 ≤ v4 ∧ v4 ≤ v5 ∧ v5 ≤ (p1.size : Int)) ∧ ((((((List.map enc_s v3).drop 0).take (v3.length) = List.map enc_s v3) ∧ (((List.map enc_s ([p1.extract v4.toNat v5.toNat] : List (ByteArray))).drop 0).take (([p1.extract v4.toNat v5.toNat] : List (ByteArray)).length) = List.map enc_s ([p1.extract v4.toNat v5.toNat] : List (ByteArray)))) ∧ (List.map enc_s v3).length + (List.map enc_s ([p1.extract v4.toNat v5.toNat] : List (ByteArray))).length ≤ 1099511627776) ∧ (AV.sl 2 0 (List.map enc_s v3 ++ List.map enc_s ([p1.extract v4.toNat v5.toNat] : List (ByteArray))).length = AV.sl 2 0 (v3 ++ ([p1.extract v4.toNat v5.toNat] : List (ByteArray))).length)) ∧ True) (by kernel_rfl) ⟨g4, ⟨⟨⟨⟨(dt_all (enc := enc_s) rfl rfl), (dt_all (enc := enc_s) rfl rfl)⟩, (by simp only [List.length_map, List.length_nil, List.length_replicate]; simpa using g5)⟩, sl_len (enc := enc_s) (app_can (enc := enc_s) rfl (rfl))⟩, trivial⟩⟩ trivial ?_
        refine AX.reg (its := [.auto {}, .auto { raw := true }]) [0, 1, 5, 6, 7] [2] (s1 := ⟨[(0, .v (.string p1)), (1, .v (.int .u8 p2)), (5, .sl 2 0 ((v3 ++ ([p1.extract v4.toNat v5.toNat] : List (ByteArray))).length)), (6, .v (.int .i64 (IntKind.wrap .i64 (v5 + 1)))), (7, .v (.int .i64 v5))], [(2, .arr 1 (List.map enc_s v3 ++ List.map enc_s ([p1.extract v4.toNat v5.toNat] : List (ByteArray))))]⟩) (C := True) (by kernel_rfl) trivial trivial ?_
        refine AX.reg (its := [.auto {}, .auto { raw := true }]) [0, 1, 5, 6, 7] [2] (s1 := ⟨[(0, .v (.string p1)), (1, .v (.int .u8 p2)), (5, .sl 2 0 ((v3 ++ ([p1.extract v4.toNat v5.toNat] : List (ByteArray))).length)), (6, .v (.int .i64 (IntKind.wrap .i64 (v5 + 1)))), (7, .v (.int .i64 (IntKind.wrap .i64 (v5 + 1))))], [(2, .arr 1 (List.map enc_s v3 ++ List.map enc_s ([p1.extract v4.toNat v5.toNat] : List (ByteArray))))]⟩) (C := True) (by kernel_rfl) trivial trivial ?_
        refine ⟨(fu, (v3 ++ ([p1.extract v4.toNat v5.toNat] : List (ByteArray)), IntKind.wrap .i64 (v5 + 1), IntKind.wrap .i64 (v5 + 1))), h, Nat.lt_succ_self _, ?_⟩
        refine Wk.trans (Wk.swap 0 2 (Nat.le_of_ble_eq_true (by kernel_rfl)) (Nat.le_of_ble_eq_true (by kernel_rfl)) rfl) ?_
        refine Wk.trans (Wk.forget [0, 1, 5, 6, 7] [0] (s' := ⟨[(0, .v (.string p1)), (1, .v (.int .u8 p2)), (5, .sl 0 0 ((v3 ++ ([p1.extract v4.toNat v5.toNat] : List (ByteArray))).length)), (6, .v (.int .i64 (IntKind.wrap .i64 (v5 + 1)))), (7, .v (.int .i64 (IntKind.wrap .i64 (v5 + 1))))], [(0, .arr 1 (List.map enc_s v3 ++ List.map enc_s ([p1.extract v4.toNat v5.toNat] : List (ByteArray))))]⟩) (by kernel_rfl)) ?_
        refine Wk.trans (Wk.of_eq (congrArg (fun z => (⟨[(0, .v (.string p1)), (1, .v (.int .u8 p2)), (5, .sl 0 0 ((v3 ++ ([p1.extract v4.toNat v5.toNat] : List (ByteArray))).length)), (6, .v (.int .i64 (IntKind.wrap .i64 (v5 + 1)))), (7, .v (.int .i64 (IntKind.wrap .i64 (v5 + 1))))], [(0, .arr 1 (z))]⟩ : S)) (app_can (enc := enc_s) rfl (rfl) : List.map enc_s v3 ++ List.map enc_s ([p1.extract v4.toNat v5.toNat] : List (ByteArray)) = List.map enc_s (v3 ++ ([p1.extract v4.toNat v5.toNat] : List (ByteArray)))))) ?_
        exact Wk.refl _
      · replace h := cd_f b3 h
        refine AX.condF (decide ((byteAt p1 v5.toNat) = p2)) (by kernel_rfl) b3 ?_
        refine AX.skip ?_
        refine AX.reg (its := [.auto {}, .auto { raw := true }]) [0, 1, 5, 6, 7] [0] (s1 := ⟨[(0, .v (.string p1)), (1, .v (.int .u8 p2)), (5, .sl 0 0 v3.length), (6, .v (.int .i64 v4)), (7, .v (.int .i64 (IntKind.wrap .i64 (v5 + 1))))], [(0, .arr 1 (List.map enc_s v3))]⟩) (C := True) (by kernel_rfl) trivial trivial ?_
        refine ⟨(fu, (v3, v4, IntKind.wrap .i64 (v5 + 1))), h, Nat.lt_succ_self _, ?_⟩
        refine Wk.trans (Wk.forget [0, 1, 5, 6, 7] [0] (s' := ⟨[(0, .v (.string p1)), (1, .v (.int .u8 p2)), (5, .sl 0 0 v3.length), (6, .v (.int .i64 v4)), (7, .v (.int .i64 (IntKind.wrap .i64 (v5 + 1))))], [(0, .arr 1 (List.map enc_s v3))]⟩) (by kernel_rfl)) ?_
        exact Wk.refl _
    · replace h := cd_f b1 h
      refine AX.condF (decide (v5 < (p1.size : Int))) (by kernel_rfl) b1 ?_
      refine AX.exit ?_
      refine fin_wk (Wk.forget [0, 5, 6] [0] (s' := ⟨[(0, .v (.string p1)), (5, .sl 0 0 v3.length), (6, .v (.int .i64 v4))], [(0, .arr 1 (List.map enc_s v3))]⟩) (by kernel_rfl)) ?_
      have hr := Option.some.inj h
      subst hr
      exact ⟨_, Wk.refl _, ⟨rfl, rfl⟩⟩

theorem s_spec_splitAt (p1 : ByteArray) (p2 : Int) (r : List (ByteArray)) (h : m_spec_splitAt p1 p2 = some r) :
    Eng.Spec Tryd.prog 80 [.v (.string p1), .v (.int .u8 p2)] [] (.sl 0 0 r.length) [.arr 1 (List.map enc_s r)] := by
  unfold m_spec_splitAt at h
  refine Eng.Spec.body Tryd.func80 (by kernel_rfl) rfl (by kernel_rfl) ?_
  refine AX.wkpost ?_
  refine AX.seq ?_
  refine AX.reg (its := []) [0, 1] [] (s1 := ⟨[(0, .v (.string p1)), (1, .v (.int .u8 p2))], []⟩) (C := True) (by kernel_rfl) trivial trivial ?_
  refine AX.seq ?_
  refine AX.reg (its := [.auto { nk := 0 }]) [0, 1, 5] [0] (s1 := ⟨[(0, .v (.string p1)), (1, .v (.int .u8 p2)), (5, .sl 0 0 (([] : List (ByteArray)).length))], [(0, .arr 1 (List.map enc_s ([] : List (ByteArray))))]⟩) (C := True) (by kernel_rfl) trivial trivial ?_
  refine AX.seq ?_
  refine AX.reg (its := []) [0, 1, 5, 6] [0] (s1 := ⟨[(0, .v (.string p1)), (1, .v (.int .u8 p2)), (5, .sl 0 0 (([] : List (ByteArray)).length)), (6, .v (.int .i64 0))], [(0, .arr 1 (List.map enc_s ([] : List (ByteArray))))]⟩) (C := True) (by kernel_rfl) trivial trivial ?_
  refine AX.seq ?_
  refine AX.seq ?_
  refine AX.reg (its := []) [0, 1, 5, 6, 7] [0] (s1 := ⟨[(0, .v (.string p1)), (1, .v (.int .u8 p2)), (5, .sl 0 0 (([] : List (ByteArray)).length)), (6, .v (.int .i64 0)), (7, .v (.int .i64 0))], [(0, .arr 1 (List.map enc_s ([] : List (ByteArray))))]⟩) (C := True) (by kernel_rfl) trivial trivial ?_
  refine AX.block ?_
  obtain ⟨x6, e6, h⟩ := bd_e h
  refine AX.wk (Wk.forget [0, 1, 5, 6, 7] [0] (s' := ⟨[(0, .v (.string p1)), (1, .v (.int .u8 p2)), (5, .sl 0 0 (([] : List (ByteArray)).length)), (6, .v (.int .i64 0)), (7, .v (.int .i64 0))], [(0, .arr 1 (List.map enc_s ([] : List (ByteArray))))]⟩) (by kernel_rfl)) ?_
  refine AX.mono (s_spec_splitAt_L1 p1 p2 FU (([] : List (ByteArray)), 0, 0) x6 e6) ?_
  rintro _ _ ⟨rfl, rfl⟩
  skip
  refine AX.seq ?_
  obtain ⟨g7, h⟩ := gd_e h
  obtain ⟨g8, h⟩ := gd_e h
  refine AX.reg (its := [.auto {}, .auto {}, .auto {}, .auto {}, .auto { nk := 1 }, .auto { y := some (.sl 2 0 ((x6.1 ++ ([p1.extract x6.2.toNat (p1.size : Int).toNat] : List (ByteArray))).length)), els := some (List.map enc_s x6.1), els2 := some (List.map enc_s ([p1.extract x6.2.toNat (p1.size : Int).toNat] : List (ByteArray))), nk := 2 }]) [4] [2] (s1 := ⟨[(4, .sl 2 0 ((x6.1 ++ ([p1.extract x6.2.toNat (p1.size : Int).toNat] : List (ByteArray))).length))], [(2, .arr 1 (List.map enc_s x6.1 ++ List.map enc_s ([p1.extract x6.2.toNat (p1.size : Int).toNat] : List (ByteArray))))]⟩) (C := (0 ≤ x6.2 ∧ x6.2 ≤ (p1.size : Int) ∧ (p1.size : Int) ≤ (p1.size : Int)) ∧ ((((((List.map enc_s x6.1).drop 0).take (x6.1.length) = List.map enc_s x6.1) ∧ (((List.map enc_s ([p1.extract x6.2.toNat (p1.size : Int).toNat] : List (ByteArray))).drop 0).take (([p1.extract x6.2.toNat (p1.size : Int).toNat] : List (ByteArray)).length) = List.map enc_s ([p1.extract x6.2.toNat (p1.size : Int).toNat] : List (ByteArray)))) ∧ (List.map enc_s x6.1).length + (List.map enc_s ([p1.extract x6.2.toNat (p1.size : Int).toNat] : List (ByteArray))).length ≤ 1099511627776) ∧ (AV.sl 2 0 (List.map enc_s x6.1 ++ List.map enc_s ([p1.extract x6.2.toNat (p1.size : Int).toNat] : List (ByteArray))).length = AV.sl 2 0 (x6.1 ++ ([p1.extract x6.2.toNat (p1.size : Int).toNat] : List (ByteArray))).length)) ∧ True) (by kernel_rfl) ⟨g7, ⟨⟨⟨⟨(dt_all (enc := enc_s) rfl rfl), (dt_all (enc := enc_s) rfl rfl)⟩, (by simp only [List.length_map, List.length_nil, List.length_replicate]; simpa using g8)⟩, sl_len (enc := enc_s) (app_can (enc := enc_s) rfl (rfl))⟩, trivial⟩⟩ trivial ?_
  refine AX.ret ?_
  refine fin_wk (Wk.swap 0 2 (Nat.le_of_ble_eq_true (by kernel_rfl)) (Nat.le_of_ble_eq_true (by kernel_rfl)) rfl) ?_
  refine fin_wk (Wk.forget [4] [0] (s' := ⟨[(4, .sl 0 0 ((x6.1 ++ ([p1.extract x6.2.toNat (p1.size : Int).toNat] : List (ByteArray))).length))], [(0, .arr 1 (List.map enc_s x6.1 ++ List.map enc_s ([p1.extract x6.2.toNat (p1.size : Int).toNat] : List (ByteArray))))]⟩) (by kernel_rfl)) ?_
  refine fin_wk (Wk.of_eq (congrArg (fun z => (⟨[(4, .sl 0 0 ((x6.1 ++ ([p1.extract x6.2.toNat (p1.size : Int).toNat] : List (ByteArray))).length))], [(0, .arr 1 (z))]⟩ : S)) (app_can (enc := enc_s) rfl (rfl) : List.map enc_s x6.1 ++ List.map enc_s ([p1.extract x6.2.toNat (p1.size : Int).toNat] : List (ByteArray)) = List.map enc_s (x6.1 ++ ([p1.extract x6.2.toNat (p1.size : Int).toNat] : List (ByteArray)))))) ?_
  have hr := Option.some.inj h
  subst hr
  exact ⟨_, Wk.refl _, .inr rfl, ⟨[0], by kernel_rfl, ⟨rfl, trivial⟩, [.sl 0 0 ((x6.1 ++ ([p1.extract x6.2.toNat (p1.size : Int).toNat] : List (ByteArray))).length)], by kernel_rfl, by kernel_rfl⟩⟩

theorem s_spec_both_L1 (p1 : Int) (p2 : Int) (n : Nat) (g : Int × Int) (out : Int) (h : m_spec_both_L1 p1 p2 n g.1 g.2 = some out) :
    AX Tryd.prog 27 0 (codeAt [1, 1, 0, 1, 1] (bodyOf Tryd.f120)) ((fun g : Int × Int => (⟨[(0, .v (.int .i64 p1)), (1, .v (.int .i64 p2)), (5, .v (.int .i64 g.1)), (6, .v (.int .i64 g.2))], []⟩ : S)) g) (fun ex s => ex = .exit 0 ∧ s = (fun o : Int => (⟨[(5, .v (.int .i64 o))], []⟩ : S)) out) := by
  refine AX.wkpost ?_
  refine AX.loop (G := Nat × (Int × Int)) (fun q => (fun g : Int × Int => (⟨[(0, .v (.int .i64 p1)), (1, .v (.int .i64 p2)), (5, .v (.int .i64 g.1)), (6, .v (.int .i64 g.2))], []⟩ : S)) q.2) (fun q => m_spec_both_L1 p1 p2 q.1 q.2.1 q.2.2 = some out) (fun q => q.1) (n, g) h (Wk.refl _) ?_
  clear h
  rintro ⟨fu, v3, v4⟩ h
  cases fu with
  | zero => cases h
  | succ fu =>
    rw [m_spec_both_L1] at h
    refine AX.seq ?_
    refine AX.seq ?_
    refine AX.reg (its := []) [0, 1, 5, 6, 8] [] (s1 := ⟨[(0, .v (.int .i64 p1)), (1, .v (.int .i64 p2)), (5, .v (.int .i64 v3)), (6, .v (.int .i64 v4)), (8, .v (.bool (decide (v4 ≤ 4095))))], []⟩) (C := True) (by kernel_rfl) trivial trivial ?_
    rcases bool_cases (decide (v4 ≤ 4095)) with b1 | b1
    · replace h := cd_t b1 h
      refine AX.condT (decide (v4 ≤ 4095)) (by kernel_rfl) b1 ?_
      refine AX.skip ?_
      refine AX.seq ?_
      refine AX.block ?_
      refine AX.seq ?_
      obtain ⟨g2, h⟩ := gd_e h
      obtain ⟨g3, h⟩ := gd_e h
      rcases bool_cases (decide ((Int.tmod (Int.tdiv p1 v4) 2) = 1)) with b4 | b4
      · replace h := cd_t b4 h
        obtain ⟨g5, h⟩ := gd_e h
        refine AX.reg (its := [.auto {}, .auto {}, .auto {}, .auto {}, .auto { y := some (.v (.bool true)) }]) [0, 1, 5, 6, 22] [] (s1 := ⟨[(0, .v (.int .i64 p1)), (1, .v (.int .i64 p2)), (5, .v (.int .i64 v3)), (6, .v (.int .i64 v4)), (22, .v (.bool (decide ((Int.tmod (Int.tdiv p2 v4) 2) = 1))))], []⟩) (C := (v4 ≠ 0 ∧ IntKind.wrap .i64 (Int.tdiv p1 v4) = Int.tdiv p1 v4) ∧ ((2 : Int) ≠ 0) ∧ ((True) ∧ ((.v (.bool (decide ((Int.tmod (Int.tdiv p1 v4) 2) = 1))) : AV) = (.v (.bool true) : AV))) ∧ (v4 ≠ 0 ∧ IntKind.wrap .i64 (Int.tdiv p2 v4) = Int.tdiv p2 v4) ∧ ((2 : Int) ≠ 0) ∧ True) (by kernel_rfl) ⟨g2, ⟨g3, ⟨⟨trivial, (congrArg (fun z => AV.v (.bool z)) b4)⟩, ⟨g5, ⟨g3, trivial⟩⟩⟩⟩⟩ trivial ?_
        rcases bool_cases (decide ((Int.tmod (Int.tdiv p2 v4) 2) = 1)) with b6 | b6
        · replace h := cd_t b6 h
          refine AX.condT (decide ((Int.tmod (Int.tdiv p2 v4) 2) = 1)) (by kernel_rfl) b6 ?_
          refine AX.reg (its := [.auto {}, .auto {}, .auto { raw := true }]) [0, 1, 5, 6] [] (s1 := ⟨[(0, .v (.int .i64 p1)), (1, .v (.int .i64 p2)), (5, .v (.int .i64 (IntKind.wrap .i64 (v3 + v4)))), (6, .v (.int .i64 v4))], []⟩) (C := True) (by kernel_rfl) trivial trivial ?_
          refine AX.reg (its := [.auto {}, .auto { raw := true }]) [0, 1, 5, 6] [] (s1 := ⟨[(0, .v (.int .i64 p1)), (1, .v (.int .i64 p2)), (5, .v (.int .i64 (IntKind.wrap .i64 (v3 + v4)))), (6, .v (.int .i64 (IntKind.wrap .i64 (v4 * 2))))], []⟩) (C := True) (by kernel_rfl) trivial trivial ?_
          refine ⟨(fu, (IntKind.wrap .i64 (v3 + v4), IntKind.wrap .i64 (v4 * 2))), h, Nat.lt_succ_self _, ?_⟩
          refine Wk.trans (Wk.forget [0, 1, 5, 6] [] (s' := ⟨[(0, .v (.int .i64 p1)), (1, .v (.int .i64 p2)), (5, .v (.int .i64 (IntKind.wrap .i64 (v3 + v4)))), (6, .v (.int .i64 (IntKind.wrap .i64 (v4 * 2))))], []⟩) (by kernel_rfl)) ?_
          exact Wk.refl _
        · replace h := cd_f b6 h
          refine AX.condF (decide ((Int.tmod (Int.tdiv p2 v4) 2) = 1)) (by kernel_rfl) b6 ?_
          refine AX.skip ?_
          refine AX.reg (its := [.auto {}, .auto { raw := true }]) [0, 1, 5, 6] [] (s1 := ⟨[(0, .v (.int .i64 p1)), (1, .v (.int .i64 p2)), (5, .v (.int .i64 v3)), (6, .v (.int .i64 (IntKind.wrap .i64 (v4 * 2))))], []⟩) (C := True) (by kernel_rfl) trivial trivial ?_
          refine ⟨(fu, (v3, IntKind.wrap .i64 (v4 * 2))), h, Nat.lt_succ_self _, ?_⟩
          refine Wk.trans (Wk.forget [0, 1, 5, 6] [] (s' := ⟨[(0, .v (.int .i64 p1)), (1, .v (.int .i64 p2)), (5, .v (.int .i64 v3)), (6, .v (.int .i64 (IntKind.wrap .i64 (v4 * 2))))], []⟩) (by kernel_rfl)) ?_
          exact Wk.refl _
      · replace h := cd_f b4 h
        refine AX.reg (its := [.auto {}, .auto {}, .auto {}, .auto {}, .auto { y := some (.v (.bool false)) }]) [0, 1, 5, 6, 22] [] (s1 := ⟨[(0, .v (.int .i64 p1)), (1, .v (.int .i64 p2)), (5, .v (.int .i64 v3)), (6, .v (.int .i64 v4)), (22, .v (.bool false))], []⟩) (C := (v4 ≠ 0 ∧ IntKind.wrap .i64 (Int.tdiv p1 v4) = Int.tdiv p1 v4) ∧ ((2 : Int) ≠ 0) ∧ ((True) ∧ ((.v (.bool (decide ((Int.tmod (Int.tdiv p1 v4) 2) = 1))) : AV) = (.v (.bool false) : AV))) ∧ True) (by kernel_rfl) ⟨g2, ⟨g3, ⟨⟨trivial, (congrArg (fun z => AV.v (.bool z)) b4)⟩, trivial⟩⟩⟩ trivial ?_
        refine AX.cond_false (by kernel_rfl) ?_
        refine AX.skip ?_
        refine AX.reg (its := [.auto {}, .auto { raw := true }]) [0, 1, 5, 6] [] (s1 := ⟨[(0, .v (.int .i64 p1)), (1, .v (.int .i64 p2)), (5, .v (.int .i64 v3)), (6, .v (.int .i64 (IntKind.wrap .i64 (v4 * 2))))], []⟩) (C := True) (by kernel_rfl) trivial trivial ?_
        refine ⟨(fu, (v3, IntKind.wrap .i64 (v4 * 2))), h, Nat.lt_succ_self _, ?_⟩
        refine Wk.trans (Wk.forget [0, 1, 5, 6] [] (s' := ⟨[(0, .v (.int .i64 p1)), (1, .v (.int .i64 p2)), (5, .v (.int .i64 v3)), (6, .v (.int .i64 (IntKind.wrap .i64 (v4 * 2))))], []⟩) (by kernel_rfl)) ?_
        exact Wk.refl _
    · replace h := cd_f b1 h
      refine AX.condF (decide (v4 ≤ 4095)) (by kernel_rfl) b1 ?_
      refine AX.exit ?_
      refine fin_wk (Wk.forget [5] [] (s' := ⟨[(5, .v (.int .i64 v3))], []⟩) (by kernel_rfl)) ?_
      have hr := Option.some.inj h
      subst hr
      exact ⟨_, Wk.refl _, ⟨rfl, rfl⟩⟩

theorem s_spec_both (p1 : Int) (p2 : Int) (r : Int) (h : m_spec_both p1 p2 = some r) :
    Eng.Spec Tryd.prog 120 [.v (.int .i64 p1), .v (.int .i64 p2)] [] (.v (.int .i64 r)) [] := by
  unfold m_spec_both at h
  refine Eng.Spec.body Tryd.func120 (by kernel_rfl) rfl (by kernel_rfl) ?_
  refine AX.wkpost ?_
  refine AX.seq ?_
  refine AX.reg (its := []) [0, 1] [] (s1 := ⟨[(0, .v (.int .i64 p1)), (1, .v (.int .i64 p2))], []⟩) (C := True) (by kernel_rfl) trivial trivial ?_
  refine AX.seq ?_
  refine AX.reg (its := []) [0, 1, 5] [] (s1 := ⟨[(0, .v (.int .i64 p1)), (1, .v (.int .i64 p2)), (5, .v (.int .i64 0))], []⟩) (C := True) (by kernel_rfl) trivial trivial ?_
  refine AX.seq ?_
  refine AX.seq ?_
  refine AX.reg (its := []) [0, 1, 5, 6] [] (s1 := ⟨[(0, .v (.int .i64 p1)), (1, .v (.int .i64 p2)), (5, .v (.int .i64 0)), (6, .v (.int .i64 1))], []⟩) (C := True) (by kernel_rfl) trivial trivial ?_
  refine AX.block ?_
  obtain ⟨x5, e7, h⟩ := bd_e h
  refine AX.wk (Wk.forget [0, 1, 5, 6] [] (s' := ⟨[(0, .v (.int .i64 p1)), (1, .v (.int .i64 p2)), (5, .v (.int .i64 0)), (6, .v (.int .i64 1))], []⟩) (by kernel_rfl)) ?_
  refine AX.mono (s_spec_both_L1 p1 p2 FU (0, 1) x5 e7) ?_
  rintro _ _ ⟨rfl, rfl⟩
  skip
  refine AX.seq ?_
  refine AX.reg (its := []) [4] [] (s1 := ⟨[(4, .v (.int .i64 x5))], []⟩) (C := True) (by kernel_rfl) trivial trivial ?_
  refine AX.ret ?_
  refine fin_wk (Wk.forget [4] [] (s' := ⟨[(4, .v (.int .i64 x5))], []⟩) (by kernel_rfl)) ?_
  have hr := Option.some.inj h
  subst hr
  exact ⟨_, Wk.refl _, .inr rfl, ⟨[], by kernel_rfl, trivial, [.v (.int .i64 x5)], by kernel_rfl, by kernel_rfl⟩⟩

theorem s_spec_either (p1 : Int) (p2 : Int) (r : Int) (h : m_spec_either p1 p2 = some r) :
    Eng.Spec Tryd.prog 82 [.v (.int .i64 p1), .v (.int .i64 p2)] [] (.v (.int .i64 r)) [] := by
  unfold m_spec_either at h
  refine Eng.Spec.body Tryd.func82 (by kernel_rfl) rfl (by kernel_rfl) ?_
  refine AX.wkpost ?_
  refine AX.seq ?_
  refine AX.reg (its := []) [0, 1] [] (s1 := ⟨[(0, .v (.int .i64 p1)), (1, .v (.int .i64 p2))], []⟩) (C := True) (by kernel_rfl) trivial trivial ?_
  refine AX.seq ?_
  obtain ⟨x3, e1, h⟩ := bd_e h
  refine AX.reg (its := [.auto {}, .auto {}, .auto { raw := true }, .auto {}, .auto {}, .call 120 [.v (.int .i64 p1), .v (.int .i64 p2)] (handO (rho ([] ++ [])) [] [] ++ []) (callEv [] [] (.v (.int .i64 x3)) []), .auto { raw := true }]) [4] [] (s1 := ⟨[(4, .v (.int .i64 (IntKind.wrap .i64 ((IntKind.wrap .i64 (p1 + p2)) - x3))))], []⟩) (C := ((([.v (.int .i64 p1), .v (.int .i64 p2)] : List AV) = [.v (.int .i64 p1), .v (.int .i64 p2)]) ∧ True) ∧ True) (by kernel_rfl) ⟨⟨rfl, trivial⟩, trivial⟩ ⟨call_ok (ks := []) (ns := []) (bor := []) (bobjs := []) (s_spec_both p1 p2 x3 e1) (.cons (.c1 (.c0 (.same _ (by kernel_rfl) (by kernel_rfl)))) (.cons (.c1 (.c0 (.same _ (by kernel_rfl) (by kernel_rfl)))) (.nil))) (by kernel_rfl) trivial, trivial⟩ ?_
  refine AX.ret ?_
  refine fin_wk (Wk.forget [4] [] (s' := ⟨[(4, .v (.int .i64 (IntKind.wrap .i64 ((IntKind.wrap .i64 (p1 + p2)) - x3))))], []⟩) (by kernel_rfl)) ?_
  have hr := Option.some.inj h
  subst hr
  exact ⟨_, Wk.refl _, .inr rfl, ⟨[], by kernel_rfl, trivial, [.v (.int .i64 (IntKind.wrap .i64 ((IntKind.wrap .i64 (p1 + p2)) - x3)))], by kernel_rfl, by kernel_rfl⟩⟩

theorem s_spec_mask_L1 (p1 : List (ByteArray × Int)) (n : Nat) (g : Int × Int) (out : Int) (h : m_spec_mask_L1 p1 n g.1 g.2 = some out) :
    AX Tryd.prog 19 0 (codeAt [1, 1, 0, 1, 1] (bodyOf Tryd.f73)) ((fun g : Int × Int => (⟨[(0, .bs false 2 (List.map enc_si p1)), (3, .v (.int .i64 g.1)), (4, .v (.int .i64 g.2))], []⟩ : S)) g) (fun ex s => ex = .exit 0 ∧ s = (fun o : Int => (⟨[(3, .v (.int .i64 o))], []⟩ : S)) out) := by
  refine AX.wkpost ?_
  refine AX.loop (G := Nat × (Int × Int)) (fun q => (fun g : Int × Int => (⟨[(0, .bs false 2 (List.map enc_si p1)), (3, .v (.int .i64 g.1)), (4, .v (.int .i64 g.2))], []⟩ : S)) q.2) (fun q => m_spec_mask_L1 p1 q.1 q.2.1 q.2.2 = some out) (fun q => q.1) (n, g) h (Wk.refl _) ?_
  clear h
  rintro ⟨fu, v2, v3⟩ h
  cases fu with
  | zero => cases h
  | succ fu =>
    rw [m_spec_mask_L1] at h
    refine AX.seq ?_
    refine AX.seq ?_
    refine AX.reg (its := [.auto {}, .auto {}, .auto { y := some (.v (.int .i64 (p1.length : Int))) }]) [0, 3, 4, 8] [] (s1 := ⟨[(0, .bs false 2 (List.map enc_si p1)), (3, .v (.int .i64 v2)), (4, .v (.int .i64 v3)), (8, .v (.bool (decide (v3 < (p1.length : Int)))))], []⟩) (C := (True ∧ (AV.v (.int .i64 ((List.map enc_si p1).length : Int)) = AV.v (.int .i64 (p1.length : Int)))) ∧ True) (by kernel_rfl) ⟨⟨trivial, len_map enc_si p1⟩, trivial⟩ trivial ?_
    rcases bool_cases (decide (v3 < (p1.length : Int))) with b1 | b1
    · replace h := cd_t b1 h
      refine AX.condT (decide (v3 < (p1.length : Int))) (by kernel_rfl) b1 ?_
      refine AX.skip ?_
      refine AX.seq ?_
      refine AX.block ?_
      obtain ⟨g2, h⟩ := gd_e h
      obtain ⟨x4, e3, h⟩ := bd_e h
      refine AX.reg (its := [.auto {}, .auto {}, .auto {}, .auto { y := some (.be 2 (enc_si (gt p1 v3)) 0) }, .auto {}, .auto {}, .call 82 [.v (.int .i64 v2), .v (.int .i64 ((gt p1 v3).2))] (handO (rho ([] ++ [])) [] [] ++ []) (callEv [] [] (.v (.int .i64 x4)) [])]) [0, 3, 4] [] (s1 := ⟨[(0, .bs false 2 (List.map enc_si p1)), (3, .v (.int .i64 x4)), (4, .v (.int .i64 v3))], []⟩) (C := ((0 ≤ v3 ∧ v3 < ((List.map enc_si p1).length : Int)) ∧ (AV.be 2 ((List.map enc_si p1).getD v3.toNat []) 0 = AV.be 2 (enc_si (gt p1 v3)) 0)) ∧ ((([.v (.int .i64 v2), .v (.int .i64 ((gt p1 v3).2))] : List AV) = [.v (.int .i64 v2), .v (.int .i64 ((gt p1 v3).2))]) ∧ True) ∧ True) (by kernel_rfl) ⟨idx_bs enc_si p1 v3 2 g2, ⟨⟨rfl, trivial⟩, trivial⟩⟩ ⟨call_ok (ks := []) (ns := []) (bor := []) (bobjs := []) (s_spec_either v2 ((gt p1 v3).2) x4 e3) (.cons (.c1 (.c0 (.same _ (by kernel_rfl) (by kernel_rfl)))) (.cons (.c1 (.c0 (.same _ (by kernel_rfl) (by kernel_rfl)))) (.nil))) (by kernel_rfl) trivial, trivial⟩ ?_
      refine AX.reg (its := [.auto {}, .auto { raw := true }]) [0, 3, 4] [] (s1 := ⟨[(0, .bs false 2 (List.map enc_si p1)), (3, .v (.int .i64 x4)), (4, .v (.int .i64 (IntKind.wrap .i64 (v3 + 1))))], []⟩) (C := True) (by kernel_rfl) trivial trivial ?_
      refine ⟨(fu, (x4, IntKind.wrap .i64 (v3 + 1))), h, Nat.lt_succ_self _, ?_⟩
      refine Wk.trans (Wk.forget [0, 3, 4] [] (s' := ⟨[(0, .bs false 2 (List.map enc_si p1)), (3, .v (.int .i64 x4)), (4, .v (.int .i64 (IntKind.wrap .i64 (v3 + 1))))], []⟩) (by kernel_rfl)) ?_
      exact Wk.refl _
    · replace h := cd_f b1 h
      refine AX.condF (decide (v3 < (p1.length : Int))) (by kernel_rfl) b1 ?_
      refine AX.exit ?_
      refine fin_wk (Wk.forget [3] [] (s' := ⟨[(3, .v (.int .i64 v2))], []⟩) (by kernel_rfl)) ?_
      have hr := Option.some.inj h
      subst hr
      exact ⟨_, Wk.refl _, ⟨rfl, rfl⟩⟩

theorem s_spec_mask (p1 : List (ByteArray × Int)) (r : Int) (h : m_spec_mask p1 = some r) :
    Eng.Spec Tryd.prog 73 [.bs false 2 (List.map enc_si p1)] [] (.v (.int .i64 r)) [] := by
  unfold m_spec_mask at h
  refine Eng.Spec.body Tryd.func73 (by kernel_rfl) rfl (by kernel_rfl) ?_
  refine AX.wkpost ?_
  refine AX.seq ?_
  refine AX.reg (its := []) [0] [] (s1 := ⟨[(0, .bs false 2 (List.map enc_si p1))], []⟩) (C := True) (by kernel_rfl) trivial trivial ?_
  refine AX.seq ?_
  refine AX.reg (its := []) [0, 3] [] (s1 := ⟨[(0, .bs false 2 (List.map enc_si p1)), (3, .v (.int .i64 0))], []⟩) (C := True) (by kernel_rfl) trivial trivial ?_
  refine AX.seq ?_
  refine AX.seq ?_
  refine AX.reg (its := []) [0, 3, 4] [] (s1 := ⟨[(0, .bs false 2 (List.map enc_si p1)), (3, .v (.int .i64 0)), (4, .v (.int .i64 0))], []⟩) (C := True) (by kernel_rfl) trivial trivial ?_
  refine AX.block ?_
  obtain ⟨x5, e4, h⟩ := bd_e h
  refine AX.wk (Wk.forget [0, 3, 4] [] (s' := ⟨[(0, .bs false 2 (List.map enc_si p1)), (3, .v (.int .i64 0)), (4, .v (.int .i64 0))], []⟩) (by kernel_rfl)) ?_
  refine AX.mono (s_spec_mask_L1 p1 FU (0, 0) x5 e4) ?_
  rintro _ _ ⟨rfl, rfl⟩
  skip
  refine AX.seq ?_
  refine AX.reg (its := []) [2] [] (s1 := ⟨[(2, .v (.int .i64 x5))], []⟩) (C := True) (by kernel_rfl) trivial trivial ?_
  refine AX.ret ?_
  refine fin_wk (Wk.forget [2] [] (s' := ⟨[(2, .v (.int .i64 x5))], []⟩) (by kernel_rfl)) ?_
  have hr := Option.some.inj h
  subst hr
  exact ⟨_, Wk.refl _, .inr rfl, ⟨[], by kernel_rfl, trivial, [.v (.int .i64 x5)], by kernel_rfl, by kernel_rfl⟩⟩

theorem s_spec_less (p1 : Int) (p2 : Int) (r : Int) (h : m_spec_less p1 p2 = some r) :
    Eng.Spec Tryd.prog 72 [.v (.int .i64 p1), .v (.int .i64 p2)] [] (.v (.int .i64 r)) [] := by
  unfold m_spec_less at h
  refine Eng.Spec.body Tryd.func72 (by kernel_rfl) rfl (by kernel_rfl) ?_
  refine AX.wkpost ?_
  refine AX.seq ?_
  refine AX.reg (its := []) [0, 1] [] (s1 := ⟨[(0, .v (.int .i64 p1)), (1, .v (.int .i64 p2))], []⟩) (C := True) (by kernel_rfl) trivial trivial ?_
  refine AX.seq ?_
  obtain ⟨x3, e1, h⟩ := bd_e h
  refine AX.reg (its := [.auto {}, .auto {}, .auto {}, .call 120 [.v (.int .i64 p1), .v (.int .i64 p2)] (handO (rho ([] ++ [])) [] [] ++ []) (callEv [] [] (.v (.int .i64 x3)) []), .auto { raw := true }]) [4] [] (s1 := ⟨[(4, .v (.int .i64 (IntKind.wrap .i64 (p1 - x3))))], []⟩) (C := ((([.v (.int .i64 p1), .v (.int .i64 p2)] : List AV) = [.v (.int .i64 p1), .v (.int .i64 p2)]) ∧ True) ∧ True) (by kernel_rfl) ⟨⟨rfl, trivial⟩, trivial⟩ ⟨call_ok (ks := []) (ns := []) (bor := []) (bobjs := []) (s_spec_both p1 p2 x3 e1) (.cons (.c1 (.c0 (.same _ (by kernel_rfl) (by kernel_rfl)))) (.cons (.c1 (.c0 (.same _ (by kernel_rfl) (by kernel_rfl)))) (.nil))) (by kernel_rfl) trivial, trivial⟩ ?_
  refine AX.ret ?_
  refine fin_wk (Wk.forget [4] [] (s' := ⟨[(4, .v (.int .i64 (IntKind.wrap .i64 (p1 - x3))))], []⟩) (by kernel_rfl)) ?_
  have hr := Option.some.inj h
  subst hr
  exact ⟨_, Wk.refl _, .inr rfl, ⟨[], by kernel_rfl, trivial, [.v (.int .i64 (IntKind.wrap .i64 (p1 - x3)))], by kernel_rfl, by kernel_rfl⟩⟩

theorem s_spec_validArm (p1 : List (ByteArray × Int)) (p2 : Int) (p3 : Int) (p4 : Int) (r : Bool) (h : m_spec_validArm p1 p2 p3 p4 = some r) :
    Eng.Spec Tryd.prog 102 [.agg [.bs false 2 (List.map enc_si p1), .v (.int .i64 p2)], .agg [.v (.int .i64 p3), .v (.int .i64 p4)]] [] (.v (.bool r)) [] := by
  unfold m_spec_validArm at h
  refine Eng.Spec.body Tryd.func102 (by kernel_rfl) rfl (by kernel_rfl) ?_
  refine AX.wkpost ?_
  refine AX.seq ?_
  refine AX.reg (its := [.auto { nk := 0 }, .auto { nk := 1 }]) [2, 3] [0, 1] (s1 := ⟨[(2, .pt 0 0), (3, .pt 1 0)], [(0, .box [.bs false 2 (List.map enc_si p1), .v (.int .i64 p2)]), (1, .box [.v (.int .i64 p3), .v (.int .i64 p4)])]⟩) (C := True) (by kernel_rfl) trivial trivial ?_
  refine AX.seq ?_
  obtain ⟨x5, e1, h⟩ := bd_e h
  refine AX.reg (its := [.auto {}, .auto {}, .call 73 [.bs false 2 (List.map enc_si p1)] (handO (rho ([] ++ [])) [] [] ++ []) (callEv [] [] (.v (.int .i64 x5)) [])]) [2, 3, 5] [0, 1] (s1 := ⟨[(2, .pt 0 0), (3, .pt 1 0), (5, .v (.int .i64 x5))], [(0, .box [.bs false 2 (List.map enc_si p1), .v (.int .i64 p2)]), (1, .box [.v (.int .i64 p3), .v (.int .i64 p4)])]⟩) (C := ((([.bs false 2 (List.map enc_si p1)] : List AV) = [.bs false 2 (List.map enc_si p1)]) ∧ True) ∧ True) (by kernel_rfl) ⟨⟨rfl, trivial⟩, trivial⟩ ⟨call_ok (ks := []) (ns := []) (bor := []) (bobjs := []) (s_spec_mask p1 x5 e1) (.cons (.c1 (.c0 (.same _ (by kernel_rfl) (by kernel_rfl)))) (.nil)) (by kernel_rfl) trivial, trivial⟩ ?_
  refine AX.seq ?_
  obtain ⟨x6, e2, h⟩ := bd_e h
  rcases bool_cases (x6) with b3 | b3
  · replace h := cd_t b3 h
    obtain ⟨x7, e4, h⟩ := bd_e h
    rcases bool_cases (x7) with b5 | b5
    · replace h := cd_t b5 h
      obtain ⟨x8, e6, h⟩ := bd_e h
      rcases bool_cases (x8) with b7 | b7
      · replace h := cd_t b7 h
        obtain ⟨x9, e8, h⟩ := bd_e h
        rcases bool_cases (decide (x9 = 0)) with b9 | b9
        · replace h := cd_t b9 h
          obtain ⟨x10, e10, h⟩ := bd_e h
          rcases bool_cases (decide (x10 = 0)) with b11 | b11
          · replace h := cd_t b11 h
            obtain ⟨x11, e12, h⟩ := bd_e h
            refine AX.reg (its := (.auto {} :: .call 35 [.agg [.bs false 2 (List.map enc_si p1), .v (.int .i64 p2)]] (handO (rho ([] ++ [])) [] [] ++ []) (callEv [] [] (.v (.bool true)) []) :: .auto {} :: .auto {} :: .auto {} :: .call 59 [.v (.int .i64 p3), .v (.int .i64 0), .v (.int .i64 4095)] (handO (rho ([] ++ [])) [] [] ++ []) (callEv [] [] (.v (.bool true)) []) :: .auto {} :: .auto {} :: .auto {} :: .auto {} :: .call 59 [.v (.int .i64 p4), .v (.int .i64 0), .v (.int .i64 4095)] (handO (rho ([] ++ [])) [] [] ++ []) (callEv [] [] (.v (.bool true)) []) :: .auto {} :: .auto {} :: .auto {} :: .auto {} :: .auto {} :: .call 72 [.v (.int .i64 p3), .v (.int .i64 x5)] (handO (rho ([] ++ [])) [] [] ++ []) (callEv [] [] (.v (.int .i64 x9)) []) :: .auto { y := some (.v (.bool true)) } :: .auto {} :: .auto {} :: .auto {} :: .auto {} :: .auto {} :: .call 72 [.v (.int .i64 p4), .v (.int .i64 x5)] (handO (rho ([] ++ [])) [] [] ++ []) (callEv [] [] (.v (.int .i64 x10)) []) :: .auto { y := some (.v (.bool true)) } :: .auto {} :: .auto {} :: .auto {} :: .auto {} :: .auto {} :: .auto {} :: .call 120 [.v (.int .i64 p3), .v (.int .i64 p4)] (handO (rho ([] ++ [])) [] [] ++ []) (callEv [] [] (.v (.int .i64 x11)) []) :: [])) [4] [] (s1 := ⟨[(4, .v (.bool (decide (x11 = 0))))], []⟩) (C := ((([.agg [.bs false 2 (List.map enc_si p1), .v (.int .i64 p2)]] : List AV) = [.agg [.bs false 2 (List.map enc_si p1), .v (.int .i64 p2)]]) ∧ True) ∧ ((([.v (.int .i64 p3), .v (.int .i64 0), .v (.int .i64 4095)] : List AV) = [.v (.int .i64 p3), .v (.int .i64 0), .v (.int .i64 4095)]) ∧ True) ∧ ((([.v (.int .i64 p4), .v (.int .i64 0), .v (.int .i64 4095)] : List AV) = [.v (.int .i64 p4), .v (.int .i64 0), .v (.int .i64 4095)]) ∧ True) ∧ ((([.v (.int .i64 p3), .v (.int .i64 x5)] : List AV) = [.v (.int .i64 p3), .v (.int .i64 x5)]) ∧ True) ∧ ((True) ∧ ((.v (.bool (decide (x9 = 0))) : AV) = (.v (.bool true) : AV))) ∧ ((([.v (.int .i64 p4), .v (.int .i64 x5)] : List AV) = [.v (.int .i64 p4), .v (.int .i64 x5)]) ∧ True) ∧ ((True) ∧ ((.v (.bool (decide (x10 = 0))) : AV) = (.v (.bool true) : AV))) ∧ ((([.v (.int .i64 p3), .v (.int .i64 p4)] : List AV) = [.v (.int .i64 p3), .v (.int .i64 p4)]) ∧ True) ∧ True) (by kernel_rfl) ⟨⟨rfl, trivial⟩, ⟨⟨rfl, trivial⟩, ⟨⟨rfl, trivial⟩, ⟨⟨rfl, trivial⟩, ⟨⟨trivial, (congrArg (fun z => AV.v (.bool z)) b9)⟩, ⟨⟨rfl, trivial⟩, ⟨⟨trivial, (congrArg (fun z => AV.v (.bool z)) b11)⟩, ⟨⟨rfl, trivial⟩, trivial⟩⟩⟩⟩⟩⟩⟩⟩ ⟨call_ok (ks := []) (ns := []) (bor := []) (bobjs := []) (show Eng.Spec Tryd.prog 35 [.agg [.bs false 2 (List.map enc_si p1), .v (.int .i64 p2)]] [] (.v (.bool true)) [] from by have q := s_spec_validFlag p1 p2 x6 e2; rw [b3] at q; exact q) (.cons (.c1 (.agg (.cons (.same _ (by kernel_rfl) (by kernel_rfl)) (.cons (.same _ (by kernel_rfl) (by kernel_rfl)) (.nil))))) (.nil)) (by kernel_rfl) trivial, ⟨call_ok (ks := []) (ns := []) (bor := []) (bobjs := []) (show Eng.Spec Tryd.prog 59 [.v (.int .i64 p3), .v (.int .i64 0), .v (.int .i64 4095)] [] (.v (.bool true)) [] from by have q := s_spec_inRange p3 0 4095 x7 e4; rw [b5] at q; exact q) (.cons (.c1 (.c0 (.same _ (by kernel_rfl) (by kernel_rfl)))) (.cons (.c1 (.c0 (.same _ (by kernel_rfl) (by kernel_rfl)))) (.cons (.c1 (.c0 (.same _ (by kernel_rfl) (by kernel_rfl)))) (.nil)))) (by kernel_rfl) trivial, ⟨call_ok (ks := []) (ns := []) (bor := []) (bobjs := []) (show Eng.Spec Tryd.prog 59 [.v (.int .i64 p4), .v (.int .i64 0), .v (.int .i64 4095)] [] (.v (.bool true)) [] from by have q := s_spec_inRange p4 0 4095 x8 e6; rw [b7] at q; exact q) (.cons (.c1 (.c0 (.same _ (by kernel_rfl) (by kernel_rfl)))) (.cons (.c1 (.c0 (.same _ (by kernel_rfl) (by kernel_rfl)))) (.cons (.c1 (.c0 (.same _ (by kernel_rfl) (by kernel_rfl)))) (.nil)))) (by kernel_rfl) trivial, ⟨call_ok (ks := []) (ns := []) (bor := []) (bobjs := []) (s_spec_less p3 x5 x9 e8) (.cons (.c1 (.c0 (.same _ (by kernel_rfl) (by kernel_rfl)))) (.cons (.c1 (.c0 (.same _ (by kernel_rfl) (by kernel_rfl)))) (.nil))) (by kernel_rfl) trivial, ⟨call_ok (ks := []) (ns := []) (bor := []) (bobjs := []) (s_spec_less p4 x5 x10 e10) (.cons (.c1 (.c0 (.same _ (by kernel_rfl) (by kernel_rfl)))) (.cons (.c1 (.c0 (.same _ (by kernel_rfl) (by kernel_rfl)))) (.nil))) (by kernel_rfl) trivial, ⟨call_ok (ks := []) (ns := []) (bor := []) (bobjs := []) (s_spec_both p3 p4 x11 e12) (.cons (.c1 (.c0 (.same _ (by kernel_rfl) (by kernel_rfl)))) (.cons (.c1 (.c0 (.same _ (by kernel_rfl) (by kernel_rfl)))) (.nil))) (by kernel_rfl) trivial, trivial⟩⟩⟩⟩⟩⟩ ?_
            refine AX.ret ?_
            refine fin_wk (Wk.forget [4] [] (s' := ⟨[(4, .v (.bool (decide (x11 = 0))))], []⟩) (by kernel_rfl)) ?_
            have hr := Option.some.inj h
            subst hr
            exact ⟨_, Wk.refl _, .inr rfl, ⟨[], by kernel_rfl, trivial, [.v (.bool (decide (x11 = 0)))], by kernel_rfl, by kernel_rfl⟩⟩
          · replace h := cd_f b11 h
            refine AX.reg (its := [.auto {}, .call 35 [.agg [.bs false 2 (List.map enc_si p1), .v (.int .i64 p2)]] (handO (rho ([] ++ [])) [] [] ++ []) (callEv [] [] (.v (.bool true)) []), .auto {}, .auto {}, .auto {}, .call 59 [.v (.int .i64 p3), .v (.int .i64 0), .v (.int .i64 4095)] (handO (rho ([] ++ [])) [] [] ++ []) (callEv [] [] (.v (.bool true)) []), .auto {}, .auto {}, .auto {}, .auto {}, .call 59 [.v (.int .i64 p4), .v (.int .i64 0), .v (.int .i64 4095)] (handO (rho ([] ++ [])) [] [] ++ []) (callEv [] [] (.v (.bool true)) []), .auto {}, .auto {}, .auto {}, .auto {}, .auto {}, .call 72 [.v (.int .i64 p3), .v (.int .i64 x5)] (handO (rho ([] ++ [])) [] [] ++ []) (callEv [] [] (.v (.int .i64 x9)) []), .auto { y := some (.v (.bool true)) }, .auto {}, .auto {}, .auto {}, .auto {}, .auto {}, .call 72 [.v (.int .i64 p4), .v (.int .i64 x5)] (handO (rho ([] ++ [])) [] [] ++ []) (callEv [] [] (.v (.int .i64 x10)) []), .auto { y := some (.v (.bool false)) }]) [4] [] (s1 := ⟨[(4, .v (.bool false))], []⟩) (C := ((([.agg [.bs false 2 (List.map enc_si p1), .v (.int .i64 p2)]] : List AV) = [.agg [.bs false 2 (List.map enc_si p1), .v (.int .i64 p2)]]) ∧ True) ∧ ((([.v (.int .i64 p3), .v (.int .i64 0), .v (.int .i64 4095)] : List AV) = [.v (.int .i64 p3), .v (.int .i64 0), .v (.int .i64 4095)]) ∧ True) ∧ ((([.v (.int .i64 p4), .v (.int .i64 0), .v (.int .i64 4095)] : List AV) = [.v (.int .i64 p4), .v (.int .i64 0), .v (.int .i64 4095)]) ∧ True) ∧ ((([.v (.int .i64 p3), .v (.int .i64 x5)] : List AV) = [.v (.int .i64 p3), .v (.int .i64 x5)]) ∧ True) ∧ ((True) ∧ ((.v (.bool (decide (x9 = 0))) : AV) = (.v (.bool true) : AV))) ∧ ((([.v (.int .i64 p4), .v (.int .i64 x5)] : List AV) = [.v (.int .i64 p4), .v (.int .i64 x5)]) ∧ True) ∧ ((True) ∧ ((.v (.bool (decide (x10 = 0))) : AV) = (.v (.bool false) : AV))) ∧ True) (by kernel_rfl) ⟨⟨rfl, trivial⟩, ⟨⟨rfl, trivial⟩, ⟨⟨rfl, trivial⟩, ⟨⟨rfl, trivial⟩, ⟨⟨trivial, (congrArg (fun z => AV.v (.bool z)) b9)⟩, ⟨⟨rfl, trivial⟩, ⟨⟨trivial, (congrArg (fun z => AV.v (.bool z)) b11)⟩, trivial⟩⟩⟩⟩⟩⟩⟩ ⟨call_ok (ks := []) (ns := []) (bor := []) (bobjs := []) (show Eng.Spec Tryd.prog 35 [.agg [.bs false 2 (List.map enc_si p1), .v (.int .i64 p2)]] [] (.v (.bool true)) [] from by have q := s_spec_validFlag p1 p2 x6 e2; rw [b3] at q; exact q) (.cons (.c1 (.agg (.cons (.same _ (by kernel_rfl) (by kernel_rfl)) (.cons (.same _ (by kernel_rfl) (by kernel_rfl)) (.nil))))) (.nil)) (by kernel_rfl) trivial, ⟨call_ok (ks := []) (ns := []) (bor := []) (bobjs := []) (show Eng.Spec Tryd.prog 59 [.v (.int .i64 p3), .v (.int .i64 0), .v (.int .i64 4095)] [] (.v (.bool true)) [] from by have q := s_spec_inRange p3 0 4095 x7 e4; rw [b5] at q; exact q) (.cons (.c1 (.c0 (.same _ (by kernel_rfl) (by kernel_rfl)))) (.cons (.c1 (.c0 (.same _ (by kernel_rfl) (by kernel_rfl)))) (.cons (.c1 (.c0 (.same _ (by kernel_rfl) (by kernel_rfl)))) (.nil)))) (by kernel_rfl) trivial, ⟨call_ok (ks := []) (ns := []) (bor := []) (bobjs := []) (show Eng.Spec Tryd.prog 59 [.v (.int .i64 p4), .v (.int .i64 0), .v (.int .i64 4095)] [] (.v (.bool true)) [] from by have q := s_spec_inRange p4 0 4095 x8 e6; rw [b7] at q; exact q) (.cons (.c1 (.c0 (.same _ (by kernel_rfl) (by kernel_rfl)))) (.cons (.c1 (.c0 (.same _ (by kernel_rfl) (by kernel_rfl)))) (.cons (.c1 (.c0 (.same _ (by kernel_rfl) (by kernel_rfl)))) (.nil)))) (by kernel_rfl) trivial, ⟨call_ok (ks := []) (ns := []) (bor := []) (bobjs := []) (s_spec_less p3 x5 x9 e8) (.cons (.c1 (.c0 (.same _ (by kernel_rfl) (by kernel_rfl)))) (.cons (.c1 (.c0 (.same _ (by kernel_rfl) (by kernel_rfl)))) (.nil))) (by kernel_rfl) trivial, ⟨call_ok (ks := []) (ns := []) (bor := []) (bobjs := []) (s_spec_less p4 x5 x10 e10) (.cons (.c1 (.c0 (.same _ (by kernel_rfl) (by kernel_rfl)))) (.cons (.c1 (.c0 (.same _ (by kernel_rfl) (by kernel_rfl)))) (.nil))) (by kernel_rfl) trivial, trivial⟩⟩⟩⟩⟩ ?_
            refine AX.ret ?_
            refine fin_wk (Wk.forget [4] [] (s' := ⟨[(4, .v (.bool false))], []⟩) (by kernel_rfl)) ?_
            have hr := Option.some.inj h
            subst hr
            exact ⟨_, Wk.refl _, .inr rfl, ⟨[], by kernel_rfl, trivial, [.v (.bool false)], by kernel_rfl, by kernel_rfl⟩⟩
        · replace h := cd_f b9 h
          refine AX.reg (its := [.auto {}, .call 35 [.agg [.bs false 2 (List.map enc_si p1), .v (.int .i64 p2)]] (handO (rho ([] ++ [])) [] [] ++ []) (callEv [] [] (.v (.bool true)) []), .auto {}, .auto {}, .auto {}, .call 59 [.v (.int .i64 p3), .v (.int .i64 0), .v (.int .i64 4095)] (handO (rho ([] ++ [])) [] [] ++ []) (callEv [] [] (.v (.bool true)) []), .auto {}, .auto {}, .auto {}, .auto {}, .call 59 [.v (.int .i64 p4), .v (.int .i64 0), .v (.int .i64 4095)] (handO (rho ([] ++ [])) [] [] ++ []) (callEv [] [] (.v (.bool true)) []), .auto {}, .auto {}, .auto {}, .auto {}, .auto {}, .call 72 [.v (.int .i64 p3), .v (.int .i64 x5)] (handO (rho ([] ++ [])) [] [] ++ []) (callEv [] [] (.v (.int .i64 x9)) []), .auto { y := some (.v (.bool false)) }]) [4] [] (s1 := ⟨[(4, .v (.bool false))], []⟩) (C := ((([.agg [.bs false 2 (List.map enc_si p1), .v (.int .i64 p2)]] : List AV) = [.agg [.bs false 2 (List.map enc_si p1), .v (.int .i64 p2)]]) ∧ True) ∧ ((([.v (.int .i64 p3), .v (.int .i64 0), .v (.int .i64 4095)] : List AV) = [.v (.int .i64 p3), .v (.int .i64 0), .v (.int .i64 4095)]) ∧ True) ∧ ((([.v (.int .i64 p4), .v (.int .i64 0), .v (.int .i64 4095)] : List AV) = [.v (.int .i64 p4), .v (.int .i64 0), .v (.int .i64 4095)]) ∧ True) ∧ ((([.v (.int .i64 p3), .v (.int .i64 x5)] : List AV) = [.v (.int .i64 p3), .v (.int .i64 x5)]) ∧ True) ∧ ((True) ∧ ((.v (.bool (decide (x9 = 0))) : AV) = (.v (.bool false) : AV))) ∧ True) (by kernel_rfl) ⟨⟨rfl, trivial⟩, ⟨⟨rfl, trivial⟩, ⟨⟨rfl, trivial⟩, ⟨⟨rfl, trivial⟩, ⟨⟨trivial, (congrArg (fun z => AV.v (.bool z)) b9)⟩, trivial⟩⟩⟩⟩⟩ ⟨call_ok (ks := []) (ns := []) (bor := []) (bobjs := []) (show Eng.Spec Tryd.prog 35 [.agg [.bs false 2 (List.map enc_si p1), .v (.int .i64 p2)]] [] (.v (.bool true)) [] from by have q := s_spec_validFlag p1 p2 x6 e2; rw [b3] at q; exact q) (.cons (.c1 (.agg (.cons (.same _ (by kernel_rfl) (by kernel_rfl)) (.cons (.same _ (by kernel_rfl) (by kernel_rfl)) (.nil))))) (.nil)) (by kernel_rfl) trivial, ⟨call_ok (ks := []) (ns := []) (bor := []) (bobjs := []) (show Eng.Spec Tryd.prog 59 [.v (.int .i64 p3), .v (.int .i64 0), .v (.int .i64 4095)] [] (.v (.bool true)) [] from by have q := s_spec_inRange p3 0 4095 x7 e4; rw [b5] at q; exact q) (.cons (.c1 (.c0 (.same _ (by kernel_rfl) (by kernel_rfl)))) (.cons (.c1 (.c0 (.same _ (by kernel_rfl) (by kernel_rfl)))) (.cons (.c1 (.c0 (.same _ (by kernel_rfl) (by kernel_rfl)))) (.nil)))) (by kernel_rfl) trivial, ⟨call_ok (ks := []) (ns := []) (bor := []) (bobjs := []) (show Eng.Spec Tryd.prog 59 [.v (.int .i64 p4), .v (.int .i64 0), .v (.int .i64 4095)] [] (.v (.bool true)) [] from by have q := s_spec_inRange p4 0 4095 x8 e6; rw [b7] at q; exact q) (.cons (.c1 (.c0 (.same _ (by kernel_rfl) (by kernel_rfl)))) (.cons (.c1 (.c0 (.same _ (by kernel_rfl) (by kernel_rfl)))) (.cons (.c1 (.c0 (.same _ (by kernel_rfl) (by kernel_rfl)))) (.nil)))) (by kernel_rfl) trivial, ⟨call_ok (ks := []) (ns := []) (bor := []) (bobjs := []) (s_spec_less p3 x5 x9 e8) (.cons (.c1 (.c0 (.same _ (by kernel_rfl) (by kernel_rfl)))) (.cons (.c1 (.c0 (.same _ (by kernel_rfl) (by kernel_rfl)))) (.nil))) (by kernel_rfl) trivial, trivial⟩⟩⟩⟩ ?_
          refine AX.ret ?_
          refine fin_wk (Wk.forget [4] [] (s' := ⟨[(4, .v (.bool false))], []⟩) (by kernel_rfl)) ?_
          have hr := Option.some.inj h
          subst hr
          exact ⟨_, Wk.refl _, .inr rfl, ⟨[], by kernel_rfl, trivial, [.v (.bool false)], by kernel_rfl, by kernel_rfl⟩⟩
      · replace h := cd_f b7 h
        refine AX.reg (its := [.auto {}, .call 35 [.agg [.bs false 2 (List.map enc_si p1), .v (.int .i64 p2)]] (handO (rho ([] ++ [])) [] [] ++ []) (callEv [] [] (.v (.bool true)) []), .auto {}, .auto {}, .auto {}, .call 59 [.v (.int .i64 p3), .v (.int .i64 0), .v (.int .i64 4095)] (handO (rho ([] ++ [])) [] [] ++ []) (callEv [] [] (.v (.bool true)) []), .auto {}, .auto {}, .auto {}, .auto {}, .call 59 [.v (.int .i64 p4), .v (.int .i64 0), .v (.int .i64 4095)] (handO (rho ([] ++ [])) [] [] ++ []) (callEv [] [] (.v (.bool false)) [])]) [4] [] (s1 := ⟨[(4, .v (.bool false))], []⟩) (C := ((([.agg [.bs false 2 (List.map enc_si p1), .v (.int .i64 p2)]] : List AV) = [.agg [.bs false 2 (List.map enc_si p1), .v (.int .i64 p2)]]) ∧ True) ∧ ((([.v (.int .i64 p3), .v (.int .i64 0), .v (.int .i64 4095)] : List AV) = [.v (.int .i64 p3), .v (.int .i64 0), .v (.int .i64 4095)]) ∧ True) ∧ ((([.v (.int .i64 p4), .v (.int .i64 0), .v (.int .i64 4095)] : List AV) = [.v (.int .i64 p4), .v (.int .i64 0), .v (.int .i64 4095)]) ∧ True) ∧ True) (by kernel_rfl) ⟨⟨rfl, trivial⟩, ⟨⟨rfl, trivial⟩, ⟨⟨rfl, trivial⟩, trivial⟩⟩⟩ ⟨call_ok (ks := []) (ns := []) (bor := []) (bobjs := []) (show Eng.Spec Tryd.prog 35 [.agg [.bs false 2 (List.map enc_si p1), .v (.int .i64 p2)]] [] (.v (.bool true)) [] from by have q := s_spec_validFlag p1 p2 x6 e2; rw [b3] at q; exact q) (.cons (.c1 (.agg (.cons (.same _ (by kernel_rfl) (by kernel_rfl)) (.cons (.same _ (by kernel_rfl) (by kernel_rfl)) (.nil))))) (.nil)) (by kernel_rfl) trivial, ⟨call_ok (ks := []) (ns := []) (bor := []) (bobjs := []) (show Eng.Spec Tryd.prog 59 [.v (.int .i64 p3), .v (.int .i64 0), .v (.int .i64 4095)] [] (.v (.bool true)) [] from by have q := s_spec_inRange p3 0 4095 x7 e4; rw [b5] at q; exact q) (.cons (.c1 (.c0 (.same _ (by kernel_rfl) (by kernel_rfl)))) (.cons (.c1 (.c0 (.same _ (by kernel_rfl) (by kernel_rfl)))) (.cons (.c1 (.c0 (.same _ (by kernel_rfl) (by kernel_rfl)))) (.nil)))) (by kernel_rfl) trivial, ⟨call_ok (ks := []) (ns := []) (bor := []) (bobjs := []) (show Eng.Spec Tryd.prog 59 [.v (.int .i64 p4), .v (.int .i64 0), .v (.int .i64 4095)] [] (.v (.bool false)) [] from by have q := s_spec_inRange p4 0 4095 x8 e6; rw [b7] at q; exact q) (.cons (.c1 (.c0 (.same _ (by kernel_rfl) (by kernel_rfl)))) (.cons (.c1 (.c0 (.same _ (by kernel_rfl) (by kernel_rfl)))) (.cons (.c1 (.c0 (.same _ (by kernel_rfl) (by kernel_rfl)))) (.nil)))) (by kernel_rfl) trivial, trivial⟩⟩⟩ ?_
        refine AX.ret ?_
        refine fin_wk (Wk.forget [4] [] (s' := ⟨[(4, .v (.bool false))], []⟩) (by kernel_rfl)) ?_
        have hr := Option.some.inj h
        subst hr
        exact ⟨_, Wk.refl _, .inr rfl, ⟨[], by kernel_rfl, trivial, [.v (.bool false)], by kernel_rfl, by kernel_rfl⟩⟩
    · replace h := cd_f b5 h
      refine AX.reg (its := [.auto {}, .call 35 [.agg [.bs false 2 (List.map enc_si p1), .v (.int .i64 p2)]] (handO (rho ([] ++ [])) [] [] ++ []) (callEv [] [] (.v (.bool true)) []), .auto {}, .auto {}, .auto {}, .call 59 [.v (.int .i64 p3), .v (.int .i64 0), .v (.int .i64 4095)] (handO (rho ([] ++ [])) [] [] ++ []) (callEv [] [] (.v (.bool false)) [])]) [4] [] (s1 := ⟨[(4, .v (.bool false))], []⟩) (C := ((([.agg [.bs false 2 (List.map enc_si p1), .v (.int .i64 p2)]] : List AV) = [.agg [.bs false 2 (List.map enc_si p1), .v (.int .i64 p2)]]) ∧ True) ∧ ((([.v (.int .i64 p3), .v (.int .i64 0), .v (.int .i64 4095)] : List AV) = [.v (.int .i64 p3), .v (.int .i64 0), .v (.int .i64 4095)]) ∧ True) ∧ True) (by kernel_rfl) ⟨⟨rfl, trivial⟩, ⟨⟨rfl, trivial⟩, trivial⟩⟩ ⟨call_ok (ks := []) (ns := []) (bor := []) (bobjs := []) (show Eng.Spec Tryd.prog 35 [.agg [.bs false 2 (List.map enc_si p1), .v (.int .i64 p2)]] [] (.v (.bool true)) [] from by have q := s_spec_validFlag p1 p2 x6 e2; rw [b3] at q; exact q) (.cons (.c1 (.agg (.cons (.same _ (by kernel_rfl) (by kernel_rfl)) (.cons (.same _ (by kernel_rfl) (by kernel_rfl)) (.nil))))) (.nil)) (by kernel_rfl) trivial, ⟨call_ok (ks := []) (ns := []) (bor := []) (bobjs := []) (show Eng.Spec Tryd.prog 59 [.v (.int .i64 p3), .v (.int .i64 0), .v (.int .i64 4095)] [] (.v (.bool false)) [] from by have q := s_spec_inRange p3 0 4095 x7 e4; rw [b5] at q; exact q) (.cons (.c1 (.c0 (.same _ (by kernel_rfl) (by kernel_rfl)))) (.cons (.c1 (.c0 (.same _ (by kernel_rfl) (by kernel_rfl)))) (.cons (.c1 (.c0 (.same _ (by kernel_rfl) (by kernel_rfl)))) (.nil)))) (by kernel_rfl) trivial, trivial⟩⟩ ?_
      refine AX.ret ?_
      refine fin_wk (Wk.forget [4] [] (s' := ⟨[(4, .v (.bool false))], []⟩) (by kernel_rfl)) ?_
      have hr := Option.some.inj h
      subst hr
      exact ⟨_, Wk.refl _, .inr rfl, ⟨[], by kernel_rfl, trivial, [.v (.bool false)], by kernel_rfl, by kernel_rfl⟩⟩
  · replace h := cd_f b3 h
    refine AX.reg (its := [.auto {}, .call 35 [.agg [.bs false 2 (List.map enc_si p1), .v (.int .i64 p2)]] (handO (rho ([] ++ [])) [] [] ++ []) (callEv [] [] (.v (.bool false)) [])]) [4] [] (s1 := ⟨[(4, .v (.bool false))], []⟩) (C := ((([.agg [.bs false 2 (List.map enc_si p1), .v (.int .i64 p2)]] : List AV) = [.agg [.bs false 2 (List.map enc_si p1), .v (.int .i64 p2)]]) ∧ True) ∧ True) (by kernel_rfl) ⟨⟨rfl, trivial⟩, trivial⟩ ⟨call_ok (ks := []) (ns := []) (bor := []) (bobjs := []) (show Eng.Spec Tryd.prog 35 [.agg [.bs false 2 (List.map enc_si p1), .v (.int .i64 p2)]] [] (.v (.bool false)) [] from by have q := s_spec_validFlag p1 p2 x6 e2; rw [b3] at q; exact q) (.cons (.c1 (.agg (.cons (.same _ (by kernel_rfl) (by kernel_rfl)) (.cons (.same _ (by kernel_rfl) (by kernel_rfl)) (.nil))))) (.nil)) (by kernel_rfl) trivial, trivial⟩ ?_
    refine AX.ret ?_
    refine fin_wk (Wk.forget [4] [] (s' := ⟨[(4, .v (.bool false))], []⟩) (by kernel_rfl)) ?_
    have hr := Option.some.inj h
    subst hr
    exact ⟨_, Wk.refl _, .inr rfl, ⟨[], by kernel_rfl, trivial, [.v (.bool false)], by kernel_rfl, by kernel_rfl⟩⟩

theorem s_spec_valueAt_L1 (p1 : List (ByteArray × Int)) (p2 : Int) (n : Nat) (g : Int) (out : Int ⊕ Unit) (h : m_spec_valueAt_L1 p1 p2 n g = some out) :
    AX Tryd.prog 20 0 (codeAt [1, 0, 1, 1] (bodyOf Tryd.f60)) ((fun g : Int => (⟨[(0, .bs false 2 (List.map enc_si p1)), (1, .v (.int .i64 p2)), (5, .v (.int .i64 g))], []⟩ : S)) g) (fun ex s => (∃ o : Int, out = Sum.inl o ∧ ex = .ret ∧ s = ⟨[(4, .v (.int .i64 o))], []⟩) ∨ (∃ o : Unit, out = Sum.inr o ∧ ex = .exit 0 ∧ s = ⟨[], []⟩)) := by
  refine AX.wkpost ?_
  refine AX.loop (G := Nat × (Int)) (fun q => (fun g : Int => (⟨[(0, .bs false 2 (List.map enc_si p1)), (1, .v (.int .i64 p2)), (5, .v (.int .i64 g))], []⟩ : S)) q.2) (fun q => m_spec_valueAt_L1 p1 p2 q.1 q.2 = some out) (fun q => q.1) (n, g) h (Wk.refl _) ?_
  clear h
  rintro ⟨fu, v3⟩ h
  cases fu with
  | zero => cases h
  | succ fu =>
    rw [m_spec_valueAt_L1] at h
    refine AX.seq ?_
    refine AX.seq ?_
    refine AX.reg (its := [.auto {}, .auto {}, .auto { y := some (.v (.int .i64 (p1.length : Int))) }]) [0, 1, 5, 9] [] (s1 := ⟨[(0, .bs false 2 (List.map enc_si p1)), (1, .v (.int .i64 p2)), (5, .v (.int .i64 v3)), (9, .v (.bool (decide (v3 < (p1.length : Int)))))], []⟩) (C := (True ∧ (AV.v (.int .i64 ((List.map enc_si p1).length : Int)) = AV.v (.int .i64 (p1.length : Int)))) ∧ True) (by kernel_rfl) ⟨⟨trivial, len_map enc_si p1⟩, trivial⟩ trivial ?_
    rcases bool_cases (decide (v3 < (p1.length : Int))) with b1 | b1
    · replace h := cd_t b1 h
      refine AX.condT (decide (v3 < (p1.length : Int))) (by kernel_rfl) b1 ?_
      refine AX.skip ?_
      refine AX.seq ?_
      refine AX.block ?_
      refine AX.seq ?_
      obtain ⟨g2, h⟩ := gd_e h
      refine AX.reg (its := [.auto {}, .auto {}, .auto { y := some (.be 2 (enc_si (gt p1 v3)) 0) }]) [0, 1, 5, 18] [] (s1 := ⟨[(0, .bs false 2 (List.map enc_si p1)), (1, .v (.int .i64 p2)), (5, .v (.int .i64 v3)), (18, .v (.bool (decide (((gt p1 v3).2) = p2))))], []⟩) (C := ((0 ≤ v3 ∧ v3 < ((List.map enc_si p1).length : Int)) ∧ (AV.be 2 ((List.map enc_si p1).getD v3.toNat []) 0 = AV.be 2 (enc_si (gt p1 v3)) 0)) ∧ True) (by kernel_rfl) ⟨idx_bs enc_si p1 v3 2 g2, trivial⟩ trivial ?_
      rcases bool_cases (decide (((gt p1 v3).2) = p2)) with b3 | b3
      · replace h := cd_t b3 h
        refine AX.condT (decide (((gt p1 v3).2) = p2)) (by kernel_rfl) b3 ?_
        refine AX.seq ?_
        refine AX.reg (its := []) [4] [] (s1 := ⟨[(4, .v (.int .i64 v3))], []⟩) (C := True) (by kernel_rfl) trivial trivial ?_
        refine AX.ret ?_
        refine fin_wk (Wk.forget [4] [] (s' := ⟨[(4, .v (.int .i64 v3))], []⟩) (by kernel_rfl)) ?_
        have hr := Option.some.inj h
        subst hr
        exact ⟨_, Wk.refl _, .inl ⟨v3, rfl, rfl, rfl⟩⟩
      · replace h := cd_f b3 h
        refine AX.condF (decide (((gt p1 v3).2) = p2)) (by kernel_rfl) b3 ?_
        refine AX.skip ?_
        refine AX.reg (its := [.auto {}, .auto { raw := true }]) [0, 1, 5] [] (s1 := ⟨[(0, .bs false 2 (List.map enc_si p1)), (1, .v (.int .i64 p2)), (5, .v (.int .i64 (IntKind.wrap .i64 (v3 + 1))))], []⟩) (C := True) (by kernel_rfl) trivial trivial ?_
        refine ⟨(fu, IntKind.wrap .i64 (v3 + 1)), h, Nat.lt_succ_self _, ?_⟩
        refine Wk.trans (Wk.forget [0, 1, 5] [] (s' := ⟨[(0, .bs false 2 (List.map enc_si p1)), (1, .v (.int .i64 p2)), (5, .v (.int .i64 (IntKind.wrap .i64 (v3 + 1))))], []⟩) (by kernel_rfl)) ?_
        exact Wk.refl _
    · replace h := cd_f b1 h
      refine AX.condF (decide (v3 < (p1.length : Int))) (by kernel_rfl) b1 ?_
      refine AX.exit ?_
      refine fin_wk (Wk.forget [] [] (s' := ⟨[], []⟩) (by kernel_rfl)) ?_
      have hr := Option.some.inj h
      subst hr
      exact ⟨_, Wk.refl _, .inr ⟨(), rfl, rfl, rfl⟩⟩

theorem s_spec_valueAt (p1 : List (ByteArray × Int)) (p2 : Int) (r : Int) (h : m_spec_valueAt p1 p2 = some r) :
    Eng.Spec Tryd.prog 60 [.bs false 2 (List.map enc_si p1), .v (.int .i64 p2)] [] (.v (.int .i64 r)) [] := by
  unfold m_spec_valueAt at h
  refine Eng.Spec.body Tryd.func60 (by kernel_rfl) rfl (by kernel_rfl) ?_
  refine AX.wkpost ?_
  refine AX.seq ?_
  refine AX.reg (its := []) [0, 1] [] (s1 := ⟨[(0, .bs false 2 (List.map enc_si p1)), (1, .v (.int .i64 p2))], []⟩) (C := True) (by kernel_rfl) trivial trivial ?_
  refine AX.seq ?_
  refine AX.seq ?_
  refine AX.reg (its := []) [0, 1, 5] [] (s1 := ⟨[(0, .bs false 2 (List.map enc_si p1)), (1, .v (.int .i64 p2)), (5, .v (.int .i64 0))], []⟩) (C := True) (by kernel_rfl) trivial trivial ?_
  refine AX.block ?_
  obtain ⟨x4, e4, h⟩ := bd_e h
  refine AX.wk (Wk.forget [0, 1, 5] [] (s' := ⟨[(0, .bs false 2 (List.map enc_si p1)), (1, .v (.int .i64 p2)), (5, .v (.int .i64 0))], []⟩) (by kernel_rfl)) ?_
  refine AX.mono (s_spec_valueAt_L1 p1 p2 FU 0 x4 e4) ?_
  rintro _ _ (⟨x5, rfl, rfl, rfl⟩ | ⟨x6, rfl, rfl, rfl⟩)
  · replace h := sm_l h
    refine fin_wk (Wk.forget [4] [] (s' := ⟨[(4, .v (.int .i64 x5))], []⟩) (by kernel_rfl)) ?_
    have hr := Option.some.inj h
    subst hr
    exact ⟨_, Wk.refl _, .inr rfl, ⟨[], by kernel_rfl, trivial, [.v (.int .i64 x5)], by kernel_rfl, by kernel_rfl⟩⟩
  · replace h := sm_r h
    refine AX.seq ?_
    refine AX.reg (its := []) [4] [] (s1 := ⟨[(4, .v (.int .i64 (-1)))], []⟩) (C := True) (by kernel_rfl) trivial trivial ?_
    refine AX.ret ?_
    refine fin_wk (Wk.forget [4] [] (s' := ⟨[(4, .v (.int .i64 (-1)))], []⟩) (by kernel_rfl)) ?_
    have hr := Option.some.inj h
    subst hr
    exact ⟨_, Wk.refl _, .inr rfl, ⟨[], by kernel_rfl, trivial, [.v (.int .i64 (-1))], by kernel_rfl, by kernel_rfl⟩⟩

theorem s_spec_singles_L1 (p1 : List (ByteArray × Int)) (n : Nat) (g : (List (ByteArray × Int)) × Int) (out : List (ByteArray × Int)) (h : m_spec_singles_L1 p1 n g.1 g.2 = some out) :
    AX Tryd.prog 24 0 (codeAt [1, 1, 0, 1, 1] (bodyOf Tryd.f137)) ((fun g : (List (ByteArray × Int)) × Int => (⟨[(0, .bs false 2 (List.map enc_si p1)), (3, .sl 0 0 g.1.length), (4, .v (.int .i64 g.2))], [(0, .arr 2 (List.map enc_si g.1))]⟩ : S)) g) (fun ex s => ex = .exit 0 ∧ s = (fun o : List (ByteArray × Int) => (⟨[(3, .sl 0 0 o.length)], [(0, .arr 2 (List.map enc_si o))]⟩ : S)) out) := by
  refine AX.wkpost ?_
  refine AX.loop (G := Nat × ((List (ByteArray × Int)) × Int)) (fun q => (fun g : (List (ByteArray × Int)) × Int => (⟨[(0, .bs false 2 (List.map enc_si p1)), (3, .sl 0 0 g.1.length), (4, .v (.int .i64 g.2))], [(0, .arr 2 (List.map enc_si g.1))]⟩ : S)) q.2) (fun q => m_spec_singles_L1 p1 q.1 q.2.1 q.2.2 = some out) (fun q => q.1) (n, g) h (Wk.refl _) ?_
  clear h
  rintro ⟨fu, v2, v3⟩ h
  cases fu with
  | zero => cases h
  | succ fu =>
    rw [m_spec_singles_L1] at h
    refine AX.seq ?_
    refine AX.seq ?_
    refine AX.reg (its := []) [0, 3, 4, 8] [0] (s1 := ⟨[(0, .bs false 2 (List.map enc_si p1)), (3, .sl 0 0 v2.length), (4, .v (.int .i64 v3)), (8, .v (.bool (decide (v3 ≤ 4095))))], [(0, .arr 2 (List.map enc_si v2))]⟩) (C := True) (by kernel_rfl) trivial trivial ?_
    rcases bool_cases (decide (v3 ≤ 4095)) with b1 | b1
    · replace h := cd_t b1 h
      refine AX.condT (decide (v3 ≤ 4095)) (by kernel_rfl) b1 ?_
      refine AX.skip ?_
      refine AX.seq ?_
      refine AX.block ?_
      refine AX.seq ?_
      obtain ⟨x4, e2, h⟩ := bd_e h
      refine AX.reg (its := [.auto {}, .auto {}, .call 60 [.bs false 2 (List.map enc_si p1), .v (.int .i64 v3)] (handO (rho ([] ++ [])) [] [] ++ []) (callEv [] [] (.v (.int .i64 x4)) [])]) [0, 3, 4, 5] [0] (s1 := ⟨[(0, .bs false 2 (List.map enc_si p1)), (3, .sl 0 0 v2.length), (4, .v (.int .i64 v3)), (5, .v (.int .i64 x4))], [(0, .arr 2 (List.map enc_si v2))]⟩) (C := ((([.bs false 2 (List.map enc_si p1), .v (.int .i64 v3)] : List AV) = [.bs false 2 (List.map enc_si p1), .v (.int .i64 v3)]) ∧ True) ∧ True) (by kernel_rfl) ⟨⟨rfl, trivial⟩, trivial⟩ ⟨call_ok (ks := []) (ns := []) (bor := []) (bobjs := []) (s_spec_valueAt p1 v3 x4 e2) (.cons (.c1 (.c0 (.same _ (by kernel_rfl) (by kernel_rfl)))) (.cons (.c1 (.c0 (.same _ (by kernel_rfl) (by kernel_rfl)))) (.nil))) (by kernel_rfl) trivial, trivial⟩ ?_
      refine AX.seq ?_
      refine AX.reg (its := []) [0, 3, 4, 5, 15] [0] (s1 := ⟨[(0, .bs false 2 (List.map enc_si p1)), (3, .sl 0 0 v2.length), (4, .v (.int .i64 v3)), (5, .v (.int .i64 x4)), (15, .v (.bool (decide (0 ≤ x4))))], [(0, .arr 2 (List.map enc_si v2))]⟩) (C := True) (by kernel_rfl) trivial trivial ?_
      rcases bool_cases (decide (0 ≤ x4)) with b3 | b3
      · replace h := cd_t b3 h
        refine AX.condT (decide (0 ≤ x4)) (by kernel_rfl) b3 ?_
        obtain ⟨g4, h⟩ := gd_e h
        obtain ⟨g5, h⟩ := gd_e h
        refine AX.reg (its := [.auto {}, .auto {}, .auto {}, .auto { y := some (.be 2 (enc_si (gt p1 x4)) 0) }, .auto {}, .auto { nk := 1 }, .auto { y := some (.sl 2 0 ((v2 ++ ([((gt p1 x4).1, (gt p1 x4).2)] : List (ByteArray × Int))).length)), els := some (List.map enc_si v2), els2 := some (List.map enc_si ([((gt p1 x4).1, (gt p1 x4).2)] : List (ByteArray × Int))), nk := 2 }]) [0, 3, 4] [2] (s1 := ⟨[(0, .bs false 2 (List.map enc_si p1)), (3, .sl 2 0 ((v2 ++ ([((gt p1 x4).1, (gt p1 x4).2)] : List (ByteArray × Int))).length)), (4, .v (.int .i64 v3))], [(2, .arr 2 (List.map enc_si v2 ++ List.map enc_si ([((gt p1 x4).1, (gt p1 x4).2)] : List (ByteArray × Int))))]⟩) (C := ((0 ≤ x4 ∧ x4 < ((List.map enc_si p1).length : Int)) ∧ (AV.be 2 ((List.map enc_si p1).getD x4.toNat []) 0 = AV.be 2 (enc_si (gt p1 x4)) 0)) ∧ ((((((List.map enc_si v2).drop 0).take (v2.length) = List.map enc_si v2) ∧ (((List.map enc_si ([((gt p1 x4).1, (gt p1 x4).2)] : List (ByteArray × Int))).drop 0).take (([((gt p1 x4).1, (gt p1 x4).2)] : List (ByteArray × Int)).length) = List.map enc_si ([((gt p1 x4).1, (gt p1 x4).2)] : List (ByteArray × Int)))) ∧ (List.map enc_si v2).length + (List.map enc_si ([((gt p1 x4).1, (gt p1 x4).2)] : List (ByteArray × Int))).length ≤ 1099511627776) ∧ (AV.sl 2 0 (List.map enc_si v2 ++ List.map enc_si ([((gt p1 x4).1, (gt p1 x4).2)] : List (ByteArray × Int))).length = AV.sl 2 0 (v2 ++ ([((gt p1 x4).1, (gt p1 x4).2)] : List (ByteArray × Int))).length)) ∧ True) (by kernel_rfl) ⟨idx_bs enc_si p1 x4 2 g4, ⟨⟨⟨⟨(dt_all (enc := enc_si) rfl rfl), (dt_all (enc := enc_si) rfl rfl)⟩, (by simp only [List.length_map, List.length_nil, List.length_replicate]; simpa using g5)⟩, sl_len (enc := enc_si) (app_can (enc := enc_si) rfl (rfl))⟩, trivial⟩⟩ trivial ?_
        refine AX.reg (its := [.auto {}, .auto { raw := true }]) [0, 3, 4] [2] (s1 := ⟨[(0, .bs false 2 (List.map enc_si p1)), (3, .sl 2 0 ((v2 ++ ([((gt p1 x4).1, (gt p1 x4).2)] : List (ByteArray × Int))).length)), (4, .v (.int .i64 (IntKind.wrap .i64 (v3 * 2))))], [(2, .arr 2 (List.map enc_si v2 ++ List.map enc_si ([((gt p1 x4).1, (gt p1 x4).2)] : List (ByteArray × Int))))]⟩) (C := True) (by kernel_rfl) trivial trivial ?_
        refine ⟨(fu, (v2 ++ ([((gt p1 x4).1, (gt p1 x4).2)] : List (ByteArray × Int)), IntKind.wrap .i64 (v3 * 2))), h, Nat.lt_succ_self _, ?_⟩
        refine Wk.trans (Wk.swap 0 2 (Nat.le_of_ble_eq_true (by kernel_rfl)) (Nat.le_of_ble_eq_true (by kernel_rfl)) rfl) ?_
        refine Wk.trans (Wk.forget [0, 3, 4] [0] (s' := ⟨[(0, .bs false 2 (List.map enc_si p1)), (3, .sl 0 0 ((v2 ++ ([((gt p1 x4).1, (gt p1 x4).2)] : List (ByteArray × Int))).length)), (4, .v (.int .i64 (IntKind.wrap .i64 (v3 * 2))))], [(0, .arr 2 (List.map enc_si v2 ++ List.map enc_si ([((gt p1 x4).1, (gt p1 x4).2)] : List (ByteArray × Int))))]⟩) (by kernel_rfl)) ?_
        refine Wk.trans (Wk.of_eq (congrArg (fun z => (⟨[(0, .bs false 2 (List.map enc_si p1)), (3, .sl 0 0 ((v2 ++ ([((gt p1 x4).1, (gt p1 x4).2)] : List (ByteArray × Int))).length)), (4, .v (.int .i64 (IntKind.wrap .i64 (v3 * 2))))], [(0, .arr 2 (z))]⟩ : S)) (app_can (enc := enc_si) rfl (rfl) : List.map enc_si v2 ++ List.map enc_si ([((gt p1 x4).1, (gt p1 x4).2)] : List (ByteArray × Int)) = List.map enc_si (v2 ++ ([((gt p1 x4).1, (gt p1 x4).2)] : List (ByteArray × Int)))))) ?_
        exact Wk.refl _
      · replace h := cd_f b3 h
        refine AX.condF (decide (0 ≤ x4)) (by kernel_rfl) b3 ?_
        refine AX.skip ?_
        refine AX.reg (its := [.auto {}, .auto { raw := true }]) [0, 3, 4] [0] (s1 := ⟨[(0, .bs false 2 (List.map enc_si p1)), (3, .sl 0 0 v2.length), (4, .v (.int .i64 (IntKind.wrap .i64 (v3 * 2))))], [(0, .arr 2 (List.map enc_si v2))]⟩) (C := True) (by kernel_rfl) trivial trivial ?_
        refine ⟨(fu, (v2, IntKind.wrap .i64 (v3 * 2))), h, Nat.lt_succ_self _, ?_⟩
        refine Wk.trans (Wk.forget [0, 3, 4] [0] (s' := ⟨[(0, .bs false 2 (List.map enc_si p1)), (3, .sl 0 0 v2.length), (4, .v (.int .i64 (IntKind.wrap .i64 (v3 * 2))))], [(0, .arr 2 (List.map enc_si v2))]⟩) (by kernel_rfl)) ?_
        exact Wk.refl _
    · replace h := cd_f b1 h
      refine AX.condF (decide (v3 ≤ 4095)) (by kernel_rfl) b1 ?_
      refine AX.exit ?_
      refine fin_wk (Wk.forget [3] [0] (s' := ⟨[(3, .sl 0 0 v2.length)], [(0, .arr 2 (List.map enc_si v2))]⟩) (by kernel_rfl)) ?_
      have hr := Option.some.inj h
      subst hr
      exact ⟨_, Wk.refl _, ⟨rfl, rfl⟩⟩

theorem s_spec_singles (p1 : List (ByteArray × Int)) (r : List (ByteArray × Int)) (h : m_spec_singles p1 = some r) :
    Eng.Spec Tryd.prog 137 [.bs false 2 (List.map enc_si p1)] [] (.sl 0 0 r.length) [.arr 2 (List.map enc_si r)] := by
  unfold m_spec_singles at h
  refine Eng.Spec.body Tryd.func137 (by kernel_rfl) rfl (by kernel_rfl) ?_
  refine AX.wkpost ?_
  refine AX.seq ?_
  refine AX.reg (its := []) [0] [] (s1 := ⟨[(0, .bs false 2 (List.map enc_si p1))], []⟩) (C := True) (by kernel_rfl) trivial trivial ?_
  refine AX.seq ?_
  refine AX.reg (its := [.auto { nk := 0 }]) [0, 3] [0] (s1 := ⟨[(0, .bs false 2 (List.map enc_si p1)), (3, .sl 0 0 (([] : List (ByteArray × Int)).length))], [(0, .arr 2 (List.map enc_si ([] : List (ByteArray × Int))))]⟩) (C := True) (by kernel_rfl) trivial trivial ?_
  refine AX.seq ?_
  refine AX.seq ?_
  refine AX.reg (its := []) [0, 3, 4] [0] (s1 := ⟨[(0, .bs false 2 (List.map enc_si p1)), (3, .sl 0 0 (([] : List (ByteArray × Int)).length)), (4, .v (.int .i64 1))], [(0, .arr 2 (List.map enc_si ([] : List (ByteArray × Int))))]⟩) (C := True) (by kernel_rfl) trivial trivial ?_
  refine AX.block ?_
  obtain ⟨x5, e6, h⟩ := bd_e h
  refine AX.wk (Wk.forget [0, 3, 4] [0] (s' := ⟨[(0, .bs false 2 (List.map enc_si p1)), (3, .sl 0 0 (([] : List (ByteArray × Int)).length)), (4, .v (.int .i64 1))], [(0, .arr 2 (List.map enc_si ([] : List (ByteArray × Int))))]⟩) (by kernel_rfl)) ?_
  refine AX.mono (s_spec_singles_L1 p1 FU (([] : List (ByteArray × Int)), 1) x5 e6) ?_
  rintro _ _ ⟨rfl, rfl⟩
  skip
  refine AX.seq ?_
  refine AX.reg (its := []) [2] [0] (s1 := ⟨[(2, .sl 0 0 x5.length)], [(0, .arr 2 (List.map enc_si x5))]⟩) (C := True) (by kernel_rfl) trivial trivial ?_
  refine AX.ret ?_
  refine fin_wk (Wk.forget [2] [0] (s' := ⟨[(2, .sl 0 0 x5.length)], [(0, .arr 2 (List.map enc_si x5))]⟩) (by kernel_rfl)) ?_
  have hr := Option.some.inj h
  subst hr
  exact ⟨_, Wk.refl _, .inr rfl, ⟨[0], by kernel_rfl, ⟨rfl, trivial⟩, [.sl 0 0 x5.length], by kernel_rfl, by kernel_rfl⟩⟩

theorem s_spec_canTell (p1 : List (ByteArray × Int)) (p2 : Int) (p3 : Int) (p4 : Int) (r : Bool) (h : m_spec_canTell p1 p2 p3 p4 = some r) :
    Eng.Spec Tryd.prog 103 [.agg [.bs false 2 (List.map enc_si p1), .v (.int .i64 p2)], .agg [.v (.int .i64 p3), .v (.int .i64 p4)]] [] (.v (.bool r)) [] := by
  unfold m_spec_canTell at h
  refine Eng.Spec.body Tryd.func103 (by kernel_rfl) rfl (by kernel_rfl) ?_
  refine AX.wkpost ?_
  refine AX.seq ?_
  refine AX.reg (its := [.auto { nk := 0 }, .auto { nk := 1 }]) [2, 3] [0, 1] (s1 := ⟨[(2, .pt 0 0), (3, .pt 1 0)], [(0, .box [.bs false 2 (List.map enc_si p1), .v (.int .i64 p2)]), (1, .box [.v (.int .i64 p3), .v (.int .i64 p4)])]⟩) (C := True) (by kernel_rfl) trivial trivial ?_
  refine AX.seq ?_
  obtain ⟨x5, e1, h⟩ := bd_e h
  obtain ⟨x6, e2, h⟩ := bd_e h
  obtain ⟨x7, e3, h⟩ := bd_e h
  obtain ⟨x8, e4, h⟩ := bd_e h
  refine AX.drw mixed (its := [.auto {}, .auto {}, .auto {}, .auto {}, .call 82 [.v (.int .i64 p3), .v (.int .i64 p4)] (handO (rho ([] ++ [])) [] [] ++ []) (callEv [] [] (.v (.int .i64 x5)) []), .auto {}, .auto {}, .call 137 [.bs false 2 (List.map enc_si p1)] (handO (rho ([] ++ [2])) [] [] ++ []) (callEv [] [2] (.sl 0 0 x6.length) [.arr 2 (List.map enc_si x6)]), .call 73 [.sl 2 0 x6.length] (handO (rho ([] ++ [])) [] [] ++ [(2, .arr 2 (List.map enc_si x6))]) (callEv [] [] (.v (.int .i64 x7)) []), .call 72 [.v (.int .i64 x5), .v (.int .i64 x7)] (handO (rho ([] ++ [])) [] [] ++ []) (callEv [] [] (.v (.int .i64 x8)) [])]) [4] [] (s1 := ⟨[(4, .v (.bool (decide (x8 = 0))))], []⟩) (C := ((([.v (.int .i64 p3), .v (.int .i64 p4)] : List AV) = [.v (.int .i64 p3), .v (.int .i64 p4)]) ∧ True) ∧ ((([.bs false 2 (List.map enc_si p1)] : List AV) = [.bs false 2 (List.map enc_si p1)]) ∧ True) ∧ ((([.sl 2 0 x6.length] : List AV) = [.sl 2 0 x6.length]) ∧ (AO.arr 2 (List.map enc_si x6) = AO.arr 2 (List.map enc_si x6)) ∧ True) ∧ ((([.v (.int .i64 x5), .v (.int .i64 x7)] : List AV) = [.v (.int .i64 x5), .v (.int .i64 x7)]) ∧ True) ∧ True) (by kernel_rfl) ⟨⟨rfl, trivial⟩, ⟨⟨rfl, trivial⟩, ⟨⟨rfl, rfl, trivial⟩, ⟨⟨rfl, trivial⟩, trivial⟩⟩⟩⟩ ⟨call_ok (ks := []) (ns := []) (bor := []) (bobjs := []) (s_spec_either p3 p4 x5 e1) (.cons (.c1 (.c0 (.same _ (by kernel_rfl) (by kernel_rfl)))) (.cons (.c1 (.c0 (.same _ (by kernel_rfl) (by kernel_rfl)))) (.nil))) (by kernel_rfl) trivial, ⟨call_ok (ks := []) (ns := [2]) (bor := []) (bobjs := []) (s_spec_singles p1 x6 e2) (.cons (.c1 (.c0 (.same _ (by kernel_rfl) (by kernel_rfl)))) (.nil)) (by kernel_rfl) trivial, ⟨call_ok (ks := []) (ns := []) (bor := [2]) (bobjs := [(2, .arr 2 (List.map enc_si x6))]) (s_spec_mask x6 x7 e3) (.cons (.c1 (.c0 (.arr rfl rfl ((rfl).trans (List.length_map ..).symm)))) (.nil)) (by kernel_rfl) trivial, ⟨call_ok (ks := []) (ns := []) (bor := []) (bobjs := []) (s_spec_less x5 x7 x8 e4) (.cons (.c1 (.c0 (.same _ (by kernel_rfl) (by kernel_rfl)))) (.cons (.c1 (.c0 (.same _ (by kernel_rfl) (by kernel_rfl)))) (.nil))) (by kernel_rfl) trivial, trivial⟩⟩⟩⟩ ?_
  refine AX.ret ?_
  refine fin_wk (Wk.forget [4] [] (s' := ⟨[(4, .v (.bool (decide (x8 = 0))))], []⟩) (by kernel_rfl)) ?_
  have hr := Option.some.inj h
  subst hr
  exact ⟨_, Wk.refl _, .inr rfl, ⟨[], by kernel_rfl, trivial, [.v (.bool (decide (x8 = 0)))], by kernel_rfl, by kernel_rfl⟩⟩

theorem s_spec_joinWith_L1 (p1 : List (ByteArray)) (p2 : ByteArray) (n : Nat) (g : ByteArray × Int) (out : ByteArray) (h : m_spec_joinWith_L1 p1 p2 n g.1 g.2 = some out) :
    AX Tryd.prog 25 0 (codeAt [1, 1, 0, 1, 1] (bodyOf Tryd.f119)) ((fun g : ByteArray × Int => (⟨[(0, .bs false 1 (List.map enc_s p1)), (1, .v (.string p2)), (5, .v (.string g.1)), (6, .v (.int .i64 g.2))], []⟩ : S)) g) (fun ex s => ex = .exit 0 ∧ s = (fun o : ByteArray => (⟨[(5, .v (.string o))], []⟩ : S)) out) := by
  refine AX.wkpost ?_
  refine AX.loop (G := Nat × (ByteArray × Int)) (fun q => (fun g : ByteArray × Int => (⟨[(0, .bs false 1 (List.map enc_s p1)), (1, .v (.string p2)), (5, .v (.string g.1)), (6, .v (.int .i64 g.2))], []⟩ : S)) q.2) (fun q => m_spec_joinWith_L1 p1 p2 q.1 q.2.1 q.2.2 = some out) (fun q => q.1) (n, g) h (Wk.refl _) ?_
  clear h
  rintro ⟨fu, v3, v4⟩ h
  cases fu with
  | zero => cases h
  | succ fu =>
    rw [m_spec_joinWith_L1] at h
    refine AX.seq ?_
    refine AX.seq ?_
    refine AX.reg (its := [.auto {}, .auto {}, .auto { y := some (.v (.int .i64 (p1.length : Int))) }]) [0, 1, 5, 6, 10] [] (s1 := ⟨[(0, .bs false 1 (List.map enc_s p1)), (1, .v (.string p2)), (5, .v (.string v3)), (6, .v (.int .i64 v4)), (10, .v (.bool (decide (v4 < (p1.length : Int)))))], []⟩) (C := (True ∧ (AV.v (.int .i64 ((List.map enc_s p1).length : Int)) = AV.v (.int .i64 (p1.length : Int)))) ∧ True) (by kernel_rfl) ⟨⟨trivial, len_map enc_s p1⟩, trivial⟩ trivial ?_
    rcases bool_cases (decide (v4 < (p1.length : Int))) with b1 | b1
    · replace h := cd_t b1 h
      refine AX.condT (decide (v4 < (p1.length : Int))) (by kernel_rfl) b1 ?_
      refine AX.skip ?_
      refine AX.seq ?_
      refine AX.block ?_
      refine AX.seq ?_
      refine AX.seq ?_
      refine AX.reg (its := []) [0, 1, 5, 6, 14] [] (s1 := ⟨[(0, .bs false 1 (List.map enc_s p1)), (1, .v (.string p2)), (5, .v (.string v3)), (6, .v (.int .i64 v4)), (14, .v (.bool (decide (0 < v4))))], []⟩) (C := True) (by kernel_rfl) trivial trivial ?_
      rcases bool_cases (decide (0 < v4)) with b2 | b2
      · replace h := cd_t b2 h
        refine AX.condT (decide (0 < v4)) (by kernel_rfl) b2 ?_
        obtain ⟨g3, h⟩ := gd_e h
        refine AX.reg (its := []) [0, 1, 5, 6] [] (s1 := ⟨[(0, .bs false 1 (List.map enc_s p1)), (1, .v (.string p2)), (5, .v (.string (v3 ++ p2))), (6, .v (.int .i64 v4))], []⟩) (C := (v3.size + p2.size ≤ 9223372036854775807) ∧ True) (by kernel_rfl) ⟨g3, trivial⟩ trivial ?_
        obtain ⟨g4, h⟩ := gd_e h
        obtain ⟨g5, h⟩ := gd_e h
        refine AX.reg (its := [.auto {}, .auto {}, .auto {}, .auto { y := some (.be 1 (enc_s (gt p1 v4)) 0) }]) [0, 1, 5, 6] [] (s1 := ⟨[(0, .bs false 1 (List.map enc_s p1)), (1, .v (.string p2)), (5, .v (.string ((v3 ++ p2) ++ (gt p1 v4)))), (6, .v (.int .i64 v4))], []⟩) (C := ((0 ≤ v4 ∧ v4 < ((List.map enc_s p1).length : Int)) ∧ (AV.be 1 ((List.map enc_s p1).getD v4.toNat []) 0 = AV.be 1 (enc_s (gt p1 v4)) 0)) ∧ ((v3 ++ p2).size + (gt p1 v4).size ≤ 9223372036854775807) ∧ True) (by kernel_rfl) ⟨idx_bs enc_s p1 v4 1 g4, ⟨g5, trivial⟩⟩ trivial ?_
        refine AX.reg (its := [.auto {}, .auto { raw := true }]) [0, 1, 5, 6] [] (s1 := ⟨[(0, .bs false 1 (List.map enc_s p1)), (1, .v (.string p2)), (5, .v (.string ((v3 ++ p2) ++ (gt p1 v4)))), (6, .v (.int .i64 (IntKind.wrap .i64 (v4 + 1))))], []⟩) (C := True) (by kernel_rfl) trivial trivial ?_
        refine ⟨(fu, ((v3 ++ p2) ++ (gt p1 v4), IntKind.wrap .i64 (v4 + 1))), h, Nat.lt_succ_self _, ?_⟩
        refine Wk.trans (Wk.forget [0, 1, 5, 6] [] (s' := ⟨[(0, .bs false 1 (List.map enc_s p1)), (1, .v (.string p2)), (5, .v (.string ((v3 ++ p2) ++ (gt p1 v4)))), (6, .v (.int .i64 (IntKind.wrap .i64 (v4 + 1))))], []⟩) (by kernel_rfl)) ?_
        exact Wk.refl _
      · replace h := cd_f b2 h
        refine AX.condF (decide (0 < v4)) (by kernel_rfl) b2 ?_
        refine AX.skip ?_
        obtain ⟨g6, h⟩ := gd_e h
        obtain ⟨g7, h⟩ := gd_e h
        refine AX.reg (its := [.auto {}, .auto {}, .auto {}, .auto { y := some (.be 1 (enc_s (gt p1 v4)) 0) }]) [0, 1, 5, 6] [] (s1 := ⟨[(0, .bs false 1 (List.map enc_s p1)), (1, .v (.string p2)), (5, .v (.string (v3 ++ (gt p1 v4)))), (6, .v (.int .i64 v4))], []⟩) (C := ((0 ≤ v4 ∧ v4 < ((List.map enc_s p1).length : Int)) ∧ (AV.be 1 ((List.map enc_s p1).getD v4.toNat []) 0 = AV.be 1 (enc_s (gt p1 v4)) 0)) ∧ (v3.size + (gt p1 v4).size ≤ 9223372036854775807) ∧ True) (by kernel_rfl) ⟨idx_bs enc_s p1 v4 1 g6, ⟨g7, trivial⟩⟩ trivial ?_
        refine AX.reg (its := [.auto {}, .auto { raw := true }]) [0, 1, 5, 6] [] (s1 := ⟨[(0, .bs false 1 (List.map enc_s p1)), (1, .v (.string p2)), (5, .v (.string (v3 ++ (gt p1 v4)))), (6, .v (.int .i64 (IntKind.wrap .i64 (v4 + 1))))], []⟩) (C := True) (by kernel_rfl) trivial trivial ?_
        refine ⟨(fu, (v3 ++ (gt p1 v4), IntKind.wrap .i64 (v4 + 1))), h, Nat.lt_succ_self _, ?_⟩
        refine Wk.trans (Wk.forget [0, 1, 5, 6] [] (s' := ⟨[(0, .bs false 1 (List.map enc_s p1)), (1, .v (.string p2)), (5, .v (.string (v3 ++ (gt p1 v4)))), (6, .v (.int .i64 (IntKind.wrap .i64 (v4 + 1))))], []⟩) (by kernel_rfl)) ?_
        exact Wk.refl _
    · replace h := cd_f b1 h
      refine AX.condF (decide (v4 < (p1.length : Int))) (by kernel_rfl) b1 ?_
      refine AX.exit ?_
      refine fin_wk (Wk.forget [5] [] (s' := ⟨[(5, .v (.string v3))], []⟩) (by kernel_rfl)) ?_
      have hr := Option.some.inj h
      subst hr
      exact ⟨_, Wk.refl _, ⟨rfl, rfl⟩⟩

theorem s_spec_joinWith (p1 : List (ByteArray)) (p2 : ByteArray) (r : ByteArray) (h : m_spec_joinWith p1 p2 = some r) :
    Eng.Spec Tryd.prog 119 [.bs false 1 (List.map enc_s p1), .v (.string p2)] [] (.v (.string r)) [] := by
  unfold m_spec_joinWith at h
  refine Eng.Spec.body Tryd.func119 (by kernel_rfl) rfl (by kernel_rfl) ?_
  refine AX.wkpost ?_
  refine AX.seq ?_
  refine AX.reg (its := []) [0, 1] [] (s1 := ⟨[(0, .bs false 1 (List.map enc_s p1)), (1, .v (.string p2))], []⟩) (C := True) (by kernel_rfl) trivial trivial ?_
  refine AX.seq ?_
  refine AX.reg (its := []) [0, 1, 5] [] (s1 := ⟨[(0, .bs false 1 (List.map enc_s p1)), (1, .v (.string p2)), (5, .v (.string ByteArray.empty))], []⟩) (C := True) (by kernel_rfl) trivial trivial ?_
  refine AX.seq ?_
  refine AX.seq ?_
  refine AX.reg (its := []) [0, 1, 5, 6] [] (s1 := ⟨[(0, .bs false 1 (List.map enc_s p1)), (1, .v (.string p2)), (5, .v (.string ByteArray.empty)), (6, .v (.int .i64 0))], []⟩) (C := True) (by kernel_rfl) trivial trivial ?_
  refine AX.block ?_
  obtain ⟨x5, e8, h⟩ := bd_e h
  refine AX.wk (Wk.forget [0, 1, 5, 6] [] (s' := ⟨[(0, .bs false 1 (List.map enc_s p1)), (1, .v (.string p2)), (5, .v (.string ByteArray.empty)), (6, .v (.int .i64 0))], []⟩) (by kernel_rfl)) ?_
  refine AX.mono (s_spec_joinWith_L1 p1 p2 FU (ByteArray.empty, 0) x5 e8) ?_
  rintro _ _ ⟨rfl, rfl⟩
  skip
  refine AX.seq ?_
  refine AX.reg (its := []) [4] [] (s1 := ⟨[(4, .v (.string x5))], []⟩) (C := True) (by kernel_rfl) trivial trivial ?_
  refine AX.ret ?_
  refine fin_wk (Wk.forget [4] [] (s' := ⟨[(4, .v (.string x5))], []⟩) (by kernel_rfl)) ?_
  have hr := Option.some.inj h
  subst hr
  exact ⟨_, Wk.refl _, .inr rfl, ⟨[], by kernel_rfl, trivial, [.v (.string x5)], by kernel_rfl, by kernel_rfl⟩⟩

theorem s_spec_armText_L1 (p3 : Int) (p4 : Int) (x5 : List (ByteArray × Int)) (n : Nat) (g : List (ByteArray) × Int) (out : List (ByteArray)) (h : m_spec_armText_L1 p3 p4 x5 n g.1 g.2 = some out) :
    AX Tryd.prog 58 0 (codeAt [1, 1, 1, 0, 1, 1] (bodyOf Tryd.f104)) ((fun g : List (ByteArray) × Int => (⟨[(3, .pt 0 0), (5, .sl 1 0 g.1.length), (6, .sl 2 0 x5.length), (7, .v (.int .i64 g.2))], [(0, .box [.v (.int .i64 p3), .v (.int .i64 p4)]), (1, .arr 1 (List.map enc_s g.1)), (2, .arr 2 (List.map enc_si x5))]⟩ : S)) g) (fun ex s => ex = .exit 0 ∧ s = (fun o : List (ByteArray) => (⟨[(5, .sl 0 0 o.length)], [(0, .arr 1 (List.map enc_s o))]⟩ : S)) out) := by
  refine AX.wkpost ?_
  refine AX.loop (G := Nat × (List (ByteArray) × Int)) (fun q => (fun g : List (ByteArray) × Int => (⟨[(3, .pt 0 0), (5, .sl 1 0 g.1.length), (6, .sl 2 0 x5.length), (7, .v (.int .i64 g.2))], [(0, .box [.v (.int .i64 p3), .v (.int .i64 p4)]), (1, .arr 1 (List.map enc_s g.1)), (2, .arr 2 (List.map enc_si x5))]⟩ : S)) q.2) (fun q => m_spec_armText_L1 p3 p4 x5 q.1 q.2.1 q.2.2 = some out) (fun q => q.1) (n, g) h (Wk.refl _) ?_
  clear h
  rintro ⟨fu, v6, v7⟩ h
  cases fu with
  | zero => cases h
  | succ fu =>
    rw [m_spec_armText_L1] at h
    refine AX.seq ?_
    refine AX.seq ?_
    refine AX.reg (its := []) [3, 5, 6, 7, 15] [0, 1, 2] (s1 := ⟨[(3, .pt 0 0), (5, .sl 1 0 v6.length), (6, .sl 2 0 x5.length), (7, .v (.int .i64 v7)), (15, .v (.bool (decide (v7 < (x5.length : Int)))))], [(0, .box [.v (.int .i64 p3), .v (.int .i64 p4)]), (1, .arr 1 (List.map enc_s v6)), (2, .arr 2 (List.map enc_si x5))]⟩) (C := True) (by kernel_rfl) trivial trivial ?_
    rcases bool_cases (decide (v7 < (x5.length : Int))) with b2 | b2
    · replace h := cd_t b2 h
      refine AX.condT (decide (v7 < (x5.length : Int))) (by kernel_rfl) b2 ?_
      refine AX.skip ?_
      refine AX.seq ?_
      refine AX.block ?_
      refine AX.seq ?_
      refine AX.seq ?_
      obtain ⟨g3, h⟩ := gd_e h
      obtain ⟨x8, e4, h⟩ := bd_e h
      refine AX.drw mixed (its := [.auto {}, .auto {}, .auto {}, .auto {}, .auto { y := some (.v (.int .i64 ((gt x5 v7).2))) }, .auto {}, .auto {}, .call 120 [.v (.int .i64 ((gt x5 v7).2)), .v (.int .i64 p3)] (handO (rho ([] ++ [])) [] [] ++ []) (callEv [] [] (.v (.int .i64 x8)) [])]) [3, 5, 6, 7, 26] [0, 1, 2] (s1 := ⟨[(3, .pt 0 0), (5, .sl 1 0 v6.length), (6, .sl 2 0 x5.length), (7, .v (.int .i64 v7)), (26, .v (.bool (decide (0 < x8))))], [(0, .box [.v (.int .i64 p3), .v (.int .i64 p4)]), (1, .arr 1 (List.map enc_s v6)), (2, .arr 2 (List.map enc_si x5))]⟩) (C := (0 ≤ v7 ∧ v7 < (x5.length : Int)) ∧ (True ∧ (AV.v (((List.map enc_si x5).getD (0 + v7.toNat) []).getD 1 undef) = .v (.int .i64 ((gt x5 v7).2)))) ∧ ((([.v (.int .i64 ((gt x5 v7).2)), .v (.int .i64 p3)] : List AV) = [.v (.int .i64 ((gt x5 v7).2)), .v (.int .i64 p3)]) ∧ True) ∧ True) (by kernel_rfl) ⟨g3, ⟨⟨trivial, (congrArg (fun z : List Value => AV.v (z.getD 1 undef)) (idx_arr (enc := enc_si) rfl g3))⟩, ⟨⟨rfl, trivial⟩, trivial⟩⟩⟩ ⟨call_ok (ks := []) (ns := []) (bor := []) (bobjs := []) (s_spec_both ((gt x5 v7).2) p3 x8 e4) (.cons (.c1 (.c0 (.same _ (by kernel_rfl) (by kernel_rfl)))) (.cons (.c1 (.c0 (.same _ (by kernel_rfl) (by kernel_rfl)))) (.nil))) (by kernel_rfl) trivial, trivial⟩ ?_
      rcases bool_cases (decide (0 < x8)) with b5 | b5
      · replace h := cd_t b5 h
        refine AX.condT (decide (0 < x8)) (by kernel_rfl) b5 ?_
        obtain ⟨g6, h⟩ := gd_e h
        refine AX.reg (its := [.auto {}, .auto {}, .auto {}, .auto {}, .auto {}, .auto { y := some (.v (.string ((gt x5 v7).1))) }, .auto { nk := 3 }, .auto { y := some (.sl 4 0 ((v6 ++ ([(gt x5 v7).1] : List (ByteArray))).length)), els := some (List.map enc_s v6), els2 := some (List.map enc_s ([(gt x5 v7).1] : List (ByteArray))), nk := 4 }]) [3, 5, 6, 7] [0, 2, 4] (s1 := ⟨[(3, .pt 0 0), (5, .sl 4 0 ((v6 ++ ([(gt x5 v7).1] : List (ByteArray))).length)), (6, .sl 2 0 x5.length), (7, .v (.int .i64 v7))], [(0, .box [.v (.int .i64 p3), .v (.int .i64 p4)]), (2, .arr 2 (List.map enc_si x5)), (4, .arr 1 (List.map enc_s v6 ++ List.map enc_s ([(gt x5 v7).1] : List (ByteArray))))]⟩) (C := (0 ≤ v7 ∧ v7 < (x5.length : Int)) ∧ (True ∧ (AV.v (((List.map enc_si x5).getD (0 + v7.toNat) []).getD 0 undef) = .v (.string ((gt x5 v7).1)))) ∧ ((((((List.map enc_s v6).drop 0).take (v6.length) = List.map enc_s v6) ∧ (((List.map enc_s ([(gt x5 v7).1] : List (ByteArray))).drop 0).take (([(gt x5 v7).1] : List (ByteArray)).length) = List.map enc_s ([(gt x5 v7).1] : List (ByteArray)))) ∧ (List.map enc_s v6).length + (List.map enc_s ([(gt x5 v7).1] : List (ByteArray))).length ≤ 1099511627776) ∧ (AV.sl 4 0 (List.map enc_s v6 ++ List.map enc_s ([(gt x5 v7).1] : List (ByteArray))).length = AV.sl 4 0 (v6 ++ ([(gt x5 v7).1] : List (ByteArray))).length)) ∧ True) (by kernel_rfl) ⟨g3, ⟨⟨trivial, (congrArg (fun z : List Value => AV.v (z.getD 0 undef)) (idx_arr (enc := enc_si) rfl g3))⟩, ⟨⟨⟨⟨(dt_all (enc := enc_s) rfl rfl), (dt_all (enc := enc_s) rfl rfl)⟩, (by simp only [List.length_map, List.length_nil, List.length_replicate]; simpa using g6)⟩, sl_len (enc := enc_s) (app_can (enc := enc_s) rfl (rfl))⟩, trivial⟩⟩⟩ trivial ?_
        refine AX.seq ?_
        obtain ⟨x9, e7, h⟩ := bd_e h
        refine AX.drw mixed (its := [.auto {}, .auto {}, .auto {}, .auto {}, .auto { y := some (.v (.int .i64 ((gt x5 v7).2))) }, .auto {}, .auto {}, .call 120 [.v (.int .i64 ((gt x5 v7).2)), .v (.int .i64 p4)] (handO (rho ([] ++ [])) [] [] ++ []) (callEv [] [] (.v (.int .i64 x9)) [])]) [3, 5, 6, 7, 43] [0, 2, 4] (s1 := ⟨[(3, .pt 0 0), (5, .sl 4 0 ((v6 ++ ([(gt x5 v7).1] : List (ByteArray))).length)), (6, .sl 2 0 x5.length), (7, .v (.int .i64 v7)), (43, .v (.bool (decide (0 < x9))))], [(0, .box [.v (.int .i64 p3), .v (.int .i64 p4)]), (2, .arr 2 (List.map enc_si x5)), (4, .arr 1 (List.map enc_s v6 ++ List.map enc_s ([(gt x5 v7).1] : List (ByteArray))))]⟩) (C := (0 ≤ v7 ∧ v7 < (x5.length : Int)) ∧ (True ∧ (AV.v (((List.map enc_si x5).getD (0 + v7.toNat) []).getD 1 undef) = .v (.int .i64 ((gt x5 v7).2)))) ∧ ((([.v (.int .i64 ((gt x5 v7).2)), .v (.int .i64 p4)] : List AV) = [.v (.int .i64 ((gt x5 v7).2)), .v (.int .i64 p4)]) ∧ True) ∧ True) (by kernel_rfl) ⟨g3, ⟨⟨trivial, (congrArg (fun z : List Value => AV.v (z.getD 1 undef)) (idx_arr (enc := enc_si) rfl g3))⟩, ⟨⟨rfl, trivial⟩, trivial⟩⟩⟩ ⟨call_ok (ks := []) (ns := []) (bor := []) (bobjs := []) (s_spec_both ((gt x5 v7).2) p4 x9 e7) (.cons (.c1 (.c0 (.same _ (by kernel_rfl) (by kernel_rfl)))) (.cons (.c1 (.c0 (.same _ (by kernel_rfl) (by kernel_rfl)))) (.nil))) (by kernel_rfl) trivial, trivial⟩ ?_
        rcases bool_cases (decide (0 < x9)) with b8 | b8
        · replace h := cd_t b8 h
          refine AX.condT (decide (0 < x9)) (by kernel_rfl) b8 ?_
          obtain ⟨g9, h⟩ := gd_e h
          obtain ⟨g10, h⟩ := gd_e h
          refine AX.reg (its := [.auto {}, .auto {}, .auto {}, .auto {}, .auto {}, .auto { y := some (.v (.string ((gt x5 v7).1))) }, .auto {}, .auto { nk := 5 }, .auto { y := some (.sl 6 0 (((v6 ++ ([(gt x5 v7).1] : List (ByteArray))) ++ ([(ByteArray.mk #[33]) ++ ((gt x5 v7).1)] : List (ByteArray))).length)), els := some (List.map enc_s (v6 ++ ([(gt x5 v7).1] : List (ByteArray)))), els2 := some (List.map enc_s ([(ByteArray.mk #[33]) ++ ((gt x5 v7).1)] : List (ByteArray))), nk := 6 }]) [3, 5, 6, 7] [0, 2, 6] (s1 := ⟨[(3, .pt 0 0), (5, .sl 6 0 (((v6 ++ ([(gt x5 v7).1] : List (ByteArray))) ++ ([(ByteArray.mk #[33]) ++ ((gt x5 v7).1)] : List (ByteArray))).length)), (6, .sl 2 0 x5.length), (7, .v (.int .i64 v7))], [(0, .box [.v (.int .i64 p3), .v (.int .i64 p4)]), (2, .arr 2 (List.map enc_si x5)), (6, .arr 1 (List.map enc_s (v6 ++ ([(gt x5 v7).1] : List (ByteArray))) ++ List.map enc_s ([(ByteArray.mk #[33]) ++ ((gt x5 v7).1)] : List (ByteArray))))]⟩) (C := (0 ≤ v7 ∧ v7 < (x5.length : Int)) ∧ (True ∧ (AV.v (((List.map enc_si x5).getD (0 + v7.toNat) []).getD 0 undef) = .v (.string ((gt x5 v7).1)))) ∧ ((ByteArray.mk #[33]).size + ((gt x5 v7).1).size ≤ 9223372036854775807) ∧ ((((((List.map enc_s v6 ++ List.map enc_s ([(gt x5 v7).1] : List (ByteArray))).drop 0).take ((v6 ++ ([(gt x5 v7).1] : List (ByteArray))).length) = List.map enc_s (v6 ++ ([(gt x5 v7).1] : List (ByteArray)))) ∧ (((List.map enc_s ([(ByteArray.mk #[33]) ++ ((gt x5 v7).1)] : List (ByteArray))).drop 0).take (([(ByteArray.mk #[33]) ++ ((gt x5 v7).1)] : List (ByteArray)).length) = List.map enc_s ([(ByteArray.mk #[33]) ++ ((gt x5 v7).1)] : List (ByteArray)))) ∧ (List.map enc_s (v6 ++ ([(gt x5 v7).1] : List (ByteArray)))).length + (List.map enc_s ([(ByteArray.mk #[33]) ++ ((gt x5 v7).1)] : List (ByteArray))).length ≤ 1099511627776) ∧ (AV.sl 6 0 (List.map enc_s (v6 ++ ([(gt x5 v7).1] : List (ByteArray))) ++ List.map enc_s ([(ByteArray.mk #[33]) ++ ((gt x5 v7).1)] : List (ByteArray))).length = AV.sl 6 0 ((v6 ++ ([(gt x5 v7).1] : List (ByteArray))) ++ ([(ByteArray.mk #[33]) ++ ((gt x5 v7).1)] : List (ByteArray))).length)) ∧ True) (by kernel_rfl) ⟨g3, ⟨⟨trivial, (congrArg (fun z : List Value => AV.v (z.getD 0 undef)) (idx_arr (enc := enc_si) rfl g3))⟩, ⟨g9, ⟨⟨⟨⟨(dt_all (enc := enc_s) (app_can (enc := enc_s) rfl (rfl) : List.map enc_s v6 ++ List.map enc_s ([(gt x5 v7).1] : List (ByteArray)) = List.map enc_s (v6 ++ ([(gt x5 v7).1] : List (ByteArray)))) rfl), (dt_all (enc := enc_s) rfl rfl)⟩, (by simp only [List.length_map, List.length_nil, List.length_replicate]; simpa using g10)⟩, sl_len (enc := enc_s) (app_can (enc := enc_s) rfl (rfl))⟩, trivial⟩⟩⟩⟩ trivial ?_
          refine AX.reg (its := [.auto {}, .auto { raw := true }]) [3, 5, 6, 7] [0, 2, 6] (s1 := ⟨[(3, .pt 0 0), (5, .sl 6 0 (((v6 ++ ([(gt x5 v7).1] : List (ByteArray))) ++ ([(ByteArray.mk #[33]) ++ ((gt x5 v7).1)] : List (ByteArray))).length)), (6, .sl 2 0 x5.length), (7, .v (.int .i64 (IntKind.wrap .i64 (v7 + 1))))], [(0, .box [.v (.int .i64 p3), .v (.int .i64 p4)]), (2, .arr 2 (List.map enc_si x5)), (6, .arr 1 (List.map enc_s (v6 ++ ([(gt x5 v7).1] : List (ByteArray))) ++ List.map enc_s ([(ByteArray.mk #[33]) ++ ((gt x5 v7).1)] : List (ByteArray))))]⟩) (C := True) (by kernel_rfl) trivial trivial ?_
          refine ⟨(fu, ((v6 ++ ([(gt x5 v7).1] : List (ByteArray))) ++ ([(ByteArray.mk #[33]) ++ ((gt x5 v7).1)] : List (ByteArray)), IntKind.wrap .i64 (v7 + 1))), h, Nat.lt_succ_self _, ?_⟩
          refine Wk.trans (Wk.swap 1 6 (Nat.le_of_ble_eq_true (by kernel_rfl)) (Nat.le_of_ble_eq_true (by kernel_rfl)) rfl) ?_
          refine Wk.trans (Wk.forget [3, 5, 6, 7] [0, 1, 2] (s' := ⟨[(3, .pt 0 0), (5, .sl 1 0 (((v6 ++ ([(gt x5 v7).1] : List (ByteArray))) ++ ([(ByteArray.mk #[33]) ++ ((gt x5 v7).1)] : List (ByteArray))).length)), (6, .sl 2 0 x5.length), (7, .v (.int .i64 (IntKind.wrap .i64 (v7 + 1))))], [(0, .box [.v (.int .i64 p3), .v (.int .i64 p4)]), (1, .arr 1 (List.map enc_s (v6 ++ ([(gt x5 v7).1] : List (ByteArray))) ++ List.map enc_s ([(ByteArray.mk #[33]) ++ ((gt x5 v7).1)] : List (ByteArray)))), (2, .arr 2 (List.map enc_si x5))]⟩) (by kernel_rfl)) ?_
          refine Wk.trans (Wk.of_eq (congrArg (fun z => (⟨[(3, .pt 0 0), (5, .sl 1 0 (((v6 ++ ([(gt x5 v7).1] : List (ByteArray))) ++ ([(ByteArray.mk #[33]) ++ ((gt x5 v7).1)] : List (ByteArray))).length)), (6, .sl 2 0 x5.length), (7, .v (.int .i64 (IntKind.wrap .i64 (v7 + 1))))], [(0, .box [.v (.int .i64 p3), .v (.int .i64 p4)]), (1, .arr 1 (z)), (2, .arr 2 (List.map enc_si x5))]⟩ : S)) (app_can (enc := enc_s) rfl (rfl) : List.map enc_s (v6 ++ ([(gt x5 v7).1] : List (ByteArray))) ++ List.map enc_s ([(ByteArray.mk #[33]) ++ ((gt x5 v7).1)] : List (ByteArray)) = List.map enc_s ((v6 ++ ([(gt x5 v7).1] : List (ByteArray))) ++ ([(ByteArray.mk #[33]) ++ ((gt x5 v7).1)] : List (ByteArray)))))) ?_
          exact Wk.refl _
        · replace h := cd_f b8 h
          refine AX.condF (decide (0 < x9)) (by kernel_rfl) b8 ?_
          refine AX.skip ?_
          refine AX.reg (its := [.auto {}, .auto { raw := true }]) [3, 5, 6, 7] [0, 2, 4] (s1 := ⟨[(3, .pt 0 0), (5, .sl 4 0 ((v6 ++ ([(gt x5 v7).1] : List (ByteArray))).length)), (6, .sl 2 0 x5.length), (7, .v (.int .i64 (IntKind.wrap .i64 (v7 + 1))))], [(0, .box [.v (.int .i64 p3), .v (.int .i64 p4)]), (2, .arr 2 (List.map enc_si x5)), (4, .arr 1 (List.map enc_s v6 ++ List.map enc_s ([(gt x5 v7).1] : List (ByteArray))))]⟩) (C := True) (by kernel_rfl) trivial trivial ?_
          refine ⟨(fu, (v6 ++ ([(gt x5 v7).1] : List (ByteArray)), IntKind.wrap .i64 (v7 + 1))), h, Nat.lt_succ_self _, ?_⟩
          refine Wk.trans (Wk.swap 1 4 (Nat.le_of_ble_eq_true (by kernel_rfl)) (Nat.le_of_ble_eq_true (by kernel_rfl)) rfl) ?_
          refine Wk.trans (Wk.forget [3, 5, 6, 7] [0, 1, 2] (s' := ⟨[(3, .pt 0 0), (5, .sl 1 0 ((v6 ++ ([(gt x5 v7).1] : List (ByteArray))).length)), (6, .sl 2 0 x5.length), (7, .v (.int .i64 (IntKind.wrap .i64 (v7 + 1))))], [(0, .box [.v (.int .i64 p3), .v (.int .i64 p4)]), (1, .arr 1 (List.map enc_s v6 ++ List.map enc_s ([(gt x5 v7).1] : List (ByteArray)))), (2, .arr 2 (List.map enc_si x5))]⟩) (by kernel_rfl)) ?_
          refine Wk.trans (Wk.of_eq (congrArg (fun z => (⟨[(3, .pt 0 0), (5, .sl 1 0 ((v6 ++ ([(gt x5 v7).1] : List (ByteArray))).length)), (6, .sl 2 0 x5.length), (7, .v (.int .i64 (IntKind.wrap .i64 (v7 + 1))))], [(0, .box [.v (.int .i64 p3), .v (.int .i64 p4)]), (1, .arr 1 (z)), (2, .arr 2 (List.map enc_si x5))]⟩ : S)) (app_can (enc := enc_s) rfl (rfl) : List.map enc_s v6 ++ List.map enc_s ([(gt x5 v7).1] : List (ByteArray)) = List.map enc_s (v6 ++ ([(gt x5 v7).1] : List (ByteArray)))))) ?_
          exact Wk.refl _
      · replace h := cd_f b5 h
        refine AX.condF (decide (0 < x8)) (by kernel_rfl) b5 ?_
        refine AX.skip ?_
        refine AX.seq ?_
        obtain ⟨x10, e11, h⟩ := bd_e h
        refine AX.drw mixed (its := [.auto {}, .auto {}, .auto {}, .auto {}, .auto { y := some (.v (.int .i64 ((gt x5 v7).2))) }, .auto {}, .auto {}, .call 120 [.v (.int .i64 ((gt x5 v7).2)), .v (.int .i64 p4)] (handO (rho ([] ++ [])) [] [] ++ []) (callEv [] [] (.v (.int .i64 x10)) [])]) [3, 5, 6, 7, 43] [0, 1, 2] (s1 := ⟨[(3, .pt 0 0), (5, .sl 1 0 v6.length), (6, .sl 2 0 x5.length), (7, .v (.int .i64 v7)), (43, .v (.bool (decide (0 < x10))))], [(0, .box [.v (.int .i64 p3), .v (.int .i64 p4)]), (1, .arr 1 (List.map enc_s v6)), (2, .arr 2 (List.map enc_si x5))]⟩) (C := (0 ≤ v7 ∧ v7 < (x5.length : Int)) ∧ (True ∧ (AV.v (((List.map enc_si x5).getD (0 + v7.toNat) []).getD 1 undef) = .v (.int .i64 ((gt x5 v7).2)))) ∧ ((([.v (.int .i64 ((gt x5 v7).2)), .v (.int .i64 p4)] : List AV) = [.v (.int .i64 ((gt x5 v7).2)), .v (.int .i64 p4)]) ∧ True) ∧ True) (by kernel_rfl) ⟨g3, ⟨⟨trivial, (congrArg (fun z : List Value => AV.v (z.getD 1 undef)) (idx_arr (enc := enc_si) rfl g3))⟩, ⟨⟨rfl, trivial⟩, trivial⟩⟩⟩ ⟨call_ok (ks := []) (ns := []) (bor := []) (bobjs := []) (s_spec_both ((gt x5 v7).2) p4 x10 e11) (.cons (.c1 (.c0 (.same _ (by kernel_rfl) (by kernel_rfl)))) (.cons (.c1 (.c0 (.same _ (by kernel_rfl) (by kernel_rfl)))) (.nil))) (by kernel_rfl) trivial, trivial⟩ ?_
        rcases bool_cases (decide (0 < x10)) with b12 | b12
        · replace h := cd_t b12 h
          refine AX.condT (decide (0 < x10)) (by kernel_rfl) b12 ?_
          obtain ⟨g13, h⟩ := gd_e h
          obtain ⟨g14, h⟩ := gd_e h
          refine AX.reg (its := [.auto {}, .auto {}, .auto {}, .auto {}, .auto {}, .auto { y := some (.v (.string ((gt x5 v7).1))) }, .auto {}, .auto { nk := 3 }, .auto { y := some (.sl 4 0 ((v6 ++ ([(ByteArray.mk #[33]) ++ ((gt x5 v7).1)] : List (ByteArray))).length)), els := some (List.map enc_s v6), els2 := some (List.map enc_s ([(ByteArray.mk #[33]) ++ ((gt x5 v7).1)] : List (ByteArray))), nk := 4 }]) [3, 5, 6, 7] [0, 2, 4] (s1 := ⟨[(3, .pt 0 0), (5, .sl 4 0 ((v6 ++ ([(ByteArray.mk #[33]) ++ ((gt x5 v7).1)] : List (ByteArray))).length)), (6, .sl 2 0 x5.length), (7, .v (.int .i64 v7))], [(0, .box [.v (.int .i64 p3), .v (.int .i64 p4)]), (2, .arr 2 (List.map enc_si x5)), (4, .arr 1 (List.map enc_s v6 ++ List.map enc_s ([(ByteArray.mk #[33]) ++ ((gt x5 v7).1)] : List (ByteArray))))]⟩) (C := (0 ≤ v7 ∧ v7 < (x5.length : Int)) ∧ (True ∧ (AV.v (((List.map enc_si x5).getD (0 + v7.toNat) []).getD 0 undef) = .v (.string ((gt x5 v7).1)))) ∧ ((ByteArray.mk #[33]).size + ((gt x5 v7).1).size ≤ 9223372036854775807) ∧ ((((((List.map enc_s v6).drop 0).take (v6.length) = List.map enc_s v6) ∧ (((List.map enc_s ([(ByteArray.mk #[33]) ++ ((gt x5 v7).1)] : List (ByteArray))).drop 0).take (([(ByteArray.mk #[33]) ++ ((gt x5 v7).1)] : List (ByteArray)).length) = List.map enc_s ([(ByteArray.mk #[33]) ++ ((gt x5 v7).1)] : List (ByteArray)))) ∧ (List.map enc_s v6).length + (List.map enc_s ([(ByteArray.mk #[33]) ++ ((gt x5 v7).1)] : List (ByteArray))).length ≤ 1099511627776) ∧ (AV.sl 4 0 (List.map enc_s v6 ++ List.map enc_s ([(ByteArray.mk #[33]) ++ ((gt x5 v7).1)] : List (ByteArray))).length = AV.sl 4 0 (v6 ++ ([(ByteArray.mk #[33]) ++ ((gt x5 v7).1)] : List (ByteArray))).length)) ∧ True) (by kernel_rfl) ⟨g3, ⟨⟨trivial, (congrArg (fun z : List Value => AV.v (z.getD 0 undef)) (idx_arr (enc := enc_si) rfl g3))⟩, ⟨g13, ⟨⟨⟨⟨(dt_all (enc := enc_s) rfl rfl), (dt_all (enc := enc_s) rfl rfl)⟩, (by simp only [List.length_map, List.length_nil, List.length_replicate]; simpa using g14)⟩, sl_len (enc := enc_s) (app_can (enc := enc_s) rfl (rfl))⟩, trivial⟩⟩⟩⟩ trivial ?_
          refine AX.reg (its := [.auto {}, .auto { raw := true }]) [3, 5, 6, 7] [0, 2, 4] (s1 := ⟨[(3, .pt 0 0), (5, .sl 4 0 ((v6 ++ ([(ByteArray.mk #[33]) ++ ((gt x5 v7).1)] : List (ByteArray))).length)), (6, .sl 2 0 x5.length), (7, .v (.int .i64 (IntKind.wrap .i64 (v7 + 1))))], [(0, .box [.v (.int .i64 p3), .v (.int .i64 p4)]), (2, .arr 2 (List.map enc_si x5)), (4, .arr 1 (List.map enc_s v6 ++ List.map enc_s ([(ByteArray.mk #[33]) ++ ((gt x5 v7).1)] : List (ByteArray))))]⟩) (C := True) (by kernel_rfl) trivial trivial ?_
          refine ⟨(fu, (v6 ++ ([(ByteArray.mk #[33]) ++ ((gt x5 v7).1)] : List (ByteArray)), IntKind.wrap .i64 (v7 + 1))), h, Nat.lt_succ_self _, ?_⟩
          refine Wk.trans (Wk.swap 1 4 (Nat.le_of_ble_eq_true (by kernel_rfl)) (Nat.le_of_ble_eq_true (by kernel_rfl)) rfl) ?_
          refine Wk.trans (Wk.forget [3, 5, 6, 7] [0, 1, 2] (s' := ⟨[(3, .pt 0 0), (5, .sl 1 0 ((v6 ++ ([(ByteArray.mk #[33]) ++ ((gt x5 v7).1)] : List (ByteArray))).length)), (6, .sl 2 0 x5.length), (7, .v (.int .i64 (IntKind.wrap .i64 (v7 + 1))))], [(0, .box [.v (.int .i64 p3), .v (.int .i64 p4)]), (1, .arr 1 (List.map enc_s v6 ++ List.map enc_s ([(ByteArray.mk #[33]) ++ ((gt x5 v7).1)] : List (ByteArray)))), (2, .arr 2 (List.map enc_si x5))]⟩) (by kernel_rfl)) ?_
          refine Wk.trans (Wk.of_eq (congrArg (fun z => (⟨[(3, .pt 0 0), (5, .sl 1 0 ((v6 ++ ([(ByteArray.mk #[33]) ++ ((gt x5 v7).1)] : List (ByteArray))).length)), (6, .sl 2 0 x5.length), (7, .v (.int .i64 (IntKind.wrap .i64 (v7 + 1))))], [(0, .box [.v (.int .i64 p3), .v (.int .i64 p4)]), (1, .arr 1 (z)), (2, .arr 2 (List.map enc_si x5))]⟩ : S)) (app_can (enc := enc_s) rfl (rfl) : List.map enc_s v6 ++ List.map enc_s ([(ByteArray.mk #[33]) ++ ((gt x5 v7).1)] : List (ByteArray)) = List.map enc_s (v6 ++ ([(ByteArray.mk #[33]) ++ ((gt x5 v7).1)] : List (ByteArray)))))) ?_
          exact Wk.refl _
        · replace h := cd_f b12 h
          refine AX.condF (decide (0 < x10)) (by kernel_rfl) b12 ?_
          refine AX.skip ?_
          refine AX.reg (its := [.auto {}, .auto { raw := true }]) [3, 5, 6, 7] [0, 1, 2] (s1 := ⟨[(3, .pt 0 0), (5, .sl 1 0 v6.length), (6, .sl 2 0 x5.length), (7, .v (.int .i64 (IntKind.wrap .i64 (v7 + 1))))], [(0, .box [.v (.int .i64 p3), .v (.int .i64 p4)]), (1, .arr 1 (List.map enc_s v6)), (2, .arr 2 (List.map enc_si x5))]⟩) (C := True) (by kernel_rfl) trivial trivial ?_
          refine ⟨(fu, (v6, IntKind.wrap .i64 (v7 + 1))), h, Nat.lt_succ_self _, ?_⟩
          refine Wk.trans (Wk.forget [3, 5, 6, 7] [0, 1, 2] (s' := ⟨[(3, .pt 0 0), (5, .sl 1 0 v6.length), (6, .sl 2 0 x5.length), (7, .v (.int .i64 (IntKind.wrap .i64 (v7 + 1))))], [(0, .box [.v (.int .i64 p3), .v (.int .i64 p4)]), (1, .arr 1 (List.map enc_s v6)), (2, .arr 2 (List.map enc_si x5))]⟩) (by kernel_rfl)) ?_
          exact Wk.refl _
    · replace h := cd_f b2 h
      refine AX.condF (decide (v7 < (x5.length : Int))) (by kernel_rfl) b2 ?_
      refine AX.exit ?_
      refine fin_wk (Wk.swap 0 1 (Nat.le_of_ble_eq_true (by kernel_rfl)) (Nat.le_of_ble_eq_true (by kernel_rfl)) rfl) ?_
      refine fin_wk (Wk.forget [5] [0] (s' := ⟨[(5, .sl 0 0 v6.length)], [(0, .arr 1 (List.map enc_s v6))]⟩) (by kernel_rfl)) ?_
      have hr := Option.some.inj h
      subst hr
      exact ⟨_, Wk.refl _, ⟨rfl, rfl⟩⟩

end Go.Eng
