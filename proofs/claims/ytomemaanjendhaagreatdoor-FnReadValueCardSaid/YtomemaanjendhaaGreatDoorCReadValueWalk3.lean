/- What is proved here: each function keeps to its model, whatever its arguments, wherever the model has an answer. Printed by gen.py. -/
import Derived.Test.YtomemaanjendhaaGreatDoorCReadValueWalk2
import Derived.Test.YtomemaanjendhaaGreatDoorProg
import Derived.Test.YtomemaanjendhaaGreatDoorCReadValueShelf
import Derived.KernelRfl
set_option linter.unusedVariables false
set_option linter.unusedSimpArgs false
set_option linter.unnecessarySimpa false
namespace Go.Eng
open Go Go.Proofs


theorem s_impl_in (p1 : Int) (p2 : Int) (p3 : Int) (r : Bool) (h : m_impl_in p1 p2 p3 = some r) :
    Eng.Spec Tryz.prog 35 [.v (.int .i64 p1), .v (.int .i64 p2), .v (.int .i64 p3)] [] (.v (.bool r)) [] := by
  unfold m_impl_in at h
  refine Eng.Spec.body Tryz.func35 (by kernel_rfl) rfl (by kernel_rfl) ?_
  refine AX.wkpost ?_
  refine AX.seq ?_
  refine AX.reg (its := []) [0, 1, 2] [] (s1 := ⟨[(0, .v (.int .i64 p1)), (1, .v (.int .i64 p2)), (2, .v (.int .i64 p3))], []⟩) (C := True) (by kernel_rfl) trivial trivial ?_
  refine AX.seq ?_
  rcases bool_cases (decide (p2 ≤ p1)) with b1 | b1
  · replace h := cd_t b1 h
    refine AX.reg (its := [.auto {}, .auto {}, .auto { y := some (.v (.bool true)) }]) [6] [] (s1 := ⟨[(6, .v (.bool (decide (p1 ≤ p3))))], []⟩) (C := ((True) ∧ ((.v (.bool (decide (p2 ≤ p1))) : AV) = (.v (.bool true) : AV))) ∧ True) (by kernel_rfl) ⟨⟨trivial, (congrArg (fun z => AV.v (.bool z)) b1)⟩, trivial⟩ trivial ?_
    refine AX.ret ?_
    refine fin_wk (Wk.forget [6] [] (s' := ⟨[(6, .v (.bool (decide (p1 ≤ p3))))], []⟩) (by kernel_rfl)) ?_
    have hr := Option.some.inj h
    subst hr
    exact ⟨_, Wk.refl _, .inr rfl, ⟨[], by kernel_rfl, trivial, [.v (.bool (decide (p1 ≤ p3)))], by kernel_rfl, by kernel_rfl⟩⟩
  · replace h := cd_f b1 h
    refine AX.reg (its := [.auto {}, .auto {}, .auto { y := some (.v (.bool false)) }]) [6] [] (s1 := ⟨[(6, .v (.bool false))], []⟩) (C := ((True) ∧ ((.v (.bool (decide (p2 ≤ p1))) : AV) = (.v (.bool false) : AV))) ∧ True) (by kernel_rfl) ⟨⟨trivial, (congrArg (fun z => AV.v (.bool z)) b1)⟩, trivial⟩ trivial ?_
    refine AX.ret ?_
    refine fin_wk (Wk.forget [6] [] (s' := ⟨[(6, .v (.bool false))], []⟩) (by kernel_rfl)) ?_
    have hr := Option.some.inj h
    subst hr
    exact ⟨_, Wk.refl _, .inr rfl, ⟨[], by kernel_rfl, trivial, [.v (.bool false)], by kernel_rfl, by kernel_rfl⟩⟩

theorem s_impl_ValidName_L1 (p1 : ByteArray) (n : Nat) (g : Int) (out : Unit ⊕ Unit) (h : m_impl_ValidName_L1 p1 n g = some out) :
    AX Tryz.prog 23 0 (codeAt [1, 0, 1, 1] (bodyOf Tryz.f100)) ((fun g : Int => (⟨[(0, .v (.string p1)), (3, .v (.int .i64 g))], []⟩ : S)) g) (fun ex s => (∃ o : Unit, out = Sum.inl o ∧ ex = .ret ∧ s = ⟨[(2, .v (.bool false))], []⟩) ∨ (∃ o : Unit, out = Sum.inr o ∧ ex = .exit 0 ∧ s = ⟨[(0, .v (.string p1))], []⟩)) := by
  refine AX.wkpost ?_
  refine AX.loop (G := Nat × (Int)) (fun q => (fun g : Int => (⟨[(0, .v (.string p1)), (3, .v (.int .i64 g))], []⟩ : S)) q.2) (fun q => m_impl_ValidName_L1 p1 q.1 q.2 = some out) (fun q => q.1) (n, g) h (Wk.refl _) ?_
  clear h
  rintro ⟨fu, v2⟩ h
  cases fu with
  | zero => cases h
  | succ fu =>
    rw [m_impl_ValidName_L1] at h
    refine AX.seq ?_
    refine AX.seq ?_
    refine AX.reg (its := []) [0, 3, 7] [] (s1 := ⟨[(0, .v (.string p1)), (3, .v (.int .i64 v2)), (7, .v (.bool (decide (v2 < (p1.size : Int)))))], []⟩) (C := True) (by kernel_rfl) trivial trivial ?_
    rcases bool_cases (decide (v2 < (p1.size : Int))) with b1 | b1
    · replace h := cd_t b1 h
      refine AX.condT (decide (v2 < (p1.size : Int))) (by kernel_rfl) b1 ?_
      refine AX.skip ?_
      refine AX.seq ?_
      refine AX.block ?_
      refine AX.seq ?_
      obtain ⟨g2, h⟩ := gd_e h
      rcases bool_cases (decide ((byteAt p1 v2.toNat) < 97)) with b3 | b3
      · replace h := cd_t b3 h
        refine AX.reg (its := [.auto {}, .auto {}, .auto {}, .auto { y := some (.v (.bool true)) }]) [0, 3, 19] [] (s1 := ⟨[(0, .v (.string p1)), (3, .v (.int .i64 v2)), (19, .v (.bool true))], []⟩) (C := (0 ≤ v2 ∧ v2 < (p1.size : Int)) ∧ ((True) ∧ ((.v (.bool (decide ((byteAt p1 v2.toNat) < 97))) : AV) = (.v (.bool true) : AV))) ∧ True) (by kernel_rfl) ⟨g2, ⟨⟨trivial, (congrArg (fun z => AV.v (.bool z)) b3)⟩, trivial⟩⟩ trivial ?_
        refine AX.cond_true (by kernel_rfl) ?_
        refine AX.seq ?_
        refine AX.reg (its := []) [2] [] (s1 := ⟨[(2, .v (.bool false))], []⟩) (C := True) (by kernel_rfl) trivial trivial ?_
        refine AX.ret ?_
        refine fin_wk (Wk.forget [2] [] (s' := ⟨[(2, .v (.bool false))], []⟩) (by kernel_rfl)) ?_
        have hr := Option.some.inj h
        subst hr
        exact ⟨_, Wk.refl _, .inl ⟨(), rfl, rfl, rfl⟩⟩
      · replace h := cd_f b3 h
        refine AX.reg (its := [.auto {}, .auto {}, .auto {}, .auto { y := some (.v (.bool false)) }]) [0, 3, 19] [] (s1 := ⟨[(0, .v (.string p1)), (3, .v (.int .i64 v2)), (19, .v (.bool (decide (122 < (byteAt p1 v2.toNat)))))], []⟩) (C := (0 ≤ v2 ∧ v2 < (p1.size : Int)) ∧ ((True) ∧ ((.v (.bool (decide ((byteAt p1 v2.toNat) < 97))) : AV) = (.v (.bool false) : AV))) ∧ (0 ≤ v2 ∧ v2 < (p1.size : Int)) ∧ True) (by kernel_rfl) ⟨g2, ⟨⟨trivial, (congrArg (fun z => AV.v (.bool z)) b3)⟩, ⟨g2, trivial⟩⟩⟩ trivial ?_
        rcases bool_cases (decide (122 < (byteAt p1 v2.toNat))) with b4 | b4
        · replace h := cd_t b4 h
          refine AX.condT (decide (122 < (byteAt p1 v2.toNat))) (by kernel_rfl) b4 ?_
          refine AX.seq ?_
          refine AX.reg (its := []) [2] [] (s1 := ⟨[(2, .v (.bool false))], []⟩) (C := True) (by kernel_rfl) trivial trivial ?_
          refine AX.ret ?_
          refine fin_wk (Wk.forget [2] [] (s' := ⟨[(2, .v (.bool false))], []⟩) (by kernel_rfl)) ?_
          have hr := Option.some.inj h
          subst hr
          exact ⟨_, Wk.refl _, .inl ⟨(), rfl, rfl, rfl⟩⟩
        · replace h := cd_f b4 h
          refine AX.condF (decide (122 < (byteAt p1 v2.toNat))) (by kernel_rfl) b4 ?_
          refine AX.skip ?_
          refine AX.reg (its := [.auto {}, .auto { raw := true }]) [0, 3] [] (s1 := ⟨[(0, .v (.string p1)), (3, .v (.int .i64 (IntKind.wrap .i64 (v2 + 1))))], []⟩) (C := True) (by kernel_rfl) trivial trivial ?_
          refine ⟨(fu, IntKind.wrap .i64 (v2 + 1)), h, Nat.lt_succ_self _, ?_⟩
          refine Wk.trans (Wk.forget [0, 3] [] (s' := ⟨[(0, .v (.string p1)), (3, .v (.int .i64 (IntKind.wrap .i64 (v2 + 1))))], []⟩) (by kernel_rfl)) ?_
          exact Wk.refl _
    · replace h := cd_f b1 h
      refine AX.condF (decide (v2 < (p1.size : Int))) (by kernel_rfl) b1 ?_
      refine AX.exit ?_
      refine fin_wk (Wk.forget [0] [] (s' := ⟨[(0, .v (.string p1))], []⟩) (by kernel_rfl)) ?_
      have hr := Option.some.inj h
      subst hr
      exact ⟨_, Wk.refl _, .inr ⟨(), rfl, rfl, rfl⟩⟩

theorem s_impl_ValidName (p1 : ByteArray) (r : Bool) (h : m_impl_ValidName p1 = some r) :
    Eng.Spec Tryz.prog 100 [.v (.string p1)] [] (.v (.bool r)) [] := by
  unfold m_impl_ValidName at h
  refine Eng.Spec.body Tryz.func100 (by kernel_rfl) rfl (by kernel_rfl) ?_
  refine AX.wkpost ?_
  refine AX.seq ?_
  refine AX.reg (its := []) [0] [] (s1 := ⟨[(0, .v (.string p1))], []⟩) (C := True) (by kernel_rfl) trivial trivial ?_
  refine AX.seq ?_
  refine AX.seq ?_
  refine AX.reg (its := []) [0, 3] [] (s1 := ⟨[(0, .v (.string p1)), (3, .v (.int .i64 0))], []⟩) (C := True) (by kernel_rfl) trivial trivial ?_
  refine AX.block ?_
  obtain ⟨x3, e5, h⟩ := bd_e h
  refine AX.wk (Wk.forget [0, 3] [] (s' := ⟨[(0, .v (.string p1)), (3, .v (.int .i64 0))], []⟩) (by kernel_rfl)) ?_
  refine AX.mono (s_impl_ValidName_L1 p1 FU 0 x3 e5) ?_
  rintro _ _ (⟨x4, rfl, rfl, rfl⟩ | ⟨x5, rfl, rfl, rfl⟩)
  · replace h := sm_l h
    refine fin_wk (Wk.forget [2] [] (s' := ⟨[(2, .v (.bool false))], []⟩) (by kernel_rfl)) ?_
    have hr := Option.some.inj h
    subst hr
    exact ⟨_, Wk.refl _, .inr rfl, ⟨[], by kernel_rfl, trivial, [.v (.bool false)], by kernel_rfl, by kernel_rfl⟩⟩
  · replace h := sm_r h
    refine AX.seq ?_
    obtain ⟨x6, e6, h⟩ := bd_e h
    refine AX.reg (its := [.auto {}, .auto {}, .call 35 [.v (.int .i64 (p1.size : Int)), .v (.int .i64 1), .v (.int .i64 6)] (handO (rho ([] ++ [])) [] [] ++ []) (callEv [] [] (.v (.bool x6)) [])]) [2] [] (s1 := ⟨[(2, .v (.bool x6))], []⟩) (C := ((([.v (.int .i64 (p1.size : Int)), .v (.int .i64 1), .v (.int .i64 6)] : List AV) = [.v (.int .i64 (p1.size : Int)), .v (.int .i64 1), .v (.int .i64 6)]) ∧ True) ∧ True) (by kernel_rfl) ⟨⟨rfl, trivial⟩, trivial⟩ ⟨call_ok (ks := []) (ns := []) (bor := []) (bobjs := []) (s_impl_in (p1.size : Int) 1 6 x6 e6) (.cons (.c1 (.c0 (.same _ (by kernel_rfl) (by kernel_rfl)))) (.cons (.c1 (.c0 (.same _ (by kernel_rfl) (by kernel_rfl)))) (.cons (.c1 (.c0 (.same _ (by kernel_rfl) (by kernel_rfl)))) (.nil)))) (by kernel_rfl) trivial, trivial⟩ ?_
    refine AX.ret ?_
    refine fin_wk (Wk.forget [2] [] (s' := ⟨[(2, .v (.bool x6))], []⟩) (by kernel_rfl)) ?_
    have hr := Option.some.inj h
    subst hr
    exact ⟨_, Wk.refl _, .inr rfl, ⟨[], by kernel_rfl, trivial, [.v (.bool x6)], by kernel_rfl, by kernel_rfl⟩⟩

theorem s_impl_named_1_l (p1 : ByteArray) (p2 : Int) (p3 : ByteArray) (r : Unit) (h : m_impl_named_1_l p1 p2 p3 = some r) :
    Eng.Spec Tryz.prog 68 [.agg [.v (.string p1), .v (.int .i64 p2)], .bp [.v (.string p3)] 0] [] (.v (.bool (decide (p1 = p3)))) [] := by
  unfold m_impl_named_1_l at h
  refine Eng.Spec.body Tryz.func68 (by kernel_rfl) rfl (by kernel_rfl) ?_
  refine AX.wkpost ?_
  refine AX.seq ?_
  refine AX.reg (its := [.auto { nk := 0 }]) [1, 2] [0] (s1 := ⟨[(1, .bp [.v (.string p3)] 0), (2, .pt 0 0)], [(0, .box [.v (.string p1), .v (.int .i64 p2)])]⟩) (C := True) (by kernel_rfl) trivial trivial ?_
  refine AX.seq ?_
  refine AX.reg (its := []) [3] [] (s1 := ⟨[(3, .v (.bool (decide (p1 = p3))))], []⟩) (C := True) (by kernel_rfl) trivial trivial ?_
  refine AX.ret ?_
  refine fin_wk (Wk.forget [3] [] (s' := ⟨[(3, .v (.bool (decide (p1 = p3))))], []⟩) (by kernel_rfl)) ?_
  have hr := Option.some.inj h
  subst hr
  exact ⟨_, Wk.refl _, .inr rfl, ⟨[], by kernel_rfl, trivial, [.v (.bool (decide (p1 = p3)))], by kernel_rfl, by kernel_rfl⟩⟩

theorem s_slices_IndexFunc_si_named_1_l_L1 (p1 : List (ByteArray × Int)) (p2 : ByteArray) (n : Nat) (g : Int) (out : Int ⊕ Unit) (h : m_slices_IndexFunc_si_named_1_l_L1 p1 p2 n g = some out) :
    AX Tryz.prog 19 0 (codeAt [1, 0, 1, 1] (bodyOf Tryz.f67)) ((fun g : Int => (⟨[(0, .bs false 2 (List.map enc_si p1)), (1, .fn 68 [.bp [.v (.string p2)] 0]), (7, .v (.int .i64 (p1.length : Int))), (8, .v (.int .i64 g))], []⟩ : S)) g) (fun ex s => (∃ o : Int, out = Sum.inl o ∧ ex = .ret ∧ s = ⟨[(4, .v (.int .i64 o))], []⟩) ∨ (∃ o : Unit, out = Sum.inr o ∧ ex = .exit 0 ∧ s = ⟨[], []⟩)) := by
  refine AX.wkpost ?_
  refine AX.loop (G := Nat × (Int)) (fun q => (fun g : Int => (⟨[(0, .bs false 2 (List.map enc_si p1)), (1, .fn 68 [.bp [.v (.string p2)] 0]), (7, .v (.int .i64 (p1.length : Int))), (8, .v (.int .i64 g))], []⟩ : S)) q.2) (fun q => m_slices_IndexFunc_si_named_1_l_L1 p1 p2 q.1 q.2 = some out) (fun q => q.1) (n, g) h (Wk.refl _) ?_
  clear h
  rintro ⟨fu, v3⟩ h
  cases fu with
  | zero => cases h
  | succ fu =>
    rw [m_slices_IndexFunc_si_named_1_l_L1] at h
    refine AX.seq ?_
    refine AX.reg (its := []) [0, 1, 7, 8, 9] [] (s1 := ⟨[(0, .bs false 2 (List.map enc_si p1)), (1, .fn 68 [.bp [.v (.string p2)] 0]), (7, .v (.int .i64 (p1.length : Int))), (8, .v (.int .i64 v3)), (9, .v (.bool (decide (v3 < (p1.length : Int)))))], []⟩) (C := True) (by kernel_rfl) trivial trivial ?_
    refine AX.seq ?_
    rcases bool_cases (decide (v3 < (p1.length : Int))) with b1 | b1
    · replace h := cd_t b1 h
      refine AX.condT (decide (v3 < (p1.length : Int))) (by kernel_rfl) b1 ?_
      refine AX.skip ?_
      refine AX.seq ?_
      refine AX.block ?_
      refine AX.seq ?_
      refine AX.reg (its := []) [0, 1, 5, 7, 8] [] (s1 := ⟨[(0, .bs false 2 (List.map enc_si p1)), (1, .fn 68 [.bp [.v (.string p2)] 0]), (5, .v (.int .i64 v3)), (7, .v (.int .i64 (p1.length : Int))), (8, .v (.int .i64 v3))], []⟩) (C := True) (by kernel_rfl) trivial trivial ?_
      refine AX.seq ?_
      obtain ⟨g2, h⟩ := gd_e h
      obtain ⟨x4, e3, h⟩ := bd_e h
      refine AX.reg (its := [.auto {}, .auto {}, .auto {}, .auto { y := some (.be 2 (enc_si (gt p1 v3)) 0) }, .auto {}, .call 68 [.agg [.v (.string ((gt p1 v3).1)), .v (.int .i64 ((gt p1 v3).2))], .bp [.v (.string p2)] 0] (handO (rho ([] ++ [])) [] [] ++ []) (callEv [] [] (.v (.bool (decide (((gt p1 v3).1) = p2)))) [])]) [0, 1, 5, 7, 8, 16] [] (s1 := ⟨[(0, .bs false 2 (List.map enc_si p1)), (1, .fn 68 [.bp [.v (.string p2)] 0]), (5, .v (.int .i64 v3)), (7, .v (.int .i64 (p1.length : Int))), (8, .v (.int .i64 v3)), (16, .v (.bool (decide (((gt p1 v3).1) = p2))))], []⟩) (C := ((0 ≤ v3 ∧ v3 < ((List.map enc_si p1).length : Int)) ∧ (AV.be 2 ((List.map enc_si p1).getD v3.toNat []) 0 = AV.be 2 (enc_si (gt p1 v3)) 0)) ∧ ((([.agg [.v (.string ((gt p1 v3).1)), .v (.int .i64 ((gt p1 v3).2))], .bp [.v (.string p2)] 0] : List AV) = [.agg [.v (.string ((gt p1 v3).1)), .v (.int .i64 ((gt p1 v3).2))], .bp [.v (.string p2)] 0]) ∧ True) ∧ True) (by kernel_rfl) ⟨idx_bs enc_si p1 v3 2 g2, ⟨⟨rfl, trivial⟩, trivial⟩⟩ ⟨call_ok (ks := []) (ns := []) (bor := []) (bobjs := []) (s_impl_named_1_l ((gt p1 v3).1) ((gt p1 v3).2) p2 x4 e3) (.cons (.c1 (.agg (.cons (.same _ (by kernel_rfl) (by kernel_rfl)) (.cons (.same _ (by kernel_rfl) (by kernel_rfl)) (.nil))))) (.cons (.c1 (.bp (.cons (.same _ (by kernel_rfl) (by kernel_rfl)) (.nil)))) (.nil))) (by kernel_rfl) trivial, trivial⟩ ?_
      rcases bool_cases (decide (((gt p1 v3).1) = p2)) with b4 | b4
      · replace h := cd_t b4 h
        refine AX.condT (decide (((gt p1 v3).1) = p2)) (by kernel_rfl) b4 ?_
        refine AX.seq ?_
        refine AX.reg (its := []) [4] [] (s1 := ⟨[(4, .v (.int .i64 v3))], []⟩) (C := True) (by kernel_rfl) trivial trivial ?_
        refine AX.ret ?_
        refine fin_wk (Wk.forget [4] [] (s' := ⟨[(4, .v (.int .i64 v3))], []⟩) (by kernel_rfl)) ?_
        have hr := Option.some.inj h
        subst hr
        exact ⟨_, Wk.refl _, .inl ⟨v3, rfl, rfl, rfl⟩⟩
      · replace h := cd_f b4 h
        refine AX.condF (decide (((gt p1 v3).1) = p2)) (by kernel_rfl) b4 ?_
        refine AX.skip ?_
        refine AX.reg (its := [.auto { raw := true }]) [0, 1, 7, 8] [] (s1 := ⟨[(0, .bs false 2 (List.map enc_si p1)), (1, .fn 68 [.bp [.v (.string p2)] 0]), (7, .v (.int .i64 (p1.length : Int))), (8, .v (.int .i64 (IntKind.wrap .i64 (v3 + 1))))], []⟩) (C := True) (by kernel_rfl) trivial trivial ?_
        refine ⟨(fu, IntKind.wrap .i64 (v3 + 1)), h, Nat.lt_succ_self _, ?_⟩
        refine Wk.trans (Wk.forget [0, 1, 7, 8] [] (s' := ⟨[(0, .bs false 2 (List.map enc_si p1)), (1, .fn 68 [.bp [.v (.string p2)] 0]), (7, .v (.int .i64 (p1.length : Int))), (8, .v (.int .i64 (IntKind.wrap .i64 (v3 + 1))))], []⟩) (by kernel_rfl)) ?_
        exact Wk.refl _
    · replace h := cd_f b1 h
      refine AX.condF (decide (v3 < (p1.length : Int))) (by kernel_rfl) b1 ?_
      refine AX.exit ?_
      refine fin_wk (Wk.forget [] [] (s' := ⟨[], []⟩) (by kernel_rfl)) ?_
      have hr := Option.some.inj h
      subst hr
      exact ⟨_, Wk.refl _, .inr ⟨(), rfl, rfl, rfl⟩⟩

theorem s_slices_IndexFunc_si_named_1_l (p1 : List (ByteArray × Int)) (p2 : ByteArray) (r : Int) (h : m_slices_IndexFunc_si_named_1_l p1 p2 = some r) :
    Eng.Spec Tryz.prog 67 [.bs false 2 (List.map enc_si p1), .fn 68 [.bp [.v (.string p2)] 0]] [] (.v (.int .i64 r)) [] := by
  unfold m_slices_IndexFunc_si_named_1_l at h
  refine Eng.Spec.body Tryz.func67 (by kernel_rfl) rfl (by kernel_rfl) ?_
  refine AX.wkpost ?_
  refine AX.seq ?_
  refine AX.reg (its := []) [0, 1] [] (s1 := ⟨[(0, .bs false 2 (List.map enc_si p1)), (1, .fn 68 [.bp [.v (.string p2)] 0])], []⟩) (C := True) (by kernel_rfl) trivial trivial ?_
  refine AX.seq ?_
  refine AX.seq ?_
  refine AX.reg (its := [.auto {}, .auto { y := some (.v (.int .i64 (p1.length : Int))) }]) [0, 1, 7, 8] [] (s1 := ⟨[(0, .bs false 2 (List.map enc_si p1)), (1, .fn 68 [.bp [.v (.string p2)] 0]), (7, .v (.int .i64 (p1.length : Int))), (8, .v (.int .i64 0))], []⟩) (C := (True ∧ (AV.v (.int .i64 ((List.map enc_si p1).length : Int)) = AV.v (.int .i64 (p1.length : Int)))) ∧ True) (by kernel_rfl) ⟨⟨trivial, len_map enc_si p1⟩, trivial⟩ trivial ?_
  refine AX.block ?_
  obtain ⟨x5, e5, h⟩ := bd_e h
  refine AX.wk (Wk.forget [0, 1, 7, 8] [] (s' := ⟨[(0, .bs false 2 (List.map enc_si p1)), (1, .fn 68 [.bp [.v (.string p2)] 0]), (7, .v (.int .i64 (p1.length : Int))), (8, .v (.int .i64 0))], []⟩) (by kernel_rfl)) ?_
  refine AX.mono (s_slices_IndexFunc_si_named_1_l_L1 p1 p2 FU 0 x5 e5) ?_
  rintro _ _ (⟨x6, rfl, rfl, rfl⟩ | ⟨x7, rfl, rfl, rfl⟩)
  · replace h := sm_l h
    refine fin_wk (Wk.forget [4] [] (s' := ⟨[(4, .v (.int .i64 x6))], []⟩) (by kernel_rfl)) ?_
    have hr := Option.some.inj h
    subst hr
    exact ⟨_, Wk.refl _, .inr rfl, ⟨[], by kernel_rfl, trivial, [.v (.int .i64 x6)], by kernel_rfl, by kernel_rfl⟩⟩
  · replace h := sm_r h
    refine AX.seq ?_
    refine AX.reg (its := []) [4] [] (s1 := ⟨[(4, .v (.int .i64 (-1)))], []⟩) (C := True) (by kernel_rfl) trivial trivial ?_
    refine AX.ret ?_
    refine fin_wk (Wk.forget [4] [] (s' := ⟨[(4, .v (.int .i64 (-1)))], []⟩) (by kernel_rfl)) ?_
    have hr := Option.some.inj h
    subst hr
    exact ⟨_, Wk.refl _, .inr rfl, ⟨[], by kernel_rfl, trivial, [.v (.int .i64 (-1))], by kernel_rfl, by kernel_rfl⟩⟩

theorem s_impl_named (p1 : List (ByteArray × Int)) (p2 : ByteArray) (r : Int) (h : m_impl_named p1 p2 = some r) :
    Eng.Spec Tryz.prog 33 [.bs false 2 (List.map enc_si p1), .v (.string p2)] [] (.v (.int .i64 r)) [] := by
  unfold m_impl_named at h
  refine Eng.Spec.body Tryz.func33 (by kernel_rfl) rfl (by kernel_rfl) ?_
  refine AX.wkpost ?_
  refine AX.seq ?_
  refine AX.reg (its := [.auto { nk := 0 }]) [0, 3] [0] (s1 := ⟨[(0, .bs false 2 (List.map enc_si p1)), (3, .pt 0 0)], [(0, .box [.v (.string p2)])]⟩) (C := True) (by kernel_rfl) trivial trivial ?_
  refine AX.seq ?_
  obtain ⟨x3, e1, h⟩ := bd_e h
  refine AX.reg (its := [.auto {}, .auto {}, .call 67 [.bs false 2 (List.map enc_si p1), .fn 68 [.pt 0 0]] (handO (rho ([] ++ [])) [] [] ++ [(0, .box [.v (.string p2)])]) (callEv [] [] (.v (.int .i64 x3)) [])]) [4] [] (s1 := ⟨[(4, .v (.int .i64 x3))], []⟩) (C := ((([.bs false 2 (List.map enc_si p1), .fn 68 [.pt 0 0]] : List AV) = [.bs false 2 (List.map enc_si p1), .fn 68 [.pt 0 0]]) ∧ (AO.box [.v (.string p2)] = AO.box [.v (.string p2)]) ∧ True) ∧ True) (by kernel_rfl) ⟨⟨rfl, rfl, trivial⟩, trivial⟩ ⟨call_ok (ks := []) (ns := []) (bor := [0]) (bobjs := [(0, .box [.v (.string p2)])]) (s_slices_IndexFunc_si_named_1_l p1 p2 x3 e1) (.cons (.c1 (.c0 (.same _ (by kernel_rfl) (by kernel_rfl)))) (.cons (.fn (.cons (.box rfl rfl (.cons (.same _ (by kernel_rfl) (by kernel_rfl)) (.nil))) (.nil))) (.nil))) (by kernel_rfl) trivial, trivial⟩ ?_
  refine AX.ret ?_
  refine fin_wk (Wk.forget [4] [] (s' := ⟨[(4, .v (.int .i64 x3))], []⟩) (by kernel_rfl)) ?_
  have hr := Option.some.inj h
  subst hr
  exact ⟨_, Wk.refl _, .inr rfl, ⟨[], by kernel_rfl, trivial, [.v (.int .i64 x3)], by kernel_rfl, by kernel_rfl⟩⟩

theorem s_impl_defsValid_L1 (p1 : List (ByteArray × Int)) (p2 : Int) (p3 : Int) (n : Nat) (g : Int) (out : Unit ⊕ Unit) (h : m_impl_defsValid_L1 p1 p2 p3 n g = some out) :
    AX Tryz.prog 41 0 (codeAt [1, 0, 1, 1] (bodyOf Tryz.f65)) ((fun g : Int => (⟨[(0, .bs false 2 (List.map enc_si p1)), (1, .v (.int .i64 p2)), (2, .v (.int .i64 p3)), (9, .bs false 2 (List.map enc_si p1)), (10, .v (.int .i64 (p1.length : Int))), (11, .v (.int .i64 g))], []⟩ : S)) g) (fun ex s => (∃ o : Unit, out = Sum.inl o ∧ ex = .ret ∧ s = ⟨[(6, .v (.bool false))], []⟩) ∨ (∃ o : Unit, out = Sum.inr o ∧ ex = .exit 0 ∧ s = ⟨[(0, .bs false 2 (List.map enc_si p1))], []⟩)) := by
  refine AX.wkpost ?_
  refine AX.loop (G := Nat × (Int)) (fun q => (fun g : Int => (⟨[(0, .bs false 2 (List.map enc_si p1)), (1, .v (.int .i64 p2)), (2, .v (.int .i64 p3)), (9, .bs false 2 (List.map enc_si p1)), (10, .v (.int .i64 (p1.length : Int))), (11, .v (.int .i64 g))], []⟩ : S)) q.2) (fun q => m_impl_defsValid_L1 p1 p2 p3 q.1 q.2 = some out) (fun q => q.1) (n, g) h (Wk.refl _) ?_
  clear h
  rintro ⟨fu, v4⟩ h
  cases fu with
  | zero => cases h
  | succ fu =>
    rw [m_impl_defsValid_L1] at h
    refine AX.seq ?_
    refine AX.reg (its := []) [0, 1, 2, 9, 10, 11, 12] [] (s1 := ⟨[(0, .bs false 2 (List.map enc_si p1)), (1, .v (.int .i64 p2)), (2, .v (.int .i64 p3)), (9, .bs false 2 (List.map enc_si p1)), (10, .v (.int .i64 (p1.length : Int))), (11, .v (.int .i64 v4)), (12, .v (.bool (decide (v4 < (p1.length : Int)))))], []⟩) (C := True) (by kernel_rfl) trivial trivial ?_
    refine AX.seq ?_
    rcases bool_cases (decide (v4 < (p1.length : Int))) with b1 | b1
    · replace h := cd_t b1 h
      refine AX.condT (decide (v4 < (p1.length : Int))) (by kernel_rfl) b1 ?_
      refine AX.skip ?_
      refine AX.seq ?_
      refine AX.block ?_
      refine AX.seq ?_
      obtain ⟨g2, h⟩ := gd_e h
      refine AX.reg (its := [.auto {}, .auto { y := some (.be 2 (enc_si (gt p1 v4)) 0) }, .auto {}, .auto { nk := 0 }]) [0, 1, 2, 7, 8, 9, 10, 11] [0] (s1 := ⟨[(0, .bs false 2 (List.map enc_si p1)), (1, .v (.int .i64 p2)), (2, .v (.int .i64 p3)), (7, .v (.int .i64 v4)), (8, .pt 0 0), (9, .bs false 2 (List.map enc_si p1)), (10, .v (.int .i64 (p1.length : Int))), (11, .v (.int .i64 v4))], [(0, .box [.v (.string ((gt p1 v4).1)), .v (.int .i64 ((gt p1 v4).2))])]⟩) (C := ((0 ≤ v4 ∧ v4 < ((List.map enc_si p1).length : Int)) ∧ (AV.be 2 ((List.map enc_si p1).getD v4.toNat []) 0 = AV.be 2 (enc_si (gt p1 v4)) 0)) ∧ True) (by kernel_rfl) ⟨idx_bs enc_si p1 v4 2 g2, trivial⟩ trivial ?_
      refine AX.seq ?_
      obtain ⟨x5, e3, h⟩ := bd_e h
      rcases bool_cases ((!x5)) with b4 | b4
      · replace h := cd_t b4 h
        refine AX.drw mixed (its := [.auto {}, .auto {}, .call 100 [.v (.string ((gt p1 v4).1))] (handO (rho ([] ++ [])) [] [] ++ []) (callEv [] [] (.v (.bool x5)) []), .auto { y := some (.v (.bool true)) }]) [0, 1, 2, 9, 10, 11, 36] [] (s1 := ⟨[(0, .bs false 2 (List.map enc_si p1)), (1, .v (.int .i64 p2)), (2, .v (.int .i64 p3)), (9, .bs false 2 (List.map enc_si p1)), (10, .v (.int .i64 (p1.length : Int))), (11, .v (.int .i64 v4)), (36, .v (.bool true))], []⟩) (C := ((([.v (.string ((gt p1 v4).1))] : List AV) = [.v (.string ((gt p1 v4).1))]) ∧ True) ∧ ((True) ∧ ((.v (.bool (!x5)) : AV) = (.v (.bool true) : AV))) ∧ True) (by kernel_rfl) ⟨⟨rfl, trivial⟩, ⟨⟨trivial, (congrArg (fun z => AV.v (.bool z)) b4)⟩, trivial⟩⟩ ⟨call_ok (ks := []) (ns := []) (bor := []) (bobjs := []) (s_impl_ValidName ((gt p1 v4).1) x5 e3) (.cons (.c1 (.c0 (.same _ (by kernel_rfl) (by kernel_rfl)))) (.nil)) (by kernel_rfl) trivial, trivial⟩ ?_
        refine AX.cond_true (by kernel_rfl) ?_
        refine AX.seq ?_
        refine AX.reg (its := []) [6] [] (s1 := ⟨[(6, .v (.bool false))], []⟩) (C := True) (by kernel_rfl) trivial trivial ?_
        refine AX.ret ?_
        refine fin_wk (Wk.forget [6] [] (s' := ⟨[(6, .v (.bool false))], []⟩) (by kernel_rfl)) ?_
        have hr := Option.some.inj h
        subst hr
        exact ⟨_, Wk.refl _, .inl ⟨(), rfl, rfl, rfl⟩⟩
      · replace h := cd_f b4 h
        obtain ⟨x6, e5, h⟩ := bd_e h
        rcases bool_cases ((!x6)) with b6 | b6
        · replace h := cd_t b6 h
          refine AX.drw mixed (its := [.auto {}, .auto {}, .call 100 [.v (.string ((gt p1 v4).1))] (handO (rho ([] ++ [])) [] [] ++ []) (callEv [] [] (.v (.bool x5)) []), .auto { y := some (.v (.bool false)) }, .auto {}, .auto {}, .auto {}, .auto {}, .auto {}, .call 35 [.v (.int .i64 ((gt p1 v4).2)), .v (.int .i64 p2), .v (.int .i64 p3)] (handO (rho ([] ++ [])) [] [] ++ []) (callEv [] [] (.v (.bool x6)) []), .auto { y := some (.v (.bool true)) }]) [0, 1, 2, 9, 10, 11, 36] [] (s1 := ⟨[(0, .bs false 2 (List.map enc_si p1)), (1, .v (.int .i64 p2)), (2, .v (.int .i64 p3)), (9, .bs false 2 (List.map enc_si p1)), (10, .v (.int .i64 (p1.length : Int))), (11, .v (.int .i64 v4)), (36, .v (.bool true))], []⟩) (C := ((([.v (.string ((gt p1 v4).1))] : List AV) = [.v (.string ((gt p1 v4).1))]) ∧ True) ∧ ((True) ∧ ((.v (.bool (!x5)) : AV) = (.v (.bool false) : AV))) ∧ ((([.v (.int .i64 ((gt p1 v4).2)), .v (.int .i64 p2), .v (.int .i64 p3)] : List AV) = [.v (.int .i64 ((gt p1 v4).2)), .v (.int .i64 p2), .v (.int .i64 p3)]) ∧ True) ∧ ((True) ∧ ((.v (.bool (!x6)) : AV) = (.v (.bool true) : AV))) ∧ True) (by kernel_rfl) ⟨⟨rfl, trivial⟩, ⟨⟨trivial, (congrArg (fun z => AV.v (.bool z)) b4)⟩, ⟨⟨rfl, trivial⟩, ⟨⟨trivial, (congrArg (fun z => AV.v (.bool z)) b6)⟩, trivial⟩⟩⟩⟩ ⟨call_ok (ks := []) (ns := []) (bor := []) (bobjs := []) (s_impl_ValidName ((gt p1 v4).1) x5 e3) (.cons (.c1 (.c0 (.same _ (by kernel_rfl) (by kernel_rfl)))) (.nil)) (by kernel_rfl) trivial, ⟨call_ok (ks := []) (ns := []) (bor := []) (bobjs := []) (s_impl_in ((gt p1 v4).2) p2 p3 x6 e5) (.cons (.c1 (.c0 (.same _ (by kernel_rfl) (by kernel_rfl)))) (.cons (.c1 (.c0 (.same _ (by kernel_rfl) (by kernel_rfl)))) (.cons (.c1 (.c0 (.same _ (by kernel_rfl) (by kernel_rfl)))) (.nil)))) (by kernel_rfl) trivial, trivial⟩⟩ ?_
          refine AX.cond_true (by kernel_rfl) ?_
          refine AX.seq ?_
          refine AX.reg (its := []) [6] [] (s1 := ⟨[(6, .v (.bool false))], []⟩) (C := True) (by kernel_rfl) trivial trivial ?_
          refine AX.ret ?_
          refine fin_wk (Wk.forget [6] [] (s' := ⟨[(6, .v (.bool false))], []⟩) (by kernel_rfl)) ?_
          have hr := Option.some.inj h
          subst hr
          exact ⟨_, Wk.refl _, .inl ⟨(), rfl, rfl, rfl⟩⟩
        · replace h := cd_f b6 h
          obtain ⟨g7, h⟩ := gd_e h
          obtain ⟨x7, e8, h⟩ := bd_e h
          refine AX.drw mixed (its := [.auto {}, .auto {}, .call 100 [.v (.string ((gt p1 v4).1))] (handO (rho ([] ++ [])) [] [] ++ []) (callEv [] [] (.v (.bool x5)) []), .auto { y := some (.v (.bool false)) }, .auto {}, .auto {}, .auto {}, .auto {}, .auto {}, .call 35 [.v (.int .i64 ((gt p1 v4).2)), .v (.int .i64 p2), .v (.int .i64 p3)] (handO (rho ([] ++ [])) [] [] ++ []) (callEv [] [] (.v (.bool x6)) []), .auto { y := some (.v (.bool false)) }, .auto {}, .auto {}, .auto {}, .auto {}, .auto { y := some (.bs false 2 (List.map enc_si (sub p1 (0 : Int) v4))) }, .auto {}, .auto {}, .call 33 [.bs false 2 (List.map enc_si (sub p1 (0 : Int) v4)), .v (.string ((gt p1 v4).1))] (handO (rho ([] ++ [])) [] [] ++ []) (callEv [] [] (.v (.int .i64 x7)) [])]) [0, 1, 2, 9, 10, 11, 36] [] (s1 := ⟨[(0, .bs false 2 (List.map enc_si p1)), (1, .v (.int .i64 p2)), (2, .v (.int .i64 p3)), (9, .bs false 2 (List.map enc_si p1)), (10, .v (.int .i64 (p1.length : Int))), (11, .v (.int .i64 v4)), (36, .v (.bool (decide (0 ≤ x7))))], []⟩) (C := ((([.v (.string ((gt p1 v4).1))] : List AV) = [.v (.string ((gt p1 v4).1))]) ∧ True) ∧ ((True) ∧ ((.v (.bool (!x5)) : AV) = (.v (.bool false) : AV))) ∧ ((([.v (.int .i64 ((gt p1 v4).2)), .v (.int .i64 p2), .v (.int .i64 p3)] : List AV) = [.v (.int .i64 ((gt p1 v4).2)), .v (.int .i64 p2), .v (.int .i64 p3)]) ∧ True) ∧ ((True) ∧ ((.v (.bool (!x6)) : AV) = (.v (.bool false) : AV))) ∧ ((0 ≤ (0 : Int) ∧ (0 : Int) ≤ v4 ∧ v4 ≤ ((List.map enc_si p1).length : Int) ∧ ((List.map enc_si p1).length : Int) ≤ ((List.map enc_si p1).length : Int)) ∧ (AV.bs false 2 (((List.map enc_si p1).drop (0 : Int).toNat).take (v4.toNat - (0 : Int).toNat)) = (.bs false 2 (List.map enc_si (sub p1 (0 : Int) v4)) : AV))) ∧ ((([.bs false 2 (List.map enc_si (sub p1 (0 : Int) v4)), .v (.string ((gt p1 v4).1))] : List AV) = [.bs false 2 (List.map enc_si (sub p1 (0 : Int) v4)), .v (.string ((gt p1 v4).1))]) ∧ True) ∧ True) (by kernel_rfl) ⟨⟨rfl, trivial⟩, ⟨⟨trivial, (congrArg (fun z => AV.v (.bool z)) b4)⟩, ⟨⟨rfl, trivial⟩, ⟨⟨trivial, (congrArg (fun z => AV.v (.bool z)) b6)⟩, ⟨⟨by first | exact g7 | simpa only [List.length_map] using g7, by first | exact sub_can enc_si p1 (0 : Int) v4 false 2 | (simp only [List.length_map]; exact sub_can enc_si p1 (0 : Int) v4 false 2)⟩, ⟨⟨rfl, trivial⟩, trivial⟩⟩⟩⟩⟩⟩ ⟨call_ok (ks := []) (ns := []) (bor := []) (bobjs := []) (s_impl_ValidName ((gt p1 v4).1) x5 e3) (.cons (.c1 (.c0 (.same _ (by kernel_rfl) (by kernel_rfl)))) (.nil)) (by kernel_rfl) trivial, ⟨call_ok (ks := []) (ns := []) (bor := []) (bobjs := []) (s_impl_in ((gt p1 v4).2) p2 p3 x6 e5) (.cons (.c1 (.c0 (.same _ (by kernel_rfl) (by kernel_rfl)))) (.cons (.c1 (.c0 (.same _ (by kernel_rfl) (by kernel_rfl)))) (.cons (.c1 (.c0 (.same _ (by kernel_rfl) (by kernel_rfl)))) (.nil)))) (by kernel_rfl) trivial, ⟨call_ok (ks := []) (ns := []) (bor := []) (bobjs := []) (s_impl_named (sub p1 (0 : Int) v4) ((gt p1 v4).1) x7 e8) (.cons (.c1 (.c0 (.same _ (by kernel_rfl) (by kernel_rfl)))) (.cons (.c1 (.c0 (.same _ (by kernel_rfl) (by kernel_rfl)))) (.nil))) (by kernel_rfl) trivial, trivial⟩⟩⟩ ?_
          rcases bool_cases (decide (0 ≤ x7)) with b9 | b9
          · replace h := cd_t b9 h
            refine AX.condT (decide (0 ≤ x7)) (by kernel_rfl) b9 ?_
            refine AX.seq ?_
            refine AX.reg (its := []) [6] [] (s1 := ⟨[(6, .v (.bool false))], []⟩) (C := True) (by kernel_rfl) trivial trivial ?_
            refine AX.ret ?_
            refine fin_wk (Wk.forget [6] [] (s' := ⟨[(6, .v (.bool false))], []⟩) (by kernel_rfl)) ?_
            have hr := Option.some.inj h
            subst hr
            exact ⟨_, Wk.refl _, .inl ⟨(), rfl, rfl, rfl⟩⟩
          · replace h := cd_f b9 h
            refine AX.condF (decide (0 ≤ x7)) (by kernel_rfl) b9 ?_
            refine AX.skip ?_
            refine AX.reg (its := [.auto { raw := true }]) [0, 1, 2, 9, 10, 11] [] (s1 := ⟨[(0, .bs false 2 (List.map enc_si p1)), (1, .v (.int .i64 p2)), (2, .v (.int .i64 p3)), (9, .bs false 2 (List.map enc_si p1)), (10, .v (.int .i64 (p1.length : Int))), (11, .v (.int .i64 (IntKind.wrap .i64 (v4 + 1))))], []⟩) (C := True) (by kernel_rfl) trivial trivial ?_
            refine ⟨(fu, IntKind.wrap .i64 (v4 + 1)), h, Nat.lt_succ_self _, ?_⟩
            refine Wk.trans (Wk.forget [0, 1, 2, 9, 10, 11] [] (s' := ⟨[(0, .bs false 2 (List.map enc_si p1)), (1, .v (.int .i64 p2)), (2, .v (.int .i64 p3)), (9, .bs false 2 (List.map enc_si p1)), (10, .v (.int .i64 (p1.length : Int))), (11, .v (.int .i64 (IntKind.wrap .i64 (v4 + 1))))], []⟩) (by kernel_rfl)) ?_
            exact Wk.refl _
    · replace h := cd_f b1 h
      refine AX.condF (decide (v4 < (p1.length : Int))) (by kernel_rfl) b1 ?_
      refine AX.exit ?_
      refine fin_wk (Wk.forget [0] [] (s' := ⟨[(0, .bs false 2 (List.map enc_si p1))], []⟩) (by kernel_rfl)) ?_
      have hr := Option.some.inj h
      subst hr
      exact ⟨_, Wk.refl _, .inr ⟨(), rfl, rfl, rfl⟩⟩

theorem s_impl_defsValid (p1 : List (ByteArray × Int)) (p2 : Int) (p3 : Int) (r : Bool) (h : m_impl_defsValid p1 p2 p3 = some r) :
    Eng.Spec Tryz.prog 65 [.bs false 2 (List.map enc_si p1), .v (.int .i64 p2), .v (.int .i64 p3)] [] (.v (.bool r)) [] := by
  unfold m_impl_defsValid at h
  refine Eng.Spec.body Tryz.func65 (by kernel_rfl) rfl (by kernel_rfl) ?_
  refine AX.wkpost ?_
  refine AX.seq ?_
  refine AX.reg (its := []) [0, 1, 2] [] (s1 := ⟨[(0, .bs false 2 (List.map enc_si p1)), (1, .v (.int .i64 p2)), (2, .v (.int .i64 p3))], []⟩) (C := True) (by kernel_rfl) trivial trivial ?_
  refine AX.seq ?_
  refine AX.seq ?_
  refine AX.reg (its := [.auto {}, .auto { y := some (.v (.int .i64 (p1.length : Int))) }]) [0, 1, 2, 9, 10, 11] [] (s1 := ⟨[(0, .bs false 2 (List.map enc_si p1)), (1, .v (.int .i64 p2)), (2, .v (.int .i64 p3)), (9, .bs false 2 (List.map enc_si p1)), (10, .v (.int .i64 (p1.length : Int))), (11, .v (.int .i64 0))], []⟩) (C := (True ∧ (AV.v (.int .i64 ((List.map enc_si p1).length : Int)) = AV.v (.int .i64 (p1.length : Int)))) ∧ True) (by kernel_rfl) ⟨⟨trivial, len_map enc_si p1⟩, trivial⟩ trivial ?_
  refine AX.block ?_
  obtain ⟨x8, e10, h⟩ := bd_e h
  refine AX.wk (Wk.forget [0, 1, 2, 9, 10, 11] [] (s' := ⟨[(0, .bs false 2 (List.map enc_si p1)), (1, .v (.int .i64 p2)), (2, .v (.int .i64 p3)), (9, .bs false 2 (List.map enc_si p1)), (10, .v (.int .i64 (p1.length : Int))), (11, .v (.int .i64 0))], []⟩) (by kernel_rfl)) ?_
  refine AX.mono (s_impl_defsValid_L1 p1 p2 p3 FU 0 x8 e10) ?_
  rintro _ _ (⟨x9, rfl, rfl, rfl⟩ | ⟨x10, rfl, rfl, rfl⟩)
  · replace h := sm_l h
    refine fin_wk (Wk.forget [6] [] (s' := ⟨[(6, .v (.bool false))], []⟩) (by kernel_rfl)) ?_
    have hr := Option.some.inj h
    subst hr
    exact ⟨_, Wk.refl _, .inr rfl, ⟨[], by kernel_rfl, trivial, [.v (.bool false)], by kernel_rfl, by kernel_rfl⟩⟩
  · replace h := sm_r h
    refine AX.seq ?_
    refine AX.reg (its := [.auto {}, .auto { y := some (.v (.int .i64 (p1.length : Int))) }]) [6] [] (s1 := ⟨[(6, .v (.bool (decide ((p1.length : Int) ≤ 12))))], []⟩) (C := (True ∧ (AV.v (.int .i64 ((List.map enc_si p1).length : Int)) = AV.v (.int .i64 (p1.length : Int)))) ∧ True) (by kernel_rfl) ⟨⟨trivial, len_map enc_si p1⟩, trivial⟩ trivial ?_
    refine AX.ret ?_
    refine fin_wk (Wk.forget [6] [] (s' := ⟨[(6, .v (.bool (decide ((p1.length : Int) ≤ 12))))], []⟩) (by kernel_rfl)) ?_
    have hr := Option.some.inj h
    subst hr
    exact ⟨_, Wk.refl _, .inr rfl, ⟨[], by kernel_rfl, trivial, [.v (.bool (decide ((p1.length : Int) ≤ 12)))], by kernel_rfl, by kernel_rfl⟩⟩

theorem s_impl_ValidFlag (p1 : List (ByteArray × Int)) (p2 : Int) (r : Bool) (h : m_impl_ValidFlag p1 p2 = some r) :
    Eng.Spec Tryz.prog 31 [.agg [.bs false 2 (List.map enc_si p1), .v (.int .i64 p2)]] [] (.v (.bool r)) [] := by
  unfold m_impl_ValidFlag at h
  refine Eng.Spec.body Tryz.func31 (by kernel_rfl) rfl (by kernel_rfl) ?_
  refine AX.wkpost ?_
  refine AX.seq ?_
  refine AX.reg (its := [.auto { nk := 0 }]) [1] [0] (s1 := ⟨[(1, .pt 0 0)], [(0, .box [.bs false 2 (List.map enc_si p1), .v (.int .i64 p2)])]⟩) (C := True) (by kernel_rfl) trivial trivial ?_
  refine AX.seq ?_
  obtain ⟨x3, e1, h⟩ := bd_e h
  rcases bool_cases (x3) with b2 | b2
  · replace h := cd_t b2 h
    obtain ⟨x4, e3, h⟩ := bd_e h
    refine AX.reg (its := [.auto {}, .auto {}, .call 65 [.bs false 2 (List.map enc_si p1), .v (.int .i64 0), .v (.int .i64 4095)] (handO (rho ([] ++ [])) [] [] ++ []) (callEv [] [] (.v (.bool true)) []), .auto {}, .auto {}, .auto {}, .call 35 [.v (.int .i64 p2), .v (.int .i64 0), .v (.int .i64 3)] (handO (rho ([] ++ [])) [] [] ++ []) (callEv [] [] (.v (.bool x4)) [])]) [2] [] (s1 := ⟨[(2, .v (.bool x4))], []⟩) (C := ((([.bs false 2 (List.map enc_si p1), .v (.int .i64 0), .v (.int .i64 4095)] : List AV) = [.bs false 2 (List.map enc_si p1), .v (.int .i64 0), .v (.int .i64 4095)]) ∧ True) ∧ ((([.v (.int .i64 p2), .v (.int .i64 0), .v (.int .i64 3)] : List AV) = [.v (.int .i64 p2), .v (.int .i64 0), .v (.int .i64 3)]) ∧ True) ∧ True) (by kernel_rfl) ⟨⟨rfl, trivial⟩, ⟨⟨rfl, trivial⟩, trivial⟩⟩ ⟨call_ok (ks := []) (ns := []) (bor := []) (bobjs := []) (show Eng.Spec Tryz.prog 65 [.bs false 2 (List.map enc_si p1), .v (.int .i64 0), .v (.int .i64 4095)] [] (.v (.bool true)) [] from by have q := s_impl_defsValid p1 0 4095 x3 e1; rw [b2] at q; exact q) (.cons (.c1 (.c0 (.same _ (by kernel_rfl) (by kernel_rfl)))) (.cons (.c1 (.c0 (.same _ (by kernel_rfl) (by kernel_rfl)))) (.cons (.c1 (.c0 (.same _ (by kernel_rfl) (by kernel_rfl)))) (.nil)))) (by kernel_rfl) trivial, ⟨call_ok (ks := []) (ns := []) (bor := []) (bobjs := []) (s_impl_in p2 0 3 x4 e3) (.cons (.c1 (.c0 (.same _ (by kernel_rfl) (by kernel_rfl)))) (.cons (.c1 (.c0 (.same _ (by kernel_rfl) (by kernel_rfl)))) (.cons (.c1 (.c0 (.same _ (by kernel_rfl) (by kernel_rfl)))) (.nil)))) (by kernel_rfl) trivial, trivial⟩⟩ ?_
    refine AX.ret ?_
    refine fin_wk (Wk.forget [2] [] (s' := ⟨[(2, .v (.bool x4))], []⟩) (by kernel_rfl)) ?_
    have hr := Option.some.inj h
    subst hr
    exact ⟨_, Wk.refl _, .inr rfl, ⟨[], by kernel_rfl, trivial, [.v (.bool x4)], by kernel_rfl, by kernel_rfl⟩⟩
  · replace h := cd_f b2 h
    refine AX.reg (its := [.auto {}, .auto {}, .call 65 [.bs false 2 (List.map enc_si p1), .v (.int .i64 0), .v (.int .i64 4095)] (handO (rho ([] ++ [])) [] [] ++ []) (callEv [] [] (.v (.bool false)) [])]) [2] [] (s1 := ⟨[(2, .v (.bool false))], []⟩) (C := ((([.bs false 2 (List.map enc_si p1), .v (.int .i64 0), .v (.int .i64 4095)] : List AV) = [.bs false 2 (List.map enc_si p1), .v (.int .i64 0), .v (.int .i64 4095)]) ∧ True) ∧ True) (by kernel_rfl) ⟨⟨rfl, trivial⟩, trivial⟩ ⟨call_ok (ks := []) (ns := []) (bor := []) (bobjs := []) (show Eng.Spec Tryz.prog 65 [.bs false 2 (List.map enc_si p1), .v (.int .i64 0), .v (.int .i64 4095)] [] (.v (.bool false)) [] from by have q := s_impl_defsValid p1 0 4095 x3 e1; rw [b2] at q; exact q) (.cons (.c1 (.c0 (.same _ (by kernel_rfl) (by kernel_rfl)))) (.cons (.c1 (.c0 (.same _ (by kernel_rfl) (by kernel_rfl)))) (.cons (.c1 (.c0 (.same _ (by kernel_rfl) (by kernel_rfl)))) (.nil)))) (by kernel_rfl) trivial, trivial⟩ ?_
    refine AX.ret ?_
    refine fin_wk (Wk.forget [2] [] (s' := ⟨[(2, .v (.bool false))], []⟩) (by kernel_rfl)) ?_
    have hr := Option.some.inj h
    subst hr
    exact ⟨_, Wk.refl _, .inr rfl, ⟨[], by kernel_rfl, trivial, [.v (.bool false)], by kernel_rfl, by kernel_rfl⟩⟩

theorem s_strings_Split (p1 : ByteArray) (p2 : ByteArray) (r : List (ByteArray)) (h : m_strings_Split p1 p2 = some r) :
    Eng.Spec Tryz.prog 32 [.v (.string p1), .v (.string p2)] [] (.sl 0 0 r.length) [.arr 1 (List.map enc_s r)] := by
  unfold m_strings_Split at h
  obtain ⟨g1, h⟩ := gd_e h
  obtain ⟨g2, h⟩ := gd_e h
  have hr := Option.some.inj h
  subst hr
  have e : List.map enc_s (Lib.splitB p2 0 (Lib.countB p1 p2) p1) = ((Lib.splitB p2 0 (Lib.countB p1 p2) p1).map Value.string).map fun x => [x] := by simp [enc_s]
  have hlen := Lib.splitB_all p2 g2 0 _ p1 rfl
  rw [e, show (Lib.splitB p2 0 (Lib.countB p1 p2) p1).length = ((Lib.splitB p2 0 (Lib.countB p1 p2) p1).map Value.string).length by simp]
  refine spec_row (T := 9) ⟨_, Tryz.func32, by kernel_rfl, by kernel_rfl⟩ (by intro x hx; obtain ⟨y, _, rfl⟩ := List.mem_map.1 hx; rfl) ?_
  intro X m vs hv
  simp only [VRs, VR] at hv
  obtain ⟨_, _, rfl, rfl, _, _, rfl, rfl, rfl⟩ := hv
  have hg := (X.hG X.w0 (fun _ _ => rfl)).2
  obtain ⟨mx, hmx⟩ := GX_maxlen hg
  refine (Tryz.strings_Split p1 p2 mx X.w0 g1 hmx g2).mono ?_
  rintro e w' ⟨rfl, rfl⟩
  exact ⟨by rw [List.length_map, hlen], rfl⟩

theorem s_strconv_Atoi (p1 : ByteArray) (r : Int × Bool) (h : m_strconv_Atoi p1 = some r) :
    Eng.Spec Tryz.prog 69 [.v (.string p1)] [] (.tup [.v (.int .i64 r.1), .er r.2]) [] := by
  unfold m_strconv_Atoi at h
  obtain ⟨g1, h⟩ := gd_e h
  have hr := Option.some.inj h
  subst hr
  refine spec_val ⟨_, Tryz.func69, by kernel_rfl, by kernel_rfl⟩ ?_
  intro X m vs hv
  simp only [VRs, VR] at hv
  obtain ⟨_, _, rfl, rfl, rfl⟩ := hv
  have hg := (X.hG X.w0 (fun _ _ => rfl)).2
  rcases ha : Lib.atoiAll p1.data.toList with v | _ | _
  · have e0 : atoiAns p1 = (v, true) := by unfold atoiAns; rw [ha]
    rw [e0]
    refine (Tryz.strconv_Atoi_ok p1 (by omega) v ha X.w0).mono ?_
    rintro e w' ⟨rfl, hw⟩
    refine ⟨_, rfl, fun m sh => ?_, ?_⟩
    · exact vr_int_err ⟨fun _ => rfl, (fun h => by cases h)⟩
    · rcases hw with rfl | ⟨t, rfl⟩
      · exact RowKit.Below.refl _ _
      · exact Lib.bytesWorld_below _ _ _
  · have e0 : atoiAns p1 = (0, false) := by unfold atoiAns; rw [ha]
    rw [e0]
    obtain ⟨ev, h1, h2⟩ := GX_errsyntax hg
    refine (Tryz.strconv_Atoi_syntax p1 g1 ha ev X.w0 h1 h2).mono ?_
    rintro e w' ⟨N, rfl, _, _, hw⟩
    refine ⟨_, rfl, fun m sh => ?_, hw⟩
    exact vr_int_err ⟨(fun h => by cases h), fun _ => ⟨_, _, rfl⟩⟩
  · have e0 : atoiAns p1 = (Lib.atoiSat p1.data.toList, false) := by unfold atoiAns; rw [ha]
    rw [e0]
    obtain ⟨ev, h1, h2⟩ := GX_errrange hg
    refine (Tryz.strconv_Atoi_range p1 g1 ha ev X.w0 h1 h2).mono ?_
    rintro e w' ⟨N, rfl, _, _, hw⟩
    refine ⟨_, rfl, fun m sh => ?_, hw⟩
    exact vr_int_err ⟨(fun h => by cases h), fun _ => ⟨_, _, rfl⟩⟩

theorem s_strconv_Itoa (p1 : Int) (r : ByteArray) (h : m_strconv_Itoa p1 = some r) :
    Eng.Spec Tryz.prog 70 [.v (.int .i64 p1)] [] (.v (.string r)) [] := by
  unfold m_strconv_Itoa at h
  obtain ⟨g1, h⟩ := gd_e h
  have hr := Option.some.inj h
  refine spec_pure (r := .string r) ⟨_, Tryz.func70, by kernel_rfl, by kernel_rfl⟩ (fun X m sh => by simp only [VR]) ?_
  subst hr
  intro X m vs hv
  simp only [VRs, VR] at hv
  obtain ⟨_, _, rfl, rfl, rfl⟩ := hv
  have hg := (X.hG X.w0 (fun _ _ => rfl)).2
  refine (Tryz.strconv_Itoa p1 g1.1 g1.2 X.w0 (GX_pow10 hg)).mono ?_
  rintro e w' ⟨rfl, k, os, rfl⟩
  exact ⟨rfl, Lib.below_grow _ _ (Nat.le_refl _) _ _⟩

theorem s_impl_decimal (p1 : ByteArray) (r : Int × Bool) (h : m_impl_decimal p1 = some r) :
    Eng.Spec Tryz.prog 34 [.v (.string p1)] [] (.tup [.v (.int .i64 r.1), .v (.bool r.2)]) [] := by
  unfold m_impl_decimal at h
  refine Eng.Spec.body Tryz.func34 (by kernel_rfl) rfl (by kernel_rfl) ?_
  refine AX.wkpost ?_
  refine AX.seq ?_
  refine AX.reg (its := []) [0] [] (s1 := ⟨[(0, .v (.string p1))], []⟩) (C := True) (by kernel_rfl) trivial trivial ?_
  refine AX.seq ?_
  obtain ⟨x2, e1, h⟩ := bd_e h
  refine AX.reg (its := [.auto {}, .call 69 [.v (.string p1)] (handO (rho ([] ++ [])) [] [] ++ []) (callEv [] [] (.tup [.v (.int .i64 x2.1), .er x2.2]) [])]) [0, 4, 5] [] (s1 := ⟨[(0, .v (.string p1)), (4, .v (.int .i64 x2.1)), (5, .er x2.2)], []⟩) (C := ((([.v (.string p1)] : List AV) = [.v (.string p1)]) ∧ True) ∧ True) (by kernel_rfl) ⟨⟨rfl, trivial⟩, trivial⟩ ⟨call_ok (ks := []) (ns := []) (bor := []) (bobjs := []) (s_strconv_Atoi p1 x2 e1) (.cons (.c1 (.c0 (.same _ (by kernel_rfl) (by kernel_rfl)))) (.nil)) (by kernel_rfl) trivial, trivial⟩ ?_
  refine AX.seq ?_
  rcases bool_cases (x2.2) with b2 | b2
  · replace h := cd_t b2 h
    obtain ⟨x3, e3, h⟩ := bd_e h
    refine AX.reg (its := [.auto {}, .auto {}, .auto { y := some (.v (.bool true)) }, .auto {}, .auto {}, .call 70 [.v (.int .i64 x2.1)] (handO (rho ([] ++ [])) [] [] ++ []) (callEv [] [] (.v (.string x3)) [])]) [2, 3] [] (s1 := ⟨[(2, .v (.int .i64 x2.1)), (3, .v (.bool (decide (x3 = p1))))], []⟩) (C := ((True) ∧ ((.v (.bool x2.2) : AV) = (.v (.bool true) : AV))) ∧ ((([.v (.int .i64 x2.1)] : List AV) = [.v (.int .i64 x2.1)]) ∧ True) ∧ True) (by kernel_rfl) ⟨⟨trivial, (congrArg (fun z => AV.v (.bool z)) b2)⟩, ⟨⟨rfl, trivial⟩, trivial⟩⟩ ⟨call_ok (ks := []) (ns := []) (bor := []) (bobjs := []) (s_strconv_Itoa x2.1 x3 e3) (.cons (.c1 (.c0 (.same _ (by kernel_rfl) (by kernel_rfl)))) (.nil)) (by kernel_rfl) trivial, trivial⟩ ?_
    refine AX.ret ?_
    refine fin_wk (Wk.forget [2, 3] [] (s' := ⟨[(2, .v (.int .i64 x2.1)), (3, .v (.bool (decide (x3 = p1))))], []⟩) (by kernel_rfl)) ?_
    have hr := Option.some.inj h
    subst hr
    exact ⟨_, Wk.refl _, .inr rfl, ⟨[], by kernel_rfl, trivial, [.v (.int .i64 x2.1), .v (.bool (decide (x3 = p1)))], by kernel_rfl, by kernel_rfl⟩⟩
  · replace h := cd_f b2 h
    refine AX.reg (its := [.auto {}, .auto {}, .auto { y := some (.v (.bool false)) }]) [2, 3] [] (s1 := ⟨[(2, .v (.int .i64 x2.1)), (3, .v (.bool false))], []⟩) (C := ((True) ∧ ((.v (.bool x2.2) : AV) = (.v (.bool false) : AV))) ∧ True) (by kernel_rfl) ⟨⟨trivial, (congrArg (fun z => AV.v (.bool z)) b2)⟩, trivial⟩ trivial ?_
    refine AX.ret ?_
    refine fin_wk (Wk.forget [2, 3] [] (s' := ⟨[(2, .v (.int .i64 x2.1)), (3, .v (.bool false))], []⟩) (by kernel_rfl)) ?_
    have hr := Option.some.inj h
    subst hr
    exact ⟨_, Wk.refl _, .inr rfl, ⟨[], by kernel_rfl, trivial, [.v (.int .i64 x2.1), .v (.bool false)], by kernel_rfl, by kernel_rfl⟩⟩

theorem s_impl_Flag_mask_L1 (p1 : List (ByteArray × Int)) (n : Nat) (g : Int × Int) (out : Int) (h : m_impl_Flag_mask_L1 p1 n g.1 g.2 = some out) :
    AX Tryz.prog 19 0 (codeAt [1, 1, 0, 1, 1] (bodyOf Tryz.f40)) ((fun g : Int × Int => (⟨[(3, .v (.int .i64 g.1)), (7, .bs false 2 (List.map enc_si p1)), (8, .v (.int .i64 (p1.length : Int))), (9, .v (.int .i64 g.2))], []⟩ : S)) g) (fun ex s => ex = .exit 0 ∧ s = (fun o : Int => (⟨[(3, .v (.int .i64 o))], []⟩ : S)) out) := by
  refine AX.wkpost ?_
  refine AX.loop (G := Nat × (Int × Int)) (fun q => (fun g : Int × Int => (⟨[(3, .v (.int .i64 g.1)), (7, .bs false 2 (List.map enc_si p1)), (8, .v (.int .i64 (p1.length : Int))), (9, .v (.int .i64 g.2))], []⟩ : S)) q.2) (fun q => m_impl_Flag_mask_L1 p1 q.1 q.2.1 q.2.2 = some out) (fun q => q.1) (n, g) h (Wk.refl _) ?_
  clear h
  rintro ⟨fu, v3, v4⟩ h
  cases fu with
  | zero => cases h
  | succ fu =>
    rw [m_impl_Flag_mask_L1] at h
    refine AX.seq ?_
    refine AX.reg (its := []) [3, 7, 8, 9, 10] [] (s1 := ⟨[(3, .v (.int .i64 v3)), (7, .bs false 2 (List.map enc_si p1)), (8, .v (.int .i64 (p1.length : Int))), (9, .v (.int .i64 v4)), (10, .v (.bool (decide (v4 < (p1.length : Int)))))], []⟩) (C := True) (by kernel_rfl) trivial trivial ?_
    refine AX.seq ?_
    rcases bool_cases (decide (v4 < (p1.length : Int))) with b1 | b1
    · replace h := cd_t b1 h
      refine AX.condT (decide (v4 < (p1.length : Int))) (by kernel_rfl) b1 ?_
      refine AX.skip ?_
      refine AX.seq ?_
      refine AX.block ?_
      refine AX.seq ?_
      obtain ⟨g2, h⟩ := gd_e h
      refine AX.reg (its := [.auto { y := some (.be 2 (enc_si (gt p1 v4)) 0) }, .auto {}, .auto { nk := 0 }]) [3, 5, 7, 8, 9] [0] (s1 := ⟨[(3, .v (.int .i64 v3)), (5, .pt 0 0), (7, .bs false 2 (List.map enc_si p1)), (8, .v (.int .i64 (p1.length : Int))), (9, .v (.int .i64 v4))], [(0, .box [.v (.string ((gt p1 v4).1)), .v (.int .i64 ((gt p1 v4).2))])]⟩) (C := ((0 ≤ v4 ∧ v4 < ((List.map enc_si p1).length : Int)) ∧ (AV.be 2 ((List.map enc_si p1).getD v4.toNat []) 0 = AV.be 2 (enc_si (gt p1 v4)) 0)) ∧ True) (by kernel_rfl) ⟨idx_bs enc_si p1 v4 2 g2, trivial⟩ trivial ?_
      refine AX.reg (its := []) [3, 7, 8, 9] [] (s1 := ⟨[(3, .v (.int .i64 (Go.bits .or .i64 v3 ((gt p1 v4).2)))), (7, .bs false 2 (List.map enc_si p1)), (8, .v (.int .i64 (p1.length : Int))), (9, .v (.int .i64 v4))], []⟩) (C := True) (by kernel_rfl) trivial trivial ?_
      refine AX.reg (its := [.auto { raw := true }]) [3, 7, 8, 9] [] (s1 := ⟨[(3, .v (.int .i64 (Go.bits .or .i64 v3 ((gt p1 v4).2)))), (7, .bs false 2 (List.map enc_si p1)), (8, .v (.int .i64 (p1.length : Int))), (9, .v (.int .i64 (IntKind.wrap .i64 (v4 + 1))))], []⟩) (C := True) (by kernel_rfl) trivial trivial ?_
      refine ⟨(fu, (Go.bits .or .i64 v3 ((gt p1 v4).2), IntKind.wrap .i64 (v4 + 1))), h, Nat.lt_succ_self _, ?_⟩
      refine Wk.trans (Wk.forget [3, 7, 8, 9] [] (s' := ⟨[(3, .v (.int .i64 (Go.bits .or .i64 v3 ((gt p1 v4).2)))), (7, .bs false 2 (List.map enc_si p1)), (8, .v (.int .i64 (p1.length : Int))), (9, .v (.int .i64 (IntKind.wrap .i64 (v4 + 1))))], []⟩) (by kernel_rfl)) ?_
      exact Wk.refl _
    · replace h := cd_f b1 h
      refine AX.condF (decide (v4 < (p1.length : Int))) (by kernel_rfl) b1 ?_
      refine AX.exit ?_
      refine fin_wk (Wk.forget [3] [] (s' := ⟨[(3, .v (.int .i64 v3))], []⟩) (by kernel_rfl)) ?_
      have hr := Option.some.inj h
      subst hr
      exact ⟨_, Wk.refl _, ⟨rfl, rfl⟩⟩

theorem s_impl_Flag_mask (p1 : List (ByteArray × Int)) (p2 : Int) (r : Int) (h : m_impl_Flag_mask p1 p2 = some r) :
    Eng.Spec Tryz.prog 40 [.agg [.bs false 2 (List.map enc_si p1), .v (.int .i64 p2)]] [] (.v (.int .i64 r)) [] := by
  unfold m_impl_Flag_mask at h
  refine Eng.Spec.body Tryz.func40 (by kernel_rfl) rfl (by kernel_rfl) ?_
  refine AX.wkpost ?_
  refine AX.seq ?_
  refine AX.reg (its := [.auto { nk := 0 }]) [1] [0] (s1 := ⟨[(1, .pt 0 0)], [(0, .box [.bs false 2 (List.map enc_si p1), .v (.int .i64 p2)])]⟩) (C := True) (by kernel_rfl) trivial trivial ?_
  refine AX.seq ?_
  refine AX.reg (its := []) [1, 3] [0] (s1 := ⟨[(1, .pt 0 0), (3, .v (.int .i64 0))], [(0, .box [.bs false 2 (List.map enc_si p1), .v (.int .i64 p2)])]⟩) (C := True) (by kernel_rfl) trivial trivial ?_
  refine AX.seq ?_
  refine AX.seq ?_
  refine AX.reg (its := [.auto {}, .auto {}, .auto { y := some (.v (.int .i64 (p1.length : Int))) }]) [3, 7, 8, 9] [] (s1 := ⟨[(3, .v (.int .i64 0)), (7, .bs false 2 (List.map enc_si p1)), (8, .v (.int .i64 (p1.length : Int))), (9, .v (.int .i64 0))], []⟩) (C := (True ∧ (AV.v (.int .i64 ((List.map enc_si p1).length : Int)) = AV.v (.int .i64 (p1.length : Int)))) ∧ True) (by kernel_rfl) ⟨⟨trivial, len_map enc_si p1⟩, trivial⟩ trivial ?_
  refine AX.block ?_
  obtain ⟨x5, e3, h⟩ := bd_e h
  refine AX.wk (Wk.forget [3, 7, 8, 9] [] (s' := ⟨[(3, .v (.int .i64 0)), (7, .bs false 2 (List.map enc_si p1)), (8, .v (.int .i64 (p1.length : Int))), (9, .v (.int .i64 0))], []⟩) (by kernel_rfl)) ?_
  refine AX.mono (s_impl_Flag_mask_L1 p1 FU (0, 0) x5 e3) ?_
  rintro _ _ ⟨rfl, rfl⟩
  skip
  refine AX.seq ?_
  refine AX.reg (its := []) [2] [] (s1 := ⟨[(2, .v (.int .i64 x5))], []⟩) (C := True) (by kernel_rfl) trivial trivial ?_
  refine AX.ret ?_
  refine fin_wk (Wk.forget [2] [] (s' := ⟨[(2, .v (.int .i64 x5))], []⟩) (by kernel_rfl)) ?_
  have hr := Option.some.inj h
  subst hr
  exact ⟨_, Wk.refl _, .inr rfl, ⟨[], by kernel_rfl, trivial, [.v (.int .i64 x5)], by kernel_rfl, by kernel_rfl⟩⟩

theorem s_impl_IsValue (p1 : List (ByteArray × Int)) (p2 : Int) (p3 : Int) (r : Bool) (h : m_impl_IsValue p1 p2 p3 = some r) :
    Eng.Spec Tryz.prog 11 [.agg [.bs false 2 (List.map enc_si p1), .v (.int .i64 p2)], .v (.int .i64 p3)] [] (.v (.bool r)) [] := by
  unfold m_impl_IsValue at h
  refine Eng.Spec.body Tryz.func11 (by kernel_rfl) rfl (by kernel_rfl) ?_
  refine AX.wkpost ?_
  refine AX.seq ?_
  refine AX.reg (its := [.auto { nk := 0 }]) [1, 2] [0] (s1 := ⟨[(1, .v (.int .i64 p3)), (2, .pt 0 0)], [(0, .box [.bs false 2 (List.map enc_si p1), .v (.int .i64 p2)])]⟩) (C := True) (by kernel_rfl) trivial trivial ?_
  refine AX.seq ?_
  obtain ⟨x4, e1, h⟩ := bd_e h
  rcases bool_cases (x4) with b2 | b2
  · replace h := cd_t b2 h
    obtain ⟨x5, e3, h⟩ := bd_e h
    rcases bool_cases (x5) with b4 | b4
    · replace h := cd_t b4 h
      rcases bool_cases (decide (p2 = 3)) with b5 | b5
      · replace h := cd_t b5 h
        refine AX.reg (its := [.auto {}, .call 31 [.agg [.bs false 2 (List.map enc_si p1), .v (.int .i64 p2)]] (handO (rho ([] ++ [])) [] [] ++ []) (callEv [] [] (.v (.bool true)) []), .auto {}, .auto {}, .call 35 [.v (.int .i64 p3), .v (.int .i64 0), .v (.int .i64 4095)] (handO (rho ([] ++ [])) [] [] ++ []) (callEv [] [] (.v (.bool true)) []), .auto {}, .auto {}, .auto {}, .auto {}, .auto { y := some (.v (.bool true)) }]) [4] [] (s1 := ⟨[(4, .v (.bool true))], []⟩) (C := ((([.agg [.bs false 2 (List.map enc_si p1), .v (.int .i64 p2)]] : List AV) = [.agg [.bs false 2 (List.map enc_si p1), .v (.int .i64 p2)]]) ∧ True) ∧ ((([.v (.int .i64 p3), .v (.int .i64 0), .v (.int .i64 4095)] : List AV) = [.v (.int .i64 p3), .v (.int .i64 0), .v (.int .i64 4095)]) ∧ True) ∧ ((True) ∧ ((.v (.bool (decide (p2 = 3))) : AV) = (.v (.bool true) : AV))) ∧ True) (by kernel_rfl) ⟨⟨rfl, trivial⟩, ⟨⟨rfl, trivial⟩, ⟨⟨trivial, (congrArg (fun z => AV.v (.bool z)) b5)⟩, trivial⟩⟩⟩ ⟨call_ok (ks := []) (ns := []) (bor := []) (bobjs := []) (show Eng.Spec Tryz.prog 31 [.agg [.bs false 2 (List.map enc_si p1), .v (.int .i64 p2)]] [] (.v (.bool true)) [] from by have q := s_impl_ValidFlag p1 p2 x4 e1; rw [b2] at q; exact q) (.cons (.c1 (.agg (.cons (.same _ (by kernel_rfl) (by kernel_rfl)) (.cons (.same _ (by kernel_rfl) (by kernel_rfl)) (.nil))))) (.nil)) (by kernel_rfl) trivial, ⟨call_ok (ks := []) (ns := []) (bor := []) (bobjs := []) (show Eng.Spec Tryz.prog 35 [.v (.int .i64 p3), .v (.int .i64 0), .v (.int .i64 4095)] [] (.v (.bool true)) [] from by have q := s_impl_in p3 0 4095 x5 e3; rw [b4] at q; exact q) (.cons (.c1 (.c0 (.same _ (by kernel_rfl) (by kernel_rfl)))) (.cons (.c1 (.c0 (.same _ (by kernel_rfl) (by kernel_rfl)))) (.cons (.c1 (.c0 (.same _ (by kernel_rfl) (by kernel_rfl)))) (.nil)))) (by kernel_rfl) trivial, trivial⟩⟩ ?_
        refine AX.ret ?_
        refine fin_wk (Wk.forget [4] [] (s' := ⟨[(4, .v (.bool true))], []⟩) (by kernel_rfl)) ?_
        have hr := Option.some.inj h
        subst hr
        exact ⟨_, Wk.refl _, .inr rfl, ⟨[], by kernel_rfl, trivial, [.v (.bool true)], by kernel_rfl, by kernel_rfl⟩⟩
      · replace h := cd_f b5 h
        obtain ⟨x6, e6, h⟩ := bd_e h
        refine AX.reg (its := [.auto {}, .call 31 [.agg [.bs false 2 (List.map enc_si p1), .v (.int .i64 p2)]] (handO (rho ([] ++ [])) [] [] ++ []) (callEv [] [] (.v (.bool true)) []), .auto {}, .auto {}, .call 35 [.v (.int .i64 p3), .v (.int .i64 0), .v (.int .i64 4095)] (handO (rho ([] ++ [])) [] [] ++ []) (callEv [] [] (.v (.bool true)) []), .auto {}, .auto {}, .auto {}, .auto {}, .auto { y := some (.v (.bool false)) }, .auto {}, .auto {}, .auto {}, .call 40 [.agg [.bs false 2 (List.map enc_si p1), .v (.int .i64 p2)]] (handO (rho ([] ++ [])) [] [] ++ []) (callEv [] [] (.v (.int .i64 x6)) [])]) [4] [] (s1 := ⟨[(4, .v (.bool (decide ((Go.bits .andNot .i64 p3 x6) = 0))))], []⟩) (C := ((([.agg [.bs false 2 (List.map enc_si p1), .v (.int .i64 p2)]] : List AV) = [.agg [.bs false 2 (List.map enc_si p1), .v (.int .i64 p2)]]) ∧ True) ∧ ((([.v (.int .i64 p3), .v (.int .i64 0), .v (.int .i64 4095)] : List AV) = [.v (.int .i64 p3), .v (.int .i64 0), .v (.int .i64 4095)]) ∧ True) ∧ ((True) ∧ ((.v (.bool (decide (p2 = 3))) : AV) = (.v (.bool false) : AV))) ∧ ((([.agg [.bs false 2 (List.map enc_si p1), .v (.int .i64 p2)]] : List AV) = [.agg [.bs false 2 (List.map enc_si p1), .v (.int .i64 p2)]]) ∧ True) ∧ True) (by kernel_rfl) ⟨⟨rfl, trivial⟩, ⟨⟨rfl, trivial⟩, ⟨⟨trivial, (congrArg (fun z => AV.v (.bool z)) b5)⟩, ⟨⟨rfl, trivial⟩, trivial⟩⟩⟩⟩ ⟨call_ok (ks := []) (ns := []) (bor := []) (bobjs := []) (show Eng.Spec Tryz.prog 31 [.agg [.bs false 2 (List.map enc_si p1), .v (.int .i64 p2)]] [] (.v (.bool true)) [] from by have q := s_impl_ValidFlag p1 p2 x4 e1; rw [b2] at q; exact q) (.cons (.c1 (.agg (.cons (.same _ (by kernel_rfl) (by kernel_rfl)) (.cons (.same _ (by kernel_rfl) (by kernel_rfl)) (.nil))))) (.nil)) (by kernel_rfl) trivial, ⟨call_ok (ks := []) (ns := []) (bor := []) (bobjs := []) (show Eng.Spec Tryz.prog 35 [.v (.int .i64 p3), .v (.int .i64 0), .v (.int .i64 4095)] [] (.v (.bool true)) [] from by have q := s_impl_in p3 0 4095 x5 e3; rw [b4] at q; exact q) (.cons (.c1 (.c0 (.same _ (by kernel_rfl) (by kernel_rfl)))) (.cons (.c1 (.c0 (.same _ (by kernel_rfl) (by kernel_rfl)))) (.cons (.c1 (.c0 (.same _ (by kernel_rfl) (by kernel_rfl)))) (.nil)))) (by kernel_rfl) trivial, ⟨call_ok (ks := []) (ns := []) (bor := []) (bobjs := []) (s_impl_Flag_mask p1 p2 x6 e6) (.cons (.c1 (.agg (.cons (.same _ (by kernel_rfl) (by kernel_rfl)) (.cons (.same _ (by kernel_rfl) (by kernel_rfl)) (.nil))))) (.nil)) (by kernel_rfl) trivial, trivial⟩⟩⟩ ?_
        refine AX.ret ?_
        refine fin_wk (Wk.forget [4] [] (s' := ⟨[(4, .v (.bool (decide ((Go.bits .andNot .i64 p3 x6) = 0))))], []⟩) (by kernel_rfl)) ?_
        have hr := Option.some.inj h
        subst hr
        exact ⟨_, Wk.refl _, .inr rfl, ⟨[], by kernel_rfl, trivial, [.v (.bool (decide ((Go.bits .andNot .i64 p3 x6) = 0)))], by kernel_rfl, by kernel_rfl⟩⟩
    · replace h := cd_f b4 h
      refine AX.reg (its := [.auto {}, .call 31 [.agg [.bs false 2 (List.map enc_si p1), .v (.int .i64 p2)]] (handO (rho ([] ++ [])) [] [] ++ []) (callEv [] [] (.v (.bool true)) []), .auto {}, .auto {}, .call 35 [.v (.int .i64 p3), .v (.int .i64 0), .v (.int .i64 4095)] (handO (rho ([] ++ [])) [] [] ++ []) (callEv [] [] (.v (.bool false)) [])]) [4] [] (s1 := ⟨[(4, .v (.bool false))], []⟩) (C := ((([.agg [.bs false 2 (List.map enc_si p1), .v (.int .i64 p2)]] : List AV) = [.agg [.bs false 2 (List.map enc_si p1), .v (.int .i64 p2)]]) ∧ True) ∧ ((([.v (.int .i64 p3), .v (.int .i64 0), .v (.int .i64 4095)] : List AV) = [.v (.int .i64 p3), .v (.int .i64 0), .v (.int .i64 4095)]) ∧ True) ∧ True) (by kernel_rfl) ⟨⟨rfl, trivial⟩, ⟨⟨rfl, trivial⟩, trivial⟩⟩ ⟨call_ok (ks := []) (ns := []) (bor := []) (bobjs := []) (show Eng.Spec Tryz.prog 31 [.agg [.bs false 2 (List.map enc_si p1), .v (.int .i64 p2)]] [] (.v (.bool true)) [] from by have q := s_impl_ValidFlag p1 p2 x4 e1; rw [b2] at q; exact q) (.cons (.c1 (.agg (.cons (.same _ (by kernel_rfl) (by kernel_rfl)) (.cons (.same _ (by kernel_rfl) (by kernel_rfl)) (.nil))))) (.nil)) (by kernel_rfl) trivial, ⟨call_ok (ks := []) (ns := []) (bor := []) (bobjs := []) (show Eng.Spec Tryz.prog 35 [.v (.int .i64 p3), .v (.int .i64 0), .v (.int .i64 4095)] [] (.v (.bool false)) [] from by have q := s_impl_in p3 0 4095 x5 e3; rw [b4] at q; exact q) (.cons (.c1 (.c0 (.same _ (by kernel_rfl) (by kernel_rfl)))) (.cons (.c1 (.c0 (.same _ (by kernel_rfl) (by kernel_rfl)))) (.cons (.c1 (.c0 (.same _ (by kernel_rfl) (by kernel_rfl)))) (.nil)))) (by kernel_rfl) trivial, trivial⟩⟩ ?_
      refine AX.ret ?_
      refine fin_wk (Wk.forget [4] [] (s' := ⟨[(4, .v (.bool false))], []⟩) (by kernel_rfl)) ?_
      have hr := Option.some.inj h
      subst hr
      exact ⟨_, Wk.refl _, .inr rfl, ⟨[], by kernel_rfl, trivial, [.v (.bool false)], by kernel_rfl, by kernel_rfl⟩⟩
  · replace h := cd_f b2 h
    refine AX.reg (its := [.auto {}, .call 31 [.agg [.bs false 2 (List.map enc_si p1), .v (.int .i64 p2)]] (handO (rho ([] ++ [])) [] [] ++ []) (callEv [] [] (.v (.bool false)) [])]) [4] [] (s1 := ⟨[(4, .v (.bool false))], []⟩) (C := ((([.agg [.bs false 2 (List.map enc_si p1), .v (.int .i64 p2)]] : List AV) = [.agg [.bs false 2 (List.map enc_si p1), .v (.int .i64 p2)]]) ∧ True) ∧ True) (by kernel_rfl) ⟨⟨rfl, trivial⟩, trivial⟩ ⟨call_ok (ks := []) (ns := []) (bor := []) (bobjs := []) (show Eng.Spec Tryz.prog 31 [.agg [.bs false 2 (List.map enc_si p1), .v (.int .i64 p2)]] [] (.v (.bool false)) [] from by have q := s_impl_ValidFlag p1 p2 x4 e1; rw [b2] at q; exact q) (.cons (.c1 (.agg (.cons (.same _ (by kernel_rfl) (by kernel_rfl)) (.cons (.same _ (by kernel_rfl) (by kernel_rfl)) (.nil))))) (.nil)) (by kernel_rfl) trivial, trivial⟩ ?_
    refine AX.ret ?_
    refine fin_wk (Wk.forget [4] [] (s' := ⟨[(4, .v (.bool false))], []⟩) (by kernel_rfl)) ?_
    have hr := Option.some.inj h
    subst hr
    exact ⟨_, Wk.refl _, .inr rfl, ⟨[], by kernel_rfl, trivial, [.v (.bool false)], by kernel_rfl, by kernel_rfl⟩⟩

theorem s_impl_ReadValue_L1 (p1 : List (ByteArray × Int)) (p2 : Int) (x5 : List (ByteArray)) (n : Nat) (g : Int × Int) (out : Unit ⊕ Int) (h : m_impl_ReadValue_L1 p1 p2 x5 n g.1 g.2 = some out) :
    AX Tryz.prog 57 0 (codeAt [1, 1, 1, 0, 1, 1] (bodyOf Tryz.f8)) ((fun g : Int × Int => (⟨[(2, .pt 0 0), (6, .v (.int .i64 g.1)), (16, .sl 1 0 x5.length), (17, .v (.int .i64 (x5.length : Int))), (18, .v (.int .i64 g.2))], [(0, .box [.bs false 2 (List.map enc_si p1), .v (.int .i64 p2)]), (1, .arr 1 (List.map enc_s x5))]⟩ : S)) g) (fun ex s => (∃ o : Unit, out = Sum.inl o ∧ ex = .ret ∧ s = ⟨[(4, .v (.int .i64 0)), (5, .v (.bool false))], []⟩) ∨ (∃ o : Int, out = Sum.inr o ∧ ex = .exit 0 ∧ s = ⟨[(2, .pt 0 0), (6, .v (.int .i64 o))], [(0, .box [.bs false 2 (List.map enc_si p1), .v (.int .i64 p2)])]⟩)) := by
  refine AX.wkpost ?_
  refine AX.loop (G := Nat × (Int × Int)) (fun q => (fun g : Int × Int => (⟨[(2, .pt 0 0), (6, .v (.int .i64 g.1)), (16, .sl 1 0 x5.length), (17, .v (.int .i64 (x5.length : Int))), (18, .v (.int .i64 g.2))], [(0, .box [.bs false 2 (List.map enc_si p1), .v (.int .i64 p2)]), (1, .arr 1 (List.map enc_s x5))]⟩ : S)) q.2) (fun q => m_impl_ReadValue_L1 p1 p2 x5 q.1 q.2.1 q.2.2 = some out) (fun q => q.1) (n, g) h (Wk.refl _) ?_
  clear h
  rintro ⟨fu, v6, v7⟩ h
  cases fu with
  | zero => cases h
  | succ fu =>
    rw [m_impl_ReadValue_L1] at h
    refine AX.seq ?_
    refine AX.reg (its := []) [2, 6, 16, 17, 18, 19] [0, 1] (s1 := ⟨[(2, .pt 0 0), (6, .v (.int .i64 v6)), (16, .sl 1 0 x5.length), (17, .v (.int .i64 (x5.length : Int))), (18, .v (.int .i64 v7)), (19, .v (.bool (decide (v7 < (x5.length : Int)))))], [(0, .box [.bs false 2 (List.map enc_si p1), .v (.int .i64 p2)]), (1, .arr 1 (List.map enc_s x5))]⟩) (C := True) (by kernel_rfl) trivial trivial ?_
    refine AX.seq ?_
    rcases bool_cases (decide (v7 < (x5.length : Int))) with b4 | b4
    · replace h := cd_t b4 h
      refine AX.condT (decide (v7 < (x5.length : Int))) (by kernel_rfl) b4 ?_
      refine AX.skip ?_
      refine AX.seq ?_
      refine AX.block ?_
      refine AX.seq ?_
      obtain ⟨g5, h⟩ := gd_e h
      refine AX.reg (its := [.auto {}, .auto { y := some (.v (.string (gt x5 v7))) }]) [2, 6, 8, 16, 17, 18] [0, 1] (s1 := ⟨[(2, .pt 0 0), (6, .v (.int .i64 v6)), (8, .v (.string (gt x5 v7))), (16, .sl 1 0 x5.length), (17, .v (.int .i64 (x5.length : Int))), (18, .v (.int .i64 v7))], [(0, .box [.bs false 2 (List.map enc_si p1), .v (.int .i64 p2)]), (1, .arr 1 (List.map enc_s x5))]⟩) (C := (0 ≤ v7 ∧ v7 < (x5.length : Int)) ∧ (True ∧ (AV.v (((List.map enc_s x5).getD (0 + v7.toNat) []).getD 0 undef) = .v (.string (gt x5 v7)))) ∧ True) (by kernel_rfl) ⟨g5, ⟨⟨trivial, (congrArg (fun z : List Value => AV.v (z.getD 0 undef)) (idx_arr (enc := enc_s) rfl g5))⟩, trivial⟩⟩ trivial ?_
      refine AX.seq ?_
      refine AX.seq ?_
      obtain ⟨x8, e6, h⟩ := bd_e h
      refine AX.reg (its := [.auto {}, .auto {}, .auto {}, .call 33 [.bs false 2 (List.map enc_si p1), .v (.string (gt x5 v7))] (handO (rho ([] ++ [])) [] [] ++ []) (callEv [] [] (.v (.int .i64 x8)) [])]) [2, 6, 8, 9, 16, 17, 18] [0, 1] (s1 := ⟨[(2, .pt 0 0), (6, .v (.int .i64 v6)), (8, .v (.string (gt x5 v7))), (9, .v (.int .i64 x8)), (16, .sl 1 0 x5.length), (17, .v (.int .i64 (x5.length : Int))), (18, .v (.int .i64 v7))], [(0, .box [.bs false 2 (List.map enc_si p1), .v (.int .i64 p2)]), (1, .arr 1 (List.map enc_s x5))]⟩) (C := ((([.bs false 2 (List.map enc_si p1), .v (.string (gt x5 v7))] : List AV) = [.bs false 2 (List.map enc_si p1), .v (.string (gt x5 v7))]) ∧ True) ∧ True) (by kernel_rfl) ⟨⟨rfl, trivial⟩, trivial⟩ ⟨call_ok (ks := []) (ns := []) (bor := []) (bobjs := []) (s_impl_named p1 (gt x5 v7) x8 e6) (.cons (.c1 (.c0 (.same _ (by kernel_rfl) (by kernel_rfl)))) (.cons (.c1 (.c0 (.same _ (by kernel_rfl) (by kernel_rfl)))) (.nil))) (by kernel_rfl) trivial, trivial⟩ ?_
      refine AX.seq ?_
      refine AX.reg (its := []) [2, 6, 8, 9, 16, 17, 18, 27] [0, 1] (s1 := ⟨[(2, .pt 0 0), (6, .v (.int .i64 v6)), (8, .v (.string (gt x5 v7))), (9, .v (.int .i64 x8)), (16, .sl 1 0 x5.length), (17, .v (.int .i64 (x5.length : Int))), (18, .v (.int .i64 v7)), (27, .v (.bool (decide (0 ≤ x8))))], [(0, .box [.bs false 2 (List.map enc_si p1), .v (.int .i64 p2)]), (1, .arr 1 (List.map enc_s x5))]⟩) (C := True) (by kernel_rfl) trivial trivial ?_
      rcases bool_cases (decide (0 ≤ x8)) with b7 | b7
      · replace h := cd_t b7 h
        refine AX.condT (decide (0 ≤ x8)) (by kernel_rfl) b7 ?_
        refine AX.seq ?_
        obtain ⟨g8, h⟩ := gd_e h
        refine AX.reg (its := [.auto {}, .auto {}, .auto {}, .auto {}, .auto { y := some (.be 2 (enc_si (gt p1 x8)) 0) }]) [2, 6, 16, 17, 18] [0, 1] (s1 := ⟨[(2, .pt 0 0), (6, .v (.int .i64 (Go.bits .or .i64 v6 ((gt p1 x8).2)))), (16, .sl 1 0 x5.length), (17, .v (.int .i64 (x5.length : Int))), (18, .v (.int .i64 v7))], [(0, .box [.bs false 2 (List.map enc_si p1), .v (.int .i64 p2)]), (1, .arr 1 (List.map enc_s x5))]⟩) (C := ((0 ≤ x8 ∧ x8 < ((List.map enc_si p1).length : Int)) ∧ (AV.be 2 ((List.map enc_si p1).getD x8.toNat []) 0 = AV.be 2 (enc_si (gt p1 x8)) 0)) ∧ True) (by kernel_rfl) ⟨idx_bs enc_si p1 x8 2 g8, trivial⟩ trivial ?_
        refine AX.exit ?_
        refine AX.reg (its := [.auto { raw := true }]) [2, 6, 16, 17, 18] [0, 1] (s1 := ⟨[(2, .pt 0 0), (6, .v (.int .i64 (Go.bits .or .i64 v6 ((gt p1 x8).2)))), (16, .sl 1 0 x5.length), (17, .v (.int .i64 (x5.length : Int))), (18, .v (.int .i64 (IntKind.wrap .i64 (v7 + 1))))], [(0, .box [.bs false 2 (List.map enc_si p1), .v (.int .i64 p2)]), (1, .arr 1 (List.map enc_s x5))]⟩) (C := True) (by kernel_rfl) trivial trivial ?_
        refine ⟨(fu, (Go.bits .or .i64 v6 ((gt p1 x8).2), IntKind.wrap .i64 (v7 + 1))), h, Nat.lt_succ_self _, ?_⟩
        refine Wk.trans (Wk.forget [2, 6, 16, 17, 18] [0, 1] (s' := ⟨[(2, .pt 0 0), (6, .v (.int .i64 (Go.bits .or .i64 v6 ((gt p1 x8).2)))), (16, .sl 1 0 x5.length), (17, .v (.int .i64 (x5.length : Int))), (18, .v (.int .i64 (IntKind.wrap .i64 (v7 + 1))))], [(0, .box [.bs false 2 (List.map enc_si p1), .v (.int .i64 p2)]), (1, .arr 1 (List.map enc_s x5))]⟩) (by kernel_rfl)) ?_
        exact Wk.refl _
      · replace h := cd_f b7 h
        refine AX.condF (decide (0 ≤ x8)) (by kernel_rfl) b7 ?_
        refine AX.skip ?_
        refine AX.seq ?_
        obtain ⟨x9, e9, h⟩ := bd_e h
        refine AX.reg (its := [.auto {}, .call 34 [.v (.string (gt x5 v7))] (handO (rho ([] ++ [])) [] [] ++ []) (callEv [] [] (.tup [.v (.int .i64 x9.1), .v (.bool x9.2)]) [])]) [2, 6, 10, 11, 16, 17, 18] [0, 1] (s1 := ⟨[(2, .pt 0 0), (6, .v (.int .i64 v6)), (10, .v (.int .i64 x9.1)), (11, .v (.bool x9.2)), (16, .sl 1 0 x5.length), (17, .v (.int .i64 (x5.length : Int))), (18, .v (.int .i64 v7))], [(0, .box [.bs false 2 (List.map enc_si p1), .v (.int .i64 p2)]), (1, .arr 1 (List.map enc_s x5))]⟩) (C := ((([.v (.string (gt x5 v7))] : List AV) = [.v (.string (gt x5 v7))]) ∧ True) ∧ True) (by kernel_rfl) ⟨⟨rfl, trivial⟩, trivial⟩ ⟨call_ok (ks := []) (ns := []) (bor := []) (bobjs := []) (s_impl_decimal (gt x5 v7) x9 e9) (.cons (.c1 (.c0 (.same _ (by kernel_rfl) (by kernel_rfl)))) (.nil)) (by kernel_rfl) trivial, trivial⟩ ?_
        refine AX.seq ?_
        refine AX.seq ?_
        rcases bool_cases ((!x9.2)) with b10 | b10
        · replace h := cd_t b10 h
          refine AX.reg (its := [.auto {}, .auto { y := some (.v (.bool true)) }]) [2, 6, 10, 16, 17, 18, 47] [0, 1] (s1 := ⟨[(2, .pt 0 0), (6, .v (.int .i64 v6)), (10, .v (.int .i64 x9.1)), (16, .sl 1 0 x5.length), (17, .v (.int .i64 (x5.length : Int))), (18, .v (.int .i64 v7)), (47, .v (.bool true))], [(0, .box [.bs false 2 (List.map enc_si p1), .v (.int .i64 p2)]), (1, .arr 1 (List.map enc_s x5))]⟩) (C := ((True) ∧ ((.v (.bool (!x9.2)) : AV) = (.v (.bool true) : AV))) ∧ True) (by kernel_rfl) ⟨⟨trivial, (congrArg (fun z => AV.v (.bool z)) b10)⟩, trivial⟩ trivial ?_
          refine AX.cond_true (by kernel_rfl) ?_
          refine AX.seq ?_
          refine AX.reg (its := []) [4, 5] [] (s1 := ⟨[(4, .v (.int .i64 0)), (5, .v (.bool false))], []⟩) (C := True) (by kernel_rfl) trivial trivial ?_
          refine AX.ret ?_
          refine fin_wk (Wk.forget [4, 5] [] (s' := ⟨[(4, .v (.int .i64 0)), (5, .v (.bool false))], []⟩) (by kernel_rfl)) ?_
          have hr := Option.some.inj h
          subst hr
          exact ⟨_, Wk.refl _, .inl ⟨(), rfl, rfl, rfl⟩⟩
        · replace h := cd_f b10 h
          obtain ⟨x10, e11, h⟩ := bd_e h
          refine AX.reg (its := [.auto {}, .auto { y := some (.v (.bool false)) }, .auto {}, .auto {}, .call 35 [.v (.int .i64 x9.1), .v (.int .i64 0), .v (.int .i64 4095)] (handO (rho ([] ++ [])) [] [] ++ []) (callEv [] [] (.v (.bool x10)) [])]) [2, 6, 10, 16, 17, 18, 47] [0, 1] (s1 := ⟨[(2, .pt 0 0), (6, .v (.int .i64 v6)), (10, .v (.int .i64 x9.1)), (16, .sl 1 0 x5.length), (17, .v (.int .i64 (x5.length : Int))), (18, .v (.int .i64 v7)), (47, .v (.bool (!x10)))], [(0, .box [.bs false 2 (List.map enc_si p1), .v (.int .i64 p2)]), (1, .arr 1 (List.map enc_s x5))]⟩) (C := ((True) ∧ ((.v (.bool (!x9.2)) : AV) = (.v (.bool false) : AV))) ∧ ((([.v (.int .i64 x9.1), .v (.int .i64 0), .v (.int .i64 4095)] : List AV) = [.v (.int .i64 x9.1), .v (.int .i64 0), .v (.int .i64 4095)]) ∧ True) ∧ True) (by kernel_rfl) ⟨⟨trivial, (congrArg (fun z => AV.v (.bool z)) b10)⟩, ⟨⟨rfl, trivial⟩, trivial⟩⟩ ⟨call_ok (ks := []) (ns := []) (bor := []) (bobjs := []) (s_impl_in x9.1 0 4095 x10 e11) (.cons (.c1 (.c0 (.same _ (by kernel_rfl) (by kernel_rfl)))) (.cons (.c1 (.c0 (.same _ (by kernel_rfl) (by kernel_rfl)))) (.cons (.c1 (.c0 (.same _ (by kernel_rfl) (by kernel_rfl)))) (.nil)))) (by kernel_rfl) trivial, trivial⟩ ?_
          rcases bool_cases ((!x10)) with b12 | b12
          · replace h := cd_t b12 h
            refine AX.condT ((!x10)) (by kernel_rfl) b12 ?_
            refine AX.seq ?_
            refine AX.reg (its := []) [4, 5] [] (s1 := ⟨[(4, .v (.int .i64 0)), (5, .v (.bool false))], []⟩) (C := True) (by kernel_rfl) trivial trivial ?_
            refine AX.ret ?_
            refine fin_wk (Wk.forget [4, 5] [] (s' := ⟨[(4, .v (.int .i64 0)), (5, .v (.bool false))], []⟩) (by kernel_rfl)) ?_
            have hr := Option.some.inj h
            subst hr
            exact ⟨_, Wk.refl _, .inl ⟨(), rfl, rfl, rfl⟩⟩
          · replace h := cd_f b12 h
            refine AX.condF ((!x10)) (by kernel_rfl) b12 ?_
            refine AX.skip ?_
            refine AX.reg (its := []) [2, 6, 16, 17, 18] [0, 1] (s1 := ⟨[(2, .pt 0 0), (6, .v (.int .i64 (Go.bits .or .i64 v6 x9.1))), (16, .sl 1 0 x5.length), (17, .v (.int .i64 (x5.length : Int))), (18, .v (.int .i64 v7))], [(0, .box [.bs false 2 (List.map enc_si p1), .v (.int .i64 p2)]), (1, .arr 1 (List.map enc_s x5))]⟩) (C := True) (by kernel_rfl) trivial trivial ?_
            refine AX.reg (its := [.auto { raw := true }]) [2, 6, 16, 17, 18] [0, 1] (s1 := ⟨[(2, .pt 0 0), (6, .v (.int .i64 (Go.bits .or .i64 v6 x9.1))), (16, .sl 1 0 x5.length), (17, .v (.int .i64 (x5.length : Int))), (18, .v (.int .i64 (IntKind.wrap .i64 (v7 + 1))))], [(0, .box [.bs false 2 (List.map enc_si p1), .v (.int .i64 p2)]), (1, .arr 1 (List.map enc_s x5))]⟩) (C := True) (by kernel_rfl) trivial trivial ?_
            refine ⟨(fu, (Go.bits .or .i64 v6 x9.1, IntKind.wrap .i64 (v7 + 1))), h, Nat.lt_succ_self _, ?_⟩
            refine Wk.trans (Wk.forget [2, 6, 16, 17, 18] [0, 1] (s' := ⟨[(2, .pt 0 0), (6, .v (.int .i64 (Go.bits .or .i64 v6 x9.1))), (16, .sl 1 0 x5.length), (17, .v (.int .i64 (x5.length : Int))), (18, .v (.int .i64 (IntKind.wrap .i64 (v7 + 1))))], [(0, .box [.bs false 2 (List.map enc_si p1), .v (.int .i64 p2)]), (1, .arr 1 (List.map enc_s x5))]⟩) (by kernel_rfl)) ?_
            exact Wk.refl _
    · replace h := cd_f b4 h
      refine AX.condF (decide (v7 < (x5.length : Int))) (by kernel_rfl) b4 ?_
      refine AX.exit ?_
      refine fin_wk (Wk.forget [2, 6] [0] (s' := ⟨[(2, .pt 0 0), (6, .v (.int .i64 v6))], [(0, .box [.bs false 2 (List.map enc_si p1), .v (.int .i64 p2)])]⟩) (by kernel_rfl)) ?_
      have hr := Option.some.inj h
      subst hr
      exact ⟨_, Wk.refl _, .inr ⟨v6, rfl, rfl, rfl⟩⟩

theorem s_impl_ReadValue (p1 : List (ByteArray × Int)) (p2 : Int) (p3 : ByteArray) (r : Int × Bool) (h : m_impl_ReadValue p1 p2 p3 = some r) :
    Eng.Spec Tryz.prog 8 [.agg [.bs false 2 (List.map enc_si p1), .v (.int .i64 p2)], .v (.string p3)] [] (.tup [.v (.int .i64 r.1), .v (.bool r.2)]) [] := by
  unfold m_impl_ReadValue at h
  refine Eng.Spec.body Tryz.func8 (by kernel_rfl) rfl (by kernel_rfl) ?_
  refine AX.wkpost ?_
  refine AX.seq ?_
  refine AX.reg (its := [.auto { nk := 0 }]) [1, 2] [0] (s1 := ⟨[(1, .v (.string p3)), (2, .pt 0 0)], [(0, .box [.bs false 2 (List.map enc_si p1), .v (.int .i64 p2)])]⟩) (C := True) (by kernel_rfl) trivial trivial ?_
  refine AX.seq ?_
  refine AX.seq ?_
  obtain ⟨x4, e1, h⟩ := bd_e h
  refine AX.reg (its := [.auto {}, .call 31 [.agg [.bs false 2 (List.map enc_si p1), .v (.int .i64 p2)]] (handO (rho ([] ++ [])) [] [] ++ []) (callEv [] [] (.v (.bool x4)) [])]) [1, 2, 14] [0] (s1 := ⟨[(1, .v (.string p3)), (2, .pt 0 0), (14, .v (.bool (!x4)))], [(0, .box [.bs false 2 (List.map enc_si p1), .v (.int .i64 p2)])]⟩) (C := ((([.agg [.bs false 2 (List.map enc_si p1), .v (.int .i64 p2)]] : List AV) = [.agg [.bs false 2 (List.map enc_si p1), .v (.int .i64 p2)]]) ∧ True) ∧ True) (by kernel_rfl) ⟨⟨rfl, trivial⟩, trivial⟩ ⟨call_ok (ks := []) (ns := []) (bor := []) (bobjs := []) (s_impl_ValidFlag p1 p2 x4 e1) (.cons (.c1 (.agg (.cons (.same _ (by kernel_rfl) (by kernel_rfl)) (.cons (.same _ (by kernel_rfl) (by kernel_rfl)) (.nil))))) (.nil)) (by kernel_rfl) trivial, trivial⟩ ?_
  rcases bool_cases ((!x4)) with b2 | b2
  · replace h := cd_t b2 h
    refine AX.condT ((!x4)) (by kernel_rfl) b2 ?_
    refine AX.seq ?_
    refine AX.reg (its := []) [4, 5] [] (s1 := ⟨[(4, .v (.int .i64 0)), (5, .v (.bool false))], []⟩) (C := True) (by kernel_rfl) trivial trivial ?_
    refine AX.ret ?_
    refine fin_wk (Wk.forget [4, 5] [] (s' := ⟨[(4, .v (.int .i64 0)), (5, .v (.bool false))], []⟩) (by kernel_rfl)) ?_
    have hr := Option.some.inj h
    subst hr
    exact ⟨_, Wk.refl _, .inr rfl, ⟨[], by kernel_rfl, trivial, [.v (.int .i64 0), .v (.bool false)], by kernel_rfl, by kernel_rfl⟩⟩
  · replace h := cd_f b2 h
    refine AX.condF ((!x4)) (by kernel_rfl) b2 ?_
    refine AX.skip ?_
    refine AX.seq ?_
    refine AX.reg (its := []) [1, 2, 6] [0] (s1 := ⟨[(1, .v (.string p3)), (2, .pt 0 0), (6, .v (.int .i64 0))], [(0, .box [.bs false 2 (List.map enc_si p1), .v (.int .i64 p2)])]⟩) (C := True) (by kernel_rfl) trivial trivial ?_
    refine AX.seq ?_
    refine AX.seq ?_
    obtain ⟨x5, e3, h⟩ := bd_e h
    refine AX.reg (its := [.auto {}, .call 32 [.v (.string p3), .v (.string (ByteArray.mk #[124]))] (handO (rho ([] ++ [1])) [] [] ++ []) (callEv [] [1] (.sl 0 0 x5.length) [.arr 1 (List.map enc_s x5)])]) [2, 6, 16, 17, 18] [0, 1] (s1 := ⟨[(2, .pt 0 0), (6, .v (.int .i64 0)), (16, .sl 1 0 x5.length), (17, .v (.int .i64 (x5.length : Int))), (18, .v (.int .i64 0))], [(0, .box [.bs false 2 (List.map enc_si p1), .v (.int .i64 p2)]), (1, .arr 1 (List.map enc_s x5))]⟩) (C := ((([.v (.string p3), .v (.string (ByteArray.mk #[124]))] : List AV) = [.v (.string p3), .v (.string (ByteArray.mk #[124]))]) ∧ True) ∧ True) (by kernel_rfl) ⟨⟨rfl, trivial⟩, trivial⟩ ⟨call_ok (ks := []) (ns := [1]) (bor := []) (bobjs := []) (s_strings_Split p3 (ByteArray.mk #[124]) x5 e3) (.cons (.c1 (.c0 (.same _ (by kernel_rfl) (by kernel_rfl)))) (.cons (.c1 (.c0 (.same _ (by kernel_rfl) (by kernel_rfl)))) (.nil))) (by kernel_rfl) trivial, trivial⟩ ?_
    refine AX.block ?_
    obtain ⟨x11, e13, h⟩ := bd_e h
    refine AX.wk (Wk.forget [2, 6, 16, 17, 18] [0, 1] (s' := ⟨[(2, .pt 0 0), (6, .v (.int .i64 0)), (16, .sl 1 0 x5.length), (17, .v (.int .i64 (x5.length : Int))), (18, .v (.int .i64 0))], [(0, .box [.bs false 2 (List.map enc_si p1), .v (.int .i64 p2)]), (1, .arr 1 (List.map enc_s x5))]⟩) (by kernel_rfl)) ?_
    refine AX.mono (s_impl_ReadValue_L1 p1 p2 x5 FU (0, 0) x11 e13) ?_
    rintro _ _ (⟨x12, rfl, rfl, rfl⟩ | ⟨x13, rfl, rfl, rfl⟩)
    · replace h := sm_l h
      refine fin_wk (Wk.forget [4, 5] [] (s' := ⟨[(4, .v (.int .i64 0)), (5, .v (.bool false))], []⟩) (by kernel_rfl)) ?_
      have hr := Option.some.inj h
      subst hr
      exact ⟨_, Wk.refl _, .inr rfl, ⟨[], by kernel_rfl, trivial, [.v (.int .i64 0), .v (.bool false)], by kernel_rfl, by kernel_rfl⟩⟩
    · replace h := sm_r h
      refine AX.seq ?_
      refine AX.seq ?_
      obtain ⟨x14, e14, h⟩ := bd_e h
      refine AX.reg (its := [.auto {}, .auto {}, .call 11 [.agg [.bs false 2 (List.map enc_si p1), .v (.int .i64 p2)], .v (.int .i64 x13)] (handO (rho ([] ++ [])) [] [] ++ []) (callEv [] [] (.v (.bool x14)) [])]) [6, 55] [] (s1 := ⟨[(6, .v (.int .i64 x13)), (55, .v (.bool (!x14)))], []⟩) (C := ((([.agg [.bs false 2 (List.map enc_si p1), .v (.int .i64 p2)], .v (.int .i64 x13)] : List AV) = [.agg [.bs false 2 (List.map enc_si p1), .v (.int .i64 p2)], .v (.int .i64 x13)]) ∧ True) ∧ True) (by kernel_rfl) ⟨⟨rfl, trivial⟩, trivial⟩ ⟨call_ok (ks := []) (ns := []) (bor := []) (bobjs := []) (s_impl_IsValue p1 p2 x13 x14 e14) (.cons (.c1 (.agg (.cons (.same _ (by kernel_rfl) (by kernel_rfl)) (.cons (.same _ (by kernel_rfl) (by kernel_rfl)) (.nil))))) (.cons (.c1 (.c0 (.same _ (by kernel_rfl) (by kernel_rfl)))) (.nil))) (by kernel_rfl) trivial, trivial⟩ ?_
      rcases bool_cases ((!x14)) with b15 | b15
      · replace h := cd_t b15 h
        refine AX.condT ((!x14)) (by kernel_rfl) b15 ?_
        refine AX.seq ?_
        refine AX.reg (its := []) [4, 5] [] (s1 := ⟨[(4, .v (.int .i64 0)), (5, .v (.bool false))], []⟩) (C := True) (by kernel_rfl) trivial trivial ?_
        refine AX.ret ?_
        refine fin_wk (Wk.forget [4, 5] [] (s' := ⟨[(4, .v (.int .i64 0)), (5, .v (.bool false))], []⟩) (by kernel_rfl)) ?_
        have hr := Option.some.inj h
        subst hr
        exact ⟨_, Wk.refl _, .inr rfl, ⟨[], by kernel_rfl, trivial, [.v (.int .i64 0), .v (.bool false)], by kernel_rfl, by kernel_rfl⟩⟩
      · replace h := cd_f b15 h
        refine AX.condF ((!x14)) (by kernel_rfl) b15 ?_
        refine AX.skip ?_
        refine AX.seq ?_
        refine AX.reg (its := []) [4, 5] [] (s1 := ⟨[(4, .v (.int .i64 x13)), (5, .v (.bool true))], []⟩) (C := True) (by kernel_rfl) trivial trivial ?_
        refine AX.ret ?_
        refine fin_wk (Wk.forget [4, 5] [] (s' := ⟨[(4, .v (.int .i64 x13)), (5, .v (.bool true))], []⟩) (by kernel_rfl)) ?_
        have hr := Option.some.inj h
        subst hr
        exact ⟨_, Wk.refl _, .inr rfl, ⟨[], by kernel_rfl, trivial, [.v (.int .i64 x13), .v (.bool true)], by kernel_rfl, by kernel_rfl⟩⟩

theorem s_spec_splitAt_L1 (p1 : ByteArray) (p2 : Int) (n : Nat) (g : List (ByteArray) × Int × Int) (out : List (ByteArray) × Int) (h : m_spec_splitAt_L1 p1 p2 n g.1 g.2.1 g.2.2 = some out) :
    AX Tryz.prog 35 0 (codeAt [1, 1, 1, 0, 1, 1] (bodyOf Tryz.f72)) ((fun g : List (ByteArray) × Int × Int => (⟨[(0, .v (.string p1)), (1, .v (.int .u8 p2)), (5, .sl 0 0 g.1.length), (6, .v (.int .i64 g.2.1)), (7, .v (.int .i64 g.2.2))], [(0, .arr 1 (List.map enc_s g.1))]⟩ : S)) g) (fun ex s => ex = .exit 0 ∧ s = (fun o : List (ByteArray) × Int => (⟨[(0, .v (.string p1)), (5, .sl 0 0 o.1.length), (6, .v (.int .i64 o.2))], [(0, .arr 1 (List.map enc_s o.1))]⟩ : S)) out) := by
  refine AX.wkpost ?_
  refine AX.loop (G := Nat × (List (ByteArray) × Int × Int)) (fun q => (fun g : List (ByteArray) × Int × Int => (⟨[(0, .v (.string p1)), (1, .v (.int .u8 p2)), (5, .sl 0 0 g.1.length), (6, .v (.int .i64 g.2.1)), (7, .v (.int .i64 g.2.2))], [(0, .arr 1 (List.map enc_s g.1))]⟩ : S)) q.2) (fun q => m_spec_splitAt_L1 p1 p2 q.1 q.2.1 q.2.2.1 q.2.2.2 = some out) (fun q => q.1) (n, g) h (Wk.refl _) ?_
  clear h
  rintro ⟨fu, v3, v4, v5⟩ h
  cases fu with
  | zero => cases h
  | succ fu =>
    rw [m_spec_splitAt_L1] at h
    refine AX.seq ?_
    refine AX.seq ?_
    refine AX.reg (its := []) [0, 1, 5, 6, 7, 12] [0] (s1 := ⟨[(0, .v (.string p1)), (1, .v (.int .u8 p2)), (5, .sl 0 0 v3.length), (6, .v (.int .i64 v4)), (7, .v (.int .i64 v5)), (12, .v (.bool (decide (v5 < (p1.size : Int)))))], [(0, .arr 1 (List.map enc_s v3))]⟩) (C := True) (by kernel_rfl) trivial trivial ?_
    rcases bool_cases (decide (v5 < (p1.size : Int))) with b1 | b1
    · replace h := cd_t b1 h
      refine AX.condT (decide (v5 < (p1.size : Int))) (by kernel_rfl) b1 ?_
      refine AX.skip ?_
      refine AX.seq ?_
      refine AX.block ?_
      refine AX.seq ?_
      obtain ⟨g2, h⟩ := gd_e h
      refine AX.reg (its := []) [0, 1, 5, 6, 7, 19] [0] (s1 := ⟨[(0, .v (.string p1)), (1, .v (.int .u8 p2)), (5, .sl 0 0 v3.length), (6, .v (.int .i64 v4)), (7, .v (.int .i64 v5)), (19, .v (.bool (decide ((byteAt p1 v5.toNat) = p2))))], [(0, .arr 1 (List.map enc_s v3))]⟩) (C := (0 ≤ v5 ∧ v5 < (p1.size : Int)) ∧ True) (by kernel_rfl) ⟨g2, trivial⟩ trivial ?_
      rcases bool_cases (decide ((byteAt p1 v5.toNat) = p2)) with b3 | b3
      · replace h := cd_t b3 h
        refine AX.condT (decide ((byteAt p1 v5.toNat) = p2)) (by kernel_rfl) b3 ?_
        refine AX.seq ?_
        obtain ⟨g4, h⟩ := gd_e h
        obtain ⟨g5, h⟩ := gd_e h
        refine AX.reg (its := [.auto {}, .auto {}, .auto {}, .auto {}, .auto {}, .auto { nk := 1 }, .auto { y := some (.sl 2 0 ((v3 ++ ([p1.extract v4.toNat v5.toNat] : List (ByteArray))).length)), els := some (List.map enc_s v3), els2 := some (List.map enc_s ([p1.extract v4.toNat v5.toNat] : List (ByteArray))), nk := 2 }]) [0, 1, 5, 7] [2] (s1 := ⟨[(0, .v (.string p1)), (1, .v (.int .u8 p2)), (5, .sl 2 0 ((v3 ++ ([p1.extract v4.toNat v5.toNat] : List (ByteArray))).length)), (7, .v (.int .i64 v5))], [(2, .arr 1 (List.map enc_s v3 ++ List.map enc_s ([p1.extract v4.toNat v5.toNat] : List (ByteArray))))]⟩) (C := (0 ≤ v4 ∧ v4 ≤ v5 ∧ v5 ≤ (p1.size : Int)) ∧ ((((((List.map enc_s v3).drop 0).take (v3.length) = List.map enc_s v3) ∧ (((List.map enc_s ([p1.extract v4.toNat v5.toNat] : List (ByteArray))).drop 0).take (([p1.extract v4.toNat v5.toNat] : List (ByteArray)).length) = List.map enc_s ([p1.extract v4.toNat v5.toNat] : List (ByteArray)))) ∧ (List.map enc_s v3).length + (List.map enc_s ([p1.extract v4.toNat v5.toNat] : List (ByteArray))).length ≤ 1099511627776) ∧ (AV.sl 2 0 (List.map enc_s v3 ++ List.map enc_s ([p1.extract v4.toNat v5.toNat] : List (ByteArray))).length = AV.sl 2 0 (v3 ++ ([p1.extract v4.toNat v5.toNat] : List (ByteArray))).length)) ∧ True) (by kernel_rfl) ⟨g4, ⟨⟨⟨⟨(dt_all (enc := enc_s) rfl rfl), (dt_all (enc := enc_s) rfl rfl)⟩, (by simp only [List.length_map, List.length_nil, List.length_replicate]; simpa using g5)⟩, sl_len (enc := enc_s) (app_can (enc := enc_s) rfl (rfl))⟩, trivial⟩⟩ trivial ?_
        refine AX.reg (its := [.auto {}, .auto { raw := true }]) [0, 1, 5, 6, 7] [2] (s1 := ⟨[(0, .v (.string p1)), (1, .v (.int .u8 p2)), (5, .sl 2 0 ((v3 ++ ([p1.extract v4.toNat v5.toNat] : List (ByteArray))).length)), (6, .v (.int .i64 (IntKind.wrap .i64 (v5 + 1)))), (7, .v (.int .i64 v5))], [(2, .arr 1 (List.map enc_s v3 ++ List.map enc_s ([p1.extract v4.toNat v5.toNat] : List (ByteArray))))]⟩) (C := True) (by kernel_rfl) trivial trivial ?_
        refine AX.reg (its := [.auto {}, .auto { raw := true }]) [0, 1, 5, 6, 7] [2] (s1 := ⟨[(0, .v (.string p1)), (1, .v (.int .u8 p2)), (5, .sl 2 0 ((v3 ++ ([p1.extract v4.toNat v5.toNat] : List (ByteArray))).length)), (6, .v (.int .i64 (IntKind.wrap .i64 (v5 + 1)))), (7, .v (.int .i64 (IntKind.wrap .i64 (v5 + 1))))], [(2, .arr 1 (List.map enc_s v3 ++ List.map enc_s ([p1.extract v4.toNat v5.toNat] : List (ByteArray))))]⟩) (C := True) (by kernel_rfl) trivial trivial ?_
        refine ⟨(fu, (v3 ++ ([p1.extract v4.toNat v5.toNat] : List (ByteArray)), IntKind.wrap .i64 (v5 + 1), IntKind.wrap .i64 (v5 + 1))), h, Nat.lt_succ_self _, ?_⟩
        refine Wk.trans (Wk.swap 0 2 (Nat.le_of_ble_eq_true (by kernel_rfl)) (Nat.le_of_ble_eq_true (by kernel_rfl)) rfl) ?_
        refine Wk.trans (Wk.forget [0, 1, 5, 6, 7] [0] (s' := ⟨[(0, .v (.string p1)), (1, .v (.int .u8 p2)), (5, .sl 0 0 ((v3 ++ ([p1.extract v4.toNat v5.toNat] : List (ByteArray))).length)), (6, .v (.int .i64 (IntKind.wrap .i64 (v5 + 1)))), (7, .v (.int .i64 (IntKind.wrap .i64 (v5 + 1))))], [(0, .arr 1 (List.map enc_s v3 ++ List.map enc_s ([p1.extract v4.toNat v5.toNat] : List (ByteArray))))]⟩) (by kernel_rfl)) ?_
        refine Wk.trans (Wk.of_eq (congrArg (fun z => (⟨[(0, .v (.string p1)), (1, .v (.int .u8 p2)), (5, .sl 0 0 ((v3 ++ ([p1.extract v4.toNat v5.toNat] : List (ByteArray))).length)), (6, .v (.int .i64 (IntKind.wrap .i64 (v5 + 1)))), (7, .v (.int .i64 (IntKind.wrap .i64 (v5 + 1))))], [(0, .arr 1 (z))]⟩ : S)) (app_can (enc := enc_s) rfl (rfl) : List.map enc_s v3 ++ List.map enc_s ([p1.extract v4.toNat v5.toNat] : List (ByteArray)) = List.map enc_s (v3 ++ ([p1.extract v4.toNat v5.toNat] : List (ByteArray)))))) ?_
        exact Wk.refl _
      · replace h := cd_f b3 h
        refine AX.condF (decide ((byteAt p1 v5.toNat) = p2)) (by kernel_rfl) b3 ?_
        refine AX.skip ?_
        refine AX.reg (its := [.auto {}, .auto { raw := true }]) [0, 1, 5, 6, 7] [0] (s1 := ⟨[(0, .v (.string p1)), (1, .v (.int .u8 p2)), (5, .sl 0 0 v3.length), (6, .v (.int .i64 v4)), (7, .v (.int .i64 (IntKind.wrap .i64 (v5 + 1))))], [(0, .arr 1 (List.map enc_s v3))]⟩) (C := True) (by kernel_rfl) trivial trivial ?_
        refine ⟨(fu, (v3, v4, IntKind.wrap .i64 (v5 + 1))), h, Nat.lt_succ_self _, ?_⟩
        refine Wk.trans (Wk.forget [0, 1, 5, 6, 7] [0] (s' := ⟨[(0, .v (.string p1)), (1, .v (.int .u8 p2)), (5, .sl 0 0 v3.length), (6, .v (.int .i64 v4)), (7, .v (.int .i64 (IntKind.wrap .i64 (v5 + 1))))], [(0, .arr 1 (List.map enc_s v3))]⟩) (by kernel_rfl)) ?_
        exact Wk.refl _
    · replace h := cd_f b1 h
      refine AX.condF (decide (v5 < (p1.size : Int))) (by kernel_rfl) b1 ?_
      refine AX.exit ?_
      refine fin_wk (Wk.forget [0, 5, 6] [0] (s' := ⟨[(0, .v (.string p1)), (5, .sl 0 0 v3.length), (6, .v (.int .i64 v4))], [(0, .arr 1 (List.map enc_s v3))]⟩) (by kernel_rfl)) ?_
      have hr := Option.some.inj h
      subst hr
      exact ⟨_, Wk.refl _, ⟨rfl, rfl⟩⟩

theorem s_spec_splitAt (p1 : ByteArray) (p2 : Int) (r : List (ByteArray)) (h : m_spec_splitAt p1 p2 = some r) :
    Eng.Spec Tryz.prog 72 [.v (.string p1), .v (.int .u8 p2)] [] (.sl 0 0 r.length) [.arr 1 (List.map enc_s r)] := by
  unfold m_spec_splitAt at h
  refine Eng.Spec.body Tryz.func72 (by kernel_rfl) rfl (by kernel_rfl) ?_
  refine AX.wkpost ?_
  refine AX.seq ?_
  refine AX.reg (its := []) [0, 1] [] (s1 := ⟨[(0, .v (.string p1)), (1, .v (.int .u8 p2))], []⟩) (C := True) (by kernel_rfl) trivial trivial ?_
  refine AX.seq ?_
  refine AX.reg (its := [.auto { nk := 0 }]) [0, 1, 5] [0] (s1 := ⟨[(0, .v (.string p1)), (1, .v (.int .u8 p2)), (5, .sl 0 0 (([] : List (ByteArray)).length))], [(0, .arr 1 (List.map enc_s ([] : List (ByteArray))))]⟩) (C := True) (by kernel_rfl) trivial trivial ?_
  refine AX.seq ?_
  refine AX.reg (its := []) [0, 1, 5, 6] [0] (s1 := ⟨[(0, .v (.string p1)), (1, .v (.int .u8 p2)), (5, .sl 0 0 (([] : List (ByteArray)).length)), (6, .v (.int .i64 0))], [(0, .arr 1 (List.map enc_s ([] : List (ByteArray))))]⟩) (C := True) (by kernel_rfl) trivial trivial ?_
  refine AX.seq ?_
  refine AX.seq ?_
  refine AX.reg (its := []) [0, 1, 5, 6, 7] [0] (s1 := ⟨[(0, .v (.string p1)), (1, .v (.int .u8 p2)), (5, .sl 0 0 (([] : List (ByteArray)).length)), (6, .v (.int .i64 0)), (7, .v (.int .i64 0))], [(0, .arr 1 (List.map enc_s ([] : List (ByteArray))))]⟩) (C := True) (by kernel_rfl) trivial trivial ?_
  refine AX.block ?_
  obtain ⟨x6, e6, h⟩ := bd_e h
  refine AX.wk (Wk.forget [0, 1, 5, 6, 7] [0] (s' := ⟨[(0, .v (.string p1)), (1, .v (.int .u8 p2)), (5, .sl 0 0 (([] : List (ByteArray)).length)), (6, .v (.int .i64 0)), (7, .v (.int .i64 0))], [(0, .arr 1 (List.map enc_s ([] : List (ByteArray))))]⟩) (by kernel_rfl)) ?_
  refine AX.mono (s_spec_splitAt_L1 p1 p2 FU (([] : List (ByteArray)), 0, 0) x6 e6) ?_
  rintro _ _ ⟨rfl, rfl⟩
  skip
  refine AX.seq ?_
  obtain ⟨g7, h⟩ := gd_e h
  obtain ⟨g8, h⟩ := gd_e h
  refine AX.reg (its := [.auto {}, .auto {}, .auto {}, .auto {}, .auto { nk := 1 }, .auto { y := some (.sl 2 0 ((x6.1 ++ ([p1.extract x6.2.toNat (p1.size : Int).toNat] : List (ByteArray))).length)), els := some (List.map enc_s x6.1), els2 := some (List.map enc_s ([p1.extract x6.2.toNat (p1.size : Int).toNat] : List (ByteArray))), nk := 2 }]) [4] [2] (s1 := ⟨[(4, .sl 2 0 ((x6.1 ++ ([p1.extract x6.2.toNat (p1.size : Int).toNat] : List (ByteArray))).length))], [(2, .arr 1 (List.map enc_s x6.1 ++ List.map enc_s ([p1.extract x6.2.toNat (p1.size : Int).toNat] : List (ByteArray))))]⟩) (C := (0 ≤ x6.2 ∧ x6.2 ≤ (p1.size : Int) ∧ (p1.size : Int) ≤ (p1.size : Int)) ∧ ((((((List.map enc_s x6.1).drop 0).take (x6.1.length) = List.map enc_s x6.1) ∧ (((List.map enc_s ([p1.extract x6.2.toNat (p1.size : Int).toNat] : List (ByteArray))).drop 0).take (([p1.extract x6.2.toNat (p1.size : Int).toNat] : List (ByteArray)).length) = List.map enc_s ([p1.extract x6.2.toNat (p1.size : Int).toNat] : List (ByteArray)))) ∧ (List.map enc_s x6.1).length + (List.map enc_s ([p1.extract x6.2.toNat (p1.size : Int).toNat] : List (ByteArray))).length ≤ 1099511627776) ∧ (AV.sl 2 0 (List.map enc_s x6.1 ++ List.map enc_s ([p1.extract x6.2.toNat (p1.size : Int).toNat] : List (ByteArray))).length = AV.sl 2 0 (x6.1 ++ ([p1.extract x6.2.toNat (p1.size : Int).toNat] : List (ByteArray))).length)) ∧ True) (by kernel_rfl) ⟨g7, ⟨⟨⟨⟨(dt_all (enc := enc_s) rfl rfl), (dt_all (enc := enc_s) rfl rfl)⟩, (by simp only [List.length_map, List.length_nil, List.length_replicate]; simpa using g8)⟩, sl_len (enc := enc_s) (app_can (enc := enc_s) rfl (rfl))⟩, trivial⟩⟩ trivial ?_
  refine AX.ret ?_
  refine fin_wk (Wk.swap 0 2 (Nat.le_of_ble_eq_true (by kernel_rfl)) (Nat.le_of_ble_eq_true (by kernel_rfl)) rfl) ?_
  refine fin_wk (Wk.forget [4] [0] (s' := ⟨[(4, .sl 0 0 ((x6.1 ++ ([p1.extract x6.2.toNat (p1.size : Int).toNat] : List (ByteArray))).length))], [(0, .arr 1 (List.map enc_s x6.1 ++ List.map enc_s ([p1.extract x6.2.toNat (p1.size : Int).toNat] : List (ByteArray))))]⟩) (by kernel_rfl)) ?_
  refine fin_wk (Wk.of_eq (congrArg (fun z => (⟨[(4, .sl 0 0 ((x6.1 ++ ([p1.extract x6.2.toNat (p1.size : Int).toNat] : List (ByteArray))).length))], [(0, .arr 1 (z))]⟩ : S)) (app_can (enc := enc_s) rfl (rfl) : List.map enc_s x6.1 ++ List.map enc_s ([p1.extract x6.2.toNat (p1.size : Int).toNat] : List (ByteArray)) = List.map enc_s (x6.1 ++ ([p1.extract x6.2.toNat (p1.size : Int).toNat] : List (ByteArray)))))) ?_
  have hr := Option.some.inj h
  subst hr
  exact ⟨_, Wk.refl _, .inr rfl, ⟨[0], by kernel_rfl, ⟨rfl, trivial⟩, [.sl 0 0 ((x6.1 ++ ([p1.extract x6.2.toNat (p1.size : Int).toNat] : List (ByteArray))).length)], by kernel_rfl, by kernel_rfl⟩⟩

theorem s_spec_readNumber_L1 (p1 : ByteArray) (n : Nat) (g : Int × Int) (out : Unit ⊕ Int) (h : m_spec_readNumber_L1 p1 n g.1 g.2 = some out) :
    AX Tryz.prog 46 0 (codeAt [1, 1, 0, 1, 1] (bodyOf Tryz.f109)) ((fun g : Int × Int => (⟨[(0, .v (.string p1)), (3, .v (.int .i64 g.1)), (4, .v (.int .i64 g.2))], []⟩ : S)) g) (fun ex s => (∃ o : Unit, out = Sum.inl o ∧ ex = .ret ∧ s = ⟨[(2, .v (.int .i64 (-1)))], []⟩) ∨ (∃ o : Int, out = Sum.inr o ∧ ex = .exit 0 ∧ s = ⟨[(0, .v (.string p1)), (3, .v (.int .i64 o))], []⟩)) := by
  refine AX.wkpost ?_
  refine AX.loop (G := Nat × (Int × Int)) (fun q => (fun g : Int × Int => (⟨[(0, .v (.string p1)), (3, .v (.int .i64 g.1)), (4, .v (.int .i64 g.2))], []⟩ : S)) q.2) (fun q => m_spec_readNumber_L1 p1 q.1 q.2.1 q.2.2 = some out) (fun q => q.1) (n, g) h (Wk.refl _) ?_
  clear h
  rintro ⟨fu, v2, v3⟩ h
  cases fu with
  | zero => cases h
  | succ fu =>
    rw [m_spec_readNumber_L1] at h
    refine AX.seq ?_
    refine AX.seq ?_
    refine AX.reg (its := []) [0, 3, 4, 8] [] (s1 := ⟨[(0, .v (.string p1)), (3, .v (.int .i64 v2)), (4, .v (.int .i64 v3)), (8, .v (.bool (decide (v3 < (p1.size : Int)))))], []⟩) (C := True) (by kernel_rfl) trivial trivial ?_
    rcases bool_cases (decide (v3 < (p1.size : Int))) with b1 | b1
    · replace h := cd_t b1 h
      refine AX.condT (decide (v3 < (p1.size : Int))) (by kernel_rfl) b1 ?_
      refine AX.skip ?_
      refine AX.seq ?_
      refine AX.block ?_
      refine AX.seq ?_
      refine AX.seq ?_
      obtain ⟨g2, h⟩ := gd_e h
      rcases bool_cases (decide ((byteAt p1 v3.toNat) < 48)) with b3 | b3
      · replace h := cd_t b3 h
        refine AX.reg (its := [.auto {}, .auto {}, .auto {}, .auto { y := some (.v (.bool true)) }]) [0, 3, 4, 24] [] (s1 := ⟨[(0, .v (.string p1)), (3, .v (.int .i64 v2)), (4, .v (.int .i64 v3)), (24, .v (.bool true))], []⟩) (C := (0 ≤ v3 ∧ v3 < (p1.size : Int)) ∧ ((True) ∧ ((.v (.bool (decide ((byteAt p1 v3.toNat) < 48))) : AV) = (.v (.bool true) : AV))) ∧ True) (by kernel_rfl) ⟨g2, ⟨⟨trivial, (congrArg (fun z => AV.v (.bool z)) b3)⟩, trivial⟩⟩ trivial ?_
        refine AX.cond_true (by kernel_rfl) ?_
        refine AX.seq ?_
        refine AX.reg (its := []) [2] [] (s1 := ⟨[(2, .v (.int .i64 (-1)))], []⟩) (C := True) (by kernel_rfl) trivial trivial ?_
        refine AX.ret ?_
        refine fin_wk (Wk.forget [2] [] (s' := ⟨[(2, .v (.int .i64 (-1)))], []⟩) (by kernel_rfl)) ?_
        have hr := Option.some.inj h
        subst hr
        exact ⟨_, Wk.refl _, .inl ⟨(), rfl, rfl, rfl⟩⟩
      · replace h := cd_f b3 h
        rcases bool_cases (decide (57 < (byteAt p1 v3.toNat))) with b4 | b4
        · replace h := cd_t b4 h
          refine AX.reg (its := [.auto {}, .auto {}, .auto {}, .auto { y := some (.v (.bool false)) }, .auto {}, .auto {}, .auto {}, .auto {}, .auto { y := some (.v (.bool true)) }]) [0, 3, 4, 24] [] (s1 := ⟨[(0, .v (.string p1)), (3, .v (.int .i64 v2)), (4, .v (.int .i64 v3)), (24, .v (.bool true))], []⟩) (C := (0 ≤ v3 ∧ v3 < (p1.size : Int)) ∧ ((True) ∧ ((.v (.bool (decide ((byteAt p1 v3.toNat) < 48))) : AV) = (.v (.bool false) : AV))) ∧ (0 ≤ v3 ∧ v3 < (p1.size : Int)) ∧ ((True) ∧ ((.v (.bool (decide (57 < (byteAt p1 v3.toNat)))) : AV) = (.v (.bool true) : AV))) ∧ True) (by kernel_rfl) ⟨g2, ⟨⟨trivial, (congrArg (fun z => AV.v (.bool z)) b3)⟩, ⟨g2, ⟨⟨trivial, (congrArg (fun z => AV.v (.bool z)) b4)⟩, trivial⟩⟩⟩⟩ trivial ?_
          refine AX.cond_true (by kernel_rfl) ?_
          refine AX.seq ?_
          refine AX.reg (its := []) [2] [] (s1 := ⟨[(2, .v (.int .i64 (-1)))], []⟩) (C := True) (by kernel_rfl) trivial trivial ?_
          refine AX.ret ?_
          refine fin_wk (Wk.forget [2] [] (s' := ⟨[(2, .v (.int .i64 (-1)))], []⟩) (by kernel_rfl)) ?_
          have hr := Option.some.inj h
          subst hr
          exact ⟨_, Wk.refl _, .inl ⟨(), rfl, rfl, rfl⟩⟩
        · replace h := cd_f b4 h
          refine AX.reg (its := [.auto {}, .auto {}, .auto {}, .auto { y := some (.v (.bool false)) }, .auto {}, .auto {}, .auto {}, .auto {}, .auto { y := some (.v (.bool false)) }]) [0, 3, 4, 24] [] (s1 := ⟨[(0, .v (.string p1)), (3, .v (.int .i64 v2)), (4, .v (.int .i64 v3)), (24, .v (.bool (decide (4095 < v2))))], []⟩) (C := (0 ≤ v3 ∧ v3 < (p1.size : Int)) ∧ ((True) ∧ ((.v (.bool (decide ((byteAt p1 v3.toNat) < 48))) : AV) = (.v (.bool false) : AV))) ∧ (0 ≤ v3 ∧ v3 < (p1.size : Int)) ∧ ((True) ∧ ((.v (.bool (decide (57 < (byteAt p1 v3.toNat)))) : AV) = (.v (.bool false) : AV))) ∧ True) (by kernel_rfl) ⟨g2, ⟨⟨trivial, (congrArg (fun z => AV.v (.bool z)) b3)⟩, ⟨g2, ⟨⟨trivial, (congrArg (fun z => AV.v (.bool z)) b4)⟩, trivial⟩⟩⟩⟩ trivial ?_
          rcases bool_cases (decide (4095 < v2)) with b5 | b5
          · replace h := cd_t b5 h
            refine AX.condT (decide (4095 < v2)) (by kernel_rfl) b5 ?_
            refine AX.seq ?_
            refine AX.reg (its := []) [2] [] (s1 := ⟨[(2, .v (.int .i64 (-1)))], []⟩) (C := True) (by kernel_rfl) trivial trivial ?_
            refine AX.ret ?_
            refine fin_wk (Wk.forget [2] [] (s' := ⟨[(2, .v (.int .i64 (-1)))], []⟩) (by kernel_rfl)) ?_
            have hr := Option.some.inj h
            subst hr
            exact ⟨_, Wk.refl _, .inl ⟨(), rfl, rfl, rfl⟩⟩
          · replace h := cd_f b5 h
            refine AX.condF (decide (4095 < v2)) (by kernel_rfl) b5 ?_
            refine AX.skip ?_
            obtain ⟨v4, q6, h⟩ := nm_e h
            refine AX.reg (its := [.auto {}, .auto { raw := true }, .auto {}, .auto {}, .auto {}, .auto { raw := true }, .auto { y := some (.v (.int .i64 v4)), raw := true }, .auto { raw := true }]) [0, 3, 4] [] (s1 := ⟨[(0, .v (.string p1)), (3, .v (.int .i64 (IntKind.wrap .i64 ((IntKind.wrap .i64 (10 * v2)) + v4)))), (4, .v (.int .i64 v3))], []⟩) (C := (0 ≤ v3 ∧ v3 < (p1.size : Int)) ∧ ((True) ∧ ((.v (.int .i64 (IntKind.wrap .i64 (IntKind.wrap .u8 ((byteAt p1 v3.toNat) - 48)))) : AV) = (.v (.int .i64 v4) : AV))) ∧ True) (by kernel_rfl) ⟨g2, ⟨⟨trivial, (congrArg (fun z => AV.v (.int .i64 z)) q6)⟩, trivial⟩⟩ trivial ?_
            refine AX.reg (its := [.auto {}, .auto { raw := true }]) [0, 3, 4] [] (s1 := ⟨[(0, .v (.string p1)), (3, .v (.int .i64 (IntKind.wrap .i64 ((IntKind.wrap .i64 (10 * v2)) + v4)))), (4, .v (.int .i64 (IntKind.wrap .i64 (v3 + 1))))], []⟩) (C := True) (by kernel_rfl) trivial trivial ?_
            refine ⟨(fu, (IntKind.wrap .i64 ((IntKind.wrap .i64 (10 * v2)) + v4), IntKind.wrap .i64 (v3 + 1))), h, Nat.lt_succ_self _, ?_⟩
            refine Wk.trans (Wk.forget [0, 3, 4] [] (s' := ⟨[(0, .v (.string p1)), (3, .v (.int .i64 (IntKind.wrap .i64 ((IntKind.wrap .i64 (10 * v2)) + v4)))), (4, .v (.int .i64 (IntKind.wrap .i64 (v3 + 1))))], []⟩) (by kernel_rfl)) ?_
            exact Wk.refl _
    · replace h := cd_f b1 h
      refine AX.condF (decide (v3 < (p1.size : Int))) (by kernel_rfl) b1 ?_
      refine AX.exit ?_
      refine fin_wk (Wk.forget [0, 3] [] (s' := ⟨[(0, .v (.string p1)), (3, .v (.int .i64 v2))], []⟩) (by kernel_rfl)) ?_
      have hr := Option.some.inj h
      subst hr
      exact ⟨_, Wk.refl _, .inr ⟨v2, rfl, rfl, rfl⟩⟩

theorem s_spec_readNumber (p1 : ByteArray) (r : Int) (h : m_spec_readNumber p1 = some r) :
    Eng.Spec Tryz.prog 109 [.v (.string p1)] [] (.v (.int .i64 r)) [] := by
  unfold m_spec_readNumber at h
  refine Eng.Spec.body Tryz.func109 (by kernel_rfl) rfl (by kernel_rfl) ?_
  refine AX.wkpost ?_
  refine AX.seq ?_
  refine AX.reg (its := []) [0] [] (s1 := ⟨[(0, .v (.string p1))], []⟩) (C := True) (by kernel_rfl) trivial trivial ?_
  refine AX.seq ?_
  refine AX.reg (its := []) [0, 3] [] (s1 := ⟨[(0, .v (.string p1)), (3, .v (.int .i64 0))], []⟩) (C := True) (by kernel_rfl) trivial trivial ?_
  refine AX.seq ?_
  refine AX.seq ?_
  refine AX.reg (its := []) [0, 3, 4] [] (s1 := ⟨[(0, .v (.string p1)), (3, .v (.int .i64 0)), (4, .v (.int .i64 0))], []⟩) (C := True) (by kernel_rfl) trivial trivial ?_
  refine AX.block ?_
  obtain ⟨x5, e7, h⟩ := bd_e h
  refine AX.wk (Wk.forget [0, 3, 4] [] (s' := ⟨[(0, .v (.string p1)), (3, .v (.int .i64 0)), (4, .v (.int .i64 0))], []⟩) (by kernel_rfl)) ?_
  refine AX.mono (s_spec_readNumber_L1 p1 FU (0, 0) x5 e7) ?_
  rintro _ _ (⟨x6, rfl, rfl, rfl⟩ | ⟨x7, rfl, rfl, rfl⟩)
  · replace h := sm_l h
    refine fin_wk (Wk.forget [2] [] (s' := ⟨[(2, .v (.int .i64 (-1)))], []⟩) (by kernel_rfl)) ?_
    have hr := Option.some.inj h
    subst hr
    exact ⟨_, Wk.refl _, .inr rfl, ⟨[], by kernel_rfl, trivial, [.v (.int .i64 (-1))], by kernel_rfl, by kernel_rfl⟩⟩
  · replace h := sm_r h
    refine AX.seq ?_
    refine AX.seq ?_
    rcases bool_cases (decide (p1 = ByteArray.empty)) with b8 | b8
    · replace h := cd_t b8 h
      refine AX.reg (its := [.auto {}, .auto { y := some (.v (.bool true)) }]) [3, 44] [] (s1 := ⟨[(3, .v (.int .i64 x7)), (44, .v (.bool true))], []⟩) (C := ((True) ∧ ((.v (.bool (decide (p1 = ByteArray.empty))) : AV) = (.v (.bool true) : AV))) ∧ True) (by kernel_rfl) ⟨⟨trivial, (congrArg (fun z => AV.v (.bool z)) b8)⟩, trivial⟩ trivial ?_
      refine AX.cond_true (by kernel_rfl) ?_
      refine AX.seq ?_
      refine AX.reg (its := []) [2] [] (s1 := ⟨[(2, .v (.int .i64 (-1)))], []⟩) (C := True) (by kernel_rfl) trivial trivial ?_
      refine AX.ret ?_
      refine fin_wk (Wk.forget [2] [] (s' := ⟨[(2, .v (.int .i64 (-1)))], []⟩) (by kernel_rfl)) ?_
      have hr := Option.some.inj h
      subst hr
      exact ⟨_, Wk.refl _, .inr rfl, ⟨[], by kernel_rfl, trivial, [.v (.int .i64 (-1))], by kernel_rfl, by kernel_rfl⟩⟩
    · replace h := cd_f b8 h
      rcases bool_cases (decide (4096 < x7)) with b9 | b9
      · replace h := cd_t b9 h
        refine AX.reg (its := [.auto {}, .auto { y := some (.v (.bool false)) }, .auto {}, .auto {}, .auto { y := some (.v (.bool true)) }]) [3, 44] [] (s1 := ⟨[(3, .v (.int .i64 x7)), (44, .v (.bool true))], []⟩) (C := ((True) ∧ ((.v (.bool (decide (p1 = ByteArray.empty))) : AV) = (.v (.bool false) : AV))) ∧ ((True) ∧ ((.v (.bool (decide (4096 < x7))) : AV) = (.v (.bool true) : AV))) ∧ True) (by kernel_rfl) ⟨⟨trivial, (congrArg (fun z => AV.v (.bool z)) b8)⟩, ⟨⟨trivial, (congrArg (fun z => AV.v (.bool z)) b9)⟩, trivial⟩⟩ trivial ?_
        refine AX.cond_true (by kernel_rfl) ?_
        refine AX.seq ?_
        refine AX.reg (its := []) [2] [] (s1 := ⟨[(2, .v (.int .i64 (-1)))], []⟩) (C := True) (by kernel_rfl) trivial trivial ?_
        refine AX.ret ?_
        refine fin_wk (Wk.forget [2] [] (s' := ⟨[(2, .v (.int .i64 (-1)))], []⟩) (by kernel_rfl)) ?_
        have hr := Option.some.inj h
        subst hr
        exact ⟨_, Wk.refl _, .inr rfl, ⟨[], by kernel_rfl, trivial, [.v (.int .i64 (-1))], by kernel_rfl, by kernel_rfl⟩⟩
      · replace h := cd_f b9 h
        obtain ⟨x8, e10, h⟩ := bd_e h
        refine AX.reg (its := [.auto {}, .auto { y := some (.v (.bool false)) }, .auto {}, .auto {}, .auto { y := some (.v (.bool false)) }, .auto {}, .auto {}, .auto {}, .call 83 [.v (.int .i64 x7)] (handO (rho ([] ++ [])) [] [] ++ []) (callEv [] [] (.v (.string x8)) [])]) [3, 44] [] (s1 := ⟨[(3, .v (.int .i64 x7)), (44, .v (.bool (!decide (x8 = p1))))], []⟩) (C := ((True) ∧ ((.v (.bool (decide (p1 = ByteArray.empty))) : AV) = (.v (.bool false) : AV))) ∧ ((True) ∧ ((.v (.bool (decide (4096 < x7))) : AV) = (.v (.bool false) : AV))) ∧ ((([.v (.int .i64 x7)] : List AV) = [.v (.int .i64 x7)]) ∧ True) ∧ True) (by kernel_rfl) ⟨⟨trivial, (congrArg (fun z => AV.v (.bool z)) b8)⟩, ⟨⟨trivial, (congrArg (fun z => AV.v (.bool z)) b9)⟩, ⟨⟨rfl, trivial⟩, trivial⟩⟩⟩ ⟨call_ok (ks := []) (ns := []) (bor := []) (bobjs := []) (s_spec_number FU x7 x8 e10) (.cons (.c1 (.c0 (.same _ (by kernel_rfl) (by kernel_rfl)))) (.nil)) (by kernel_rfl) trivial, trivial⟩ ?_
        rcases bool_cases ((!decide (x8 = p1))) with b11 | b11
        · replace h := cd_t b11 h
          refine AX.condT ((!decide (x8 = p1))) (by kernel_rfl) b11 ?_
          refine AX.seq ?_
          refine AX.reg (its := []) [2] [] (s1 := ⟨[(2, .v (.int .i64 (-1)))], []⟩) (C := True) (by kernel_rfl) trivial trivial ?_
          refine AX.ret ?_
          refine fin_wk (Wk.forget [2] [] (s' := ⟨[(2, .v (.int .i64 (-1)))], []⟩) (by kernel_rfl)) ?_
          have hr := Option.some.inj h
          subst hr
          exact ⟨_, Wk.refl _, .inr rfl, ⟨[], by kernel_rfl, trivial, [.v (.int .i64 (-1))], by kernel_rfl, by kernel_rfl⟩⟩
        · replace h := cd_f b11 h
          refine AX.condF ((!decide (x8 = p1))) (by kernel_rfl) b11 ?_
          refine AX.skip ?_
          refine AX.seq ?_
          refine AX.reg (its := []) [2] [] (s1 := ⟨[(2, .v (.int .i64 x7))], []⟩) (C := True) (by kernel_rfl) trivial trivial ?_
          refine AX.ret ?_
          refine fin_wk (Wk.forget [2] [] (s' := ⟨[(2, .v (.int .i64 x7))], []⟩) (by kernel_rfl)) ?_
          have hr := Option.some.inj h
          subst hr
          exact ⟨_, Wk.refl _, .inr rfl, ⟨[], by kernel_rfl, trivial, [.v (.int .i64 x7)], by kernel_rfl, by kernel_rfl⟩⟩

theorem s_spec_readPart (p1 : List (ByteArray × Int)) (p2 : ByteArray) (r : Int) (h : m_spec_readPart p1 p2 = some r) :
    Eng.Spec Tryz.prog 73 [.bs false 2 (List.map enc_si p1), .v (.string p2)] [] (.v (.int .i64 r)) [] := by
  unfold m_spec_readPart at h
  refine Eng.Spec.body Tryz.func73 (by kernel_rfl) rfl (by kernel_rfl) ?_
  refine AX.wkpost ?_
  refine AX.seq ?_
  refine AX.reg (its := []) [0, 1] [] (s1 := ⟨[(0, .bs false 2 (List.map enc_si p1)), (1, .v (.string p2))], []⟩) (C := True) (by kernel_rfl) trivial trivial ?_
  refine AX.seq ?_
  obtain ⟨x3, e1, h⟩ := bd_e h
  refine AX.reg (its := [.auto {}, .auto {}, .call 108 [.bs false 2 (List.map enc_si p1), .v (.string p2)] (handO (rho ([] ++ [])) [] [] ++ []) (callEv [] [] (.v (.int .i64 x3)) [])]) [0, 1, 5] [] (s1 := ⟨[(0, .bs false 2 (List.map enc_si p1)), (1, .v (.string p2)), (5, .v (.int .i64 x3))], []⟩) (C := ((([.bs false 2 (List.map enc_si p1), .v (.string p2)] : List AV) = [.bs false 2 (List.map enc_si p1), .v (.string p2)]) ∧ True) ∧ True) (by kernel_rfl) ⟨⟨rfl, trivial⟩, trivial⟩ ⟨call_ok (ks := []) (ns := []) (bor := []) (bobjs := []) (s_spec_indexOf p1 p2 x3 e1) (.cons (.c1 (.c0 (.same _ (by kernel_rfl) (by kernel_rfl)))) (.cons (.c1 (.c0 (.same _ (by kernel_rfl) (by kernel_rfl)))) (.nil))) (by kernel_rfl) trivial, trivial⟩ ?_
  refine AX.seq ?_
  refine AX.seq ?_
  refine AX.reg (its := []) [0, 1, 5, 10] [] (s1 := ⟨[(0, .bs false 2 (List.map enc_si p1)), (1, .v (.string p2)), (5, .v (.int .i64 x3)), (10, .v (.bool (decide (0 ≤ x3))))], []⟩) (C := True) (by kernel_rfl) trivial trivial ?_
  rcases bool_cases (decide (0 ≤ x3)) with b2 | b2
  · replace h := cd_t b2 h
    refine AX.condT (decide (0 ≤ x3)) (by kernel_rfl) b2 ?_
    refine AX.seq ?_
    obtain ⟨g3, h⟩ := gd_e h
    refine AX.reg (its := [.auto {}, .auto {}, .auto { y := some (.be 2 (enc_si (gt p1 x3)) 0) }]) [4] [] (s1 := ⟨[(4, .v (.int .i64 ((gt p1 x3).2)))], []⟩) (C := ((0 ≤ x3 ∧ x3 < ((List.map enc_si p1).length : Int)) ∧ (AV.be 2 ((List.map enc_si p1).getD x3.toNat []) 0 = AV.be 2 (enc_si (gt p1 x3)) 0)) ∧ True) (by kernel_rfl) ⟨idx_bs enc_si p1 x3 2 g3, trivial⟩ trivial ?_
    refine AX.ret ?_
    refine fin_wk (Wk.forget [4] [] (s' := ⟨[(4, .v (.int .i64 ((gt p1 x3).2)))], []⟩) (by kernel_rfl)) ?_
    have hr := Option.some.inj h
    subst hr
    exact ⟨_, Wk.refl _, .inr rfl, ⟨[], by kernel_rfl, trivial, [.v (.int .i64 ((gt p1 x3).2))], by kernel_rfl, by kernel_rfl⟩⟩
  · replace h := cd_f b2 h
    refine AX.condF (decide (0 ≤ x3)) (by kernel_rfl) b2 ?_
    refine AX.skip ?_
    refine AX.seq ?_
    obtain ⟨x4, e4, h⟩ := bd_e h
    refine AX.reg (its := [.auto {}, .call 109 [.v (.string p2)] (handO (rho ([] ++ [])) [] [] ++ []) (callEv [] [] (.v (.int .i64 x4)) [])]) [4] [] (s1 := ⟨[(4, .v (.int .i64 x4))], []⟩) (C := ((([.v (.string p2)] : List AV) = [.v (.string p2)]) ∧ True) ∧ True) (by kernel_rfl) ⟨⟨rfl, trivial⟩, trivial⟩ ⟨call_ok (ks := []) (ns := []) (bor := []) (bobjs := []) (s_spec_readNumber p2 x4 e4) (.cons (.c1 (.c0 (.same _ (by kernel_rfl) (by kernel_rfl)))) (.nil)) (by kernel_rfl) trivial, trivial⟩ ?_
    refine AX.ret ?_
    refine fin_wk (Wk.forget [4] [] (s' := ⟨[(4, .v (.int .i64 x4))], []⟩) (by kernel_rfl)) ?_
    have hr := Option.some.inj h
    subst hr
    exact ⟨_, Wk.refl _, .inr rfl, ⟨[], by kernel_rfl, trivial, [.v (.int .i64 x4)], by kernel_rfl, by kernel_rfl⟩⟩

theorem s_spec_readValue_L1 (p1 : List (ByteArray × Int)) (p2 : Int) (x4 : List (ByteArray)) (n : Nat) (g : Int × Int) (out : Unit ⊕ Int) (h : m_spec_readValue_L1 p1 p2 x4 n g.1 g.2 = some out) :
    AX Tryz.prog 34 0 (codeAt [1, 1, 1, 0, 1, 1] (bodyOf Tryz.f37)) ((fun g : Int × Int => (⟨[(2, .pt 0 0), (5, .sl 1 0 x4.length), (6, .v (.int .i64 g.1)), (7, .v (.int .i64 g.2))], [(0, .box [.bs false 2 (List.map enc_si p1), .v (.int .i64 p2)]), (1, .arr 1 (List.map enc_s x4))]⟩ : S)) g) (fun ex s => (∃ o : Unit, out = Sum.inl o ∧ ex = .ret ∧ s = ⟨[(4, .v (.int .i64 (-1)))], []⟩) ∨ (∃ o : Int, out = Sum.inr o ∧ ex = .exit 0 ∧ s = ⟨[(2, .pt 0 0), (6, .v (.int .i64 o))], [(0, .box [.bs false 2 (List.map enc_si p1), .v (.int .i64 p2)])]⟩)) := by
  refine AX.wkpost ?_
  refine AX.loop (G := Nat × (Int × Int)) (fun q => (fun g : Int × Int => (⟨[(2, .pt 0 0), (5, .sl 1 0 x4.length), (6, .v (.int .i64 g.1)), (7, .v (.int .i64 g.2))], [(0, .box [.bs false 2 (List.map enc_si p1), .v (.int .i64 p2)]), (1, .arr 1 (List.map enc_s x4))]⟩ : S)) q.2) (fun q => m_spec_readValue_L1 p1 p2 x4 q.1 q.2.1 q.2.2 = some out) (fun q => q.1) (n, g) h (Wk.refl _) ?_
  clear h
  rintro ⟨fu, v5, v6⟩ h
  cases fu with
  | zero => cases h
  | succ fu =>
    rw [m_spec_readValue_L1] at h
    refine AX.seq ?_
    refine AX.seq ?_
    refine AX.reg (its := []) [2, 5, 6, 7, 14] [0, 1] (s1 := ⟨[(2, .pt 0 0), (5, .sl 1 0 x4.length), (6, .v (.int .i64 v5)), (7, .v (.int .i64 v6)), (14, .v (.bool (decide (v6 < (x4.length : Int)))))], [(0, .box [.bs false 2 (List.map enc_si p1), .v (.int .i64 p2)]), (1, .arr 1 (List.map enc_s x4))]⟩) (C := True) (by kernel_rfl) trivial trivial ?_
    rcases bool_cases (decide (v6 < (x4.length : Int))) with b2 | b2
    · replace h := cd_t b2 h
      refine AX.condT (decide (v6 < (x4.length : Int))) (by kernel_rfl) b2 ?_
      refine AX.skip ?_
      refine AX.seq ?_
      refine AX.block ?_
      refine AX.seq ?_
      obtain ⟨g3, h⟩ := gd_e h
      obtain ⟨x7, e4, h⟩ := bd_e h
      refine AX.drw mixed (its := [.auto {}, .auto {}, .auto {}, .auto {}, .auto {}, .auto { y := some (.v (.string (gt x4 v6))) }, .call 73 [.bs false 2 (List.map enc_si p1), .v (.string (gt x4 v6))] (handO (rho ([] ++ [])) [] [] ++ []) (callEv [] [] (.v (.int .i64 x7)) [])]) [2, 5, 6, 7, 8] [0, 1] (s1 := ⟨[(2, .pt 0 0), (5, .sl 1 0 x4.length), (6, .v (.int .i64 v5)), (7, .v (.int .i64 v6)), (8, .v (.int .i64 x7))], [(0, .box [.bs false 2 (List.map enc_si p1), .v (.int .i64 p2)]), (1, .arr 1 (List.map enc_s x4))]⟩) (C := (0 ≤ v6 ∧ v6 < (x4.length : Int)) ∧ (True ∧ (AV.v (((List.map enc_s x4).getD (0 + v6.toNat) []).getD 0 undef) = .v (.string (gt x4 v6)))) ∧ ((([.bs false 2 (List.map enc_si p1), .v (.string (gt x4 v6))] : List AV) = [.bs false 2 (List.map enc_si p1), .v (.string (gt x4 v6))]) ∧ True) ∧ True) (by kernel_rfl) ⟨g3, ⟨⟨trivial, (congrArg (fun z : List Value => AV.v (z.getD 0 undef)) (idx_arr (enc := enc_s) rfl g3))⟩, ⟨⟨rfl, trivial⟩, trivial⟩⟩⟩ ⟨call_ok (ks := []) (ns := []) (bor := []) (bobjs := []) (s_spec_readPart p1 (gt x4 v6) x7 e4) (.cons (.c1 (.c0 (.same _ (by kernel_rfl) (by kernel_rfl)))) (.cons (.c1 (.c0 (.same _ (by kernel_rfl) (by kernel_rfl)))) (.nil))) (by kernel_rfl) trivial, trivial⟩ ?_
      refine AX.seq ?_
      refine AX.seq ?_
      refine AX.reg (its := []) [2, 5, 6, 7, 8, 25] [0, 1] (s1 := ⟨[(2, .pt 0 0), (5, .sl 1 0 x4.length), (6, .v (.int .i64 v5)), (7, .v (.int .i64 v6)), (8, .v (.int .i64 x7)), (25, .v (.bool (decide (x7 < 0))))], [(0, .box [.bs false 2 (List.map enc_si p1), .v (.int .i64 p2)]), (1, .arr 1 (List.map enc_s x4))]⟩) (C := True) (by kernel_rfl) trivial trivial ?_
      rcases bool_cases (decide (x7 < 0)) with b5 | b5
      · replace h := cd_t b5 h
        refine AX.condT (decide (x7 < 0)) (by kernel_rfl) b5 ?_
        refine AX.seq ?_
        refine AX.reg (its := []) [4] [] (s1 := ⟨[(4, .v (.int .i64 (-1)))], []⟩) (C := True) (by kernel_rfl) trivial trivial ?_
        refine AX.ret ?_
        refine fin_wk (Wk.forget [4] [] (s' := ⟨[(4, .v (.int .i64 (-1)))], []⟩) (by kernel_rfl)) ?_
        have hr := Option.some.inj h
        subst hr
        exact ⟨_, Wk.refl _, .inl ⟨(), rfl, rfl, rfl⟩⟩
      · replace h := cd_f b5 h
        refine AX.condF (decide (x7 < 0)) (by kernel_rfl) b5 ?_
        refine AX.skip ?_
        obtain ⟨x8, e6, h⟩ := bd_e h
        refine AX.reg (its := [.auto {}, .auto {}, .call 74 [.v (.int .i64 v5), .v (.int .i64 x7)] (handO (rho ([] ++ [])) [] [] ++ []) (callEv [] [] (.v (.int .i64 x8)) [])]) [2, 5, 6, 7] [0, 1] (s1 := ⟨[(2, .pt 0 0), (5, .sl 1 0 x4.length), (6, .v (.int .i64 x8)), (7, .v (.int .i64 v6))], [(0, .box [.bs false 2 (List.map enc_si p1), .v (.int .i64 p2)]), (1, .arr 1 (List.map enc_s x4))]⟩) (C := ((([.v (.int .i64 v5), .v (.int .i64 x7)] : List AV) = [.v (.int .i64 v5), .v (.int .i64 x7)]) ∧ True) ∧ True) (by kernel_rfl) ⟨⟨rfl, trivial⟩, trivial⟩ ⟨call_ok (ks := []) (ns := []) (bor := []) (bobjs := []) (s_spec_either v5 x7 x8 e6) (.cons (.c1 (.c0 (.same _ (by kernel_rfl) (by kernel_rfl)))) (.cons (.c1 (.c0 (.same _ (by kernel_rfl) (by kernel_rfl)))) (.nil))) (by kernel_rfl) trivial, trivial⟩ ?_
        refine AX.reg (its := [.auto {}, .auto { raw := true }]) [2, 5, 6, 7] [0, 1] (s1 := ⟨[(2, .pt 0 0), (5, .sl 1 0 x4.length), (6, .v (.int .i64 x8)), (7, .v (.int .i64 (IntKind.wrap .i64 (v6 + 1))))], [(0, .box [.bs false 2 (List.map enc_si p1), .v (.int .i64 p2)]), (1, .arr 1 (List.map enc_s x4))]⟩) (C := True) (by kernel_rfl) trivial trivial ?_
        refine ⟨(fu, (x8, IntKind.wrap .i64 (v6 + 1))), h, Nat.lt_succ_self _, ?_⟩
        refine Wk.trans (Wk.forget [2, 5, 6, 7] [0, 1] (s' := ⟨[(2, .pt 0 0), (5, .sl 1 0 x4.length), (6, .v (.int .i64 x8)), (7, .v (.int .i64 (IntKind.wrap .i64 (v6 + 1))))], [(0, .box [.bs false 2 (List.map enc_si p1), .v (.int .i64 p2)]), (1, .arr 1 (List.map enc_s x4))]⟩) (by kernel_rfl)) ?_
        exact Wk.refl _
    · replace h := cd_f b2 h
      refine AX.condF (decide (v6 < (x4.length : Int))) (by kernel_rfl) b2 ?_
      refine AX.exit ?_
      refine fin_wk (Wk.forget [2, 6] [0] (s' := ⟨[(2, .pt 0 0), (6, .v (.int .i64 v5))], [(0, .box [.bs false 2 (List.map enc_si p1), .v (.int .i64 p2)])]⟩) (by kernel_rfl)) ?_
      have hr := Option.some.inj h
      subst hr
      exact ⟨_, Wk.refl _, .inr ⟨v5, rfl, rfl, rfl⟩⟩

theorem s_spec_readValue (p1 : List (ByteArray × Int)) (p2 : Int) (p3 : ByteArray) (r : Int) (h : m_spec_readValue p1 p2 p3 = some r) :
    Eng.Spec Tryz.prog 37 [.agg [.bs false 2 (List.map enc_si p1), .v (.int .i64 p2)], .v (.string p3)] [] (.v (.int .i64 r)) [] := by
  unfold m_spec_readValue at h
  refine Eng.Spec.body Tryz.func37 (by kernel_rfl) rfl (by kernel_rfl) ?_
  refine AX.wkpost ?_
  refine AX.seq ?_
  refine AX.reg (its := [.auto { nk := 0 }]) [1, 2] [0] (s1 := ⟨[(1, .v (.string p3)), (2, .pt 0 0)], [(0, .box [.bs false 2 (List.map enc_si p1), .v (.int .i64 p2)])]⟩) (C := True) (by kernel_rfl) trivial trivial ?_
  refine AX.seq ?_
  obtain ⟨x4, e1, h⟩ := bd_e h
  refine AX.reg (its := [.auto {}, .call 72 [.v (.string p3), .v (.int .u8 124)] (handO (rho ([] ++ [1])) [] [] ++ []) (callEv [] [1] (.sl 0 0 x4.length) [.arr 1 (List.map enc_s x4)])]) [2, 5] [0, 1] (s1 := ⟨[(2, .pt 0 0), (5, .sl 1 0 x4.length)], [(0, .box [.bs false 2 (List.map enc_si p1), .v (.int .i64 p2)]), (1, .arr 1 (List.map enc_s x4))]⟩) (C := ((([.v (.string p3), .v (.int .u8 124)] : List AV) = [.v (.string p3), .v (.int .u8 124)]) ∧ True) ∧ True) (by kernel_rfl) ⟨⟨rfl, trivial⟩, trivial⟩ ⟨call_ok (ks := []) (ns := [1]) (bor := []) (bobjs := []) (s_spec_splitAt p3 124 x4 e1) (.cons (.c1 (.c0 (.same _ (by kernel_rfl) (by kernel_rfl)))) (.cons (.c1 (.c0 (.same _ (by kernel_rfl) (by kernel_rfl)))) (.nil))) (by kernel_rfl) trivial, trivial⟩ ?_
  refine AX.seq ?_
  refine AX.reg (its := []) [2, 5, 6] [0, 1] (s1 := ⟨[(2, .pt 0 0), (5, .sl 1 0 x4.length), (6, .v (.int .i64 0))], [(0, .box [.bs false 2 (List.map enc_si p1), .v (.int .i64 p2)]), (1, .arr 1 (List.map enc_s x4))]⟩) (C := True) (by kernel_rfl) trivial trivial ?_
  refine AX.seq ?_
  refine AX.seq ?_
  refine AX.reg (its := []) [2, 5, 6, 7] [0, 1] (s1 := ⟨[(2, .pt 0 0), (5, .sl 1 0 x4.length), (6, .v (.int .i64 0)), (7, .v (.int .i64 0))], [(0, .box [.bs false 2 (List.map enc_si p1), .v (.int .i64 p2)]), (1, .arr 1 (List.map enc_s x4))]⟩) (C := True) (by kernel_rfl) trivial trivial ?_
  refine AX.block ?_
  obtain ⟨x9, e7, h⟩ := bd_e h
  refine AX.wk (Wk.forget [2, 5, 6, 7] [0, 1] (s' := ⟨[(2, .pt 0 0), (5, .sl 1 0 x4.length), (6, .v (.int .i64 0)), (7, .v (.int .i64 0))], [(0, .box [.bs false 2 (List.map enc_si p1), .v (.int .i64 p2)]), (1, .arr 1 (List.map enc_s x4))]⟩) (by kernel_rfl)) ?_
  refine AX.mono (s_spec_readValue_L1 p1 p2 x4 FU (0, 0) x9 e7) ?_
  rintro _ _ (⟨x10, rfl, rfl, rfl⟩ | ⟨x11, rfl, rfl, rfl⟩)
  · replace h := sm_l h
    refine fin_wk (Wk.forget [4] [] (s' := ⟨[(4, .v (.int .i64 (-1)))], []⟩) (by kernel_rfl)) ?_
    have hr := Option.some.inj h
    subst hr
    exact ⟨_, Wk.refl _, .inr rfl, ⟨[], by kernel_rfl, trivial, [.v (.int .i64 (-1))], by kernel_rfl, by kernel_rfl⟩⟩
  · replace h := sm_r h
    refine AX.seq ?_
    refine AX.seq ?_
    obtain ⟨x12, e8, h⟩ := bd_e h
    refine AX.reg (its := [.auto {}, .auto {}, .call 26 [.agg [.bs false 2 (List.map enc_si p1), .v (.int .i64 p2)], .v (.int .i64 x11)] (handO (rho ([] ++ [])) [] [] ++ []) (callEv [] [] (.v (.bool x12)) [])]) [6, 32] [] (s1 := ⟨[(6, .v (.int .i64 x11)), (32, .v (.bool (!x12)))], []⟩) (C := ((([.agg [.bs false 2 (List.map enc_si p1), .v (.int .i64 p2)], .v (.int .i64 x11)] : List AV) = [.agg [.bs false 2 (List.map enc_si p1), .v (.int .i64 p2)], .v (.int .i64 x11)]) ∧ True) ∧ True) (by kernel_rfl) ⟨⟨rfl, trivial⟩, trivial⟩ ⟨call_ok (ks := []) (ns := []) (bor := []) (bobjs := []) (s_spec_isValue p1 p2 x11 x12 e8) (.cons (.c1 (.agg (.cons (.same _ (by kernel_rfl) (by kernel_rfl)) (.cons (.same _ (by kernel_rfl) (by kernel_rfl)) (.nil))))) (.cons (.c1 (.c0 (.same _ (by kernel_rfl) (by kernel_rfl)))) (.nil))) (by kernel_rfl) trivial, trivial⟩ ?_
    rcases bool_cases ((!x12)) with b9 | b9
    · replace h := cd_t b9 h
      refine AX.condT ((!x12)) (by kernel_rfl) b9 ?_
      refine AX.seq ?_
      refine AX.reg (its := []) [4] [] (s1 := ⟨[(4, .v (.int .i64 (-1)))], []⟩) (C := True) (by kernel_rfl) trivial trivial ?_
      refine AX.ret ?_
      refine fin_wk (Wk.forget [4] [] (s' := ⟨[(4, .v (.int .i64 (-1)))], []⟩) (by kernel_rfl)) ?_
      have hr := Option.some.inj h
      subst hr
      exact ⟨_, Wk.refl _, .inr rfl, ⟨[], by kernel_rfl, trivial, [.v (.int .i64 (-1))], by kernel_rfl, by kernel_rfl⟩⟩
    · replace h := cd_f b9 h
      refine AX.condF ((!x12)) (by kernel_rfl) b9 ?_
      refine AX.skip ?_
      refine AX.seq ?_
      refine AX.reg (its := []) [4] [] (s1 := ⟨[(4, .v (.int .i64 x11))], []⟩) (C := True) (by kernel_rfl) trivial trivial ?_
      refine AX.ret ?_
      refine fin_wk (Wk.forget [4] [] (s' := ⟨[(4, .v (.int .i64 x11))], []⟩) (by kernel_rfl)) ?_
      have hr := Option.some.inj h
      subst hr
      exact ⟨_, Wk.refl _, .inr rfl, ⟨[], by kernel_rfl, trivial, [.v (.int .i64 x11)], by kernel_rfl, by kernel_rfl⟩⟩

theorem s_spec_ReadValue (p1 : List (ByteArray × Int)) (p2 : Int) (p3 : ByteArray) (r : Int × Bool) (h : m_spec_ReadValue p1 p2 p3 = some r) :
    Eng.Spec Tryz.prog 9 [.agg [.bs false 2 (List.map enc_si p1), .v (.int .i64 p2)], .v (.string p3)] [] (.tup [.v (.int .i64 r.1), .v (.bool r.2)]) [] := by
  unfold m_spec_ReadValue at h
  refine Eng.Spec.body Tryz.func9 (by kernel_rfl) rfl (by kernel_rfl) ?_
  refine AX.wkpost ?_
  refine AX.seq ?_
  refine AX.reg (its := [.auto { nk := 0 }]) [1, 2] [0] (s1 := ⟨[(1, .v (.string p3)), (2, .pt 0 0)], [(0, .box [.bs false 2 (List.map enc_si p1), .v (.int .i64 p2)])]⟩) (C := True) (by kernel_rfl) trivial trivial ?_
  refine AX.seq ?_
  refine AX.seq ?_
  obtain ⟨x4, e1, h⟩ := bd_e h
  refine AX.reg (its := [.auto {}, .call 36 [.agg [.bs false 2 (List.map enc_si p1), .v (.int .i64 p2)]] (handO (rho ([] ++ [])) [] [] ++ []) (callEv [] [] (.v (.bool x4)) [])]) [1, 2, 9] [0] (s1 := ⟨[(1, .v (.string p3)), (2, .pt 0 0), (9, .v (.bool (!x4)))], [(0, .box [.bs false 2 (List.map enc_si p1), .v (.int .i64 p2)])]⟩) (C := ((([.agg [.bs false 2 (List.map enc_si p1), .v (.int .i64 p2)]] : List AV) = [.agg [.bs false 2 (List.map enc_si p1), .v (.int .i64 p2)]]) ∧ True) ∧ True) (by kernel_rfl) ⟨⟨rfl, trivial⟩, trivial⟩ ⟨call_ok (ks := []) (ns := []) (bor := []) (bobjs := []) (s_spec_validFlag p1 p2 x4 e1) (.cons (.c1 (.agg (.cons (.same _ (by kernel_rfl) (by kernel_rfl)) (.cons (.same _ (by kernel_rfl) (by kernel_rfl)) (.nil))))) (.nil)) (by kernel_rfl) trivial, trivial⟩ ?_
  rcases bool_cases ((!x4)) with b2 | b2
  · replace h := cd_t b2 h
    refine AX.condT ((!x4)) (by kernel_rfl) b2 ?_
    refine AX.seq ?_
    refine AX.reg (its := []) [4, 5] [] (s1 := ⟨[(4, .v (.int .i64 0)), (5, .v (.bool false))], []⟩) (C := True) (by kernel_rfl) trivial trivial ?_
    refine AX.ret ?_
    refine fin_wk (Wk.forget [4, 5] [] (s' := ⟨[(4, .v (.int .i64 0)), (5, .v (.bool false))], []⟩) (by kernel_rfl)) ?_
    have hr := Option.some.inj h
    subst hr
    exact ⟨_, Wk.refl _, .inr rfl, ⟨[], by kernel_rfl, trivial, [.v (.int .i64 0), .v (.bool false)], by kernel_rfl, by kernel_rfl⟩⟩
  · replace h := cd_f b2 h
    refine AX.condF ((!x4)) (by kernel_rfl) b2 ?_
    refine AX.skip ?_
    refine AX.seq ?_
    obtain ⟨x5, e3, h⟩ := bd_e h
    refine AX.reg (its := [.auto {}, .auto {}, .call 37 [.agg [.bs false 2 (List.map enc_si p1), .v (.int .i64 p2)], .v (.string p3)] (handO (rho ([] ++ [])) [] [] ++ []) (callEv [] [] (.v (.int .i64 x5)) [])]) [6] [] (s1 := ⟨[(6, .v (.int .i64 x5))], []⟩) (C := ((([.agg [.bs false 2 (List.map enc_si p1), .v (.int .i64 p2)], .v (.string p3)] : List AV) = [.agg [.bs false 2 (List.map enc_si p1), .v (.int .i64 p2)], .v (.string p3)]) ∧ True) ∧ True) (by kernel_rfl) ⟨⟨rfl, trivial⟩, trivial⟩ ⟨call_ok (ks := []) (ns := []) (bor := []) (bobjs := []) (s_spec_readValue p1 p2 p3 x5 e3) (.cons (.c1 (.agg (.cons (.same _ (by kernel_rfl) (by kernel_rfl)) (.cons (.same _ (by kernel_rfl) (by kernel_rfl)) (.nil))))) (.cons (.c1 (.c0 (.same _ (by kernel_rfl) (by kernel_rfl)))) (.nil))) (by kernel_rfl) trivial, trivial⟩ ?_
    refine AX.seq ?_
    refine AX.seq ?_
    refine AX.reg (its := []) [6, 14] [] (s1 := ⟨[(6, .v (.int .i64 x5)), (14, .v (.bool (decide (x5 < 0))))], []⟩) (C := True) (by kernel_rfl) trivial trivial ?_
    rcases bool_cases (decide (x5 < 0)) with b4 | b4
    · replace h := cd_t b4 h
      refine AX.condT (decide (x5 < 0)) (by kernel_rfl) b4 ?_
      refine AX.seq ?_
      refine AX.reg (its := []) [4, 5] [] (s1 := ⟨[(4, .v (.int .i64 0)), (5, .v (.bool false))], []⟩) (C := True) (by kernel_rfl) trivial trivial ?_
      refine AX.ret ?_
      refine fin_wk (Wk.forget [4, 5] [] (s' := ⟨[(4, .v (.int .i64 0)), (5, .v (.bool false))], []⟩) (by kernel_rfl)) ?_
      have hr := Option.some.inj h
      subst hr
      exact ⟨_, Wk.refl _, .inr rfl, ⟨[], by kernel_rfl, trivial, [.v (.int .i64 0), .v (.bool false)], by kernel_rfl, by kernel_rfl⟩⟩
    · replace h := cd_f b4 h
      refine AX.condF (decide (x5 < 0)) (by kernel_rfl) b4 ?_
      refine AX.skip ?_
      refine AX.seq ?_
      refine AX.reg (its := []) [4, 5] [] (s1 := ⟨[(4, .v (.int .i64 x5)), (5, .v (.bool true))], []⟩) (C := True) (by kernel_rfl) trivial trivial ?_
      refine AX.ret ?_
      refine fin_wk (Wk.forget [4, 5] [] (s' := ⟨[(4, .v (.int .i64 x5)), (5, .v (.bool true))], []⟩) (by kernel_rfl)) ?_
      have hr := Option.some.inj h
      subst hr
      exact ⟨_, Wk.refl _, .inr rfl, ⟨[], by kernel_rfl, trivial, [.v (.int .i64 x5), .v (.bool true)], by kernel_rfl, by kernel_rfl⟩⟩

theorem s_math_bits_OnesCount64 (p1 : Int) (r : Int) (h : m_math_bits_OnesCount64 p1 = some r) :
    Eng.Spec Tryz.prog 138 [.v (.int .u64 p1)] [] (.v (.int .i64 r)) [] := by
  unfold m_math_bits_OnesCount64 at h
  refine Eng.Spec.body Tryz.func138 (by kernel_rfl) rfl (by kernel_rfl) ?_
  refine AX.wkpost ?_
  refine AX.seq ?_
  refine AX.reg (its := []) [0] [] (s1 := ⟨[(0, .v (.int .u64 p1))], []⟩) (C := True) (by kernel_rfl) trivial trivial ?_
  refine AX.seq ?_
  obtain ⟨g1, h⟩ := gd_e h
  obtain ⟨v2, q2, h⟩ := nm_e h
  obtain ⟨v3, q3, h⟩ := nm_e h
  refine AX.reg (its := [.auto {}, .auto {}, .auto { y := some (.v (.int .u64 v2)) }, .auto {}, .auto {}, .auto { y := some (.v (.int .u64 v3)), raw := true }]) [0] [] (s1 := ⟨[(0, .v (.int .u64 v3))], []⟩) (C := (0 ≤ (1 : Int) ∧ (1 : Int) ≤ (IntKind.bits .u64 : Int)) ∧ ((True) ∧ ((.v (.int .u64 (Go.bits .and .u64 (p1 / 2 ^ (1 : Int).toNat) 6148914691236517205)) : AV) = (.v (.int .u64 v2) : AV))) ∧ ((True) ∧ ((.v (.int .u64 (IntKind.wrap .u64 (v2 + (Go.bits .and .u64 p1 6148914691236517205)))) : AV) = (.v (.int .u64 v3) : AV))) ∧ True) (by kernel_rfl) ⟨g1, ⟨⟨trivial, (congrArg (fun z => AV.v (.int .u64 z)) q2)⟩, ⟨⟨trivial, (congrArg (fun z => AV.v (.int .u64 z)) q3)⟩, trivial⟩⟩⟩ trivial ?_
  refine AX.seq ?_
  obtain ⟨g4, h⟩ := gd_e h
  obtain ⟨v4, q5, h⟩ := nm_e h
  obtain ⟨v5, q6, h⟩ := nm_e h
  refine AX.reg (its := [.auto {}, .auto {}, .auto { y := some (.v (.int .u64 v4)) }, .auto {}, .auto {}, .auto { y := some (.v (.int .u64 v5)), raw := true }]) [0] [] (s1 := ⟨[(0, .v (.int .u64 v5))], []⟩) (C := (0 ≤ (2 : Int) ∧ (2 : Int) ≤ (IntKind.bits .u64 : Int)) ∧ ((True) ∧ ((.v (.int .u64 (Go.bits .and .u64 (v3 / 2 ^ (2 : Int).toNat) 3689348814741910323)) : AV) = (.v (.int .u64 v4) : AV))) ∧ ((True) ∧ ((.v (.int .u64 (IntKind.wrap .u64 (v4 + (Go.bits .and .u64 v3 3689348814741910323)))) : AV) = (.v (.int .u64 v5) : AV))) ∧ True) (by kernel_rfl) ⟨g4, ⟨⟨trivial, (congrArg (fun z => AV.v (.int .u64 z)) q5)⟩, ⟨⟨trivial, (congrArg (fun z => AV.v (.int .u64 z)) q6)⟩, trivial⟩⟩⟩ trivial ?_
  refine AX.seq ?_
  obtain ⟨g7, h⟩ := gd_e h
  obtain ⟨v6, q8, h⟩ := nm_e h
  refine AX.reg (its := [.auto {}, .auto {}, .auto {}, .auto { raw := true }, .auto { y := some (.v (.int .u64 v6)) }]) [0] [] (s1 := ⟨[(0, .v (.int .u64 v6))], []⟩) (C := (0 ≤ (4 : Int) ∧ (4 : Int) ≤ (IntKind.bits .u64 : Int)) ∧ ((True) ∧ ((.v (.int .u64 (Go.bits .and .u64 (IntKind.wrap .u64 ((v5 / 2 ^ (4 : Int).toNat) + v5)) 1085102592571150095)) : AV) = (.v (.int .u64 v6) : AV))) ∧ True) (by kernel_rfl) ⟨g7, ⟨⟨trivial, (congrArg (fun z => AV.v (.int .u64 z)) q8)⟩, trivial⟩⟩ trivial ?_
  refine AX.seq ?_
  obtain ⟨g9, h⟩ := gd_e h
  refine AX.reg (its := [.auto {}, .auto {}, .auto {}, .auto { raw := true }]) [0] [] (s1 := ⟨[(0, .v (.int .u64 (IntKind.wrap .u64 (v6 + (v6 / 2 ^ (8 : Int).toNat)))))], []⟩) (C := (0 ≤ (8 : Int) ∧ (8 : Int) ≤ (IntKind.bits .u64 : Int)) ∧ True) (by kernel_rfl) ⟨g9, trivial⟩ trivial ?_
  refine AX.seq ?_
  obtain ⟨g10, h⟩ := gd_e h
  obtain ⟨v7, q11, h⟩ := nm_e h
  obtain ⟨v8, q12, h⟩ := nm_e h
  refine AX.reg (its := [.auto {}, .auto {}, .auto { y := some (.v (.int .u64 v7)) }, .auto { y := some (.v (.int .u64 v8)), raw := true }]) [0] [] (s1 := ⟨[(0, .v (.int .u64 v8))], []⟩) (C := ((0 ≤ (16 : Int) ∧ (16 : Int) ≤ (IntKind.bits .u64 : Int)) ∧ ((.v (.int .u64 ((IntKind.wrap .u64 (v6 + (v6 / 2 ^ (8 : Int).toNat))) / 2 ^ (16 : Int).toNat)) : AV) = (.v (.int .u64 v7) : AV))) ∧ ((True) ∧ ((.v (.int .u64 (IntKind.wrap .u64 ((IntKind.wrap .u64 (v6 + (v6 / 2 ^ (8 : Int).toNat))) + v7))) : AV) = (.v (.int .u64 v8) : AV))) ∧ True) (by kernel_rfl) ⟨⟨g10, (congrArg (fun z => AV.v (.int .u64 z)) q11)⟩, ⟨⟨trivial, (congrArg (fun z => AV.v (.int .u64 z)) q12)⟩, trivial⟩⟩ trivial ?_
  refine AX.seq ?_
  obtain ⟨g13, h⟩ := gd_e h
  refine AX.reg (its := [.auto {}, .auto {}, .auto {}, .auto { raw := true }]) [0] [] (s1 := ⟨[(0, .v (.int .u64 (IntKind.wrap .u64 (v8 + (v8 / 2 ^ (32 : Int).toNat)))))], []⟩) (C := (0 ≤ (32 : Int) ∧ (32 : Int) ≤ (IntKind.bits .u64 : Int)) ∧ True) (by kernel_rfl) ⟨g13, trivial⟩ trivial ?_
  refine AX.seq ?_
  obtain ⟨v9, q14, h⟩ := nm_e h
  refine AX.reg (its := [.auto {}, .auto { y := some (.v (.int .i64 v9)), raw := true }]) [2] [] (s1 := ⟨[(2, .v (.int .i64 (Go.bits .and .i64 v9 127)))], []⟩) (C := ((True) ∧ ((.v (.int .i64 (IntKind.wrap .i64 (IntKind.wrap .u64 (v8 + (v8 / 2 ^ (32 : Int).toNat))))) : AV) = (.v (.int .i64 v9) : AV))) ∧ True) (by kernel_rfl) ⟨⟨trivial, (congrArg (fun z => AV.v (.int .i64 z)) q14)⟩, trivial⟩ trivial ?_
  refine AX.ret ?_
  refine fin_wk (Wk.forget [2] [] (s' := ⟨[(2, .v (.int .i64 (Go.bits .and .i64 v9 127)))], []⟩) (by kernel_rfl)) ?_
  have hr := Option.some.inj h
  subst hr
  exact ⟨_, Wk.refl _, .inr rfl, ⟨[], by kernel_rfl, trivial, [.v (.int .i64 (Go.bits .and .i64 v9 127))], by kernel_rfl, by kernel_rfl⟩⟩

theorem s_math_bits_OnesCount (p1 : Int) (r : Int) (h : m_math_bits_OnesCount p1 = some r) :
    Eng.Spec Tryz.prog 117 [.v (.int .u64 p1)] [] (.v (.int .i64 r)) [] := by
  unfold m_math_bits_OnesCount at h
  refine Eng.Spec.body Tryz.func117 (by kernel_rfl) rfl (by kernel_rfl) ?_
  refine AX.wkpost ?_
  refine AX.seq ?_
  refine AX.reg (its := []) [0] [] (s1 := ⟨[(0, .v (.int .u64 p1))], []⟩) (C := True) (by kernel_rfl) trivial trivial ?_
  refine AX.seq ?_
  refine AX.cond_false (by kernel_rfl) ?_
  refine AX.skip ?_
  refine AX.seq ?_
  obtain ⟨x2, e1, h⟩ := bd_e h
  refine AX.reg (its := [.auto {}, .call 138 [.v (.int .u64 p1)] (handO (rho ([] ++ [])) [] [] ++ []) (callEv [] [] (.v (.int .i64 x2)) [])]) [2] [] (s1 := ⟨[(2, .v (.int .i64 x2))], []⟩) (C := ((([.v (.int .u64 p1)] : List AV) = [.v (.int .u64 p1)]) ∧ True) ∧ True) (by kernel_rfl) ⟨⟨rfl, trivial⟩, trivial⟩ ⟨call_ok (ks := []) (ns := []) (bor := []) (bobjs := []) (s_math_bits_OnesCount64 p1 x2 e1) (.cons (.c1 (.c0 (.same _ (by kernel_rfl) (by kernel_rfl)))) (.nil)) (by kernel_rfl) trivial, trivial⟩ ?_
  refine AX.ret ?_
  refine fin_wk (Wk.forget [2] [] (s' := ⟨[(2, .v (.int .i64 x2))], []⟩) (by kernel_rfl)) ?_
  have hr := Option.some.inj h
  subst hr
  exact ⟨_, Wk.refl _, .inr rfl, ⟨[], by kernel_rfl, trivial, [.v (.int .i64 x2)], by kernel_rfl, by kernel_rfl⟩⟩

theorem s_impl_single (p1 : Int) (r : Bool) (h : m_impl_single p1 = some r) :
    Eng.Spec Tryz.prog 88 [.v (.int .i64 p1)] [] (.v (.bool r)) [] := by
  unfold m_impl_single at h
  refine Eng.Spec.body Tryz.func88 (by kernel_rfl) rfl (by kernel_rfl) ?_
  refine AX.wkpost ?_
  refine AX.seq ?_
  refine AX.reg (its := []) [0] [] (s1 := ⟨[(0, .v (.int .i64 p1))], []⟩) (C := True) (by kernel_rfl) trivial trivial ?_
  refine AX.seq ?_
  obtain ⟨x2, e1, h⟩ := bd_e h
  refine AX.reg (its := [.auto {}, .auto { raw := true }, .call 117 [.v (.int .u64 (IntKind.wrap .u64 (p1)))] (handO (rho ([] ++ [])) [] [] ++ []) (callEv [] [] (.v (.int .i64 x2)) [])]) [2] [] (s1 := ⟨[(2, .v (.bool (decide (x2 = 1))))], []⟩) (C := ((([.v (.int .u64 (IntKind.wrap .u64 (p1)))] : List AV) = [.v (.int .u64 (IntKind.wrap .u64 (p1)))]) ∧ True) ∧ True) (by kernel_rfl) ⟨⟨rfl, trivial⟩, trivial⟩ ⟨call_ok (ks := []) (ns := []) (bor := []) (bobjs := []) (s_math_bits_OnesCount (IntKind.wrap .u64 (p1)) x2 e1) (.cons (.c1 (.c0 (.same _ (by kernel_rfl) (by kernel_rfl)))) (.nil)) (by kernel_rfl) trivial, trivial⟩ ?_
  refine AX.ret ?_
  refine fin_wk (Wk.forget [2] [] (s' := ⟨[(2, .v (.bool (decide (x2 = 1))))], []⟩) (by kernel_rfl)) ?_
  have hr := Option.some.inj h
  subst hr
  exact ⟨_, Wk.refl _, .inr rfl, ⟨[], by kernel_rfl, trivial, [.v (.bool (decide (x2 = 1)))], by kernel_rfl, by kernel_rfl⟩⟩

theorem s_impl_valued_1_l (p1 : ByteArray) (p2 : Int) (p3 : Int) (r : Unit) (h : m_impl_valued_1_l p1 p2 p3 = some r) :
    Eng.Spec Tryz.prog 110 [.agg [.v (.string p1), .v (.int .i64 p2)], .bp [.v (.int .i64 p3)] 0] [] (.v (.bool (decide (p2 = p3)))) [] := by
  unfold m_impl_valued_1_l at h
  refine Eng.Spec.body Tryz.func110 (by kernel_rfl) rfl (by kernel_rfl) ?_
  refine AX.wkpost ?_
  refine AX.seq ?_
  refine AX.reg (its := [.auto { nk := 0 }]) [1, 2] [0] (s1 := ⟨[(1, .bp [.v (.int .i64 p3)] 0), (2, .pt 0 0)], [(0, .box [.v (.string p1), .v (.int .i64 p2)])]⟩) (C := True) (by kernel_rfl) trivial trivial ?_
  refine AX.seq ?_
  refine AX.reg (its := []) [3] [] (s1 := ⟨[(3, .v (.bool (decide (p2 = p3))))], []⟩) (C := True) (by kernel_rfl) trivial trivial ?_
  refine AX.ret ?_
  refine fin_wk (Wk.forget [3] [] (s' := ⟨[(3, .v (.bool (decide (p2 = p3))))], []⟩) (by kernel_rfl)) ?_
  have hr := Option.some.inj h
  subst hr
  exact ⟨_, Wk.refl _, .inr rfl, ⟨[], by kernel_rfl, trivial, [.v (.bool (decide (p2 = p3)))], by kernel_rfl, by kernel_rfl⟩⟩

theorem s_slices_IndexFunc_si_valued_1_l_L1 (p1 : List (ByteArray × Int)) (p2 : Int) (n : Nat) (g : Int) (out : Int ⊕ Unit) (h : m_slices_IndexFunc_si_valued_1_l_L1 p1 p2 n g = some out) :
    AX Tryz.prog 19 0 (codeAt [1, 0, 1, 1] (bodyOf Tryz.f67)) ((fun g : Int => (⟨[(0, .bs false 2 (List.map enc_si p1)), (1, .fn 110 [.bp [.v (.int .i64 p2)] 0]), (7, .v (.int .i64 (p1.length : Int))), (8, .v (.int .i64 g))], []⟩ : S)) g) (fun ex s => (∃ o : Int, out = Sum.inl o ∧ ex = .ret ∧ s = ⟨[(4, .v (.int .i64 o))], []⟩) ∨ (∃ o : Unit, out = Sum.inr o ∧ ex = .exit 0 ∧ s = ⟨[], []⟩)) := by
  refine AX.wkpost ?_
  refine AX.loop (G := Nat × (Int)) (fun q => (fun g : Int => (⟨[(0, .bs false 2 (List.map enc_si p1)), (1, .fn 110 [.bp [.v (.int .i64 p2)] 0]), (7, .v (.int .i64 (p1.length : Int))), (8, .v (.int .i64 g))], []⟩ : S)) q.2) (fun q => m_slices_IndexFunc_si_valued_1_l_L1 p1 p2 q.1 q.2 = some out) (fun q => q.1) (n, g) h (Wk.refl _) ?_
  clear h
  rintro ⟨fu, v3⟩ h
  cases fu with
  | zero => cases h
  | succ fu =>
    rw [m_slices_IndexFunc_si_valued_1_l_L1] at h
    refine AX.seq ?_
    refine AX.reg (its := []) [0, 1, 7, 8, 9] [] (s1 := ⟨[(0, .bs false 2 (List.map enc_si p1)), (1, .fn 110 [.bp [.v (.int .i64 p2)] 0]), (7, .v (.int .i64 (p1.length : Int))), (8, .v (.int .i64 v3)), (9, .v (.bool (decide (v3 < (p1.length : Int)))))], []⟩) (C := True) (by kernel_rfl) trivial trivial ?_
    refine AX.seq ?_
    rcases bool_cases (decide (v3 < (p1.length : Int))) with b1 | b1
    · replace h := cd_t b1 h
      refine AX.condT (decide (v3 < (p1.length : Int))) (by kernel_rfl) b1 ?_
      refine AX.skip ?_
      refine AX.seq ?_
      refine AX.block ?_
      refine AX.seq ?_
      refine AX.reg (its := []) [0, 1, 5, 7, 8] [] (s1 := ⟨[(0, .bs false 2 (List.map enc_si p1)), (1, .fn 110 [.bp [.v (.int .i64 p2)] 0]), (5, .v (.int .i64 v3)), (7, .v (.int .i64 (p1.length : Int))), (8, .v (.int .i64 v3))], []⟩) (C := True) (by kernel_rfl) trivial trivial ?_
      refine AX.seq ?_
      obtain ⟨g2, h⟩ := gd_e h
      obtain ⟨x4, e3, h⟩ := bd_e h
      refine AX.reg (its := [.auto {}, .auto {}, .auto {}, .auto { y := some (.be 2 (enc_si (gt p1 v3)) 0) }, .auto {}, .call 110 [.agg [.v (.string ((gt p1 v3).1)), .v (.int .i64 ((gt p1 v3).2))], .bp [.v (.int .i64 p2)] 0] (handO (rho ([] ++ [])) [] [] ++ []) (callEv [] [] (.v (.bool (decide (((gt p1 v3).2) = p2)))) [])]) [0, 1, 5, 7, 8, 16] [] (s1 := ⟨[(0, .bs false 2 (List.map enc_si p1)), (1, .fn 110 [.bp [.v (.int .i64 p2)] 0]), (5, .v (.int .i64 v3)), (7, .v (.int .i64 (p1.length : Int))), (8, .v (.int .i64 v3)), (16, .v (.bool (decide (((gt p1 v3).2) = p2))))], []⟩) (C := ((0 ≤ v3 ∧ v3 < ((List.map enc_si p1).length : Int)) ∧ (AV.be 2 ((List.map enc_si p1).getD v3.toNat []) 0 = AV.be 2 (enc_si (gt p1 v3)) 0)) ∧ ((([.agg [.v (.string ((gt p1 v3).1)), .v (.int .i64 ((gt p1 v3).2))], .bp [.v (.int .i64 p2)] 0] : List AV) = [.agg [.v (.string ((gt p1 v3).1)), .v (.int .i64 ((gt p1 v3).2))], .bp [.v (.int .i64 p2)] 0]) ∧ True) ∧ True) (by kernel_rfl) ⟨idx_bs enc_si p1 v3 2 g2, ⟨⟨rfl, trivial⟩, trivial⟩⟩ ⟨call_ok (ks := []) (ns := []) (bor := []) (bobjs := []) (s_impl_valued_1_l ((gt p1 v3).1) ((gt p1 v3).2) p2 x4 e3) (.cons (.c1 (.agg (.cons (.same _ (by kernel_rfl) (by kernel_rfl)) (.cons (.same _ (by kernel_rfl) (by kernel_rfl)) (.nil))))) (.cons (.c1 (.bp (.cons (.same _ (by kernel_rfl) (by kernel_rfl)) (.nil)))) (.nil))) (by kernel_rfl) trivial, trivial⟩ ?_
      rcases bool_cases (decide (((gt p1 v3).2) = p2)) with b4 | b4
      · replace h := cd_t b4 h
        refine AX.condT (decide (((gt p1 v3).2) = p2)) (by kernel_rfl) b4 ?_
        refine AX.seq ?_
        refine AX.reg (its := []) [4] [] (s1 := ⟨[(4, .v (.int .i64 v3))], []⟩) (C := True) (by kernel_rfl) trivial trivial ?_
        refine AX.ret ?_
        refine fin_wk (Wk.forget [4] [] (s' := ⟨[(4, .v (.int .i64 v3))], []⟩) (by kernel_rfl)) ?_
        have hr := Option.some.inj h
        subst hr
        exact ⟨_, Wk.refl _, .inl ⟨v3, rfl, rfl, rfl⟩⟩
      · replace h := cd_f b4 h
        refine AX.condF (decide (((gt p1 v3).2) = p2)) (by kernel_rfl) b4 ?_
        refine AX.skip ?_
        refine AX.reg (its := [.auto { raw := true }]) [0, 1, 7, 8] [] (s1 := ⟨[(0, .bs false 2 (List.map enc_si p1)), (1, .fn 110 [.bp [.v (.int .i64 p2)] 0]), (7, .v (.int .i64 (p1.length : Int))), (8, .v (.int .i64 (IntKind.wrap .i64 (v3 + 1))))], []⟩) (C := True) (by kernel_rfl) trivial trivial ?_
        refine ⟨(fu, IntKind.wrap .i64 (v3 + 1)), h, Nat.lt_succ_self _, ?_⟩
        refine Wk.trans (Wk.forget [0, 1, 7, 8] [] (s' := ⟨[(0, .bs false 2 (List.map enc_si p1)), (1, .fn 110 [.bp [.v (.int .i64 p2)] 0]), (7, .v (.int .i64 (p1.length : Int))), (8, .v (.int .i64 (IntKind.wrap .i64 (v3 + 1))))], []⟩) (by kernel_rfl)) ?_
        exact Wk.refl _
    · replace h := cd_f b1 h
      refine AX.condF (decide (v3 < (p1.length : Int))) (by kernel_rfl) b1 ?_
      refine AX.exit ?_
      refine fin_wk (Wk.forget [] [] (s' := ⟨[], []⟩) (by kernel_rfl)) ?_
      have hr := Option.some.inj h
      subst hr
      exact ⟨_, Wk.refl _, .inr ⟨(), rfl, rfl, rfl⟩⟩

theorem s_slices_IndexFunc_si_valued_1_l (p1 : List (ByteArray × Int)) (p2 : Int) (r : Int) (h : m_slices_IndexFunc_si_valued_1_l p1 p2 = some r) :
    Eng.Spec Tryz.prog 67 [.bs false 2 (List.map enc_si p1), .fn 110 [.bp [.v (.int .i64 p2)] 0]] [] (.v (.int .i64 r)) [] := by
  unfold m_slices_IndexFunc_si_valued_1_l at h
  refine Eng.Spec.body Tryz.func67 (by kernel_rfl) rfl (by kernel_rfl) ?_
  refine AX.wkpost ?_
  refine AX.seq ?_
  refine AX.reg (its := []) [0, 1] [] (s1 := ⟨[(0, .bs false 2 (List.map enc_si p1)), (1, .fn 110 [.bp [.v (.int .i64 p2)] 0])], []⟩) (C := True) (by kernel_rfl) trivial trivial ?_
  refine AX.seq ?_
  refine AX.seq ?_
  refine AX.reg (its := [.auto {}, .auto { y := some (.v (.int .i64 (p1.length : Int))) }]) [0, 1, 7, 8] [] (s1 := ⟨[(0, .bs false 2 (List.map enc_si p1)), (1, .fn 110 [.bp [.v (.int .i64 p2)] 0]), (7, .v (.int .i64 (p1.length : Int))), (8, .v (.int .i64 0))], []⟩) (C := (True ∧ (AV.v (.int .i64 ((List.map enc_si p1).length : Int)) = AV.v (.int .i64 (p1.length : Int)))) ∧ True) (by kernel_rfl) ⟨⟨trivial, len_map enc_si p1⟩, trivial⟩ trivial ?_
  refine AX.block ?_
  obtain ⟨x5, e5, h⟩ := bd_e h
  refine AX.wk (Wk.forget [0, 1, 7, 8] [] (s' := ⟨[(0, .bs false 2 (List.map enc_si p1)), (1, .fn 110 [.bp [.v (.int .i64 p2)] 0]), (7, .v (.int .i64 (p1.length : Int))), (8, .v (.int .i64 0))], []⟩) (by kernel_rfl)) ?_
  refine AX.mono (s_slices_IndexFunc_si_valued_1_l_L1 p1 p2 FU 0 x5 e5) ?_
  rintro _ _ (⟨x6, rfl, rfl, rfl⟩ | ⟨x7, rfl, rfl, rfl⟩)
  · replace h := sm_l h
    refine fin_wk (Wk.forget [4] [] (s' := ⟨[(4, .v (.int .i64 x6))], []⟩) (by kernel_rfl)) ?_
    have hr := Option.some.inj h
    subst hr
    exact ⟨_, Wk.refl _, .inr rfl, ⟨[], by kernel_rfl, trivial, [.v (.int .i64 x6)], by kernel_rfl, by kernel_rfl⟩⟩
  · replace h := sm_r h
    refine AX.seq ?_
    refine AX.reg (its := []) [4] [] (s1 := ⟨[(4, .v (.int .i64 (-1)))], []⟩) (C := True) (by kernel_rfl) trivial trivial ?_
    refine AX.ret ?_
    refine fin_wk (Wk.forget [4] [] (s' := ⟨[(4, .v (.int .i64 (-1)))], []⟩) (by kernel_rfl)) ?_
    have hr := Option.some.inj h
    subst hr
    exact ⟨_, Wk.refl _, .inr rfl, ⟨[], by kernel_rfl, trivial, [.v (.int .i64 (-1))], by kernel_rfl, by kernel_rfl⟩⟩

theorem s_impl_valued (p1 : List (ByteArray × Int)) (p2 : Int) (r : Int) (h : m_impl_valued p1 p2 = some r) :
    Eng.Spec Tryz.prog 76 [.bs false 2 (List.map enc_si p1), .v (.int .i64 p2)] [] (.v (.int .i64 r)) [] := by
  unfold m_impl_valued at h
  refine Eng.Spec.body Tryz.func76 (by kernel_rfl) rfl (by kernel_rfl) ?_
  refine AX.wkpost ?_
  refine AX.seq ?_
  refine AX.reg (its := [.auto { nk := 0 }]) [0, 3] [0] (s1 := ⟨[(0, .bs false 2 (List.map enc_si p1)), (3, .pt 0 0)], [(0, .box [.v (.int .i64 p2)])]⟩) (C := True) (by kernel_rfl) trivial trivial ?_
  refine AX.seq ?_
  obtain ⟨x3, e1, h⟩ := bd_e h
  refine AX.reg (its := [.auto {}, .auto {}, .call 67 [.bs false 2 (List.map enc_si p1), .fn 110 [.pt 0 0]] (handO (rho ([] ++ [])) [] [] ++ [(0, .box [.v (.int .i64 p2)])]) (callEv [] [] (.v (.int .i64 x3)) [])]) [4] [] (s1 := ⟨[(4, .v (.int .i64 x3))], []⟩) (C := ((([.bs false 2 (List.map enc_si p1), .fn 110 [.pt 0 0]] : List AV) = [.bs false 2 (List.map enc_si p1), .fn 110 [.pt 0 0]]) ∧ (AO.box [.v (.int .i64 p2)] = AO.box [.v (.int .i64 p2)]) ∧ True) ∧ True) (by kernel_rfl) ⟨⟨rfl, rfl, trivial⟩, trivial⟩ ⟨call_ok (ks := []) (ns := []) (bor := [0]) (bobjs := [(0, .box [.v (.int .i64 p2)])]) (s_slices_IndexFunc_si_valued_1_l p1 p2 x3 e1) (.cons (.c1 (.c0 (.same _ (by kernel_rfl) (by kernel_rfl)))) (.cons (.fn (.cons (.box rfl rfl (.cons (.same _ (by kernel_rfl) (by kernel_rfl)) (.nil))) (.nil))) (.nil))) (by kernel_rfl) trivial, trivial⟩ ?_
  refine AX.ret ?_
  refine fin_wk (Wk.forget [4] [] (s' := ⟨[(4, .v (.int .i64 x3))], []⟩) (by kernel_rfl)) ?_
  have hr := Option.some.inj h
  subst hr
  exact ⟨_, Wk.refl _, .inr rfl, ⟨[], by kernel_rfl, trivial, [.v (.int .i64 x3)], by kernel_rfl, by kernel_rfl⟩⟩

theorem s_math_bits_Len64 (p1 : Int) (r : Int) (h : m_math_bits_Len64 p1 = some r) :
    Eng.Spec Tryz.prog 148 [.v (.int .u64 p1)] [] (.v (.int .i64 r)) [] := by
  unfold m_math_bits_Len64 at h
  refine Eng.Spec.body Tryz.func148 (by kernel_rfl) rfl (by kernel_rfl) ?_
  refine AX.wkpost ?_
  refine AX.seq ?_
  refine AX.reg (its := []) [0, 2] [] (s1 := ⟨[(0, .v (.int .u64 p1)), (2, .v (.int .i64 0))], []⟩) (C := True) (by kernel_rfl) trivial trivial ?_
  refine AX.seq ?_
  refine AX.seq ?_
  refine AX.reg (its := []) [0, 2, 4] [] (s1 := ⟨[(0, .v (.int .u64 p1)), (2, .v (.int .i64 0)), (4, .v (.bool (decide (4294967296 ≤ p1))))], []⟩) (C := True) (by kernel_rfl) trivial trivial ?_
  rcases bool_cases (decide (4294967296 ≤ p1)) with b1 | b1
  · replace h := cd_t b1 h
    refine AX.condT (decide (4294967296 ≤ p1)) (by kernel_rfl) b1 ?_
    refine AX.seq ?_
    obtain ⟨g2, h⟩ := gd_e h
    refine AX.reg (its := []) [0] [] (s1 := ⟨[(0, .v (.int .u64 (p1 / 2 ^ (32 : Int).toNat)))], []⟩) (C := (0 ≤ (32 : Int) ∧ (32 : Int) ≤ (IntKind.bits .u64 : Int)) ∧ True) (by kernel_rfl) ⟨g2, trivial⟩ trivial ?_
    refine AX.reg (its := []) [0, 2] [] (s1 := ⟨[(0, .v (.int .u64 (p1 / 2 ^ (32 : Int).toNat))), (2, .v (.int .i64 32))], []⟩) (C := True) (by kernel_rfl) trivial trivial ?_
    refine AX.seq ?_
    refine AX.seq ?_
    refine AX.reg (its := []) [0, 2, 8] [] (s1 := ⟨[(0, .v (.int .u64 (p1 / 2 ^ (32 : Int).toNat))), (2, .v (.int .i64 32)), (8, .v (.bool (decide (65536 ≤ (p1 / 2 ^ (32 : Int).toNat)))))], []⟩) (C := True) (by kernel_rfl) trivial trivial ?_
    rcases bool_cases (decide (65536 ≤ (p1 / 2 ^ (32 : Int).toNat))) with b3 | b3
    · replace h := cd_t b3 h
      refine AX.condT (decide (65536 ≤ (p1 / 2 ^ (32 : Int).toNat))) (by kernel_rfl) b3 ?_
      refine AX.seq ?_
      obtain ⟨g4, h⟩ := gd_e h
      refine AX.reg (its := []) [0, 2] [] (s1 := ⟨[(0, .v (.int .u64 ((p1 / 2 ^ (32 : Int).toNat) / 2 ^ (16 : Int).toNat))), (2, .v (.int .i64 32))], []⟩) (C := (0 ≤ (16 : Int) ∧ (16 : Int) ≤ (IntKind.bits .u64 : Int)) ∧ True) (by kernel_rfl) ⟨g4, trivial⟩ trivial ?_
      refine AX.reg (its := [.auto {}, .auto { raw := true }]) [0, 2] [] (s1 := ⟨[(0, .v (.int .u64 ((p1 / 2 ^ (32 : Int).toNat) / 2 ^ (16 : Int).toNat))), (2, .v (.int .i64 (IntKind.wrap .i64 (32 + 16))))], []⟩) (C := True) (by kernel_rfl) trivial trivial ?_
      refine AX.seq ?_
      refine AX.seq ?_
      obtain ⟨v2, q5, h⟩ := nm_e h
      refine AX.reg (its := [.auto {}, .auto { y := some (.v (.bool v2)) }]) [0, 2, 14] [] (s1 := ⟨[(0, .v (.int .u64 ((p1 / 2 ^ (32 : Int).toNat) / 2 ^ (16 : Int).toNat))), (2, .v (.int .i64 (IntKind.wrap .i64 (32 + 16)))), (14, .v (.bool v2))], []⟩) (C := ((True) ∧ ((.v (.bool (decide (256 ≤ ((p1 / 2 ^ (32 : Int).toNat) / 2 ^ (16 : Int).toNat)))) : AV) = (.v (.bool v2) : AV))) ∧ True) (by kernel_rfl) ⟨⟨trivial, (congrArg (fun z => AV.v (.bool z)) q5)⟩, trivial⟩ trivial ?_
      rcases bool_cases (v2) with b6 | b6
      · replace h := cd_t b6 h
        refine AX.condT (v2) (by kernel_rfl) b6 ?_
        refine AX.seq ?_
        obtain ⟨g7, h⟩ := gd_e h
        obtain ⟨v3, q8, h⟩ := nm_e h
        refine AX.reg (its := [.auto {}, .auto { y := some (.v (.int .u64 v3)) }]) [0, 2] [] (s1 := ⟨[(0, .v (.int .u64 v3)), (2, .v (.int .i64 (IntKind.wrap .i64 (32 + 16))))], []⟩) (C := ((0 ≤ (8 : Int) ∧ (8 : Int) ≤ (IntKind.bits .u64 : Int)) ∧ ((.v (.int .u64 (((p1 / 2 ^ (32 : Int).toNat) / 2 ^ (16 : Int).toNat) / 2 ^ (8 : Int).toNat)) : AV) = (.v (.int .u64 v3) : AV))) ∧ True) (by kernel_rfl) ⟨⟨g7, (congrArg (fun z => AV.v (.int .u64 z)) q8)⟩, trivial⟩ trivial ?_
        refine AX.reg (its := [.auto {}, .auto { raw := true }]) [0, 2] [] (s1 := ⟨[(0, .v (.int .u64 v3)), (2, .v (.int .i64 (IntKind.wrap .i64 ((IntKind.wrap .i64 (32 + 16)) + 8))))], []⟩) (C := True) (by kernel_rfl) trivial trivial ?_
        refine AX.seq ?_
        obtain ⟨g9, h⟩ := gd_e h
        obtain ⟨v4, q10, h⟩ := nm_e h
        obtain ⟨v5, q11, h⟩ := nm_e h
        refine AX.reg (its := [.auto {}, .auto {}, .auto { raw := true }, .auto {}, .auto { y := some (.v (.int .i64 v4)), raw := true }, .auto { y := some (.v (.int .i64 v5)), raw := true }]) [2] [] (s1 := ⟨[(2, .v (.int .i64 v5))], []⟩) (C := (0 ≤ (IntKind.wrap .u8 (v3)) ∧ (IntKind.wrap .u8 (v3)) < (lstr_c9535661.size : Int)) ∧ ((True) ∧ ((.v (.int .i64 (IntKind.wrap .i64 (byteAt lstr_c9535661 (IntKind.wrap .u8 (v3)).toNat))) : AV) = (.v (.int .i64 v4) : AV))) ∧ ((True) ∧ ((.v (.int .i64 (IntKind.wrap .i64 ((IntKind.wrap .i64 ((IntKind.wrap .i64 (32 + 16)) + 8)) + v4))) : AV) = (.v (.int .i64 v5) : AV))) ∧ True) (by kernel_rfl) ⟨g9, ⟨⟨trivial, (congrArg (fun z => AV.v (.int .i64 z)) q10)⟩, ⟨⟨trivial, (congrArg (fun z => AV.v (.int .i64 z)) q11)⟩, trivial⟩⟩⟩ trivial ?_
        refine AX.ret ?_
        refine fin_wk (Wk.forget [2] [] (s' := ⟨[(2, .v (.int .i64 v5))], []⟩) (by kernel_rfl)) ?_
        have hr := Option.some.inj h
        subst hr
        exact ⟨_, Wk.refl _, .inr rfl, ⟨[], by kernel_rfl, trivial, [.v (.int .i64 v5)], by kernel_rfl, by kernel_rfl⟩⟩
      · replace h := cd_f b6 h
        refine AX.condF (v2) (by kernel_rfl) b6 ?_
        refine AX.skip ?_
        refine AX.seq ?_
        obtain ⟨v6, q12, h⟩ := nm_e h
        obtain ⟨g13, h⟩ := gd_e h
        obtain ⟨v7, q14, h⟩ := nm_e h
        refine AX.reg (its := [.auto {}, .auto {}, .auto { y := some (.v (.int .u8 v6)), raw := true }, .auto {}, .auto { raw := true }, .auto { y := some (.v (.int .i64 v7)), raw := true }]) [2] [] (s1 := ⟨[(2, .v (.int .i64 v7))], []⟩) (C := ((True) ∧ ((.v (.int .u8 (IntKind.wrap .u8 ((p1 / 2 ^ (32 : Int).toNat) / 2 ^ (16 : Int).toNat))) : AV) = (.v (.int .u8 v6) : AV))) ∧ (0 ≤ v6 ∧ v6 < (lstr_c9535661.size : Int)) ∧ ((True) ∧ ((.v (.int .i64 (IntKind.wrap .i64 ((IntKind.wrap .i64 (32 + 16)) + (IntKind.wrap .i64 (byteAt lstr_c9535661 v6.toNat))))) : AV) = (.v (.int .i64 v7) : AV))) ∧ True) (by kernel_rfl) ⟨⟨trivial, (congrArg (fun z => AV.v (.int .u8 z)) q12)⟩, ⟨g13, ⟨⟨trivial, (congrArg (fun z => AV.v (.int .i64 z)) q14)⟩, trivial⟩⟩⟩ trivial ?_
        refine AX.ret ?_
        refine fin_wk (Wk.forget [2] [] (s' := ⟨[(2, .v (.int .i64 v7))], []⟩) (by kernel_rfl)) ?_
        have hr := Option.some.inj h
        subst hr
        exact ⟨_, Wk.refl _, .inr rfl, ⟨[], by kernel_rfl, trivial, [.v (.int .i64 v7)], by kernel_rfl, by kernel_rfl⟩⟩
    · replace h := cd_f b3 h
      refine AX.condF (decide (65536 ≤ (p1 / 2 ^ (32 : Int).toNat))) (by kernel_rfl) b3 ?_
      refine AX.skip ?_
      refine AX.seq ?_
      refine AX.seq ?_
      refine AX.reg (its := []) [0, 2, 14] [] (s1 := ⟨[(0, .v (.int .u64 (p1 / 2 ^ (32 : Int).toNat))), (2, .v (.int .i64 32)), (14, .v (.bool (decide (256 ≤ (p1 / 2 ^ (32 : Int).toNat)))))], []⟩) (C := True) (by kernel_rfl) trivial trivial ?_
      rcases bool_cases (decide (256 ≤ (p1 / 2 ^ (32 : Int).toNat))) with b15 | b15
      · replace h := cd_t b15 h
        refine AX.condT (decide (256 ≤ (p1 / 2 ^ (32 : Int).toNat))) (by kernel_rfl) b15 ?_
        refine AX.seq ?_
        obtain ⟨g16, h⟩ := gd_e h
        refine AX.reg (its := []) [0, 2] [] (s1 := ⟨[(0, .v (.int .u64 ((p1 / 2 ^ (32 : Int).toNat) / 2 ^ (8 : Int).toNat))), (2, .v (.int .i64 32))], []⟩) (C := (0 ≤ (8 : Int) ∧ (8 : Int) ≤ (IntKind.bits .u64 : Int)) ∧ True) (by kernel_rfl) ⟨g16, trivial⟩ trivial ?_
        refine AX.reg (its := [.auto {}, .auto { raw := true }]) [0, 2] [] (s1 := ⟨[(0, .v (.int .u64 ((p1 / 2 ^ (32 : Int).toNat) / 2 ^ (8 : Int).toNat))), (2, .v (.int .i64 (IntKind.wrap .i64 (32 + 8))))], []⟩) (C := True) (by kernel_rfl) trivial trivial ?_
        refine AX.seq ?_
        obtain ⟨v8, q17, h⟩ := nm_e h
        obtain ⟨g18, h⟩ := gd_e h
        obtain ⟨v9, q19, h⟩ := nm_e h
        refine AX.reg (its := [.auto {}, .auto {}, .auto { y := some (.v (.int .u8 v8)), raw := true }, .auto {}, .auto { raw := true }, .auto { y := some (.v (.int .i64 v9)), raw := true }]) [2] [] (s1 := ⟨[(2, .v (.int .i64 v9))], []⟩) (C := ((True) ∧ ((.v (.int .u8 (IntKind.wrap .u8 ((p1 / 2 ^ (32 : Int).toNat) / 2 ^ (8 : Int).toNat))) : AV) = (.v (.int .u8 v8) : AV))) ∧ (0 ≤ v8 ∧ v8 < (lstr_c9535661.size : Int)) ∧ ((True) ∧ ((.v (.int .i64 (IntKind.wrap .i64 ((IntKind.wrap .i64 (32 + 8)) + (IntKind.wrap .i64 (byteAt lstr_c9535661 v8.toNat))))) : AV) = (.v (.int .i64 v9) : AV))) ∧ True) (by kernel_rfl) ⟨⟨trivial, (congrArg (fun z => AV.v (.int .u8 z)) q17)⟩, ⟨g18, ⟨⟨trivial, (congrArg (fun z => AV.v (.int .i64 z)) q19)⟩, trivial⟩⟩⟩ trivial ?_
        refine AX.ret ?_
        refine fin_wk (Wk.forget [2] [] (s' := ⟨[(2, .v (.int .i64 v9))], []⟩) (by kernel_rfl)) ?_
        have hr := Option.some.inj h
        subst hr
        exact ⟨_, Wk.refl _, .inr rfl, ⟨[], by kernel_rfl, trivial, [.v (.int .i64 v9)], by kernel_rfl, by kernel_rfl⟩⟩
      · replace h := cd_f b15 h
        refine AX.condF (decide (256 ≤ (p1 / 2 ^ (32 : Int).toNat))) (by kernel_rfl) b15 ?_
        refine AX.skip ?_
        refine AX.seq ?_
        obtain ⟨g20, h⟩ := gd_e h
        obtain ⟨v10, q21, h⟩ := nm_e h
        refine AX.reg (its := [.auto {}, .auto {}, .auto { raw := true }, .auto { y := some (.v (.int .u8 v10)) }, .auto { raw := true }, .auto { raw := true }]) [2] [] (s1 := ⟨[(2, .v (.int .i64 (IntKind.wrap .i64 (32 + (IntKind.wrap .i64 (v10))))))], []⟩) (C := ((0 ≤ (IntKind.wrap .u8 (p1 / 2 ^ (32 : Int).toNat)) ∧ (IntKind.wrap .u8 (p1 / 2 ^ (32 : Int).toNat)) < (lstr_c9535661.size : Int)) ∧ ((.v (.int .u8 (byteAt lstr_c9535661 (IntKind.wrap .u8 (p1 / 2 ^ (32 : Int).toNat)).toNat)) : AV) = (.v (.int .u8 v10) : AV))) ∧ True) (by kernel_rfl) ⟨⟨g20, (congrArg (fun z => AV.v (.int .u8 z)) q21)⟩, trivial⟩ trivial ?_
        refine AX.ret ?_
        refine fin_wk (Wk.forget [2] [] (s' := ⟨[(2, .v (.int .i64 (IntKind.wrap .i64 (32 + (IntKind.wrap .i64 (v10))))))], []⟩) (by kernel_rfl)) ?_
        have hr := Option.some.inj h
        subst hr
        exact ⟨_, Wk.refl _, .inr rfl, ⟨[], by kernel_rfl, trivial, [.v (.int .i64 (IntKind.wrap .i64 (32 + (IntKind.wrap .i64 (v10)))))], by kernel_rfl, by kernel_rfl⟩⟩
  · replace h := cd_f b1 h
    refine AX.condF (decide (4294967296 ≤ p1)) (by kernel_rfl) b1 ?_
    refine AX.skip ?_
    refine AX.seq ?_
    refine AX.seq ?_
    refine AX.reg (its := []) [0, 2, 8] [] (s1 := ⟨[(0, .v (.int .u64 p1)), (2, .v (.int .i64 0)), (8, .v (.bool (decide (65536 ≤ p1))))], []⟩) (C := True) (by kernel_rfl) trivial trivial ?_
    rcases bool_cases (decide (65536 ≤ p1)) with b22 | b22
    · replace h := cd_t b22 h
      refine AX.condT (decide (65536 ≤ p1)) (by kernel_rfl) b22 ?_
      refine AX.seq ?_
      obtain ⟨g23, h⟩ := gd_e h
      refine AX.reg (its := []) [0, 2] [] (s1 := ⟨[(0, .v (.int .u64 (p1 / 2 ^ (16 : Int).toNat))), (2, .v (.int .i64 0))], []⟩) (C := (0 ≤ (16 : Int) ∧ (16 : Int) ≤ (IntKind.bits .u64 : Int)) ∧ True) (by kernel_rfl) ⟨g23, trivial⟩ trivial ?_
      refine AX.reg (its := [.auto {}, .auto { raw := true }]) [0, 2] [] (s1 := ⟨[(0, .v (.int .u64 (p1 / 2 ^ (16 : Int).toNat))), (2, .v (.int .i64 (IntKind.wrap .i64 (0 + 16))))], []⟩) (C := True) (by kernel_rfl) trivial trivial ?_
      refine AX.seq ?_
      refine AX.seq ?_
      refine AX.reg (its := []) [0, 2, 14] [] (s1 := ⟨[(0, .v (.int .u64 (p1 / 2 ^ (16 : Int).toNat))), (2, .v (.int .i64 (IntKind.wrap .i64 (0 + 16)))), (14, .v (.bool (decide (256 ≤ (p1 / 2 ^ (16 : Int).toNat)))))], []⟩) (C := True) (by kernel_rfl) trivial trivial ?_
      rcases bool_cases (decide (256 ≤ (p1 / 2 ^ (16 : Int).toNat))) with b24 | b24
      · replace h := cd_t b24 h
        refine AX.condT (decide (256 ≤ (p1 / 2 ^ (16 : Int).toNat))) (by kernel_rfl) b24 ?_
        refine AX.seq ?_
        obtain ⟨g25, h⟩ := gd_e h
        refine AX.reg (its := []) [0, 2] [] (s1 := ⟨[(0, .v (.int .u64 ((p1 / 2 ^ (16 : Int).toNat) / 2 ^ (8 : Int).toNat))), (2, .v (.int .i64 (IntKind.wrap .i64 (0 + 16))))], []⟩) (C := (0 ≤ (8 : Int) ∧ (8 : Int) ≤ (IntKind.bits .u64 : Int)) ∧ True) (by kernel_rfl) ⟨g25, trivial⟩ trivial ?_
        refine AX.reg (its := [.auto {}, .auto { raw := true }]) [0, 2] [] (s1 := ⟨[(0, .v (.int .u64 ((p1 / 2 ^ (16 : Int).toNat) / 2 ^ (8 : Int).toNat))), (2, .v (.int .i64 (IntKind.wrap .i64 ((IntKind.wrap .i64 (0 + 16)) + 8))))], []⟩) (C := True) (by kernel_rfl) trivial trivial ?_
        refine AX.seq ?_
        obtain ⟨v11, q26, h⟩ := nm_e h
        obtain ⟨g27, h⟩ := gd_e h
        obtain ⟨v12, q28, h⟩ := nm_e h
        refine AX.reg (its := [.auto {}, .auto {}, .auto { y := some (.v (.int .u8 v11)), raw := true }, .auto {}, .auto { raw := true }, .auto { y := some (.v (.int .i64 v12)), raw := true }]) [2] [] (s1 := ⟨[(2, .v (.int .i64 v12))], []⟩) (C := ((True) ∧ ((.v (.int .u8 (IntKind.wrap .u8 ((p1 / 2 ^ (16 : Int).toNat) / 2 ^ (8 : Int).toNat))) : AV) = (.v (.int .u8 v11) : AV))) ∧ (0 ≤ v11 ∧ v11 < (lstr_c9535661.size : Int)) ∧ ((True) ∧ ((.v (.int .i64 (IntKind.wrap .i64 ((IntKind.wrap .i64 ((IntKind.wrap .i64 (0 + 16)) + 8)) + (IntKind.wrap .i64 (byteAt lstr_c9535661 v11.toNat))))) : AV) = (.v (.int .i64 v12) : AV))) ∧ True) (by kernel_rfl) ⟨⟨trivial, (congrArg (fun z => AV.v (.int .u8 z)) q26)⟩, ⟨g27, ⟨⟨trivial, (congrArg (fun z => AV.v (.int .i64 z)) q28)⟩, trivial⟩⟩⟩ trivial ?_
        refine AX.ret ?_
        refine fin_wk (Wk.forget [2] [] (s' := ⟨[(2, .v (.int .i64 v12))], []⟩) (by kernel_rfl)) ?_
        have hr := Option.some.inj h
        subst hr
        exact ⟨_, Wk.refl _, .inr rfl, ⟨[], by kernel_rfl, trivial, [.v (.int .i64 v12)], by kernel_rfl, by kernel_rfl⟩⟩
      · replace h := cd_f b24 h
        refine AX.condF (decide (256 ≤ (p1 / 2 ^ (16 : Int).toNat))) (by kernel_rfl) b24 ?_
        refine AX.skip ?_
        refine AX.seq ?_
        obtain ⟨g29, h⟩ := gd_e h
        obtain ⟨v13, q30, h⟩ := nm_e h
        obtain ⟨v14, q31, h⟩ := nm_e h
        refine AX.reg (its := [.auto {}, .auto {}, .auto { raw := true }, .auto { y := some (.v (.int .u8 v13)) }, .auto { raw := true }, .auto { y := some (.v (.int .i64 v14)), raw := true }]) [2] [] (s1 := ⟨[(2, .v (.int .i64 v14))], []⟩) (C := ((0 ≤ (IntKind.wrap .u8 (p1 / 2 ^ (16 : Int).toNat)) ∧ (IntKind.wrap .u8 (p1 / 2 ^ (16 : Int).toNat)) < (lstr_c9535661.size : Int)) ∧ ((.v (.int .u8 (byteAt lstr_c9535661 (IntKind.wrap .u8 (p1 / 2 ^ (16 : Int).toNat)).toNat)) : AV) = (.v (.int .u8 v13) : AV))) ∧ ((True) ∧ ((.v (.int .i64 (IntKind.wrap .i64 ((IntKind.wrap .i64 (0 + 16)) + (IntKind.wrap .i64 (v13))))) : AV) = (.v (.int .i64 v14) : AV))) ∧ True) (by kernel_rfl) ⟨⟨g29, (congrArg (fun z => AV.v (.int .u8 z)) q30)⟩, ⟨⟨trivial, (congrArg (fun z => AV.v (.int .i64 z)) q31)⟩, trivial⟩⟩ trivial ?_
        refine AX.ret ?_
        refine fin_wk (Wk.forget [2] [] (s' := ⟨[(2, .v (.int .i64 v14))], []⟩) (by kernel_rfl)) ?_
        have hr := Option.some.inj h
        subst hr
        exact ⟨_, Wk.refl _, .inr rfl, ⟨[], by kernel_rfl, trivial, [.v (.int .i64 v14)], by kernel_rfl, by kernel_rfl⟩⟩
    · replace h := cd_f b22 h
      refine AX.condF (decide (65536 ≤ p1)) (by kernel_rfl) b22 ?_
      refine AX.skip ?_
      refine AX.seq ?_
      refine AX.seq ?_
      refine AX.reg (its := []) [0, 2, 14] [] (s1 := ⟨[(0, .v (.int .u64 p1)), (2, .v (.int .i64 0)), (14, .v (.bool (decide (256 ≤ p1))))], []⟩) (C := True) (by kernel_rfl) trivial trivial ?_
      rcases bool_cases (decide (256 ≤ p1)) with b32 | b32
      · replace h := cd_t b32 h
        refine AX.condT (decide (256 ≤ p1)) (by kernel_rfl) b32 ?_
        refine AX.seq ?_
        obtain ⟨g33, h⟩ := gd_e h
        refine AX.reg (its := []) [0, 2] [] (s1 := ⟨[(0, .v (.int .u64 (p1 / 2 ^ (8 : Int).toNat))), (2, .v (.int .i64 0))], []⟩) (C := (0 ≤ (8 : Int) ∧ (8 : Int) ≤ (IntKind.bits .u64 : Int)) ∧ True) (by kernel_rfl) ⟨g33, trivial⟩ trivial ?_
        refine AX.reg (its := [.auto {}, .auto { raw := true }]) [0, 2] [] (s1 := ⟨[(0, .v (.int .u64 (p1 / 2 ^ (8 : Int).toNat))), (2, .v (.int .i64 (IntKind.wrap .i64 (0 + 8))))], []⟩) (C := True) (by kernel_rfl) trivial trivial ?_
        refine AX.seq ?_
        obtain ⟨g34, h⟩ := gd_e h
        obtain ⟨v15, q35, h⟩ := nm_e h
        obtain ⟨v16, q36, h⟩ := nm_e h
        refine AX.reg (its := [.auto {}, .auto {}, .auto { raw := true }, .auto { y := some (.v (.int .u8 v15)) }, .auto { raw := true }, .auto { y := some (.v (.int .i64 v16)), raw := true }]) [2] [] (s1 := ⟨[(2, .v (.int .i64 v16))], []⟩) (C := ((0 ≤ (IntKind.wrap .u8 (p1 / 2 ^ (8 : Int).toNat)) ∧ (IntKind.wrap .u8 (p1 / 2 ^ (8 : Int).toNat)) < (lstr_c9535661.size : Int)) ∧ ((.v (.int .u8 (byteAt lstr_c9535661 (IntKind.wrap .u8 (p1 / 2 ^ (8 : Int).toNat)).toNat)) : AV) = (.v (.int .u8 v15) : AV))) ∧ ((True) ∧ ((.v (.int .i64 (IntKind.wrap .i64 ((IntKind.wrap .i64 (0 + 8)) + (IntKind.wrap .i64 (v15))))) : AV) = (.v (.int .i64 v16) : AV))) ∧ True) (by kernel_rfl) ⟨⟨g34, (congrArg (fun z => AV.v (.int .u8 z)) q35)⟩, ⟨⟨trivial, (congrArg (fun z => AV.v (.int .i64 z)) q36)⟩, trivial⟩⟩ trivial ?_
        refine AX.ret ?_
        refine fin_wk (Wk.forget [2] [] (s' := ⟨[(2, .v (.int .i64 v16))], []⟩) (by kernel_rfl)) ?_
        have hr := Option.some.inj h
        subst hr
        exact ⟨_, Wk.refl _, .inr rfl, ⟨[], by kernel_rfl, trivial, [.v (.int .i64 v16)], by kernel_rfl, by kernel_rfl⟩⟩
      · replace h := cd_f b32 h
        refine AX.condF (decide (256 ≤ p1)) (by kernel_rfl) b32 ?_
        refine AX.skip ?_
        refine AX.seq ?_
        obtain ⟨g37, h⟩ := gd_e h
        obtain ⟨v17, q38, h⟩ := nm_e h
        refine AX.reg (its := [.auto {}, .auto {}, .auto { raw := true }, .auto {}, .auto { y := some (.v (.int .i64 v17)), raw := true }, .auto { raw := true }]) [2] [] (s1 := ⟨[(2, .v (.int .i64 (IntKind.wrap .i64 (0 + v17))))], []⟩) (C := (0 ≤ (IntKind.wrap .u8 (p1)) ∧ (IntKind.wrap .u8 (p1)) < (lstr_c9535661.size : Int)) ∧ ((True) ∧ ((.v (.int .i64 (IntKind.wrap .i64 (byteAt lstr_c9535661 (IntKind.wrap .u8 (p1)).toNat))) : AV) = (.v (.int .i64 v17) : AV))) ∧ True) (by kernel_rfl) ⟨g37, ⟨⟨trivial, (congrArg (fun z => AV.v (.int .i64 z)) q38)⟩, trivial⟩⟩ trivial ?_
        refine AX.ret ?_
        refine fin_wk (Wk.forget [2] [] (s' := ⟨[(2, .v (.int .i64 (IntKind.wrap .i64 (0 + v17))))], []⟩) (by kernel_rfl)) ?_
        have hr := Option.some.inj h
        subst hr
        exact ⟨_, Wk.refl _, .inr rfl, ⟨[], by kernel_rfl, trivial, [.v (.int .i64 (IntKind.wrap .i64 (0 + v17)))], by kernel_rfl, by kernel_rfl⟩⟩

end Go.Eng
