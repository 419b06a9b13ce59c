/- What is proved here: each function keeps to its model, whatever its arguments, wherever the model has an answer. Printed by gen.py. -/
import Derived.Test.YtehcdfddbnhniaaCExactDeadArmsWalk1
import Derived.Test.YtehcdfddbnhniaaProg
import Derived.KernelRfl
set_option linter.unusedVariables false
namespace Go.Eng
open Go Go.Proofs


theorem s_impl_in (p1 : Int) (p2 : Int) (p3 : Int) (r : Bool) (h : m_impl_in p1 p2 p3 = some r) :
    Eng.Spec Try.prog 130 [.v (.int .i64 p1), .v (.int .i64 p2), .v (.int .i64 p3)] [] (.v (.bool r)) [] := by
  unfold m_impl_in at h
  refine Eng.Spec.body Try.func130 (by kernel_rfl) rfl (by kernel_rfl) ?_
  refine AX.wkpost ?_
  refine AX.seq ?_
  refine AX.reg (its := []) [0, 1, 2] [] (s1 := ⟨[(0, .v (.int .i64 p1)), (1, .v (.int .i64 p2)), (2, .v (.int .i64 p3))], []⟩) (C := True) (by kernel_rfl) trivial trivial ?_
  refine AX.seq ?_
  rcases bool_cases (decide (p2 ≤ p1)) with b1 | b1
  · replace h := cd_t b1 h
    refine AX.reg (its := [.auto {}, .auto {}, .auto { y := some (.v (.bool true)) }]) [6] [] (s1 := ⟨[(6, .v (.bool (decide (p1 ≤ p3))))], []⟩) (C := ((True) ∧ ((.v (.bool (decide (p2 ≤ p1))) : AV) = (.v (.bool true) : AV))) ∧ True) (by kernel_rfl) ⟨⟨trivial, (congrArg (fun z => AV.v (.bool z)) b1)⟩, trivial⟩ trivial ?_
    refine AX.ret ?_
    refine fin_wk (Wk.forget [6] [] (s' := ⟨[(6, .v (.bool (decide (p1 ≤ p3))))], []⟩) (by kernel_rfl)) ?_
    have hr := Option.some.inj h
    subst hr
    exact ⟨_, Wk.refl _, .inr rfl, ⟨[], by kernel_rfl, trivial, [.v (.bool (decide (p1 ≤ p3)))], by kernel_rfl, by kernel_rfl⟩⟩
  · replace h := cd_f b1 h
    refine AX.reg (its := [.auto {}, .auto {}, .auto { y := some (.v (.bool false)) }]) [6] [] (s1 := ⟨[(6, .v (.bool false))], []⟩) (C := ((True) ∧ ((.v (.bool (decide (p2 ≤ p1))) : AV) = (.v (.bool false) : AV))) ∧ True) (by kernel_rfl) ⟨⟨trivial, (congrArg (fun z => AV.v (.bool z)) b1)⟩, trivial⟩ trivial ?_
    refine AX.ret ?_
    refine fin_wk (Wk.forget [6] [] (s' := ⟨[(6, .v (.bool false))], []⟩) (by kernel_rfl)) ?_
    have hr := Option.some.inj h
    subst hr
    exact ⟨_, Wk.refl _, .inr rfl, ⟨[], by kernel_rfl, trivial, [.v (.bool false)], by kernel_rfl, by kernel_rfl⟩⟩

theorem s_impl_ValidName_L1 (p1 : ByteArray) (n : Nat) (g : Int) (out : Unit ⊕ Unit) (h : m_impl_ValidName_L1 p1 n g = some out) :
    AX Try.prog 23 0 (codeAt [1, 0, 1, 1] (bodyOf Try.f169)) ((fun g : Int => (⟨[(0, .v (.string p1)), (3, .v (.int .i64 g))], []⟩ : S)) g) (fun ex s => (∃ o : Unit, out = Sum.inl o ∧ ex = .ret ∧ s = ⟨[(2, .v (.bool false))], []⟩) ∨ (∃ o : Unit, out = Sum.inr o ∧ ex = .exit 0 ∧ s = ⟨[(0, .v (.string p1))], []⟩)) := by
  refine AX.wkpost ?_
  refine AX.loop (G := Nat × (Int)) (fun q => (fun g : Int => (⟨[(0, .v (.string p1)), (3, .v (.int .i64 g))], []⟩ : S)) q.2) (fun q => m_impl_ValidName_L1 p1 q.1 q.2 = some out) (fun q => q.1) (n, g) h (Wk.refl _) ?_
  clear h
  rintro ⟨fu, v2⟩ h
  cases fu with
  | zero => cases h
  | succ fu =>
    rw [m_impl_ValidName_L1] at h
    refine AX.seq ?_
    refine AX.seq ?_
    refine AX.reg (its := []) [0, 3, 7] [] (s1 := ⟨[(0, .v (.string p1)), (3, .v (.int .i64 v2)), (7, .v (.bool (decide (v2 < (p1.size : Int)))))], []⟩) (C := True) (by kernel_rfl) trivial trivial ?_
    rcases bool_cases (decide (v2 < (p1.size : Int))) with b1 | b1
    · replace h := cd_t b1 h
      refine AX.condT (decide (v2 < (p1.size : Int))) (by kernel_rfl) b1 ?_
      refine AX.skip ?_
      refine AX.seq ?_
      refine AX.block ?_
      refine AX.seq ?_
      obtain ⟨g2, h⟩ := gd_e h
      rcases bool_cases (decide ((byteAt p1 v2.toNat) < 97)) with b3 | b3
      · replace h := cd_t b3 h
        refine AX.reg (its := [.auto {}, .auto {}, .auto {}, .auto { y := some (.v (.bool true)) }]) [0, 3, 19] [] (s1 := ⟨[(0, .v (.string p1)), (3, .v (.int .i64 v2)), (19, .v (.bool true))], []⟩) (C := (0 ≤ v2 ∧ v2 < (p1.size : Int)) ∧ ((True) ∧ ((.v (.bool (decide ((byteAt p1 v2.toNat) < 97))) : AV) = (.v (.bool true) : AV))) ∧ True) (by kernel_rfl) ⟨g2, ⟨⟨trivial, (congrArg (fun z => AV.v (.bool z)) b3)⟩, trivial⟩⟩ trivial ?_
        refine AX.cond_true (by kernel_rfl) ?_
        refine AX.seq ?_
        refine AX.reg (its := []) [2] [] (s1 := ⟨[(2, .v (.bool false))], []⟩) (C := True) (by kernel_rfl) trivial trivial ?_
        refine AX.ret ?_
        refine fin_wk (Wk.forget [2] [] (s' := ⟨[(2, .v (.bool false))], []⟩) (by kernel_rfl)) ?_
        have hr := Option.some.inj h
        subst hr
        exact ⟨_, Wk.refl _, .inl ⟨(), rfl, rfl, rfl⟩⟩
      · replace h := cd_f b3 h
        refine AX.reg (its := [.auto {}, .auto {}, .auto {}, .auto { y := some (.v (.bool false)) }]) [0, 3, 19] [] (s1 := ⟨[(0, .v (.string p1)), (3, .v (.int .i64 v2)), (19, .v (.bool (decide (122 < (byteAt p1 v2.toNat)))))], []⟩) (C := (0 ≤ v2 ∧ v2 < (p1.size : Int)) ∧ ((True) ∧ ((.v (.bool (decide ((byteAt p1 v2.toNat) < 97))) : AV) = (.v (.bool false) : AV))) ∧ (0 ≤ v2 ∧ v2 < (p1.size : Int)) ∧ True) (by kernel_rfl) ⟨g2, ⟨⟨trivial, (congrArg (fun z => AV.v (.bool z)) b3)⟩, ⟨g2, trivial⟩⟩⟩ trivial ?_
        rcases bool_cases (decide (122 < (byteAt p1 v2.toNat))) with b4 | b4
        · replace h := cd_t b4 h
          refine AX.condT (decide (122 < (byteAt p1 v2.toNat))) (by kernel_rfl) b4 ?_
          refine AX.seq ?_
          refine AX.reg (its := []) [2] [] (s1 := ⟨[(2, .v (.bool false))], []⟩) (C := True) (by kernel_rfl) trivial trivial ?_
          refine AX.ret ?_
          refine fin_wk (Wk.forget [2] [] (s' := ⟨[(2, .v (.bool false))], []⟩) (by kernel_rfl)) ?_
          have hr := Option.some.inj h
          subst hr
          exact ⟨_, Wk.refl _, .inl ⟨(), rfl, rfl, rfl⟩⟩
        · replace h := cd_f b4 h
          refine AX.condF (decide (122 < (byteAt p1 v2.toNat))) (by kernel_rfl) b4 ?_
          refine AX.skip ?_
          refine AX.reg (its := [.auto {}, .auto { raw := true }]) [0, 3] [] (s1 := ⟨[(0, .v (.string p1)), (3, .v (.int .i64 (IntKind.wrap .i64 (v2 + 1))))], []⟩) (C := True) (by kernel_rfl) trivial trivial ?_
          refine ⟨(fu, IntKind.wrap .i64 (v2 + 1)), h, Nat.lt_succ_self _, ?_⟩
          refine Wk.trans (Wk.forget [0, 3] [] (s' := ⟨[(0, .v (.string p1)), (3, .v (.int .i64 (IntKind.wrap .i64 (v2 + 1))))], []⟩) (by kernel_rfl)) ?_
          exact Wk.refl _
    · replace h := cd_f b1 h
      refine AX.condF (decide (v2 < (p1.size : Int))) (by kernel_rfl) b1 ?_
      refine AX.exit ?_
      refine fin_wk (Wk.forget [0] [] (s' := ⟨[(0, .v (.string p1))], []⟩) (by kernel_rfl)) ?_
      have hr := Option.some.inj h
      subst hr
      exact ⟨_, Wk.refl _, .inr ⟨(), rfl, rfl, rfl⟩⟩

theorem s_impl_ValidName (p1 : ByteArray) (r : Bool) (h : m_impl_ValidName p1 = some r) :
    Eng.Spec Try.prog 169 [.v (.string p1)] [] (.v (.bool r)) [] := by
  unfold m_impl_ValidName at h
  refine Eng.Spec.body Try.func169 (by kernel_rfl) rfl (by kernel_rfl) ?_
  refine AX.wkpost ?_
  refine AX.seq ?_
  refine AX.reg (its := []) [0] [] (s1 := ⟨[(0, .v (.string p1))], []⟩) (C := True) (by kernel_rfl) trivial trivial ?_
  refine AX.seq ?_
  refine AX.seq ?_
  refine AX.reg (its := []) [0, 3] [] (s1 := ⟨[(0, .v (.string p1)), (3, .v (.int .i64 0))], []⟩) (C := True) (by kernel_rfl) trivial trivial ?_
  refine AX.block ?_
  obtain ⟨x3, e5, h⟩ := bd_e h
  refine AX.wk (Wk.forget [0, 3] [] (s' := ⟨[(0, .v (.string p1)), (3, .v (.int .i64 0))], []⟩) (by kernel_rfl)) ?_
  refine AX.mono (s_impl_ValidName_L1 p1 FU 0 x3 e5) ?_
  rintro _ _ (⟨x4, rfl, rfl, rfl⟩ | ⟨x5, rfl, rfl, rfl⟩)
  · replace h := sm_l h
    refine fin_wk (Wk.forget [2] [] (s' := ⟨[(2, .v (.bool false))], []⟩) (by kernel_rfl)) ?_
    have hr := Option.some.inj h
    subst hr
    exact ⟨_, Wk.refl _, .inr rfl, ⟨[], by kernel_rfl, trivial, [.v (.bool false)], by kernel_rfl, by kernel_rfl⟩⟩
  · replace h := sm_r h
    refine AX.seq ?_
    obtain ⟨x6, e6, h⟩ := bd_e h
    refine AX.reg (its := [.auto {}, .auto {}, .call 130 [.v (.int .i64 (p1.size : Int)), .v (.int .i64 1), .v (.int .i64 6)] (handO (rho ([] ++ [])) [] [] ++ []) (callEv [] [] (.v (.bool x6)) [])]) [2] [] (s1 := ⟨[(2, .v (.bool x6))], []⟩) (C := ((([.v (.int .i64 (p1.size : Int)), .v (.int .i64 1), .v (.int .i64 6)] : List AV) = [.v (.int .i64 (p1.size : Int)), .v (.int .i64 1), .v (.int .i64 6)]) ∧ True) ∧ True) (by kernel_rfl) ⟨⟨rfl, trivial⟩, trivial⟩ ⟨call_ok (ks := []) (ns := []) (bor := []) (bobjs := []) (s_impl_in (p1.size : Int) 1 6 x6 e6) (.cons (.c1 (.c0 (.same _ (by kernel_rfl) (by kernel_rfl)))) (.cons (.c1 (.c0 (.same _ (by kernel_rfl) (by kernel_rfl)))) (.cons (.c1 (.c0 (.same _ (by kernel_rfl) (by kernel_rfl)))) (.nil)))) (by kernel_rfl) trivial, trivial⟩ ?_
    refine AX.ret ?_
    refine fin_wk (Wk.forget [2] [] (s' := ⟨[(2, .v (.bool x6))], []⟩) (by kernel_rfl)) ?_
    have hr := Option.some.inj h
    subst hr
    exact ⟨_, Wk.refl _, .inr rfl, ⟨[], by kernel_rfl, trivial, [.v (.bool x6)], by kernel_rfl, by kernel_rfl⟩⟩

theorem s_impl_named_1_l (p1 : ByteArray) (p2 : Int) (p3 : ByteArray) (r : Unit) (h : m_impl_named_1_l p1 p2 p3 = some r) :
    Eng.Spec Try.prog 171 [.agg [.v (.string p1), .v (.int .i64 p2)], .bp [.v (.string p3)] 0] [] (.v (.bool (decide (p1 = p3)))) [] := by
  unfold m_impl_named_1_l at h
  refine Eng.Spec.body Try.func171 (by kernel_rfl) rfl (by kernel_rfl) ?_
  refine AX.wkpost ?_
  refine AX.seq ?_
  refine AX.reg (its := [.auto { nk := 0 }]) [1, 2] [0] (s1 := ⟨[(1, .bp [.v (.string p3)] 0), (2, .pt 0 0)], [(0, .box [.v (.string p1), .v (.int .i64 p2)])]⟩) (C := True) (by kernel_rfl) trivial trivial ?_
  refine AX.seq ?_
  refine AX.reg (its := []) [3] [] (s1 := ⟨[(3, .v (.bool (decide (p1 = p3))))], []⟩) (C := True) (by kernel_rfl) trivial trivial ?_
  refine AX.ret ?_
  refine fin_wk (Wk.forget [3] [] (s' := ⟨[(3, .v (.bool (decide (p1 = p3))))], []⟩) (by kernel_rfl)) ?_
  have hr := Option.some.inj h
  subst hr
  exact ⟨_, Wk.refl _, .inr rfl, ⟨[], by kernel_rfl, trivial, [.v (.bool (decide (p1 = p3)))], by kernel_rfl, by kernel_rfl⟩⟩

theorem s_slices_IndexFunc_si_named_1_l_L1 (p1 : List (ByteArray × Int)) (p2 : ByteArray) (n : Nat) (g : Int) (out : Int ⊕ Unit) (h : m_slices_IndexFunc_si_named_1_l_L1 p1 p2 n g = some out) :
    AX Try.prog 19 0 (codeAt [1, 0, 1, 1] (bodyOf Try.f170)) ((fun g : Int => (⟨[(0, .bs false 2 (List.map enc_si p1)), (1, .fn 171 [.bp [.v (.string p2)] 0]), (7, .v (.int .i64 (p1.length : Int))), (8, .v (.int .i64 g))], []⟩ : S)) g) (fun ex s => (∃ o : Int, out = Sum.inl o ∧ ex = .ret ∧ s = ⟨[(4, .v (.int .i64 o))], []⟩) ∨ (∃ o : Unit, out = Sum.inr o ∧ ex = .exit 0 ∧ s = ⟨[], []⟩)) := by
  refine AX.wkpost ?_
  refine AX.loop (G := Nat × (Int)) (fun q => (fun g : Int => (⟨[(0, .bs false 2 (List.map enc_si p1)), (1, .fn 171 [.bp [.v (.string p2)] 0]), (7, .v (.int .i64 (p1.length : Int))), (8, .v (.int .i64 g))], []⟩ : S)) q.2) (fun q => m_slices_IndexFunc_si_named_1_l_L1 p1 p2 q.1 q.2 = some out) (fun q => q.1) (n, g) h (Wk.refl _) ?_
  clear h
  rintro ⟨fu, v3⟩ h
  cases fu with
  | zero => cases h
  | succ fu =>
    rw [m_slices_IndexFunc_si_named_1_l_L1] at h
    refine AX.seq ?_
    refine AX.reg (its := []) [0, 1, 7, 8, 9] [] (s1 := ⟨[(0, .bs false 2 (List.map enc_si p1)), (1, .fn 171 [.bp [.v (.string p2)] 0]), (7, .v (.int .i64 (p1.length : Int))), (8, .v (.int .i64 v3)), (9, .v (.bool (decide (v3 < (p1.length : Int)))))], []⟩) (C := True) (by kernel_rfl) trivial trivial ?_
    refine AX.seq ?_
    rcases bool_cases (decide (v3 < (p1.length : Int))) with b1 | b1
    · replace h := cd_t b1 h
      refine AX.condT (decide (v3 < (p1.length : Int))) (by kernel_rfl) b1 ?_
      refine AX.skip ?_
      refine AX.seq ?_
      refine AX.block ?_
      refine AX.seq ?_
      refine AX.reg (its := []) [0, 1, 5, 7, 8] [] (s1 := ⟨[(0, .bs false 2 (List.map enc_si p1)), (1, .fn 171 [.bp [.v (.string p2)] 0]), (5, .v (.int .i64 v3)), (7, .v (.int .i64 (p1.length : Int))), (8, .v (.int .i64 v3))], []⟩) (C := True) (by kernel_rfl) trivial trivial ?_
      refine AX.seq ?_
      obtain ⟨g2, h⟩ := gd_e h
      obtain ⟨x4, e3, h⟩ := bd_e h
      refine AX.reg (its := [.auto {}, .auto {}, .auto {}, .auto { y := some (.be 2 (enc_si (gt p1 v3)) 0) }, .auto {}, .call 171 [.agg [.v (.string ((gt p1 v3).1)), .v (.int .i64 ((gt p1 v3).2))], .bp [.v (.string p2)] 0] (handO (rho ([] ++ [])) [] [] ++ []) (callEv [] [] (.v (.bool (decide (((gt p1 v3).1) = p2)))) [])]) [0, 1, 5, 7, 8, 16] [] (s1 := ⟨[(0, .bs false 2 (List.map enc_si p1)), (1, .fn 171 [.bp [.v (.string p2)] 0]), (5, .v (.int .i64 v3)), (7, .v (.int .i64 (p1.length : Int))), (8, .v (.int .i64 v3)), (16, .v (.bool (decide (((gt p1 v3).1) = p2))))], []⟩) (C := ((0 ≤ v3 ∧ v3 < ((List.map enc_si p1).length : Int)) ∧ (AV.be 2 ((List.map enc_si p1).getD v3.toNat []) 0 = AV.be 2 (enc_si (gt p1 v3)) 0)) ∧ ((([.agg [.v (.string ((gt p1 v3).1)), .v (.int .i64 ((gt p1 v3).2))], .bp [.v (.string p2)] 0] : List AV) = [.agg [.v (.string ((gt p1 v3).1)), .v (.int .i64 ((gt p1 v3).2))], .bp [.v (.string p2)] 0]) ∧ True) ∧ True) (by kernel_rfl) ⟨idx_bs enc_si p1 v3 2 g2, ⟨⟨rfl, trivial⟩, trivial⟩⟩ ⟨call_ok (ks := []) (ns := []) (bor := []) (bobjs := []) (s_impl_named_1_l ((gt p1 v3).1) ((gt p1 v3).2) p2 x4 e3) (.cons (.c1 (.agg (.cons (.same _ (by kernel_rfl) (by kernel_rfl)) (.cons (.same _ (by kernel_rfl) (by kernel_rfl)) (.nil))))) (.cons (.c1 (.bp (.cons (.same _ (by kernel_rfl) (by kernel_rfl)) (.nil)))) (.nil))) (by kernel_rfl) trivial, trivial⟩ ?_
      rcases bool_cases (decide (((gt p1 v3).1) = p2)) with b4 | b4
      · replace h := cd_t b4 h
        refine AX.condT (decide (((gt p1 v3).1) = p2)) (by kernel_rfl) b4 ?_
        refine AX.seq ?_
        refine AX.reg (its := []) [4] [] (s1 := ⟨[(4, .v (.int .i64 v3))], []⟩) (C := True) (by kernel_rfl) trivial trivial ?_
        refine AX.ret ?_
        refine fin_wk (Wk.forget [4] [] (s' := ⟨[(4, .v (.int .i64 v3))], []⟩) (by kernel_rfl)) ?_
        have hr := Option.some.inj h
        subst hr
        exact ⟨_, Wk.refl _, .inl ⟨v3, rfl, rfl, rfl⟩⟩
      · replace h := cd_f b4 h
        refine AX.condF (decide (((gt p1 v3).1) = p2)) (by kernel_rfl) b4 ?_
        refine AX.skip ?_
        refine AX.reg (its := [.auto { raw := true }]) [0, 1, 7, 8] [] (s1 := ⟨[(0, .bs false 2 (List.map enc_si p1)), (1, .fn 171 [.bp [.v (.string p2)] 0]), (7, .v (.int .i64 (p1.length : Int))), (8, .v (.int .i64 (IntKind.wrap .i64 (v3 + 1))))], []⟩) (C := True) (by kernel_rfl) trivial trivial ?_
        refine ⟨(fu, IntKind.wrap .i64 (v3 + 1)), h, Nat.lt_succ_self _, ?_⟩
        refine Wk.trans (Wk.forget [0, 1, 7, 8] [] (s' := ⟨[(0, .bs false 2 (List.map enc_si p1)), (1, .fn 171 [.bp [.v (.string p2)] 0]), (7, .v (.int .i64 (p1.length : Int))), (8, .v (.int .i64 (IntKind.wrap .i64 (v3 + 1))))], []⟩) (by kernel_rfl)) ?_
        exact Wk.refl _
    · replace h := cd_f b1 h
      refine AX.condF (decide (v3 < (p1.length : Int))) (by kernel_rfl) b1 ?_
      refine AX.exit ?_
      refine fin_wk (Wk.forget [] [] (s' := ⟨[], []⟩) (by kernel_rfl)) ?_
      have hr := Option.some.inj h
      subst hr
      exact ⟨_, Wk.refl _, .inr ⟨(), rfl, rfl, rfl⟩⟩

theorem s_slices_IndexFunc_si_named_1_l (p1 : List (ByteArray × Int)) (p2 : ByteArray) (r : Int) (h : m_slices_IndexFunc_si_named_1_l p1 p2 = some r) :
    Eng.Spec Try.prog 170 [.bs false 2 (List.map enc_si p1), .fn 171 [.bp [.v (.string p2)] 0]] [] (.v (.int .i64 r)) [] := by
  unfold m_slices_IndexFunc_si_named_1_l at h
  refine Eng.Spec.body Try.func170 (by kernel_rfl) rfl (by kernel_rfl) ?_
  refine AX.wkpost ?_
  refine AX.seq ?_
  refine AX.reg (its := []) [0, 1] [] (s1 := ⟨[(0, .bs false 2 (List.map enc_si p1)), (1, .fn 171 [.bp [.v (.string p2)] 0])], []⟩) (C := True) (by kernel_rfl) trivial trivial ?_
  refine AX.seq ?_
  refine AX.seq ?_
  refine AX.reg (its := [.auto {}, .auto { y := some (.v (.int .i64 (p1.length : Int))) }]) [0, 1, 7, 8] [] (s1 := ⟨[(0, .bs false 2 (List.map enc_si p1)), (1, .fn 171 [.bp [.v (.string p2)] 0]), (7, .v (.int .i64 (p1.length : Int))), (8, .v (.int .i64 0))], []⟩) (C := (True ∧ (AV.v (.int .i64 ((List.map enc_si p1).length : Int)) = AV.v (.int .i64 (p1.length : Int)))) ∧ True) (by kernel_rfl) ⟨⟨trivial, len_map enc_si p1⟩, trivial⟩ trivial ?_
  refine AX.block ?_
  obtain ⟨x5, e5, h⟩ := bd_e h
  refine AX.wk (Wk.forget [0, 1, 7, 8] [] (s' := ⟨[(0, .bs false 2 (List.map enc_si p1)), (1, .fn 171 [.bp [.v (.string p2)] 0]), (7, .v (.int .i64 (p1.length : Int))), (8, .v (.int .i64 0))], []⟩) (by kernel_rfl)) ?_
  refine AX.mono (s_slices_IndexFunc_si_named_1_l_L1 p1 p2 FU 0 x5 e5) ?_
  rintro _ _ (⟨x6, rfl, rfl, rfl⟩ | ⟨x7, rfl, rfl, rfl⟩)
  · replace h := sm_l h
    refine fin_wk (Wk.forget [4] [] (s' := ⟨[(4, .v (.int .i64 x6))], []⟩) (by kernel_rfl)) ?_
    have hr := Option.some.inj h
    subst hr
    exact ⟨_, Wk.refl _, .inr rfl, ⟨[], by kernel_rfl, trivial, [.v (.int .i64 x6)], by kernel_rfl, by kernel_rfl⟩⟩
  · replace h := sm_r h
    refine AX.seq ?_
    refine AX.reg (its := []) [4] [] (s1 := ⟨[(4, .v (.int .i64 (-1)))], []⟩) (C := True) (by kernel_rfl) trivial trivial ?_
    refine AX.ret ?_
    refine fin_wk (Wk.forget [4] [] (s' := ⟨[(4, .v (.int .i64 (-1)))], []⟩) (by kernel_rfl)) ?_
    have hr := Option.some.inj h
    subst hr
    exact ⟨_, Wk.refl _, .inr rfl, ⟨[], by kernel_rfl, trivial, [.v (.int .i64 (-1))], by kernel_rfl, by kernel_rfl⟩⟩

theorem s_impl_named (p1 : List (ByteArray × Int)) (p2 : ByteArray) (r : Int) (h : m_impl_named p1 p2 = some r) :
    Eng.Spec Try.prog 131 [.bs false 2 (List.map enc_si p1), .v (.string p2)] [] (.v (.int .i64 r)) [] := by
  unfold m_impl_named at h
  refine Eng.Spec.body Try.func131 (by kernel_rfl) rfl (by kernel_rfl) ?_
  refine AX.wkpost ?_
  refine AX.seq ?_
  refine AX.reg (its := [.auto { nk := 0 }]) [0, 3] [0] (s1 := ⟨[(0, .bs false 2 (List.map enc_si p1)), (3, .pt 0 0)], [(0, .box [.v (.string p2)])]⟩) (C := True) (by kernel_rfl) trivial trivial ?_
  refine AX.seq ?_
  obtain ⟨x3, e1, h⟩ := bd_e h
  refine AX.reg (its := [.auto {}, .auto {}, .call 170 [.bs false 2 (List.map enc_si p1), .fn 171 [.pt 0 0]] (handO (rho ([] ++ [])) [] [] ++ [(0, .box [.v (.string p2)])]) (callEv [] [] (.v (.int .i64 x3)) [])]) [4] [] (s1 := ⟨[(4, .v (.int .i64 x3))], []⟩) (C := ((([.bs false 2 (List.map enc_si p1), .fn 171 [.pt 0 0]] : List AV) = [.bs false 2 (List.map enc_si p1), .fn 171 [.pt 0 0]]) ∧ (AO.box [.v (.string p2)] = AO.box [.v (.string p2)]) ∧ True) ∧ True) (by kernel_rfl) ⟨⟨rfl, rfl, trivial⟩, trivial⟩ ⟨call_ok (ks := []) (ns := []) (bor := [0]) (bobjs := [(0, .box [.v (.string p2)])]) (s_slices_IndexFunc_si_named_1_l p1 p2 x3 e1) (.cons (.c1 (.c0 (.same _ (by kernel_rfl) (by kernel_rfl)))) (.cons (.fn (.cons (.box rfl rfl (.cons (.same _ (by kernel_rfl) (by kernel_rfl)) (.nil))) (.nil))) (.nil))) (by kernel_rfl) trivial, trivial⟩ ?_
  refine AX.ret ?_
  refine fin_wk (Wk.forget [4] [] (s' := ⟨[(4, .v (.int .i64 x3))], []⟩) (by kernel_rfl)) ?_
  have hr := Option.some.inj h
  subst hr
  exact ⟨_, Wk.refl _, .inr rfl, ⟨[], by kernel_rfl, trivial, [.v (.int .i64 x3)], by kernel_rfl, by kernel_rfl⟩⟩

theorem s_impl_defsValid_L1 (p1 : List (ByteArray × Int)) (p2 : Int) (p3 : Int) (n : Nat) (g : Int) (out : Unit ⊕ Unit) (h : m_impl_defsValid_L1 p1 p2 p3 n g = some out) :
    AX Try.prog 41 0 (codeAt [1, 0, 1, 1] (bodyOf Try.f129)) ((fun g : Int => (⟨[(0, .bs false 2 (List.map enc_si p1)), (1, .v (.int .i64 p2)), (2, .v (.int .i64 p3)), (9, .bs false 2 (List.map enc_si p1)), (10, .v (.int .i64 (p1.length : Int))), (11, .v (.int .i64 g))], []⟩ : S)) g) (fun ex s => (∃ o : Unit, out = Sum.inl o ∧ ex = .ret ∧ s = ⟨[(6, .v (.bool false))], []⟩) ∨ (∃ o : Unit, out = Sum.inr o ∧ ex = .exit 0 ∧ s = ⟨[(0, .bs false 2 (List.map enc_si p1))], []⟩)) := by
  refine AX.wkpost ?_
  refine AX.loop (G := Nat × (Int)) (fun q => (fun g : Int => (⟨[(0, .bs false 2 (List.map enc_si p1)), (1, .v (.int .i64 p2)), (2, .v (.int .i64 p3)), (9, .bs false 2 (List.map enc_si p1)), (10, .v (.int .i64 (p1.length : Int))), (11, .v (.int .i64 g))], []⟩ : S)) q.2) (fun q => m_impl_defsValid_L1 p1 p2 p3 q.1 q.2 = some out) (fun q => q.1) (n, g) h (Wk.refl _) ?_
  clear h
  rintro ⟨fu, v4⟩ h
  cases fu with
  | zero => cases h
  | succ fu =>
    rw [m_impl_defsValid_L1] at h
    refine AX.seq ?_
    refine AX.reg (its := []) [0, 1, 2, 9, 10, 11, 12] [] (s1 := ⟨[(0, .bs false 2 (List.map enc_si p1)), (1, .v (.int .i64 p2)), (2, .v (.int .i64 p3)), (9, .bs false 2 (List.map enc_si p1)), (10, .v (.int .i64 (p1.length : Int))), (11, .v (.int .i64 v4)), (12, .v (.bool (decide (v4 < (p1.length : Int)))))], []⟩) (C := True) (by kernel_rfl) trivial trivial ?_
    refine AX.seq ?_
    rcases bool_cases (decide (v4 < (p1.length : Int))) with b1 | b1
    · replace h := cd_t b1 h
      refine AX.condT (decide (v4 < (p1.length : Int))) (by kernel_rfl) b1 ?_
      refine AX.skip ?_
      refine AX.seq ?_
      refine AX.block ?_
      refine AX.seq ?_
      obtain ⟨g2, h⟩ := gd_e h
      refine AX.reg (its := [.auto {}, .auto { y := some (.be 2 (enc_si (gt p1 v4)) 0) }, .auto {}, .auto { nk := 0 }]) [0, 1, 2, 7, 8, 9, 10, 11] [0] (s1 := ⟨[(0, .bs false 2 (List.map enc_si p1)), (1, .v (.int .i64 p2)), (2, .v (.int .i64 p3)), (7, .v (.int .i64 v4)), (8, .pt 0 0), (9, .bs false 2 (List.map enc_si p1)), (10, .v (.int .i64 (p1.length : Int))), (11, .v (.int .i64 v4))], [(0, .box [.v (.string ((gt p1 v4).1)), .v (.int .i64 ((gt p1 v4).2))])]⟩) (C := ((0 ≤ v4 ∧ v4 < ((List.map enc_si p1).length : Int)) ∧ (AV.be 2 ((List.map enc_si p1).getD v4.toNat []) 0 = AV.be 2 (enc_si (gt p1 v4)) 0)) ∧ True) (by kernel_rfl) ⟨idx_bs enc_si p1 v4 2 g2, trivial⟩ trivial ?_
      refine AX.seq ?_
      obtain ⟨x5, e3, h⟩ := bd_e h
      rcases bool_cases ((!x5)) with b4 | b4
      · replace h := cd_t b4 h
        refine AX.drw mixed (its := [.auto {}, .auto {}, .call 169 [.v (.string ((gt p1 v4).1))] (handO (rho ([] ++ [])) [] [] ++ []) (callEv [] [] (.v (.bool x5)) []), .auto { y := some (.v (.bool true)) }]) [0, 1, 2, 9, 10, 11, 36] [] (s1 := ⟨[(0, .bs false 2 (List.map enc_si p1)), (1, .v (.int .i64 p2)), (2, .v (.int .i64 p3)), (9, .bs false 2 (List.map enc_si p1)), (10, .v (.int .i64 (p1.length : Int))), (11, .v (.int .i64 v4)), (36, .v (.bool true))], []⟩) (C := ((([.v (.string ((gt p1 v4).1))] : List AV) = [.v (.string ((gt p1 v4).1))]) ∧ True) ∧ ((True) ∧ ((.v (.bool (!x5)) : AV) = (.v (.bool true) : AV))) ∧ True) (by kernel_rfl) ⟨⟨rfl, trivial⟩, ⟨⟨trivial, (congrArg (fun z => AV.v (.bool z)) b4)⟩, trivial⟩⟩ ⟨call_ok (ks := []) (ns := []) (bor := []) (bobjs := []) (s_impl_ValidName ((gt p1 v4).1) x5 e3) (.cons (.c1 (.c0 (.same _ (by kernel_rfl) (by kernel_rfl)))) (.nil)) (by kernel_rfl) trivial, trivial⟩ ?_
        refine AX.cond_true (by kernel_rfl) ?_
        refine AX.seq ?_
        refine AX.reg (its := []) [6] [] (s1 := ⟨[(6, .v (.bool false))], []⟩) (C := True) (by kernel_rfl) trivial trivial ?_
        refine AX.ret ?_
        refine fin_wk (Wk.forget [6] [] (s' := ⟨[(6, .v (.bool false))], []⟩) (by kernel_rfl)) ?_
        have hr := Option.some.inj h
        subst hr
        exact ⟨_, Wk.refl _, .inl ⟨(), rfl, rfl, rfl⟩⟩
      · replace h := cd_f b4 h
        obtain ⟨x6, e5, h⟩ := bd_e h
        rcases bool_cases ((!x6)) with b6 | b6
        · replace h := cd_t b6 h
          refine AX.drw mixed (its := [.auto {}, .auto {}, .call 169 [.v (.string ((gt p1 v4).1))] (handO (rho ([] ++ [])) [] [] ++ []) (callEv [] [] (.v (.bool x5)) []), .auto { y := some (.v (.bool false)) }, .auto {}, .auto {}, .auto {}, .auto {}, .auto {}, .call 130 [.v (.int .i64 ((gt p1 v4).2)), .v (.int .i64 p2), .v (.int .i64 p3)] (handO (rho ([] ++ [])) [] [] ++ []) (callEv [] [] (.v (.bool x6)) []), .auto { y := some (.v (.bool true)) }]) [0, 1, 2, 9, 10, 11, 36] [] (s1 := ⟨[(0, .bs false 2 (List.map enc_si p1)), (1, .v (.int .i64 p2)), (2, .v (.int .i64 p3)), (9, .bs false 2 (List.map enc_si p1)), (10, .v (.int .i64 (p1.length : Int))), (11, .v (.int .i64 v4)), (36, .v (.bool true))], []⟩) (C := ((([.v (.string ((gt p1 v4).1))] : List AV) = [.v (.string ((gt p1 v4).1))]) ∧ True) ∧ ((True) ∧ ((.v (.bool (!x5)) : AV) = (.v (.bool false) : AV))) ∧ ((([.v (.int .i64 ((gt p1 v4).2)), .v (.int .i64 p2), .v (.int .i64 p3)] : List AV) = [.v (.int .i64 ((gt p1 v4).2)), .v (.int .i64 p2), .v (.int .i64 p3)]) ∧ True) ∧ ((True) ∧ ((.v (.bool (!x6)) : AV) = (.v (.bool true) : AV))) ∧ True) (by kernel_rfl) ⟨⟨rfl, trivial⟩, ⟨⟨trivial, (congrArg (fun z => AV.v (.bool z)) b4)⟩, ⟨⟨rfl, trivial⟩, ⟨⟨trivial, (congrArg (fun z => AV.v (.bool z)) b6)⟩, trivial⟩⟩⟩⟩ ⟨call_ok (ks := []) (ns := []) (bor := []) (bobjs := []) (s_impl_ValidName ((gt p1 v4).1) x5 e3) (.cons (.c1 (.c0 (.same _ (by kernel_rfl) (by kernel_rfl)))) (.nil)) (by kernel_rfl) trivial, ⟨call_ok (ks := []) (ns := []) (bor := []) (bobjs := []) (s_impl_in ((gt p1 v4).2) p2 p3 x6 e5) (.cons (.c1 (.c0 (.same _ (by kernel_rfl) (by kernel_rfl)))) (.cons (.c1 (.c0 (.same _ (by kernel_rfl) (by kernel_rfl)))) (.cons (.c1 (.c0 (.same _ (by kernel_rfl) (by kernel_rfl)))) (.nil)))) (by kernel_rfl) trivial, trivial⟩⟩ ?_
          refine AX.cond_true (by kernel_rfl) ?_
          refine AX.seq ?_
          refine AX.reg (its := []) [6] [] (s1 := ⟨[(6, .v (.bool false))], []⟩) (C := True) (by kernel_rfl) trivial trivial ?_
          refine AX.ret ?_
          refine fin_wk (Wk.forget [6] [] (s' := ⟨[(6, .v (.bool false))], []⟩) (by kernel_rfl)) ?_
          have hr := Option.some.inj h
          subst hr
          exact ⟨_, Wk.refl _, .inl ⟨(), rfl, rfl, rfl⟩⟩
        · replace h := cd_f b6 h
          obtain ⟨g7, h⟩ := gd_e h
          obtain ⟨x7, e8, h⟩ := bd_e h
          refine AX.drw mixed (its := [.auto {}, .auto {}, .call 169 [.v (.string ((gt p1 v4).1))] (handO (rho ([] ++ [])) [] [] ++ []) (callEv [] [] (.v (.bool x5)) []), .auto { y := some (.v (.bool false)) }, .auto {}, .auto {}, .auto {}, .auto {}, .auto {}, .call 130 [.v (.int .i64 ((gt p1 v4).2)), .v (.int .i64 p2), .v (.int .i64 p3)] (handO (rho ([] ++ [])) [] [] ++ []) (callEv [] [] (.v (.bool x6)) []), .auto { y := some (.v (.bool false)) }, .auto {}, .auto {}, .auto {}, .auto {}, .auto { y := some (.bs false 2 (List.map enc_si (sub p1 (0 : Int) v4))) }, .auto {}, .auto {}, .call 131 [.bs false 2 (List.map enc_si (sub p1 (0 : Int) v4)), .v (.string ((gt p1 v4).1))] (handO (rho ([] ++ [])) [] [] ++ []) (callEv [] [] (.v (.int .i64 x7)) [])]) [0, 1, 2, 9, 10, 11, 36] [] (s1 := ⟨[(0, .bs false 2 (List.map enc_si p1)), (1, .v (.int .i64 p2)), (2, .v (.int .i64 p3)), (9, .bs false 2 (List.map enc_si p1)), (10, .v (.int .i64 (p1.length : Int))), (11, .v (.int .i64 v4)), (36, .v (.bool (decide (0 ≤ x7))))], []⟩) (C := ((([.v (.string ((gt p1 v4).1))] : List AV) = [.v (.string ((gt p1 v4).1))]) ∧ True) ∧ ((True) ∧ ((.v (.bool (!x5)) : AV) = (.v (.bool false) : AV))) ∧ ((([.v (.int .i64 ((gt p1 v4).2)), .v (.int .i64 p2), .v (.int .i64 p3)] : List AV) = [.v (.int .i64 ((gt p1 v4).2)), .v (.int .i64 p2), .v (.int .i64 p3)]) ∧ True) ∧ ((True) ∧ ((.v (.bool (!x6)) : AV) = (.v (.bool false) : AV))) ∧ ((0 ≤ (0 : Int) ∧ (0 : Int) ≤ v4 ∧ v4 ≤ ((List.map enc_si p1).length : Int) ∧ ((List.map enc_si p1).length : Int) ≤ ((List.map enc_si p1).length : Int)) ∧ (AV.bs false 2 (((List.map enc_si p1).drop (0 : Int).toNat).take (v4.toNat - (0 : Int).toNat)) = (.bs false 2 (List.map enc_si (sub p1 (0 : Int) v4)) : AV))) ∧ ((([.bs false 2 (List.map enc_si (sub p1 (0 : Int) v4)), .v (.string ((gt p1 v4).1))] : List AV) = [.bs false 2 (List.map enc_si (sub p1 (0 : Int) v4)), .v (.string ((gt p1 v4).1))]) ∧ True) ∧ True) (by kernel_rfl) ⟨⟨rfl, trivial⟩, ⟨⟨trivial, (congrArg (fun z => AV.v (.bool z)) b4)⟩, ⟨⟨rfl, trivial⟩, ⟨⟨trivial, (congrArg (fun z => AV.v (.bool z)) b6)⟩, ⟨⟨by first | exact g7 | simpa only [List.length_map] using g7, by first | exact sub_can enc_si p1 (0 : Int) v4 false 2 | (simp only [List.length_map]; exact sub_can enc_si p1 (0 : Int) v4 false 2)⟩, ⟨⟨rfl, trivial⟩, trivial⟩⟩⟩⟩⟩⟩ ⟨call_ok (ks := []) (ns := []) (bor := []) (bobjs := []) (s_impl_ValidName ((gt p1 v4).1) x5 e3) (.cons (.c1 (.c0 (.same _ (by kernel_rfl) (by kernel_rfl)))) (.nil)) (by kernel_rfl) trivial, ⟨call_ok (ks := []) (ns := []) (bor := []) (bobjs := []) (s_impl_in ((gt p1 v4).2) p2 p3 x6 e5) (.cons (.c1 (.c0 (.same _ (by kernel_rfl) (by kernel_rfl)))) (.cons (.c1 (.c0 (.same _ (by kernel_rfl) (by kernel_rfl)))) (.cons (.c1 (.c0 (.same _ (by kernel_rfl) (by kernel_rfl)))) (.nil)))) (by kernel_rfl) trivial, ⟨call_ok (ks := []) (ns := []) (bor := []) (bobjs := []) (s_impl_named (sub p1 (0 : Int) v4) ((gt p1 v4).1) x7 e8) (.cons (.c1 (.c0 (.same _ (by kernel_rfl) (by kernel_rfl)))) (.cons (.c1 (.c0 (.same _ (by kernel_rfl) (by kernel_rfl)))) (.nil))) (by kernel_rfl) trivial, trivial⟩⟩⟩ ?_
          rcases bool_cases (decide (0 ≤ x7)) with b9 | b9
          · replace h := cd_t b9 h
            refine AX.condT (decide (0 ≤ x7)) (by kernel_rfl) b9 ?_
            refine AX.seq ?_
            refine AX.reg (its := []) [6] [] (s1 := ⟨[(6, .v (.bool false))], []⟩) (C := True) (by kernel_rfl) trivial trivial ?_
            refine AX.ret ?_
            refine fin_wk (Wk.forget [6] [] (s' := ⟨[(6, .v (.bool false))], []⟩) (by kernel_rfl)) ?_
            have hr := Option.some.inj h
            subst hr
            exact ⟨_, Wk.refl _, .inl ⟨(), rfl, rfl, rfl⟩⟩
          · replace h := cd_f b9 h
            refine AX.condF (decide (0 ≤ x7)) (by kernel_rfl) b9 ?_
            refine AX.skip ?_
            refine AX.reg (its := [.auto { raw := true }]) [0, 1, 2, 9, 10, 11] [] (s1 := ⟨[(0, .bs false 2 (List.map enc_si p1)), (1, .v (.int .i64 p2)), (2, .v (.int .i64 p3)), (9, .bs false 2 (List.map enc_si p1)), (10, .v (.int .i64 (p1.length : Int))), (11, .v (.int .i64 (IntKind.wrap .i64 (v4 + 1))))], []⟩) (C := True) (by kernel_rfl) trivial trivial ?_
            refine ⟨(fu, IntKind.wrap .i64 (v4 + 1)), h, Nat.lt_succ_self _, ?_⟩
            refine Wk.trans (Wk.forget [0, 1, 2, 9, 10, 11] [] (s' := ⟨[(0, .bs false 2 (List.map enc_si p1)), (1, .v (.int .i64 p2)), (2, .v (.int .i64 p3)), (9, .bs false 2 (List.map enc_si p1)), (10, .v (.int .i64 (p1.length : Int))), (11, .v (.int .i64 (IntKind.wrap .i64 (v4 + 1))))], []⟩) (by kernel_rfl)) ?_
            exact Wk.refl _
    · replace h := cd_f b1 h
      refine AX.condF (decide (v4 < (p1.length : Int))) (by kernel_rfl) b1 ?_
      refine AX.exit ?_
      refine fin_wk (Wk.forget [0] [] (s' := ⟨[(0, .bs false 2 (List.map enc_si p1))], []⟩) (by kernel_rfl)) ?_
      have hr := Option.some.inj h
      subst hr
      exact ⟨_, Wk.refl _, .inr ⟨(), rfl, rfl, rfl⟩⟩

theorem s_impl_defsValid (p1 : List (ByteArray × Int)) (p2 : Int) (p3 : Int) (r : Bool) (h : m_impl_defsValid p1 p2 p3 = some r) :
    Eng.Spec Try.prog 129 [.bs false 2 (List.map enc_si p1), .v (.int .i64 p2), .v (.int .i64 p3)] [] (.v (.bool r)) [] := by
  unfold m_impl_defsValid at h
  refine Eng.Spec.body Try.func129 (by kernel_rfl) rfl (by kernel_rfl) ?_
  refine AX.wkpost ?_
  refine AX.seq ?_
  refine AX.reg (its := []) [0, 1, 2] [] (s1 := ⟨[(0, .bs false 2 (List.map enc_si p1)), (1, .v (.int .i64 p2)), (2, .v (.int .i64 p3))], []⟩) (C := True) (by kernel_rfl) trivial trivial ?_
  refine AX.seq ?_
  refine AX.seq ?_
  refine AX.reg (its := [.auto {}, .auto { y := some (.v (.int .i64 (p1.length : Int))) }]) [0, 1, 2, 9, 10, 11] [] (s1 := ⟨[(0, .bs false 2 (List.map enc_si p1)), (1, .v (.int .i64 p2)), (2, .v (.int .i64 p3)), (9, .bs false 2 (List.map enc_si p1)), (10, .v (.int .i64 (p1.length : Int))), (11, .v (.int .i64 0))], []⟩) (C := (True ∧ (AV.v (.int .i64 ((List.map enc_si p1).length : Int)) = AV.v (.int .i64 (p1.length : Int)))) ∧ True) (by kernel_rfl) ⟨⟨trivial, len_map enc_si p1⟩, trivial⟩ trivial ?_
  refine AX.block ?_
  obtain ⟨x8, e10, h⟩ := bd_e h
  refine AX.wk (Wk.forget [0, 1, 2, 9, 10, 11] [] (s' := ⟨[(0, .bs false 2 (List.map enc_si p1)), (1, .v (.int .i64 p2)), (2, .v (.int .i64 p3)), (9, .bs false 2 (List.map enc_si p1)), (10, .v (.int .i64 (p1.length : Int))), (11, .v (.int .i64 0))], []⟩) (by kernel_rfl)) ?_
  refine AX.mono (s_impl_defsValid_L1 p1 p2 p3 FU 0 x8 e10) ?_
  rintro _ _ (⟨x9, rfl, rfl, rfl⟩ | ⟨x10, rfl, rfl, rfl⟩)
  · replace h := sm_l h
    refine fin_wk (Wk.forget [6] [] (s' := ⟨[(6, .v (.bool false))], []⟩) (by kernel_rfl)) ?_
    have hr := Option.some.inj h
    subst hr
    exact ⟨_, Wk.refl _, .inr rfl, ⟨[], by kernel_rfl, trivial, [.v (.bool false)], by kernel_rfl, by kernel_rfl⟩⟩
  · replace h := sm_r h
    refine AX.seq ?_
    refine AX.reg (its := [.auto {}, .auto { y := some (.v (.int .i64 (p1.length : Int))) }]) [6] [] (s1 := ⟨[(6, .v (.bool (decide ((p1.length : Int) ≤ 12))))], []⟩) (C := (True ∧ (AV.v (.int .i64 ((List.map enc_si p1).length : Int)) = AV.v (.int .i64 (p1.length : Int)))) ∧ True) (by kernel_rfl) ⟨⟨trivial, len_map enc_si p1⟩, trivial⟩ trivial ?_
    refine AX.ret ?_
    refine fin_wk (Wk.forget [6] [] (s' := ⟨[(6, .v (.bool (decide ((p1.length : Int) ≤ 12))))], []⟩) (by kernel_rfl)) ?_
    have hr := Option.some.inj h
    subst hr
    exact ⟨_, Wk.refl _, .inr rfl, ⟨[], by kernel_rfl, trivial, [.v (.bool (decide ((p1.length : Int) ≤ 12)))], by kernel_rfl, by kernel_rfl⟩⟩

theorem s_impl_ValidFlag (p1 : List (ByteArray × Int)) (p2 : Int) (r : Bool) (h : m_impl_ValidFlag p1 p2 = some r) :
    Eng.Spec Try.prog 60 [.agg [.bs false 2 (List.map enc_si p1), .v (.int .i64 p2)]] [] (.v (.bool r)) [] := by
  unfold m_impl_ValidFlag at h
  refine Eng.Spec.body Try.func60 (by kernel_rfl) rfl (by kernel_rfl) ?_
  refine AX.wkpost ?_
  refine AX.seq ?_
  refine AX.reg (its := [.auto { nk := 0 }]) [1] [0] (s1 := ⟨[(1, .pt 0 0)], [(0, .box [.bs false 2 (List.map enc_si p1), .v (.int .i64 p2)])]⟩) (C := True) (by kernel_rfl) trivial trivial ?_
  refine AX.seq ?_
  obtain ⟨x3, e1, h⟩ := bd_e h
  rcases bool_cases (x3) with b2 | b2
  · replace h := cd_t b2 h
    obtain ⟨x4, e3, h⟩ := bd_e h
    refine AX.reg (its := [.auto {}, .auto {}, .call 129 [.bs false 2 (List.map enc_si p1), .v (.int .i64 0), .v (.int .i64 4095)] (handO (rho ([] ++ [])) [] [] ++ []) (callEv [] [] (.v (.bool true)) []), .auto {}, .auto {}, .auto {}, .call 130 [.v (.int .i64 p2), .v (.int .i64 0), .v (.int .i64 3)] (handO (rho ([] ++ [])) [] [] ++ []) (callEv [] [] (.v (.bool x4)) [])]) [2] [] (s1 := ⟨[(2, .v (.bool x4))], []⟩) (C := ((([.bs false 2 (List.map enc_si p1), .v (.int .i64 0), .v (.int .i64 4095)] : List AV) = [.bs false 2 (List.map enc_si p1), .v (.int .i64 0), .v (.int .i64 4095)]) ∧ True) ∧ ((([.v (.int .i64 p2), .v (.int .i64 0), .v (.int .i64 3)] : List AV) = [.v (.int .i64 p2), .v (.int .i64 0), .v (.int .i64 3)]) ∧ True) ∧ True) (by kernel_rfl) ⟨⟨rfl, trivial⟩, ⟨⟨rfl, trivial⟩, trivial⟩⟩ ⟨call_ok (ks := []) (ns := []) (bor := []) (bobjs := []) (show Eng.Spec Try.prog 129 [.bs false 2 (List.map enc_si p1), .v (.int .i64 0), .v (.int .i64 4095)] [] (.v (.bool true)) [] from by have q := s_impl_defsValid p1 0 4095 x3 e1; rw [b2] at q; exact q) (.cons (.c1 (.c0 (.same _ (by kernel_rfl) (by kernel_rfl)))) (.cons (.c1 (.c0 (.same _ (by kernel_rfl) (by kernel_rfl)))) (.cons (.c1 (.c0 (.same _ (by kernel_rfl) (by kernel_rfl)))) (.nil)))) (by kernel_rfl) trivial, ⟨call_ok (ks := []) (ns := []) (bor := []) (bobjs := []) (s_impl_in p2 0 3 x4 e3) (.cons (.c1 (.c0 (.same _ (by kernel_rfl) (by kernel_rfl)))) (.cons (.c1 (.c0 (.same _ (by kernel_rfl) (by kernel_rfl)))) (.cons (.c1 (.c0 (.same _ (by kernel_rfl) (by kernel_rfl)))) (.nil)))) (by kernel_rfl) trivial, trivial⟩⟩ ?_
    refine AX.ret ?_
    refine fin_wk (Wk.forget [2] [] (s' := ⟨[(2, .v (.bool x4))], []⟩) (by kernel_rfl)) ?_
    have hr := Option.some.inj h
    subst hr
    exact ⟨_, Wk.refl _, .inr rfl, ⟨[], by kernel_rfl, trivial, [.v (.bool x4)], by kernel_rfl, by kernel_rfl⟩⟩
  · replace h := cd_f b2 h
    refine AX.reg (its := [.auto {}, .auto {}, .call 129 [.bs false 2 (List.map enc_si p1), .v (.int .i64 0), .v (.int .i64 4095)] (handO (rho ([] ++ [])) [] [] ++ []) (callEv [] [] (.v (.bool false)) [])]) [2] [] (s1 := ⟨[(2, .v (.bool false))], []⟩) (C := ((([.bs false 2 (List.map enc_si p1), .v (.int .i64 0), .v (.int .i64 4095)] : List AV) = [.bs false 2 (List.map enc_si p1), .v (.int .i64 0), .v (.int .i64 4095)]) ∧ True) ∧ True) (by kernel_rfl) ⟨⟨rfl, trivial⟩, trivial⟩ ⟨call_ok (ks := []) (ns := []) (bor := []) (bobjs := []) (show Eng.Spec Try.prog 129 [.bs false 2 (List.map enc_si p1), .v (.int .i64 0), .v (.int .i64 4095)] [] (.v (.bool false)) [] from by have q := s_impl_defsValid p1 0 4095 x3 e1; rw [b2] at q; exact q) (.cons (.c1 (.c0 (.same _ (by kernel_rfl) (by kernel_rfl)))) (.cons (.c1 (.c0 (.same _ (by kernel_rfl) (by kernel_rfl)))) (.cons (.c1 (.c0 (.same _ (by kernel_rfl) (by kernel_rfl)))) (.nil)))) (by kernel_rfl) trivial, trivial⟩ ?_
    refine AX.ret ?_
    refine fin_wk (Wk.forget [2] [] (s' := ⟨[(2, .v (.bool false))], []⟩) (by kernel_rfl)) ?_
    have hr := Option.some.inj h
    subst hr
    exact ⟨_, Wk.refl _, .inr rfl, ⟨[], by kernel_rfl, trivial, [.v (.bool false)], by kernel_rfl, by kernel_rfl⟩⟩

theorem s_impl_Flag_mask_L1 (p1 : List (ByteArray × Int)) (n : Nat) (g : Int × Int) (out : Int) (h : m_impl_Flag_mask_L1 p1 n g.1 g.2 = some out) :
    AX Try.prog 19 0 (codeAt [1, 1, 0, 1, 1] (bodyOf Try.f81)) ((fun g : Int × Int => (⟨[(3, .v (.int .i64 g.1)), (7, .bs false 2 (List.map enc_si p1)), (8, .v (.int .i64 (p1.length : Int))), (9, .v (.int .i64 g.2))], []⟩ : S)) g) (fun ex s => ex = .exit 0 ∧ s = (fun o : Int => (⟨[(3, .v (.int .i64 o))], []⟩ : S)) out) := by
  refine AX.wkpost ?_
  refine AX.loop (G := Nat × (Int × Int)) (fun q => (fun g : Int × Int => (⟨[(3, .v (.int .i64 g.1)), (7, .bs false 2 (List.map enc_si p1)), (8, .v (.int .i64 (p1.length : Int))), (9, .v (.int .i64 g.2))], []⟩ : S)) q.2) (fun q => m_impl_Flag_mask_L1 p1 q.1 q.2.1 q.2.2 = some out) (fun q => q.1) (n, g) h (Wk.refl _) ?_
  clear h
  rintro ⟨fu, v3, v4⟩ h
  cases fu with
  | zero => cases h
  | succ fu =>
    rw [m_impl_Flag_mask_L1] at h
    refine AX.seq ?_
    refine AX.reg (its := []) [3, 7, 8, 9, 10] [] (s1 := ⟨[(3, .v (.int .i64 v3)), (7, .bs false 2 (List.map enc_si p1)), (8, .v (.int .i64 (p1.length : Int))), (9, .v (.int .i64 v4)), (10, .v (.bool (decide (v4 < (p1.length : Int)))))], []⟩) (C := True) (by kernel_rfl) trivial trivial ?_
    refine AX.seq ?_
    rcases bool_cases (decide (v4 < (p1.length : Int))) with b1 | b1
    · replace h := cd_t b1 h
      refine AX.condT (decide (v4 < (p1.length : Int))) (by kernel_rfl) b1 ?_
      refine AX.skip ?_
      refine AX.seq ?_
      refine AX.block ?_
      refine AX.seq ?_
      obtain ⟨g2, h⟩ := gd_e h
      refine AX.reg (its := [.auto { y := some (.be 2 (enc_si (gt p1 v4)) 0) }, .auto {}, .auto { nk := 0 }]) [3, 5, 7, 8, 9] [0] (s1 := ⟨[(3, .v (.int .i64 v3)), (5, .pt 0 0), (7, .bs false 2 (List.map enc_si p1)), (8, .v (.int .i64 (p1.length : Int))), (9, .v (.int .i64 v4))], [(0, .box [.v (.string ((gt p1 v4).1)), .v (.int .i64 ((gt p1 v4).2))])]⟩) (C := ((0 ≤ v4 ∧ v4 < ((List.map enc_si p1).length : Int)) ∧ (AV.be 2 ((List.map enc_si p1).getD v4.toNat []) 0 = AV.be 2 (enc_si (gt p1 v4)) 0)) ∧ True) (by kernel_rfl) ⟨idx_bs enc_si p1 v4 2 g2, trivial⟩ trivial ?_
      refine AX.reg (its := []) [3, 7, 8, 9] [] (s1 := ⟨[(3, .v (.int .i64 (Go.bits .or .i64 v3 ((gt p1 v4).2)))), (7, .bs false 2 (List.map enc_si p1)), (8, .v (.int .i64 (p1.length : Int))), (9, .v (.int .i64 v4))], []⟩) (C := True) (by kernel_rfl) trivial trivial ?_
      refine AX.reg (its := [.auto { raw := true }]) [3, 7, 8, 9] [] (s1 := ⟨[(3, .v (.int .i64 (Go.bits .or .i64 v3 ((gt p1 v4).2)))), (7, .bs false 2 (List.map enc_si p1)), (8, .v (.int .i64 (p1.length : Int))), (9, .v (.int .i64 (IntKind.wrap .i64 (v4 + 1))))], []⟩) (C := True) (by kernel_rfl) trivial trivial ?_
      refine ⟨(fu, (Go.bits .or .i64 v3 ((gt p1 v4).2), IntKind.wrap .i64 (v4 + 1))), h, Nat.lt_succ_self _, ?_⟩
      refine Wk.trans (Wk.forget [3, 7, 8, 9] [] (s' := ⟨[(3, .v (.int .i64 (Go.bits .or .i64 v3 ((gt p1 v4).2)))), (7, .bs false 2 (List.map enc_si p1)), (8, .v (.int .i64 (p1.length : Int))), (9, .v (.int .i64 (IntKind.wrap .i64 (v4 + 1))))], []⟩) (by kernel_rfl)) ?_
      exact Wk.refl _
    · replace h := cd_f b1 h
      refine AX.condF (decide (v4 < (p1.length : Int))) (by kernel_rfl) b1 ?_
      refine AX.exit ?_
      refine fin_wk (Wk.forget [3] [] (s' := ⟨[(3, .v (.int .i64 v3))], []⟩) (by kernel_rfl)) ?_
      have hr := Option.some.inj h
      subst hr
      exact ⟨_, Wk.refl _, ⟨rfl, rfl⟩⟩

theorem s_impl_Flag_mask (p1 : List (ByteArray × Int)) (p2 : Int) (r : Int) (h : m_impl_Flag_mask p1 p2 = some r) :
    Eng.Spec Try.prog 81 [.agg [.bs false 2 (List.map enc_si p1), .v (.int .i64 p2)]] [] (.v (.int .i64 r)) [] := by
  unfold m_impl_Flag_mask at h
  refine Eng.Spec.body Try.func81 (by kernel_rfl) rfl (by kernel_rfl) ?_
  refine AX.wkpost ?_
  refine AX.seq ?_
  refine AX.reg (its := [.auto { nk := 0 }]) [1] [0] (s1 := ⟨[(1, .pt 0 0)], [(0, .box [.bs false 2 (List.map enc_si p1), .v (.int .i64 p2)])]⟩) (C := True) (by kernel_rfl) trivial trivial ?_
  refine AX.seq ?_
  refine AX.reg (its := []) [1, 3] [0] (s1 := ⟨[(1, .pt 0 0), (3, .v (.int .i64 0))], [(0, .box [.bs false 2 (List.map enc_si p1), .v (.int .i64 p2)])]⟩) (C := True) (by kernel_rfl) trivial trivial ?_
  refine AX.seq ?_
  refine AX.seq ?_
  refine AX.reg (its := [.auto {}, .auto {}, .auto { y := some (.v (.int .i64 (p1.length : Int))) }]) [3, 7, 8, 9] [] (s1 := ⟨[(3, .v (.int .i64 0)), (7, .bs false 2 (List.map enc_si p1)), (8, .v (.int .i64 (p1.length : Int))), (9, .v (.int .i64 0))], []⟩) (C := (True ∧ (AV.v (.int .i64 ((List.map enc_si p1).length : Int)) = AV.v (.int .i64 (p1.length : Int)))) ∧ True) (by kernel_rfl) ⟨⟨trivial, len_map enc_si p1⟩, trivial⟩ trivial ?_
  refine AX.block ?_
  obtain ⟨x5, e3, h⟩ := bd_e h
  refine AX.wk (Wk.forget [3, 7, 8, 9] [] (s' := ⟨[(3, .v (.int .i64 0)), (7, .bs false 2 (List.map enc_si p1)), (8, .v (.int .i64 (p1.length : Int))), (9, .v (.int .i64 0))], []⟩) (by kernel_rfl)) ?_
  refine AX.mono (s_impl_Flag_mask_L1 p1 FU (0, 0) x5 e3) ?_
  rintro _ _ ⟨rfl, rfl⟩
  skip
  refine AX.seq ?_
  refine AX.reg (its := []) [2] [] (s1 := ⟨[(2, .v (.int .i64 x5))], []⟩) (C := True) (by kernel_rfl) trivial trivial ?_
  refine AX.ret ?_
  refine fin_wk (Wk.forget [2] [] (s' := ⟨[(2, .v (.int .i64 x5))], []⟩) (by kernel_rfl)) ?_
  have hr := Option.some.inj h
  subst hr
  exact ⟨_, Wk.refl _, .inr rfl, ⟨[], by kernel_rfl, trivial, [.v (.int .i64 x5)], by kernel_rfl, by kernel_rfl⟩⟩

theorem s_impl_Arm_ok (p1 : Int) (p2 : Int) (p3 : List (ByteArray × Int)) (p4 : Int) (r : Bool) (h : m_impl_Arm_ok p1 p2 p3 p4 = some r) :
    Eng.Spec Try.prog 85 [.agg [.v (.int .i64 p1), .v (.int .i64 p2)], .agg [.bs false 2 (List.map enc_si p3), .v (.int .i64 p4)]] [] (.v (.bool r)) [] := by
  unfold m_impl_Arm_ok at h
  refine Eng.Spec.body Try.func85 (by kernel_rfl) rfl (by kernel_rfl) ?_
  refine AX.wkpost ?_
  refine AX.seq ?_
  refine AX.reg (its := [.auto { nk := 0 }, .auto { nk := 1 }]) [2, 3] [0, 1] (s1 := ⟨[(2, .pt 0 0), (3, .pt 1 0)], [(0, .box [.v (.int .i64 p1), .v (.int .i64 p2)]), (1, .box [.bs false 2 (List.map enc_si p3), .v (.int .i64 p4)])]⟩) (C := True) (by kernel_rfl) trivial trivial ?_
  refine AX.seq ?_
  obtain ⟨x5, e1, h⟩ := bd_e h
  obtain ⟨v6, q2, h⟩ := nm_e h
  rcases bool_cases (v6) with b3 | b3
  · replace h := cd_t b3 h
    refine AX.drw mixed (its := [.auto {}, .auto {}, .auto {}, .auto {}, .auto {}, .auto {}, .call 81 [.agg [.bs false 2 (List.map enc_si p3), .v (.int .i64 p4)]] (handO (rho ([] ++ [])) [] [] ++ []) (callEv [] [] (.v (.int .i64 x5)) []), .auto {}, .auto { y := some (.v (.bool v6)) }, .auto { y := some (.v (.bool true)) }]) [4] [] (s1 := ⟨[(4, .v (.bool (decide ((Go.bits .and .i64 p1 p2) = 0))))], []⟩) (C := ((([.agg [.bs false 2 (List.map enc_si p3), .v (.int .i64 p4)]] : List AV) = [.agg [.bs false 2 (List.map enc_si p3), .v (.int .i64 p4)]]) ∧ True) ∧ ((True) ∧ ((.v (.bool (decide ((Go.bits .andNot .i64 (Go.bits .or .i64 p1 p2) x5) = 0))) : AV) = (.v (.bool v6) : AV))) ∧ ((True) ∧ ((.v (.bool v6) : AV) = (.v (.bool true) : AV))) ∧ True) (by kernel_rfl) ⟨⟨rfl, trivial⟩, ⟨⟨trivial, (congrArg (fun z => AV.v (.bool z)) q2)⟩, ⟨⟨trivial, (congrArg (fun z => AV.v (.bool z)) b3)⟩, trivial⟩⟩⟩ ⟨call_ok (ks := []) (ns := []) (bor := []) (bobjs := []) (s_impl_Flag_mask p3 p4 x5 e1) (.cons (.c1 (.agg (.cons (.same _ (by kernel_rfl) (by kernel_rfl)) (.cons (.same _ (by kernel_rfl) (by kernel_rfl)) (.nil))))) (.nil)) (by kernel_rfl) trivial, trivial⟩ ?_
    refine AX.ret ?_
    refine fin_wk (Wk.forget [4] [] (s' := ⟨[(4, .v (.bool (decide ((Go.bits .and .i64 p1 p2) = 0))))], []⟩) (by kernel_rfl)) ?_
    have hr := Option.some.inj h
    subst hr
    exact ⟨_, Wk.refl _, .inr rfl, ⟨[], by kernel_rfl, trivial, [.v (.bool (decide ((Go.bits .and .i64 p1 p2) = 0)))], by kernel_rfl, by kernel_rfl⟩⟩
  · replace h := cd_f b3 h
    refine AX.drw mixed (its := [.auto {}, .auto {}, .auto {}, .auto {}, .auto {}, .auto {}, .call 81 [.agg [.bs false 2 (List.map enc_si p3), .v (.int .i64 p4)]] (handO (rho ([] ++ [])) [] [] ++ []) (callEv [] [] (.v (.int .i64 x5)) []), .auto {}, .auto { y := some (.v (.bool v6)) }, .auto { y := some (.v (.bool false)) }]) [4] [] (s1 := ⟨[(4, .v (.bool false))], []⟩) (C := ((([.agg [.bs false 2 (List.map enc_si p3), .v (.int .i64 p4)]] : List AV) = [.agg [.bs false 2 (List.map enc_si p3), .v (.int .i64 p4)]]) ∧ True) ∧ ((True) ∧ ((.v (.bool (decide ((Go.bits .andNot .i64 (Go.bits .or .i64 p1 p2) x5) = 0))) : AV) = (.v (.bool v6) : AV))) ∧ ((True) ∧ ((.v (.bool v6) : AV) = (.v (.bool false) : AV))) ∧ True) (by kernel_rfl) ⟨⟨rfl, trivial⟩, ⟨⟨trivial, (congrArg (fun z => AV.v (.bool z)) q2)⟩, ⟨⟨trivial, (congrArg (fun z => AV.v (.bool z)) b3)⟩, trivial⟩⟩⟩ ⟨call_ok (ks := []) (ns := []) (bor := []) (bobjs := []) (s_impl_Flag_mask p3 p4 x5 e1) (.cons (.c1 (.agg (.cons (.same _ (by kernel_rfl) (by kernel_rfl)) (.cons (.same _ (by kernel_rfl) (by kernel_rfl)) (.nil))))) (.nil)) (by kernel_rfl) trivial, trivial⟩ ?_
    refine AX.ret ?_
    refine fin_wk (Wk.forget [4] [] (s' := ⟨[(4, .v (.bool false))], []⟩) (by kernel_rfl)) ?_
    have hr := Option.some.inj h
    subst hr
    exact ⟨_, Wk.refl _, .inr rfl, ⟨[], by kernel_rfl, trivial, [.v (.bool false)], by kernel_rfl, by kernel_rfl⟩⟩

theorem s_impl_armsOk_1_l (p1 : Int) (p2 : Int) (p3 : List (ByteArray × Int)) (p4 : Int) (r : Bool) (h : m_impl_armsOk_1_l p1 p2 p3 p4 = some r) :
    Eng.Spec Try.prog 153 [.agg [.v (.int .i64 p1), .v (.int .i64 p2)], .bp [.bs false 2 (List.map enc_si p3), .v (.int .i64 p4)] 0] [] (.v (.bool r)) [] := by
  unfold m_impl_armsOk_1_l at h
  refine Eng.Spec.body Try.func153 (by kernel_rfl) rfl (by kernel_rfl) ?_
  refine AX.wkpost ?_
  refine AX.seq ?_
  refine AX.reg (its := [.auto { nk := 0 }]) [1, 2] [0] (s1 := ⟨[(1, .bp [.bs false 2 (List.map enc_si p3), .v (.int .i64 p4)] 0), (2, .pt 0 0)], [(0, .box [.v (.int .i64 p1), .v (.int .i64 p2)])]⟩) (C := True) (by kernel_rfl) trivial trivial ?_
  refine AX.seq ?_
  obtain ⟨x5, e1, h⟩ := bd_e h
  refine AX.reg (its := [.auto {}, .auto {}, .call 85 [.agg [.v (.int .i64 p1), .v (.int .i64 p2)], .agg [.bs false 2 (List.map enc_si p3), .v (.int .i64 p4)]] (handO (rho ([] ++ [])) [] [] ++ []) (callEv [] [] (.v (.bool x5)) [])]) [3] [] (s1 := ⟨[(3, .v (.bool (!x5)))], []⟩) (C := ((([.agg [.v (.int .i64 p1), .v (.int .i64 p2)], .agg [.bs false 2 (List.map enc_si p3), .v (.int .i64 p4)]] : List AV) = [.agg [.v (.int .i64 p1), .v (.int .i64 p2)], .agg [.bs false 2 (List.map enc_si p3), .v (.int .i64 p4)]]) ∧ True) ∧ True) (by kernel_rfl) ⟨⟨rfl, trivial⟩, trivial⟩ ⟨call_ok (ks := []) (ns := []) (bor := []) (bobjs := []) (s_impl_Arm_ok p1 p2 p3 p4 x5 e1) (.cons (.c1 (.agg (.cons (.same _ (by kernel_rfl) (by kernel_rfl)) (.cons (.same _ (by kernel_rfl) (by kernel_rfl)) (.nil))))) (.cons (.c1 (.agg (.cons (.same _ (by kernel_rfl) (by kernel_rfl)) (.cons (.same _ (by kernel_rfl) (by kernel_rfl)) (.nil))))) (.nil))) (by kernel_rfl) trivial, trivial⟩ ?_
  refine AX.ret ?_
  refine fin_wk (Wk.forget [3] [] (s' := ⟨[(3, .v (.bool (!x5)))], []⟩) (by kernel_rfl)) ?_
  have hr := Option.some.inj h
  subst hr
  exact ⟨_, Wk.refl _, .inr rfl, ⟨[], by kernel_rfl, trivial, [.v (.bool (!x5))], by kernel_rfl, by kernel_rfl⟩⟩

theorem s_slices_IndexFunc_ii_armsOk_1_lsi_L1 (p1 : List (Int × Int)) (p2 : List (ByteArray × Int)) (p3 : Int) (n : Nat) (g : Int) (out : Int ⊕ Unit) (h : m_slices_IndexFunc_ii_armsOk_1_lsi_L1 p1 p2 p3 n g = some out) :
    AX Try.prog 19 0 (codeAt [1, 0, 1, 1] (bodyOf Try.f147)) ((fun g : Int => (⟨[(0, .bs false 2 (List.map enc_ii p1)), (1, .fn 153 [.bp [.bs false 2 (List.map enc_si p2), .v (.int .i64 p3)] 0]), (7, .v (.int .i64 (p1.length : Int))), (8, .v (.int .i64 g))], []⟩ : S)) g) (fun ex s => (∃ o : Int, out = Sum.inl o ∧ ex = .ret ∧ s = ⟨[(4, .v (.int .i64 o))], []⟩) ∨ (∃ o : Unit, out = Sum.inr o ∧ ex = .exit 0 ∧ s = ⟨[], []⟩)) := by
  refine AX.wkpost ?_
  refine AX.loop (G := Nat × (Int)) (fun q => (fun g : Int => (⟨[(0, .bs false 2 (List.map enc_ii p1)), (1, .fn 153 [.bp [.bs false 2 (List.map enc_si p2), .v (.int .i64 p3)] 0]), (7, .v (.int .i64 (p1.length : Int))), (8, .v (.int .i64 g))], []⟩ : S)) q.2) (fun q => m_slices_IndexFunc_ii_armsOk_1_lsi_L1 p1 p2 p3 q.1 q.2 = some out) (fun q => q.1) (n, g) h (Wk.refl _) ?_
  clear h
  rintro ⟨fu, v4⟩ h
  cases fu with
  | zero => cases h
  | succ fu =>
    rw [m_slices_IndexFunc_ii_armsOk_1_lsi_L1] at h
    refine AX.seq ?_
    refine AX.reg (its := []) [0, 1, 7, 8, 9] [] (s1 := ⟨[(0, .bs false 2 (List.map enc_ii p1)), (1, .fn 153 [.bp [.bs false 2 (List.map enc_si p2), .v (.int .i64 p3)] 0]), (7, .v (.int .i64 (p1.length : Int))), (8, .v (.int .i64 v4)), (9, .v (.bool (decide (v4 < (p1.length : Int)))))], []⟩) (C := True) (by kernel_rfl) trivial trivial ?_
    refine AX.seq ?_
    rcases bool_cases (decide (v4 < (p1.length : Int))) with b1 | b1
    · replace h := cd_t b1 h
      refine AX.condT (decide (v4 < (p1.length : Int))) (by kernel_rfl) b1 ?_
      refine AX.skip ?_
      refine AX.seq ?_
      refine AX.block ?_
      refine AX.seq ?_
      refine AX.reg (its := []) [0, 1, 5, 7, 8] [] (s1 := ⟨[(0, .bs false 2 (List.map enc_ii p1)), (1, .fn 153 [.bp [.bs false 2 (List.map enc_si p2), .v (.int .i64 p3)] 0]), (5, .v (.int .i64 v4)), (7, .v (.int .i64 (p1.length : Int))), (8, .v (.int .i64 v4))], []⟩) (C := True) (by kernel_rfl) trivial trivial ?_
      refine AX.seq ?_
      obtain ⟨g2, h⟩ := gd_e h
      obtain ⟨x5, e3, h⟩ := bd_e h
      refine AX.reg (its := [.auto {}, .auto {}, .auto {}, .auto { y := some (.be 2 (enc_ii (gt p1 v4)) 0) }, .auto {}, .call 153 [.agg [.v (.int .i64 ((gt p1 v4).1)), .v (.int .i64 ((gt p1 v4).2))], .bp [.bs false 2 (List.map enc_si p2), .v (.int .i64 p3)] 0] (handO (rho ([] ++ [])) [] [] ++ []) (callEv [] [] (.v (.bool x5)) [])]) [0, 1, 5, 7, 8, 16] [] (s1 := ⟨[(0, .bs false 2 (List.map enc_ii p1)), (1, .fn 153 [.bp [.bs false 2 (List.map enc_si p2), .v (.int .i64 p3)] 0]), (5, .v (.int .i64 v4)), (7, .v (.int .i64 (p1.length : Int))), (8, .v (.int .i64 v4)), (16, .v (.bool x5))], []⟩) (C := ((0 ≤ v4 ∧ v4 < ((List.map enc_ii p1).length : Int)) ∧ (AV.be 2 ((List.map enc_ii p1).getD v4.toNat []) 0 = AV.be 2 (enc_ii (gt p1 v4)) 0)) ∧ ((([.agg [.v (.int .i64 ((gt p1 v4).1)), .v (.int .i64 ((gt p1 v4).2))], .bp [.bs false 2 (List.map enc_si p2), .v (.int .i64 p3)] 0] : List AV) = [.agg [.v (.int .i64 ((gt p1 v4).1)), .v (.int .i64 ((gt p1 v4).2))], .bp [.bs false 2 (List.map enc_si p2), .v (.int .i64 p3)] 0]) ∧ True) ∧ True) (by kernel_rfl) ⟨idx_bs enc_ii p1 v4 2 g2, ⟨⟨rfl, trivial⟩, trivial⟩⟩ ⟨call_ok (ks := []) (ns := []) (bor := []) (bobjs := []) (s_impl_armsOk_1_l ((gt p1 v4).1) ((gt p1 v4).2) p2 p3 x5 e3) (.cons (.c1 (.agg (.cons (.same _ (by kernel_rfl) (by kernel_rfl)) (.cons (.same _ (by kernel_rfl) (by kernel_rfl)) (.nil))))) (.cons (.c1 (.bp (.cons (.same _ (by kernel_rfl) (by kernel_rfl)) (.cons (.same _ (by kernel_rfl) (by kernel_rfl)) (.nil))))) (.nil))) (by kernel_rfl) trivial, trivial⟩ ?_
      rcases bool_cases (x5) with b4 | b4
      · replace h := cd_t b4 h
        refine AX.condT (x5) (by kernel_rfl) b4 ?_
        refine AX.seq ?_
        refine AX.reg (its := []) [4] [] (s1 := ⟨[(4, .v (.int .i64 v4))], []⟩) (C := True) (by kernel_rfl) trivial trivial ?_
        refine AX.ret ?_
        refine fin_wk (Wk.forget [4] [] (s' := ⟨[(4, .v (.int .i64 v4))], []⟩) (by kernel_rfl)) ?_
        have hr := Option.some.inj h
        subst hr
        exact ⟨_, Wk.refl _, .inl ⟨v4, rfl, rfl, rfl⟩⟩
      · replace h := cd_f b4 h
        refine AX.condF (x5) (by kernel_rfl) b4 ?_
        refine AX.skip ?_
        refine AX.reg (its := [.auto { raw := true }]) [0, 1, 7, 8] [] (s1 := ⟨[(0, .bs false 2 (List.map enc_ii p1)), (1, .fn 153 [.bp [.bs false 2 (List.map enc_si p2), .v (.int .i64 p3)] 0]), (7, .v (.int .i64 (p1.length : Int))), (8, .v (.int .i64 (IntKind.wrap .i64 (v4 + 1))))], []⟩) (C := True) (by kernel_rfl) trivial trivial ?_
        refine ⟨(fu, IntKind.wrap .i64 (v4 + 1)), h, Nat.lt_succ_self _, ?_⟩
        refine Wk.trans (Wk.forget [0, 1, 7, 8] [] (s' := ⟨[(0, .bs false 2 (List.map enc_ii p1)), (1, .fn 153 [.bp [.bs false 2 (List.map enc_si p2), .v (.int .i64 p3)] 0]), (7, .v (.int .i64 (p1.length : Int))), (8, .v (.int .i64 (IntKind.wrap .i64 (v4 + 1))))], []⟩) (by kernel_rfl)) ?_
        exact Wk.refl _
    · replace h := cd_f b1 h
      refine AX.condF (decide (v4 < (p1.length : Int))) (by kernel_rfl) b1 ?_
      refine AX.exit ?_
      refine fin_wk (Wk.forget [] [] (s' := ⟨[], []⟩) (by kernel_rfl)) ?_
      have hr := Option.some.inj h
      subst hr
      exact ⟨_, Wk.refl _, .inr ⟨(), rfl, rfl, rfl⟩⟩

theorem s_slices_IndexFunc_ii_armsOk_1_lsi (p1 : List (Int × Int)) (p2 : List (ByteArray × Int)) (p3 : Int) (r : Int) (h : m_slices_IndexFunc_ii_armsOk_1_lsi p1 p2 p3 = some r) :
    Eng.Spec Try.prog 147 [.bs false 2 (List.map enc_ii p1), .fn 153 [.bp [.bs false 2 (List.map enc_si p2), .v (.int .i64 p3)] 0]] [] (.v (.int .i64 r)) [] := by
  unfold m_slices_IndexFunc_ii_armsOk_1_lsi at h
  refine Eng.Spec.body Try.func147 (by kernel_rfl) rfl (by kernel_rfl) ?_
  refine AX.wkpost ?_
  refine AX.seq ?_
  refine AX.reg (its := []) [0, 1] [] (s1 := ⟨[(0, .bs false 2 (List.map enc_ii p1)), (1, .fn 153 [.bp [.bs false 2 (List.map enc_si p2), .v (.int .i64 p3)] 0])], []⟩) (C := True) (by kernel_rfl) trivial trivial ?_
  refine AX.seq ?_
  refine AX.seq ?_
  refine AX.reg (its := [.auto {}, .auto { y := some (.v (.int .i64 (p1.length : Int))) }]) [0, 1, 7, 8] [] (s1 := ⟨[(0, .bs false 2 (List.map enc_ii p1)), (1, .fn 153 [.bp [.bs false 2 (List.map enc_si p2), .v (.int .i64 p3)] 0]), (7, .v (.int .i64 (p1.length : Int))), (8, .v (.int .i64 0))], []⟩) (C := (True ∧ (AV.v (.int .i64 ((List.map enc_ii p1).length : Int)) = AV.v (.int .i64 (p1.length : Int)))) ∧ True) (by kernel_rfl) ⟨⟨trivial, len_map enc_ii p1⟩, trivial⟩ trivial ?_
  refine AX.block ?_
  obtain ⟨x6, e5, h⟩ := bd_e h
  refine AX.wk (Wk.forget [0, 1, 7, 8] [] (s' := ⟨[(0, .bs false 2 (List.map enc_ii p1)), (1, .fn 153 [.bp [.bs false 2 (List.map enc_si p2), .v (.int .i64 p3)] 0]), (7, .v (.int .i64 (p1.length : Int))), (8, .v (.int .i64 0))], []⟩) (by kernel_rfl)) ?_
  refine AX.mono (s_slices_IndexFunc_ii_armsOk_1_lsi_L1 p1 p2 p3 FU 0 x6 e5) ?_
  rintro _ _ (⟨x7, rfl, rfl, rfl⟩ | ⟨x8, rfl, rfl, rfl⟩)
  · replace h := sm_l h
    refine fin_wk (Wk.forget [4] [] (s' := ⟨[(4, .v (.int .i64 x7))], []⟩) (by kernel_rfl)) ?_
    have hr := Option.some.inj h
    subst hr
    exact ⟨_, Wk.refl _, .inr rfl, ⟨[], by kernel_rfl, trivial, [.v (.int .i64 x7)], by kernel_rfl, by kernel_rfl⟩⟩
  · replace h := sm_r h
    refine AX.seq ?_
    refine AX.reg (its := []) [4] [] (s1 := ⟨[(4, .v (.int .i64 (-1)))], []⟩) (C := True) (by kernel_rfl) trivial trivial ?_
    refine AX.ret ?_
    refine fin_wk (Wk.forget [4] [] (s' := ⟨[(4, .v (.int .i64 (-1)))], []⟩) (by kernel_rfl)) ?_
    have hr := Option.some.inj h
    subst hr
    exact ⟨_, Wk.refl _, .inr rfl, ⟨[], by kernel_rfl, trivial, [.v (.int .i64 (-1))], by kernel_rfl, by kernel_rfl⟩⟩

theorem s_slices_ContainsFunc_ii_armsOk_1_lsi (p1 : List (Int × Int)) (p2 : List (ByteArray × Int)) (p3 : Int) (r : Bool) (h : m_slices_ContainsFunc_ii_armsOk_1_lsi p1 p2 p3 = some r) :
    Eng.Spec Try.prog 89 [.bs false 2 (List.map enc_ii p1), .fn 153 [.bp [.bs false 2 (List.map enc_si p2), .v (.int .i64 p3)] 0]] [] (.v (.bool r)) [] := by
  unfold m_slices_ContainsFunc_ii_armsOk_1_lsi at h
  refine Eng.Spec.body Try.func89 (by kernel_rfl) rfl (by kernel_rfl) ?_
  refine AX.wkpost ?_
  refine AX.seq ?_
  refine AX.reg (its := []) [0, 1] [] (s1 := ⟨[(0, .bs false 2 (List.map enc_ii p1)), (1, .fn 153 [.bp [.bs false 2 (List.map enc_si p2), .v (.int .i64 p3)] 0])], []⟩) (C := True) (by kernel_rfl) trivial trivial ?_
  refine AX.seq ?_
  obtain ⟨x4, e1, h⟩ := bd_e h
  refine AX.reg (its := [.auto {}, .auto {}, .call 147 [.bs false 2 (List.map enc_ii p1), .fn 153 [.bp [.bs false 2 (List.map enc_si p2), .v (.int .i64 p3)] 0]] (handO (rho ([] ++ [])) [] [] ++ []) (callEv [] [] (.v (.int .i64 x4)) [])]) [4] [] (s1 := ⟨[(4, .v (.bool (decide (0 ≤ x4))))], []⟩) (C := ((([.bs false 2 (List.map enc_ii p1), .fn 153 [.bp [.bs false 2 (List.map enc_si p2), .v (.int .i64 p3)] 0]] : List AV) = [.bs false 2 (List.map enc_ii p1), .fn 153 [.bp [.bs false 2 (List.map enc_si p2), .v (.int .i64 p3)] 0]]) ∧ True) ∧ True) (by kernel_rfl) ⟨⟨rfl, trivial⟩, trivial⟩ ⟨call_ok (ks := []) (ns := []) (bor := []) (bobjs := []) (s_slices_IndexFunc_ii_armsOk_1_lsi p1 p2 p3 x4 e1) (.cons (.c1 (.c0 (.same _ (by kernel_rfl) (by kernel_rfl)))) (.cons (.fn (.cons (.bp (.cons (.same _ (by kernel_rfl) (by kernel_rfl)) (.cons (.same _ (by kernel_rfl) (by kernel_rfl)) (.nil)))) (.nil))) (.nil))) (by kernel_rfl) trivial, trivial⟩ ?_
  refine AX.ret ?_
  refine fin_wk (Wk.forget [4] [] (s' := ⟨[(4, .v (.bool (decide (0 ≤ x4))))], []⟩) (by kernel_rfl)) ?_
  have hr := Option.some.inj h
  subst hr
  exact ⟨_, Wk.refl _, .inr rfl, ⟨[], by kernel_rfl, trivial, [.v (.bool (decide (0 ≤ x4)))], by kernel_rfl, by kernel_rfl⟩⟩

theorem s_impl_armsOk (p1 : List (ByteArray × Int)) (p2 : Int) (p3 : List (Int × Int)) (r : Bool) (h : m_impl_armsOk p1 p2 p3 = some r) :
    Eng.Spec Try.prog 105 [.agg [.bs false 2 (List.map enc_si p1), .v (.int .i64 p2)], .bs false 2 (List.map enc_ii p3)] [] (.v (.bool r)) [] := by
  unfold m_impl_armsOk at h
  refine Eng.Spec.body Try.func105 (by kernel_rfl) rfl (by kernel_rfl) ?_
  refine AX.wkpost ?_
  refine AX.seq ?_
  refine AX.reg (its := [.auto { nk := 0 }]) [1, 2] [0] (s1 := ⟨[(1, .bs false 2 (List.map enc_ii p3)), (2, .pt 0 0)], [(0, .box [.bs false 2 (List.map enc_si p1), .v (.int .i64 p2)])]⟩) (C := True) (by kernel_rfl) trivial trivial ?_
  refine AX.seq ?_
  obtain ⟨x4, e1, h⟩ := bd_e h
  rcases bool_cases (x4) with b2 | b2
  · replace h := cd_t b2 h
    rcases bool_cases (decide ((p3.length : Int) ≤ 10)) with b3 | b3
    · replace h := cd_t b3 h
      obtain ⟨x5, e4, h⟩ := bd_e h
      refine AX.reg (its := [.auto {}, .call 60 [.agg [.bs false 2 (List.map enc_si p1), .v (.int .i64 p2)]] (handO (rho ([] ++ [])) [] [] ++ []) (callEv [] [] (.v (.bool true)) []), .auto {}, .auto {}, .auto { y := some (.v (.int .i64 (p3.length : Int))) }, .auto { y := some (.v (.bool true)) }, .auto {}, .auto {}, .auto {}, .auto {}, .call 89 [.bs false 2 (List.map enc_ii p3), .fn 153 [.pt 0 0]] (handO (rho ([] ++ [])) [] [] ++ [(0, .box [.bs false 2 (List.map enc_si p1), .v (.int .i64 p2)])]) (callEv [] [] (.v (.bool x5)) [])]) [4] [] (s1 := ⟨[(4, .v (.bool (!x5)))], []⟩) (C := ((([.agg [.bs false 2 (List.map enc_si p1), .v (.int .i64 p2)]] : List AV) = [.agg [.bs false 2 (List.map enc_si p1), .v (.int .i64 p2)]]) ∧ True) ∧ (True ∧ (AV.v (.int .i64 ((List.map enc_ii p3).length : Int)) = AV.v (.int .i64 (p3.length : Int)))) ∧ ((True) ∧ ((.v (.bool (decide ((p3.length : Int) ≤ 10))) : AV) = (.v (.bool true) : AV))) ∧ ((([.bs false 2 (List.map enc_ii p3), .fn 153 [.pt 0 0]] : List AV) = [.bs false 2 (List.map enc_ii p3), .fn 153 [.pt 0 0]]) ∧ (AO.box [.bs false 2 (List.map enc_si p1), .v (.int .i64 p2)] = AO.box [.bs false 2 (List.map enc_si p1), .v (.int .i64 p2)]) ∧ True) ∧ True) (by kernel_rfl) ⟨⟨rfl, trivial⟩, ⟨⟨trivial, len_map enc_ii p3⟩, ⟨⟨trivial, (congrArg (fun z => AV.v (.bool z)) b3)⟩, ⟨⟨rfl, rfl, trivial⟩, trivial⟩⟩⟩⟩ ⟨call_ok (ks := []) (ns := []) (bor := []) (bobjs := []) (show Eng.Spec Try.prog 60 [.agg [.bs false 2 (List.map enc_si p1), .v (.int .i64 p2)]] [] (.v (.bool true)) [] from by have q := s_impl_ValidFlag p1 p2 x4 e1; rw [b2] at q; exact q) (.cons (.c1 (.agg (.cons (.same _ (by kernel_rfl) (by kernel_rfl)) (.cons (.same _ (by kernel_rfl) (by kernel_rfl)) (.nil))))) (.nil)) (by kernel_rfl) trivial, ⟨call_ok (ks := []) (ns := []) (bor := [0]) (bobjs := [(0, .box [.bs false 2 (List.map enc_si p1), .v (.int .i64 p2)])]) (s_slices_ContainsFunc_ii_armsOk_1_lsi p3 p1 p2 x5 e4) (.cons (.c1 (.c0 (.same _ (by kernel_rfl) (by kernel_rfl)))) (.cons (.fn (.cons (.box rfl rfl (.cons (.same _ (by kernel_rfl) (by kernel_rfl)) (.cons (.same _ (by kernel_rfl) (by kernel_rfl)) (.nil)))) (.nil))) (.nil))) (by kernel_rfl) trivial, trivial⟩⟩ ?_
      refine AX.ret ?_
      refine fin_wk (Wk.forget [4] [] (s' := ⟨[(4, .v (.bool (!x5)))], []⟩) (by kernel_rfl)) ?_
      have hr := Option.some.inj h
      subst hr
      exact ⟨_, Wk.refl _, .inr rfl, ⟨[], by kernel_rfl, trivial, [.v (.bool (!x5))], by kernel_rfl, by kernel_rfl⟩⟩
    · replace h := cd_f b3 h
      refine AX.reg (its := [.auto {}, .call 60 [.agg [.bs false 2 (List.map enc_si p1), .v (.int .i64 p2)]] (handO (rho ([] ++ [])) [] [] ++ []) (callEv [] [] (.v (.bool true)) []), .auto {}, .auto {}, .auto { y := some (.v (.int .i64 (p3.length : Int))) }, .auto { y := some (.v (.bool false)) }]) [4] [] (s1 := ⟨[(4, .v (.bool false))], []⟩) (C := ((([.agg [.bs false 2 (List.map enc_si p1), .v (.int .i64 p2)]] : List AV) = [.agg [.bs false 2 (List.map enc_si p1), .v (.int .i64 p2)]]) ∧ True) ∧ (True ∧ (AV.v (.int .i64 ((List.map enc_ii p3).length : Int)) = AV.v (.int .i64 (p3.length : Int)))) ∧ ((True) ∧ ((.v (.bool (decide ((p3.length : Int) ≤ 10))) : AV) = (.v (.bool false) : AV))) ∧ True) (by kernel_rfl) ⟨⟨rfl, trivial⟩, ⟨⟨trivial, len_map enc_ii p3⟩, ⟨⟨trivial, (congrArg (fun z => AV.v (.bool z)) b3)⟩, trivial⟩⟩⟩ ⟨call_ok (ks := []) (ns := []) (bor := []) (bobjs := []) (show Eng.Spec Try.prog 60 [.agg [.bs false 2 (List.map enc_si p1), .v (.int .i64 p2)]] [] (.v (.bool true)) [] from by have q := s_impl_ValidFlag p1 p2 x4 e1; rw [b2] at q; exact q) (.cons (.c1 (.agg (.cons (.same _ (by kernel_rfl) (by kernel_rfl)) (.cons (.same _ (by kernel_rfl) (by kernel_rfl)) (.nil))))) (.nil)) (by kernel_rfl) trivial, trivial⟩ ?_
      refine AX.ret ?_
      refine fin_wk (Wk.forget [4] [] (s' := ⟨[(4, .v (.bool false))], []⟩) (by kernel_rfl)) ?_
      have hr := Option.some.inj h
      subst hr
      exact ⟨_, Wk.refl _, .inr rfl, ⟨[], by kernel_rfl, trivial, [.v (.bool false)], by kernel_rfl, by kernel_rfl⟩⟩
  · replace h := cd_f b2 h
    refine AX.reg (its := [.auto {}, .call 60 [.agg [.bs false 2 (List.map enc_si p1), .v (.int .i64 p2)]] (handO (rho ([] ++ [])) [] [] ++ []) (callEv [] [] (.v (.bool false)) [])]) [4] [] (s1 := ⟨[(4, .v (.bool false))], []⟩) (C := ((([.agg [.bs false 2 (List.map enc_si p1), .v (.int .i64 p2)]] : List AV) = [.agg [.bs false 2 (List.map enc_si p1), .v (.int .i64 p2)]]) ∧ True) ∧ True) (by kernel_rfl) ⟨⟨rfl, trivial⟩, trivial⟩ ⟨call_ok (ks := []) (ns := []) (bor := []) (bobjs := []) (show Eng.Spec Try.prog 60 [.agg [.bs false 2 (List.map enc_si p1), .v (.int .i64 p2)]] [] (.v (.bool false)) [] from by have q := s_impl_ValidFlag p1 p2 x4 e1; rw [b2] at q; exact q) (.cons (.c1 (.agg (.cons (.same _ (by kernel_rfl) (by kernel_rfl)) (.cons (.same _ (by kernel_rfl) (by kernel_rfl)) (.nil))))) (.nil)) (by kernel_rfl) trivial, trivial⟩ ?_
    refine AX.ret ?_
    refine fin_wk (Wk.forget [4] [] (s' := ⟨[(4, .v (.bool false))], []⟩) (by kernel_rfl)) ?_
    have hr := Option.some.inj h
    subst hr
    exact ⟨_, Wk.refl _, .inr rfl, ⟨[], by kernel_rfl, trivial, [.v (.bool false)], by kernel_rfl, by kernel_rfl⟩⟩

theorem s_impl_inside_L1 (p1 : Int) (n : Nat) (g : List (Int) × Int) (out : List (Int)) (h : m_impl_inside_L1 p1 n g.1 g.2 = some out) :
    AX Try.prog 19 0 (codeAt [1, 1, 0, 1, 1] (bodyOf Try.f84)) ((fun g : List (Int) × Int => (⟨[(0, .v (.int .i64 p1)), (3, .sl 0 0 g.1.length), (4, .v (.int .i64 g.2))], [(0, .arr 1 (List.map enc_i g.1))]⟩ : S)) g) (fun ex s => ex = .exit 0 ∧ s = (fun o : List (Int) => (⟨[(3, .sl 0 0 o.length)], [(0, .arr 1 (List.map enc_i o))]⟩ : S)) out) := by
  refine AX.wkpost ?_
  refine AX.loop (G := Nat × (List (Int) × Int)) (fun q => (fun g : List (Int) × Int => (⟨[(0, .v (.int .i64 p1)), (3, .sl 0 0 g.1.length), (4, .v (.int .i64 g.2))], [(0, .arr 1 (List.map enc_i g.1))]⟩ : S)) q.2) (fun q => m_impl_inside_L1 p1 q.1 q.2.1 q.2.2 = some out) (fun q => q.1) (n, g) h (Wk.refl _) ?_
  clear h
  rintro ⟨fu, v2, v3⟩ h
  cases fu with
  | zero => cases h
  | succ fu =>
    rw [m_impl_inside_L1] at h
    refine AX.seq ?_
    refine AX.seq ?_
    refine AX.reg (its := []) [0, 3, 4, 7] [0] (s1 := ⟨[(0, .v (.int .i64 p1)), (3, .sl 0 0 v2.length), (4, .v (.int .i64 v3)), (7, .v (.bool (decide (v3 ≤ p1))))], [(0, .arr 1 (List.map enc_i v2))]⟩) (C := True) (by kernel_rfl) trivial trivial ?_
    rcases bool_cases (decide (v3 ≤ p1)) with b1 | b1
    · replace h := cd_t b1 h
      refine AX.condT (decide (v3 ≤ p1)) (by kernel_rfl) b1 ?_
      refine AX.skip ?_
      refine AX.seq ?_
      refine AX.block ?_
      refine AX.seq ?_
      refine AX.reg (its := []) [0, 3, 4, 13] [0] (s1 := ⟨[(0, .v (.int .i64 p1)), (3, .sl 0 0 v2.length), (4, .v (.int .i64 v3)), (13, .v (.bool (decide ((Go.bits .andNot .i64 v3 p1) = 0))))], [(0, .arr 1 (List.map enc_i v2))]⟩) (C := True) (by kernel_rfl) trivial trivial ?_
      rcases bool_cases (decide ((Go.bits .andNot .i64 v3 p1) = 0)) with b2 | b2
      · replace h := cd_t b2 h
        refine AX.condT (decide ((Go.bits .andNot .i64 v3 p1) = 0)) (by kernel_rfl) b2 ?_
        obtain ⟨g3, h⟩ := gd_e h
        refine AX.reg (its := [.auto {}, .auto {}, .auto { nk := 1 }, .auto { y := some (.sl 2 0 ((v2 ++ ([v3] : List (Int))).length)), els := some (List.map enc_i v2), els2 := some (List.map enc_i ([v3] : List (Int))), nk := 2 }]) [0, 3, 4] [2] (s1 := ⟨[(0, .v (.int .i64 p1)), (3, .sl 2 0 ((v2 ++ ([v3] : List (Int))).length)), (4, .v (.int .i64 v3))], [(2, .arr 1 (List.map enc_i v2 ++ List.map enc_i ([v3] : List (Int))))]⟩) (C := ((((((List.map enc_i v2).drop 0).take (v2.length) = List.map enc_i v2) ∧ (((List.map enc_i ([v3] : List (Int))).drop 0).take (([v3] : List (Int)).length) = List.map enc_i ([v3] : List (Int)))) ∧ (List.map enc_i v2).length + (List.map enc_i ([v3] : List (Int))).length ≤ 1099511627776) ∧ (AV.sl 2 0 (List.map enc_i v2 ++ List.map enc_i ([v3] : List (Int))).length = AV.sl 2 0 (v2 ++ ([v3] : List (Int))).length)) ∧ True) (by kernel_rfl) ⟨⟨⟨⟨(dt_all (enc := enc_i) rfl rfl), (dt_all (enc := enc_i) rfl rfl)⟩, (by simp only [List.length_map, List.length_nil, List.length_replicate]; simpa using g3)⟩, sl_len (enc := enc_i) (app_can (enc := enc_i) rfl (rfl))⟩, trivial⟩ trivial ?_
        refine AX.reg (its := [.auto {}, .auto { raw := true }]) [0, 3, 4] [2] (s1 := ⟨[(0, .v (.int .i64 p1)), (3, .sl 2 0 ((v2 ++ ([v3] : List (Int))).length)), (4, .v (.int .i64 (IntKind.wrap .i64 (v3 + 1))))], [(2, .arr 1 (List.map enc_i v2 ++ List.map enc_i ([v3] : List (Int))))]⟩) (C := True) (by kernel_rfl) trivial trivial ?_
        refine ⟨(fu, (v2 ++ ([v3] : List (Int)), IntKind.wrap .i64 (v3 + 1))), h, Nat.lt_succ_self _, ?_⟩
        refine Wk.trans (Wk.swap 0 2 (Nat.le_of_ble_eq_true (by kernel_rfl)) (Nat.le_of_ble_eq_true (by kernel_rfl)) rfl) ?_
        refine Wk.trans (Wk.forget [0, 3, 4] [0] (s' := ⟨[(0, .v (.int .i64 p1)), (3, .sl 0 0 ((v2 ++ ([v3] : List (Int))).length)), (4, .v (.int .i64 (IntKind.wrap .i64 (v3 + 1))))], [(0, .arr 1 (List.map enc_i v2 ++ List.map enc_i ([v3] : List (Int))))]⟩) (by kernel_rfl)) ?_
        refine Wk.trans (Wk.of_eq (congrArg (fun z => (⟨[(0, .v (.int .i64 p1)), (3, .sl 0 0 ((v2 ++ ([v3] : List (Int))).length)), (4, .v (.int .i64 (IntKind.wrap .i64 (v3 + 1))))], [(0, .arr 1 (z))]⟩ : S)) (app_can (enc := enc_i) rfl (rfl) : List.map enc_i v2 ++ List.map enc_i ([v3] : List (Int)) = List.map enc_i (v2 ++ ([v3] : List (Int)))))) ?_
        exact Wk.refl _
      · replace h := cd_f b2 h
        refine AX.condF (decide ((Go.bits .andNot .i64 v3 p1) = 0)) (by kernel_rfl) b2 ?_
        refine AX.skip ?_
        refine AX.reg (its := [.auto {}, .auto { raw := true }]) [0, 3, 4] [0] (s1 := ⟨[(0, .v (.int .i64 p1)), (3, .sl 0 0 v2.length), (4, .v (.int .i64 (IntKind.wrap .i64 (v3 + 1))))], [(0, .arr 1 (List.map enc_i v2))]⟩) (C := True) (by kernel_rfl) trivial trivial ?_
        refine ⟨(fu, (v2, IntKind.wrap .i64 (v3 + 1))), h, Nat.lt_succ_self _, ?_⟩
        refine Wk.trans (Wk.forget [0, 3, 4] [0] (s' := ⟨[(0, .v (.int .i64 p1)), (3, .sl 0 0 v2.length), (4, .v (.int .i64 (IntKind.wrap .i64 (v3 + 1))))], [(0, .arr 1 (List.map enc_i v2))]⟩) (by kernel_rfl)) ?_
        exact Wk.refl _
    · replace h := cd_f b1 h
      refine AX.condF (decide (v3 ≤ p1)) (by kernel_rfl) b1 ?_
      refine AX.exit ?_
      refine fin_wk (Wk.forget [3] [0] (s' := ⟨[(3, .sl 0 0 v2.length)], [(0, .arr 1 (List.map enc_i v2))]⟩) (by kernel_rfl)) ?_
      have hr := Option.some.inj h
      subst hr
      exact ⟨_, Wk.refl _, ⟨rfl, rfl⟩⟩

theorem s_impl_inside (p1 : Int) (r : List (Int)) (h : m_impl_inside p1 = some r) :
    Eng.Spec Try.prog 84 [.v (.int .i64 p1)] [] (.sl 0 0 r.length) [.arr 1 (List.map enc_i r)] := by
  unfold m_impl_inside at h
  refine Eng.Spec.body Try.func84 (by kernel_rfl) rfl (by kernel_rfl) ?_
  refine AX.wkpost ?_
  refine AX.seq ?_
  refine AX.reg (its := []) [0] [] (s1 := ⟨[(0, .v (.int .i64 p1))], []⟩) (C := True) (by kernel_rfl) trivial trivial ?_
  refine AX.seq ?_
  refine AX.reg (its := []) [0, 3] [] (s1 := ⟨[(0, .v (.int .i64 p1)), (3, .v (.slice none 0 0))], []⟩) (C := True) (by kernel_rfl) trivial trivial ?_
  refine AX.seq ?_
  refine AX.seq ?_
  refine AX.reg (its := []) [0, 3, 4] [] (s1 := ⟨[(0, .v (.int .i64 p1)), (3, .v (.slice none 0 0)), (4, .v (.int .i64 0))], []⟩) (C := True) (by kernel_rfl) trivial trivial ?_
  refine AX.block ?_
  obtain ⟨x4, e4, h⟩ := bd_e h
  refine AX.wk (Wk.mat 3 0 1 (by kernel_rfl) (Nat.le_of_ble_eq_true (by kernel_rfl)) (by kernel_rfl) rfl) ?_
  refine AX.wk (Wk.forget [0, 3, 4] [0] (s' := ⟨[(0, .v (.int .i64 p1)), (3, .sl 0 0 (([] : List (Int)).length)), (4, .v (.int .i64 0))], [(0, .arr 1 (List.map enc_i ([] : List (Int))))]⟩) (by kernel_rfl)) ?_
  refine AX.mono (s_impl_inside_L1 p1 FU (([] : List (Int)), 0) x4 e4) ?_
  rintro _ _ ⟨rfl, rfl⟩
  skip
  refine AX.seq ?_
  refine AX.reg (its := []) [2] [0] (s1 := ⟨[(2, .sl 0 0 x4.length)], [(0, .arr 1 (List.map enc_i x4))]⟩) (C := True) (by kernel_rfl) trivial trivial ?_
  refine AX.ret ?_
  refine fin_wk (Wk.forget [2] [0] (s' := ⟨[(2, .sl 0 0 x4.length)], [(0, .arr 1 (List.map enc_i x4))]⟩) (by kernel_rfl)) ?_
  have hr := Option.some.inj h
  subst hr
  exact ⟨_, Wk.refl _, .inr rfl, ⟨[0], by kernel_rfl, ⟨rfl, trivial⟩, [.sl 0 0 x4.length], by kernel_rfl, by kernel_rfl⟩⟩

theorem s_impl_Arm_matches (p1 : Int) (p2 : Int) (p3 : Int) (r : Bool) (h : m_impl_Arm_matches p1 p2 p3 = some r) :
    Eng.Spec Try.prog 87 [.agg [.v (.int .i64 p1), .v (.int .i64 p2)], .v (.int .i64 p3)] [] (.v (.bool r)) [] := by
  unfold m_impl_Arm_matches at h
  refine Eng.Spec.body Try.func87 (by kernel_rfl) rfl (by kernel_rfl) ?_
  refine AX.wkpost ?_
  refine AX.seq ?_
  refine AX.reg (its := [.auto { nk := 0 }]) [1, 2] [0] (s1 := ⟨[(1, .v (.int .i64 p3)), (2, .pt 0 0)], [(0, .box [.v (.int .i64 p1), .v (.int .i64 p2)])]⟩) (C := True) (by kernel_rfl) trivial trivial ?_
  refine AX.seq ?_
  rcases bool_cases (decide ((Go.bits .andNot .i64 p1 p3) = 0)) with b1 | b1
  · replace h := cd_t b1 h
    refine AX.reg (its := [.auto {}, .auto {}, .auto {}, .auto {}, .auto { y := some (.v (.bool true)) }]) [4] [] (s1 := ⟨[(4, .v (.bool (decide ((Go.bits .and .i64 p2 p3) = 0))))], []⟩) (C := ((True) ∧ ((.v (.bool (decide ((Go.bits .andNot .i64 p1 p3) = 0))) : AV) = (.v (.bool true) : AV))) ∧ True) (by kernel_rfl) ⟨⟨trivial, (congrArg (fun z => AV.v (.bool z)) b1)⟩, trivial⟩ trivial ?_
    refine AX.ret ?_
    refine fin_wk (Wk.forget [4] [] (s' := ⟨[(4, .v (.bool (decide ((Go.bits .and .i64 p2 p3) = 0))))], []⟩) (by kernel_rfl)) ?_
    have hr := Option.some.inj h
    subst hr
    exact ⟨_, Wk.refl _, .inr rfl, ⟨[], by kernel_rfl, trivial, [.v (.bool (decide ((Go.bits .and .i64 p2 p3) = 0)))], by kernel_rfl, by kernel_rfl⟩⟩
  · replace h := cd_f b1 h
    refine AX.reg (its := [.auto {}, .auto {}, .auto {}, .auto {}, .auto { y := some (.v (.bool false)) }]) [4] [] (s1 := ⟨[(4, .v (.bool false))], []⟩) (C := ((True) ∧ ((.v (.bool (decide ((Go.bits .andNot .i64 p1 p3) = 0))) : AV) = (.v (.bool false) : AV))) ∧ True) (by kernel_rfl) ⟨⟨trivial, (congrArg (fun z => AV.v (.bool z)) b1)⟩, trivial⟩ trivial ?_
    refine AX.ret ?_
    refine fin_wk (Wk.forget [4] [] (s' := ⟨[(4, .v (.bool false))], []⟩) (by kernel_rfl)) ?_
    have hr := Option.some.inj h
    subst hr
    exact ⟨_, Wk.refl _, .inr rfl, ⟨[], by kernel_rfl, trivial, [.v (.bool false)], by kernel_rfl, by kernel_rfl⟩⟩

theorem s_impl_first_1_l (p1 : Int) (p2 : Int) (p3 : Int) (r : Bool) (h : m_impl_first_1_l p1 p2 p3 = some r) :
    Eng.Spec Try.prog 154 [.agg [.v (.int .i64 p1), .v (.int .i64 p2)], .bp [.v (.int .i64 p3)] 0] [] (.v (.bool r)) [] := by
  unfold m_impl_first_1_l at h
  refine Eng.Spec.body Try.func154 (by kernel_rfl) rfl (by kernel_rfl) ?_
  refine AX.wkpost ?_
  refine AX.seq ?_
  refine AX.reg (its := [.auto { nk := 0 }]) [1, 2] [0] (s1 := ⟨[(1, .bp [.v (.int .i64 p3)] 0), (2, .pt 0 0)], [(0, .box [.v (.int .i64 p1), .v (.int .i64 p2)])]⟩) (C := True) (by kernel_rfl) trivial trivial ?_
  refine AX.seq ?_
  obtain ⟨x4, e1, h⟩ := bd_e h
  refine AX.reg (its := [.auto {}, .auto {}, .call 87 [.agg [.v (.int .i64 p1), .v (.int .i64 p2)], .v (.int .i64 p3)] (handO (rho ([] ++ [])) [] [] ++ []) (callEv [] [] (.v (.bool x4)) [])]) [3] [] (s1 := ⟨[(3, .v (.bool x4))], []⟩) (C := ((([.agg [.v (.int .i64 p1), .v (.int .i64 p2)], .v (.int .i64 p3)] : List AV) = [.agg [.v (.int .i64 p1), .v (.int .i64 p2)], .v (.int .i64 p3)]) ∧ True) ∧ True) (by kernel_rfl) ⟨⟨rfl, trivial⟩, trivial⟩ ⟨call_ok (ks := []) (ns := []) (bor := []) (bobjs := []) (s_impl_Arm_matches p1 p2 p3 x4 e1) (.cons (.c1 (.agg (.cons (.same _ (by kernel_rfl) (by kernel_rfl)) (.cons (.same _ (by kernel_rfl) (by kernel_rfl)) (.nil))))) (.cons (.c1 (.c0 (.same _ (by kernel_rfl) (by kernel_rfl)))) (.nil))) (by kernel_rfl) trivial, trivial⟩ ?_
  refine AX.ret ?_
  refine fin_wk (Wk.forget [3] [] (s' := ⟨[(3, .v (.bool x4))], []⟩) (by kernel_rfl)) ?_
  have hr := Option.some.inj h
  subst hr
  exact ⟨_, Wk.refl _, .inr rfl, ⟨[], by kernel_rfl, trivial, [.v (.bool x4)], by kernel_rfl, by kernel_rfl⟩⟩

theorem s_slices_IndexFunc_ii_first_1_l_L1 (p1 : List (Int × Int)) (p2 : Int) (n : Nat) (g : Int) (out : Int ⊕ Unit) (h : m_slices_IndexFunc_ii_first_1_l_L1 p1 p2 n g = some out) :
    AX Try.prog 19 0 (codeAt [1, 0, 1, 1] (bodyOf Try.f147)) ((fun g : Int => (⟨[(0, .bs false 2 (List.map enc_ii p1)), (1, .fn 154 [.bp [.v (.int .i64 p2)] 0]), (7, .v (.int .i64 (p1.length : Int))), (8, .v (.int .i64 g))], []⟩ : S)) g) (fun ex s => (∃ o : Int, out = Sum.inl o ∧ ex = .ret ∧ s = ⟨[(4, .v (.int .i64 o))], []⟩) ∨ (∃ o : Unit, out = Sum.inr o ∧ ex = .exit 0 ∧ s = ⟨[], []⟩)) := by
  refine AX.wkpost ?_
  refine AX.loop (G := Nat × (Int)) (fun q => (fun g : Int => (⟨[(0, .bs false 2 (List.map enc_ii p1)), (1, .fn 154 [.bp [.v (.int .i64 p2)] 0]), (7, .v (.int .i64 (p1.length : Int))), (8, .v (.int .i64 g))], []⟩ : S)) q.2) (fun q => m_slices_IndexFunc_ii_first_1_l_L1 p1 p2 q.1 q.2 = some out) (fun q => q.1) (n, g) h (Wk.refl _) ?_
  clear h
  rintro ⟨fu, v3⟩ h
  cases fu with
  | zero => cases h
  | succ fu =>
    rw [m_slices_IndexFunc_ii_first_1_l_L1] at h
    refine AX.seq ?_
    refine AX.reg (its := []) [0, 1, 7, 8, 9] [] (s1 := ⟨[(0, .bs false 2 (List.map enc_ii p1)), (1, .fn 154 [.bp [.v (.int .i64 p2)] 0]), (7, .v (.int .i64 (p1.length : Int))), (8, .v (.int .i64 v3)), (9, .v (.bool (decide (v3 < (p1.length : Int)))))], []⟩) (C := True) (by kernel_rfl) trivial trivial ?_
    refine AX.seq ?_
    rcases bool_cases (decide (v3 < (p1.length : Int))) with b1 | b1
    · replace h := cd_t b1 h
      refine AX.condT (decide (v3 < (p1.length : Int))) (by kernel_rfl) b1 ?_
      refine AX.skip ?_
      refine AX.seq ?_
      refine AX.block ?_
      refine AX.seq ?_
      refine AX.reg (its := []) [0, 1, 5, 7, 8] [] (s1 := ⟨[(0, .bs false 2 (List.map enc_ii p1)), (1, .fn 154 [.bp [.v (.int .i64 p2)] 0]), (5, .v (.int .i64 v3)), (7, .v (.int .i64 (p1.length : Int))), (8, .v (.int .i64 v3))], []⟩) (C := True) (by kernel_rfl) trivial trivial ?_
      refine AX.seq ?_
      obtain ⟨g2, h⟩ := gd_e h
      obtain ⟨x4, e3, h⟩ := bd_e h
      refine AX.reg (its := [.auto {}, .auto {}, .auto {}, .auto { y := some (.be 2 (enc_ii (gt p1 v3)) 0) }, .auto {}, .call 154 [.agg [.v (.int .i64 ((gt p1 v3).1)), .v (.int .i64 ((gt p1 v3).2))], .bp [.v (.int .i64 p2)] 0] (handO (rho ([] ++ [])) [] [] ++ []) (callEv [] [] (.v (.bool x4)) [])]) [0, 1, 5, 7, 8, 16] [] (s1 := ⟨[(0, .bs false 2 (List.map enc_ii p1)), (1, .fn 154 [.bp [.v (.int .i64 p2)] 0]), (5, .v (.int .i64 v3)), (7, .v (.int .i64 (p1.length : Int))), (8, .v (.int .i64 v3)), (16, .v (.bool x4))], []⟩) (C := ((0 ≤ v3 ∧ v3 < ((List.map enc_ii p1).length : Int)) ∧ (AV.be 2 ((List.map enc_ii p1).getD v3.toNat []) 0 = AV.be 2 (enc_ii (gt p1 v3)) 0)) ∧ ((([.agg [.v (.int .i64 ((gt p1 v3).1)), .v (.int .i64 ((gt p1 v3).2))], .bp [.v (.int .i64 p2)] 0] : List AV) = [.agg [.v (.int .i64 ((gt p1 v3).1)), .v (.int .i64 ((gt p1 v3).2))], .bp [.v (.int .i64 p2)] 0]) ∧ True) ∧ True) (by kernel_rfl) ⟨idx_bs enc_ii p1 v3 2 g2, ⟨⟨rfl, trivial⟩, trivial⟩⟩ ⟨call_ok (ks := []) (ns := []) (bor := []) (bobjs := []) (s_impl_first_1_l ((gt p1 v3).1) ((gt p1 v3).2) p2 x4 e3) (.cons (.c1 (.agg (.cons (.same _ (by kernel_rfl) (by kernel_rfl)) (.cons (.same _ (by kernel_rfl) (by kernel_rfl)) (.nil))))) (.cons (.c1 (.bp (.cons (.same _ (by kernel_rfl) (by kernel_rfl)) (.nil)))) (.nil))) (by kernel_rfl) trivial, trivial⟩ ?_
      rcases bool_cases (x4) with b4 | b4
      · replace h := cd_t b4 h
        refine AX.condT (x4) (by kernel_rfl) b4 ?_
        refine AX.seq ?_
        refine AX.reg (its := []) [4] [] (s1 := ⟨[(4, .v (.int .i64 v3))], []⟩) (C := True) (by kernel_rfl) trivial trivial ?_
        refine AX.ret ?_
        refine fin_wk (Wk.forget [4] [] (s' := ⟨[(4, .v (.int .i64 v3))], []⟩) (by kernel_rfl)) ?_
        have hr := Option.some.inj h
        subst hr
        exact ⟨_, Wk.refl _, .inl ⟨v3, rfl, rfl, rfl⟩⟩
      · replace h := cd_f b4 h
        refine AX.condF (x4) (by kernel_rfl) b4 ?_
        refine AX.skip ?_
        refine AX.reg (its := [.auto { raw := true }]) [0, 1, 7, 8] [] (s1 := ⟨[(0, .bs false 2 (List.map enc_ii p1)), (1, .fn 154 [.bp [.v (.int .i64 p2)] 0]), (7, .v (.int .i64 (p1.length : Int))), (8, .v (.int .i64 (IntKind.wrap .i64 (v3 + 1))))], []⟩) (C := True) (by kernel_rfl) trivial trivial ?_
        refine ⟨(fu, IntKind.wrap .i64 (v3 + 1)), h, Nat.lt_succ_self _, ?_⟩
        refine Wk.trans (Wk.forget [0, 1, 7, 8] [] (s' := ⟨[(0, .bs false 2 (List.map enc_ii p1)), (1, .fn 154 [.bp [.v (.int .i64 p2)] 0]), (7, .v (.int .i64 (p1.length : Int))), (8, .v (.int .i64 (IntKind.wrap .i64 (v3 + 1))))], []⟩) (by kernel_rfl)) ?_
        exact Wk.refl _
    · replace h := cd_f b1 h
      refine AX.condF (decide (v3 < (p1.length : Int))) (by kernel_rfl) b1 ?_
      refine AX.exit ?_
      refine fin_wk (Wk.forget [] [] (s' := ⟨[], []⟩) (by kernel_rfl)) ?_
      have hr := Option.some.inj h
      subst hr
      exact ⟨_, Wk.refl _, .inr ⟨(), rfl, rfl, rfl⟩⟩

theorem s_slices_IndexFunc_ii_first_1_l (p1 : List (Int × Int)) (p2 : Int) (r : Int) (h : m_slices_IndexFunc_ii_first_1_l p1 p2 = some r) :
    Eng.Spec Try.prog 147 [.bs false 2 (List.map enc_ii p1), .fn 154 [.bp [.v (.int .i64 p2)] 0]] [] (.v (.int .i64 r)) [] := by
  unfold m_slices_IndexFunc_ii_first_1_l at h
  refine Eng.Spec.body Try.func147 (by kernel_rfl) rfl (by kernel_rfl) ?_
  refine AX.wkpost ?_
  refine AX.seq ?_
  refine AX.reg (its := []) [0, 1] [] (s1 := ⟨[(0, .bs false 2 (List.map enc_ii p1)), (1, .fn 154 [.bp [.v (.int .i64 p2)] 0])], []⟩) (C := True) (by kernel_rfl) trivial trivial ?_
  refine AX.seq ?_
  refine AX.seq ?_
  refine AX.reg (its := [.auto {}, .auto { y := some (.v (.int .i64 (p1.length : Int))) }]) [0, 1, 7, 8] [] (s1 := ⟨[(0, .bs false 2 (List.map enc_ii p1)), (1, .fn 154 [.bp [.v (.int .i64 p2)] 0]), (7, .v (.int .i64 (p1.length : Int))), (8, .v (.int .i64 0))], []⟩) (C := (True ∧ (AV.v (.int .i64 ((List.map enc_ii p1).length : Int)) = AV.v (.int .i64 (p1.length : Int)))) ∧ True) (by kernel_rfl) ⟨⟨trivial, len_map enc_ii p1⟩, trivial⟩ trivial ?_
  refine AX.block ?_
  obtain ⟨x5, e5, h⟩ := bd_e h
  refine AX.wk (Wk.forget [0, 1, 7, 8] [] (s' := ⟨[(0, .bs false 2 (List.map enc_ii p1)), (1, .fn 154 [.bp [.v (.int .i64 p2)] 0]), (7, .v (.int .i64 (p1.length : Int))), (8, .v (.int .i64 0))], []⟩) (by kernel_rfl)) ?_
  refine AX.mono (s_slices_IndexFunc_ii_first_1_l_L1 p1 p2 FU 0 x5 e5) ?_
  rintro _ _ (⟨x6, rfl, rfl, rfl⟩ | ⟨x7, rfl, rfl, rfl⟩)
  · replace h := sm_l h
    refine fin_wk (Wk.forget [4] [] (s' := ⟨[(4, .v (.int .i64 x6))], []⟩) (by kernel_rfl)) ?_
    have hr := Option.some.inj h
    subst hr
    exact ⟨_, Wk.refl _, .inr rfl, ⟨[], by kernel_rfl, trivial, [.v (.int .i64 x6)], by kernel_rfl, by kernel_rfl⟩⟩
  · replace h := sm_r h
    refine AX.seq ?_
    refine AX.reg (its := []) [4] [] (s1 := ⟨[(4, .v (.int .i64 (-1)))], []⟩) (C := True) (by kernel_rfl) trivial trivial ?_
    refine AX.ret ?_
    refine fin_wk (Wk.forget [4] [] (s' := ⟨[(4, .v (.int .i64 (-1)))], []⟩) (by kernel_rfl)) ?_
    have hr := Option.some.inj h
    subst hr
    exact ⟨_, Wk.refl _, .inr rfl, ⟨[], by kernel_rfl, trivial, [.v (.int .i64 (-1))], by kernel_rfl, by kernel_rfl⟩⟩

theorem s_impl_first (p1 : List (Int × Int)) (p2 : Int) (r : Int) (h : m_impl_first p1 p2 = some r) :
    Eng.Spec Try.prog 106 [.bs false 2 (List.map enc_ii p1), .v (.int .i64 p2)] [] (.v (.int .i64 r)) [] := by
  unfold m_impl_first at h
  refine Eng.Spec.body Try.func106 (by kernel_rfl) rfl (by kernel_rfl) ?_
  refine AX.wkpost ?_
  refine AX.seq ?_
  refine AX.reg (its := [.auto { nk := 0 }]) [0, 3] [0] (s1 := ⟨[(0, .bs false 2 (List.map enc_ii p1)), (3, .pt 0 0)], [(0, .box [.v (.int .i64 p2)])]⟩) (C := True) (by kernel_rfl) trivial trivial ?_
  refine AX.seq ?_
  obtain ⟨x3, e1, h⟩ := bd_e h
  refine AX.reg (its := [.auto {}, .auto {}, .call 147 [.bs false 2 (List.map enc_ii p1), .fn 154 [.pt 0 0]] (handO (rho ([] ++ [])) [] [] ++ [(0, .box [.v (.int .i64 p2)])]) (callEv [] [] (.v (.int .i64 x3)) [])]) [4] [] (s1 := ⟨[(4, .v (.int .i64 x3))], []⟩) (C := ((([.bs false 2 (List.map enc_ii p1), .fn 154 [.pt 0 0]] : List AV) = [.bs false 2 (List.map enc_ii p1), .fn 154 [.pt 0 0]]) ∧ (AO.box [.v (.int .i64 p2)] = AO.box [.v (.int .i64 p2)]) ∧ True) ∧ True) (by kernel_rfl) ⟨⟨rfl, rfl, trivial⟩, trivial⟩ ⟨call_ok (ks := []) (ns := []) (bor := [0]) (bobjs := [(0, .box [.v (.int .i64 p2)])]) (s_slices_IndexFunc_ii_first_1_l p1 p2 x3 e1) (.cons (.c1 (.c0 (.same _ (by kernel_rfl) (by kernel_rfl)))) (.cons (.fn (.cons (.box rfl rfl (.cons (.same _ (by kernel_rfl) (by kernel_rfl)) (.nil))) (.nil))) (.nil))) (by kernel_rfl) trivial, trivial⟩ ?_
  refine AX.ret ?_
  refine fin_wk (Wk.forget [4] [] (s' := ⟨[(4, .v (.int .i64 x3))], []⟩) (by kernel_rfl)) ?_
  have hr := Option.some.inj h
  subst hr
  exact ⟨_, Wk.refl _, .inr rfl, ⟨[], by kernel_rfl, trivial, [.v (.int .i64 x3)], by kernel_rfl, by kernel_rfl⟩⟩

theorem s_slices_Clip_i (p1 : List (Int)) (r : Unit) (h : m_slices_Clip_i p1 = some r) :
    Eng.Spec Try.prog 97 [.bs false 1 (List.map enc_i p1)] [] (.bs false 1 (List.map enc_i (sub p1 (0 : Int) (p1.length : Int)))) [] := by
  unfold m_slices_Clip_i at h
  refine Eng.Spec.body Try.func97 (by kernel_rfl) rfl (by kernel_rfl) ?_
  refine AX.wkpost ?_
  refine AX.seq ?_
  refine AX.reg (its := []) [0] [] (s1 := ⟨[(0, .bs false 1 (List.map enc_i p1))], []⟩) (C := True) (by kernel_rfl) trivial trivial ?_
  refine AX.seq ?_
  obtain ⟨g1, h⟩ := gd_e h
  refine AX.reg (its := [.auto {}, .auto {}, .auto { y := some (.v (.int .i64 (p1.length : Int))) }, .auto {}, .auto { y := some (.v (.int .i64 (p1.length : Int))) }, .auto { y := some (.bs false 1 (List.map enc_i (sub p1 (0 : Int) (p1.length : Int)))) }]) [2] [] (s1 := ⟨[(2, .bs false 1 (List.map enc_i (sub p1 (0 : Int) (p1.length : Int))))], []⟩) (C := (True ∧ (AV.v (.int .i64 ((List.map enc_i p1).length : Int)) = AV.v (.int .i64 (p1.length : Int)))) ∧ (True ∧ (AV.v (.int .i64 ((List.map enc_i p1).length : Int)) = AV.v (.int .i64 (p1.length : Int)))) ∧ ((0 ≤ (0 : Int) ∧ (0 : Int) ≤ (p1.length : Int) ∧ (p1.length : Int) ≤ (p1.length : Int) ∧ (p1.length : Int) ≤ ((List.map enc_i p1).length : Int)) ∧ (AV.bs false 1 (((List.map enc_i p1).drop (0 : Int).toNat).take ((p1.length : Int).toNat - (0 : Int).toNat)) = (.bs false 1 (List.map enc_i (sub p1 (0 : Int) (p1.length : Int))) : AV))) ∧ True) (by kernel_rfl) ⟨⟨trivial, len_map enc_i p1⟩, ⟨⟨trivial, len_map enc_i p1⟩, ⟨⟨by first | exact g1 | simpa only [List.length_map] using g1, by first | exact sub_can enc_i p1 (0 : Int) (p1.length : Int) false 1 | (simp only [List.length_map]; exact sub_can enc_i p1 (0 : Int) (p1.length : Int) false 1)⟩, trivial⟩⟩⟩ trivial ?_
  refine AX.ret ?_
  refine fin_wk (Wk.forget [2] [] (s' := ⟨[(2, .bs false 1 (List.map enc_i (sub p1 (0 : Int) (p1.length : Int))))], []⟩) (by kernel_rfl)) ?_
  have hr := Option.some.inj h
  subst hr
  exact ⟨_, Wk.refl _, .inr rfl, ⟨[], by kernel_rfl, trivial, [.bs false 1 (List.map enc_i (sub p1 (0 : Int) (p1.length : Int)))], by kernel_rfl, by kernel_rfl⟩⟩

theorem s_slices_Clip_hi (p1 : List (Int)) (r : Unit) (h : m_slices_Clip_hi p1 = some r) :
    Eng.Spec Try.prog 97 [.sl 0 0 p1.length] [.arr 1 (List.map enc_i p1)] (.sl 0 0 p1.length) [.arr 1 (List.map enc_i p1)] := by
  unfold m_slices_Clip_hi at h
  refine Eng.Spec.body Try.func97 (by kernel_rfl) rfl (by kernel_rfl) ?_
  refine AX.wkpost ?_
  refine AX.seq ?_
  refine AX.reg (its := []) [0] [0] (s1 := ⟨[(0, .sl 0 0 p1.length)], [(0, .arr 1 (List.map enc_i p1))]⟩) (C := True) (by kernel_rfl) trivial trivial ?_
  refine AX.seq ?_
  refine AX.reg (its := [.auto {}, .auto {}, .auto {}, .auto {}, .auto {}, .auto { y := some (.sl 0 0 p1.length) }]) [2] [0] (s1 := ⟨[(2, .sl 0 0 p1.length)], [(0, .arr 1 (List.map enc_i p1))]⟩) (C := ((0 ≤ (0 : Int) ∧ (0 : Int) ≤ (p1.length : Int) ∧ (p1.length : Int) ≤ (p1.length : Int) ∧ (p1.length : Int) ≤ (p1.length : Int)) ∧ (AV.sl 0 (0 + (0 : Int).toNat) ((p1.length : Int).toNat - (0 : Int).toNat) = AV.sl 0 0 p1.length)) ∧ True) (by kernel_rfl) ⟨⟨⟨by omega, by omega, by omega, by omega⟩, rfl⟩, trivial⟩ trivial ?_
  refine AX.ret ?_
  refine fin_wk (Wk.forget [2] [0] (s' := ⟨[(2, .sl 0 0 p1.length)], [(0, .arr 1 (List.map enc_i p1))]⟩) (by kernel_rfl)) ?_
  have hr := Option.some.inj h
  subst hr
  exact ⟨_, Wk.refl _, .inr rfl, ⟨[], by kernel_rfl, ⟨rfl, trivial⟩, [.sl 0 0 p1.length], by kernel_rfl, by kernel_rfl⟩⟩

theorem s_impl_DeadArms_L1 (p3 : List (Int × Int)) (x6 : List (Int)) (n : Nat) (g : List Int × Int) (out : List Int) (h : m_impl_DeadArms_L1 p3 x6 n g.1 g.2 = some out) :
    AX Try.prog 44 0 (codeAt [1, 1, 1, 0, 1, 1] (bodyOf Try.f33)) ((fun g : List Int × Int => (⟨[(1, .bs false 2 (List.map enc_ii p3)), (5, .mp 0), (17, .sl 1 0 x6.length), (18, .v (.int .i64 (x6.length : Int))), (19, .v (.int .i64 g.2))], [(0, .map g.1), (1, .arr 1 (List.map enc_i x6))]⟩ : S)) g) (fun ex s => ex = .exit 0 ∧ s = (fun o : List Int => (⟨[(1, .bs false 2 (List.map enc_ii p3)), (5, .mp 0)], [(0, .map o)]⟩ : S)) out) := by
  refine AX.wkpost ?_
  refine AX.loop (G := Nat × (List Int × Int)) (fun q => (fun g : List Int × Int => (⟨[(1, .bs false 2 (List.map enc_ii p3)), (5, .mp 0), (17, .sl 1 0 x6.length), (18, .v (.int .i64 (x6.length : Int))), (19, .v (.int .i64 g.2))], [(0, .map g.1), (1, .arr 1 (List.map enc_i x6))]⟩ : S)) q.2) (fun q => m_impl_DeadArms_L1 p3 x6 q.1 q.2.1 q.2.2 = some out) (fun q => q.1) (n, g) h (Wk.refl _) ?_
  clear h
  rintro ⟨fu, v7, v8⟩ h
  cases fu with
  | zero => cases h
  | succ fu =>
    rw [m_impl_DeadArms_L1] at h
    refine AX.seq ?_
    refine AX.reg (its := []) [1, 5, 17, 18, 19, 20] [0, 1] (s1 := ⟨[(1, .bs false 2 (List.map enc_ii p3)), (5, .mp 0), (17, .sl 1 0 x6.length), (18, .v (.int .i64 (x6.length : Int))), (19, .v (.int .i64 v8)), (20, .v (.bool (decide (v8 < (x6.length : Int)))))], [(0, .map v7), (1, .arr 1 (List.map enc_i x6))]⟩) (C := True) (by kernel_rfl) trivial trivial ?_
    refine AX.seq ?_
    rcases bool_cases (decide (v8 < (x6.length : Int))) with b5 | b5
    · replace h := cd_t b5 h
      refine AX.condT (decide (v8 < (x6.length : Int))) (by kernel_rfl) b5 ?_
      refine AX.skip ?_
      refine AX.seq ?_
      refine AX.block ?_
      refine AX.seq ?_
      obtain ⟨g6, h⟩ := gd_e h
      refine AX.reg (its := [.auto {}, .auto { y := some (.v (.int .i64 (gt x6 v8))) }]) [1, 5, 7, 17, 18, 19] [0, 1] (s1 := ⟨[(1, .bs false 2 (List.map enc_ii p3)), (5, .mp 0), (7, .v (.int .i64 (gt x6 v8))), (17, .sl 1 0 x6.length), (18, .v (.int .i64 (x6.length : Int))), (19, .v (.int .i64 v8))], [(0, .map v7), (1, .arr 1 (List.map enc_i x6))]⟩) (C := (0 ≤ v8 ∧ v8 < (x6.length : Int)) ∧ (True ∧ (AV.v (((List.map enc_i x6).getD (0 + v8.toNat) []).getD 0 undef) = .v (.int .i64 (gt x6 v8)))) ∧ True) (by kernel_rfl) ⟨g6, ⟨⟨trivial, (congrArg (fun z : List Value => AV.v (z.getD 0 undef)) (idx_arr (enc := enc_i) rfl g6))⟩, trivial⟩⟩ trivial ?_
      obtain ⟨x9, e7, h⟩ := bd_e h
      refine AX.reg (its := [.auto {}, .auto {}, .auto {}, .call 106 [.bs false 2 (List.map enc_ii p3), .v (.int .i64 (gt x6 v8))] (handO (rho ([] ++ [])) [] [] ++ []) (callEv [] [] (.v (.int .i64 x9)) [])]) [1, 5, 17, 18, 19] [0, 1] (s1 := ⟨[(1, .bs false 2 (List.map enc_ii p3)), (5, .mp 0), (17, .sl 1 0 x6.length), (18, .v (.int .i64 (x6.length : Int))), (19, .v (.int .i64 v8))], [(0, .map (v7 ++ [x9])), (1, .arr 1 (List.map enc_i x6))]⟩) (C := ((([.bs false 2 (List.map enc_ii p3), .v (.int .i64 (gt x6 v8))] : List AV) = [.bs false 2 (List.map enc_ii p3), .v (.int .i64 (gt x6 v8))]) ∧ True) ∧ True) (by kernel_rfl) ⟨⟨rfl, trivial⟩, trivial⟩ ⟨call_ok (ks := []) (ns := []) (bor := []) (bobjs := []) (s_impl_first p3 (gt x6 v8) x9 e7) (.cons (.c1 (.c0 (.same _ (by kernel_rfl) (by kernel_rfl)))) (.cons (.c1 (.c0 (.same _ (by kernel_rfl) (by kernel_rfl)))) (.nil))) (by kernel_rfl) trivial, trivial⟩ ?_
      refine AX.reg (its := [.auto { raw := true }]) [1, 5, 17, 18, 19] [0, 1] (s1 := ⟨[(1, .bs false 2 (List.map enc_ii p3)), (5, .mp 0), (17, .sl 1 0 x6.length), (18, .v (.int .i64 (x6.length : Int))), (19, .v (.int .i64 (IntKind.wrap .i64 (v8 + 1))))], [(0, .map (v7 ++ [x9])), (1, .arr 1 (List.map enc_i x6))]⟩) (C := True) (by kernel_rfl) trivial trivial ?_
      refine ⟨(fu, (v7 ++ [x9], IntKind.wrap .i64 (v8 + 1))), h, Nat.lt_succ_self _, ?_⟩
      refine Wk.trans (Wk.forget [1, 5, 17, 18, 19] [0, 1] (s' := ⟨[(1, .bs false 2 (List.map enc_ii p3)), (5, .mp 0), (17, .sl 1 0 x6.length), (18, .v (.int .i64 (x6.length : Int))), (19, .v (.int .i64 (IntKind.wrap .i64 (v8 + 1))))], [(0, .map (v7 ++ [x9])), (1, .arr 1 (List.map enc_i x6))]⟩) (by kernel_rfl)) ?_
      exact Wk.refl _
    · replace h := cd_f b5 h
      refine AX.condF (decide (v8 < (x6.length : Int))) (by kernel_rfl) b5 ?_
      refine AX.exit ?_
      refine fin_wk (Wk.forget [1, 5] [0] (s' := ⟨[(1, .bs false 2 (List.map enc_ii p3)), (5, .mp 0)], [(0, .map v7)]⟩) (by kernel_rfl)) ?_
      have hr := Option.some.inj h
      subst hr
      exact ⟨_, Wk.refl _, ⟨rfl, rfl⟩⟩

theorem s_impl_DeadArms_L2 (p3 : List (Int × Int)) (x10 : List Int) (n : Nat) (g : List (Int) × Int) (out : List (Int)) (h : m_impl_DeadArms_L2 p3 x10 n g.1 g.2 = some out) :
    AX Try.prog 44 0 (codeAt [1, 1, 1, 1, 1, 0, 1, 1] (bodyOf Try.f33)) ((fun g : List (Int) × Int => (⟨[(5, .mp 0), (8, .sl 1 0 g.1.length), (29, .v (.int .i64 (p3.length : Int))), (30, .v (.int .i64 g.2))], [(0, .map x10), (1, .arr 1 (List.map enc_i g.1))]⟩ : S)) g) (fun ex s => ex = .exit 2 ∧ s = (fun o : List (Int) => (⟨[(8, .sl 0 0 o.length)], [(0, .arr 1 (List.map enc_i o))]⟩ : S)) out) := by
  refine AX.wkpost ?_
  refine AX.loop (G := Nat × (List (Int) × Int)) (fun q => (fun g : List (Int) × Int => (⟨[(5, .mp 0), (8, .sl 1 0 g.1.length), (29, .v (.int .i64 (p3.length : Int))), (30, .v (.int .i64 g.2))], [(0, .map x10), (1, .arr 1 (List.map enc_i g.1))]⟩ : S)) q.2) (fun q => m_impl_DeadArms_L2 p3 x10 q.1 q.2.1 q.2.2 = some out) (fun q => q.1) (n, g) h (Wk.refl _) ?_
  clear h
  rintro ⟨fu, v11, v12⟩ h
  cases fu with
  | zero => cases h
  | succ fu =>
    rw [m_impl_DeadArms_L2] at h
    refine AX.seq ?_
    refine AX.reg (its := []) [5, 8, 29, 30, 31] [0, 1] (s1 := ⟨[(5, .mp 0), (8, .sl 1 0 v11.length), (29, .v (.int .i64 (p3.length : Int))), (30, .v (.int .i64 v12)), (31, .v (.bool (decide (v12 < (p3.length : Int)))))], [(0, .map x10), (1, .arr 1 (List.map enc_i v11))]⟩) (C := True) (by kernel_rfl) trivial trivial ?_
    refine AX.seq ?_
    rcases bool_cases (decide (v12 < (p3.length : Int))) with b9 | b9
    · replace h := cd_t b9 h
      refine AX.condT (decide (v12 < (p3.length : Int))) (by kernel_rfl) b9 ?_
      refine AX.skip ?_
      refine AX.seq ?_
      refine AX.block ?_
      refine AX.seq ?_
      refine AX.reg (its := []) [5, 8, 9, 29, 30] [0, 1] (s1 := ⟨[(5, .mp 0), (8, .sl 1 0 v11.length), (9, .v (.int .i64 v12)), (29, .v (.int .i64 (p3.length : Int))), (30, .v (.int .i64 v12))], [(0, .map x10), (1, .arr 1 (List.map enc_i v11))]⟩) (C := True) (by kernel_rfl) trivial trivial ?_
      refine AX.seq ?_
      refine AX.reg (its := []) [5, 8, 9, 29, 30, 36] [0, 1] (s1 := ⟨[(5, .mp 0), (8, .sl 1 0 v11.length), (9, .v (.int .i64 v12)), (29, .v (.int .i64 (p3.length : Int))), (30, .v (.int .i64 v12)), (36, .v (.bool (!(List.any x10 (fun x => decide (x = v12))))))], [(0, .map x10), (1, .arr 1 (List.map enc_i v11))]⟩) (C := True) (by kernel_rfl) trivial trivial ?_
      rcases bool_cases ((!(List.any x10 (fun x => decide (x = v12))))) with b10 | b10
      · replace h := cd_t b10 h
        refine AX.condT ((!(List.any x10 (fun x => decide (x = v12))))) (by kernel_rfl) b10 ?_
        obtain ⟨g11, h⟩ := gd_e h
        refine AX.reg (its := [.auto {}, .auto {}, .auto { nk := 2 }, .auto { y := some (.sl 3 0 ((v11 ++ ([v12] : List (Int))).length)), els := some (List.map enc_i v11), els2 := some (List.map enc_i ([v12] : List (Int))), nk := 3 }]) [5, 8, 29, 30] [0, 3] (s1 := ⟨[(5, .mp 0), (8, .sl 3 0 ((v11 ++ ([v12] : List (Int))).length)), (29, .v (.int .i64 (p3.length : Int))), (30, .v (.int .i64 v12))], [(0, .map x10), (3, .arr 1 (List.map enc_i v11 ++ List.map enc_i ([v12] : List (Int))))]⟩) (C := ((((((List.map enc_i v11).drop 0).take (v11.length) = List.map enc_i v11) ∧ (((List.map enc_i ([v12] : List (Int))).drop 0).take (([v12] : List (Int)).length) = List.map enc_i ([v12] : List (Int)))) ∧ (List.map enc_i v11).length + (List.map enc_i ([v12] : List (Int))).length ≤ 1099511627776) ∧ (AV.sl 3 0 (List.map enc_i v11 ++ List.map enc_i ([v12] : List (Int))).length = AV.sl 3 0 (v11 ++ ([v12] : List (Int))).length)) ∧ True) (by kernel_rfl) ⟨⟨⟨⟨(dt_all (enc := enc_i) rfl rfl), (dt_all (enc := enc_i) rfl rfl)⟩, (by simp only [List.length_map, List.length_nil, List.length_replicate]; simpa using g11)⟩, sl_len (enc := enc_i) (app_can (enc := enc_i) rfl (rfl))⟩, trivial⟩ trivial ?_
        refine AX.reg (its := [.auto { raw := true }]) [5, 8, 29, 30] [0, 3] (s1 := ⟨[(5, .mp 0), (8, .sl 3 0 ((v11 ++ ([v12] : List (Int))).length)), (29, .v (.int .i64 (p3.length : Int))), (30, .v (.int .i64 (IntKind.wrap .i64 (v12 + 1))))], [(0, .map x10), (3, .arr 1 (List.map enc_i v11 ++ List.map enc_i ([v12] : List (Int))))]⟩) (C := True) (by kernel_rfl) trivial trivial ?_
        refine ⟨(fu, (v11 ++ ([v12] : List (Int)), IntKind.wrap .i64 (v12 + 1))), h, Nat.lt_succ_self _, ?_⟩
        refine Wk.trans (Wk.swap 1 3 (Nat.le_of_ble_eq_true (by kernel_rfl)) (Nat.le_of_ble_eq_true (by kernel_rfl)) rfl) ?_
        refine Wk.trans (Wk.forget [5, 8, 29, 30] [0, 1] (s' := ⟨[(5, .mp 0), (8, .sl 1 0 ((v11 ++ ([v12] : List (Int))).length)), (29, .v (.int .i64 (p3.length : Int))), (30, .v (.int .i64 (IntKind.wrap .i64 (v12 + 1))))], [(0, .map x10), (1, .arr 1 (List.map enc_i v11 ++ List.map enc_i ([v12] : List (Int))))]⟩) (by kernel_rfl)) ?_
        refine Wk.trans (Wk.of_eq (congrArg (fun z => (⟨[(5, .mp 0), (8, .sl 1 0 ((v11 ++ ([v12] : List (Int))).length)), (29, .v (.int .i64 (p3.length : Int))), (30, .v (.int .i64 (IntKind.wrap .i64 (v12 + 1))))], [(0, .map x10), (1, .arr 1 (z))]⟩ : S)) (app_can (enc := enc_i) rfl (rfl) : List.map enc_i v11 ++ List.map enc_i ([v12] : List (Int)) = List.map enc_i (v11 ++ ([v12] : List (Int)))))) ?_
        exact Wk.refl _
      · replace h := cd_f b10 h
        refine AX.condF ((!(List.any x10 (fun x => decide (x = v12))))) (by kernel_rfl) b10 ?_
        refine AX.skip ?_
        refine AX.reg (its := [.auto { raw := true }]) [5, 8, 29, 30] [0, 1] (s1 := ⟨[(5, .mp 0), (8, .sl 1 0 v11.length), (29, .v (.int .i64 (p3.length : Int))), (30, .v (.int .i64 (IntKind.wrap .i64 (v12 + 1))))], [(0, .map x10), (1, .arr 1 (List.map enc_i v11))]⟩) (C := True) (by kernel_rfl) trivial trivial ?_
        refine ⟨(fu, (v11, IntKind.wrap .i64 (v12 + 1))), h, Nat.lt_succ_self _, ?_⟩
        refine Wk.trans (Wk.forget [5, 8, 29, 30] [0, 1] (s' := ⟨[(5, .mp 0), (8, .sl 1 0 v11.length), (29, .v (.int .i64 (p3.length : Int))), (30, .v (.int .i64 (IntKind.wrap .i64 (v12 + 1))))], [(0, .map x10), (1, .arr 1 (List.map enc_i v11))]⟩) (by kernel_rfl)) ?_
        exact Wk.refl _
    · replace h := cd_f b9 h
      refine AX.condF (decide (v12 < (p3.length : Int))) (by kernel_rfl) b9 ?_
      refine AX.exit ?_
      refine fin_wk (Wk.swap 0 1 (Nat.le_of_ble_eq_true (by kernel_rfl)) (Nat.le_of_ble_eq_true (by kernel_rfl)) rfl) ?_
      refine fin_wk (Wk.forget [8] [0] (s' := ⟨[(8, .sl 0 0 v11.length)], [(0, .arr 1 (List.map enc_i v11))]⟩) (by kernel_rfl)) ?_
      have hr := Option.some.inj h
      subst hr
      exact ⟨_, Wk.refl _, ⟨rfl, rfl⟩⟩

theorem s_impl_DeadArms (p1 : List (ByteArray × Int)) (p2 : Int) (p3 : List (Int × Int)) (r : List (Int)) (h : m_impl_DeadArms p1 p2 p3 = some r) :
    Eng.Spec Try.prog 33 [.agg [.bs false 2 (List.map enc_si p1), .v (.int .i64 p2)], .bs false 2 (List.map enc_ii p3)] [] (.sl 0 0 r.length) [.arr 1 (List.map enc_i r)] := by
  unfold m_impl_DeadArms at h
  refine Eng.Spec.body Try.func33 (by kernel_rfl) rfl (by kernel_rfl) ?_
  refine AX.wkpost ?_
  refine AX.seq ?_
  refine AX.reg (its := [.auto { nk := 0 }]) [1, 2] [0] (s1 := ⟨[(1, .bs false 2 (List.map enc_ii p3)), (2, .pt 0 0)], [(0, .box [.bs false 2 (List.map enc_si p1), .v (.int .i64 p2)])]⟩) (C := True) (by kernel_rfl) trivial trivial ?_
  refine AX.seq ?_
  refine AX.seq ?_
  obtain ⟨x4, e1, h⟩ := bd_e h
  refine AX.reg (its := [.auto {}, .auto {}, .call 105 [.agg [.bs false 2 (List.map enc_si p1), .v (.int .i64 p2)], .bs false 2 (List.map enc_ii p3)] (handO (rho ([] ++ [])) [] [] ++ []) (callEv [] [] (.v (.bool x4)) [])]) [1, 2, 13] [0] (s1 := ⟨[(1, .bs false 2 (List.map enc_ii p3)), (2, .pt 0 0), (13, .v (.bool (!x4)))], [(0, .box [.bs false 2 (List.map enc_si p1), .v (.int .i64 p2)])]⟩) (C := ((([.agg [.bs false 2 (List.map enc_si p1), .v (.int .i64 p2)], .bs false 2 (List.map enc_ii p3)] : List AV) = [.agg [.bs false 2 (List.map enc_si p1), .v (.int .i64 p2)], .bs false 2 (List.map enc_ii p3)]) ∧ True) ∧ True) (by kernel_rfl) ⟨⟨rfl, trivial⟩, trivial⟩ ⟨call_ok (ks := []) (ns := []) (bor := []) (bobjs := []) (s_impl_armsOk p1 p2 p3 x4 e1) (.cons (.c1 (.agg (.cons (.same _ (by kernel_rfl) (by kernel_rfl)) (.cons (.same _ (by kernel_rfl) (by kernel_rfl)) (.nil))))) (.cons (.c1 (.c0 (.same _ (by kernel_rfl) (by kernel_rfl)))) (.nil))) (by kernel_rfl) trivial, trivial⟩ ?_
  rcases bool_cases ((!x4)) with b2 | b2
  · replace h := cd_t b2 h
    refine AX.condT ((!x4)) (by kernel_rfl) b2 ?_
    refine AX.seq ?_
    refine AX.reg (its := []) [4] [] (s1 := ⟨[(4, .v (.slice none 0 0))], []⟩) (C := True) (by kernel_rfl) trivial trivial ?_
    refine AX.ret ?_
    refine fin_wk (Wk.mat 4 0 1 (by kernel_rfl) (Nat.le_of_ble_eq_true (by kernel_rfl)) (by kernel_rfl) rfl) ?_
    refine fin_wk (Wk.forget [4] [0] (s' := ⟨[(4, .sl 0 0 (([] : List (Int)).length))], [(0, .arr 1 (List.map enc_i ([] : List (Int))))]⟩) (by kernel_rfl)) ?_
    have hr := Option.some.inj h
    subst hr
    exact ⟨_, Wk.refl _, .inr rfl, ⟨[0], by kernel_rfl, ⟨rfl, trivial⟩, [.sl 0 0 (([] : List (Int)).length)], by kernel_rfl, by kernel_rfl⟩⟩
  · replace h := cd_f b2 h
    refine AX.condF ((!x4)) (by kernel_rfl) b2 ?_
    refine AX.skip ?_
    refine AX.seq ?_
    refine AX.reg (its := [.auto { nk := 1 }]) [1, 2, 5] [0, 1] (s1 := ⟨[(1, .bs false 2 (List.map enc_ii p3)), (2, .pt 0 0), (5, .mp 1)], [(0, .box [.bs false 2 (List.map enc_si p1), .v (.int .i64 p2)]), (1, .map ([] : List Int))]⟩) (C := True) (by kernel_rfl) trivial trivial ?_
    refine AX.seq ?_
    refine AX.seq ?_
    obtain ⟨x5, e3, h⟩ := bd_e h
    obtain ⟨x6, e4, h⟩ := bd_e h
    refine AX.reg (its := [.auto {}, .call 81 [.agg [.bs false 2 (List.map enc_si p1), .v (.int .i64 p2)]] (handO (rho ([] ++ [])) [] [] ++ []) (callEv [] [] (.v (.int .i64 x5)) []), .call 84 [.v (.int .i64 x5)] (handO (rho ([] ++ [2])) [] [] ++ []) (callEv [] [2] (.sl 0 0 x6.length) [.arr 1 (List.map enc_i x6)])]) [1, 5, 17, 18, 19] [1, 2] (s1 := ⟨[(1, .bs false 2 (List.map enc_ii p3)), (5, .mp 1), (17, .sl 2 0 x6.length), (18, .v (.int .i64 (x6.length : Int))), (19, .v (.int .i64 0))], [(1, .map ([] : List Int)), (2, .arr 1 (List.map enc_i x6))]⟩) (C := ((([.agg [.bs false 2 (List.map enc_si p1), .v (.int .i64 p2)]] : List AV) = [.agg [.bs false 2 (List.map enc_si p1), .v (.int .i64 p2)]]) ∧ True) ∧ ((([.v (.int .i64 x5)] : List AV) = [.v (.int .i64 x5)]) ∧ True) ∧ True) (by kernel_rfl) ⟨⟨rfl, trivial⟩, ⟨⟨rfl, trivial⟩, trivial⟩⟩ ⟨call_ok (ks := []) (ns := []) (bor := []) (bobjs := []) (s_impl_Flag_mask p1 p2 x5 e3) (.cons (.c1 (.agg (.cons (.same _ (by kernel_rfl) (by kernel_rfl)) (.cons (.same _ (by kernel_rfl) (by kernel_rfl)) (.nil))))) (.nil)) (by kernel_rfl) trivial, ⟨call_ok (ks := []) (ns := [2]) (bor := []) (bobjs := []) (s_impl_inside x5 x6 e4) (.cons (.c1 (.c0 (.same _ (by kernel_rfl) (by kernel_rfl)))) (.nil)) (by kernel_rfl) trivial, trivial⟩⟩ ?_
    refine AX.block ?_
    obtain ⟨x10, e8, h⟩ := bd_e h
    refine AX.wk (Wk.swap 0 1 (Nat.le_of_ble_eq_true (by kernel_rfl)) (Nat.le_of_ble_eq_true (by kernel_rfl)) rfl) ?_
    refine AX.wk (Wk.swap 1 2 (Nat.le_of_ble_eq_true (by kernel_rfl)) (Nat.le_of_ble_eq_true (by kernel_rfl)) rfl) ?_
    refine AX.wk (Wk.forget [1, 5, 17, 18, 19] [0, 1] (s' := ⟨[(1, .bs false 2 (List.map enc_ii p3)), (5, .mp 0), (17, .sl 1 0 x6.length), (18, .v (.int .i64 (x6.length : Int))), (19, .v (.int .i64 0))], [(0, .map ([] : List Int)), (1, .arr 1 (List.map enc_i x6))]⟩) (by kernel_rfl)) ?_
    refine AX.mono (s_impl_DeadArms_L1 p3 x6 FU (([] : List Int), 0) x10 e8) ?_
    rintro _ _ ⟨rfl, rfl⟩
    skip
    refine AX.seq ?_
    refine AX.reg (its := []) [1, 5, 8] [0] (s1 := ⟨[(1, .bs false 2 (List.map enc_ii p3)), (5, .mp 0), (8, .v (.slice none 0 0))], [(0, .map x10)]⟩) (C := True) (by kernel_rfl) trivial trivial ?_
    refine AX.seq ?_
    refine AX.seq ?_
    refine AX.reg (its := [.auto {}, .auto { y := some (.v (.int .i64 (p3.length : Int))) }]) [5, 8, 29, 30] [0] (s1 := ⟨[(5, .mp 0), (8, .v (.slice none 0 0)), (29, .v (.int .i64 (p3.length : Int))), (30, .v (.int .i64 0))], [(0, .map x10)]⟩) (C := (True ∧ (AV.v (.int .i64 ((List.map enc_ii p3).length : Int)) = AV.v (.int .i64 (p3.length : Int)))) ∧ True) (by kernel_rfl) ⟨⟨trivial, len_map enc_ii p3⟩, trivial⟩ trivial ?_
    refine AX.block ?_
    obtain ⟨x13, e12, h⟩ := bd_e h
    refine AX.wk (Wk.mat 8 1 1 (by kernel_rfl) (Nat.le_of_ble_eq_true (by kernel_rfl)) (by kernel_rfl) rfl) ?_
    refine AX.wk (Wk.forget [5, 8, 29, 30] [0, 1] (s' := ⟨[(5, .mp 0), (8, .sl 1 0 (([] : List (Int)).length)), (29, .v (.int .i64 (p3.length : Int))), (30, .v (.int .i64 0))], [(0, .map x10), (1, .arr 1 (List.map enc_i ([] : List (Int))))]⟩) (by kernel_rfl)) ?_
    refine AX.mono (s_impl_DeadArms_L2 p3 x10 FU (([] : List (Int)), 0) x13 e12) ?_
    rintro _ _ ⟨rfl, rfl⟩
    skip
    refine AX.seq ?_
    obtain ⟨x14, e13, h⟩ := bd_e h
    refine AX.reg (its := [.auto {}, .call 97 [.sl 0 0 x13.length] (handO (rho ([0] ++ [])) [0] [.arr 1 (List.map enc_i x13)] ++ []) (callEv [0] [] (.sl 0 0 x13.length) [.arr 1 (List.map enc_i x13)])]) [4] [0] (s1 := ⟨[(4, .sl 0 0 x13.length)], [(0, .arr 1 (List.map enc_i x13))]⟩) (C := ((([.sl 0 0 x13.length] : List AV) = [.sl 0 0 x13.length]) ∧ (AO.arr 1 (List.map enc_i x13) = AO.arr 1 (List.map enc_i x13)) ∧ True) ∧ True) (by kernel_rfl) ⟨⟨rfl, rfl, trivial⟩, trivial⟩ ⟨call_ok (ks := [0]) (ns := []) (bor := []) (bobjs := []) (s_slices_Clip_hi x13 x14 e13) (.cons (.c1 (.c0 (.same _ (by kernel_rfl) (by kernel_rfl)))) (.nil)) (by kernel_rfl) ⟨.inr rfl, trivial⟩, trivial⟩ ?_
    refine AX.ret ?_
    refine fin_wk (Wk.forget [4] [0] (s' := ⟨[(4, .sl 0 0 x13.length)], [(0, .arr 1 (List.map enc_i x13))]⟩) (by kernel_rfl)) ?_
    have hr := Option.some.inj h
    subst hr
    exact ⟨_, Wk.refl _, .inr rfl, ⟨[0], by kernel_rfl, ⟨rfl, trivial⟩, [.sl 0 0 x13.length], by kernel_rfl, by kernel_rfl⟩⟩

theorem s_laws_eqIntS_L1 (p1 : List (Int)) (p2 : List (Int)) (n : Nat) (g : Int) (out : Unit ⊕ Unit) (h : m_laws_eqIntS_L1 p1 p2 n g = some out) :
    AX Try.prog 26 0 (codeAt [1, 1, 0, 1, 1] (bodyOf Try.f27)) ((fun g : Int => (⟨[(0, .bs false 1 (List.map enc_i p1)), (1, .bs false 1 (List.map enc_i p2)), (5, .v (.int .i64 g))], []⟩ : S)) g) (fun ex s => (∃ o : Unit, out = Sum.inl o ∧ ex = .ret ∧ s = ⟨[(4, .v (.bool false))], []⟩) ∨ (∃ o : Unit, out = Sum.inr o ∧ ex = .exit 0 ∧ s = ⟨[], []⟩)) := by
  refine AX.wkpost ?_
  refine AX.loop (G := Nat × (Int)) (fun q => (fun g : Int => (⟨[(0, .bs false 1 (List.map enc_i p1)), (1, .bs false 1 (List.map enc_i p2)), (5, .v (.int .i64 g))], []⟩ : S)) q.2) (fun q => m_laws_eqIntS_L1 p1 p2 q.1 q.2 = some out) (fun q => q.1) (n, g) h (Wk.refl _) ?_
  clear h
  rintro ⟨fu, v3⟩ h
  cases fu with
  | zero => cases h
  | succ fu =>
    rw [m_laws_eqIntS_L1] at h
    refine AX.seq ?_
    refine AX.seq ?_
    refine AX.reg (its := [.auto {}, .auto {}, .auto { y := some (.v (.int .i64 (p1.length : Int))) }]) [0, 1, 5, 14] [] (s1 := ⟨[(0, .bs false 1 (List.map enc_i p1)), (1, .bs false 1 (List.map enc_i p2)), (5, .v (.int .i64 v3)), (14, .v (.bool (decide (v3 < (p1.length : Int)))))], []⟩) (C := (True ∧ (AV.v (.int .i64 ((List.map enc_i p1).length : Int)) = AV.v (.int .i64 (p1.length : Int)))) ∧ True) (by kernel_rfl) ⟨⟨trivial, len_map enc_i p1⟩, trivial⟩ trivial ?_
    rcases bool_cases (decide (v3 < (p1.length : Int))) with b2 | b2
    · replace h := cd_t b2 h
      refine AX.condT (decide (v3 < (p1.length : Int))) (by kernel_rfl) b2 ?_
      refine AX.skip ?_
      refine AX.seq ?_
      refine AX.block ?_
      refine AX.seq ?_
      obtain ⟨g3, h⟩ := gd_e h
      obtain ⟨g4, h⟩ := gd_e h
      refine AX.drw mixed (its := [.auto {}, .auto {}, .auto { y := some (.be 1 (enc_i (gt p1 v3)) 0) }, .auto {}, .auto {}, .auto {}, .auto { y := some (.be 1 (enc_i (gt p2 v3)) 0) }]) [0, 1, 5, 25] [] (s1 := ⟨[(0, .bs false 1 (List.map enc_i p1)), (1, .bs false 1 (List.map enc_i p2)), (5, .v (.int .i64 v3)), (25, .v (.bool (!decide ((gt p1 v3) = (gt p2 v3)))))], []⟩) (C := ((0 ≤ v3 ∧ v3 < ((List.map enc_i p1).length : Int)) ∧ (AV.be 1 ((List.map enc_i p1).getD v3.toNat []) 0 = AV.be 1 (enc_i (gt p1 v3)) 0)) ∧ ((0 ≤ v3 ∧ v3 < ((List.map enc_i p2).length : Int)) ∧ (AV.be 1 ((List.map enc_i p2).getD v3.toNat []) 0 = AV.be 1 (enc_i (gt p2 v3)) 0)) ∧ True) (by kernel_rfl) ⟨idx_bs enc_i p1 v3 1 g3, ⟨idx_bs enc_i p2 v3 1 g4, trivial⟩⟩ trivial ?_
      rcases bool_cases ((!decide ((gt p1 v3) = (gt p2 v3)))) with b5 | b5
      · replace h := cd_t b5 h
        refine AX.condT ((!decide ((gt p1 v3) = (gt p2 v3)))) (by kernel_rfl) b5 ?_
        refine AX.seq ?_
        refine AX.reg (its := []) [4] [] (s1 := ⟨[(4, .v (.bool false))], []⟩) (C := True) (by kernel_rfl) trivial trivial ?_
        refine AX.ret ?_
        refine fin_wk (Wk.forget [4] [] (s' := ⟨[(4, .v (.bool false))], []⟩) (by kernel_rfl)) ?_
        have hr := Option.some.inj h
        subst hr
        exact ⟨_, Wk.refl _, .inl ⟨(), rfl, rfl, rfl⟩⟩
      · replace h := cd_f b5 h
        refine AX.condF ((!decide ((gt p1 v3) = (gt p2 v3)))) (by kernel_rfl) b5 ?_
        refine AX.skip ?_
        refine AX.reg (its := [.auto {}, .auto { raw := true }]) [0, 1, 5] [] (s1 := ⟨[(0, .bs false 1 (List.map enc_i p1)), (1, .bs false 1 (List.map enc_i p2)), (5, .v (.int .i64 (IntKind.wrap .i64 (v3 + 1))))], []⟩) (C := True) (by kernel_rfl) trivial trivial ?_
        refine ⟨(fu, IntKind.wrap .i64 (v3 + 1)), h, Nat.lt_succ_self _, ?_⟩
        refine Wk.trans (Wk.forget [0, 1, 5] [] (s' := ⟨[(0, .bs false 1 (List.map enc_i p1)), (1, .bs false 1 (List.map enc_i p2)), (5, .v (.int .i64 (IntKind.wrap .i64 (v3 + 1))))], []⟩) (by kernel_rfl)) ?_
        exact Wk.refl _
    · replace h := cd_f b2 h
      refine AX.condF (decide (v3 < (p1.length : Int))) (by kernel_rfl) b2 ?_
      refine AX.exit ?_
      refine fin_wk (Wk.forget [] [] (s' := ⟨[], []⟩) (by kernel_rfl)) ?_
      have hr := Option.some.inj h
      subst hr
      exact ⟨_, Wk.refl _, .inr ⟨(), rfl, rfl, rfl⟩⟩

theorem s_laws_eqIntS (p1 : List (Int)) (p2 : List (Int)) (r : Bool) (h : m_laws_eqIntS p1 p2 = some r) :
    Eng.Spec Try.prog 27 [.bs false 1 (List.map enc_i p1), .bs false 1 (List.map enc_i p2)] [] (.v (.bool r)) [] := by
  unfold m_laws_eqIntS at h
  refine Eng.Spec.body Try.func27 (by kernel_rfl) rfl (by kernel_rfl) ?_
  refine AX.wkpost ?_
  refine AX.seq ?_
  refine AX.reg (its := []) [0, 1] [] (s1 := ⟨[(0, .bs false 1 (List.map enc_i p1)), (1, .bs false 1 (List.map enc_i p2))], []⟩) (C := True) (by kernel_rfl) trivial trivial ?_
  refine AX.seq ?_
  refine AX.seq ?_
  refine AX.reg (its := [.auto {}, .auto { y := some (.v (.int .i64 (p1.length : Int))) }, .auto {}, .auto { y := some (.v (.int .i64 (p2.length : Int))) }]) [0, 1, 10] [] (s1 := ⟨[(0, .bs false 1 (List.map enc_i p1)), (1, .bs false 1 (List.map enc_i p2)), (10, .v (.bool (!decide ((p1.length : Int) = (p2.length : Int)))))], []⟩) (C := (True ∧ (AV.v (.int .i64 ((List.map enc_i p1).length : Int)) = AV.v (.int .i64 (p1.length : Int)))) ∧ (True ∧ (AV.v (.int .i64 ((List.map enc_i p2).length : Int)) = AV.v (.int .i64 (p2.length : Int)))) ∧ True) (by kernel_rfl) ⟨⟨trivial, len_map enc_i p1⟩, ⟨⟨trivial, len_map enc_i p2⟩, trivial⟩⟩ trivial ?_
  rcases bool_cases ((!decide ((p1.length : Int) = (p2.length : Int)))) with b1 | b1
  · replace h := cd_t b1 h
    refine AX.condT ((!decide ((p1.length : Int) = (p2.length : Int)))) (by kernel_rfl) b1 ?_
    refine AX.seq ?_
    refine AX.reg (its := []) [4] [] (s1 := ⟨[(4, .v (.bool false))], []⟩) (C := True) (by kernel_rfl) trivial trivial ?_
    refine AX.ret ?_
    refine fin_wk (Wk.forget [4] [] (s' := ⟨[(4, .v (.bool false))], []⟩) (by kernel_rfl)) ?_
    have hr := Option.some.inj h
    subst hr
    exact ⟨_, Wk.refl _, .inr rfl, ⟨[], by kernel_rfl, trivial, [.v (.bool false)], by kernel_rfl, by kernel_rfl⟩⟩
  · replace h := cd_f b1 h
    refine AX.condF ((!decide ((p1.length : Int) = (p2.length : Int)))) (by kernel_rfl) b1 ?_
    refine AX.skip ?_
    refine AX.seq ?_
    refine AX.seq ?_
    refine AX.reg (its := []) [0, 1, 5] [] (s1 := ⟨[(0, .bs false 1 (List.map enc_i p1)), (1, .bs false 1 (List.map enc_i p2)), (5, .v (.int .i64 0))], []⟩) (C := True) (by kernel_rfl) trivial trivial ?_
    refine AX.block ?_
    obtain ⟨x4, e6, h⟩ := bd_e h
    refine AX.wk (Wk.forget [0, 1, 5] [] (s' := ⟨[(0, .bs false 1 (List.map enc_i p1)), (1, .bs false 1 (List.map enc_i p2)), (5, .v (.int .i64 0))], []⟩) (by kernel_rfl)) ?_
    refine AX.mono (s_laws_eqIntS_L1 p1 p2 FU 0 x4 e6) ?_
    rintro _ _ (⟨x5, rfl, rfl, rfl⟩ | ⟨x6, rfl, rfl, rfl⟩)
    · replace h := sm_l h
      refine fin_wk (Wk.forget [4] [] (s' := ⟨[(4, .v (.bool false))], []⟩) (by kernel_rfl)) ?_
      have hr := Option.some.inj h
      subst hr
      exact ⟨_, Wk.refl _, .inr rfl, ⟨[], by kernel_rfl, trivial, [.v (.bool false)], by kernel_rfl, by kernel_rfl⟩⟩
    · replace h := sm_r h
      refine AX.seq ?_
      refine AX.reg (its := []) [4] [] (s1 := ⟨[(4, .v (.bool true))], []⟩) (C := True) (by kernel_rfl) trivial trivial ?_
      refine AX.ret ?_
      refine fin_wk (Wk.forget [4] [] (s' := ⟨[(4, .v (.bool true))], []⟩) (by kernel_rfl)) ?_
      have hr := Option.some.inj h
      subst hr
      exact ⟨_, Wk.refl _, .inr rfl, ⟨[], by kernel_rfl, trivial, [.v (.bool true)], by kernel_rfl, by kernel_rfl⟩⟩

theorem s_laws_eqDef (p1 : ByteArray) (p2 : Int) (p3 : ByteArray) (p4 : Int) (r : Bool) (h : m_laws_eqDef p1 p2 p3 p4 = some r) :
    Eng.Spec Try.prog 151 [.agg [.v (.string p1), .v (.int .i64 p2)], .agg [.v (.string p3), .v (.int .i64 p4)]] [] (.v (.bool r)) [] := by
  unfold m_laws_eqDef at h
  refine Eng.Spec.body Try.func151 (by kernel_rfl) rfl (by kernel_rfl) ?_
  refine AX.wkpost ?_
  refine AX.seq ?_
  refine AX.reg (its := [.auto { nk := 0 }, .auto { nk := 1 }]) [2, 3] [0, 1] (s1 := ⟨[(2, .pt 0 0), (3, .pt 1 0)], [(0, .box [.v (.string p1), .v (.int .i64 p2)]), (1, .box [.v (.string p3), .v (.int .i64 p4)])]⟩) (C := True) (by kernel_rfl) trivial trivial ?_
  refine AX.seq ?_
  refine AX.seq ?_
  refine AX.reg (its := []) [2, 3, 9] [0, 1] (s1 := ⟨[(2, .pt 0 0), (3, .pt 1 0), (9, .v (.bool (!decide (p1 = p3))))], [(0, .box [.v (.string p1), .v (.int .i64 p2)]), (1, .box [.v (.string p3), .v (.int .i64 p4)])]⟩) (C := True) (by kernel_rfl) trivial trivial ?_
  rcases bool_cases ((!decide (p1 = p3))) with b1 | b1
  · replace h := cd_t b1 h
    refine AX.condT ((!decide (p1 = p3))) (by kernel_rfl) b1 ?_
    refine AX.seq ?_
    refine AX.reg (its := []) [4] [] (s1 := ⟨[(4, .v (.bool false))], []⟩) (C := True) (by kernel_rfl) trivial trivial ?_
    refine AX.ret ?_
    refine fin_wk (Wk.forget [4] [] (s' := ⟨[(4, .v (.bool false))], []⟩) (by kernel_rfl)) ?_
    have hr := Option.some.inj h
    subst hr
    exact ⟨_, Wk.refl _, .inr rfl, ⟨[], by kernel_rfl, trivial, [.v (.bool false)], by kernel_rfl, by kernel_rfl⟩⟩
  · replace h := cd_f b1 h
    refine AX.condF ((!decide (p1 = p3))) (by kernel_rfl) b1 ?_
    refine AX.skip ?_
    refine AX.seq ?_
    refine AX.seq ?_
    refine AX.reg (its := []) [14] [] (s1 := ⟨[(14, .v (.bool (!decide (p2 = p4))))], []⟩) (C := True) (by kernel_rfl) trivial trivial ?_
    rcases bool_cases ((!decide (p2 = p4))) with b2 | b2
    · replace h := cd_t b2 h
      refine AX.condT ((!decide (p2 = p4))) (by kernel_rfl) b2 ?_
      refine AX.seq ?_
      refine AX.reg (its := []) [4] [] (s1 := ⟨[(4, .v (.bool false))], []⟩) (C := True) (by kernel_rfl) trivial trivial ?_
      refine AX.ret ?_
      refine fin_wk (Wk.forget [4] [] (s' := ⟨[(4, .v (.bool false))], []⟩) (by kernel_rfl)) ?_
      have hr := Option.some.inj h
      subst hr
      exact ⟨_, Wk.refl _, .inr rfl, ⟨[], by kernel_rfl, trivial, [.v (.bool false)], by kernel_rfl, by kernel_rfl⟩⟩
    · replace h := cd_f b2 h
      refine AX.condF ((!decide (p2 = p4))) (by kernel_rfl) b2 ?_
      refine AX.skip ?_
      refine AX.seq ?_
      refine AX.reg (its := []) [4] [] (s1 := ⟨[(4, .v (.bool true))], []⟩) (C := True) (by kernel_rfl) trivial trivial ?_
      refine AX.ret ?_
      refine fin_wk (Wk.forget [4] [] (s' := ⟨[(4, .v (.bool true))], []⟩) (by kernel_rfl)) ?_
      have hr := Option.some.inj h
      subst hr
      exact ⟨_, Wk.refl _, .inr rfl, ⟨[], by kernel_rfl, trivial, [.v (.bool true)], by kernel_rfl, by kernel_rfl⟩⟩

theorem s_laws_eqDefS_L1 (p1 : List (ByteArray × Int)) (p2 : List (ByteArray × Int)) (n : Nat) (g : Int) (out : Unit ⊕ Unit) (h : m_laws_eqDefS_L1 p1 p2 n g = some out) :
    AX Try.prog 27 0 (codeAt [1, 1, 0, 1, 1] (bodyOf Try.f102)) ((fun g : Int => (⟨[(0, .bs false 2 (List.map enc_si p1)), (1, .bs false 2 (List.map enc_si p2)), (5, .v (.int .i64 g))], []⟩ : S)) g) (fun ex s => (∃ o : Unit, out = Sum.inl o ∧ ex = .ret ∧ s = ⟨[(4, .v (.bool false))], []⟩) ∨ (∃ o : Unit, out = Sum.inr o ∧ ex = .exit 0 ∧ s = ⟨[], []⟩)) := by
  refine AX.wkpost ?_
  refine AX.loop (G := Nat × (Int)) (fun q => (fun g : Int => (⟨[(0, .bs false 2 (List.map enc_si p1)), (1, .bs false 2 (List.map enc_si p2)), (5, .v (.int .i64 g))], []⟩ : S)) q.2) (fun q => m_laws_eqDefS_L1 p1 p2 q.1 q.2 = some out) (fun q => q.1) (n, g) h (Wk.refl _) ?_
  clear h
  rintro ⟨fu, v3⟩ h
  cases fu with
  | zero => cases h
  | succ fu =>
    rw [m_laws_eqDefS_L1] at h
    refine AX.seq ?_
    refine AX.seq ?_
    refine AX.reg (its := [.auto {}, .auto {}, .auto { y := some (.v (.int .i64 (p1.length : Int))) }]) [0, 1, 5, 14] [] (s1 := ⟨[(0, .bs false 2 (List.map enc_si p1)), (1, .bs false 2 (List.map enc_si p2)), (5, .v (.int .i64 v3)), (14, .v (.bool (decide (v3 < (p1.length : Int)))))], []⟩) (C := (True ∧ (AV.v (.int .i64 ((List.map enc_si p1).length : Int)) = AV.v (.int .i64 (p1.length : Int)))) ∧ True) (by kernel_rfl) ⟨⟨trivial, len_map enc_si p1⟩, trivial⟩ trivial ?_
    rcases bool_cases (decide (v3 < (p1.length : Int))) with b2 | b2
    · replace h := cd_t b2 h
      refine AX.condT (decide (v3 < (p1.length : Int))) (by kernel_rfl) b2 ?_
      refine AX.skip ?_
      refine AX.seq ?_
      refine AX.block ?_
      refine AX.seq ?_
      obtain ⟨g3, h⟩ := gd_e h
      obtain ⟨g4, h⟩ := gd_e h
      obtain ⟨x4, e5, h⟩ := bd_e h
      refine AX.drw mixed (its := [.auto {}, .auto {}, .auto { y := some (.be 2 (enc_si (gt p1 v3)) 0) }, .auto {}, .auto {}, .auto {}, .auto { y := some (.be 2 (enc_si (gt p2 v3)) 0) }, .auto {}, .call 151 [.agg [.v (.string ((gt p1 v3).1)), .v (.int .i64 ((gt p1 v3).2))], .agg [.v (.string ((gt p2 v3).1)), .v (.int .i64 ((gt p2 v3).2))]] (handO (rho ([] ++ [])) [] [] ++ []) (callEv [] [] (.v (.bool x4)) [])]) [0, 1, 5, 26] [] (s1 := ⟨[(0, .bs false 2 (List.map enc_si p1)), (1, .bs false 2 (List.map enc_si p2)), (5, .v (.int .i64 v3)), (26, .v (.bool (!x4)))], []⟩) (C := ((0 ≤ v3 ∧ v3 < ((List.map enc_si p1).length : Int)) ∧ (AV.be 2 ((List.map enc_si p1).getD v3.toNat []) 0 = AV.be 2 (enc_si (gt p1 v3)) 0)) ∧ ((0 ≤ v3 ∧ v3 < ((List.map enc_si p2).length : Int)) ∧ (AV.be 2 ((List.map enc_si p2).getD v3.toNat []) 0 = AV.be 2 (enc_si (gt p2 v3)) 0)) ∧ ((([.agg [.v (.string ((gt p1 v3).1)), .v (.int .i64 ((gt p1 v3).2))], .agg [.v (.string ((gt p2 v3).1)), .v (.int .i64 ((gt p2 v3).2))]] : List AV) = [.agg [.v (.string ((gt p1 v3).1)), .v (.int .i64 ((gt p1 v3).2))], .agg [.v (.string ((gt p2 v3).1)), .v (.int .i64 ((gt p2 v3).2))]]) ∧ True) ∧ True) (by kernel_rfl) ⟨idx_bs enc_si p1 v3 2 g3, ⟨idx_bs enc_si p2 v3 2 g4, ⟨⟨rfl, trivial⟩, trivial⟩⟩⟩ ⟨call_ok (ks := []) (ns := []) (bor := []) (bobjs := []) (s_laws_eqDef ((gt p1 v3).1) ((gt p1 v3).2) ((gt p2 v3).1) ((gt p2 v3).2) x4 e5) (.cons (.c1 (.agg (.cons (.same _ (by kernel_rfl) (by kernel_rfl)) (.cons (.same _ (by kernel_rfl) (by kernel_rfl)) (.nil))))) (.cons (.c1 (.agg (.cons (.same _ (by kernel_rfl) (by kernel_rfl)) (.cons (.same _ (by kernel_rfl) (by kernel_rfl)) (.nil))))) (.nil))) (by kernel_rfl) trivial, trivial⟩ ?_
      rcases bool_cases ((!x4)) with b6 | b6
      · replace h := cd_t b6 h
        refine AX.condT ((!x4)) (by kernel_rfl) b6 ?_
        refine AX.seq ?_
        refine AX.reg (its := []) [4] [] (s1 := ⟨[(4, .v (.bool false))], []⟩) (C := True) (by kernel_rfl) trivial trivial ?_
        refine AX.ret ?_
        refine fin_wk (Wk.forget [4] [] (s' := ⟨[(4, .v (.bool false))], []⟩) (by kernel_rfl)) ?_
        have hr := Option.some.inj h
        subst hr
        exact ⟨_, Wk.refl _, .inl ⟨(), rfl, rfl, rfl⟩⟩
      · replace h := cd_f b6 h
        refine AX.condF ((!x4)) (by kernel_rfl) b6 ?_
        refine AX.skip ?_
        refine AX.reg (its := [.auto {}, .auto { raw := true }]) [0, 1, 5] [] (s1 := ⟨[(0, .bs false 2 (List.map enc_si p1)), (1, .bs false 2 (List.map enc_si p2)), (5, .v (.int .i64 (IntKind.wrap .i64 (v3 + 1))))], []⟩) (C := True) (by kernel_rfl) trivial trivial ?_
        refine ⟨(fu, IntKind.wrap .i64 (v3 + 1)), h, Nat.lt_succ_self _, ?_⟩
        refine Wk.trans (Wk.forget [0, 1, 5] [] (s' := ⟨[(0, .bs false 2 (List.map enc_si p1)), (1, .bs false 2 (List.map enc_si p2)), (5, .v (.int .i64 (IntKind.wrap .i64 (v3 + 1))))], []⟩) (by kernel_rfl)) ?_
        exact Wk.refl _
    · replace h := cd_f b2 h
      refine AX.condF (decide (v3 < (p1.length : Int))) (by kernel_rfl) b2 ?_
      refine AX.exit ?_
      refine fin_wk (Wk.forget [] [] (s' := ⟨[], []⟩) (by kernel_rfl)) ?_
      have hr := Option.some.inj h
      subst hr
      exact ⟨_, Wk.refl _, .inr ⟨(), rfl, rfl, rfl⟩⟩

theorem s_laws_eqDefS (p1 : List (ByteArray × Int)) (p2 : List (ByteArray × Int)) (r : Bool) (h : m_laws_eqDefS p1 p2 = some r) :
    Eng.Spec Try.prog 102 [.bs false 2 (List.map enc_si p1), .bs false 2 (List.map enc_si p2)] [] (.v (.bool r)) [] := by
  unfold m_laws_eqDefS at h
  refine Eng.Spec.body Try.func102 (by kernel_rfl) rfl (by kernel_rfl) ?_
  refine AX.wkpost ?_
  refine AX.seq ?_
  refine AX.reg (its := []) [0, 1] [] (s1 := ⟨[(0, .bs false 2 (List.map enc_si p1)), (1, .bs false 2 (List.map enc_si p2))], []⟩) (C := True) (by kernel_rfl) trivial trivial ?_
  refine AX.seq ?_
  refine AX.seq ?_
  refine AX.reg (its := [.auto {}, .auto { y := some (.v (.int .i64 (p1.length : Int))) }, .auto {}, .auto { y := some (.v (.int .i64 (p2.length : Int))) }]) [0, 1, 10] [] (s1 := ⟨[(0, .bs false 2 (List.map enc_si p1)), (1, .bs false 2 (List.map enc_si p2)), (10, .v (.bool (!decide ((p1.length : Int) = (p2.length : Int)))))], []⟩) (C := (True ∧ (AV.v (.int .i64 ((List.map enc_si p1).length : Int)) = AV.v (.int .i64 (p1.length : Int)))) ∧ (True ∧ (AV.v (.int .i64 ((List.map enc_si p2).length : Int)) = AV.v (.int .i64 (p2.length : Int)))) ∧ True) (by kernel_rfl) ⟨⟨trivial, len_map enc_si p1⟩, ⟨⟨trivial, len_map enc_si p2⟩, trivial⟩⟩ trivial ?_
  rcases bool_cases ((!decide ((p1.length : Int) = (p2.length : Int)))) with b1 | b1
  · replace h := cd_t b1 h
    refine AX.condT ((!decide ((p1.length : Int) = (p2.length : Int)))) (by kernel_rfl) b1 ?_
    refine AX.seq ?_
    refine AX.reg (its := []) [4] [] (s1 := ⟨[(4, .v (.bool false))], []⟩) (C := True) (by kernel_rfl) trivial trivial ?_
    refine AX.ret ?_
    refine fin_wk (Wk.forget [4] [] (s' := ⟨[(4, .v (.bool false))], []⟩) (by kernel_rfl)) ?_
    have hr := Option.some.inj h
    subst hr
    exact ⟨_, Wk.refl _, .inr rfl, ⟨[], by kernel_rfl, trivial, [.v (.bool false)], by kernel_rfl, by kernel_rfl⟩⟩
  · replace h := cd_f b1 h
    refine AX.condF ((!decide ((p1.length : Int) = (p2.length : Int)))) (by kernel_rfl) b1 ?_
    refine AX.skip ?_
    refine AX.seq ?_
    refine AX.seq ?_
    refine AX.reg (its := []) [0, 1, 5] [] (s1 := ⟨[(0, .bs false 2 (List.map enc_si p1)), (1, .bs false 2 (List.map enc_si p2)), (5, .v (.int .i64 0))], []⟩) (C := True) (by kernel_rfl) trivial trivial ?_
    refine AX.block ?_
    obtain ⟨x5, e7, h⟩ := bd_e h
    refine AX.wk (Wk.forget [0, 1, 5] [] (s' := ⟨[(0, .bs false 2 (List.map enc_si p1)), (1, .bs false 2 (List.map enc_si p2)), (5, .v (.int .i64 0))], []⟩) (by kernel_rfl)) ?_
    refine AX.mono (s_laws_eqDefS_L1 p1 p2 FU 0 x5 e7) ?_
    rintro _ _ (⟨x6, rfl, rfl, rfl⟩ | ⟨x7, rfl, rfl, rfl⟩)
    · replace h := sm_l h
      refine fin_wk (Wk.forget [4] [] (s' := ⟨[(4, .v (.bool false))], []⟩) (by kernel_rfl)) ?_
      have hr := Option.some.inj h
      subst hr
      exact ⟨_, Wk.refl _, .inr rfl, ⟨[], by kernel_rfl, trivial, [.v (.bool false)], by kernel_rfl, by kernel_rfl⟩⟩
    · replace h := sm_r h
      refine AX.seq ?_
      refine AX.reg (its := []) [4] [] (s1 := ⟨[(4, .v (.bool true))], []⟩) (C := True) (by kernel_rfl) trivial trivial ?_
      refine AX.ret ?_
      refine fin_wk (Wk.forget [4] [] (s' := ⟨[(4, .v (.bool true))], []⟩) (by kernel_rfl)) ?_
      have hr := Option.some.inj h
      subst hr
      exact ⟨_, Wk.refl _, .inr rfl, ⟨[], by kernel_rfl, trivial, [.v (.bool true)], by kernel_rfl, by kernel_rfl⟩⟩

theorem s_laws_eqFlag (p1 : List (ByteArray × Int)) (p2 : Int) (p3 : List (ByteArray × Int)) (p4 : Int) (r : Bool) (h : m_laws_eqFlag p1 p2 p3 p4 = some r) :
    Eng.Spec Try.prog 26 [.agg [.bs false 2 (List.map enc_si p1), .v (.int .i64 p2)], .agg [.bs false 2 (List.map enc_si p3), .v (.int .i64 p4)]] [] (.v (.bool r)) [] := by
  unfold m_laws_eqFlag at h
  refine Eng.Spec.body Try.func26 (by kernel_rfl) rfl (by kernel_rfl) ?_
  refine AX.wkpost ?_
  refine AX.seq ?_
  refine AX.reg (its := [.auto { nk := 0 }, .auto { nk := 1 }]) [2, 3] [0, 1] (s1 := ⟨[(2, .pt 0 0), (3, .pt 1 0)], [(0, .box [.bs false 2 (List.map enc_si p1), .v (.int .i64 p2)]), (1, .box [.bs false 2 (List.map enc_si p3), .v (.int .i64 p4)])]⟩) (C := True) (by kernel_rfl) trivial trivial ?_
  refine AX.seq ?_
  refine AX.seq ?_
  obtain ⟨x5, e1, h⟩ := bd_e h
  refine AX.reg (its := [.auto {}, .auto {}, .auto {}, .auto {}, .call 102 [.bs false 2 (List.map enc_si p1), .bs false 2 (List.map enc_si p3)] (handO (rho ([] ++ [])) [] [] ++ []) (callEv [] [] (.v (.bool x5)) [])]) [2, 3, 10] [0, 1] (s1 := ⟨[(2, .pt 0 0), (3, .pt 1 0), (10, .v (.bool (!x5)))], [(0, .box [.bs false 2 (List.map enc_si p1), .v (.int .i64 p2)]), (1, .box [.bs false 2 (List.map enc_si p3), .v (.int .i64 p4)])]⟩) (C := ((([.bs false 2 (List.map enc_si p1), .bs false 2 (List.map enc_si p3)] : List AV) = [.bs false 2 (List.map enc_si p1), .bs false 2 (List.map enc_si p3)]) ∧ True) ∧ True) (by kernel_rfl) ⟨⟨rfl, trivial⟩, trivial⟩ ⟨call_ok (ks := []) (ns := []) (bor := []) (bobjs := []) (s_laws_eqDefS p1 p3 x5 e1) (.cons (.c1 (.c0 (.same _ (by kernel_rfl) (by kernel_rfl)))) (.cons (.c1 (.c0 (.same _ (by kernel_rfl) (by kernel_rfl)))) (.nil))) (by kernel_rfl) trivial, trivial⟩ ?_
  rcases bool_cases ((!x5)) with b2 | b2
  · replace h := cd_t b2 h
    refine AX.condT ((!x5)) (by kernel_rfl) b2 ?_
    refine AX.seq ?_
    refine AX.reg (its := []) [4] [] (s1 := ⟨[(4, .v (.bool false))], []⟩) (C := True) (by kernel_rfl) trivial trivial ?_
    refine AX.ret ?_
    refine fin_wk (Wk.forget [4] [] (s' := ⟨[(4, .v (.bool false))], []⟩) (by kernel_rfl)) ?_
    have hr := Option.some.inj h
    subst hr
    exact ⟨_, Wk.refl _, .inr rfl, ⟨[], by kernel_rfl, trivial, [.v (.bool false)], by kernel_rfl, by kernel_rfl⟩⟩
  · replace h := cd_f b2 h
    refine AX.condF ((!x5)) (by kernel_rfl) b2 ?_
    refine AX.skip ?_
    refine AX.seq ?_
    refine AX.seq ?_
    refine AX.reg (its := []) [15] [] (s1 := ⟨[(15, .v (.bool (!decide (p2 = p4))))], []⟩) (C := True) (by kernel_rfl) trivial trivial ?_
    rcases bool_cases ((!decide (p2 = p4))) with b3 | b3
    · replace h := cd_t b3 h
      refine AX.condT ((!decide (p2 = p4))) (by kernel_rfl) b3 ?_
      refine AX.seq ?_
      refine AX.reg (its := []) [4] [] (s1 := ⟨[(4, .v (.bool false))], []⟩) (C := True) (by kernel_rfl) trivial trivial ?_
      refine AX.ret ?_
      refine fin_wk (Wk.forget [4] [] (s' := ⟨[(4, .v (.bool false))], []⟩) (by kernel_rfl)) ?_
      have hr := Option.some.inj h
      subst hr
      exact ⟨_, Wk.refl _, .inr rfl, ⟨[], by kernel_rfl, trivial, [.v (.bool false)], by kernel_rfl, by kernel_rfl⟩⟩
    · replace h := cd_f b3 h
      refine AX.condF ((!decide (p2 = p4))) (by kernel_rfl) b3 ?_
      refine AX.skip ?_
      refine AX.seq ?_
      refine AX.reg (its := []) [4] [] (s1 := ⟨[(4, .v (.bool true))], []⟩) (C := True) (by kernel_rfl) trivial trivial ?_
      refine AX.ret ?_
      refine fin_wk (Wk.forget [4] [] (s' := ⟨[(4, .v (.bool true))], []⟩) (by kernel_rfl)) ?_
      have hr := Option.some.inj h
      subst hr
      exact ⟨_, Wk.refl _, .inr rfl, ⟨[], by kernel_rfl, trivial, [.v (.bool true)], by kernel_rfl, by kernel_rfl⟩⟩

theorem s_laws_eqArm (p1 : Int) (p2 : Int) (p3 : Int) (p4 : Int) (r : Bool) (h : m_laws_eqArm p1 p2 p3 p4 = some r) :
    Eng.Spec Try.prog 101 [.agg [.v (.int .i64 p1), .v (.int .i64 p2)], .agg [.v (.int .i64 p3), .v (.int .i64 p4)]] [] (.v (.bool r)) [] := by
  unfold m_laws_eqArm at h
  refine Eng.Spec.body Try.func101 (by kernel_rfl) rfl (by kernel_rfl) ?_
  refine AX.wkpost ?_
  refine AX.seq ?_
  refine AX.reg (its := [.auto { nk := 0 }, .auto { nk := 1 }]) [2, 3] [0, 1] (s1 := ⟨[(2, .pt 0 0), (3, .pt 1 0)], [(0, .box [.v (.int .i64 p1), .v (.int .i64 p2)]), (1, .box [.v (.int .i64 p3), .v (.int .i64 p4)])]⟩) (C := True) (by kernel_rfl) trivial trivial ?_
  refine AX.seq ?_
  refine AX.seq ?_
  refine AX.reg (its := []) [2, 3, 9] [0, 1] (s1 := ⟨[(2, .pt 0 0), (3, .pt 1 0), (9, .v (.bool (!decide (p1 = p3))))], [(0, .box [.v (.int .i64 p1), .v (.int .i64 p2)]), (1, .box [.v (.int .i64 p3), .v (.int .i64 p4)])]⟩) (C := True) (by kernel_rfl) trivial trivial ?_
  rcases bool_cases ((!decide (p1 = p3))) with b1 | b1
  · replace h := cd_t b1 h
    refine AX.condT ((!decide (p1 = p3))) (by kernel_rfl) b1 ?_
    refine AX.seq ?_
    refine AX.reg (its := []) [4] [] (s1 := ⟨[(4, .v (.bool false))], []⟩) (C := True) (by kernel_rfl) trivial trivial ?_
    refine AX.ret ?_
    refine fin_wk (Wk.forget [4] [] (s' := ⟨[(4, .v (.bool false))], []⟩) (by kernel_rfl)) ?_
    have hr := Option.some.inj h
    subst hr
    exact ⟨_, Wk.refl _, .inr rfl, ⟨[], by kernel_rfl, trivial, [.v (.bool false)], by kernel_rfl, by kernel_rfl⟩⟩
  · replace h := cd_f b1 h
    refine AX.condF ((!decide (p1 = p3))) (by kernel_rfl) b1 ?_
    refine AX.skip ?_
    refine AX.seq ?_
    refine AX.seq ?_
    refine AX.reg (its := []) [14] [] (s1 := ⟨[(14, .v (.bool (!decide (p2 = p4))))], []⟩) (C := True) (by kernel_rfl) trivial trivial ?_
    rcases bool_cases ((!decide (p2 = p4))) with b2 | b2
    · replace h := cd_t b2 h
      refine AX.condT ((!decide (p2 = p4))) (by kernel_rfl) b2 ?_
      refine AX.seq ?_
      refine AX.reg (its := []) [4] [] (s1 := ⟨[(4, .v (.bool false))], []⟩) (C := True) (by kernel_rfl) trivial trivial ?_
      refine AX.ret ?_
      refine fin_wk (Wk.forget [4] [] (s' := ⟨[(4, .v (.bool false))], []⟩) (by kernel_rfl)) ?_
      have hr := Option.some.inj h
      subst hr
      exact ⟨_, Wk.refl _, .inr rfl, ⟨[], by kernel_rfl, trivial, [.v (.bool false)], by kernel_rfl, by kernel_rfl⟩⟩
    · replace h := cd_f b2 h
      refine AX.condF ((!decide (p2 = p4))) (by kernel_rfl) b2 ?_
      refine AX.skip ?_
      refine AX.seq ?_
      refine AX.reg (its := []) [4] [] (s1 := ⟨[(4, .v (.bool true))], []⟩) (C := True) (by kernel_rfl) trivial trivial ?_
      refine AX.ret ?_
      refine fin_wk (Wk.forget [4] [] (s' := ⟨[(4, .v (.bool true))], []⟩) (by kernel_rfl)) ?_
      have hr := Option.some.inj h
      subst hr
      exact ⟨_, Wk.refl _, .inr rfl, ⟨[], by kernel_rfl, trivial, [.v (.bool true)], by kernel_rfl, by kernel_rfl⟩⟩

theorem s_laws_eqArmS_L1 (p1 : List (Int × Int)) (p2 : List (Int × Int)) (n : Nat) (g : Int) (out : Unit ⊕ Unit) (h : m_laws_eqArmS_L1 p1 p2 n g = some out) :
    AX Try.prog 27 0 (codeAt [1, 1, 0, 1, 1] (bodyOf Try.f25)) ((fun g : Int => (⟨[(0, .bs false 2 (List.map enc_ii p1)), (1, .bs false 2 (List.map enc_ii p2)), (5, .v (.int .i64 g))], []⟩ : S)) g) (fun ex s => (∃ o : Unit, out = Sum.inl o ∧ ex = .ret ∧ s = ⟨[(4, .v (.bool false))], []⟩) ∨ (∃ o : Unit, out = Sum.inr o ∧ ex = .exit 0 ∧ s = ⟨[], []⟩)) := by
  refine AX.wkpost ?_
  refine AX.loop (G := Nat × (Int)) (fun q => (fun g : Int => (⟨[(0, .bs false 2 (List.map enc_ii p1)), (1, .bs false 2 (List.map enc_ii p2)), (5, .v (.int .i64 g))], []⟩ : S)) q.2) (fun q => m_laws_eqArmS_L1 p1 p2 q.1 q.2 = some out) (fun q => q.1) (n, g) h (Wk.refl _) ?_
  clear h
  rintro ⟨fu, v3⟩ h
  cases fu with
  | zero => cases h
  | succ fu =>
    rw [m_laws_eqArmS_L1] at h
    refine AX.seq ?_
    refine AX.seq ?_
    refine AX.reg (its := [.auto {}, .auto {}, .auto { y := some (.v (.int .i64 (p1.length : Int))) }]) [0, 1, 5, 14] [] (s1 := ⟨[(0, .bs false 2 (List.map enc_ii p1)), (1, .bs false 2 (List.map enc_ii p2)), (5, .v (.int .i64 v3)), (14, .v (.bool (decide (v3 < (p1.length : Int)))))], []⟩) (C := (True ∧ (AV.v (.int .i64 ((List.map enc_ii p1).length : Int)) = AV.v (.int .i64 (p1.length : Int)))) ∧ True) (by kernel_rfl) ⟨⟨trivial, len_map enc_ii p1⟩, trivial⟩ trivial ?_
    rcases bool_cases (decide (v3 < (p1.length : Int))) with b2 | b2
    · replace h := cd_t b2 h
      refine AX.condT (decide (v3 < (p1.length : Int))) (by kernel_rfl) b2 ?_
      refine AX.skip ?_
      refine AX.seq ?_
      refine AX.block ?_
      refine AX.seq ?_
      obtain ⟨g3, h⟩ := gd_e h
      obtain ⟨g4, h⟩ := gd_e h
      obtain ⟨x4, e5, h⟩ := bd_e h
      refine AX.drw mixed (its := [.auto {}, .auto {}, .auto { y := some (.be 2 (enc_ii (gt p1 v3)) 0) }, .auto {}, .auto {}, .auto {}, .auto { y := some (.be 2 (enc_ii (gt p2 v3)) 0) }, .auto {}, .call 101 [.agg [.v (.int .i64 ((gt p1 v3).1)), .v (.int .i64 ((gt p1 v3).2))], .agg [.v (.int .i64 ((gt p2 v3).1)), .v (.int .i64 ((gt p2 v3).2))]] (handO (rho ([] ++ [])) [] [] ++ []) (callEv [] [] (.v (.bool x4)) [])]) [0, 1, 5, 26] [] (s1 := ⟨[(0, .bs false 2 (List.map enc_ii p1)), (1, .bs false 2 (List.map enc_ii p2)), (5, .v (.int .i64 v3)), (26, .v (.bool (!x4)))], []⟩) (C := ((0 ≤ v3 ∧ v3 < ((List.map enc_ii p1).length : Int)) ∧ (AV.be 2 ((List.map enc_ii p1).getD v3.toNat []) 0 = AV.be 2 (enc_ii (gt p1 v3)) 0)) ∧ ((0 ≤ v3 ∧ v3 < ((List.map enc_ii p2).length : Int)) ∧ (AV.be 2 ((List.map enc_ii p2).getD v3.toNat []) 0 = AV.be 2 (enc_ii (gt p2 v3)) 0)) ∧ ((([.agg [.v (.int .i64 ((gt p1 v3).1)), .v (.int .i64 ((gt p1 v3).2))], .agg [.v (.int .i64 ((gt p2 v3).1)), .v (.int .i64 ((gt p2 v3).2))]] : List AV) = [.agg [.v (.int .i64 ((gt p1 v3).1)), .v (.int .i64 ((gt p1 v3).2))], .agg [.v (.int .i64 ((gt p2 v3).1)), .v (.int .i64 ((gt p2 v3).2))]]) ∧ True) ∧ True) (by kernel_rfl) ⟨idx_bs enc_ii p1 v3 2 g3, ⟨idx_bs enc_ii p2 v3 2 g4, ⟨⟨rfl, trivial⟩, trivial⟩⟩⟩ ⟨call_ok (ks := []) (ns := []) (bor := []) (bobjs := []) (s_laws_eqArm ((gt p1 v3).1) ((gt p1 v3).2) ((gt p2 v3).1) ((gt p2 v3).2) x4 e5) (.cons (.c1 (.agg (.cons (.same _ (by kernel_rfl) (by kernel_rfl)) (.cons (.same _ (by kernel_rfl) (by kernel_rfl)) (.nil))))) (.cons (.c1 (.agg (.cons (.same _ (by kernel_rfl) (by kernel_rfl)) (.cons (.same _ (by kernel_rfl) (by kernel_rfl)) (.nil))))) (.nil))) (by kernel_rfl) trivial, trivial⟩ ?_
      rcases bool_cases ((!x4)) with b6 | b6
      · replace h := cd_t b6 h
        refine AX.condT ((!x4)) (by kernel_rfl) b6 ?_
        refine AX.seq ?_
        refine AX.reg (its := []) [4] [] (s1 := ⟨[(4, .v (.bool false))], []⟩) (C := True) (by kernel_rfl) trivial trivial ?_
        refine AX.ret ?_
        refine fin_wk (Wk.forget [4] [] (s' := ⟨[(4, .v (.bool false))], []⟩) (by kernel_rfl)) ?_
        have hr := Option.some.inj h
        subst hr
        exact ⟨_, Wk.refl _, .inl ⟨(), rfl, rfl, rfl⟩⟩
      · replace h := cd_f b6 h
        refine AX.condF ((!x4)) (by kernel_rfl) b6 ?_
        refine AX.skip ?_
        refine AX.reg (its := [.auto {}, .auto { raw := true }]) [0, 1, 5] [] (s1 := ⟨[(0, .bs false 2 (List.map enc_ii p1)), (1, .bs false 2 (List.map enc_ii p2)), (5, .v (.int .i64 (IntKind.wrap .i64 (v3 + 1))))], []⟩) (C := True) (by kernel_rfl) trivial trivial ?_
        refine ⟨(fu, IntKind.wrap .i64 (v3 + 1)), h, Nat.lt_succ_self _, ?_⟩
        refine Wk.trans (Wk.forget [0, 1, 5] [] (s' := ⟨[(0, .bs false 2 (List.map enc_ii p1)), (1, .bs false 2 (List.map enc_ii p2)), (5, .v (.int .i64 (IntKind.wrap .i64 (v3 + 1))))], []⟩) (by kernel_rfl)) ?_
        exact Wk.refl _
    · replace h := cd_f b2 h
      refine AX.condF (decide (v3 < (p1.length : Int))) (by kernel_rfl) b2 ?_
      refine AX.exit ?_
      refine fin_wk (Wk.forget [] [] (s' := ⟨[], []⟩) (by kernel_rfl)) ?_
      have hr := Option.some.inj h
      subst hr
      exact ⟨_, Wk.refl _, .inr ⟨(), rfl, rfl, rfl⟩⟩

theorem s_laws_eqArmS (p1 : List (Int × Int)) (p2 : List (Int × Int)) (r : Bool) (h : m_laws_eqArmS p1 p2 = some r) :
    Eng.Spec Try.prog 25 [.bs false 2 (List.map enc_ii p1), .bs false 2 (List.map enc_ii p2)] [] (.v (.bool r)) [] := by
  unfold m_laws_eqArmS at h
  refine Eng.Spec.body Try.func25 (by kernel_rfl) rfl (by kernel_rfl) ?_
  refine AX.wkpost ?_
  refine AX.seq ?_
  refine AX.reg (its := []) [0, 1] [] (s1 := ⟨[(0, .bs false 2 (List.map enc_ii p1)), (1, .bs false 2 (List.map enc_ii p2))], []⟩) (C := True) (by kernel_rfl) trivial trivial ?_
  refine AX.seq ?_
  refine AX.seq ?_
  refine AX.reg (its := [.auto {}, .auto { y := some (.v (.int .i64 (p1.length : Int))) }, .auto {}, .auto { y := some (.v (.int .i64 (p2.length : Int))) }]) [0, 1, 10] [] (s1 := ⟨[(0, .bs false 2 (List.map enc_ii p1)), (1, .bs false 2 (List.map enc_ii p2)), (10, .v (.bool (!decide ((p1.length : Int) = (p2.length : Int)))))], []⟩) (C := (True ∧ (AV.v (.int .i64 ((List.map enc_ii p1).length : Int)) = AV.v (.int .i64 (p1.length : Int)))) ∧ (True ∧ (AV.v (.int .i64 ((List.map enc_ii p2).length : Int)) = AV.v (.int .i64 (p2.length : Int)))) ∧ True) (by kernel_rfl) ⟨⟨trivial, len_map enc_ii p1⟩, ⟨⟨trivial, len_map enc_ii p2⟩, trivial⟩⟩ trivial ?_
  rcases bool_cases ((!decide ((p1.length : Int) = (p2.length : Int)))) with b1 | b1
  · replace h := cd_t b1 h
    refine AX.condT ((!decide ((p1.length : Int) = (p2.length : Int)))) (by kernel_rfl) b1 ?_
    refine AX.seq ?_
    refine AX.reg (its := []) [4] [] (s1 := ⟨[(4, .v (.bool false))], []⟩) (C := True) (by kernel_rfl) trivial trivial ?_
    refine AX.ret ?_
    refine fin_wk (Wk.forget [4] [] (s' := ⟨[(4, .v (.bool false))], []⟩) (by kernel_rfl)) ?_
    have hr := Option.some.inj h
    subst hr
    exact ⟨_, Wk.refl _, .inr rfl, ⟨[], by kernel_rfl, trivial, [.v (.bool false)], by kernel_rfl, by kernel_rfl⟩⟩
  · replace h := cd_f b1 h
    refine AX.condF ((!decide ((p1.length : Int) = (p2.length : Int)))) (by kernel_rfl) b1 ?_
    refine AX.skip ?_
    refine AX.seq ?_
    refine AX.seq ?_
    refine AX.reg (its := []) [0, 1, 5] [] (s1 := ⟨[(0, .bs false 2 (List.map enc_ii p1)), (1, .bs false 2 (List.map enc_ii p2)), (5, .v (.int .i64 0))], []⟩) (C := True) (by kernel_rfl) trivial trivial ?_
    refine AX.block ?_
    obtain ⟨x5, e7, h⟩ := bd_e h
    refine AX.wk (Wk.forget [0, 1, 5] [] (s' := ⟨[(0, .bs false 2 (List.map enc_ii p1)), (1, .bs false 2 (List.map enc_ii p2)), (5, .v (.int .i64 0))], []⟩) (by kernel_rfl)) ?_
    refine AX.mono (s_laws_eqArmS_L1 p1 p2 FU 0 x5 e7) ?_
    rintro _ _ (⟨x6, rfl, rfl, rfl⟩ | ⟨x7, rfl, rfl, rfl⟩)
    · replace h := sm_l h
      refine fin_wk (Wk.forget [4] [] (s' := ⟨[(4, .v (.bool false))], []⟩) (by kernel_rfl)) ?_
      have hr := Option.some.inj h
      subst hr
      exact ⟨_, Wk.refl _, .inr rfl, ⟨[], by kernel_rfl, trivial, [.v (.bool false)], by kernel_rfl, by kernel_rfl⟩⟩
    · replace h := sm_r h
      refine AX.seq ?_
      refine AX.reg (its := []) [4] [] (s1 := ⟨[(4, .v (.bool true))], []⟩) (C := True) (by kernel_rfl) trivial trivial ?_
      refine AX.ret ?_
      refine fin_wk (Wk.forget [4] [] (s' := ⟨[(4, .v (.bool true))], []⟩) (by kernel_rfl)) ?_
      have hr := Option.some.inj h
      subst hr
      exact ⟨_, Wk.refl _, .inr rfl, ⟨[], by kernel_rfl, trivial, [.v (.bool true)], by kernel_rfl, by kernel_rfl⟩⟩

theorem s_laws_markText_L1  (n : Nat) (g : Int × ByteArray) (out : ByteArray) (h : m_laws_markText_L1 n g.1 g.2 = some out) :
    AX Try.prog 20 0 (codeAt [1, 1, 1, 0, 1] (bodyOf Try.f126)) ((fun g : Int × ByteArray => (⟨[(0, .v (.int .i64 g.1)), (3, .v (.string g.2))], []⟩ : S)) g) (fun ex s => ex = .exit 0 ∧ s = (fun o : ByteArray => (⟨[(3, .v (.string o))], []⟩ : S)) out) := by
  refine AX.wkpost ?_
  refine AX.loop (G := Nat × (Int × ByteArray)) (fun q => (fun g : Int × ByteArray => (⟨[(0, .v (.int .i64 g.1)), (3, .v (.string g.2))], []⟩ : S)) q.2) (fun q => m_laws_markText_L1 q.1 q.2.1 q.2.2 = some out) (fun q => q.1) (n, g) h (Wk.refl _) ?_
  clear h
  rintro ⟨fu, v2, v3⟩ h
  cases fu with
  | zero => cases h
  | succ fu =>
    rw [m_laws_markText_L1] at h
    refine AX.seq ?_
    refine AX.seq ?_
    refine AX.reg (its := []) [0, 3, 7] [] (s1 := ⟨[(0, .v (.int .i64 v2)), (3, .v (.string v3)), (7, .v (.bool (decide (0 < v2))))], []⟩) (C := True) (by kernel_rfl) trivial trivial ?_
    rcases bool_cases (decide (0 < v2)) with b2 | b2
    · replace h := cd_t b2 h
      refine AX.condT (decide (0 < v2)) (by kernel_rfl) b2 ?_
      refine AX.skip ?_
      refine AX.block ?_
      refine AX.seq ?_
      obtain ⟨g3, h⟩ := gd_e h
      obtain ⟨v4, q4, h⟩ := nm_e h
      obtain ⟨g5, h⟩ := gd_e h
      refine AX.reg (its := [.auto {}, .auto {}, .auto { raw := true }, .auto { raw := true }, .auto { nk := 0 }, .auto { y := some (.v (.string v4)) }]) [0, 3] [] (s1 := ⟨[(0, .v (.int .i64 v2)), (3, .v (.string (v4 ++ v3)))], []⟩) (C := ((10 : Int) ≠ 0) ∧ ((True) ∧ ((.v (.string (bstr ([IntKind.wrap .u8 (IntKind.wrap .i64 (48 + (Int.tmod v2 10)))] : List (Int)))) : AV) = (.v (.string v4) : AV))) ∧ (v4.size + v3.size ≤ 9223372036854775807) ∧ True) (by kernel_rfl) ⟨g3, ⟨⟨trivial, (congrArg (fun z => AV.v (.string z)) q4)⟩, ⟨g5, trivial⟩⟩⟩ trivial ?_
      obtain ⟨g6, h⟩ := gd_e h
      refine AX.reg (its := []) [0, 3] [] (s1 := ⟨[(0, .v (.int .i64 (Int.tdiv v2 10))), (3, .v (.string (v4 ++ v3)))], []⟩) (C := ((10 : Int) ≠ 0 ∧ IntKind.wrap .i64 (Int.tdiv v2 10) = Int.tdiv v2 10) ∧ True) (by kernel_rfl) ⟨g6, trivial⟩ trivial ?_
      refine ⟨(fu, (Int.tdiv v2 10, v4 ++ v3)), h, Nat.lt_succ_self _, ?_⟩
      refine Wk.trans (Wk.forget [0, 3] [] (s' := ⟨[(0, .v (.int .i64 (Int.tdiv v2 10))), (3, .v (.string (v4 ++ v3)))], []⟩) (by kernel_rfl)) ?_
      exact Wk.refl _
    · replace h := cd_f b2 h
      refine AX.condF (decide (0 < v2)) (by kernel_rfl) b2 ?_
      refine AX.exit ?_
      refine fin_wk (Wk.forget [3] [] (s' := ⟨[(3, .v (.string v3))], []⟩) (by kernel_rfl)) ?_
      have hr := Option.some.inj h
      subst hr
      exact ⟨_, Wk.refl _, ⟨rfl, rfl⟩⟩

theorem s_laws_markText (p1 : Int) (r : ByteArray) (h : m_laws_markText p1 = some r) :
    Eng.Spec Try.prog 126 [.v (.int .i64 p1)] [] (.v (.string r)) [] := by
  unfold m_laws_markText at h
  refine Eng.Spec.body Try.func126 (by kernel_rfl) rfl (by kernel_rfl) ?_
  refine AX.wkpost ?_
  refine AX.seq ?_
  refine AX.reg (its := []) [0] [] (s1 := ⟨[(0, .v (.int .i64 p1))], []⟩) (C := True) (by kernel_rfl) trivial trivial ?_
  refine AX.seq ?_
  refine AX.seq ?_
  refine AX.reg (its := []) [0, 5] [] (s1 := ⟨[(0, .v (.int .i64 p1)), (5, .v (.bool (decide (p1 ≤ 0))))], []⟩) (C := True) (by kernel_rfl) trivial trivial ?_
  rcases bool_cases (decide (p1 ≤ 0)) with b1 | b1
  · replace h := cd_t b1 h
    refine AX.condT (decide (p1 ≤ 0)) (by kernel_rfl) b1 ?_
    refine AX.seq ?_
    refine AX.reg (its := []) [2] [] (s1 := ⟨[(2, .v (.string (ByteArray.mk #[109, 48])))], []⟩) (C := True) (by kernel_rfl) trivial trivial ?_
    refine AX.ret ?_
    refine fin_wk (Wk.forget [2] [] (s' := ⟨[(2, .v (.string (ByteArray.mk #[109, 48])))], []⟩) (by kernel_rfl)) ?_
    have hr := Option.some.inj h
    subst hr
    exact ⟨_, Wk.refl _, .inr rfl, ⟨[], by kernel_rfl, trivial, [.v (.string (ByteArray.mk #[109, 48]))], by kernel_rfl, by kernel_rfl⟩⟩
  · replace h := cd_f b1 h
    refine AX.condF (decide (p1 ≤ 0)) (by kernel_rfl) b1 ?_
    refine AX.skip ?_
    refine AX.seq ?_
    refine AX.reg (its := []) [0, 3] [] (s1 := ⟨[(0, .v (.int .i64 p1)), (3, .v (.string ByteArray.empty))], []⟩) (C := True) (by kernel_rfl) trivial trivial ?_
    refine AX.seq ?_
    refine AX.block ?_
    obtain ⟨x5, e7, h⟩ := bd_e h
    refine AX.wk (Wk.forget [0, 3] [] (s' := ⟨[(0, .v (.int .i64 p1)), (3, .v (.string ByteArray.empty))], []⟩) (by kernel_rfl)) ?_
    refine AX.mono (s_laws_markText_L1  FU (p1, ByteArray.empty) x5 e7) ?_
    rintro _ _ ⟨rfl, rfl⟩
    skip
    refine AX.seq ?_
    obtain ⟨g8, h⟩ := gd_e h
    refine AX.reg (its := []) [2] [] (s1 := ⟨[(2, .v (.string ((ByteArray.mk #[109]) ++ x5)))], []⟩) (C := ((ByteArray.mk #[109]).size + x5.size ≤ 9223372036854775807) ∧ True) (by kernel_rfl) ⟨g8, trivial⟩ trivial ?_
    refine AX.ret ?_
    refine fin_wk (Wk.forget [2] [] (s' := ⟨[(2, .v (.string ((ByteArray.mk #[109]) ++ x5)))], []⟩) (by kernel_rfl)) ?_
    have hr := Option.some.inj h
    subst hr
    exact ⟨_, Wk.refl _, .inr rfl, ⟨[], by kernel_rfl, trivial, [.v (.string ((ByteArray.mk #[109]) ++ x5))], by kernel_rfl, by kernel_rfl⟩⟩

theorem s_laws_markDefS_h_L1  (n : Nat) (g : Int × Int × (List (ByteArray × Int))) (out : Int × (List (ByteArray × Int))) (h : m_laws_markDefS_h_L1 n g.1 g.2.1 g.2.2 = some out) :
    AX Try.prog 28 1 (codeAt [1, 0, 1, 1] (bodyOf Try.f103)) ((fun g : Int × Int × (List (ByteArray × Int)) => (⟨[(0, .sl 0 0 g.2.2.length), (1, .v (.int .i64 g.1)), (5, .v (.int .i64 g.2.1))], [(0, .arr 2 (List.map enc_si g.2.2))]⟩ : S)) g) (fun ex s => ex = .exit 0 ∧ s = (fun o : Int × (List (ByteArray × Int)) => (⟨[(1, .v (.int .i64 o.1))], [(0, .arr 2 (List.map enc_si o.2))]⟩ : S)) out) := by
  refine AX.wkpost ?_
  refine AX.loop (G := Nat × (Int × Int × (List (ByteArray × Int)))) (fun q => (fun g : Int × Int × (List (ByteArray × Int)) => (⟨[(0, .sl 0 0 g.2.2.length), (1, .v (.int .i64 g.1)), (5, .v (.int .i64 g.2.1))], [(0, .arr 2 (List.map enc_si g.2.2))]⟩ : S)) q.2) (fun q => m_laws_markDefS_h_L1 q.1 q.2.1 q.2.2.1 q.2.2.2 = some out) (fun q => q.1) (n, g) h (Wk.refl _) ?_
  clear h
  rintro ⟨fu, v3, v4, v5⟩ h
  cases fu with
  | zero => cases h
  | succ fu =>
    rw [m_laws_markDefS_h_L1] at h
    refine AX.seq ?_
    refine AX.seq ?_
    refine AX.reg (its := []) [0, 1, 5, 9] [0] (s1 := ⟨[(0, .sl 0 0 v5.length), (1, .v (.int .i64 v3)), (5, .v (.int .i64 v4)), (9, .v (.bool (decide (v4 < (v5.length : Int)))))], [(0, .arr 2 (List.map enc_si v5))]⟩) (C := True) (by kernel_rfl) trivial trivial ?_
    rcases bool_cases (decide (v4 < (v5.length : Int))) with b1 | b1
    · replace h := cd_t b1 h
      refine AX.condT (decide (v4 < (v5.length : Int))) (by kernel_rfl) b1 ?_
      refine AX.skip ?_
      refine AX.seq ?_
      refine AX.block ?_
      refine AX.seq ?_
      obtain ⟨x6, e2, h⟩ := bd_e h
      obtain ⟨g3, h⟩ := gd_e h
      refine AX.reg (its := [.auto {}, .auto {}, .auto {}, .call 126 [.v (.int .i64 v3)] (handO (rho ([] ++ [])) [] [] ++ []) (callEv [] [] (.v (.string x6)) []), .auto {}, .auto {}, .auto { els := some ([enc_si (x6, (gt v5 v4).2)]) }]) [0, 1, 5] [0] (s1 := ⟨[(0, .sl 0 0 v5.length), (1, .v (.int .i64 v3)), (5, .v (.int .i64 v4))], [(0, .arr 2 ((List.map enc_si v5).set (0 + v4.toNat) (enc_si (x6, (gt v5 v4).2))))]⟩) (C := ((([.v (.int .i64 v3)] : List AV) = [.v (.int .i64 v3)]) ∧ True) ∧ (0 ≤ v4 ∧ v4 < (v5.length : Int)) ∧ ((((List.map enc_si v5).getD (0 + v4.toNat) []).take 0 ++ [(.string x6)] ++ ((List.map enc_si v5).getD (0 + v4.toNat) []).drop 1 = enc_si (x6, (gt v5 v4).2))) ∧ True) (by kernel_rfl) ⟨⟨rfl, trivial⟩, ⟨g3, ⟨(congrArg (fun z : List Value => z.take 0 ++ [(.string x6)] ++ z.drop 1) (idx_arr (enc := enc_si) rfl g3)), trivial⟩⟩⟩ ⟨call_ok (ks := []) (ns := []) (bor := []) (bobjs := []) (s_laws_markText v3 x6 e2) (.cons (.c1 (.c0 (.same _ (by kernel_rfl) (by kernel_rfl)))) (.nil)) (by kernel_rfl) trivial, trivial⟩ ?_
      refine AX.seq ?_
      refine AX.reg (its := [.auto {}, .auto { raw := true }]) [0, 1, 5] [0] (s1 := ⟨[(0, .sl 0 0 v5.length), (1, .v (.int .i64 (IntKind.wrap .i64 (v3 + 1)))), (5, .v (.int .i64 v4))], [(0, .arr 2 ((List.map enc_si v5).set (0 + v4.toNat) (enc_si (x6, (gt v5 v4).2))))]⟩) (C := True) (by kernel_rfl) trivial trivial ?_
      refine AX.seq ?_
      refine AX.reg (its := [.auto {}, .auto {}, .auto {}, .auto {}, .auto {}, .auto { els := some ([enc_si ((gt (v5.set (0 + v4.toNat) (x6, (gt v5 v4).2)) v4).1, IntKind.wrap .i64 (v3 + 1))]) }]) [0, 1, 5] [0] (s1 := ⟨[(0, .sl 0 0 v5.length), (1, .v (.int .i64 (IntKind.wrap .i64 (v3 + 1)))), (5, .v (.int .i64 v4))], [(0, .arr 2 (((List.map enc_si v5).set (0 + v4.toNat) (enc_si (x6, (gt v5 v4).2))).set (0 + v4.toNat) (enc_si ((gt (v5.set (0 + v4.toNat) (x6, (gt v5 v4).2)) v4).1, IntKind.wrap .i64 (v3 + 1)))))]⟩) (C := (0 ≤ v4 ∧ v4 < (v5.length : Int)) ∧ (((((List.map enc_si v5).set (0 + v4.toNat) (enc_si (x6, (gt v5 v4).2))).getD (0 + v4.toNat) []).take 1 ++ [(.int .i64 (IntKind.wrap .i64 (v3 + 1)))] ++ (((List.map enc_si v5).set (0 + v4.toNat) (enc_si (x6, (gt v5 v4).2))).getD (0 + v4.toNat) []).drop 2 = enc_si ((gt (v5.set (0 + v4.toNat) (x6, (gt v5 v4).2)) v4).1, IntKind.wrap .i64 (v3 + 1)))) ∧ True) (by kernel_rfl) ⟨g3, ⟨(congrArg (fun z : List Value => z.take 1 ++ [(.int .i64 (IntKind.wrap .i64 (v3 + 1)))] ++ z.drop 2) (idx_arr (enc := enc_si) (set_can (enc := enc_si) rfl (0 + v4.toNat) (x6, (gt v5 v4).2)) (idx_len (set_len ((rfl : v5.length = v5.length)) (0 + v4.toNat) (x6, (gt v5 v4).2)) g3))), trivial⟩⟩ trivial ?_
      refine AX.reg (its := [.auto {}, .auto { raw := true }]) [0, 1, 5] [0] (s1 := ⟨[(0, .sl 0 0 v5.length), (1, .v (.int .i64 (IntKind.wrap .i64 ((IntKind.wrap .i64 (v3 + 1)) + 1)))), (5, .v (.int .i64 v4))], [(0, .arr 2 (((List.map enc_si v5).set (0 + v4.toNat) (enc_si (x6, (gt v5 v4).2))).set (0 + v4.toNat) (enc_si ((gt (v5.set (0 + v4.toNat) (x6, (gt v5 v4).2)) v4).1, IntKind.wrap .i64 (v3 + 1)))))]⟩) (C := True) (by kernel_rfl) trivial trivial ?_
      refine AX.reg (its := [.auto {}, .auto { raw := true }]) [0, 1, 5] [0] (s1 := ⟨[(0, .sl 0 0 v5.length), (1, .v (.int .i64 (IntKind.wrap .i64 ((IntKind.wrap .i64 (v3 + 1)) + 1)))), (5, .v (.int .i64 (IntKind.wrap .i64 (v4 + 1))))], [(0, .arr 2 (((List.map enc_si v5).set (0 + v4.toNat) (enc_si (x6, (gt v5 v4).2))).set (0 + v4.toNat) (enc_si ((gt (v5.set (0 + v4.toNat) (x6, (gt v5 v4).2)) v4).1, IntKind.wrap .i64 (v3 + 1)))))]⟩) (C := True) (by kernel_rfl) trivial trivial ?_
      refine ⟨(fu, (IntKind.wrap .i64 ((IntKind.wrap .i64 (v3 + 1)) + 1), IntKind.wrap .i64 (v4 + 1), (v5.set (0 + v4.toNat) (x6, (gt v5 v4).2)).set (0 + v4.toNat) ((gt (v5.set (0 + v4.toNat) (x6, (gt v5 v4).2)) v4).1, IntKind.wrap .i64 (v3 + 1)))), h, Nat.lt_succ_self _, ?_⟩
      refine Wk.trans (Wk.forget [0, 1, 5] [0] (s' := ⟨[(0, .sl 0 0 v5.length), (1, .v (.int .i64 (IntKind.wrap .i64 ((IntKind.wrap .i64 (v3 + 1)) + 1)))), (5, .v (.int .i64 (IntKind.wrap .i64 (v4 + 1))))], [(0, .arr 2 (((List.map enc_si v5).set (0 + v4.toNat) (enc_si (x6, (gt v5 v4).2))).set (0 + v4.toNat) (enc_si ((gt (v5.set (0 + v4.toNat) (x6, (gt v5 v4).2)) v4).1, IntKind.wrap .i64 (v3 + 1)))))]⟩) (by kernel_rfl)) ?_
      refine Wk.trans (Wk.of_eq (congrArg (fun z => (⟨[(0, .sl 0 0 v5.length), (1, .v (.int .i64 (IntKind.wrap .i64 ((IntKind.wrap .i64 (v3 + 1)) + 1)))), (5, .v (.int .i64 (IntKind.wrap .i64 (v4 + 1))))], [(0, .arr 2 (z))]⟩ : S)) (set_can (enc := enc_si) (set_can (enc := enc_si) rfl (0 + v4.toNat) (x6, (gt v5 v4).2)) (0 + v4.toNat) ((gt (v5.set (0 + v4.toNat) (x6, (gt v5 v4).2)) v4).1, IntKind.wrap .i64 (v3 + 1))))) ?_
      refine Wk.trans (Wk.of_eq (congrArg (fun z => (⟨[(0, .sl 0 0 z), (1, .v (.int .i64 (IntKind.wrap .i64 ((IntKind.wrap .i64 (v3 + 1)) + 1)))), (5, .v (.int .i64 (IntKind.wrap .i64 (v4 + 1))))], [(0, .arr 2 (List.map enc_si ((v5.set (0 + v4.toNat) (x6, (gt v5 v4).2)).set (0 + v4.toNat) ((gt (v5.set (0 + v4.toNat) (x6, (gt v5 v4).2)) v4).1, IntKind.wrap .i64 (v3 + 1)))))]⟩ : S)) (set_len ((set_len ((rfl : v5.length = v5.length)) (0 + v4.toNat) (x6, (gt v5 v4).2) : v5.length = (v5.set (0 + v4.toNat) (x6, (gt v5 v4).2)).length)) (0 + v4.toNat) ((gt (v5.set (0 + v4.toNat) (x6, (gt v5 v4).2)) v4).1, IntKind.wrap .i64 (v3 + 1))))) ?_
      exact Wk.refl _
    · replace h := cd_f b1 h
      refine AX.condF (decide (v4 < (v5.length : Int))) (by kernel_rfl) b1 ?_
      refine AX.exit ?_
      refine fin_wk (Wk.forget [1] [0] (s' := ⟨[(1, .v (.int .i64 v3))], [(0, .arr 2 (List.map enc_si v5))]⟩) (by kernel_rfl)) ?_
      have hr := Option.some.inj h
      subst hr
      exact ⟨_, Wk.refl _, ⟨rfl, rfl⟩⟩

end Go.Eng
