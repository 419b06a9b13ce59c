/- What is proved here: each function keeps to its model, whatever its arguments, wherever the model has an answer. Printed by gen.py. -/
import Derived.Test.YtomemaanjendhaaDoorCExactShowValueWalk1
import Derived.Test.YtomemaanjendhaaDoorProg
import Derived.Test.YtomemaanjendhaaDoorCExactShowValueShelf
import Derived.KernelRfl
set_option linter.unusedVariables false
set_option linter.unusedSimpArgs false
set_option linter.unnecessarySimpa false
namespace Go.Eng
open Go Go.Proofs


theorem s_impl_ValidName_L1 (p1 : ByteArray) (n : Nat) (g : Int) (out : Unit ⊕ Unit) (h : m_impl_ValidName_L1 p1 n g = some out) :
    AX Tryd.prog 23 0 (codeAt [1, 0, 1, 1] (bodyOf Tryd.f126)) ((fun g : Int => (⟨[(0, .v (.string p1)), (3, .v (.int .i64 g))], []⟩ : S)) g) (fun ex s => (∃ o : Unit, out = Sum.inl o ∧ ex = .ret ∧ s = ⟨[(2, .v (.bool false))], []⟩) ∨ (∃ o : Unit, out = Sum.inr o ∧ ex = .exit 0 ∧ s = ⟨[(0, .v (.string p1))], []⟩)) := by
  refine AX.wkpost ?_
  refine AX.loop (G := Nat × (Int)) (fun q => (fun g : Int => (⟨[(0, .v (.string p1)), (3, .v (.int .i64 g))], []⟩ : S)) q.2) (fun q => m_impl_ValidName_L1 p1 q.1 q.2 = some out) (fun q => q.1) (n, g) h (Wk.refl _) ?_
  clear h
  rintro ⟨fu, v2⟩ h
  cases fu with
  | zero => cases h
  | succ fu =>
    rw [m_impl_ValidName_L1] at h
    refine AX.seq ?_
    refine AX.seq ?_
    refine AX.reg (its := []) [0, 3, 7] [] (s1 := ⟨[(0, .v (.string p1)), (3, .v (.int .i64 v2)), (7, .v (.bool (decide (v2 < (p1.size : Int)))))], []⟩) (C := True) (by kernel_rfl) trivial trivial ?_
    rcases bool_cases (decide (v2 < (p1.size : Int))) with b1 | b1
    · replace h := cd_t b1 h
      refine AX.condT (decide (v2 < (p1.size : Int))) (by kernel_rfl) b1 ?_
      refine AX.skip ?_
      refine AX.seq ?_
      refine AX.block ?_
      refine AX.seq ?_
      obtain ⟨g2, h⟩ := gd_e h
      rcases bool_cases (decide ((byteAt p1 v2.toNat) < 97)) with b3 | b3
      · replace h := cd_t b3 h
        refine AX.reg (its := [.auto {}, .auto {}, .auto {}, .auto { y := some (.v (.bool true)) }]) [0, 3, 19] [] (s1 := ⟨[(0, .v (.string p1)), (3, .v (.int .i64 v2)), (19, .v (.bool true))], []⟩) (C := (0 ≤ v2 ∧ v2 < (p1.size : Int)) ∧ ((True) ∧ ((.v (.bool (decide ((byteAt p1 v2.toNat) < 97))) : AV) = (.v (.bool true) : AV))) ∧ True) (by kernel_rfl) ⟨g2, ⟨⟨trivial, (congrArg (fun z => AV.v (.bool z)) b3)⟩, trivial⟩⟩ trivial ?_
        refine AX.cond_true (by kernel_rfl) ?_
        refine AX.seq ?_
        refine AX.reg (its := []) [2] [] (s1 := ⟨[(2, .v (.bool false))], []⟩) (C := True) (by kernel_rfl) trivial trivial ?_
        refine AX.ret ?_
        refine fin_wk (Wk.forget [2] [] (s' := ⟨[(2, .v (.bool false))], []⟩) (by kernel_rfl)) ?_
        have hr := Option.some.inj h
        subst hr
        exact ⟨_, Wk.refl _, .inl ⟨(), rfl, rfl, rfl⟩⟩
      · replace h := cd_f b3 h
        refine AX.reg (its := [.auto {}, .auto {}, .auto {}, .auto { y := some (.v (.bool false)) }]) [0, 3, 19] [] (s1 := ⟨[(0, .v (.string p1)), (3, .v (.int .i64 v2)), (19, .v (.bool (decide (122 < (byteAt p1 v2.toNat)))))], []⟩) (C := (0 ≤ v2 ∧ v2 < (p1.size : Int)) ∧ ((True) ∧ ((.v (.bool (decide ((byteAt p1 v2.toNat) < 97))) : AV) = (.v (.bool false) : AV))) ∧ (0 ≤ v2 ∧ v2 < (p1.size : Int)) ∧ True) (by kernel_rfl) ⟨g2, ⟨⟨trivial, (congrArg (fun z => AV.v (.bool z)) b3)⟩, ⟨g2, trivial⟩⟩⟩ trivial ?_
        rcases bool_cases (decide (122 < (byteAt p1 v2.toNat))) with b4 | b4
        · replace h := cd_t b4 h
          refine AX.condT (decide (122 < (byteAt p1 v2.toNat))) (by kernel_rfl) b4 ?_
          refine AX.seq ?_
          refine AX.reg (its := []) [2] [] (s1 := ⟨[(2, .v (.bool false))], []⟩) (C := True) (by kernel_rfl) trivial trivial ?_
          refine AX.ret ?_
          refine fin_wk (Wk.forget [2] [] (s' := ⟨[(2, .v (.bool false))], []⟩) (by kernel_rfl)) ?_
          have hr := Option.some.inj h
          subst hr
          exact ⟨_, Wk.refl _, .inl ⟨(), rfl, rfl, rfl⟩⟩
        · replace h := cd_f b4 h
          refine AX.condF (decide (122 < (byteAt p1 v2.toNat))) (by kernel_rfl) b4 ?_
          refine AX.skip ?_
          refine AX.reg (its := [.auto {}, .auto { raw := true }]) [0, 3] [] (s1 := ⟨[(0, .v (.string p1)), (3, .v (.int .i64 (IntKind.wrap .i64 (v2 + 1))))], []⟩) (C := True) (by kernel_rfl) trivial trivial ?_
          refine ⟨(fu, IntKind.wrap .i64 (v2 + 1)), h, Nat.lt_succ_self _, ?_⟩
          refine Wk.trans (Wk.forget [0, 3] [] (s' := ⟨[(0, .v (.string p1)), (3, .v (.int .i64 (IntKind.wrap .i64 (v2 + 1))))], []⟩) (by kernel_rfl)) ?_
          exact Wk.refl _
    · replace h := cd_f b1 h
      refine AX.condF (decide (v2 < (p1.size : Int))) (by kernel_rfl) b1 ?_
      refine AX.exit ?_
      refine fin_wk (Wk.forget [0] [] (s' := ⟨[(0, .v (.string p1))], []⟩) (by kernel_rfl)) ?_
      have hr := Option.some.inj h
      subst hr
      exact ⟨_, Wk.refl _, .inr ⟨(), rfl, rfl, rfl⟩⟩

theorem s_impl_ValidName (p1 : ByteArray) (r : Bool) (h : m_impl_ValidName p1 = some r) :
    Eng.Spec Tryd.prog 126 [.v (.string p1)] [] (.v (.bool r)) [] := by
  unfold m_impl_ValidName at h
  refine Eng.Spec.body Tryd.func126 (by kernel_rfl) rfl (by kernel_rfl) ?_
  refine AX.wkpost ?_
  refine AX.seq ?_
  refine AX.reg (its := []) [0] [] (s1 := ⟨[(0, .v (.string p1))], []⟩) (C := True) (by kernel_rfl) trivial trivial ?_
  refine AX.seq ?_
  refine AX.seq ?_
  refine AX.reg (its := []) [0, 3] [] (s1 := ⟨[(0, .v (.string p1)), (3, .v (.int .i64 0))], []⟩) (C := True) (by kernel_rfl) trivial trivial ?_
  refine AX.block ?_
  obtain ⟨x3, e5, h⟩ := bd_e h
  refine AX.wk (Wk.forget [0, 3] [] (s' := ⟨[(0, .v (.string p1)), (3, .v (.int .i64 0))], []⟩) (by kernel_rfl)) ?_
  refine AX.mono (s_impl_ValidName_L1 p1 FU 0 x3 e5) ?_
  rintro _ _ (⟨x4, rfl, rfl, rfl⟩ | ⟨x5, rfl, rfl, rfl⟩)
  · replace h := sm_l h
    refine fin_wk (Wk.forget [2] [] (s' := ⟨[(2, .v (.bool false))], []⟩) (by kernel_rfl)) ?_
    have hr := Option.some.inj h
    subst hr
    exact ⟨_, Wk.refl _, .inr rfl, ⟨[], by kernel_rfl, trivial, [.v (.bool false)], by kernel_rfl, by kernel_rfl⟩⟩
  · replace h := sm_r h
    refine AX.seq ?_
    obtain ⟨x6, e6, h⟩ := bd_e h
    refine AX.reg (its := [.auto {}, .auto {}, .call 42 [.v (.int .i64 (p1.size : Int)), .v (.int .i64 1), .v (.int .i64 6)] (handO (rho ([] ++ [])) [] [] ++ []) (callEv [] [] (.v (.bool x6)) [])]) [2] [] (s1 := ⟨[(2, .v (.bool x6))], []⟩) (C := ((([.v (.int .i64 (p1.size : Int)), .v (.int .i64 1), .v (.int .i64 6)] : List AV) = [.v (.int .i64 (p1.size : Int)), .v (.int .i64 1), .v (.int .i64 6)]) ∧ True) ∧ True) (by kernel_rfl) ⟨⟨rfl, trivial⟩, trivial⟩ ⟨call_ok (ks := []) (ns := []) (bor := []) (bobjs := []) (s_impl_in (p1.size : Int) 1 6 x6 e6) (.cons (.c1 (.c0 (.same _ (by kernel_rfl) (by kernel_rfl)))) (.cons (.c1 (.c0 (.same _ (by kernel_rfl) (by kernel_rfl)))) (.cons (.c1 (.c0 (.same _ (by kernel_rfl) (by kernel_rfl)))) (.nil)))) (by kernel_rfl) trivial, trivial⟩ ?_
    refine AX.ret ?_
    refine fin_wk (Wk.forget [2] [] (s' := ⟨[(2, .v (.bool x6))], []⟩) (by kernel_rfl)) ?_
    have hr := Option.some.inj h
    subst hr
    exact ⟨_, Wk.refl _, .inr rfl, ⟨[], by kernel_rfl, trivial, [.v (.bool x6)], by kernel_rfl, by kernel_rfl⟩⟩

theorem s_impl_named_1_l (p1 : ByteArray) (p2 : Int) (p3 : ByteArray) (r : Unit) (h : m_impl_named_1_l p1 p2 p3 = some r) :
    Eng.Spec Tryd.prog 87 [.agg [.v (.string p1), .v (.int .i64 p2)], .bp [.v (.string p3)] 0] [] (.v (.bool (decide (p1 = p3)))) [] := by
  unfold m_impl_named_1_l at h
  refine Eng.Spec.body Tryd.func87 (by kernel_rfl) rfl (by kernel_rfl) ?_
  refine AX.wkpost ?_
  refine AX.seq ?_
  refine AX.reg (its := [.auto { nk := 0 }]) [1, 2] [0] (s1 := ⟨[(1, .bp [.v (.string p3)] 0), (2, .pt 0 0)], [(0, .box [.v (.string p1), .v (.int .i64 p2)])]⟩) (C := True) (by kernel_rfl) trivial trivial ?_
  refine AX.seq ?_
  refine AX.reg (its := []) [3] [] (s1 := ⟨[(3, .v (.bool (decide (p1 = p3))))], []⟩) (C := True) (by kernel_rfl) trivial trivial ?_
  refine AX.ret ?_
  refine fin_wk (Wk.forget [3] [] (s' := ⟨[(3, .v (.bool (decide (p1 = p3))))], []⟩) (by kernel_rfl)) ?_
  have hr := Option.some.inj h
  subst hr
  exact ⟨_, Wk.refl _, .inr rfl, ⟨[], by kernel_rfl, trivial, [.v (.bool (decide (p1 = p3)))], by kernel_rfl, by kernel_rfl⟩⟩

theorem s_slices_IndexFunc_si_named_1_l_L1 (p1 : List (ByteArray × Int)) (p2 : ByteArray) (n : Nat) (g : Int) (out : Int ⊕ Unit) (h : m_slices_IndexFunc_si_named_1_l_L1 p1 p2 n g = some out) :
    AX Tryd.prog 19 0 (codeAt [1, 0, 1, 1] (bodyOf Tryd.f86)) ((fun g : Int => (⟨[(0, .bs false 2 (List.map enc_si p1)), (1, .fn 87 [.bp [.v (.string p2)] 0]), (7, .v (.int .i64 (p1.length : Int))), (8, .v (.int .i64 g))], []⟩ : S)) g) (fun ex s => (∃ o : Int, out = Sum.inl o ∧ ex = .ret ∧ s = ⟨[(4, .v (.int .i64 o))], []⟩) ∨ (∃ o : Unit, out = Sum.inr o ∧ ex = .exit 0 ∧ s = ⟨[], []⟩)) := by
  refine AX.wkpost ?_
  refine AX.loop (G := Nat × (Int)) (fun q => (fun g : Int => (⟨[(0, .bs false 2 (List.map enc_si p1)), (1, .fn 87 [.bp [.v (.string p2)] 0]), (7, .v (.int .i64 (p1.length : Int))), (8, .v (.int .i64 g))], []⟩ : S)) q.2) (fun q => m_slices_IndexFunc_si_named_1_l_L1 p1 p2 q.1 q.2 = some out) (fun q => q.1) (n, g) h (Wk.refl _) ?_
  clear h
  rintro ⟨fu, v3⟩ h
  cases fu with
  | zero => cases h
  | succ fu =>
    rw [m_slices_IndexFunc_si_named_1_l_L1] at h
    refine AX.seq ?_
    refine AX.reg (its := []) [0, 1, 7, 8, 9] [] (s1 := ⟨[(0, .bs false 2 (List.map enc_si p1)), (1, .fn 87 [.bp [.v (.string p2)] 0]), (7, .v (.int .i64 (p1.length : Int))), (8, .v (.int .i64 v3)), (9, .v (.bool (decide (v3 < (p1.length : Int)))))], []⟩) (C := True) (by kernel_rfl) trivial trivial ?_
    refine AX.seq ?_
    rcases bool_cases (decide (v3 < (p1.length : Int))) with b1 | b1
    · replace h := cd_t b1 h
      refine AX.condT (decide (v3 < (p1.length : Int))) (by kernel_rfl) b1 ?_
      refine AX.skip ?_
      refine AX.seq ?_
      refine AX.block ?_
      refine AX.seq ?_
      refine AX.reg (its := []) [0, 1, 5, 7, 8] [] (s1 := ⟨[(0, .bs false 2 (List.map enc_si p1)), (1, .fn 87 [.bp [.v (.string p2)] 0]), (5, .v (.int .i64 v3)), (7, .v (.int .i64 (p1.length : Int))), (8, .v (.int .i64 v3))], []⟩) (C := True) (by kernel_rfl) trivial trivial ?_
      refine AX.seq ?_
      obtain ⟨g2, h⟩ := gd_e h
      obtain ⟨x4, e3, h⟩ := bd_e h
      refine AX.reg (its := [.auto {}, .auto {}, .auto {}, .auto { y := some (.be 2 (enc_si (gt p1 v3)) 0) }, .auto {}, .call 87 [.agg [.v (.string ((gt p1 v3).1)), .v (.int .i64 ((gt p1 v3).2))], .bp [.v (.string p2)] 0] (handO (rho ([] ++ [])) [] [] ++ []) (callEv [] [] (.v (.bool (decide (((gt p1 v3).1) = p2)))) [])]) [0, 1, 5, 7, 8, 16] [] (s1 := ⟨[(0, .bs false 2 (List.map enc_si p1)), (1, .fn 87 [.bp [.v (.string p2)] 0]), (5, .v (.int .i64 v3)), (7, .v (.int .i64 (p1.length : Int))), (8, .v (.int .i64 v3)), (16, .v (.bool (decide (((gt p1 v3).1) = p2))))], []⟩) (C := ((0 ≤ v3 ∧ v3 < ((List.map enc_si p1).length : Int)) ∧ (AV.be 2 ((List.map enc_si p1).getD v3.toNat []) 0 = AV.be 2 (enc_si (gt p1 v3)) 0)) ∧ ((([.agg [.v (.string ((gt p1 v3).1)), .v (.int .i64 ((gt p1 v3).2))], .bp [.v (.string p2)] 0] : List AV) = [.agg [.v (.string ((gt p1 v3).1)), .v (.int .i64 ((gt p1 v3).2))], .bp [.v (.string p2)] 0]) ∧ True) ∧ True) (by kernel_rfl) ⟨idx_bs enc_si p1 v3 2 g2, ⟨⟨rfl, trivial⟩, trivial⟩⟩ ⟨call_ok (ks := []) (ns := []) (bor := []) (bobjs := []) (s_impl_named_1_l ((gt p1 v3).1) ((gt p1 v3).2) p2 x4 e3) (.cons (.c1 (.agg (.cons (.same _ (by kernel_rfl) (by kernel_rfl)) (.cons (.same _ (by kernel_rfl) (by kernel_rfl)) (.nil))))) (.cons (.c1 (.bp (.cons (.same _ (by kernel_rfl) (by kernel_rfl)) (.nil)))) (.nil))) (by kernel_rfl) trivial, trivial⟩ ?_
      rcases bool_cases (decide (((gt p1 v3).1) = p2)) with b4 | b4
      · replace h := cd_t b4 h
        refine AX.condT (decide (((gt p1 v3).1) = p2)) (by kernel_rfl) b4 ?_
        refine AX.seq ?_
        refine AX.reg (its := []) [4] [] (s1 := ⟨[(4, .v (.int .i64 v3))], []⟩) (C := True) (by kernel_rfl) trivial trivial ?_
        refine AX.ret ?_
        refine fin_wk (Wk.forget [4] [] (s' := ⟨[(4, .v (.int .i64 v3))], []⟩) (by kernel_rfl)) ?_
        have hr := Option.some.inj h
        subst hr
        exact ⟨_, Wk.refl _, .inl ⟨v3, rfl, rfl, rfl⟩⟩
      · replace h := cd_f b4 h
        refine AX.condF (decide (((gt p1 v3).1) = p2)) (by kernel_rfl) b4 ?_
        refine AX.skip ?_
        refine AX.reg (its := [.auto { raw := true }]) [0, 1, 7, 8] [] (s1 := ⟨[(0, .bs false 2 (List.map enc_si p1)), (1, .fn 87 [.bp [.v (.string p2)] 0]), (7, .v (.int .i64 (p1.length : Int))), (8, .v (.int .i64 (IntKind.wrap .i64 (v3 + 1))))], []⟩) (C := True) (by kernel_rfl) trivial trivial ?_
        refine ⟨(fu, IntKind.wrap .i64 (v3 + 1)), h, Nat.lt_succ_self _, ?_⟩
        refine Wk.trans (Wk.forget [0, 1, 7, 8] [] (s' := ⟨[(0, .bs false 2 (List.map enc_si p1)), (1, .fn 87 [.bp [.v (.string p2)] 0]), (7, .v (.int .i64 (p1.length : Int))), (8, .v (.int .i64 (IntKind.wrap .i64 (v3 + 1))))], []⟩) (by kernel_rfl)) ?_
        exact Wk.refl _
    · replace h := cd_f b1 h
      refine AX.condF (decide (v3 < (p1.length : Int))) (by kernel_rfl) b1 ?_
      refine AX.exit ?_
      refine fin_wk (Wk.forget [] [] (s' := ⟨[], []⟩) (by kernel_rfl)) ?_
      have hr := Option.some.inj h
      subst hr
      exact ⟨_, Wk.refl _, .inr ⟨(), rfl, rfl, rfl⟩⟩

theorem s_slices_IndexFunc_si_named_1_l (p1 : List (ByteArray × Int)) (p2 : ByteArray) (r : Int) (h : m_slices_IndexFunc_si_named_1_l p1 p2 = some r) :
    Eng.Spec Tryd.prog 86 [.bs false 2 (List.map enc_si p1), .fn 87 [.bp [.v (.string p2)] 0]] [] (.v (.int .i64 r)) [] := by
  unfold m_slices_IndexFunc_si_named_1_l at h
  refine Eng.Spec.body Tryd.func86 (by kernel_rfl) rfl (by kernel_rfl) ?_
  refine AX.wkpost ?_
  refine AX.seq ?_
  refine AX.reg (its := []) [0, 1] [] (s1 := ⟨[(0, .bs false 2 (List.map enc_si p1)), (1, .fn 87 [.bp [.v (.string p2)] 0])], []⟩) (C := True) (by kernel_rfl) trivial trivial ?_
  refine AX.seq ?_
  refine AX.seq ?_
  refine AX.reg (its := [.auto {}, .auto { y := some (.v (.int .i64 (p1.length : Int))) }]) [0, 1, 7, 8] [] (s1 := ⟨[(0, .bs false 2 (List.map enc_si p1)), (1, .fn 87 [.bp [.v (.string p2)] 0]), (7, .v (.int .i64 (p1.length : Int))), (8, .v (.int .i64 0))], []⟩) (C := (True ∧ (AV.v (.int .i64 ((List.map enc_si p1).length : Int)) = AV.v (.int .i64 (p1.length : Int)))) ∧ True) (by kernel_rfl) ⟨⟨trivial, len_map enc_si p1⟩, trivial⟩ trivial ?_
  refine AX.block ?_
  obtain ⟨x5, e5, h⟩ := bd_e h
  refine AX.wk (Wk.forget [0, 1, 7, 8] [] (s' := ⟨[(0, .bs false 2 (List.map enc_si p1)), (1, .fn 87 [.bp [.v (.string p2)] 0]), (7, .v (.int .i64 (p1.length : Int))), (8, .v (.int .i64 0))], []⟩) (by kernel_rfl)) ?_
  refine AX.mono (s_slices_IndexFunc_si_named_1_l_L1 p1 p2 FU 0 x5 e5) ?_
  rintro _ _ (⟨x6, rfl, rfl, rfl⟩ | ⟨x7, rfl, rfl, rfl⟩)
  · replace h := sm_l h
    refine fin_wk (Wk.forget [4] [] (s' := ⟨[(4, .v (.int .i64 x6))], []⟩) (by kernel_rfl)) ?_
    have hr := Option.some.inj h
    subst hr
    exact ⟨_, Wk.refl _, .inr rfl, ⟨[], by kernel_rfl, trivial, [.v (.int .i64 x6)], by kernel_rfl, by kernel_rfl⟩⟩
  · replace h := sm_r h
    refine AX.seq ?_
    refine AX.reg (its := []) [4] [] (s1 := ⟨[(4, .v (.int .i64 (-1)))], []⟩) (C := True) (by kernel_rfl) trivial trivial ?_
    refine AX.ret ?_
    refine fin_wk (Wk.forget [4] [] (s' := ⟨[(4, .v (.int .i64 (-1)))], []⟩) (by kernel_rfl)) ?_
    have hr := Option.some.inj h
    subst hr
    exact ⟨_, Wk.refl _, .inr rfl, ⟨[], by kernel_rfl, trivial, [.v (.int .i64 (-1))], by kernel_rfl, by kernel_rfl⟩⟩

theorem s_impl_named (p1 : List (ByteArray × Int)) (p2 : ByteArray) (r : Int) (h : m_impl_named p1 p2 = some r) :
    Eng.Spec Tryd.prog 40 [.bs false 2 (List.map enc_si p1), .v (.string p2)] [] (.v (.int .i64 r)) [] := by
  unfold m_impl_named at h
  refine Eng.Spec.body Tryd.func40 (by kernel_rfl) rfl (by kernel_rfl) ?_
  refine AX.wkpost ?_
  refine AX.seq ?_
  refine AX.reg (its := [.auto { nk := 0 }]) [0, 3] [0] (s1 := ⟨[(0, .bs false 2 (List.map enc_si p1)), (3, .pt 0 0)], [(0, .box [.v (.string p2)])]⟩) (C := True) (by kernel_rfl) trivial trivial ?_
  refine AX.seq ?_
  obtain ⟨x3, e1, h⟩ := bd_e h
  refine AX.reg (its := [.auto {}, .auto {}, .call 86 [.bs false 2 (List.map enc_si p1), .fn 87 [.pt 0 0]] (handO (rho ([] ++ [])) [] [] ++ [(0, .box [.v (.string p2)])]) (callEv [] [] (.v (.int .i64 x3)) [])]) [4] [] (s1 := ⟨[(4, .v (.int .i64 x3))], []⟩) (C := ((([.bs false 2 (List.map enc_si p1), .fn 87 [.pt 0 0]] : List AV) = [.bs false 2 (List.map enc_si p1), .fn 87 [.pt 0 0]]) ∧ (AO.box [.v (.string p2)] = AO.box [.v (.string p2)]) ∧ True) ∧ True) (by kernel_rfl) ⟨⟨rfl, rfl, trivial⟩, trivial⟩ ⟨call_ok (ks := []) (ns := []) (bor := [0]) (bobjs := [(0, .box [.v (.string p2)])]) (s_slices_IndexFunc_si_named_1_l p1 p2 x3 e1) (.cons (.c1 (.c0 (.same _ (by kernel_rfl) (by kernel_rfl)))) (.cons (.fn (.cons (.box rfl rfl (.cons (.same _ (by kernel_rfl) (by kernel_rfl)) (.nil))) (.nil))) (.nil))) (by kernel_rfl) trivial, trivial⟩ ?_
  refine AX.ret ?_
  refine fin_wk (Wk.forget [4] [] (s' := ⟨[(4, .v (.int .i64 x3))], []⟩) (by kernel_rfl)) ?_
  have hr := Option.some.inj h
  subst hr
  exact ⟨_, Wk.refl _, .inr rfl, ⟨[], by kernel_rfl, trivial, [.v (.int .i64 x3)], by kernel_rfl, by kernel_rfl⟩⟩

theorem s_impl_defsValid_L1 (p1 : List (ByteArray × Int)) (p2 : Int) (p3 : Int) (n : Nat) (g : Int) (out : Unit ⊕ Unit) (h : m_impl_defsValid_L1 p1 p2 p3 n g = some out) :
    AX Tryd.prog 41 0 (codeAt [1, 0, 1, 1] (bodyOf Tryd.f84)) ((fun g : Int => (⟨[(0, .bs false 2 (List.map enc_si p1)), (1, .v (.int .i64 p2)), (2, .v (.int .i64 p3)), (9, .bs false 2 (List.map enc_si p1)), (10, .v (.int .i64 (p1.length : Int))), (11, .v (.int .i64 g))], []⟩ : S)) g) (fun ex s => (∃ o : Unit, out = Sum.inl o ∧ ex = .ret ∧ s = ⟨[(6, .v (.bool false))], []⟩) ∨ (∃ o : Unit, out = Sum.inr o ∧ ex = .exit 0 ∧ s = ⟨[(0, .bs false 2 (List.map enc_si p1))], []⟩)) := by
  refine AX.wkpost ?_
  refine AX.loop (G := Nat × (Int)) (fun q => (fun g : Int => (⟨[(0, .bs false 2 (List.map enc_si p1)), (1, .v (.int .i64 p2)), (2, .v (.int .i64 p3)), (9, .bs false 2 (List.map enc_si p1)), (10, .v (.int .i64 (p1.length : Int))), (11, .v (.int .i64 g))], []⟩ : S)) q.2) (fun q => m_impl_defsValid_L1 p1 p2 p3 q.1 q.2 = some out) (fun q => q.1) (n, g) h (Wk.refl _) ?_
  clear h
  rintro ⟨fu, v4⟩ h
  cases fu with
  | zero => cases h
  | succ fu =>
    rw [m_impl_defsValid_L1] at h
    refine AX.seq ?_
    refine AX.reg (its := []) [0, 1, 2, 9, 10, 11, 12] [] (s1 := ⟨[(0, .bs false 2 (List.map enc_si p1)), (1, .v (.int .i64 p2)), (2, .v (.int .i64 p3)), (9, .bs false 2 (List.map enc_si p1)), (10, .v (.int .i64 (p1.length : Int))), (11, .v (.int .i64 v4)), (12, .v (.bool (decide (v4 < (p1.length : Int)))))], []⟩) (C := True) (by kernel_rfl) trivial trivial ?_
    refine AX.seq ?_
    rcases bool_cases (decide (v4 < (p1.length : Int))) with b1 | b1
    · replace h := cd_t b1 h
      refine AX.condT (decide (v4 < (p1.length : Int))) (by kernel_rfl) b1 ?_
      refine AX.skip ?_
      refine AX.seq ?_
      refine AX.block ?_
      refine AX.seq ?_
      obtain ⟨g2, h⟩ := gd_e h
      refine AX.reg (its := [.auto {}, .auto { y := some (.be 2 (enc_si (gt p1 v4)) 0) }, .auto {}, .auto { nk := 0 }]) [0, 1, 2, 7, 8, 9, 10, 11] [0] (s1 := ⟨[(0, .bs false 2 (List.map enc_si p1)), (1, .v (.int .i64 p2)), (2, .v (.int .i64 p3)), (7, .v (.int .i64 v4)), (8, .pt 0 0), (9, .bs false 2 (List.map enc_si p1)), (10, .v (.int .i64 (p1.length : Int))), (11, .v (.int .i64 v4))], [(0, .box [.v (.string ((gt p1 v4).1)), .v (.int .i64 ((gt p1 v4).2))])]⟩) (C := ((0 ≤ v4 ∧ v4 < ((List.map enc_si p1).length : Int)) ∧ (AV.be 2 ((List.map enc_si p1).getD v4.toNat []) 0 = AV.be 2 (enc_si (gt p1 v4)) 0)) ∧ True) (by kernel_rfl) ⟨idx_bs enc_si p1 v4 2 g2, trivial⟩ trivial ?_
      refine AX.seq ?_
      obtain ⟨x5, e3, h⟩ := bd_e h
      rcases bool_cases ((!x5)) with b4 | b4
      · replace h := cd_t b4 h
        refine AX.drw mixed (its := [.auto {}, .auto {}, .call 126 [.v (.string ((gt p1 v4).1))] (handO (rho ([] ++ [])) [] [] ++ []) (callEv [] [] (.v (.bool x5)) []), .auto { y := some (.v (.bool true)) }]) [0, 1, 2, 9, 10, 11, 36] [] (s1 := ⟨[(0, .bs false 2 (List.map enc_si p1)), (1, .v (.int .i64 p2)), (2, .v (.int .i64 p3)), (9, .bs false 2 (List.map enc_si p1)), (10, .v (.int .i64 (p1.length : Int))), (11, .v (.int .i64 v4)), (36, .v (.bool true))], []⟩) (C := ((([.v (.string ((gt p1 v4).1))] : List AV) = [.v (.string ((gt p1 v4).1))]) ∧ True) ∧ ((True) ∧ ((.v (.bool (!x5)) : AV) = (.v (.bool true) : AV))) ∧ True) (by kernel_rfl) ⟨⟨rfl, trivial⟩, ⟨⟨trivial, (congrArg (fun z => AV.v (.bool z)) b4)⟩, trivial⟩⟩ ⟨call_ok (ks := []) (ns := []) (bor := []) (bobjs := []) (s_impl_ValidName ((gt p1 v4).1) x5 e3) (.cons (.c1 (.c0 (.same _ (by kernel_rfl) (by kernel_rfl)))) (.nil)) (by kernel_rfl) trivial, trivial⟩ ?_
        refine AX.cond_true (by kernel_rfl) ?_
        refine AX.seq ?_
        refine AX.reg (its := []) [6] [] (s1 := ⟨[(6, .v (.bool false))], []⟩) (C := True) (by kernel_rfl) trivial trivial ?_
        refine AX.ret ?_
        refine fin_wk (Wk.forget [6] [] (s' := ⟨[(6, .v (.bool false))], []⟩) (by kernel_rfl)) ?_
        have hr := Option.some.inj h
        subst hr
        exact ⟨_, Wk.refl _, .inl ⟨(), rfl, rfl, rfl⟩⟩
      · replace h := cd_f b4 h
        obtain ⟨x6, e5, h⟩ := bd_e h
        rcases bool_cases ((!x6)) with b6 | b6
        · replace h := cd_t b6 h
          refine AX.drw mixed (its := [.auto {}, .auto {}, .call 126 [.v (.string ((gt p1 v4).1))] (handO (rho ([] ++ [])) [] [] ++ []) (callEv [] [] (.v (.bool x5)) []), .auto { y := some (.v (.bool false)) }, .auto {}, .auto {}, .auto {}, .auto {}, .auto {}, .call 42 [.v (.int .i64 ((gt p1 v4).2)), .v (.int .i64 p2), .v (.int .i64 p3)] (handO (rho ([] ++ [])) [] [] ++ []) (callEv [] [] (.v (.bool x6)) []), .auto { y := some (.v (.bool true)) }]) [0, 1, 2, 9, 10, 11, 36] [] (s1 := ⟨[(0, .bs false 2 (List.map enc_si p1)), (1, .v (.int .i64 p2)), (2, .v (.int .i64 p3)), (9, .bs false 2 (List.map enc_si p1)), (10, .v (.int .i64 (p1.length : Int))), (11, .v (.int .i64 v4)), (36, .v (.bool true))], []⟩) (C := ((([.v (.string ((gt p1 v4).1))] : List AV) = [.v (.string ((gt p1 v4).1))]) ∧ True) ∧ ((True) ∧ ((.v (.bool (!x5)) : AV) = (.v (.bool false) : AV))) ∧ ((([.v (.int .i64 ((gt p1 v4).2)), .v (.int .i64 p2), .v (.int .i64 p3)] : List AV) = [.v (.int .i64 ((gt p1 v4).2)), .v (.int .i64 p2), .v (.int .i64 p3)]) ∧ True) ∧ ((True) ∧ ((.v (.bool (!x6)) : AV) = (.v (.bool true) : AV))) ∧ True) (by kernel_rfl) ⟨⟨rfl, trivial⟩, ⟨⟨trivial, (congrArg (fun z => AV.v (.bool z)) b4)⟩, ⟨⟨rfl, trivial⟩, ⟨⟨trivial, (congrArg (fun z => AV.v (.bool z)) b6)⟩, trivial⟩⟩⟩⟩ ⟨call_ok (ks := []) (ns := []) (bor := []) (bobjs := []) (s_impl_ValidName ((gt p1 v4).1) x5 e3) (.cons (.c1 (.c0 (.same _ (by kernel_rfl) (by kernel_rfl)))) (.nil)) (by kernel_rfl) trivial, ⟨call_ok (ks := []) (ns := []) (bor := []) (bobjs := []) (s_impl_in ((gt p1 v4).2) p2 p3 x6 e5) (.cons (.c1 (.c0 (.same _ (by kernel_rfl) (by kernel_rfl)))) (.cons (.c1 (.c0 (.same _ (by kernel_rfl) (by kernel_rfl)))) (.cons (.c1 (.c0 (.same _ (by kernel_rfl) (by kernel_rfl)))) (.nil)))) (by kernel_rfl) trivial, trivial⟩⟩ ?_
          refine AX.cond_true (by kernel_rfl) ?_
          refine AX.seq ?_
          refine AX.reg (its := []) [6] [] (s1 := ⟨[(6, .v (.bool false))], []⟩) (C := True) (by kernel_rfl) trivial trivial ?_
          refine AX.ret ?_
          refine fin_wk (Wk.forget [6] [] (s' := ⟨[(6, .v (.bool false))], []⟩) (by kernel_rfl)) ?_
          have hr := Option.some.inj h
          subst hr
          exact ⟨_, Wk.refl _, .inl ⟨(), rfl, rfl, rfl⟩⟩
        · replace h := cd_f b6 h
          obtain ⟨g7, h⟩ := gd_e h
          obtain ⟨x7, e8, h⟩ := bd_e h
          refine AX.drw mixed (its := [.auto {}, .auto {}, .call 126 [.v (.string ((gt p1 v4).1))] (handO (rho ([] ++ [])) [] [] ++ []) (callEv [] [] (.v (.bool x5)) []), .auto { y := some (.v (.bool false)) }, .auto {}, .auto {}, .auto {}, .auto {}, .auto {}, .call 42 [.v (.int .i64 ((gt p1 v4).2)), .v (.int .i64 p2), .v (.int .i64 p3)] (handO (rho ([] ++ [])) [] [] ++ []) (callEv [] [] (.v (.bool x6)) []), .auto { y := some (.v (.bool false)) }, .auto {}, .auto {}, .auto {}, .auto {}, .auto { y := some (.bs false 2 (List.map enc_si (sub p1 (0 : Int) v4))) }, .auto {}, .auto {}, .call 40 [.bs false 2 (List.map enc_si (sub p1 (0 : Int) v4)), .v (.string ((gt p1 v4).1))] (handO (rho ([] ++ [])) [] [] ++ []) (callEv [] [] (.v (.int .i64 x7)) [])]) [0, 1, 2, 9, 10, 11, 36] [] (s1 := ⟨[(0, .bs false 2 (List.map enc_si p1)), (1, .v (.int .i64 p2)), (2, .v (.int .i64 p3)), (9, .bs false 2 (List.map enc_si p1)), (10, .v (.int .i64 (p1.length : Int))), (11, .v (.int .i64 v4)), (36, .v (.bool (decide (0 ≤ x7))))], []⟩) (C := ((([.v (.string ((gt p1 v4).1))] : List AV) = [.v (.string ((gt p1 v4).1))]) ∧ True) ∧ ((True) ∧ ((.v (.bool (!x5)) : AV) = (.v (.bool false) : AV))) ∧ ((([.v (.int .i64 ((gt p1 v4).2)), .v (.int .i64 p2), .v (.int .i64 p3)] : List AV) = [.v (.int .i64 ((gt p1 v4).2)), .v (.int .i64 p2), .v (.int .i64 p3)]) ∧ True) ∧ ((True) ∧ ((.v (.bool (!x6)) : AV) = (.v (.bool false) : AV))) ∧ ((0 ≤ (0 : Int) ∧ (0 : Int) ≤ v4 ∧ v4 ≤ ((List.map enc_si p1).length : Int) ∧ ((List.map enc_si p1).length : Int) ≤ ((List.map enc_si p1).length : Int)) ∧ (AV.bs false 2 (((List.map enc_si p1).drop (0 : Int).toNat).take (v4.toNat - (0 : Int).toNat)) = (.bs false 2 (List.map enc_si (sub p1 (0 : Int) v4)) : AV))) ∧ ((([.bs false 2 (List.map enc_si (sub p1 (0 : Int) v4)), .v (.string ((gt p1 v4).1))] : List AV) = [.bs false 2 (List.map enc_si (sub p1 (0 : Int) v4)), .v (.string ((gt p1 v4).1))]) ∧ True) ∧ True) (by kernel_rfl) ⟨⟨rfl, trivial⟩, ⟨⟨trivial, (congrArg (fun z => AV.v (.bool z)) b4)⟩, ⟨⟨rfl, trivial⟩, ⟨⟨trivial, (congrArg (fun z => AV.v (.bool z)) b6)⟩, ⟨⟨by first | exact g7 | simpa only [List.length_map] using g7, by first | exact sub_can enc_si p1 (0 : Int) v4 false 2 | (simp only [List.length_map]; exact sub_can enc_si p1 (0 : Int) v4 false 2)⟩, ⟨⟨rfl, trivial⟩, trivial⟩⟩⟩⟩⟩⟩ ⟨call_ok (ks := []) (ns := []) (bor := []) (bobjs := []) (s_impl_ValidName ((gt p1 v4).1) x5 e3) (.cons (.c1 (.c0 (.same _ (by kernel_rfl) (by kernel_rfl)))) (.nil)) (by kernel_rfl) trivial, ⟨call_ok (ks := []) (ns := []) (bor := []) (bobjs := []) (s_impl_in ((gt p1 v4).2) p2 p3 x6 e5) (.cons (.c1 (.c0 (.same _ (by kernel_rfl) (by kernel_rfl)))) (.cons (.c1 (.c0 (.same _ (by kernel_rfl) (by kernel_rfl)))) (.cons (.c1 (.c0 (.same _ (by kernel_rfl) (by kernel_rfl)))) (.nil)))) (by kernel_rfl) trivial, ⟨call_ok (ks := []) (ns := []) (bor := []) (bobjs := []) (s_impl_named (sub p1 (0 : Int) v4) ((gt p1 v4).1) x7 e8) (.cons (.c1 (.c0 (.same _ (by kernel_rfl) (by kernel_rfl)))) (.cons (.c1 (.c0 (.same _ (by kernel_rfl) (by kernel_rfl)))) (.nil))) (by kernel_rfl) trivial, trivial⟩⟩⟩ ?_
          rcases bool_cases (decide (0 ≤ x7)) with b9 | b9
          · replace h := cd_t b9 h
            refine AX.condT (decide (0 ≤ x7)) (by kernel_rfl) b9 ?_
            refine AX.seq ?_
            refine AX.reg (its := []) [6] [] (s1 := ⟨[(6, .v (.bool false))], []⟩) (C := True) (by kernel_rfl) trivial trivial ?_
            refine AX.ret ?_
            refine fin_wk (Wk.forget [6] [] (s' := ⟨[(6, .v (.bool false))], []⟩) (by kernel_rfl)) ?_
            have hr := Option.some.inj h
            subst hr
            exact ⟨_, Wk.refl _, .inl ⟨(), rfl, rfl, rfl⟩⟩
          · replace h := cd_f b9 h
            refine AX.condF (decide (0 ≤ x7)) (by kernel_rfl) b9 ?_
            refine AX.skip ?_
            refine AX.reg (its := [.auto { raw := true }]) [0, 1, 2, 9, 10, 11] [] (s1 := ⟨[(0, .bs false 2 (List.map enc_si p1)), (1, .v (.int .i64 p2)), (2, .v (.int .i64 p3)), (9, .bs false 2 (List.map enc_si p1)), (10, .v (.int .i64 (p1.length : Int))), (11, .v (.int .i64 (IntKind.wrap .i64 (v4 + 1))))], []⟩) (C := True) (by kernel_rfl) trivial trivial ?_
            refine ⟨(fu, IntKind.wrap .i64 (v4 + 1)), h, Nat.lt_succ_self _, ?_⟩
            refine Wk.trans (Wk.forget [0, 1, 2, 9, 10, 11] [] (s' := ⟨[(0, .bs false 2 (List.map enc_si p1)), (1, .v (.int .i64 p2)), (2, .v (.int .i64 p3)), (9, .bs false 2 (List.map enc_si p1)), (10, .v (.int .i64 (p1.length : Int))), (11, .v (.int .i64 (IntKind.wrap .i64 (v4 + 1))))], []⟩) (by kernel_rfl)) ?_
            exact Wk.refl _
    · replace h := cd_f b1 h
      refine AX.condF (decide (v4 < (p1.length : Int))) (by kernel_rfl) b1 ?_
      refine AX.exit ?_
      refine fin_wk (Wk.forget [0] [] (s' := ⟨[(0, .bs false 2 (List.map enc_si p1))], []⟩) (by kernel_rfl)) ?_
      have hr := Option.some.inj h
      subst hr
      exact ⟨_, Wk.refl _, .inr ⟨(), rfl, rfl, rfl⟩⟩

theorem s_impl_defsValid (p1 : List (ByteArray × Int)) (p2 : Int) (p3 : Int) (r : Bool) (h : m_impl_defsValid p1 p2 p3 = some r) :
    Eng.Spec Tryd.prog 84 [.bs false 2 (List.map enc_si p1), .v (.int .i64 p2), .v (.int .i64 p3)] [] (.v (.bool r)) [] := by
  unfold m_impl_defsValid at h
  refine Eng.Spec.body Tryd.func84 (by kernel_rfl) rfl (by kernel_rfl) ?_
  refine AX.wkpost ?_
  refine AX.seq ?_
  refine AX.reg (its := []) [0, 1, 2] [] (s1 := ⟨[(0, .bs false 2 (List.map enc_si p1)), (1, .v (.int .i64 p2)), (2, .v (.int .i64 p3))], []⟩) (C := True) (by kernel_rfl) trivial trivial ?_
  refine AX.seq ?_
  refine AX.seq ?_
  refine AX.reg (its := [.auto {}, .auto { y := some (.v (.int .i64 (p1.length : Int))) }]) [0, 1, 2, 9, 10, 11] [] (s1 := ⟨[(0, .bs false 2 (List.map enc_si p1)), (1, .v (.int .i64 p2)), (2, .v (.int .i64 p3)), (9, .bs false 2 (List.map enc_si p1)), (10, .v (.int .i64 (p1.length : Int))), (11, .v (.int .i64 0))], []⟩) (C := (True ∧ (AV.v (.int .i64 ((List.map enc_si p1).length : Int)) = AV.v (.int .i64 (p1.length : Int)))) ∧ True) (by kernel_rfl) ⟨⟨trivial, len_map enc_si p1⟩, trivial⟩ trivial ?_
  refine AX.block ?_
  obtain ⟨x8, e10, h⟩ := bd_e h
  refine AX.wk (Wk.forget [0, 1, 2, 9, 10, 11] [] (s' := ⟨[(0, .bs false 2 (List.map enc_si p1)), (1, .v (.int .i64 p2)), (2, .v (.int .i64 p3)), (9, .bs false 2 (List.map enc_si p1)), (10, .v (.int .i64 (p1.length : Int))), (11, .v (.int .i64 0))], []⟩) (by kernel_rfl)) ?_
  refine AX.mono (s_impl_defsValid_L1 p1 p2 p3 FU 0 x8 e10) ?_
  rintro _ _ (⟨x9, rfl, rfl, rfl⟩ | ⟨x10, rfl, rfl, rfl⟩)
  · replace h := sm_l h
    refine fin_wk (Wk.forget [6] [] (s' := ⟨[(6, .v (.bool false))], []⟩) (by kernel_rfl)) ?_
    have hr := Option.some.inj h
    subst hr
    exact ⟨_, Wk.refl _, .inr rfl, ⟨[], by kernel_rfl, trivial, [.v (.bool false)], by kernel_rfl, by kernel_rfl⟩⟩
  · replace h := sm_r h
    refine AX.seq ?_
    refine AX.reg (its := [.auto {}, .auto { y := some (.v (.int .i64 (p1.length : Int))) }]) [6] [] (s1 := ⟨[(6, .v (.bool (decide ((p1.length : Int) ≤ 12))))], []⟩) (C := (True ∧ (AV.v (.int .i64 ((List.map enc_si p1).length : Int)) = AV.v (.int .i64 (p1.length : Int)))) ∧ True) (by kernel_rfl) ⟨⟨trivial, len_map enc_si p1⟩, trivial⟩ trivial ?_
    refine AX.ret ?_
    refine fin_wk (Wk.forget [6] [] (s' := ⟨[(6, .v (.bool (decide ((p1.length : Int) ≤ 12))))], []⟩) (by kernel_rfl)) ?_
    have hr := Option.some.inj h
    subst hr
    exact ⟨_, Wk.refl _, .inr rfl, ⟨[], by kernel_rfl, trivial, [.v (.bool (decide ((p1.length : Int) ≤ 12)))], by kernel_rfl, by kernel_rfl⟩⟩

theorem s_impl_ValidFlag (p1 : List (ByteArray × Int)) (p2 : Int) (r : Bool) (h : m_impl_ValidFlag p1 p2 = some r) :
    Eng.Spec Tryd.prog 38 [.agg [.bs false 2 (List.map enc_si p1), .v (.int .i64 p2)]] [] (.v (.bool r)) [] := by
  unfold m_impl_ValidFlag at h
  refine Eng.Spec.body Tryd.func38 (by kernel_rfl) rfl (by kernel_rfl) ?_
  refine AX.wkpost ?_
  refine AX.seq ?_
  refine AX.reg (its := [.auto { nk := 0 }]) [1] [0] (s1 := ⟨[(1, .pt 0 0)], [(0, .box [.bs false 2 (List.map enc_si p1), .v (.int .i64 p2)])]⟩) (C := True) (by kernel_rfl) trivial trivial ?_
  refine AX.seq ?_
  obtain ⟨x3, e1, h⟩ := bd_e h
  rcases bool_cases (x3) with b2 | b2
  · replace h := cd_t b2 h
    obtain ⟨x4, e3, h⟩ := bd_e h
    refine AX.reg (its := [.auto {}, .auto {}, .call 84 [.bs false 2 (List.map enc_si p1), .v (.int .i64 0), .v (.int .i64 4095)] (handO (rho ([] ++ [])) [] [] ++ []) (callEv [] [] (.v (.bool true)) []), .auto {}, .auto {}, .auto {}, .call 42 [.v (.int .i64 p2), .v (.int .i64 0), .v (.int .i64 3)] (handO (rho ([] ++ [])) [] [] ++ []) (callEv [] [] (.v (.bool x4)) [])]) [2] [] (s1 := ⟨[(2, .v (.bool x4))], []⟩) (C := ((([.bs false 2 (List.map enc_si p1), .v (.int .i64 0), .v (.int .i64 4095)] : List AV) = [.bs false 2 (List.map enc_si p1), .v (.int .i64 0), .v (.int .i64 4095)]) ∧ True) ∧ ((([.v (.int .i64 p2), .v (.int .i64 0), .v (.int .i64 3)] : List AV) = [.v (.int .i64 p2), .v (.int .i64 0), .v (.int .i64 3)]) ∧ True) ∧ True) (by kernel_rfl) ⟨⟨rfl, trivial⟩, ⟨⟨rfl, trivial⟩, trivial⟩⟩ ⟨call_ok (ks := []) (ns := []) (bor := []) (bobjs := []) (show Eng.Spec Tryd.prog 84 [.bs false 2 (List.map enc_si p1), .v (.int .i64 0), .v (.int .i64 4095)] [] (.v (.bool true)) [] from by have q := s_impl_defsValid p1 0 4095 x3 e1; rw [b2] at q; exact q) (.cons (.c1 (.c0 (.same _ (by kernel_rfl) (by kernel_rfl)))) (.cons (.c1 (.c0 (.same _ (by kernel_rfl) (by kernel_rfl)))) (.cons (.c1 (.c0 (.same _ (by kernel_rfl) (by kernel_rfl)))) (.nil)))) (by kernel_rfl) trivial, ⟨call_ok (ks := []) (ns := []) (bor := []) (bobjs := []) (s_impl_in p2 0 3 x4 e3) (.cons (.c1 (.c0 (.same _ (by kernel_rfl) (by kernel_rfl)))) (.cons (.c1 (.c0 (.same _ (by kernel_rfl) (by kernel_rfl)))) (.cons (.c1 (.c0 (.same _ (by kernel_rfl) (by kernel_rfl)))) (.nil)))) (by kernel_rfl) trivial, trivial⟩⟩ ?_
    refine AX.ret ?_
    refine fin_wk (Wk.forget [2] [] (s' := ⟨[(2, .v (.bool x4))], []⟩) (by kernel_rfl)) ?_
    have hr := Option.some.inj h
    subst hr
    exact ⟨_, Wk.refl _, .inr rfl, ⟨[], by kernel_rfl, trivial, [.v (.bool x4)], by kernel_rfl, by kernel_rfl⟩⟩
  · replace h := cd_f b2 h
    refine AX.reg (its := [.auto {}, .auto {}, .call 84 [.bs false 2 (List.map enc_si p1), .v (.int .i64 0), .v (.int .i64 4095)] (handO (rho ([] ++ [])) [] [] ++ []) (callEv [] [] (.v (.bool false)) [])]) [2] [] (s1 := ⟨[(2, .v (.bool false))], []⟩) (C := ((([.bs false 2 (List.map enc_si p1), .v (.int .i64 0), .v (.int .i64 4095)] : List AV) = [.bs false 2 (List.map enc_si p1), .v (.int .i64 0), .v (.int .i64 4095)]) ∧ True) ∧ True) (by kernel_rfl) ⟨⟨rfl, trivial⟩, trivial⟩ ⟨call_ok (ks := []) (ns := []) (bor := []) (bobjs := []) (show Eng.Spec Tryd.prog 84 [.bs false 2 (List.map enc_si p1), .v (.int .i64 0), .v (.int .i64 4095)] [] (.v (.bool false)) [] from by have q := s_impl_defsValid p1 0 4095 x3 e1; rw [b2] at q; exact q) (.cons (.c1 (.c0 (.same _ (by kernel_rfl) (by kernel_rfl)))) (.cons (.c1 (.c0 (.same _ (by kernel_rfl) (by kernel_rfl)))) (.cons (.c1 (.c0 (.same _ (by kernel_rfl) (by kernel_rfl)))) (.nil)))) (by kernel_rfl) trivial, trivial⟩ ?_
    refine AX.ret ?_
    refine fin_wk (Wk.forget [2] [] (s' := ⟨[(2, .v (.bool false))], []⟩) (by kernel_rfl)) ?_
    have hr := Option.some.inj h
    subst hr
    exact ⟨_, Wk.refl _, .inr rfl, ⟨[], by kernel_rfl, trivial, [.v (.bool false)], by kernel_rfl, by kernel_rfl⟩⟩

theorem s_impl_Flag_mask_L1 (p1 : List (ByteArray × Int)) (n : Nat) (g : Int × Int) (out : Int) (h : m_impl_Flag_mask_L1 p1 n g.1 g.2 = some out) :
    AX Tryd.prog 19 0 (codeAt [1, 1, 0, 1, 1] (bodyOf Tryd.f89)) ((fun g : Int × Int => (⟨[(3, .v (.int .i64 g.1)), (7, .bs false 2 (List.map enc_si p1)), (8, .v (.int .i64 (p1.length : Int))), (9, .v (.int .i64 g.2))], []⟩ : S)) g) (fun ex s => ex = .exit 0 ∧ s = (fun o : Int => (⟨[(3, .v (.int .i64 o))], []⟩ : S)) out) := by
  refine AX.wkpost ?_
  refine AX.loop (G := Nat × (Int × Int)) (fun q => (fun g : Int × Int => (⟨[(3, .v (.int .i64 g.1)), (7, .bs false 2 (List.map enc_si p1)), (8, .v (.int .i64 (p1.length : Int))), (9, .v (.int .i64 g.2))], []⟩ : S)) q.2) (fun q => m_impl_Flag_mask_L1 p1 q.1 q.2.1 q.2.2 = some out) (fun q => q.1) (n, g) h (Wk.refl _) ?_
  clear h
  rintro ⟨fu, v3, v4⟩ h
  cases fu with
  | zero => cases h
  | succ fu =>
    rw [m_impl_Flag_mask_L1] at h
    refine AX.seq ?_
    refine AX.reg (its := []) [3, 7, 8, 9, 10] [] (s1 := ⟨[(3, .v (.int .i64 v3)), (7, .bs false 2 (List.map enc_si p1)), (8, .v (.int .i64 (p1.length : Int))), (9, .v (.int .i64 v4)), (10, .v (.bool (decide (v4 < (p1.length : Int)))))], []⟩) (C := True) (by kernel_rfl) trivial trivial ?_
    refine AX.seq ?_
    rcases bool_cases (decide (v4 < (p1.length : Int))) with b1 | b1
    · replace h := cd_t b1 h
      refine AX.condT (decide (v4 < (p1.length : Int))) (by kernel_rfl) b1 ?_
      refine AX.skip ?_
      refine AX.seq ?_
      refine AX.block ?_
      refine AX.seq ?_
      obtain ⟨g2, h⟩ := gd_e h
      refine AX.reg (its := [.auto { y := some (.be 2 (enc_si (gt p1 v4)) 0) }, .auto {}, .auto { nk := 0 }]) [3, 5, 7, 8, 9] [0] (s1 := ⟨[(3, .v (.int .i64 v3)), (5, .pt 0 0), (7, .bs false 2 (List.map enc_si p1)), (8, .v (.int .i64 (p1.length : Int))), (9, .v (.int .i64 v4))], [(0, .box [.v (.string ((gt p1 v4).1)), .v (.int .i64 ((gt p1 v4).2))])]⟩) (C := ((0 ≤ v4 ∧ v4 < ((List.map enc_si p1).length : Int)) ∧ (AV.be 2 ((List.map enc_si p1).getD v4.toNat []) 0 = AV.be 2 (enc_si (gt p1 v4)) 0)) ∧ True) (by kernel_rfl) ⟨idx_bs enc_si p1 v4 2 g2, trivial⟩ trivial ?_
      refine AX.reg (its := []) [3, 7, 8, 9] [] (s1 := ⟨[(3, .v (.int .i64 (Go.bits .or .i64 v3 ((gt p1 v4).2)))), (7, .bs false 2 (List.map enc_si p1)), (8, .v (.int .i64 (p1.length : Int))), (9, .v (.int .i64 v4))], []⟩) (C := True) (by kernel_rfl) trivial trivial ?_
      refine AX.reg (its := [.auto { raw := true }]) [3, 7, 8, 9] [] (s1 := ⟨[(3, .v (.int .i64 (Go.bits .or .i64 v3 ((gt p1 v4).2)))), (7, .bs false 2 (List.map enc_si p1)), (8, .v (.int .i64 (p1.length : Int))), (9, .v (.int .i64 (IntKind.wrap .i64 (v4 + 1))))], []⟩) (C := True) (by kernel_rfl) trivial trivial ?_
      refine ⟨(fu, (Go.bits .or .i64 v3 ((gt p1 v4).2), IntKind.wrap .i64 (v4 + 1))), h, Nat.lt_succ_self _, ?_⟩
      refine Wk.trans (Wk.forget [3, 7, 8, 9] [] (s' := ⟨[(3, .v (.int .i64 (Go.bits .or .i64 v3 ((gt p1 v4).2)))), (7, .bs false 2 (List.map enc_si p1)), (8, .v (.int .i64 (p1.length : Int))), (9, .v (.int .i64 (IntKind.wrap .i64 (v4 + 1))))], []⟩) (by kernel_rfl)) ?_
      exact Wk.refl _
    · replace h := cd_f b1 h
      refine AX.condF (decide (v4 < (p1.length : Int))) (by kernel_rfl) b1 ?_
      refine AX.exit ?_
      refine fin_wk (Wk.forget [3] [] (s' := ⟨[(3, .v (.int .i64 v3))], []⟩) (by kernel_rfl)) ?_
      have hr := Option.some.inj h
      subst hr
      exact ⟨_, Wk.refl _, ⟨rfl, rfl⟩⟩

theorem s_impl_Flag_mask (p1 : List (ByteArray × Int)) (p2 : Int) (r : Int) (h : m_impl_Flag_mask p1 p2 = some r) :
    Eng.Spec Tryd.prog 89 [.agg [.bs false 2 (List.map enc_si p1), .v (.int .i64 p2)]] [] (.v (.int .i64 r)) [] := by
  unfold m_impl_Flag_mask at h
  refine Eng.Spec.body Tryd.func89 (by kernel_rfl) rfl (by kernel_rfl) ?_
  refine AX.wkpost ?_
  refine AX.seq ?_
  refine AX.reg (its := [.auto { nk := 0 }]) [1] [0] (s1 := ⟨[(1, .pt 0 0)], [(0, .box [.bs false 2 (List.map enc_si p1), .v (.int .i64 p2)])]⟩) (C := True) (by kernel_rfl) trivial trivial ?_
  refine AX.seq ?_
  refine AX.reg (its := []) [1, 3] [0] (s1 := ⟨[(1, .pt 0 0), (3, .v (.int .i64 0))], [(0, .box [.bs false 2 (List.map enc_si p1), .v (.int .i64 p2)])]⟩) (C := True) (by kernel_rfl) trivial trivial ?_
  refine AX.seq ?_
  refine AX.seq ?_
  refine AX.reg (its := [.auto {}, .auto {}, .auto { y := some (.v (.int .i64 (p1.length : Int))) }]) [3, 7, 8, 9] [] (s1 := ⟨[(3, .v (.int .i64 0)), (7, .bs false 2 (List.map enc_si p1)), (8, .v (.int .i64 (p1.length : Int))), (9, .v (.int .i64 0))], []⟩) (C := (True ∧ (AV.v (.int .i64 ((List.map enc_si p1).length : Int)) = AV.v (.int .i64 (p1.length : Int)))) ∧ True) (by kernel_rfl) ⟨⟨trivial, len_map enc_si p1⟩, trivial⟩ trivial ?_
  refine AX.block ?_
  obtain ⟨x5, e3, h⟩ := bd_e h
  refine AX.wk (Wk.forget [3, 7, 8, 9] [] (s' := ⟨[(3, .v (.int .i64 0)), (7, .bs false 2 (List.map enc_si p1)), (8, .v (.int .i64 (p1.length : Int))), (9, .v (.int .i64 0))], []⟩) (by kernel_rfl)) ?_
  refine AX.mono (s_impl_Flag_mask_L1 p1 FU (0, 0) x5 e3) ?_
  rintro _ _ ⟨rfl, rfl⟩
  skip
  refine AX.seq ?_
  refine AX.reg (its := []) [2] [] (s1 := ⟨[(2, .v (.int .i64 x5))], []⟩) (C := True) (by kernel_rfl) trivial trivial ?_
  refine AX.ret ?_
  refine fin_wk (Wk.forget [2] [] (s' := ⟨[(2, .v (.int .i64 x5))], []⟩) (by kernel_rfl)) ?_
  have hr := Option.some.inj h
  subst hr
  exact ⟨_, Wk.refl _, .inr rfl, ⟨[], by kernel_rfl, trivial, [.v (.int .i64 x5)], by kernel_rfl, by kernel_rfl⟩⟩

theorem s_impl_IsValue (p1 : List (ByteArray × Int)) (p2 : Int) (p3 : Int) (r : Bool) (h : m_impl_IsValue p1 p2 p3 = some r) :
    Eng.Spec Tryd.prog 43 [.agg [.bs false 2 (List.map enc_si p1), .v (.int .i64 p2)], .v (.int .i64 p3)] [] (.v (.bool r)) [] := by
  unfold m_impl_IsValue at h
  refine Eng.Spec.body Tryd.func43 (by kernel_rfl) rfl (by kernel_rfl) ?_
  refine AX.wkpost ?_
  refine AX.seq ?_
  refine AX.reg (its := [.auto { nk := 0 }]) [1, 2] [0] (s1 := ⟨[(1, .v (.int .i64 p3)), (2, .pt 0 0)], [(0, .box [.bs false 2 (List.map enc_si p1), .v (.int .i64 p2)])]⟩) (C := True) (by kernel_rfl) trivial trivial ?_
  refine AX.seq ?_
  obtain ⟨x4, e1, h⟩ := bd_e h
  rcases bool_cases (x4) with b2 | b2
  · replace h := cd_t b2 h
    obtain ⟨x5, e3, h⟩ := bd_e h
    rcases bool_cases (x5) with b4 | b4
    · replace h := cd_t b4 h
      rcases bool_cases (decide (p2 = 3)) with b5 | b5
      · replace h := cd_t b5 h
        refine AX.reg (its := [.auto {}, .call 38 [.agg [.bs false 2 (List.map enc_si p1), .v (.int .i64 p2)]] (handO (rho ([] ++ [])) [] [] ++ []) (callEv [] [] (.v (.bool true)) []), .auto {}, .auto {}, .call 42 [.v (.int .i64 p3), .v (.int .i64 0), .v (.int .i64 4095)] (handO (rho ([] ++ [])) [] [] ++ []) (callEv [] [] (.v (.bool true)) []), .auto {}, .auto {}, .auto {}, .auto {}, .auto { y := some (.v (.bool true)) }]) [4] [] (s1 := ⟨[(4, .v (.bool true))], []⟩) (C := ((([.agg [.bs false 2 (List.map enc_si p1), .v (.int .i64 p2)]] : List AV) = [.agg [.bs false 2 (List.map enc_si p1), .v (.int .i64 p2)]]) ∧ True) ∧ ((([.v (.int .i64 p3), .v (.int .i64 0), .v (.int .i64 4095)] : List AV) = [.v (.int .i64 p3), .v (.int .i64 0), .v (.int .i64 4095)]) ∧ True) ∧ ((True) ∧ ((.v (.bool (decide (p2 = 3))) : AV) = (.v (.bool true) : AV))) ∧ True) (by kernel_rfl) ⟨⟨rfl, trivial⟩, ⟨⟨rfl, trivial⟩, ⟨⟨trivial, (congrArg (fun z => AV.v (.bool z)) b5)⟩, trivial⟩⟩⟩ ⟨call_ok (ks := []) (ns := []) (bor := []) (bobjs := []) (show Eng.Spec Tryd.prog 38 [.agg [.bs false 2 (List.map enc_si p1), .v (.int .i64 p2)]] [] (.v (.bool true)) [] from by have q := s_impl_ValidFlag p1 p2 x4 e1; rw [b2] at q; exact q) (.cons (.c1 (.agg (.cons (.same _ (by kernel_rfl) (by kernel_rfl)) (.cons (.same _ (by kernel_rfl) (by kernel_rfl)) (.nil))))) (.nil)) (by kernel_rfl) trivial, ⟨call_ok (ks := []) (ns := []) (bor := []) (bobjs := []) (show Eng.Spec Tryd.prog 42 [.v (.int .i64 p3), .v (.int .i64 0), .v (.int .i64 4095)] [] (.v (.bool true)) [] from by have q := s_impl_in p3 0 4095 x5 e3; rw [b4] at q; exact q) (.cons (.c1 (.c0 (.same _ (by kernel_rfl) (by kernel_rfl)))) (.cons (.c1 (.c0 (.same _ (by kernel_rfl) (by kernel_rfl)))) (.cons (.c1 (.c0 (.same _ (by kernel_rfl) (by kernel_rfl)))) (.nil)))) (by kernel_rfl) trivial, trivial⟩⟩ ?_
        refine AX.ret ?_
        refine fin_wk (Wk.forget [4] [] (s' := ⟨[(4, .v (.bool true))], []⟩) (by kernel_rfl)) ?_
        have hr := Option.some.inj h
        subst hr
        exact ⟨_, Wk.refl _, .inr rfl, ⟨[], by kernel_rfl, trivial, [.v (.bool true)], by kernel_rfl, by kernel_rfl⟩⟩
      · replace h := cd_f b5 h
        obtain ⟨x6, e6, h⟩ := bd_e h
        refine AX.reg (its := [.auto {}, .call 38 [.agg [.bs false 2 (List.map enc_si p1), .v (.int .i64 p2)]] (handO (rho ([] ++ [])) [] [] ++ []) (callEv [] [] (.v (.bool true)) []), .auto {}, .auto {}, .call 42 [.v (.int .i64 p3), .v (.int .i64 0), .v (.int .i64 4095)] (handO (rho ([] ++ [])) [] [] ++ []) (callEv [] [] (.v (.bool true)) []), .auto {}, .auto {}, .auto {}, .auto {}, .auto { y := some (.v (.bool false)) }, .auto {}, .auto {}, .auto {}, .call 89 [.agg [.bs false 2 (List.map enc_si p1), .v (.int .i64 p2)]] (handO (rho ([] ++ [])) [] [] ++ []) (callEv [] [] (.v (.int .i64 x6)) [])]) [4] [] (s1 := ⟨[(4, .v (.bool (decide ((Go.bits .andNot .i64 p3 x6) = 0))))], []⟩) (C := ((([.agg [.bs false 2 (List.map enc_si p1), .v (.int .i64 p2)]] : List AV) = [.agg [.bs false 2 (List.map enc_si p1), .v (.int .i64 p2)]]) ∧ True) ∧ ((([.v (.int .i64 p3), .v (.int .i64 0), .v (.int .i64 4095)] : List AV) = [.v (.int .i64 p3), .v (.int .i64 0), .v (.int .i64 4095)]) ∧ True) ∧ ((True) ∧ ((.v (.bool (decide (p2 = 3))) : AV) = (.v (.bool false) : AV))) ∧ ((([.agg [.bs false 2 (List.map enc_si p1), .v (.int .i64 p2)]] : List AV) = [.agg [.bs false 2 (List.map enc_si p1), .v (.int .i64 p2)]]) ∧ True) ∧ True) (by kernel_rfl) ⟨⟨rfl, trivial⟩, ⟨⟨rfl, trivial⟩, ⟨⟨trivial, (congrArg (fun z => AV.v (.bool z)) b5)⟩, ⟨⟨rfl, trivial⟩, trivial⟩⟩⟩⟩ ⟨call_ok (ks := []) (ns := []) (bor := []) (bobjs := []) (show Eng.Spec Tryd.prog 38 [.agg [.bs false 2 (List.map enc_si p1), .v (.int .i64 p2)]] [] (.v (.bool true)) [] from by have q := s_impl_ValidFlag p1 p2 x4 e1; rw [b2] at q; exact q) (.cons (.c1 (.agg (.cons (.same _ (by kernel_rfl) (by kernel_rfl)) (.cons (.same _ (by kernel_rfl) (by kernel_rfl)) (.nil))))) (.nil)) (by kernel_rfl) trivial, ⟨call_ok (ks := []) (ns := []) (bor := []) (bobjs := []) (show Eng.Spec Tryd.prog 42 [.v (.int .i64 p3), .v (.int .i64 0), .v (.int .i64 4095)] [] (.v (.bool true)) [] from by have q := s_impl_in p3 0 4095 x5 e3; rw [b4] at q; exact q) (.cons (.c1 (.c0 (.same _ (by kernel_rfl) (by kernel_rfl)))) (.cons (.c1 (.c0 (.same _ (by kernel_rfl) (by kernel_rfl)))) (.cons (.c1 (.c0 (.same _ (by kernel_rfl) (by kernel_rfl)))) (.nil)))) (by kernel_rfl) trivial, ⟨call_ok (ks := []) (ns := []) (bor := []) (bobjs := []) (s_impl_Flag_mask p1 p2 x6 e6) (.cons (.c1 (.agg (.cons (.same _ (by kernel_rfl) (by kernel_rfl)) (.cons (.same _ (by kernel_rfl) (by kernel_rfl)) (.nil))))) (.nil)) (by kernel_rfl) trivial, trivial⟩⟩⟩ ?_
        refine AX.ret ?_
        refine fin_wk (Wk.forget [4] [] (s' := ⟨[(4, .v (.bool (decide ((Go.bits .andNot .i64 p3 x6) = 0))))], []⟩) (by kernel_rfl)) ?_
        have hr := Option.some.inj h
        subst hr
        exact ⟨_, Wk.refl _, .inr rfl, ⟨[], by kernel_rfl, trivial, [.v (.bool (decide ((Go.bits .andNot .i64 p3 x6) = 0)))], by kernel_rfl, by kernel_rfl⟩⟩
    · replace h := cd_f b4 h
      refine AX.reg (its := [.auto {}, .call 38 [.agg [.bs false 2 (List.map enc_si p1), .v (.int .i64 p2)]] (handO (rho ([] ++ [])) [] [] ++ []) (callEv [] [] (.v (.bool true)) []), .auto {}, .auto {}, .call 42 [.v (.int .i64 p3), .v (.int .i64 0), .v (.int .i64 4095)] (handO (rho ([] ++ [])) [] [] ++ []) (callEv [] [] (.v (.bool false)) [])]) [4] [] (s1 := ⟨[(4, .v (.bool false))], []⟩) (C := ((([.agg [.bs false 2 (List.map enc_si p1), .v (.int .i64 p2)]] : List AV) = [.agg [.bs false 2 (List.map enc_si p1), .v (.int .i64 p2)]]) ∧ True) ∧ ((([.v (.int .i64 p3), .v (.int .i64 0), .v (.int .i64 4095)] : List AV) = [.v (.int .i64 p3), .v (.int .i64 0), .v (.int .i64 4095)]) ∧ True) ∧ True) (by kernel_rfl) ⟨⟨rfl, trivial⟩, ⟨⟨rfl, trivial⟩, trivial⟩⟩ ⟨call_ok (ks := []) (ns := []) (bor := []) (bobjs := []) (show Eng.Spec Tryd.prog 38 [.agg [.bs false 2 (List.map enc_si p1), .v (.int .i64 p2)]] [] (.v (.bool true)) [] from by have q := s_impl_ValidFlag p1 p2 x4 e1; rw [b2] at q; exact q) (.cons (.c1 (.agg (.cons (.same _ (by kernel_rfl) (by kernel_rfl)) (.cons (.same _ (by kernel_rfl) (by kernel_rfl)) (.nil))))) (.nil)) (by kernel_rfl) trivial, ⟨call_ok (ks := []) (ns := []) (bor := []) (bobjs := []) (show Eng.Spec Tryd.prog 42 [.v (.int .i64 p3), .v (.int .i64 0), .v (.int .i64 4095)] [] (.v (.bool false)) [] from by have q := s_impl_in p3 0 4095 x5 e3; rw [b4] at q; exact q) (.cons (.c1 (.c0 (.same _ (by kernel_rfl) (by kernel_rfl)))) (.cons (.c1 (.c0 (.same _ (by kernel_rfl) (by kernel_rfl)))) (.cons (.c1 (.c0 (.same _ (by kernel_rfl) (by kernel_rfl)))) (.nil)))) (by kernel_rfl) trivial, trivial⟩⟩ ?_
      refine AX.ret ?_
      refine fin_wk (Wk.forget [4] [] (s' := ⟨[(4, .v (.bool false))], []⟩) (by kernel_rfl)) ?_
      have hr := Option.some.inj h
      subst hr
      exact ⟨_, Wk.refl _, .inr rfl, ⟨[], by kernel_rfl, trivial, [.v (.bool false)], by kernel_rfl, by kernel_rfl⟩⟩
  · replace h := cd_f b2 h
    refine AX.reg (its := [.auto {}, .call 38 [.agg [.bs false 2 (List.map enc_si p1), .v (.int .i64 p2)]] (handO (rho ([] ++ [])) [] [] ++ []) (callEv [] [] (.v (.bool false)) [])]) [4] [] (s1 := ⟨[(4, .v (.bool false))], []⟩) (C := ((([.agg [.bs false 2 (List.map enc_si p1), .v (.int .i64 p2)]] : List AV) = [.agg [.bs false 2 (List.map enc_si p1), .v (.int .i64 p2)]]) ∧ True) ∧ True) (by kernel_rfl) ⟨⟨rfl, trivial⟩, trivial⟩ ⟨call_ok (ks := []) (ns := []) (bor := []) (bobjs := []) (show Eng.Spec Tryd.prog 38 [.agg [.bs false 2 (List.map enc_si p1), .v (.int .i64 p2)]] [] (.v (.bool false)) [] from by have q := s_impl_ValidFlag p1 p2 x4 e1; rw [b2] at q; exact q) (.cons (.c1 (.agg (.cons (.same _ (by kernel_rfl) (by kernel_rfl)) (.cons (.same _ (by kernel_rfl) (by kernel_rfl)) (.nil))))) (.nil)) (by kernel_rfl) trivial, trivial⟩ ?_
    refine AX.ret ?_
    refine fin_wk (Wk.forget [4] [] (s' := ⟨[(4, .v (.bool false))], []⟩) (by kernel_rfl)) ?_
    have hr := Option.some.inj h
    subst hr
    exact ⟨_, Wk.refl _, .inr rfl, ⟨[], by kernel_rfl, trivial, [.v (.bool false)], by kernel_rfl, by kernel_rfl⟩⟩

theorem s_math_bits_OnesCount64 (p1 : Int) (r : Int) (h : m_math_bits_OnesCount64 p1 = some r) :
    Eng.Spec Tryd.prog 184 [.v (.int .u64 p1)] [] (.v (.int .i64 r)) [] := by
  unfold m_math_bits_OnesCount64 at h
  refine Eng.Spec.body Tryd.func184 (by kernel_rfl) rfl (by kernel_rfl) ?_
  refine AX.wkpost ?_
  refine AX.seq ?_
  refine AX.reg (its := []) [0] [] (s1 := ⟨[(0, .v (.int .u64 p1))], []⟩) (C := True) (by kernel_rfl) trivial trivial ?_
  refine AX.seq ?_
  obtain ⟨g1, h⟩ := gd_e h
  obtain ⟨v2, q2, h⟩ := nm_e h
  obtain ⟨v3, q3, h⟩ := nm_e h
  refine AX.reg (its := [.auto {}, .auto {}, .auto { y := some (.v (.int .u64 v2)) }, .auto {}, .auto {}, .auto { y := some (.v (.int .u64 v3)), raw := true }]) [0] [] (s1 := ⟨[(0, .v (.int .u64 v3))], []⟩) (C := (0 ≤ (1 : Int) ∧ (1 : Int) ≤ (IntKind.bits .u64 : Int)) ∧ ((True) ∧ ((.v (.int .u64 (Go.bits .and .u64 (p1 / 2 ^ (1 : Int).toNat) 6148914691236517205)) : AV) = (.v (.int .u64 v2) : AV))) ∧ ((True) ∧ ((.v (.int .u64 (IntKind.wrap .u64 (v2 + (Go.bits .and .u64 p1 6148914691236517205)))) : AV) = (.v (.int .u64 v3) : AV))) ∧ True) (by kernel_rfl) ⟨g1, ⟨⟨trivial, (congrArg (fun z => AV.v (.int .u64 z)) q2)⟩, ⟨⟨trivial, (congrArg (fun z => AV.v (.int .u64 z)) q3)⟩, trivial⟩⟩⟩ trivial ?_
  refine AX.seq ?_
  obtain ⟨g4, h⟩ := gd_e h
  obtain ⟨v4, q5, h⟩ := nm_e h
  obtain ⟨v5, q6, h⟩ := nm_e h
  refine AX.reg (its := [.auto {}, .auto {}, .auto { y := some (.v (.int .u64 v4)) }, .auto {}, .auto {}, .auto { y := some (.v (.int .u64 v5)), raw := true }]) [0] [] (s1 := ⟨[(0, .v (.int .u64 v5))], []⟩) (C := (0 ≤ (2 : Int) ∧ (2 : Int) ≤ (IntKind.bits .u64 : Int)) ∧ ((True) ∧ ((.v (.int .u64 (Go.bits .and .u64 (v3 / 2 ^ (2 : Int).toNat) 3689348814741910323)) : AV) = (.v (.int .u64 v4) : AV))) ∧ ((True) ∧ ((.v (.int .u64 (IntKind.wrap .u64 (v4 + (Go.bits .and .u64 v3 3689348814741910323)))) : AV) = (.v (.int .u64 v5) : AV))) ∧ True) (by kernel_rfl) ⟨g4, ⟨⟨trivial, (congrArg (fun z => AV.v (.int .u64 z)) q5)⟩, ⟨⟨trivial, (congrArg (fun z => AV.v (.int .u64 z)) q6)⟩, trivial⟩⟩⟩ trivial ?_
  refine AX.seq ?_
  obtain ⟨g7, h⟩ := gd_e h
  obtain ⟨v6, q8, h⟩ := nm_e h
  refine AX.reg (its := [.auto {}, .auto {}, .auto {}, .auto { raw := true }, .auto { y := some (.v (.int .u64 v6)) }]) [0] [] (s1 := ⟨[(0, .v (.int .u64 v6))], []⟩) (C := (0 ≤ (4 : Int) ∧ (4 : Int) ≤ (IntKind.bits .u64 : Int)) ∧ ((True) ∧ ((.v (.int .u64 (Go.bits .and .u64 (IntKind.wrap .u64 ((v5 / 2 ^ (4 : Int).toNat) + v5)) 1085102592571150095)) : AV) = (.v (.int .u64 v6) : AV))) ∧ True) (by kernel_rfl) ⟨g7, ⟨⟨trivial, (congrArg (fun z => AV.v (.int .u64 z)) q8)⟩, trivial⟩⟩ trivial ?_
  refine AX.seq ?_
  obtain ⟨g9, h⟩ := gd_e h
  refine AX.reg (its := [.auto {}, .auto {}, .auto {}, .auto { raw := true }]) [0] [] (s1 := ⟨[(0, .v (.int .u64 (IntKind.wrap .u64 (v6 + (v6 / 2 ^ (8 : Int).toNat)))))], []⟩) (C := (0 ≤ (8 : Int) ∧ (8 : Int) ≤ (IntKind.bits .u64 : Int)) ∧ True) (by kernel_rfl) ⟨g9, trivial⟩ trivial ?_
  refine AX.seq ?_
  obtain ⟨g10, h⟩ := gd_e h
  obtain ⟨v7, q11, h⟩ := nm_e h
  obtain ⟨v8, q12, h⟩ := nm_e h
  refine AX.reg (its := [.auto {}, .auto {}, .auto { y := some (.v (.int .u64 v7)) }, .auto { y := some (.v (.int .u64 v8)), raw := true }]) [0] [] (s1 := ⟨[(0, .v (.int .u64 v8))], []⟩) (C := ((0 ≤ (16 : Int) ∧ (16 : Int) ≤ (IntKind.bits .u64 : Int)) ∧ ((.v (.int .u64 ((IntKind.wrap .u64 (v6 + (v6 / 2 ^ (8 : Int).toNat))) / 2 ^ (16 : Int).toNat)) : AV) = (.v (.int .u64 v7) : AV))) ∧ ((True) ∧ ((.v (.int .u64 (IntKind.wrap .u64 ((IntKind.wrap .u64 (v6 + (v6 / 2 ^ (8 : Int).toNat))) + v7))) : AV) = (.v (.int .u64 v8) : AV))) ∧ True) (by kernel_rfl) ⟨⟨g10, (congrArg (fun z => AV.v (.int .u64 z)) q11)⟩, ⟨⟨trivial, (congrArg (fun z => AV.v (.int .u64 z)) q12)⟩, trivial⟩⟩ trivial ?_
  refine AX.seq ?_
  obtain ⟨g13, h⟩ := gd_e h
  refine AX.reg (its := [.auto {}, .auto {}, .auto {}, .auto { raw := true }]) [0] [] (s1 := ⟨[(0, .v (.int .u64 (IntKind.wrap .u64 (v8 + (v8 / 2 ^ (32 : Int).toNat)))))], []⟩) (C := (0 ≤ (32 : Int) ∧ (32 : Int) ≤ (IntKind.bits .u64 : Int)) ∧ True) (by kernel_rfl) ⟨g13, trivial⟩ trivial ?_
  refine AX.seq ?_
  obtain ⟨v9, q14, h⟩ := nm_e h
  refine AX.reg (its := [.auto {}, .auto { y := some (.v (.int .i64 v9)), raw := true }]) [2] [] (s1 := ⟨[(2, .v (.int .i64 (Go.bits .and .i64 v9 127)))], []⟩) (C := ((True) ∧ ((.v (.int .i64 (IntKind.wrap .i64 (IntKind.wrap .u64 (v8 + (v8 / 2 ^ (32 : Int).toNat))))) : AV) = (.v (.int .i64 v9) : AV))) ∧ True) (by kernel_rfl) ⟨⟨trivial, (congrArg (fun z => AV.v (.int .i64 z)) q14)⟩, trivial⟩ trivial ?_
  refine AX.ret ?_
  refine fin_wk (Wk.forget [2] [] (s' := ⟨[(2, .v (.int .i64 (Go.bits .and .i64 v9 127)))], []⟩) (by kernel_rfl)) ?_
  have hr := Option.some.inj h
  subst hr
  exact ⟨_, Wk.refl _, .inr rfl, ⟨[], by kernel_rfl, trivial, [.v (.int .i64 (Go.bits .and .i64 v9 127))], by kernel_rfl, by kernel_rfl⟩⟩

theorem s_math_bits_OnesCount (p1 : Int) (r : Int) (h : m_math_bits_OnesCount p1 = some r) :
    Eng.Spec Tryd.prog 163 [.v (.int .u64 p1)] [] (.v (.int .i64 r)) [] := by
  unfold m_math_bits_OnesCount at h
  refine Eng.Spec.body Tryd.func163 (by kernel_rfl) rfl (by kernel_rfl) ?_
  refine AX.wkpost ?_
  refine AX.seq ?_
  refine AX.reg (its := []) [0] [] (s1 := ⟨[(0, .v (.int .u64 p1))], []⟩) (C := True) (by kernel_rfl) trivial trivial ?_
  refine AX.seq ?_
  refine AX.cond_false (by kernel_rfl) ?_
  refine AX.skip ?_
  refine AX.seq ?_
  obtain ⟨x2, e1, h⟩ := bd_e h
  refine AX.reg (its := [.auto {}, .call 184 [.v (.int .u64 p1)] (handO (rho ([] ++ [])) [] [] ++ []) (callEv [] [] (.v (.int .i64 x2)) [])]) [2] [] (s1 := ⟨[(2, .v (.int .i64 x2))], []⟩) (C := ((([.v (.int .u64 p1)] : List AV) = [.v (.int .u64 p1)]) ∧ True) ∧ True) (by kernel_rfl) ⟨⟨rfl, trivial⟩, trivial⟩ ⟨call_ok (ks := []) (ns := []) (bor := []) (bobjs := []) (s_math_bits_OnesCount64 p1 x2 e1) (.cons (.c1 (.c0 (.same _ (by kernel_rfl) (by kernel_rfl)))) (.nil)) (by kernel_rfl) trivial, trivial⟩ ?_
  refine AX.ret ?_
  refine fin_wk (Wk.forget [2] [] (s' := ⟨[(2, .v (.int .i64 x2))], []⟩) (by kernel_rfl)) ?_
  have hr := Option.some.inj h
  subst hr
  exact ⟨_, Wk.refl _, .inr rfl, ⟨[], by kernel_rfl, trivial, [.v (.int .i64 x2)], by kernel_rfl, by kernel_rfl⟩⟩

theorem s_impl_single (p1 : Int) (r : Bool) (h : m_impl_single p1 = some r) :
    Eng.Spec Tryd.prog 140 [.v (.int .i64 p1)] [] (.v (.bool r)) [] := by
  unfold m_impl_single at h
  refine Eng.Spec.body Tryd.func140 (by kernel_rfl) rfl (by kernel_rfl) ?_
  refine AX.wkpost ?_
  refine AX.seq ?_
  refine AX.reg (its := []) [0] [] (s1 := ⟨[(0, .v (.int .i64 p1))], []⟩) (C := True) (by kernel_rfl) trivial trivial ?_
  refine AX.seq ?_
  obtain ⟨x2, e1, h⟩ := bd_e h
  refine AX.reg (its := [.auto {}, .auto { raw := true }, .call 163 [.v (.int .u64 (IntKind.wrap .u64 (p1)))] (handO (rho ([] ++ [])) [] [] ++ []) (callEv [] [] (.v (.int .i64 x2)) [])]) [2] [] (s1 := ⟨[(2, .v (.bool (decide (x2 = 1))))], []⟩) (C := ((([.v (.int .u64 (IntKind.wrap .u64 (p1)))] : List AV) = [.v (.int .u64 (IntKind.wrap .u64 (p1)))]) ∧ True) ∧ True) (by kernel_rfl) ⟨⟨rfl, trivial⟩, trivial⟩ ⟨call_ok (ks := []) (ns := []) (bor := []) (bobjs := []) (s_math_bits_OnesCount (IntKind.wrap .u64 (p1)) x2 e1) (.cons (.c1 (.c0 (.same _ (by kernel_rfl) (by kernel_rfl)))) (.nil)) (by kernel_rfl) trivial, trivial⟩ ?_
  refine AX.ret ?_
  refine fin_wk (Wk.forget [2] [] (s' := ⟨[(2, .v (.bool (decide (x2 = 1))))], []⟩) (by kernel_rfl)) ?_
  have hr := Option.some.inj h
  subst hr
  exact ⟨_, Wk.refl _, .inr rfl, ⟨[], by kernel_rfl, trivial, [.v (.bool (decide (x2 = 1)))], by kernel_rfl, by kernel_rfl⟩⟩

theorem s_impl_valued_1_l (p1 : ByteArray) (p2 : Int) (p3 : Int) (r : Unit) (h : m_impl_valued_1_l p1 p2 p3 = some r) :
    Eng.Spec Tryd.prog 115 [.agg [.v (.string p1), .v (.int .i64 p2)], .bp [.v (.int .i64 p3)] 0] [] (.v (.bool (decide (p2 = p3)))) [] := by
  unfold m_impl_valued_1_l at h
  refine Eng.Spec.body Tryd.func115 (by kernel_rfl) rfl (by kernel_rfl) ?_
  refine AX.wkpost ?_
  refine AX.seq ?_
  refine AX.reg (its := [.auto { nk := 0 }]) [1, 2] [0] (s1 := ⟨[(1, .bp [.v (.int .i64 p3)] 0), (2, .pt 0 0)], [(0, .box [.v (.string p1), .v (.int .i64 p2)])]⟩) (C := True) (by kernel_rfl) trivial trivial ?_
  refine AX.seq ?_
  refine AX.reg (its := []) [3] [] (s1 := ⟨[(3, .v (.bool (decide (p2 = p3))))], []⟩) (C := True) (by kernel_rfl) trivial trivial ?_
  refine AX.ret ?_
  refine fin_wk (Wk.forget [3] [] (s' := ⟨[(3, .v (.bool (decide (p2 = p3))))], []⟩) (by kernel_rfl)) ?_
  have hr := Option.some.inj h
  subst hr
  exact ⟨_, Wk.refl _, .inr rfl, ⟨[], by kernel_rfl, trivial, [.v (.bool (decide (p2 = p3)))], by kernel_rfl, by kernel_rfl⟩⟩

theorem s_slices_IndexFunc_si_valued_1_l_L1 (p1 : List (ByteArray × Int)) (p2 : Int) (n : Nat) (g : Int) (out : Int ⊕ Unit) (h : m_slices_IndexFunc_si_valued_1_l_L1 p1 p2 n g = some out) :
    AX Tryd.prog 19 0 (codeAt [1, 0, 1, 1] (bodyOf Tryd.f86)) ((fun g : Int => (⟨[(0, .bs false 2 (List.map enc_si p1)), (1, .fn 115 [.bp [.v (.int .i64 p2)] 0]), (7, .v (.int .i64 (p1.length : Int))), (8, .v (.int .i64 g))], []⟩ : S)) g) (fun ex s => (∃ o : Int, out = Sum.inl o ∧ ex = .ret ∧ s = ⟨[(4, .v (.int .i64 o))], []⟩) ∨ (∃ o : Unit, out = Sum.inr o ∧ ex = .exit 0 ∧ s = ⟨[], []⟩)) := by
  refine AX.wkpost ?_
  refine AX.loop (G := Nat × (Int)) (fun q => (fun g : Int => (⟨[(0, .bs false 2 (List.map enc_si p1)), (1, .fn 115 [.bp [.v (.int .i64 p2)] 0]), (7, .v (.int .i64 (p1.length : Int))), (8, .v (.int .i64 g))], []⟩ : S)) q.2) (fun q => m_slices_IndexFunc_si_valued_1_l_L1 p1 p2 q.1 q.2 = some out) (fun q => q.1) (n, g) h (Wk.refl _) ?_
  clear h
  rintro ⟨fu, v3⟩ h
  cases fu with
  | zero => cases h
  | succ fu =>
    rw [m_slices_IndexFunc_si_valued_1_l_L1] at h
    refine AX.seq ?_
    refine AX.reg (its := []) [0, 1, 7, 8, 9] [] (s1 := ⟨[(0, .bs false 2 (List.map enc_si p1)), (1, .fn 115 [.bp [.v (.int .i64 p2)] 0]), (7, .v (.int .i64 (p1.length : Int))), (8, .v (.int .i64 v3)), (9, .v (.bool (decide (v3 < (p1.length : Int)))))], []⟩) (C := True) (by kernel_rfl) trivial trivial ?_
    refine AX.seq ?_
    rcases bool_cases (decide (v3 < (p1.length : Int))) with b1 | b1
    · replace h := cd_t b1 h
      refine AX.condT (decide (v3 < (p1.length : Int))) (by kernel_rfl) b1 ?_
      refine AX.skip ?_
      refine AX.seq ?_
      refine AX.block ?_
      refine AX.seq ?_
      refine AX.reg (its := []) [0, 1, 5, 7, 8] [] (s1 := ⟨[(0, .bs false 2 (List.map enc_si p1)), (1, .fn 115 [.bp [.v (.int .i64 p2)] 0]), (5, .v (.int .i64 v3)), (7, .v (.int .i64 (p1.length : Int))), (8, .v (.int .i64 v3))], []⟩) (C := True) (by kernel_rfl) trivial trivial ?_
      refine AX.seq ?_
      obtain ⟨g2, h⟩ := gd_e h
      obtain ⟨x4, e3, h⟩ := bd_e h
      refine AX.reg (its := [.auto {}, .auto {}, .auto {}, .auto { y := some (.be 2 (enc_si (gt p1 v3)) 0) }, .auto {}, .call 115 [.agg [.v (.string ((gt p1 v3).1)), .v (.int .i64 ((gt p1 v3).2))], .bp [.v (.int .i64 p2)] 0] (handO (rho ([] ++ [])) [] [] ++ []) (callEv [] [] (.v (.bool (decide (((gt p1 v3).2) = p2)))) [])]) [0, 1, 5, 7, 8, 16] [] (s1 := ⟨[(0, .bs false 2 (List.map enc_si p1)), (1, .fn 115 [.bp [.v (.int .i64 p2)] 0]), (5, .v (.int .i64 v3)), (7, .v (.int .i64 (p1.length : Int))), (8, .v (.int .i64 v3)), (16, .v (.bool (decide (((gt p1 v3).2) = p2))))], []⟩) (C := ((0 ≤ v3 ∧ v3 < ((List.map enc_si p1).length : Int)) ∧ (AV.be 2 ((List.map enc_si p1).getD v3.toNat []) 0 = AV.be 2 (enc_si (gt p1 v3)) 0)) ∧ ((([.agg [.v (.string ((gt p1 v3).1)), .v (.int .i64 ((gt p1 v3).2))], .bp [.v (.int .i64 p2)] 0] : List AV) = [.agg [.v (.string ((gt p1 v3).1)), .v (.int .i64 ((gt p1 v3).2))], .bp [.v (.int .i64 p2)] 0]) ∧ True) ∧ True) (by kernel_rfl) ⟨idx_bs enc_si p1 v3 2 g2, ⟨⟨rfl, trivial⟩, trivial⟩⟩ ⟨call_ok (ks := []) (ns := []) (bor := []) (bobjs := []) (s_impl_valued_1_l ((gt p1 v3).1) ((gt p1 v3).2) p2 x4 e3) (.cons (.c1 (.agg (.cons (.same _ (by kernel_rfl) (by kernel_rfl)) (.cons (.same _ (by kernel_rfl) (by kernel_rfl)) (.nil))))) (.cons (.c1 (.bp (.cons (.same _ (by kernel_rfl) (by kernel_rfl)) (.nil)))) (.nil))) (by kernel_rfl) trivial, trivial⟩ ?_
      rcases bool_cases (decide (((gt p1 v3).2) = p2)) with b4 | b4
      · replace h := cd_t b4 h
        refine AX.condT (decide (((gt p1 v3).2) = p2)) (by kernel_rfl) b4 ?_
        refine AX.seq ?_
        refine AX.reg (its := []) [4] [] (s1 := ⟨[(4, .v (.int .i64 v3))], []⟩) (C := True) (by kernel_rfl) trivial trivial ?_
        refine AX.ret ?_
        refine fin_wk (Wk.forget [4] [] (s' := ⟨[(4, .v (.int .i64 v3))], []⟩) (by kernel_rfl)) ?_
        have hr := Option.some.inj h
        subst hr
        exact ⟨_, Wk.refl _, .inl ⟨v3, rfl, rfl, rfl⟩⟩
      · replace h := cd_f b4 h
        refine AX.condF (decide (((gt p1 v3).2) = p2)) (by kernel_rfl) b4 ?_
        refine AX.skip ?_
        refine AX.reg (its := [.auto { raw := true }]) [0, 1, 7, 8] [] (s1 := ⟨[(0, .bs false 2 (List.map enc_si p1)), (1, .fn 115 [.bp [.v (.int .i64 p2)] 0]), (7, .v (.int .i64 (p1.length : Int))), (8, .v (.int .i64 (IntKind.wrap .i64 (v3 + 1))))], []⟩) (C := True) (by kernel_rfl) trivial trivial ?_
        refine ⟨(fu, IntKind.wrap .i64 (v3 + 1)), h, Nat.lt_succ_self _, ?_⟩
        refine Wk.trans (Wk.forget [0, 1, 7, 8] [] (s' := ⟨[(0, .bs false 2 (List.map enc_si p1)), (1, .fn 115 [.bp [.v (.int .i64 p2)] 0]), (7, .v (.int .i64 (p1.length : Int))), (8, .v (.int .i64 (IntKind.wrap .i64 (v3 + 1))))], []⟩) (by kernel_rfl)) ?_
        exact Wk.refl _
    · replace h := cd_f b1 h
      refine AX.condF (decide (v3 < (p1.length : Int))) (by kernel_rfl) b1 ?_
      refine AX.exit ?_
      refine fin_wk (Wk.forget [] [] (s' := ⟨[], []⟩) (by kernel_rfl)) ?_
      have hr := Option.some.inj h
      subst hr
      exact ⟨_, Wk.refl _, .inr ⟨(), rfl, rfl, rfl⟩⟩

theorem s_slices_IndexFunc_si_valued_1_l (p1 : List (ByteArray × Int)) (p2 : Int) (r : Int) (h : m_slices_IndexFunc_si_valued_1_l p1 p2 = some r) :
    Eng.Spec Tryd.prog 86 [.bs false 2 (List.map enc_si p1), .fn 115 [.bp [.v (.int .i64 p2)] 0]] [] (.v (.int .i64 r)) [] := by
  unfold m_slices_IndexFunc_si_valued_1_l at h
  refine Eng.Spec.body Tryd.func86 (by kernel_rfl) rfl (by kernel_rfl) ?_
  refine AX.wkpost ?_
  refine AX.seq ?_
  refine AX.reg (its := []) [0, 1] [] (s1 := ⟨[(0, .bs false 2 (List.map enc_si p1)), (1, .fn 115 [.bp [.v (.int .i64 p2)] 0])], []⟩) (C := True) (by kernel_rfl) trivial trivial ?_
  refine AX.seq ?_
  refine AX.seq ?_
  refine AX.reg (its := [.auto {}, .auto { y := some (.v (.int .i64 (p1.length : Int))) }]) [0, 1, 7, 8] [] (s1 := ⟨[(0, .bs false 2 (List.map enc_si p1)), (1, .fn 115 [.bp [.v (.int .i64 p2)] 0]), (7, .v (.int .i64 (p1.length : Int))), (8, .v (.int .i64 0))], []⟩) (C := (True ∧ (AV.v (.int .i64 ((List.map enc_si p1).length : Int)) = AV.v (.int .i64 (p1.length : Int)))) ∧ True) (by kernel_rfl) ⟨⟨trivial, len_map enc_si p1⟩, trivial⟩ trivial ?_
  refine AX.block ?_
  obtain ⟨x5, e5, h⟩ := bd_e h
  refine AX.wk (Wk.forget [0, 1, 7, 8] [] (s' := ⟨[(0, .bs false 2 (List.map enc_si p1)), (1, .fn 115 [.bp [.v (.int .i64 p2)] 0]), (7, .v (.int .i64 (p1.length : Int))), (8, .v (.int .i64 0))], []⟩) (by kernel_rfl)) ?_
  refine AX.mono (s_slices_IndexFunc_si_valued_1_l_L1 p1 p2 FU 0 x5 e5) ?_
  rintro _ _ (⟨x6, rfl, rfl, rfl⟩ | ⟨x7, rfl, rfl, rfl⟩)
  · replace h := sm_l h
    refine fin_wk (Wk.forget [4] [] (s' := ⟨[(4, .v (.int .i64 x6))], []⟩) (by kernel_rfl)) ?_
    have hr := Option.some.inj h
    subst hr
    exact ⟨_, Wk.refl _, .inr rfl, ⟨[], by kernel_rfl, trivial, [.v (.int .i64 x6)], by kernel_rfl, by kernel_rfl⟩⟩
  · replace h := sm_r h
    refine AX.seq ?_
    refine AX.reg (its := []) [4] [] (s1 := ⟨[(4, .v (.int .i64 (-1)))], []⟩) (C := True) (by kernel_rfl) trivial trivial ?_
    refine AX.ret ?_
    refine fin_wk (Wk.forget [4] [] (s' := ⟨[(4, .v (.int .i64 (-1)))], []⟩) (by kernel_rfl)) ?_
    have hr := Option.some.inj h
    subst hr
    exact ⟨_, Wk.refl _, .inr rfl, ⟨[], by kernel_rfl, trivial, [.v (.int .i64 (-1))], by kernel_rfl, by kernel_rfl⟩⟩

theorem s_impl_valued (p1 : List (ByteArray × Int)) (p2 : Int) (r : Int) (h : m_impl_valued p1 p2 = some r) :
    Eng.Spec Tryd.prog 68 [.bs false 2 (List.map enc_si p1), .v (.int .i64 p2)] [] (.v (.int .i64 r)) [] := by
  unfold m_impl_valued at h
  refine Eng.Spec.body Tryd.func68 (by kernel_rfl) rfl (by kernel_rfl) ?_
  refine AX.wkpost ?_
  refine AX.seq ?_
  refine AX.reg (its := [.auto { nk := 0 }]) [0, 3] [0] (s1 := ⟨[(0, .bs false 2 (List.map enc_si p1)), (3, .pt 0 0)], [(0, .box [.v (.int .i64 p2)])]⟩) (C := True) (by kernel_rfl) trivial trivial ?_
  refine AX.seq ?_
  obtain ⟨x3, e1, h⟩ := bd_e h
  refine AX.reg (its := [.auto {}, .auto {}, .call 86 [.bs false 2 (List.map enc_si p1), .fn 115 [.pt 0 0]] (handO (rho ([] ++ [])) [] [] ++ [(0, .box [.v (.int .i64 p2)])]) (callEv [] [] (.v (.int .i64 x3)) [])]) [4] [] (s1 := ⟨[(4, .v (.int .i64 x3))], []⟩) (C := ((([.bs false 2 (List.map enc_si p1), .fn 115 [.pt 0 0]] : List AV) = [.bs false 2 (List.map enc_si p1), .fn 115 [.pt 0 0]]) ∧ (AO.box [.v (.int .i64 p2)] = AO.box [.v (.int .i64 p2)]) ∧ True) ∧ True) (by kernel_rfl) ⟨⟨rfl, rfl, trivial⟩, trivial⟩ ⟨call_ok (ks := []) (ns := []) (bor := [0]) (bobjs := [(0, .box [.v (.int .i64 p2)])]) (s_slices_IndexFunc_si_valued_1_l p1 p2 x3 e1) (.cons (.c1 (.c0 (.same _ (by kernel_rfl) (by kernel_rfl)))) (.cons (.fn (.cons (.box rfl rfl (.cons (.same _ (by kernel_rfl) (by kernel_rfl)) (.nil))) (.nil))) (.nil))) (by kernel_rfl) trivial, trivial⟩ ?_
  refine AX.ret ?_
  refine fin_wk (Wk.forget [4] [] (s' := ⟨[(4, .v (.int .i64 x3))], []⟩) (by kernel_rfl)) ?_
  have hr := Option.some.inj h
  subst hr
  exact ⟨_, Wk.refl _, .inr rfl, ⟨[], by kernel_rfl, trivial, [.v (.int .i64 x3)], by kernel_rfl, by kernel_rfl⟩⟩

theorem s_math_bits_Len64 (p1 : Int) (r : Int) (h : m_math_bits_Len64 p1 = some r) :
    Eng.Spec Tryd.prog 194 [.v (.int .u64 p1)] [] (.v (.int .i64 r)) [] := by
  unfold m_math_bits_Len64 at h
  refine Eng.Spec.body Tryd.func194 (by kernel_rfl) rfl (by kernel_rfl) ?_
  refine AX.wkpost ?_
  refine AX.seq ?_
  refine AX.reg (its := []) [0, 2] [] (s1 := ⟨[(0, .v (.int .u64 p1)), (2, .v (.int .i64 0))], []⟩) (C := True) (by kernel_rfl) trivial trivial ?_
  refine AX.seq ?_
  refine AX.seq ?_
  refine AX.reg (its := []) [0, 2, 4] [] (s1 := ⟨[(0, .v (.int .u64 p1)), (2, .v (.int .i64 0)), (4, .v (.bool (decide (4294967296 ≤ p1))))], []⟩) (C := True) (by kernel_rfl) trivial trivial ?_
  rcases bool_cases (decide (4294967296 ≤ p1)) with b1 | b1
  · replace h := cd_t b1 h
    refine AX.condT (decide (4294967296 ≤ p1)) (by kernel_rfl) b1 ?_
    refine AX.seq ?_
    obtain ⟨g2, h⟩ := gd_e h
    refine AX.reg (its := []) [0] [] (s1 := ⟨[(0, .v (.int .u64 (p1 / 2 ^ (32 : Int).toNat)))], []⟩) (C := (0 ≤ (32 : Int) ∧ (32 : Int) ≤ (IntKind.bits .u64 : Int)) ∧ True) (by kernel_rfl) ⟨g2, trivial⟩ trivial ?_
    refine AX.reg (its := []) [0, 2] [] (s1 := ⟨[(0, .v (.int .u64 (p1 / 2 ^ (32 : Int).toNat))), (2, .v (.int .i64 32))], []⟩) (C := True) (by kernel_rfl) trivial trivial ?_
    refine AX.seq ?_
    refine AX.seq ?_
    refine AX.reg (its := []) [0, 2, 8] [] (s1 := ⟨[(0, .v (.int .u64 (p1 / 2 ^ (32 : Int).toNat))), (2, .v (.int .i64 32)), (8, .v (.bool (decide (65536 ≤ (p1 / 2 ^ (32 : Int).toNat)))))], []⟩) (C := True) (by kernel_rfl) trivial trivial ?_
    rcases bool_cases (decide (65536 ≤ (p1 / 2 ^ (32 : Int).toNat))) with b3 | b3
    · replace h := cd_t b3 h
      refine AX.condT (decide (65536 ≤ (p1 / 2 ^ (32 : Int).toNat))) (by kernel_rfl) b3 ?_
      refine AX.seq ?_
      obtain ⟨g4, h⟩ := gd_e h
      refine AX.reg (its := []) [0, 2] [] (s1 := ⟨[(0, .v (.int .u64 ((p1 / 2 ^ (32 : Int).toNat) / 2 ^ (16 : Int).toNat))), (2, .v (.int .i64 32))], []⟩) (C := (0 ≤ (16 : Int) ∧ (16 : Int) ≤ (IntKind.bits .u64 : Int)) ∧ True) (by kernel_rfl) ⟨g4, trivial⟩ trivial ?_
      refine AX.reg (its := [.auto {}, .auto { raw := true }]) [0, 2] [] (s1 := ⟨[(0, .v (.int .u64 ((p1 / 2 ^ (32 : Int).toNat) / 2 ^ (16 : Int).toNat))), (2, .v (.int .i64 (IntKind.wrap .i64 (32 + 16))))], []⟩) (C := True) (by kernel_rfl) trivial trivial ?_
      refine AX.seq ?_
      refine AX.seq ?_
      obtain ⟨v2, q5, h⟩ := nm_e h
      refine AX.reg (its := [.auto {}, .auto { y := some (.v (.bool v2)) }]) [0, 2, 14] [] (s1 := ⟨[(0, .v (.int .u64 ((p1 / 2 ^ (32 : Int).toNat) / 2 ^ (16 : Int).toNat))), (2, .v (.int .i64 (IntKind.wrap .i64 (32 + 16)))), (14, .v (.bool v2))], []⟩) (C := ((True) ∧ ((.v (.bool (decide (256 ≤ ((p1 / 2 ^ (32 : Int).toNat) / 2 ^ (16 : Int).toNat)))) : AV) = (.v (.bool v2) : AV))) ∧ True) (by kernel_rfl) ⟨⟨trivial, (congrArg (fun z => AV.v (.bool z)) q5)⟩, trivial⟩ trivial ?_
      rcases bool_cases (v2) with b6 | b6
      · replace h := cd_t b6 h
        refine AX.condT (v2) (by kernel_rfl) b6 ?_
        refine AX.seq ?_
        obtain ⟨g7, h⟩ := gd_e h
        obtain ⟨v3, q8, h⟩ := nm_e h
        refine AX.reg (its := [.auto {}, .auto { y := some (.v (.int .u64 v3)) }]) [0, 2] [] (s1 := ⟨[(0, .v (.int .u64 v3)), (2, .v (.int .i64 (IntKind.wrap .i64 (32 + 16))))], []⟩) (C := ((0 ≤ (8 : Int) ∧ (8 : Int) ≤ (IntKind.bits .u64 : Int)) ∧ ((.v (.int .u64 (((p1 / 2 ^ (32 : Int).toNat) / 2 ^ (16 : Int).toNat) / 2 ^ (8 : Int).toNat)) : AV) = (.v (.int .u64 v3) : AV))) ∧ True) (by kernel_rfl) ⟨⟨g7, (congrArg (fun z => AV.v (.int .u64 z)) q8)⟩, trivial⟩ trivial ?_
        refine AX.reg (its := [.auto {}, .auto { raw := true }]) [0, 2] [] (s1 := ⟨[(0, .v (.int .u64 v3)), (2, .v (.int .i64 (IntKind.wrap .i64 ((IntKind.wrap .i64 (32 + 16)) + 8))))], []⟩) (C := True) (by kernel_rfl) trivial trivial ?_
        refine AX.seq ?_
        obtain ⟨g9, h⟩ := gd_e h
        obtain ⟨v4, q10, h⟩ := nm_e h
        obtain ⟨v5, q11, h⟩ := nm_e h
        refine AX.reg (its := [.auto {}, .auto {}, .auto { raw := true }, .auto {}, .auto { y := some (.v (.int .i64 v4)), raw := true }, .auto { y := some (.v (.int .i64 v5)), raw := true }]) [2] [] (s1 := ⟨[(2, .v (.int .i64 v5))], []⟩) (C := (0 ≤ (IntKind.wrap .u8 (v3)) ∧ (IntKind.wrap .u8 (v3)) < (lstr_c9535661.size : Int)) ∧ ((True) ∧ ((.v (.int .i64 (IntKind.wrap .i64 (byteAt lstr_c9535661 (IntKind.wrap .u8 (v3)).toNat))) : AV) = (.v (.int .i64 v4) : AV))) ∧ ((True) ∧ ((.v (.int .i64 (IntKind.wrap .i64 ((IntKind.wrap .i64 ((IntKind.wrap .i64 (32 + 16)) + 8)) + v4))) : AV) = (.v (.int .i64 v5) : AV))) ∧ True) (by kernel_rfl) ⟨g9, ⟨⟨trivial, (congrArg (fun z => AV.v (.int .i64 z)) q10)⟩, ⟨⟨trivial, (congrArg (fun z => AV.v (.int .i64 z)) q11)⟩, trivial⟩⟩⟩ trivial ?_
        refine AX.ret ?_
        refine fin_wk (Wk.forget [2] [] (s' := ⟨[(2, .v (.int .i64 v5))], []⟩) (by kernel_rfl)) ?_
        have hr := Option.some.inj h
        subst hr
        exact ⟨_, Wk.refl _, .inr rfl, ⟨[], by kernel_rfl, trivial, [.v (.int .i64 v5)], by kernel_rfl, by kernel_rfl⟩⟩
      · replace h := cd_f b6 h
        refine AX.condF (v2) (by kernel_rfl) b6 ?_
        refine AX.skip ?_
        refine AX.seq ?_
        obtain ⟨v6, q12, h⟩ := nm_e h
        obtain ⟨g13, h⟩ := gd_e h
        obtain ⟨v7, q14, h⟩ := nm_e h
        refine AX.reg (its := [.auto {}, .auto {}, .auto { y := some (.v (.int .u8 v6)), raw := true }, .auto {}, .auto { raw := true }, .auto { y := some (.v (.int .i64 v7)), raw := true }]) [2] [] (s1 := ⟨[(2, .v (.int .i64 v7))], []⟩) (C := ((True) ∧ ((.v (.int .u8 (IntKind.wrap .u8 ((p1 / 2 ^ (32 : Int).toNat) / 2 ^ (16 : Int).toNat))) : AV) = (.v (.int .u8 v6) : AV))) ∧ (0 ≤ v6 ∧ v6 < (lstr_c9535661.size : Int)) ∧ ((True) ∧ ((.v (.int .i64 (IntKind.wrap .i64 ((IntKind.wrap .i64 (32 + 16)) + (IntKind.wrap .i64 (byteAt lstr_c9535661 v6.toNat))))) : AV) = (.v (.int .i64 v7) : AV))) ∧ True) (by kernel_rfl) ⟨⟨trivial, (congrArg (fun z => AV.v (.int .u8 z)) q12)⟩, ⟨g13, ⟨⟨trivial, (congrArg (fun z => AV.v (.int .i64 z)) q14)⟩, trivial⟩⟩⟩ trivial ?_
        refine AX.ret ?_
        refine fin_wk (Wk.forget [2] [] (s' := ⟨[(2, .v (.int .i64 v7))], []⟩) (by kernel_rfl)) ?_
        have hr := Option.some.inj h
        subst hr
        exact ⟨_, Wk.refl _, .inr rfl, ⟨[], by kernel_rfl, trivial, [.v (.int .i64 v7)], by kernel_rfl, by kernel_rfl⟩⟩
    · replace h := cd_f b3 h
      refine AX.condF (decide (65536 ≤ (p1 / 2 ^ (32 : Int).toNat))) (by kernel_rfl) b3 ?_
      refine AX.skip ?_
      refine AX.seq ?_
      refine AX.seq ?_
      refine AX.reg (its := []) [0, 2, 14] [] (s1 := ⟨[(0, .v (.int .u64 (p1 / 2 ^ (32 : Int).toNat))), (2, .v (.int .i64 32)), (14, .v (.bool (decide (256 ≤ (p1 / 2 ^ (32 : Int).toNat)))))], []⟩) (C := True) (by kernel_rfl) trivial trivial ?_
      rcases bool_cases (decide (256 ≤ (p1 / 2 ^ (32 : Int).toNat))) with b15 | b15
      · replace h := cd_t b15 h
        refine AX.condT (decide (256 ≤ (p1 / 2 ^ (32 : Int).toNat))) (by kernel_rfl) b15 ?_
        refine AX.seq ?_
        obtain ⟨g16, h⟩ := gd_e h
        refine AX.reg (its := []) [0, 2] [] (s1 := ⟨[(0, .v (.int .u64 ((p1 / 2 ^ (32 : Int).toNat) / 2 ^ (8 : Int).toNat))), (2, .v (.int .i64 32))], []⟩) (C := (0 ≤ (8 : Int) ∧ (8 : Int) ≤ (IntKind.bits .u64 : Int)) ∧ True) (by kernel_rfl) ⟨g16, trivial⟩ trivial ?_
        refine AX.reg (its := [.auto {}, .auto { raw := true }]) [0, 2] [] (s1 := ⟨[(0, .v (.int .u64 ((p1 / 2 ^ (32 : Int).toNat) / 2 ^ (8 : Int).toNat))), (2, .v (.int .i64 (IntKind.wrap .i64 (32 + 8))))], []⟩) (C := True) (by kernel_rfl) trivial trivial ?_
        refine AX.seq ?_
        obtain ⟨v8, q17, h⟩ := nm_e h
        obtain ⟨g18, h⟩ := gd_e h
        obtain ⟨v9, q19, h⟩ := nm_e h
        refine AX.reg (its := [.auto {}, .auto {}, .auto { y := some (.v (.int .u8 v8)), raw := true }, .auto {}, .auto { raw := true }, .auto { y := some (.v (.int .i64 v9)), raw := true }]) [2] [] (s1 := ⟨[(2, .v (.int .i64 v9))], []⟩) (C := ((True) ∧ ((.v (.int .u8 (IntKind.wrap .u8 ((p1 / 2 ^ (32 : Int).toNat) / 2 ^ (8 : Int).toNat))) : AV) = (.v (.int .u8 v8) : AV))) ∧ (0 ≤ v8 ∧ v8 < (lstr_c9535661.size : Int)) ∧ ((True) ∧ ((.v (.int .i64 (IntKind.wrap .i64 ((IntKind.wrap .i64 (32 + 8)) + (IntKind.wrap .i64 (byteAt lstr_c9535661 v8.toNat))))) : AV) = (.v (.int .i64 v9) : AV))) ∧ True) (by kernel_rfl) ⟨⟨trivial, (congrArg (fun z => AV.v (.int .u8 z)) q17)⟩, ⟨g18, ⟨⟨trivial, (congrArg (fun z => AV.v (.int .i64 z)) q19)⟩, trivial⟩⟩⟩ trivial ?_
        refine AX.ret ?_
        refine fin_wk (Wk.forget [2] [] (s' := ⟨[(2, .v (.int .i64 v9))], []⟩) (by kernel_rfl)) ?_
        have hr := Option.some.inj h
        subst hr
        exact ⟨_, Wk.refl _, .inr rfl, ⟨[], by kernel_rfl, trivial, [.v (.int .i64 v9)], by kernel_rfl, by kernel_rfl⟩⟩
      · replace h := cd_f b15 h
        refine AX.condF (decide (256 ≤ (p1 / 2 ^ (32 : Int).toNat))) (by kernel_rfl) b15 ?_
        refine AX.skip ?_
        refine AX.seq ?_
        obtain ⟨g20, h⟩ := gd_e h
        obtain ⟨v10, q21, h⟩ := nm_e h
        refine AX.reg (its := [.auto {}, .auto {}, .auto { raw := true }, .auto { y := some (.v (.int .u8 v10)) }, .auto { raw := true }, .auto { raw := true }]) [2] [] (s1 := ⟨[(2, .v (.int .i64 (IntKind.wrap .i64 (32 + (IntKind.wrap .i64 (v10))))))], []⟩) (C := ((0 ≤ (IntKind.wrap .u8 (p1 / 2 ^ (32 : Int).toNat)) ∧ (IntKind.wrap .u8 (p1 / 2 ^ (32 : Int).toNat)) < (lstr_c9535661.size : Int)) ∧ ((.v (.int .u8 (byteAt lstr_c9535661 (IntKind.wrap .u8 (p1 / 2 ^ (32 : Int).toNat)).toNat)) : AV) = (.v (.int .u8 v10) : AV))) ∧ True) (by kernel_rfl) ⟨⟨g20, (congrArg (fun z => AV.v (.int .u8 z)) q21)⟩, trivial⟩ trivial ?_
        refine AX.ret ?_
        refine fin_wk (Wk.forget [2] [] (s' := ⟨[(2, .v (.int .i64 (IntKind.wrap .i64 (32 + (IntKind.wrap .i64 (v10))))))], []⟩) (by kernel_rfl)) ?_
        have hr := Option.some.inj h
        subst hr
        exact ⟨_, Wk.refl _, .inr rfl, ⟨[], by kernel_rfl, trivial, [.v (.int .i64 (IntKind.wrap .i64 (32 + (IntKind.wrap .i64 (v10)))))], by kernel_rfl, by kernel_rfl⟩⟩
  · replace h := cd_f b1 h
    refine AX.condF (decide (4294967296 ≤ p1)) (by kernel_rfl) b1 ?_
    refine AX.skip ?_
    refine AX.seq ?_
    refine AX.seq ?_
    refine AX.reg (its := []) [0, 2, 8] [] (s1 := ⟨[(0, .v (.int .u64 p1)), (2, .v (.int .i64 0)), (8, .v (.bool (decide (65536 ≤ p1))))], []⟩) (C := True) (by kernel_rfl) trivial trivial ?_
    rcases bool_cases (decide (65536 ≤ p1)) with b22 | b22
    · replace h := cd_t b22 h
      refine AX.condT (decide (65536 ≤ p1)) (by kernel_rfl) b22 ?_
      refine AX.seq ?_
      obtain ⟨g23, h⟩ := gd_e h
      refine AX.reg (its := []) [0, 2] [] (s1 := ⟨[(0, .v (.int .u64 (p1 / 2 ^ (16 : Int).toNat))), (2, .v (.int .i64 0))], []⟩) (C := (0 ≤ (16 : Int) ∧ (16 : Int) ≤ (IntKind.bits .u64 : Int)) ∧ True) (by kernel_rfl) ⟨g23, trivial⟩ trivial ?_
      refine AX.reg (its := [.auto {}, .auto { raw := true }]) [0, 2] [] (s1 := ⟨[(0, .v (.int .u64 (p1 / 2 ^ (16 : Int).toNat))), (2, .v (.int .i64 (IntKind.wrap .i64 (0 + 16))))], []⟩) (C := True) (by kernel_rfl) trivial trivial ?_
      refine AX.seq ?_
      refine AX.seq ?_
      refine AX.reg (its := []) [0, 2, 14] [] (s1 := ⟨[(0, .v (.int .u64 (p1 / 2 ^ (16 : Int).toNat))), (2, .v (.int .i64 (IntKind.wrap .i64 (0 + 16)))), (14, .v (.bool (decide (256 ≤ (p1 / 2 ^ (16 : Int).toNat)))))], []⟩) (C := True) (by kernel_rfl) trivial trivial ?_
      rcases bool_cases (decide (256 ≤ (p1 / 2 ^ (16 : Int).toNat))) with b24 | b24
      · replace h := cd_t b24 h
        refine AX.condT (decide (256 ≤ (p1 / 2 ^ (16 : Int).toNat))) (by kernel_rfl) b24 ?_
        refine AX.seq ?_
        obtain ⟨g25, h⟩ := gd_e h
        refine AX.reg (its := []) [0, 2] [] (s1 := ⟨[(0, .v (.int .u64 ((p1 / 2 ^ (16 : Int).toNat) / 2 ^ (8 : Int).toNat))), (2, .v (.int .i64 (IntKind.wrap .i64 (0 + 16))))], []⟩) (C := (0 ≤ (8 : Int) ∧ (8 : Int) ≤ (IntKind.bits .u64 : Int)) ∧ True) (by kernel_rfl) ⟨g25, trivial⟩ trivial ?_
        refine AX.reg (its := [.auto {}, .auto { raw := true }]) [0, 2] [] (s1 := ⟨[(0, .v (.int .u64 ((p1 / 2 ^ (16 : Int).toNat) / 2 ^ (8 : Int).toNat))), (2, .v (.int .i64 (IntKind.wrap .i64 ((IntKind.wrap .i64 (0 + 16)) + 8))))], []⟩) (C := True) (by kernel_rfl) trivial trivial ?_
        refine AX.seq ?_
        obtain ⟨v11, q26, h⟩ := nm_e h
        obtain ⟨g27, h⟩ := gd_e h
        obtain ⟨v12, q28, h⟩ := nm_e h
        refine AX.reg (its := [.auto {}, .auto {}, .auto { y := some (.v (.int .u8 v11)), raw := true }, .auto {}, .auto { raw := true }, .auto { y := some (.v (.int .i64 v12)), raw := true }]) [2] [] (s1 := ⟨[(2, .v (.int .i64 v12))], []⟩) (C := ((True) ∧ ((.v (.int .u8 (IntKind.wrap .u8 ((p1 / 2 ^ (16 : Int).toNat) / 2 ^ (8 : Int).toNat))) : AV) = (.v (.int .u8 v11) : AV))) ∧ (0 ≤ v11 ∧ v11 < (lstr_c9535661.size : Int)) ∧ ((True) ∧ ((.v (.int .i64 (IntKind.wrap .i64 ((IntKind.wrap .i64 ((IntKind.wrap .i64 (0 + 16)) + 8)) + (IntKind.wrap .i64 (byteAt lstr_c9535661 v11.toNat))))) : AV) = (.v (.int .i64 v12) : AV))) ∧ True) (by kernel_rfl) ⟨⟨trivial, (congrArg (fun z => AV.v (.int .u8 z)) q26)⟩, ⟨g27, ⟨⟨trivial, (congrArg (fun z => AV.v (.int .i64 z)) q28)⟩, trivial⟩⟩⟩ trivial ?_
        refine AX.ret ?_
        refine fin_wk (Wk.forget [2] [] (s' := ⟨[(2, .v (.int .i64 v12))], []⟩) (by kernel_rfl)) ?_
        have hr := Option.some.inj h
        subst hr
        exact ⟨_, Wk.refl _, .inr rfl, ⟨[], by kernel_rfl, trivial, [.v (.int .i64 v12)], by kernel_rfl, by kernel_rfl⟩⟩
      · replace h := cd_f b24 h
        refine AX.condF (decide (256 ≤ (p1 / 2 ^ (16 : Int).toNat))) (by kernel_rfl) b24 ?_
        refine AX.skip ?_
        refine AX.seq ?_
        obtain ⟨g29, h⟩ := gd_e h
        obtain ⟨v13, q30, h⟩ := nm_e h
        obtain ⟨v14, q31, h⟩ := nm_e h
        refine AX.reg (its := [.auto {}, .auto {}, .auto { raw := true }, .auto { y := some (.v (.int .u8 v13)) }, .auto { raw := true }, .auto { y := some (.v (.int .i64 v14)), raw := true }]) [2] [] (s1 := ⟨[(2, .v (.int .i64 v14))], []⟩) (C := ((0 ≤ (IntKind.wrap .u8 (p1 / 2 ^ (16 : Int).toNat)) ∧ (IntKind.wrap .u8 (p1 / 2 ^ (16 : Int).toNat)) < (lstr_c9535661.size : Int)) ∧ ((.v (.int .u8 (byteAt lstr_c9535661 (IntKind.wrap .u8 (p1 / 2 ^ (16 : Int).toNat)).toNat)) : AV) = (.v (.int .u8 v13) : AV))) ∧ ((True) ∧ ((.v (.int .i64 (IntKind.wrap .i64 ((IntKind.wrap .i64 (0 + 16)) + (IntKind.wrap .i64 (v13))))) : AV) = (.v (.int .i64 v14) : AV))) ∧ True) (by kernel_rfl) ⟨⟨g29, (congrArg (fun z => AV.v (.int .u8 z)) q30)⟩, ⟨⟨trivial, (congrArg (fun z => AV.v (.int .i64 z)) q31)⟩, trivial⟩⟩ trivial ?_
        refine AX.ret ?_
        refine fin_wk (Wk.forget [2] [] (s' := ⟨[(2, .v (.int .i64 v14))], []⟩) (by kernel_rfl)) ?_
        have hr := Option.some.inj h
        subst hr
        exact ⟨_, Wk.refl _, .inr rfl, ⟨[], by kernel_rfl, trivial, [.v (.int .i64 v14)], by kernel_rfl, by kernel_rfl⟩⟩
    · replace h := cd_f b22 h
      refine AX.condF (decide (65536 ≤ p1)) (by kernel_rfl) b22 ?_
      refine AX.skip ?_
      refine AX.seq ?_
      refine AX.seq ?_
      refine AX.reg (its := []) [0, 2, 14] [] (s1 := ⟨[(0, .v (.int .u64 p1)), (2, .v (.int .i64 0)), (14, .v (.bool (decide (256 ≤ p1))))], []⟩) (C := True) (by kernel_rfl) trivial trivial ?_
      rcases bool_cases (decide (256 ≤ p1)) with b32 | b32
      · replace h := cd_t b32 h
        refine AX.condT (decide (256 ≤ p1)) (by kernel_rfl) b32 ?_
        refine AX.seq ?_
        obtain ⟨g33, h⟩ := gd_e h
        refine AX.reg (its := []) [0, 2] [] (s1 := ⟨[(0, .v (.int .u64 (p1 / 2 ^ (8 : Int).toNat))), (2, .v (.int .i64 0))], []⟩) (C := (0 ≤ (8 : Int) ∧ (8 : Int) ≤ (IntKind.bits .u64 : Int)) ∧ True) (by kernel_rfl) ⟨g33, trivial⟩ trivial ?_
        refine AX.reg (its := [.auto {}, .auto { raw := true }]) [0, 2] [] (s1 := ⟨[(0, .v (.int .u64 (p1 / 2 ^ (8 : Int).toNat))), (2, .v (.int .i64 (IntKind.wrap .i64 (0 + 8))))], []⟩) (C := True) (by kernel_rfl) trivial trivial ?_
        refine AX.seq ?_
        obtain ⟨g34, h⟩ := gd_e h
        obtain ⟨v15, q35, h⟩ := nm_e h
        obtain ⟨v16, q36, h⟩ := nm_e h
        refine AX.reg (its := [.auto {}, .auto {}, .auto { raw := true }, .auto { y := some (.v (.int .u8 v15)) }, .auto { raw := true }, .auto { y := some (.v (.int .i64 v16)), raw := true }]) [2] [] (s1 := ⟨[(2, .v (.int .i64 v16))], []⟩) (C := ((0 ≤ (IntKind.wrap .u8 (p1 / 2 ^ (8 : Int).toNat)) ∧ (IntKind.wrap .u8 (p1 / 2 ^ (8 : Int).toNat)) < (lstr_c9535661.size : Int)) ∧ ((.v (.int .u8 (byteAt lstr_c9535661 (IntKind.wrap .u8 (p1 / 2 ^ (8 : Int).toNat)).toNat)) : AV) = (.v (.int .u8 v15) : AV))) ∧ ((True) ∧ ((.v (.int .i64 (IntKind.wrap .i64 ((IntKind.wrap .i64 (0 + 8)) + (IntKind.wrap .i64 (v15))))) : AV) = (.v (.int .i64 v16) : AV))) ∧ True) (by kernel_rfl) ⟨⟨g34, (congrArg (fun z => AV.v (.int .u8 z)) q35)⟩, ⟨⟨trivial, (congrArg (fun z => AV.v (.int .i64 z)) q36)⟩, trivial⟩⟩ trivial ?_
        refine AX.ret ?_
        refine fin_wk (Wk.forget [2] [] (s' := ⟨[(2, .v (.int .i64 v16))], []⟩) (by kernel_rfl)) ?_
        have hr := Option.some.inj h
        subst hr
        exact ⟨_, Wk.refl _, .inr rfl, ⟨[], by kernel_rfl, trivial, [.v (.int .i64 v16)], by kernel_rfl, by kernel_rfl⟩⟩
      · replace h := cd_f b32 h
        refine AX.condF (decide (256 ≤ p1)) (by kernel_rfl) b32 ?_
        refine AX.skip ?_
        refine AX.seq ?_
        obtain ⟨g37, h⟩ := gd_e h
        obtain ⟨v17, q38, h⟩ := nm_e h
        refine AX.reg (its := [.auto {}, .auto {}, .auto { raw := true }, .auto {}, .auto { y := some (.v (.int .i64 v17)), raw := true }, .auto { raw := true }]) [2] [] (s1 := ⟨[(2, .v (.int .i64 (IntKind.wrap .i64 (0 + v17))))], []⟩) (C := (0 ≤ (IntKind.wrap .u8 (p1)) ∧ (IntKind.wrap .u8 (p1)) < (lstr_c9535661.size : Int)) ∧ ((True) ∧ ((.v (.int .i64 (IntKind.wrap .i64 (byteAt lstr_c9535661 (IntKind.wrap .u8 (p1)).toNat))) : AV) = (.v (.int .i64 v17) : AV))) ∧ True) (by kernel_rfl) ⟨g37, ⟨⟨trivial, (congrArg (fun z => AV.v (.int .i64 z)) q38)⟩, trivial⟩⟩ trivial ?_
        refine AX.ret ?_
        refine fin_wk (Wk.forget [2] [] (s' := ⟨[(2, .v (.int .i64 (IntKind.wrap .i64 (0 + v17))))], []⟩) (by kernel_rfl)) ?_
        have hr := Option.some.inj h
        subst hr
        exact ⟨_, Wk.refl _, .inr rfl, ⟨[], by kernel_rfl, trivial, [.v (.int .i64 (IntKind.wrap .i64 (0 + v17)))], by kernel_rfl, by kernel_rfl⟩⟩

theorem s_math_bits_Len (p1 : Int) (r : Int) (h : m_math_bits_Len p1 = some r) :
    Eng.Spec Tryd.prog 165 [.v (.int .u64 p1)] [] (.v (.int .i64 r)) [] := by
  unfold m_math_bits_Len at h
  refine Eng.Spec.body Tryd.func165 (by kernel_rfl) rfl (by kernel_rfl) ?_
  refine AX.wkpost ?_
  refine AX.seq ?_
  refine AX.reg (its := []) [0] [] (s1 := ⟨[(0, .v (.int .u64 p1))], []⟩) (C := True) (by kernel_rfl) trivial trivial ?_
  refine AX.seq ?_
  refine AX.cond_false (by kernel_rfl) ?_
  refine AX.skip ?_
  refine AX.seq ?_
  obtain ⟨x2, e1, h⟩ := bd_e h
  refine AX.reg (its := [.auto {}, .call 194 [.v (.int .u64 p1)] (handO (rho ([] ++ [])) [] [] ++ []) (callEv [] [] (.v (.int .i64 x2)) [])]) [2] [] (s1 := ⟨[(2, .v (.int .i64 x2))], []⟩) (C := ((([.v (.int .u64 p1)] : List AV) = [.v (.int .u64 p1)]) ∧ True) ∧ True) (by kernel_rfl) ⟨⟨rfl, trivial⟩, trivial⟩ ⟨call_ok (ks := []) (ns := []) (bor := []) (bobjs := []) (s_math_bits_Len64 p1 x2 e1) (.cons (.c1 (.c0 (.same _ (by kernel_rfl) (by kernel_rfl)))) (.nil)) (by kernel_rfl) trivial, trivial⟩ ?_
  refine AX.ret ?_
  refine fin_wk (Wk.forget [2] [] (s' := ⟨[(2, .v (.int .i64 x2))], []⟩) (by kernel_rfl)) ?_
  have hr := Option.some.inj h
  subst hr
  exact ⟨_, Wk.refl _, .inr rfl, ⟨[], by kernel_rfl, trivial, [.v (.int .i64 x2)], by kernel_rfl, by kernel_rfl⟩⟩

theorem s_cmp_isNaN (p1 : Int) (r : Unit) (h : m_cmp_isNaN p1 = some r) :
    Eng.Spec Tryd.prog 166 [.v (.int .i64 p1)] [] (.v (.bool (!decide (p1 = p1)))) [] := by
  unfold m_cmp_isNaN at h
  refine Eng.Spec.body Tryd.func166 (by kernel_rfl) rfl (by kernel_rfl) ?_
  refine AX.wkpost ?_
  refine AX.seq ?_
  refine AX.reg (its := []) [0] [] (s1 := ⟨[(0, .v (.int .i64 p1))], []⟩) (C := True) (by kernel_rfl) trivial trivial ?_
  refine AX.seq ?_
  refine AX.reg (its := []) [2] [] (s1 := ⟨[(2, .v (.bool (!decide (p1 = p1))))], []⟩) (C := True) (by kernel_rfl) trivial trivial ?_
  refine AX.ret ?_
  refine fin_wk (Wk.forget [2] [] (s' := ⟨[(2, .v (.bool (!decide (p1 = p1))))], []⟩) (by kernel_rfl)) ?_
  have hr := Option.some.inj h
  subst hr
  exact ⟨_, Wk.refl _, .inr rfl, ⟨[], by kernel_rfl, trivial, [.v (.bool (!decide (p1 = p1)))], by kernel_rfl, by kernel_rfl⟩⟩

theorem s_cmp_Compare (p1 : Int) (p2 : Int) (r : Int) (h : m_cmp_Compare p1 p2 = some r) :
    Eng.Spec Tryd.prog 143 [.v (.int .i64 p1), .v (.int .i64 p2)] [] (.v (.int .i64 r)) [] := by
  unfold m_cmp_Compare at h
  refine Eng.Spec.body Tryd.func143 (by kernel_rfl) rfl (by kernel_rfl) ?_
  refine AX.wkpost ?_
  refine AX.seq ?_
  refine AX.reg (its := []) [0, 1] [] (s1 := ⟨[(0, .v (.int .i64 p1)), (1, .v (.int .i64 p2))], []⟩) (C := True) (by kernel_rfl) trivial trivial ?_
  refine AX.seq ?_
  obtain ⟨x3, e1, h⟩ := bd_e h
  refine AX.reg (its := [.auto {}, .call 166 [.v (.int .i64 p1)] (handO (rho ([] ++ [])) [] [] ++ []) (callEv [] [] (.v (.bool (!decide (p1 = p1)))) [])]) [0, 1, 5] [] (s1 := ⟨[(0, .v (.int .i64 p1)), (1, .v (.int .i64 p2)), (5, .v (.bool (!decide (p1 = p1))))], []⟩) (C := ((([.v (.int .i64 p1)] : List AV) = [.v (.int .i64 p1)]) ∧ True) ∧ True) (by kernel_rfl) ⟨⟨rfl, trivial⟩, trivial⟩ ⟨call_ok (ks := []) (ns := []) (bor := []) (bobjs := []) (s_cmp_isNaN p1 x3 e1) (.cons (.c1 (.c0 (.same _ (by kernel_rfl) (by kernel_rfl)))) (.nil)) (by kernel_rfl) trivial, trivial⟩ ?_
  refine AX.seq ?_
  obtain ⟨x4, e2, h⟩ := bd_e h
  refine AX.reg (its := [.auto {}, .call 166 [.v (.int .i64 p2)] (handO (rho ([] ++ [])) [] [] ++ []) (callEv [] [] (.v (.bool (!decide (p2 = p2)))) [])]) [0, 1, 5, 6] [] (s1 := ⟨[(0, .v (.int .i64 p1)), (1, .v (.int .i64 p2)), (5, .v (.bool (!decide (p1 = p1)))), (6, .v (.bool (!decide (p2 = p2))))], []⟩) (C := ((([.v (.int .i64 p2)] : List AV) = [.v (.int .i64 p2)]) ∧ True) ∧ True) (by kernel_rfl) ⟨⟨rfl, trivial⟩, trivial⟩ ⟨call_ok (ks := []) (ns := []) (bor := []) (bobjs := []) (s_cmp_isNaN p2 x4 e2) (.cons (.c1 (.c0 (.same _ (by kernel_rfl) (by kernel_rfl)))) (.nil)) (by kernel_rfl) trivial, trivial⟩ ?_
  refine AX.seq ?_
  refine AX.seq ?_
  refine AX.reg (its := []) [0, 1, 6, 11] [] (s1 := ⟨[(0, .v (.int .i64 p1)), (1, .v (.int .i64 p2)), (6, .v (.bool (!decide (p2 = p2)))), (11, .v (.bool (!decide (p1 = p1))))], []⟩) (C := True) (by kernel_rfl) trivial trivial ?_
  rcases bool_cases ((!decide (p1 = p1))) with b3 | b3
  · replace h := cd_t b3 h
    refine AX.condT ((!decide (p1 = p1))) (by kernel_rfl) b3 ?_
    refine AX.seq ?_
    refine AX.seq ?_
    refine AX.reg (its := []) [12] [] (s1 := ⟨[(12, .v (.bool (!decide (p2 = p2))))], []⟩) (C := True) (by kernel_rfl) trivial trivial ?_
    rcases bool_cases ((!decide (p2 = p2))) with b4 | b4
    · replace h := cd_t b4 h
      refine AX.condT ((!decide (p2 = p2))) (by kernel_rfl) b4 ?_
      refine AX.seq ?_
      refine AX.reg (its := []) [4] [] (s1 := ⟨[(4, .v (.int .i64 0))], []⟩) (C := True) (by kernel_rfl) trivial trivial ?_
      refine AX.ret ?_
      refine fin_wk (Wk.forget [4] [] (s' := ⟨[(4, .v (.int .i64 0))], []⟩) (by kernel_rfl)) ?_
      have hr := Option.some.inj h
      subst hr
      exact ⟨_, Wk.refl _, .inr rfl, ⟨[], by kernel_rfl, trivial, [.v (.int .i64 0)], by kernel_rfl, by kernel_rfl⟩⟩
    · replace h := cd_f b4 h
      refine AX.condF ((!decide (p2 = p2))) (by kernel_rfl) b4 ?_
      refine AX.skip ?_
      refine AX.seq ?_
      refine AX.reg (its := []) [4] [] (s1 := ⟨[(4, .v (.int .i64 (-1)))], []⟩) (C := True) (by kernel_rfl) trivial trivial ?_
      refine AX.ret ?_
      refine fin_wk (Wk.forget [4] [] (s' := ⟨[(4, .v (.int .i64 (-1)))], []⟩) (by kernel_rfl)) ?_
      have hr := Option.some.inj h
      subst hr
      exact ⟨_, Wk.refl _, .inr rfl, ⟨[], by kernel_rfl, trivial, [.v (.int .i64 (-1))], by kernel_rfl, by kernel_rfl⟩⟩
  · replace h := cd_f b3 h
    refine AX.condF ((!decide (p1 = p1))) (by kernel_rfl) b3 ?_
    refine AX.skip ?_
    refine AX.seq ?_
    refine AX.seq ?_
    refine AX.reg (its := []) [0, 1, 13] [] (s1 := ⟨[(0, .v (.int .i64 p1)), (1, .v (.int .i64 p2)), (13, .v (.bool (!decide (p2 = p2))))], []⟩) (C := True) (by kernel_rfl) trivial trivial ?_
    rcases bool_cases ((!decide (p2 = p2))) with b5 | b5
    · replace h := cd_t b5 h
      refine AX.condT ((!decide (p2 = p2))) (by kernel_rfl) b5 ?_
      refine AX.seq ?_
      refine AX.reg (its := []) [4] [] (s1 := ⟨[(4, .v (.int .i64 1))], []⟩) (C := True) (by kernel_rfl) trivial trivial ?_
      refine AX.ret ?_
      refine fin_wk (Wk.forget [4] [] (s' := ⟨[(4, .v (.int .i64 1))], []⟩) (by kernel_rfl)) ?_
      have hr := Option.some.inj h
      subst hr
      exact ⟨_, Wk.refl _, .inr rfl, ⟨[], by kernel_rfl, trivial, [.v (.int .i64 1)], by kernel_rfl, by kernel_rfl⟩⟩
    · replace h := cd_f b5 h
      refine AX.condF ((!decide (p2 = p2))) (by kernel_rfl) b5 ?_
      refine AX.skip ?_
      refine AX.seq ?_
      refine AX.seq ?_
      refine AX.reg (its := []) [0, 1, 16] [] (s1 := ⟨[(0, .v (.int .i64 p1)), (1, .v (.int .i64 p2)), (16, .v (.bool (decide (p1 < p2))))], []⟩) (C := True) (by kernel_rfl) trivial trivial ?_
      rcases bool_cases (decide (p1 < p2)) with b6 | b6
      · replace h := cd_t b6 h
        refine AX.condT (decide (p1 < p2)) (by kernel_rfl) b6 ?_
        refine AX.seq ?_
        refine AX.reg (its := []) [4] [] (s1 := ⟨[(4, .v (.int .i64 (-1)))], []⟩) (C := True) (by kernel_rfl) trivial trivial ?_
        refine AX.ret ?_
        refine fin_wk (Wk.forget [4] [] (s' := ⟨[(4, .v (.int .i64 (-1)))], []⟩) (by kernel_rfl)) ?_
        have hr := Option.some.inj h
        subst hr
        exact ⟨_, Wk.refl _, .inr rfl, ⟨[], by kernel_rfl, trivial, [.v (.int .i64 (-1))], by kernel_rfl, by kernel_rfl⟩⟩
      · replace h := cd_f b6 h
        refine AX.condF (decide (p1 < p2)) (by kernel_rfl) b6 ?_
        refine AX.skip ?_
        refine AX.seq ?_
        refine AX.seq ?_
        refine AX.reg (its := []) [19] [] (s1 := ⟨[(19, .v (.bool (decide (p2 < p1))))], []⟩) (C := True) (by kernel_rfl) trivial trivial ?_
        rcases bool_cases (decide (p2 < p1)) with b7 | b7
        · replace h := cd_t b7 h
          refine AX.condT (decide (p2 < p1)) (by kernel_rfl) b7 ?_
          refine AX.seq ?_
          refine AX.reg (its := []) [4] [] (s1 := ⟨[(4, .v (.int .i64 1))], []⟩) (C := True) (by kernel_rfl) trivial trivial ?_
          refine AX.ret ?_
          refine fin_wk (Wk.forget [4] [] (s' := ⟨[(4, .v (.int .i64 1))], []⟩) (by kernel_rfl)) ?_
          have hr := Option.some.inj h
          subst hr
          exact ⟨_, Wk.refl _, .inr rfl, ⟨[], by kernel_rfl, trivial, [.v (.int .i64 1)], by kernel_rfl, by kernel_rfl⟩⟩
        · replace h := cd_f b7 h
          refine AX.condF (decide (p2 < p1)) (by kernel_rfl) b7 ?_
          refine AX.skip ?_
          refine AX.seq ?_
          refine AX.reg (its := []) [4] [] (s1 := ⟨[(4, .v (.int .i64 0))], []⟩) (C := True) (by kernel_rfl) trivial trivial ?_
          refine AX.ret ?_
          refine fin_wk (Wk.forget [4] [] (s' := ⟨[(4, .v (.int .i64 0))], []⟩) (by kernel_rfl)) ?_
          have hr := Option.some.inj h
          subst hr
          exact ⟨_, Wk.refl _, .inr rfl, ⟨[], by kernel_rfl, trivial, [.v (.int .i64 0)], by kernel_rfl, by kernel_rfl⟩⟩

theorem s_impl_Flag_singles_1 (p1 : ByteArray) (p2 : Int) (p3 : ByteArray) (p4 : Int) (r : Int) (h : m_impl_Flag_singles_1 p1 p2 p3 p4 = some r) :
    Eng.Spec Tryd.prog 142 [.agg [.v (.string p1), .v (.int .i64 p2)], .agg [.v (.string p3), .v (.int .i64 p4)]] [] (.v (.int .i64 r)) [] := by
  unfold m_impl_Flag_singles_1 at h
  refine Eng.Spec.body Tryd.func142 (by kernel_rfl) rfl (by kernel_rfl) ?_
  refine AX.wkpost ?_
  refine AX.seq ?_
  refine AX.reg (its := [.auto { nk := 0 }, .auto { nk := 1 }]) [2, 3] [0, 1] (s1 := ⟨[(2, .pt 0 0), (3, .pt 1 0)], [(0, .box [.v (.string p1), .v (.int .i64 p2)]), (1, .box [.v (.string p3), .v (.int .i64 p4)])]⟩) (C := True) (by kernel_rfl) trivial trivial ?_
  refine AX.seq ?_
  obtain ⟨x5, e1, h⟩ := bd_e h
  refine AX.reg (its := [.auto {}, .auto {}, .auto {}, .auto {}, .call 143 [.v (.int .i64 p2), .v (.int .i64 p4)] (handO (rho ([] ++ [])) [] [] ++ []) (callEv [] [] (.v (.int .i64 x5)) [])]) [4] [] (s1 := ⟨[(4, .v (.int .i64 x5))], []⟩) (C := ((([.v (.int .i64 p2), .v (.int .i64 p4)] : List AV) = [.v (.int .i64 p2), .v (.int .i64 p4)]) ∧ True) ∧ True) (by kernel_rfl) ⟨⟨rfl, trivial⟩, trivial⟩ ⟨call_ok (ks := []) (ns := []) (bor := []) (bobjs := []) (s_cmp_Compare p2 p4 x5 e1) (.cons (.c1 (.c0 (.same _ (by kernel_rfl) (by kernel_rfl)))) (.cons (.c1 (.c0 (.same _ (by kernel_rfl) (by kernel_rfl)))) (.nil))) (by kernel_rfl) trivial, trivial⟩ ?_
  refine AX.ret ?_
  refine fin_wk (Wk.forget [4] [] (s' := ⟨[(4, .v (.int .i64 x5))], []⟩) (by kernel_rfl)) ?_
  have hr := Option.some.inj h
  subst hr
  exact ⟨_, Wk.refl _, .inr rfl, ⟨[], by kernel_rfl, trivial, [.v (.int .i64 x5)], by kernel_rfl, by kernel_rfl⟩⟩

theorem s_slices_insertionSortCmpFunc_h_Flag_singles_1_si_L2 (p1 : Int) (p2 : Int) (v4 : Int) (n : Nat) (g : Int × (List (ByteArray × Int))) (out : List (ByteArray × Int)) (h : m_slices_insertionSortCmpFunc_h_Flag_singles_1_si_L2 p1 p2 v4 n g.1 g.2 = some out) :
    AX Tryd.prog 53 1 (codeAt [1, 1, 1, 1, 0, 1, 1, 1] (bodyOf Tryd.f185)) ((fun g : Int × (List (ByteArray × Int)) => (⟨[(0, .sl 0 0 g.2.length), (1, .v (.int .i64 p1)), (2, .v (.int .i64 p2)), (3, .fn 142 []), (8, .v (.int .i64 v4)), (9, .v (.int .i64 g.1))], [(0, .arr 2 (List.map enc_si g.2))]⟩ : S)) g) (fun ex s => ex = .exit 2 ∧ s = (fun o : List (ByteArray × Int) => (⟨[(0, .sl 0 0 o.length), (1, .v (.int .i64 p1)), (2, .v (.int .i64 p2)), (3, .fn 142 []), (8, .v (.int .i64 v4))], [(0, .arr 2 (List.map enc_si o))]⟩ : S)) out) := by
  refine AX.wkpost ?_
  refine AX.loop (G := Nat × (Int × (List (ByteArray × Int)))) (fun q => (fun g : Int × (List (ByteArray × Int)) => (⟨[(0, .sl 0 0 g.2.length), (1, .v (.int .i64 p1)), (2, .v (.int .i64 p2)), (3, .fn 142 []), (8, .v (.int .i64 v4)), (9, .v (.int .i64 g.1))], [(0, .arr 2 (List.map enc_si g.2))]⟩ : S)) q.2) (fun q => m_slices_insertionSortCmpFunc_h_Flag_singles_1_si_L2 p1 p2 v4 q.1 q.2.1 q.2.2 = some out) (fun q => q.1) (n, g) h (Wk.refl _) ?_
  clear h
  rintro ⟨fu, v6, v7⟩ h
  cases fu with
  | zero => cases h
  | succ fu =>
    rw [m_slices_insertionSortCmpFunc_h_Flag_singles_1_si_L2] at h
    refine AX.seq ?_
    refine AX.seq ?_
    rcases bool_cases (decide (p1 < v6)) with b2 | b2
    · replace h := cd_t b2 h
      obtain ⟨g3, h⟩ := gd_e h
      obtain ⟨g4, h⟩ := gd_e h
      obtain ⟨x8, e5, h⟩ := bd_e h
      refine AX.drw mixed (its := [.auto {}, .auto {}, .auto { y := some (.v (.bool true)) }, .auto {}, .auto {}, .auto {}, .auto {}, .auto {}, .auto { y := some (.agg [.v (.string ((gt v7 v6).1)), .v (.int .i64 ((gt v7 v6).2))]) }, .auto {}, .auto {}, .auto { raw := true }, .auto {}, .auto { y := some (.agg [.v (.string ((gt v7 (IntKind.wrap .i64 (v6 - 1))).1)), .v (.int .i64 ((gt v7 (IntKind.wrap .i64 (v6 - 1))).2))]) }, .call 142 [.agg [.v (.string ((gt v7 v6).1)), .v (.int .i64 ((gt v7 v6).2))], .agg [.v (.string ((gt v7 (IntKind.wrap .i64 (v6 - 1))).1)), .v (.int .i64 ((gt v7 (IntKind.wrap .i64 (v6 - 1))).2))]] (handO (rho ([] ++ [])) [] [] ++ []) (callEv [] [] (.v (.int .i64 x8)) [])]) [0, 1, 2, 3, 8, 9, 34] [0] (s1 := ⟨[(0, .sl 0 0 v7.length), (1, .v (.int .i64 p1)), (2, .v (.int .i64 p2)), (3, .fn 142 []), (8, .v (.int .i64 v4)), (9, .v (.int .i64 v6)), (34, .v (.bool (decide (x8 < 0))))], [(0, .arr 2 (List.map enc_si v7))]⟩) (C := ((True) ∧ ((.v (.bool (decide (p1 < v6))) : AV) = (.v (.bool true) : AV))) ∧ (0 ≤ v6 ∧ v6 < (v7.length : Int)) ∧ (True ∧ (AV.agg ((((List.map enc_si v7).getD (0 + v6.toNat) []).drop 0 |>.take 2).map .v) = .agg [.v (.string ((gt v7 v6).1)), .v (.int .i64 ((gt v7 v6).2))])) ∧ (0 ≤ (IntKind.wrap .i64 (v6 - 1)) ∧ (IntKind.wrap .i64 (v6 - 1)) < (v7.length : Int)) ∧ (True ∧ (AV.agg ((((List.map enc_si v7).getD (0 + (IntKind.wrap .i64 (v6 - 1)).toNat) []).drop 0 |>.take 2).map .v) = .agg [.v (.string ((gt v7 (IntKind.wrap .i64 (v6 - 1))).1)), .v (.int .i64 ((gt v7 (IntKind.wrap .i64 (v6 - 1))).2))])) ∧ ((([.agg [.v (.string ((gt v7 v6).1)), .v (.int .i64 ((gt v7 v6).2))], .agg [.v (.string ((gt v7 (IntKind.wrap .i64 (v6 - 1))).1)), .v (.int .i64 ((gt v7 (IntKind.wrap .i64 (v6 - 1))).2))]] : List AV) = [.agg [.v (.string ((gt v7 v6).1)), .v (.int .i64 ((gt v7 v6).2))], .agg [.v (.string ((gt v7 (IntKind.wrap .i64 (v6 - 1))).1)), .v (.int .i64 ((gt v7 (IntKind.wrap .i64 (v6 - 1))).2))]]) ∧ True) ∧ True) (by kernel_rfl) ⟨⟨trivial, (congrArg (fun z => AV.v (.bool z)) b2)⟩, ⟨g3, ⟨⟨trivial, (congrArg (fun z : List Value => AV.agg (((z.drop 0).take 2).map .v)) (idx_arr (enc := enc_si) rfl g3))⟩, ⟨g4, ⟨⟨trivial, (congrArg (fun z : List Value => AV.agg (((z.drop 0).take 2).map .v)) (idx_arr (enc := enc_si) rfl g4))⟩, ⟨⟨rfl, trivial⟩, trivial⟩⟩⟩⟩⟩⟩ ⟨call_ok (ks := []) (ns := []) (bor := []) (bobjs := []) (s_impl_Flag_singles_1 ((gt v7 v6).1) ((gt v7 v6).2) ((gt v7 (IntKind.wrap .i64 (v6 - 1))).1) ((gt v7 (IntKind.wrap .i64 (v6 - 1))).2) x8 e5) (.cons (.c1 (.agg (.cons (.same _ (by kernel_rfl) (by kernel_rfl)) (.cons (.same _ (by kernel_rfl) (by kernel_rfl)) (.nil))))) (.cons (.c1 (.agg (.cons (.same _ (by kernel_rfl) (by kernel_rfl)) (.cons (.same _ (by kernel_rfl) (by kernel_rfl)) (.nil))))) (.nil))) (by kernel_rfl) trivial, trivial⟩ ?_
      rcases bool_cases (decide (x8 < 0)) with b6 | b6
      · replace h := cd_t b6 h
        refine AX.condT (decide (x8 < 0)) (by kernel_rfl) b6 ?_
        refine AX.skip ?_
        refine AX.seq ?_
        refine AX.block ?_
        refine AX.drw mixed (its := [.auto {}, .auto {}, .auto {}, .auto {}, .auto { raw := true }, .auto {}, .auto {}, .auto { raw := true }, .auto {}, .auto { y := some (.agg [.v (.string ((gt v7 (IntKind.wrap .i64 (v6 - 1))).1)), .v (.int .i64 ((gt v7 (IntKind.wrap .i64 (v6 - 1))).2))]) }, .auto {}, .auto {}, .auto {}, .auto { y := some (.agg [.v (.string ((gt v7 v6).1)), .v (.int .i64 ((gt v7 v6).2))]) }]) [0, 1, 2, 3, 8, 9] [0] (s1 := ⟨[(0, .sl 0 0 v7.length), (1, .v (.int .i64 p1)), (2, .v (.int .i64 p2)), (3, .fn 142 []), (8, .v (.int .i64 v4)), (9, .v (.int .i64 v6))], [(0, .arr 2 (((List.map enc_si v7).set (0 + v6.toNat) [(.string ((gt v7 (IntKind.wrap .i64 (v6 - 1))).1)), (.int .i64 ((gt v7 (IntKind.wrap .i64 (v6 - 1))).2))]).set (0 + (IntKind.wrap .i64 (v6 - 1)).toNat) [(.string ((gt v7 v6).1)), (.int .i64 ((gt v7 v6).2))]))]⟩) (C := (0 ≤ (IntKind.wrap .i64 (v6 - 1)) ∧ (IntKind.wrap .i64 (v6 - 1)) < (v7.length : Int)) ∧ (True ∧ (AV.agg ((((List.map enc_si v7).getD (0 + (IntKind.wrap .i64 (v6 - 1)).toNat) []).drop 0 |>.take 2).map .v) = .agg [.v (.string ((gt v7 (IntKind.wrap .i64 (v6 - 1))).1)), .v (.int .i64 ((gt v7 (IntKind.wrap .i64 (v6 - 1))).2))])) ∧ (0 ≤ v6 ∧ v6 < (v7.length : Int)) ∧ (True ∧ (AV.agg ((((List.map enc_si v7).getD (0 + v6.toNat) []).drop 0 |>.take 2).map .v) = .agg [.v (.string ((gt v7 v6).1)), .v (.int .i64 ((gt v7 v6).2))])) ∧ (0 ≤ v6 ∧ v6 < (v7.length : Int)) ∧ (0 ≤ (IntKind.wrap .i64 (v6 - 1)) ∧ (IntKind.wrap .i64 (v6 - 1)) < (v7.length : Int)) ∧ True) (by kernel_rfl) ⟨g4, ⟨⟨trivial, (congrArg (fun z : List Value => AV.agg (((z.drop 0).take 2).map .v)) (idx_arr (enc := enc_si) rfl g4))⟩, ⟨g3, ⟨⟨trivial, (congrArg (fun z : List Value => AV.agg (((z.drop 0).take 2).map .v)) (idx_arr (enc := enc_si) rfl g3))⟩, ⟨g3, ⟨g4, trivial⟩⟩⟩⟩⟩⟩ trivial ?_
        refine AX.reg (its := [.auto {}, .auto { raw := true }]) [0, 1, 2, 3, 8, 9] [0] (s1 := ⟨[(0, .sl 0 0 v7.length), (1, .v (.int .i64 p1)), (2, .v (.int .i64 p2)), (3, .fn 142 []), (8, .v (.int .i64 v4)), (9, .v (.int .i64 (IntKind.wrap .i64 (v6 - 1))))], [(0, .arr 2 (((List.map enc_si v7).set (0 + v6.toNat) [(.string ((gt v7 (IntKind.wrap .i64 (v6 - 1))).1)), (.int .i64 ((gt v7 (IntKind.wrap .i64 (v6 - 1))).2))]).set (0 + (IntKind.wrap .i64 (v6 - 1)).toNat) [(.string ((gt v7 v6).1)), (.int .i64 ((gt v7 v6).2))]))]⟩) (C := True) (by kernel_rfl) trivial trivial ?_
        refine ⟨(fu, (IntKind.wrap .i64 (v6 - 1), (v7.set (0 + v6.toNat) ((gt v7 (IntKind.wrap .i64 (v6 - 1))).1, (gt v7 (IntKind.wrap .i64 (v6 - 1))).2)).set (0 + (IntKind.wrap .i64 (v6 - 1)).toNat) ((gt v7 v6).1, (gt v7 v6).2))), h, Nat.lt_succ_self _, ?_⟩
        refine Wk.trans (Wk.forget [0, 1, 2, 3, 8, 9] [0] (s' := ⟨[(0, .sl 0 0 v7.length), (1, .v (.int .i64 p1)), (2, .v (.int .i64 p2)), (3, .fn 142 []), (8, .v (.int .i64 v4)), (9, .v (.int .i64 (IntKind.wrap .i64 (v6 - 1))))], [(0, .arr 2 (((List.map enc_si v7).set (0 + v6.toNat) [(.string ((gt v7 (IntKind.wrap .i64 (v6 - 1))).1)), (.int .i64 ((gt v7 (IntKind.wrap .i64 (v6 - 1))).2))]).set (0 + (IntKind.wrap .i64 (v6 - 1)).toNat) [(.string ((gt v7 v6).1)), (.int .i64 ((gt v7 v6).2))]))]⟩) (by kernel_rfl)) ?_
        refine Wk.trans (Wk.of_eq (congrArg (fun z => (⟨[(0, .sl 0 0 v7.length), (1, .v (.int .i64 p1)), (2, .v (.int .i64 p2)), (3, .fn 142 []), (8, .v (.int .i64 v4)), (9, .v (.int .i64 (IntKind.wrap .i64 (v6 - 1))))], [(0, .arr 2 (z))]⟩ : S)) (set_can (enc := enc_si) (set_can (enc := enc_si) rfl (0 + v6.toNat) ((gt v7 (IntKind.wrap .i64 (v6 - 1))).1, (gt v7 (IntKind.wrap .i64 (v6 - 1))).2)) (0 + (IntKind.wrap .i64 (v6 - 1)).toNat) ((gt v7 v6).1, (gt v7 v6).2)))) ?_
        refine Wk.trans (Wk.of_eq (congrArg (fun z => (⟨[(0, .sl 0 0 z), (1, .v (.int .i64 p1)), (2, .v (.int .i64 p2)), (3, .fn 142 []), (8, .v (.int .i64 v4)), (9, .v (.int .i64 (IntKind.wrap .i64 (v6 - 1))))], [(0, .arr 2 (List.map enc_si ((v7.set (0 + v6.toNat) ((gt v7 (IntKind.wrap .i64 (v6 - 1))).1, (gt v7 (IntKind.wrap .i64 (v6 - 1))).2)).set (0 + (IntKind.wrap .i64 (v6 - 1)).toNat) ((gt v7 v6).1, (gt v7 v6).2))))]⟩ : S)) (set_len ((set_len ((rfl : v7.length = v7.length)) (0 + v6.toNat) ((gt v7 (IntKind.wrap .i64 (v6 - 1))).1, (gt v7 (IntKind.wrap .i64 (v6 - 1))).2) : v7.length = (v7.set (0 + v6.toNat) ((gt v7 (IntKind.wrap .i64 (v6 - 1))).1, (gt v7 (IntKind.wrap .i64 (v6 - 1))).2)).length)) (0 + (IntKind.wrap .i64 (v6 - 1)).toNat) ((gt v7 v6).1, (gt v7 v6).2)))) ?_
        exact Wk.refl _
      · replace h := cd_f b6 h
        refine AX.condF (decide (x8 < 0)) (by kernel_rfl) b6 ?_
        refine AX.exit ?_
        refine fin_wk (Wk.forget [0, 1, 2, 3, 8] [0] (s' := ⟨[(0, .sl 0 0 v7.length), (1, .v (.int .i64 p1)), (2, .v (.int .i64 p2)), (3, .fn 142 []), (8, .v (.int .i64 v4))], [(0, .arr 2 (List.map enc_si v7))]⟩) (by kernel_rfl)) ?_
        have hr := Option.some.inj h
        subst hr
        exact ⟨_, Wk.refl _, ⟨rfl, rfl⟩⟩
    · replace h := cd_f b2 h
      refine AX.drw mixed (its := [.auto {}, .auto {}, .auto { y := some (.v (.bool false)) }]) [0, 1, 2, 3, 8, 9, 34] [0] (s1 := ⟨[(0, .sl 0 0 v7.length), (1, .v (.int .i64 p1)), (2, .v (.int .i64 p2)), (3, .fn 142 []), (8, .v (.int .i64 v4)), (9, .v (.int .i64 v6)), (34, .v (.bool false))], [(0, .arr 2 (List.map enc_si v7))]⟩) (C := ((True) ∧ ((.v (.bool (decide (p1 < v6))) : AV) = (.v (.bool false) : AV))) ∧ True) (by kernel_rfl) ⟨⟨trivial, (congrArg (fun z => AV.v (.bool z)) b2)⟩, trivial⟩ trivial ?_
      refine AX.cond_false (by kernel_rfl) ?_
      refine AX.exit ?_
      refine fin_wk (Wk.forget [0, 1, 2, 3, 8] [0] (s' := ⟨[(0, .sl 0 0 v7.length), (1, .v (.int .i64 p1)), (2, .v (.int .i64 p2)), (3, .fn 142 []), (8, .v (.int .i64 v4))], [(0, .arr 2 (List.map enc_si v7))]⟩) (by kernel_rfl)) ?_
      have hr := Option.some.inj h
      subst hr
      exact ⟨_, Wk.refl _, ⟨rfl, rfl⟩⟩

theorem s_slices_insertionSortCmpFunc_h_Flag_singles_1_si_L1 (p1 : Int) (p2 : Int) (n : Nat) (g : Int × (List (ByteArray × Int))) (out : List (ByteArray × Int)) (h : m_slices_insertionSortCmpFunc_h_Flag_singles_1_si_L1 p1 p2 n g.1 g.2 = some out) :
    AX Tryd.prog 53 1 (codeAt [1, 1] (bodyOf Tryd.f185)) ((fun g : Int × (List (ByteArray × Int)) => (⟨[(0, .sl 0 0 g.2.length), (1, .v (.int .i64 p1)), (2, .v (.int .i64 p2)), (3, .fn 142 []), (8, .v (.int .i64 g.1))], [(0, .arr 2 (List.map enc_si g.2))]⟩ : S)) g) (fun ex s => ex = .exit 0 ∧ s = (fun o : List (ByteArray × Int) => (⟨[], [(0, .arr 2 (List.map enc_si o))]⟩ : S)) out) := by
  refine AX.wkpost ?_
  refine AX.loop (G := Nat × (Int × (List (ByteArray × Int)))) (fun q => (fun g : Int × (List (ByteArray × Int)) => (⟨[(0, .sl 0 0 g.2.length), (1, .v (.int .i64 p1)), (2, .v (.int .i64 p2)), (3, .fn 142 []), (8, .v (.int .i64 g.1))], [(0, .arr 2 (List.map enc_si g.2))]⟩ : S)) q.2) (fun q => m_slices_insertionSortCmpFunc_h_Flag_singles_1_si_L1 p1 p2 q.1 q.2.1 q.2.2 = some out) (fun q => q.1) (n, g) h (Wk.refl _) ?_
  clear h
  rintro ⟨fu, v4, v5⟩ h
  cases fu with
  | zero => cases h
  | succ fu =>
    rw [m_slices_insertionSortCmpFunc_h_Flag_singles_1_si_L1] at h
    refine AX.seq ?_
    refine AX.seq ?_
    refine AX.reg (its := []) [0, 1, 2, 3, 8, 14] [0] (s1 := ⟨[(0, .sl 0 0 v5.length), (1, .v (.int .i64 p1)), (2, .v (.int .i64 p2)), (3, .fn 142 []), (8, .v (.int .i64 v4)), (14, .v (.bool (decide (v4 < p2))))], [(0, .arr 2 (List.map enc_si v5))]⟩) (C := True) (by kernel_rfl) trivial trivial ?_
    rcases bool_cases (decide (v4 < p2)) with b1 | b1
    · replace h := cd_t b1 h
      refine AX.condT (decide (v4 < p2)) (by kernel_rfl) b1 ?_
      refine AX.skip ?_
      refine AX.seq ?_
      refine AX.block ?_
      refine AX.seq ?_
      refine AX.reg (its := []) [0, 1, 2, 3, 8, 9] [0] (s1 := ⟨[(0, .sl 0 0 v5.length), (1, .v (.int .i64 p1)), (2, .v (.int .i64 p2)), (3, .fn 142 []), (8, .v (.int .i64 v4)), (9, .v (.int .i64 v4))], [(0, .arr 2 (List.map enc_si v5))]⟩) (C := True) (by kernel_rfl) trivial trivial ?_
      refine AX.block ?_
      obtain ⟨x9, e7, h⟩ := bd_e h
      refine AX.wk (Wk.forget [0, 1, 2, 3, 8, 9] [0] (s' := ⟨[(0, .sl 0 0 v5.length), (1, .v (.int .i64 p1)), (2, .v (.int .i64 p2)), (3, .fn 142 []), (8, .v (.int .i64 v4)), (9, .v (.int .i64 v4))], [(0, .arr 2 (List.map enc_si v5))]⟩) (by kernel_rfl)) ?_
      refine AX.mono (s_slices_insertionSortCmpFunc_h_Flag_singles_1_si_L2 p1 p2 v4 FU (v4, v5) x9 e7) ?_
      rintro _ _ ⟨rfl, rfl⟩
      skip
      refine AX.reg (its := [.auto {}, .auto { raw := true }]) [0, 1, 2, 3, 8] [0] (s1 := ⟨[(0, .sl 0 0 x9.length), (1, .v (.int .i64 p1)), (2, .v (.int .i64 p2)), (3, .fn 142 []), (8, .v (.int .i64 (IntKind.wrap .i64 (v4 + 1))))], [(0, .arr 2 (List.map enc_si x9))]⟩) (C := True) (by kernel_rfl) trivial trivial ?_
      refine ⟨(fu, (IntKind.wrap .i64 (v4 + 1), x9)), h, Nat.lt_succ_self _, ?_⟩
      refine Wk.trans (Wk.forget [0, 1, 2, 3, 8] [0] (s' := ⟨[(0, .sl 0 0 x9.length), (1, .v (.int .i64 p1)), (2, .v (.int .i64 p2)), (3, .fn 142 []), (8, .v (.int .i64 (IntKind.wrap .i64 (v4 + 1))))], [(0, .arr 2 (List.map enc_si x9))]⟩) (by kernel_rfl)) ?_
      exact Wk.refl _
    · replace h := cd_f b1 h
      refine AX.condF (decide (v4 < p2)) (by kernel_rfl) b1 ?_
      refine AX.exit ?_
      refine fin_wk (Wk.forget [] [0] (s' := ⟨[], [(0, .arr 2 (List.map enc_si v5))]⟩) (by kernel_rfl)) ?_
      have hr := Option.some.inj h
      subst hr
      exact ⟨_, Wk.refl _, ⟨rfl, rfl⟩⟩

theorem s_slices_insertionSortCmpFunc_h_Flag_singles_1_si (p1 : Int) (p2 : Int) (p3 : List (ByteArray × Int)) (r : List (ByteArray × Int)) (h : m_slices_insertionSortCmpFunc_h_Flag_singles_1_si p1 p2 p3 = some r) :
    Eng.Spec Tryd.prog 185 [.sl 0 0 p3.length, .v (.int .i64 p1), .v (.int .i64 p2), .fn 142 []] [.arr 2 (List.map enc_si p3)] (.tup []) [.arr 2 (List.map enc_si r)] := by
  unfold m_slices_insertionSortCmpFunc_h_Flag_singles_1_si at h
  refine Eng.Spec.body Tryd.func185 (by kernel_rfl) rfl (by kernel_rfl) ?_
  refine AX.wkpost ?_
  refine AX.seq ?_
  refine AX.reg (its := [.auto {}, .auto { raw := true }]) [0, 1, 2, 3, 8] [0] (s1 := ⟨[(0, .sl 0 0 p3.length), (1, .v (.int .i64 p1)), (2, .v (.int .i64 p2)), (3, .fn 142 []), (8, .v (.int .i64 (IntKind.wrap .i64 (p1 + 1))))], [(0, .arr 2 (List.map enc_si p3))]⟩) (C := True) (by kernel_rfl) trivial trivial ?_
  refine AX.block ?_
  obtain ⟨x10, e8, h⟩ := bd_e h
  refine AX.wk (Wk.forget [0, 1, 2, 3, 8] [0] (s' := ⟨[(0, .sl 0 0 p3.length), (1, .v (.int .i64 p1)), (2, .v (.int .i64 p2)), (3, .fn 142 []), (8, .v (.int .i64 (IntKind.wrap .i64 (p1 + 1))))], [(0, .arr 2 (List.map enc_si p3))]⟩) (by kernel_rfl)) ?_
  refine AX.mono (s_slices_insertionSortCmpFunc_h_Flag_singles_1_si_L1 p1 p2 FU (IntKind.wrap .i64 (p1 + 1), p3) x10 e8) ?_
  rintro _ _ ⟨rfl, rfl⟩
  skip
  refine fin_wk (Wk.forget [] [0] (s' := ⟨[], [(0, .arr 2 (List.map enc_si x10))]⟩) (by kernel_rfl)) ?_
  have hr := Option.some.inj h
  subst hr
  exact ⟨_, Wk.refl _, .inl rfl, ⟨[], by kernel_rfl, ⟨rfl, trivial⟩, [], by kernel_rfl, by kernel_rfl⟩⟩

theorem s_slices_pdqsortCmpFunc_h_Flag_singles_1_si_L1 (p1 : Int) (p2 : Int) (p3 : Int) (p4 : List (ByteArray × Int)) (n : Nat) (g : Unit) (out : List (ByteArray × Int)) (h : m_slices_pdqsortCmpFunc_h_Flag_singles_1_si_L1 p1 p2 p3 p4 n = some out) :
    AX Tryd.prog 148 1 (codeAt [1, 1, 1] (bodyOf Tryd.f164)) ((fun g : Unit => (⟨[(0, .sl 0 0 p4.length), (1, .v (.int .i64 p1)), (2, .v (.int .i64 p2)), (3, .v (.int .i64 p3)), (4, .fn 142 []), (10, .v (.bool true)), (11, .v (.bool true))], [(0, .arr 2 (List.map enc_si p4))]⟩ : S)) g) (fun ex s => ex = .ret ∧ s = (fun o : List (ByteArray × Int) => (⟨[], [(0, .arr 2 (List.map enc_si o))]⟩ : S)) out) := by
  refine AX.wkpost ?_
  refine AX.loop (G := Nat × (Unit)) (fun q => (fun g : Unit => (⟨[(0, .sl 0 0 p4.length), (1, .v (.int .i64 p1)), (2, .v (.int .i64 p2)), (3, .v (.int .i64 p3)), (4, .fn 142 []), (10, .v (.bool true)), (11, .v (.bool true))], [(0, .arr 2 (List.map enc_si p4))]⟩ : S)) q.2) (fun q => m_slices_pdqsortCmpFunc_h_Flag_singles_1_si_L1 p1 p2 p3 p4 q.1 = some out) (fun q => q.1) (n, g) h (Wk.refl _) ?_
  clear h
  rintro ⟨fu, _⟩ h
  cases fu with
  | zero => cases h
  | succ fu =>
    rw [m_slices_pdqsortCmpFunc_h_Flag_singles_1_si_L1] at h
    refine AX.block ?_
    refine AX.seq ?_
    refine AX.reg (its := [.auto {}, .auto {}, .auto { raw := true }]) [0, 1, 2, 3, 4, 10, 11, 12] [0] (s1 := ⟨[(0, .sl 0 0 p4.length), (1, .v (.int .i64 p1)), (2, .v (.int .i64 p2)), (3, .v (.int .i64 p3)), (4, .fn 142 []), (10, .v (.bool true)), (11, .v (.bool true)), (12, .v (.int .i64 (IntKind.wrap .i64 (p2 - p1))))], [(0, .arr 2 (List.map enc_si p4))]⟩) (C := True) (by kernel_rfl) trivial trivial ?_
    refine AX.seq ?_
    refine AX.seq ?_
    refine AX.reg (its := []) [0, 1, 2, 3, 4, 10, 11, 12, 25] [0] (s1 := ⟨[(0, .sl 0 0 p4.length), (1, .v (.int .i64 p1)), (2, .v (.int .i64 p2)), (3, .v (.int .i64 p3)), (4, .fn 142 []), (10, .v (.bool true)), (11, .v (.bool true)), (12, .v (.int .i64 (IntKind.wrap .i64 (p2 - p1)))), (25, .v (.bool (decide ((IntKind.wrap .i64 (p2 - p1)) ≤ 12))))], [(0, .arr 2 (List.map enc_si p4))]⟩) (C := True) (by kernel_rfl) trivial trivial ?_
    rcases bool_cases (decide ((IntKind.wrap .i64 (p2 - p1)) ≤ 12)) with b1 | b1
    · replace h := cd_t b1 h
      refine AX.condT (decide ((IntKind.wrap .i64 (p2 - p1)) ≤ 12)) (by kernel_rfl) b1 ?_
      refine AX.seq ?_
      obtain ⟨x5, e2, h⟩ := bd_e h
      obtain ⟨g3, h⟩ := gd_e h
      refine AX.reg (its := [.auto {}, .auto {}, .auto {}, .auto {}, .call 185 [.sl 0 0 p4.length, .v (.int .i64 p1), .v (.int .i64 p2), .fn 142 []] (handO (rho ([0] ++ [])) [0] [.arr 2 (List.map enc_si p4)] ++ []) (callEv [0] [] (.tup []) [.arr 2 (List.map enc_si x5)])]) [] [0] (s1 := ⟨[], [(0, .arr 2 (List.map enc_si x5))]⟩) (C := ((([.sl 0 0 p4.length, .v (.int .i64 p1), .v (.int .i64 p2), .fn 142 []] : List AV) = [.sl 0 0 p4.length, .v (.int .i64 p1), .v (.int .i64 p2), .fn 142 []]) ∧ (AO.arr 2 (List.map enc_si p4) = AO.arr 2 (List.map enc_si p4)) ∧ True) ∧ True) (by kernel_rfl) ⟨⟨rfl, rfl, trivial⟩, trivial⟩ ⟨call_ok (ks := [0]) (ns := []) (bor := []) (bobjs := []) (s_slices_insertionSortCmpFunc_h_Flag_singles_1_si p1 p2 p4 x5 e2) (.cons (.c1 (.c0 (.same _ (by kernel_rfl) (by kernel_rfl)))) (.cons (.c1 (.c0 (.same _ (by kernel_rfl) (by kernel_rfl)))) (.cons (.c1 (.c0 (.same _ (by kernel_rfl) (by kernel_rfl)))) (.cons (.fn (.nil)) (.nil))))) (by kernel_rfl) ⟨.inr (arr_sh (enc := enc_si) g3), trivial⟩, trivial⟩ ?_
      refine AX.ret ?_
      refine fin_wk (Wk.forget [] [0] (s' := ⟨[], [(0, .arr 2 (List.map enc_si x5))]⟩) (by kernel_rfl)) ?_
      refine fin_wk (Wk.of_eq (congrArg (fun z => (⟨[], [(0, .arr 2 (List.map enc_si x5))]⟩ : S)) (((rfl : p4.length = p4.length)).trans (g3).symm))) ?_
      have hr := Option.some.inj h
      subst hr
      exact ⟨_, Wk.refl _, ⟨rfl, rfl⟩⟩
    · replace h := cd_f b1 h
      refine AX.condF (decide ((IntKind.wrap .i64 (p2 - p1)) ≤ 12)) (by kernel_rfl) b1 ?_
      refine AX.skip ?_
      refine AX.seq ?_
      refine AX.seq ?_
      refine AX.reg (its := []) [0, 1, 2, 3, 4, 10, 11, 12, 32] [0] (s1 := ⟨[(0, .sl 0 0 p4.length), (1, .v (.int .i64 p1)), (2, .v (.int .i64 p2)), (3, .v (.int .i64 p3)), (4, .fn 142 []), (10, .v (.bool true)), (11, .v (.bool true)), (12, .v (.int .i64 (IntKind.wrap .i64 (p2 - p1)))), (32, .v (.bool (decide (p3 = 0))))], [(0, .arr 2 (List.map enc_si p4))]⟩) (C := True) (by kernel_rfl) trivial trivial ?_
      rcases bool_cases (decide (p3 = 0)) with b4 | b4
      · replace h := cd_t b4 h
        refine AX.condT (decide (p3 = 0)) (by kernel_rfl) b4 ?_
        refine AX.seq ?_
        cases h
      · replace h := cd_f b4 h
        refine AX.condF (decide (p3 = 0)) (by kernel_rfl) b4 ?_
        refine AX.skip ?_
        refine AX.seq ?_
        refine AX.seq ?_
        refine AX.reg (its := []) [0, 1, 2, 3, 4, 10, 11, 12, 39] [0] (s1 := ⟨[(0, .sl 0 0 p4.length), (1, .v (.int .i64 p1)), (2, .v (.int .i64 p2)), (3, .v (.int .i64 p3)), (4, .fn 142 []), (10, .v (.bool true)), (11, .v (.bool true)), (12, .v (.int .i64 (IntKind.wrap .i64 (p2 - p1)))), (39, .v (.bool false))], [(0, .arr 2 (List.map enc_si p4))]⟩) (C := True) (by kernel_rfl) trivial trivial ?_
        refine AX.cond_false (by kernel_rfl) ?_
        refine AX.skip ?_
        refine AX.seq ?_
        cases h

theorem s_slices_pdqsortCmpFunc_h_Flag_singles_1_si (p1 : Int) (p2 : Int) (p3 : Int) (p4 : List (ByteArray × Int)) (r : List (ByteArray × Int)) (h : m_slices_pdqsortCmpFunc_h_Flag_singles_1_si p1 p2 p3 p4 = some r) :
    Eng.Spec Tryd.prog 164 [.sl 0 0 p4.length, .v (.int .i64 p1), .v (.int .i64 p2), .v (.int .i64 p3), .fn 142 []] [.arr 2 (List.map enc_si p4)] (.tup []) [.arr 2 (List.map enc_si r)] := by
  unfold m_slices_pdqsortCmpFunc_h_Flag_singles_1_si at h
  refine Eng.Spec.body Tryd.func164 (by kernel_rfl) rfl (by kernel_rfl) ?_
  refine AX.wkpost ?_
  refine AX.seq ?_
  refine AX.reg (its := []) [0, 1, 2, 3, 4, 10] [0] (s1 := ⟨[(0, .sl 0 0 p4.length), (1, .v (.int .i64 p1)), (2, .v (.int .i64 p2)), (3, .v (.int .i64 p3)), (4, .fn 142 []), (10, .v (.bool true))], [(0, .arr 2 (List.map enc_si p4))]⟩) (C := True) (by kernel_rfl) trivial trivial ?_
  refine AX.seq ?_
  refine AX.reg (its := []) [0, 1, 2, 3, 4, 10, 11] [0] (s1 := ⟨[(0, .sl 0 0 p4.length), (1, .v (.int .i64 p1)), (2, .v (.int .i64 p2)), (3, .v (.int .i64 p3)), (4, .fn 142 []), (10, .v (.bool true)), (11, .v (.bool true))], [(0, .arr 2 (List.map enc_si p4))]⟩) (C := True) (by kernel_rfl) trivial trivial ?_
  refine AX.block ?_
  obtain ⟨x6, e5, h⟩ := bd_e h
  refine AX.wk (Wk.forget [0, 1, 2, 3, 4, 10, 11] [0] (s' := ⟨[(0, .sl 0 0 p4.length), (1, .v (.int .i64 p1)), (2, .v (.int .i64 p2)), (3, .v (.int .i64 p3)), (4, .fn 142 []), (10, .v (.bool true)), (11, .v (.bool true))], [(0, .arr 2 (List.map enc_si p4))]⟩) (by kernel_rfl)) ?_
  refine AX.mono (s_slices_pdqsortCmpFunc_h_Flag_singles_1_si_L1 p1 p2 p3 p4 FU () x6 e5) ?_
  rintro _ _ ⟨rfl, rfl⟩
  skip
  refine fin_wk (Wk.forget [] [0] (s' := ⟨[], [(0, .arr 2 (List.map enc_si x6))]⟩) (by kernel_rfl)) ?_
  have hr := Option.some.inj h
  subst hr
  exact ⟨_, Wk.refl _, .inr rfl, ⟨[], by kernel_rfl, ⟨rfl, trivial⟩, [], by kernel_rfl, by kernel_rfl⟩⟩

theorem s_slices_SortFunc_h_Flag_singles_1_si (p1 : List (ByteArray × Int)) (r : List (ByteArray × Int)) (h : m_slices_SortFunc_h_Flag_singles_1_si p1 = some r) :
    Eng.Spec Tryd.prog 141 [.sl 0 0 p1.length, .fn 142 []] [.arr 2 (List.map enc_si p1)] (.tup []) [.arr 2 (List.map enc_si r)] := by
  unfold m_slices_SortFunc_h_Flag_singles_1_si at h
  refine Eng.Spec.body Tryd.func141 (by kernel_rfl) rfl (by kernel_rfl) ?_
  refine AX.wkpost ?_
  refine AX.seq ?_
  refine AX.reg (its := []) [0, 1, 4] [0] (s1 := ⟨[(0, .sl 0 0 p1.length), (1, .fn 142 []), (4, .v (.int .i64 (p1.length : Int)))], [(0, .arr 2 (List.map enc_si p1))]⟩) (C := True) (by kernel_rfl) trivial trivial ?_
  obtain ⟨x2, e1, h⟩ := bd_e h
  obtain ⟨x3, e2, h⟩ := bd_e h
  obtain ⟨g3, h⟩ := gd_e h
  refine AX.reg (its := [.auto {}, .auto {}, .auto {}, .auto { raw := true }, .call 165 [.v (.int .u64 (IntKind.wrap .u64 ((p1.length : Int))))] (handO (rho ([] ++ [])) [] [] ++ []) (callEv [] [] (.v (.int .i64 x2)) []), .auto {}, .call 164 [.sl 0 0 p1.length, .v (.int .i64 0), .v (.int .i64 (p1.length : Int)), .v (.int .i64 x2), .fn 142 []] (handO (rho ([0] ++ [])) [0] [.arr 2 (List.map enc_si p1)] ++ []) (callEv [0] [] (.tup []) [.arr 2 (List.map enc_si x3)])]) [] [0] (s1 := ⟨[], [(0, .arr 2 (List.map enc_si x3))]⟩) (C := ((([.v (.int .u64 (IntKind.wrap .u64 ((p1.length : Int))))] : List AV) = [.v (.int .u64 (IntKind.wrap .u64 ((p1.length : Int))))]) ∧ True) ∧ ((([.sl 0 0 p1.length, .v (.int .i64 0), .v (.int .i64 (p1.length : Int)), .v (.int .i64 x2), .fn 142 []] : List AV) = [.sl 0 0 p1.length, .v (.int .i64 0), .v (.int .i64 (p1.length : Int)), .v (.int .i64 x2), .fn 142 []]) ∧ (AO.arr 2 (List.map enc_si p1) = AO.arr 2 (List.map enc_si p1)) ∧ True) ∧ True) (by kernel_rfl) ⟨⟨rfl, trivial⟩, ⟨⟨rfl, rfl, trivial⟩, trivial⟩⟩ ⟨call_ok (ks := []) (ns := []) (bor := []) (bobjs := []) (s_math_bits_Len (IntKind.wrap .u64 ((p1.length : Int))) x2 e1) (.cons (.c1 (.c0 (.same _ (by kernel_rfl) (by kernel_rfl)))) (.nil)) (by kernel_rfl) trivial, ⟨call_ok (ks := [0]) (ns := []) (bor := []) (bobjs := []) (s_slices_pdqsortCmpFunc_h_Flag_singles_1_si 0 (p1.length : Int) x2 p1 x3 e2) (.cons (.c1 (.c0 (.same _ (by kernel_rfl) (by kernel_rfl)))) (.cons (.c1 (.c0 (.same _ (by kernel_rfl) (by kernel_rfl)))) (.cons (.c1 (.c0 (.same _ (by kernel_rfl) (by kernel_rfl)))) (.cons (.c1 (.c0 (.same _ (by kernel_rfl) (by kernel_rfl)))) (.cons (.fn (.nil)) (.nil)))))) (by kernel_rfl) ⟨.inr (arr_sh (enc := enc_si) g3), trivial⟩, trivial⟩⟩ ?_
  refine fin_wk (Wk.forget [] [0] (s' := ⟨[], [(0, .arr 2 (List.map enc_si x3))]⟩) (by kernel_rfl)) ?_
  refine fin_wk (Wk.of_eq (congrArg (fun z => (⟨[], [(0, .arr 2 (List.map enc_si x3))]⟩ : S)) (((rfl : p1.length = p1.length)).trans (g3).symm))) ?_
  have hr := Option.some.inj h
  subst hr
  exact ⟨_, Wk.refl _, .inl rfl, ⟨[], by kernel_rfl, ⟨rfl, trivial⟩, [], by kernel_rfl, by kernel_rfl⟩⟩

theorem s_impl_Flag_singles_L1 (p1 : List (ByteArray × Int)) (n : Nat) (g : (List (ByteArray × Int)) × Int) (out : List (ByteArray × Int)) (h : m_impl_Flag_singles_L1 p1 n g.1 g.2 = some out) :
    AX Tryd.prog 31 0 (codeAt [1, 1, 0, 1, 1] (bodyOf Tryd.f107)) ((fun g : (List (ByteArray × Int)) × Int => (⟨[(3, .sl 0 0 g.1.length), (7, .bs false 2 (List.map enc_si p1)), (8, .v (.int .i64 (p1.length : Int))), (9, .v (.int .i64 g.2))], [(0, .arr 2 (List.map enc_si g.1))]⟩ : S)) g) (fun ex s => ex = .exit 0 ∧ s = (fun o : List (ByteArray × Int) => (⟨[(3, .sl 0 0 o.length)], [(0, .arr 2 (List.map enc_si o))]⟩ : S)) out) := by
  refine AX.wkpost ?_
  refine AX.loop (G := Nat × ((List (ByteArray × Int)) × Int)) (fun q => (fun g : (List (ByteArray × Int)) × Int => (⟨[(3, .sl 0 0 g.1.length), (7, .bs false 2 (List.map enc_si p1)), (8, .v (.int .i64 (p1.length : Int))), (9, .v (.int .i64 g.2))], [(0, .arr 2 (List.map enc_si g.1))]⟩ : S)) q.2) (fun q => m_impl_Flag_singles_L1 p1 q.1 q.2.1 q.2.2 = some out) (fun q => q.1) (n, g) h (Wk.refl _) ?_
  clear h
  rintro ⟨fu, v3, v4⟩ h
  cases fu with
  | zero => cases h
  | succ fu =>
    rw [m_impl_Flag_singles_L1] at h
    refine AX.seq ?_
    refine AX.reg (its := []) [3, 7, 8, 9, 10] [0] (s1 := ⟨[(3, .sl 0 0 v3.length), (7, .bs false 2 (List.map enc_si p1)), (8, .v (.int .i64 (p1.length : Int))), (9, .v (.int .i64 v4)), (10, .v (.bool (decide (v4 < (p1.length : Int)))))], [(0, .arr 2 (List.map enc_si v3))]⟩) (C := True) (by kernel_rfl) trivial trivial ?_
    refine AX.seq ?_
    rcases bool_cases (decide (v4 < (p1.length : Int))) with b1 | b1
    · replace h := cd_t b1 h
      refine AX.condT (decide (v4 < (p1.length : Int))) (by kernel_rfl) b1 ?_
      refine AX.skip ?_
      refine AX.seq ?_
      refine AX.block ?_
      refine AX.seq ?_
      obtain ⟨g2, h⟩ := gd_e h
      refine AX.reg (its := [.auto { y := some (.be 2 (enc_si (gt p1 v4)) 0) }, .auto {}, .auto { nk := 1 }]) [3, 5, 7, 8, 9] [0, 1] (s1 := ⟨[(3, .sl 0 0 v3.length), (5, .pt 1 0), (7, .bs false 2 (List.map enc_si p1)), (8, .v (.int .i64 (p1.length : Int))), (9, .v (.int .i64 v4))], [(0, .arr 2 (List.map enc_si v3)), (1, .box [.v (.string ((gt p1 v4).1)), .v (.int .i64 ((gt p1 v4).2))])]⟩) (C := ((0 ≤ v4 ∧ v4 < ((List.map enc_si p1).length : Int)) ∧ (AV.be 2 ((List.map enc_si p1).getD v4.toNat []) 0 = AV.be 2 (enc_si (gt p1 v4)) 0)) ∧ True) (by kernel_rfl) ⟨idx_bs enc_si p1 v4 2 g2, trivial⟩ trivial ?_
      refine AX.seq ?_
      obtain ⟨x5, e3, h⟩ := bd_e h
      rcases bool_cases (x5) with b4 | b4
      · replace h := cd_t b4 h
        obtain ⟨x6, e5, h⟩ := bd_e h
        refine AX.reg (its := [.auto {}, .auto {}, .call 140 [.v (.int .i64 ((gt p1 v4).2))] (handO (rho ([] ++ [])) [] [] ++ []) (callEv [] [] (.v (.bool true)) []), .auto {}, .auto {}, .auto {}, .auto {}, .call 68 [.sl 0 0 v3.length, .v (.int .i64 ((gt p1 v4).2))] (handO (rho ([] ++ [])) [] [] ++ [(0, .arr 2 (List.map enc_si v3))]) (callEv [] [] (.v (.int .i64 x6)) [])]) [3, 5, 7, 8, 9, 22] [0, 1] (s1 := ⟨[(3, .sl 0 0 v3.length), (5, .pt 1 0), (7, .bs false 2 (List.map enc_si p1)), (8, .v (.int .i64 (p1.length : Int))), (9, .v (.int .i64 v4)), (22, .v (.bool (decide (x6 < 0))))], [(0, .arr 2 (List.map enc_si v3)), (1, .box [.v (.string ((gt p1 v4).1)), .v (.int .i64 ((gt p1 v4).2))])]⟩) (C := ((([.v (.int .i64 ((gt p1 v4).2))] : List AV) = [.v (.int .i64 ((gt p1 v4).2))]) ∧ True) ∧ ((([.sl 0 0 v3.length, .v (.int .i64 ((gt p1 v4).2))] : List AV) = [.sl 0 0 v3.length, .v (.int .i64 ((gt p1 v4).2))]) ∧ (AO.arr 2 (List.map enc_si v3) = AO.arr 2 (List.map enc_si v3)) ∧ True) ∧ True) (by kernel_rfl) ⟨⟨rfl, trivial⟩, ⟨⟨rfl, rfl, trivial⟩, trivial⟩⟩ ⟨call_ok (ks := []) (ns := []) (bor := []) (bobjs := []) (show Eng.Spec Tryd.prog 140 [.v (.int .i64 ((gt p1 v4).2))] [] (.v (.bool true)) [] from by have q := s_impl_single ((gt p1 v4).2) x5 e3; rw [b4] at q; exact q) (.cons (.c1 (.c0 (.same _ (by kernel_rfl) (by kernel_rfl)))) (.nil)) (by kernel_rfl) trivial, ⟨call_ok (ks := []) (ns := []) (bor := [0]) (bobjs := [(0, .arr 2 (List.map enc_si v3))]) (s_impl_valued v3 ((gt p1 v4).2) x6 e5) (.cons (.c1 (.c0 (.arr rfl rfl ((rfl).trans (List.length_map ..).symm)))) (.cons (.c1 (.c0 (.same _ (by kernel_rfl) (by kernel_rfl)))) (.nil))) (by kernel_rfl) trivial, trivial⟩⟩ ?_
        rcases bool_cases (decide (x6 < 0)) with b6 | b6
        · replace h := cd_t b6 h
          refine AX.condT (decide (x6 < 0)) (by kernel_rfl) b6 ?_
          obtain ⟨g7, h⟩ := gd_e h
          refine AX.reg (its := [.auto {}, .auto {}, .auto { nk := 2 }, .auto { y := some (.sl 3 0 ((v3 ++ ([((gt p1 v4).1, (gt p1 v4).2)] : List (ByteArray × Int))).length)), els := some (List.map enc_si v3), els2 := some (List.map enc_si ([((gt p1 v4).1, (gt p1 v4).2)] : List (ByteArray × Int))), nk := 3 }]) [3, 7, 8, 9] [3] (s1 := ⟨[(3, .sl 3 0 ((v3 ++ ([((gt p1 v4).1, (gt p1 v4).2)] : List (ByteArray × Int))).length)), (7, .bs false 2 (List.map enc_si p1)), (8, .v (.int .i64 (p1.length : Int))), (9, .v (.int .i64 v4))], [(3, .arr 2 (List.map enc_si v3 ++ List.map enc_si ([((gt p1 v4).1, (gt p1 v4).2)] : List (ByteArray × Int))))]⟩) (C := ((((((List.map enc_si v3).drop 0).take (v3.length) = List.map enc_si v3) ∧ (((List.map enc_si ([((gt p1 v4).1, (gt p1 v4).2)] : List (ByteArray × Int))).drop 0).take (([((gt p1 v4).1, (gt p1 v4).2)] : List (ByteArray × Int)).length) = List.map enc_si ([((gt p1 v4).1, (gt p1 v4).2)] : List (ByteArray × Int)))) ∧ (List.map enc_si v3).length + (List.map enc_si ([((gt p1 v4).1, (gt p1 v4).2)] : List (ByteArray × Int))).length ≤ 1099511627776) ∧ (AV.sl 3 0 (List.map enc_si v3 ++ List.map enc_si ([((gt p1 v4).1, (gt p1 v4).2)] : List (ByteArray × Int))).length = AV.sl 3 0 (v3 ++ ([((gt p1 v4).1, (gt p1 v4).2)] : List (ByteArray × Int))).length)) ∧ True) (by kernel_rfl) ⟨⟨⟨⟨(dt_all (enc := enc_si) rfl rfl), (dt_all (enc := enc_si) rfl rfl)⟩, (by simp only [List.length_map, List.length_nil, List.length_replicate]; simpa using g7)⟩, sl_len (enc := enc_si) (app_can (enc := enc_si) rfl (rfl))⟩, trivial⟩ trivial ?_
          refine AX.reg (its := [.auto { raw := true }]) [3, 7, 8, 9] [3] (s1 := ⟨[(3, .sl 3 0 ((v3 ++ ([((gt p1 v4).1, (gt p1 v4).2)] : List (ByteArray × Int))).length)), (7, .bs false 2 (List.map enc_si p1)), (8, .v (.int .i64 (p1.length : Int))), (9, .v (.int .i64 (IntKind.wrap .i64 (v4 + 1))))], [(3, .arr 2 (List.map enc_si v3 ++ List.map enc_si ([((gt p1 v4).1, (gt p1 v4).2)] : List (ByteArray × Int))))]⟩) (C := True) (by kernel_rfl) trivial trivial ?_
          refine ⟨(fu, (v3 ++ ([((gt p1 v4).1, (gt p1 v4).2)] : List (ByteArray × Int)), IntKind.wrap .i64 (v4 + 1))), h, Nat.lt_succ_self _, ?_⟩
          refine Wk.trans (Wk.swap 0 3 (Nat.le_of_ble_eq_true (by kernel_rfl)) (Nat.le_of_ble_eq_true (by kernel_rfl)) rfl) ?_
          refine Wk.trans (Wk.forget [3, 7, 8, 9] [0] (s' := ⟨[(3, .sl 0 0 ((v3 ++ ([((gt p1 v4).1, (gt p1 v4).2)] : List (ByteArray × Int))).length)), (7, .bs false 2 (List.map enc_si p1)), (8, .v (.int .i64 (p1.length : Int))), (9, .v (.int .i64 (IntKind.wrap .i64 (v4 + 1))))], [(0, .arr 2 (List.map enc_si v3 ++ List.map enc_si ([((gt p1 v4).1, (gt p1 v4).2)] : List (ByteArray × Int))))]⟩) (by kernel_rfl)) ?_
          refine Wk.trans (Wk.of_eq (congrArg (fun z => (⟨[(3, .sl 0 0 ((v3 ++ ([((gt p1 v4).1, (gt p1 v4).2)] : List (ByteArray × Int))).length)), (7, .bs false 2 (List.map enc_si p1)), (8, .v (.int .i64 (p1.length : Int))), (9, .v (.int .i64 (IntKind.wrap .i64 (v4 + 1))))], [(0, .arr 2 (z))]⟩ : S)) (app_can (enc := enc_si) rfl (rfl) : List.map enc_si v3 ++ List.map enc_si ([((gt p1 v4).1, (gt p1 v4).2)] : List (ByteArray × Int)) = List.map enc_si (v3 ++ ([((gt p1 v4).1, (gt p1 v4).2)] : List (ByteArray × Int)))))) ?_
          exact Wk.refl _
        · replace h := cd_f b6 h
          refine AX.condF (decide (x6 < 0)) (by kernel_rfl) b6 ?_
          refine AX.skip ?_
          refine AX.reg (its := [.auto { raw := true }]) [3, 7, 8, 9] [0] (s1 := ⟨[(3, .sl 0 0 v3.length), (7, .bs false 2 (List.map enc_si p1)), (8, .v (.int .i64 (p1.length : Int))), (9, .v (.int .i64 (IntKind.wrap .i64 (v4 + 1))))], [(0, .arr 2 (List.map enc_si v3))]⟩) (C := True) (by kernel_rfl) trivial trivial ?_
          refine ⟨(fu, (v3, IntKind.wrap .i64 (v4 + 1))), h, Nat.lt_succ_self _, ?_⟩
          refine Wk.trans (Wk.forget [3, 7, 8, 9] [0] (s' := ⟨[(3, .sl 0 0 v3.length), (7, .bs false 2 (List.map enc_si p1)), (8, .v (.int .i64 (p1.length : Int))), (9, .v (.int .i64 (IntKind.wrap .i64 (v4 + 1))))], [(0, .arr 2 (List.map enc_si v3))]⟩) (by kernel_rfl)) ?_
          exact Wk.refl _
      · replace h := cd_f b4 h
        refine AX.reg (its := [.auto {}, .auto {}, .call 140 [.v (.int .i64 ((gt p1 v4).2))] (handO (rho ([] ++ [])) [] [] ++ []) (callEv [] [] (.v (.bool false)) [])]) [3, 5, 7, 8, 9, 22] [0, 1] (s1 := ⟨[(3, .sl 0 0 v3.length), (5, .pt 1 0), (7, .bs false 2 (List.map enc_si p1)), (8, .v (.int .i64 (p1.length : Int))), (9, .v (.int .i64 v4)), (22, .v (.bool false))], [(0, .arr 2 (List.map enc_si v3)), (1, .box [.v (.string ((gt p1 v4).1)), .v (.int .i64 ((gt p1 v4).2))])]⟩) (C := ((([.v (.int .i64 ((gt p1 v4).2))] : List AV) = [.v (.int .i64 ((gt p1 v4).2))]) ∧ True) ∧ True) (by kernel_rfl) ⟨⟨rfl, trivial⟩, trivial⟩ ⟨call_ok (ks := []) (ns := []) (bor := []) (bobjs := []) (show Eng.Spec Tryd.prog 140 [.v (.int .i64 ((gt p1 v4).2))] [] (.v (.bool false)) [] from by have q := s_impl_single ((gt p1 v4).2) x5 e3; rw [b4] at q; exact q) (.cons (.c1 (.c0 (.same _ (by kernel_rfl) (by kernel_rfl)))) (.nil)) (by kernel_rfl) trivial, trivial⟩ ?_
        refine AX.cond_false (by kernel_rfl) ?_
        refine AX.skip ?_
        refine AX.reg (its := [.auto { raw := true }]) [3, 7, 8, 9] [0] (s1 := ⟨[(3, .sl 0 0 v3.length), (7, .bs false 2 (List.map enc_si p1)), (8, .v (.int .i64 (p1.length : Int))), (9, .v (.int .i64 (IntKind.wrap .i64 (v4 + 1))))], [(0, .arr 2 (List.map enc_si v3))]⟩) (C := True) (by kernel_rfl) trivial trivial ?_
        refine ⟨(fu, (v3, IntKind.wrap .i64 (v4 + 1))), h, Nat.lt_succ_self _, ?_⟩
        refine Wk.trans (Wk.forget [3, 7, 8, 9] [0] (s' := ⟨[(3, .sl 0 0 v3.length), (7, .bs false 2 (List.map enc_si p1)), (8, .v (.int .i64 (p1.length : Int))), (9, .v (.int .i64 (IntKind.wrap .i64 (v4 + 1))))], [(0, .arr 2 (List.map enc_si v3))]⟩) (by kernel_rfl)) ?_
        exact Wk.refl _
    · replace h := cd_f b1 h
      refine AX.condF (decide (v4 < (p1.length : Int))) (by kernel_rfl) b1 ?_
      refine AX.exit ?_
      refine fin_wk (Wk.forget [3] [0] (s' := ⟨[(3, .sl 0 0 v3.length)], [(0, .arr 2 (List.map enc_si v3))]⟩) (by kernel_rfl)) ?_
      have hr := Option.some.inj h
      subst hr
      exact ⟨_, Wk.refl _, ⟨rfl, rfl⟩⟩

theorem s_impl_Flag_singles (p1 : List (ByteArray × Int)) (p2 : Int) (r : List (ByteArray × Int)) (h : m_impl_Flag_singles p1 p2 = some r) :
    Eng.Spec Tryd.prog 107 [.agg [.bs false 2 (List.map enc_si p1), .v (.int .i64 p2)]] [] (.sl 0 0 r.length) [.arr 2 (List.map enc_si r)] := by
  unfold m_impl_Flag_singles at h
  refine Eng.Spec.body Tryd.func107 (by kernel_rfl) rfl (by kernel_rfl) ?_
  refine AX.wkpost ?_
  refine AX.seq ?_
  refine AX.reg (its := [.auto { nk := 0 }]) [1] [0] (s1 := ⟨[(1, .pt 0 0)], [(0, .box [.bs false 2 (List.map enc_si p1), .v (.int .i64 p2)])]⟩) (C := True) (by kernel_rfl) trivial trivial ?_
  refine AX.seq ?_
  refine AX.reg (its := []) [1, 3] [0] (s1 := ⟨[(1, .pt 0 0), (3, .v (.slice none 0 0))], [(0, .box [.bs false 2 (List.map enc_si p1), .v (.int .i64 p2)])]⟩) (C := True) (by kernel_rfl) trivial trivial ?_
  refine AX.seq ?_
  refine AX.seq ?_
  refine AX.reg (its := [.auto {}, .auto {}, .auto { y := some (.v (.int .i64 (p1.length : Int))) }]) [3, 7, 8, 9] [] (s1 := ⟨[(3, .v (.slice none 0 0)), (7, .bs false 2 (List.map enc_si p1)), (8, .v (.int .i64 (p1.length : Int))), (9, .v (.int .i64 0))], []⟩) (C := (True ∧ (AV.v (.int .i64 ((List.map enc_si p1).length : Int)) = AV.v (.int .i64 (p1.length : Int)))) ∧ True) (by kernel_rfl) ⟨⟨trivial, len_map enc_si p1⟩, trivial⟩ trivial ?_
  refine AX.block ?_
  obtain ⟨x7, e8, h⟩ := bd_e h
  refine AX.wk (Wk.mat 3 0 2 (by kernel_rfl) (Nat.le_of_ble_eq_true (by kernel_rfl)) (by kernel_rfl) rfl) ?_
  refine AX.wk (Wk.forget [3, 7, 8, 9] [0] (s' := ⟨[(3, .sl 0 0 (([] : List (ByteArray × Int)).length)), (7, .bs false 2 (List.map enc_si p1)), (8, .v (.int .i64 (p1.length : Int))), (9, .v (.int .i64 0))], [(0, .arr 2 (List.map enc_si ([] : List (ByteArray × Int))))]⟩) (by kernel_rfl)) ?_
  refine AX.mono (s_impl_Flag_singles_L1 p1 FU (([] : List (ByteArray × Int)), 0) x7 e8) ?_
  rintro _ _ ⟨rfl, rfl⟩
  skip
  refine AX.seq ?_
  obtain ⟨x8, e9, h⟩ := bd_e h
  obtain ⟨g10, h⟩ := gd_e h
  refine AX.reg (its := [.auto {}, .call 141 [.sl 0 0 x7.length, .fn 142 []] (handO (rho ([0] ++ [])) [0] [.arr 2 (List.map enc_si x7)] ++ []) (callEv [0] [] (.tup []) [.arr 2 (List.map enc_si x8)])]) [3] [0] (s1 := ⟨[(3, .sl 0 0 x7.length)], [(0, .arr 2 (List.map enc_si x8))]⟩) (C := ((([.sl 0 0 x7.length, .fn 142 []] : List AV) = [.sl 0 0 x7.length, .fn 142 []]) ∧ (AO.arr 2 (List.map enc_si x7) = AO.arr 2 (List.map enc_si x7)) ∧ True) ∧ True) (by kernel_rfl) ⟨⟨rfl, rfl, trivial⟩, trivial⟩ ⟨call_ok (ks := [0]) (ns := []) (bor := []) (bobjs := []) (s_slices_SortFunc_h_Flag_singles_1_si x7 x8 e9) (.cons (.c1 (.c0 (.same _ (by kernel_rfl) (by kernel_rfl)))) (.cons (.fn (.nil)) (.nil))) (by kernel_rfl) ⟨.inr (arr_sh (enc := enc_si) g10), trivial⟩, trivial⟩ ?_
  refine AX.seq ?_
  refine AX.reg (its := []) [2] [0] (s1 := ⟨[(2, .sl 0 0 x7.length)], [(0, .arr 2 (List.map enc_si x8))]⟩) (C := True) (by kernel_rfl) trivial trivial ?_
  refine AX.ret ?_
  refine fin_wk (Wk.forget [2] [0] (s' := ⟨[(2, .sl 0 0 x7.length)], [(0, .arr 2 (List.map enc_si x8))]⟩) (by kernel_rfl)) ?_
  refine fin_wk (Wk.of_eq (congrArg (fun z => (⟨[(2, .sl 0 0 z)], [(0, .arr 2 (List.map enc_si x8))]⟩ : S)) (((rfl : x7.length = x7.length)).trans (g10).symm))) ?_
  have hr := Option.some.inj h
  subst hr
  exact ⟨_, Wk.refl _, .inr rfl, ⟨[0], by kernel_rfl, ⟨rfl, trivial⟩, [.sl 0 0 x8.length], by kernel_rfl, by kernel_rfl⟩⟩

theorem s_impl_Flag_namesIn_1_l (p1 : ByteArray) (p2 : Int) (p3 : Int) (r : Unit) (h : m_impl_Flag_namesIn_1_l p1 p2 p3 = some r) :
    Eng.Spec Tryd.prog 111 [.agg [.v (.string p1), .v (.int .i64 p2)], .bp [.v (.int .i64 p3)] 0] [] (.v (.bool (!decide ((Go.bits .and .i64 p3 p2) = 0)))) [] := by
  unfold m_impl_Flag_namesIn_1_l at h
  refine Eng.Spec.body Tryd.func111 (by kernel_rfl) rfl (by kernel_rfl) ?_
  refine AX.wkpost ?_
  refine AX.seq ?_
  refine AX.reg (its := [.auto { nk := 0 }]) [1, 2] [0] (s1 := ⟨[(1, .bp [.v (.int .i64 p3)] 0), (2, .pt 0 0)], [(0, .box [.v (.string p1), .v (.int .i64 p2)])]⟩) (C := True) (by kernel_rfl) trivial trivial ?_
  refine AX.seq ?_
  refine AX.reg (its := []) [3] [] (s1 := ⟨[(3, .v (.bool (!decide ((Go.bits .and .i64 p3 p2) = 0))))], []⟩) (C := True) (by kernel_rfl) trivial trivial ?_
  refine AX.ret ?_
  refine fin_wk (Wk.forget [3] [] (s' := ⟨[(3, .v (.bool (!decide ((Go.bits .and .i64 p3 p2) = 0))))], []⟩) (by kernel_rfl)) ?_
  have hr := Option.some.inj h
  subst hr
  exact ⟨_, Wk.refl _, .inr rfl, ⟨[], by kernel_rfl, trivial, [.v (.bool (!decide ((Go.bits .and .i64 p3 p2) = 0)))], by kernel_rfl, by kernel_rfl⟩⟩

theorem s_slices_Clip_s (p1 : List (ByteArray)) (r : Unit) (h : m_slices_Clip_s p1 = some r) :
    Eng.Spec Tryd.prog 123 [.bs false 1 (List.map enc_s p1)] [] (.bs false 1 (List.map enc_s (sub p1 (0 : Int) (p1.length : Int)))) [] := by
  unfold m_slices_Clip_s at h
  refine Eng.Spec.body Tryd.func123 (by kernel_rfl) rfl (by kernel_rfl) ?_
  refine AX.wkpost ?_
  refine AX.seq ?_
  refine AX.reg (its := []) [0] [] (s1 := ⟨[(0, .bs false 1 (List.map enc_s p1))], []⟩) (C := True) (by kernel_rfl) trivial trivial ?_
  refine AX.seq ?_
  obtain ⟨g1, h⟩ := gd_e h
  refine AX.reg (its := [.auto {}, .auto {}, .auto { y := some (.v (.int .i64 (p1.length : Int))) }, .auto {}, .auto { y := some (.v (.int .i64 (p1.length : Int))) }, .auto { y := some (.bs false 1 (List.map enc_s (sub p1 (0 : Int) (p1.length : Int)))) }]) [2] [] (s1 := ⟨[(2, .bs false 1 (List.map enc_s (sub p1 (0 : Int) (p1.length : Int))))], []⟩) (C := (True ∧ (AV.v (.int .i64 ((List.map enc_s p1).length : Int)) = AV.v (.int .i64 (p1.length : Int)))) ∧ (True ∧ (AV.v (.int .i64 ((List.map enc_s p1).length : Int)) = AV.v (.int .i64 (p1.length : Int)))) ∧ ((0 ≤ (0 : Int) ∧ (0 : Int) ≤ (p1.length : Int) ∧ (p1.length : Int) ≤ (p1.length : Int) ∧ (p1.length : Int) ≤ ((List.map enc_s p1).length : Int)) ∧ (AV.bs false 1 (((List.map enc_s p1).drop (0 : Int).toNat).take ((p1.length : Int).toNat - (0 : Int).toNat)) = (.bs false 1 (List.map enc_s (sub p1 (0 : Int) (p1.length : Int))) : AV))) ∧ True) (by kernel_rfl) ⟨⟨trivial, len_map enc_s p1⟩, ⟨⟨trivial, len_map enc_s p1⟩, ⟨⟨by first | exact g1 | simpa only [List.length_map] using g1, by first | exact sub_can enc_s p1 (0 : Int) (p1.length : Int) false 1 | (simp only [List.length_map]; exact sub_can enc_s p1 (0 : Int) (p1.length : Int) false 1)⟩, trivial⟩⟩⟩ trivial ?_
  refine AX.ret ?_
  refine fin_wk (Wk.forget [2] [] (s' := ⟨[(2, .bs false 1 (List.map enc_s (sub p1 (0 : Int) (p1.length : Int))))], []⟩) (by kernel_rfl)) ?_
  have hr := Option.some.inj h
  subst hr
  exact ⟨_, Wk.refl _, .inr rfl, ⟨[], by kernel_rfl, trivial, [.bs false 1 (List.map enc_s (sub p1 (0 : Int) (p1.length : Int)))], by kernel_rfl, by kernel_rfl⟩⟩

theorem s_slices_Clip_hs (p1 : List (ByteArray)) (r : Unit) (h : m_slices_Clip_hs p1 = some r) :
    Eng.Spec Tryd.prog 123 [.sl 0 0 p1.length] [.arr 1 (List.map enc_s p1)] (.sl 0 0 p1.length) [.arr 1 (List.map enc_s p1)] := by
  unfold m_slices_Clip_hs at h
  refine Eng.Spec.body Tryd.func123 (by kernel_rfl) rfl (by kernel_rfl) ?_
  refine AX.wkpost ?_
  refine AX.seq ?_
  refine AX.reg (its := []) [0] [0] (s1 := ⟨[(0, .sl 0 0 p1.length)], [(0, .arr 1 (List.map enc_s p1))]⟩) (C := True) (by kernel_rfl) trivial trivial ?_
  refine AX.seq ?_
  refine AX.reg (its := [.auto {}, .auto {}, .auto {}, .auto {}, .auto {}, .auto { y := some (.sl 0 0 p1.length) }]) [2] [0] (s1 := ⟨[(2, .sl 0 0 p1.length)], [(0, .arr 1 (List.map enc_s p1))]⟩) (C := ((0 ≤ (0 : Int) ∧ (0 : Int) ≤ (p1.length : Int) ∧ (p1.length : Int) ≤ (p1.length : Int) ∧ (p1.length : Int) ≤ (p1.length : Int)) ∧ (AV.sl 0 (0 + (0 : Int).toNat) ((p1.length : Int).toNat - (0 : Int).toNat) = AV.sl 0 0 p1.length)) ∧ True) (by kernel_rfl) ⟨⟨⟨by omega, by omega, by omega, by omega⟩, rfl⟩, trivial⟩ trivial ?_
  refine AX.ret ?_
  refine fin_wk (Wk.forget [2] [0] (s' := ⟨[(2, .sl 0 0 p1.length)], [(0, .arr 1 (List.map enc_s p1))]⟩) (by kernel_rfl)) ?_
  have hr := Option.some.inj h
  subst hr
  exact ⟨_, Wk.refl _, .inr rfl, ⟨[], by kernel_rfl, ⟨rfl, trivial⟩, [.sl 0 0 p1.length], by kernel_rfl, by kernel_rfl⟩⟩

theorem s_impl_names_Flag_namesIn_1_l_L1 (p1 : List (ByteArray × Int)) (p2 : Int) (n : Nat) (g : List (ByteArray) × Int) (out : List (ByteArray)) (h : m_impl_names_Flag_namesIn_1_l_L1 p1 p2 n g.1 g.2 = some out) :
    AX Tryd.prog 25 0 (codeAt [1, 1, 0, 1, 1] (bodyOf Tryd.f75)) ((fun g : List (ByteArray) × Int => (⟨[(1, .fn 111 [.bp [.v (.int .i64 p2)] 0]), (5, .sl 0 0 g.1.length), (8, .bs false 2 (List.map enc_si p1)), (9, .v (.int .i64 (p1.length : Int))), (10, .v (.int .i64 g.2))], [(0, .arr 1 (List.map enc_s g.1))]⟩ : S)) g) (fun ex s => ex = .exit 0 ∧ s = (fun o : List (ByteArray) => (⟨[(5, .sl 0 0 o.length)], [(0, .arr 1 (List.map enc_s o))]⟩ : S)) out) := by
  refine AX.wkpost ?_
  refine AX.loop (G := Nat × (List (ByteArray) × Int)) (fun q => (fun g : List (ByteArray) × Int => (⟨[(1, .fn 111 [.bp [.v (.int .i64 p2)] 0]), (5, .sl 0 0 g.1.length), (8, .bs false 2 (List.map enc_si p1)), (9, .v (.int .i64 (p1.length : Int))), (10, .v (.int .i64 g.2))], [(0, .arr 1 (List.map enc_s g.1))]⟩ : S)) q.2) (fun q => m_impl_names_Flag_namesIn_1_l_L1 p1 p2 q.1 q.2.1 q.2.2 = some out) (fun q => q.1) (n, g) h (Wk.refl _) ?_
  clear h
  rintro ⟨fu, v3, v4⟩ h
  cases fu with
  | zero => cases h
  | succ fu =>
    rw [m_impl_names_Flag_namesIn_1_l_L1] at h
    refine AX.seq ?_
    refine AX.reg (its := []) [1, 5, 8, 9, 10, 11] [0] (s1 := ⟨[(1, .fn 111 [.bp [.v (.int .i64 p2)] 0]), (5, .sl 0 0 v3.length), (8, .bs false 2 (List.map enc_si p1)), (9, .v (.int .i64 (p1.length : Int))), (10, .v (.int .i64 v4)), (11, .v (.bool (decide (v4 < (p1.length : Int)))))], [(0, .arr 1 (List.map enc_s v3))]⟩) (C := True) (by kernel_rfl) trivial trivial ?_
    refine AX.seq ?_
    rcases bool_cases (decide (v4 < (p1.length : Int))) with b1 | b1
    · replace h := cd_t b1 h
      refine AX.condT (decide (v4 < (p1.length : Int))) (by kernel_rfl) b1 ?_
      refine AX.skip ?_
      refine AX.seq ?_
      refine AX.block ?_
      refine AX.seq ?_
      obtain ⟨g2, h⟩ := gd_e h
      refine AX.reg (its := [.auto { y := some (.be 2 (enc_si (gt p1 v4)) 0) }, .auto {}, .auto { nk := 1 }]) [1, 5, 7, 8, 9, 10] [0, 1] (s1 := ⟨[(1, .fn 111 [.bp [.v (.int .i64 p2)] 0]), (5, .sl 0 0 v3.length), (7, .pt 1 0), (8, .bs false 2 (List.map enc_si p1)), (9, .v (.int .i64 (p1.length : Int))), (10, .v (.int .i64 v4))], [(0, .arr 1 (List.map enc_s v3)), (1, .box [.v (.string ((gt p1 v4).1)), .v (.int .i64 ((gt p1 v4).2))])]⟩) (C := ((0 ≤ v4 ∧ v4 < ((List.map enc_si p1).length : Int)) ∧ (AV.be 2 ((List.map enc_si p1).getD v4.toNat []) 0 = AV.be 2 (enc_si (gt p1 v4)) 0)) ∧ True) (by kernel_rfl) ⟨idx_bs enc_si p1 v4 2 g2, trivial⟩ trivial ?_
      refine AX.seq ?_
      obtain ⟨x5, e3, h⟩ := bd_e h
      refine AX.reg (its := [.auto {}, .auto {}, .call 111 [.agg [.v (.string ((gt p1 v4).1)), .v (.int .i64 ((gt p1 v4).2))], .bp [.v (.int .i64 p2)] 0] (handO (rho ([] ++ [])) [] [] ++ []) (callEv [] [] (.v (.bool (!decide ((Go.bits .and .i64 p2 ((gt p1 v4).2)) = 0)))) [])]) [1, 5, 7, 8, 9, 10, 16] [0, 1] (s1 := ⟨[(1, .fn 111 [.bp [.v (.int .i64 p2)] 0]), (5, .sl 0 0 v3.length), (7, .pt 1 0), (8, .bs false 2 (List.map enc_si p1)), (9, .v (.int .i64 (p1.length : Int))), (10, .v (.int .i64 v4)), (16, .v (.bool (!decide ((Go.bits .and .i64 p2 ((gt p1 v4).2)) = 0))))], [(0, .arr 1 (List.map enc_s v3)), (1, .box [.v (.string ((gt p1 v4).1)), .v (.int .i64 ((gt p1 v4).2))])]⟩) (C := ((([.agg [.v (.string ((gt p1 v4).1)), .v (.int .i64 ((gt p1 v4).2))], .bp [.v (.int .i64 p2)] 0] : List AV) = [.agg [.v (.string ((gt p1 v4).1)), .v (.int .i64 ((gt p1 v4).2))], .bp [.v (.int .i64 p2)] 0]) ∧ True) ∧ True) (by kernel_rfl) ⟨⟨rfl, trivial⟩, trivial⟩ ⟨call_ok (ks := []) (ns := []) (bor := []) (bobjs := []) (s_impl_Flag_namesIn_1_l ((gt p1 v4).1) ((gt p1 v4).2) p2 x5 e3) (.cons (.c1 (.agg (.cons (.same _ (by kernel_rfl) (by kernel_rfl)) (.cons (.same _ (by kernel_rfl) (by kernel_rfl)) (.nil))))) (.cons (.c1 (.bp (.cons (.same _ (by kernel_rfl) (by kernel_rfl)) (.nil)))) (.nil))) (by kernel_rfl) trivial, trivial⟩ ?_
      rcases bool_cases ((!decide ((Go.bits .and .i64 p2 ((gt p1 v4).2)) = 0))) with b4 | b4
      · replace h := cd_t b4 h
        refine AX.condT ((!decide ((Go.bits .and .i64 p2 ((gt p1 v4).2)) = 0))) (by kernel_rfl) b4 ?_
        obtain ⟨g5, h⟩ := gd_e h
        refine AX.reg (its := [.auto {}, .auto {}, .auto {}, .auto { nk := 2 }, .auto { y := some (.sl 3 0 ((v3 ++ ([(gt p1 v4).1] : List (ByteArray))).length)), els := some (List.map enc_s v3), els2 := some (List.map enc_s ([(gt p1 v4).1] : List (ByteArray))), nk := 3 }]) [1, 5, 8, 9, 10] [3] (s1 := ⟨[(1, .fn 111 [.bp [.v (.int .i64 p2)] 0]), (5, .sl 3 0 ((v3 ++ ([(gt p1 v4).1] : List (ByteArray))).length)), (8, .bs false 2 (List.map enc_si p1)), (9, .v (.int .i64 (p1.length : Int))), (10, .v (.int .i64 v4))], [(3, .arr 1 (List.map enc_s v3 ++ List.map enc_s ([(gt p1 v4).1] : List (ByteArray))))]⟩) (C := ((((((List.map enc_s v3).drop 0).take (v3.length) = List.map enc_s v3) ∧ (((List.map enc_s ([(gt p1 v4).1] : List (ByteArray))).drop 0).take (([(gt p1 v4).1] : List (ByteArray)).length) = List.map enc_s ([(gt p1 v4).1] : List (ByteArray)))) ∧ (List.map enc_s v3).length + (List.map enc_s ([(gt p1 v4).1] : List (ByteArray))).length ≤ 1099511627776) ∧ (AV.sl 3 0 (List.map enc_s v3 ++ List.map enc_s ([(gt p1 v4).1] : List (ByteArray))).length = AV.sl 3 0 (v3 ++ ([(gt p1 v4).1] : List (ByteArray))).length)) ∧ True) (by kernel_rfl) ⟨⟨⟨⟨(dt_all (enc := enc_s) rfl rfl), (dt_all (enc := enc_s) rfl rfl)⟩, (by simp only [List.length_map, List.length_nil, List.length_replicate]; simpa using g5)⟩, sl_len (enc := enc_s) (app_can (enc := enc_s) rfl (rfl))⟩, trivial⟩ trivial ?_
        refine AX.reg (its := [.auto { raw := true }]) [1, 5, 8, 9, 10] [3] (s1 := ⟨[(1, .fn 111 [.bp [.v (.int .i64 p2)] 0]), (5, .sl 3 0 ((v3 ++ ([(gt p1 v4).1] : List (ByteArray))).length)), (8, .bs false 2 (List.map enc_si p1)), (9, .v (.int .i64 (p1.length : Int))), (10, .v (.int .i64 (IntKind.wrap .i64 (v4 + 1))))], [(3, .arr 1 (List.map enc_s v3 ++ List.map enc_s ([(gt p1 v4).1] : List (ByteArray))))]⟩) (C := True) (by kernel_rfl) trivial trivial ?_
        refine ⟨(fu, (v3 ++ ([(gt p1 v4).1] : List (ByteArray)), IntKind.wrap .i64 (v4 + 1))), h, Nat.lt_succ_self _, ?_⟩
        refine Wk.trans (Wk.swap 0 3 (Nat.le_of_ble_eq_true (by kernel_rfl)) (Nat.le_of_ble_eq_true (by kernel_rfl)) rfl) ?_
        refine Wk.trans (Wk.forget [1, 5, 8, 9, 10] [0] (s' := ⟨[(1, .fn 111 [.bp [.v (.int .i64 p2)] 0]), (5, .sl 0 0 ((v3 ++ ([(gt p1 v4).1] : List (ByteArray))).length)), (8, .bs false 2 (List.map enc_si p1)), (9, .v (.int .i64 (p1.length : Int))), (10, .v (.int .i64 (IntKind.wrap .i64 (v4 + 1))))], [(0, .arr 1 (List.map enc_s v3 ++ List.map enc_s ([(gt p1 v4).1] : List (ByteArray))))]⟩) (by kernel_rfl)) ?_
        refine Wk.trans (Wk.of_eq (congrArg (fun z => (⟨[(1, .fn 111 [.bp [.v (.int .i64 p2)] 0]), (5, .sl 0 0 ((v3 ++ ([(gt p1 v4).1] : List (ByteArray))).length)), (8, .bs false 2 (List.map enc_si p1)), (9, .v (.int .i64 (p1.length : Int))), (10, .v (.int .i64 (IntKind.wrap .i64 (v4 + 1))))], [(0, .arr 1 (z))]⟩ : S)) (app_can (enc := enc_s) rfl (rfl) : List.map enc_s v3 ++ List.map enc_s ([(gt p1 v4).1] : List (ByteArray)) = List.map enc_s (v3 ++ ([(gt p1 v4).1] : List (ByteArray)))))) ?_
        exact Wk.refl _
      · replace h := cd_f b4 h
        refine AX.condF ((!decide ((Go.bits .and .i64 p2 ((gt p1 v4).2)) = 0))) (by kernel_rfl) b4 ?_
        refine AX.skip ?_
        refine AX.reg (its := [.auto { raw := true }]) [1, 5, 8, 9, 10] [0] (s1 := ⟨[(1, .fn 111 [.bp [.v (.int .i64 p2)] 0]), (5, .sl 0 0 v3.length), (8, .bs false 2 (List.map enc_si p1)), (9, .v (.int .i64 (p1.length : Int))), (10, .v (.int .i64 (IntKind.wrap .i64 (v4 + 1))))], [(0, .arr 1 (List.map enc_s v3))]⟩) (C := True) (by kernel_rfl) trivial trivial ?_
        refine ⟨(fu, (v3, IntKind.wrap .i64 (v4 + 1))), h, Nat.lt_succ_self _, ?_⟩
        refine Wk.trans (Wk.forget [1, 5, 8, 9, 10] [0] (s' := ⟨[(1, .fn 111 [.bp [.v (.int .i64 p2)] 0]), (5, .sl 0 0 v3.length), (8, .bs false 2 (List.map enc_si p1)), (9, .v (.int .i64 (p1.length : Int))), (10, .v (.int .i64 (IntKind.wrap .i64 (v4 + 1))))], [(0, .arr 1 (List.map enc_s v3))]⟩) (by kernel_rfl)) ?_
        exact Wk.refl _
    · replace h := cd_f b1 h
      refine AX.condF (decide (v4 < (p1.length : Int))) (by kernel_rfl) b1 ?_
      refine AX.exit ?_
      refine fin_wk (Wk.forget [5] [0] (s' := ⟨[(5, .sl 0 0 v3.length)], [(0, .arr 1 (List.map enc_s v3))]⟩) (by kernel_rfl)) ?_
      have hr := Option.some.inj h
      subst hr
      exact ⟨_, Wk.refl _, ⟨rfl, rfl⟩⟩

theorem s_impl_names_Flag_namesIn_1_l (p1 : List (ByteArray × Int)) (p2 : Int) (r : List (ByteArray)) (h : m_impl_names_Flag_namesIn_1_l p1 p2 = some r) :
    Eng.Spec Tryd.prog 75 [.bs false 2 (List.map enc_si p1), .fn 111 [.bp [.v (.int .i64 p2)] 0]] [] (.sl 0 0 r.length) [.arr 1 (List.map enc_s r)] := by
  unfold m_impl_names_Flag_namesIn_1_l at h
  refine Eng.Spec.body Tryd.func75 (by kernel_rfl) rfl (by kernel_rfl) ?_
  refine AX.wkpost ?_
  refine AX.seq ?_
  refine AX.reg (its := []) [0, 1] [] (s1 := ⟨[(0, .bs false 2 (List.map enc_si p1)), (1, .fn 111 [.bp [.v (.int .i64 p2)] 0])], []⟩) (C := True) (by kernel_rfl) trivial trivial ?_
  refine AX.seq ?_
  refine AX.reg (its := []) [0, 1, 5] [] (s1 := ⟨[(0, .bs false 2 (List.map enc_si p1)), (1, .fn 111 [.bp [.v (.int .i64 p2)] 0]), (5, .v (.slice none 0 0))], []⟩) (C := True) (by kernel_rfl) trivial trivial ?_
  refine AX.seq ?_
  refine AX.seq ?_
  refine AX.reg (its := [.auto {}, .auto { y := some (.v (.int .i64 (p1.length : Int))) }]) [1, 5, 8, 9, 10] [] (s1 := ⟨[(1, .fn 111 [.bp [.v (.int .i64 p2)] 0]), (5, .v (.slice none 0 0)), (8, .bs false 2 (List.map enc_si p1)), (9, .v (.int .i64 (p1.length : Int))), (10, .v (.int .i64 0))], []⟩) (C := (True ∧ (AV.v (.int .i64 ((List.map enc_si p1).length : Int)) = AV.v (.int .i64 (p1.length : Int)))) ∧ True) (by kernel_rfl) ⟨⟨trivial, len_map enc_si p1⟩, trivial⟩ trivial ?_
  refine AX.block ?_
  obtain ⟨x6, e6, h⟩ := bd_e h
  refine AX.wk (Wk.mat 5 0 1 (by kernel_rfl) (Nat.le_of_ble_eq_true (by kernel_rfl)) (by kernel_rfl) rfl) ?_
  refine AX.wk (Wk.forget [1, 5, 8, 9, 10] [0] (s' := ⟨[(1, .fn 111 [.bp [.v (.int .i64 p2)] 0]), (5, .sl 0 0 (([] : List (ByteArray)).length)), (8, .bs false 2 (List.map enc_si p1)), (9, .v (.int .i64 (p1.length : Int))), (10, .v (.int .i64 0))], [(0, .arr 1 (List.map enc_s ([] : List (ByteArray))))]⟩) (by kernel_rfl)) ?_
  refine AX.mono (s_impl_names_Flag_namesIn_1_l_L1 p1 p2 FU (([] : List (ByteArray)), 0) x6 e6) ?_
  rintro _ _ ⟨rfl, rfl⟩
  skip
  refine AX.seq ?_
  obtain ⟨x7, e7, h⟩ := bd_e h
  refine AX.reg (its := [.auto {}, .call 123 [.sl 0 0 x6.length] (handO (rho ([0] ++ [])) [0] [.arr 1 (List.map enc_s x6)] ++ []) (callEv [0] [] (.sl 0 0 x6.length) [.arr 1 (List.map enc_s x6)])]) [4] [0] (s1 := ⟨[(4, .sl 0 0 x6.length)], [(0, .arr 1 (List.map enc_s x6))]⟩) (C := ((([.sl 0 0 x6.length] : List AV) = [.sl 0 0 x6.length]) ∧ (AO.arr 1 (List.map enc_s x6) = AO.arr 1 (List.map enc_s x6)) ∧ True) ∧ True) (by kernel_rfl) ⟨⟨rfl, rfl, trivial⟩, trivial⟩ ⟨call_ok (ks := [0]) (ns := []) (bor := []) (bobjs := []) (s_slices_Clip_hs x6 x7 e7) (.cons (.c1 (.c0 (.same _ (by kernel_rfl) (by kernel_rfl)))) (.nil)) (by kernel_rfl) ⟨.inr rfl, trivial⟩, trivial⟩ ?_
  refine AX.ret ?_
  refine fin_wk (Wk.forget [4] [0] (s' := ⟨[(4, .sl 0 0 x6.length)], [(0, .arr 1 (List.map enc_s x6))]⟩) (by kernel_rfl)) ?_
  have hr := Option.some.inj h
  subst hr
  exact ⟨_, Wk.refl _, .inr rfl, ⟨[0], by kernel_rfl, ⟨rfl, trivial⟩, [.sl 0 0 x6.length], by kernel_rfl, by kernel_rfl⟩⟩

end Go.Eng
