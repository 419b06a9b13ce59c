/- What is proved here: each function keeps to its model, whatever its arguments, wherever the model has an answer. Printed by gen.py. -/
import Derived.Test.YtjihhiadjljofaaCExactBuildFlagWalk1
import Derived.Test.YtjihhiadjljofaaProg
import Derived.KernelRfl
set_option linter.unusedVariables false
namespace Go.Eng
open Go Go.Proofs


theorem s_impl_build_BuildFlag_1 (p1 : List (ByteArray × Bool × Int)) (r : (List (ByteArray × Int)) × Bool) (h : m_impl_build_BuildFlag_1 p1 = some r) :
    Eng.Spec Try.prog 49 [.bs false 3 (List.map enc_sbi p1), .fn 50 []] [] (.tup [.sl 0 0 r.1.length, .v (.bool r.2)]) [.arr 2 (List.map enc_si r.1)] := by
  unfold m_impl_build_BuildFlag_1 at h
  refine Eng.Spec.body Try.func49 (by kernel_rfl) rfl (by kernel_rfl) ?_
  refine AX.wkpost ?_
  refine AX.seq ?_
  refine AX.reg (its := []) [0, 1] [] (s1 := ⟨[(0, .bs false 3 (List.map enc_sbi p1)), (1, .fn 50 [])], []⟩) (C := True) (by kernel_rfl) trivial trivial ?_
  refine AX.seq ?_
  refine AX.reg (its := []) [0, 1, 6] [] (s1 := ⟨[(0, .bs false 3 (List.map enc_sbi p1)), (1, .fn 50 []), (6, .v (.slice none 0 0))], []⟩) (C := True) (by kernel_rfl) trivial trivial ?_
  refine AX.seq ?_
  refine AX.seq ?_
  refine AX.reg (its := [.auto {}, .auto { y := some (.v (.int .i64 (p1.length : Int))) }]) [1, 6, 9, 10, 11] [] (s1 := ⟨[(1, .fn 50 []), (6, .v (.slice none 0 0)), (9, .bs false 3 (List.map enc_sbi p1)), (10, .v (.int .i64 (p1.length : Int))), (11, .v (.int .i64 0))], []⟩) (C := (True ∧ (AV.v (.int .i64 ((List.map enc_sbi p1).length : Int)) = AV.v (.int .i64 (p1.length : Int)))) ∧ True) (by kernel_rfl) ⟨⟨trivial, len_map enc_sbi p1⟩, trivial⟩ trivial ?_
  refine AX.block ?_
  obtain ⟨x5, e8, h⟩ := bd_e h
  refine AX.wk (Wk.mat 6 0 2 (by kernel_rfl) (Nat.le_of_ble_eq_true (by kernel_rfl)) (by kernel_rfl) rfl) ?_
  refine AX.wk (Wk.forget [1, 6, 9, 10, 11] [0] (s' := ⟨[(1, .fn 50 []), (6, .sl 0 0 (([] : List (ByteArray × Int)).length)), (9, .bs false 3 (List.map enc_sbi p1)), (10, .v (.int .i64 (p1.length : Int))), (11, .v (.int .i64 0))], [(0, .arr 2 (List.map enc_si ([] : List (ByteArray × Int))))]⟩) (by kernel_rfl)) ?_
  refine AX.mono (s_impl_build_BuildFlag_1_L1 p1 FU (([] : List (ByteArray × Int)), 0) x5 e8) ?_
  rintro _ _ (⟨x6, rfl, rfl, rfl⟩ | ⟨x7, rfl, rfl, rfl⟩)
  · replace h := sm_l h
    refine fin_wk (Wk.mat 4 0 2 (by kernel_rfl) (Nat.le_of_ble_eq_true (by kernel_rfl)) (by kernel_rfl) rfl) ?_
    refine fin_wk (Wk.forget [4, 5] [0] (s' := ⟨[(4, .sl 0 0 (([] : List (ByteArray × Int)).length)), (5, .v (.bool false))], [(0, .arr 2 (List.map enc_si ([] : List (ByteArray × Int))))]⟩) (by kernel_rfl)) ?_
    have hr := Option.some.inj h
    subst hr
    exact ⟨_, Wk.refl _, .inr rfl, ⟨[0], by kernel_rfl, ⟨rfl, trivial⟩, [.sl 0 0 (([] : List (ByteArray × Int)).length), .v (.bool false)], by kernel_rfl, by kernel_rfl⟩⟩
  · replace h := sm_r h
    refine AX.seq ?_
    obtain ⟨x8, e9, h⟩ := bd_e h
    refine AX.reg (its := [.auto {}, .call 95 [.sl 0 0 x7.length] (handO (rho ([0] ++ [])) [0] [.arr 2 (List.map enc_si x7)] ++ []) (callEv [0] [] (.sl 0 0 x7.length) [.arr 2 (List.map enc_si x7)])]) [4, 5] [0] (s1 := ⟨[(4, .sl 0 0 x7.length), (5, .v (.bool true))], [(0, .arr 2 (List.map enc_si x7))]⟩) (C := ((([.sl 0 0 x7.length] : List AV) = [.sl 0 0 x7.length]) ∧ (AO.arr 2 (List.map enc_si x7) = AO.arr 2 (List.map enc_si x7)) ∧ True) ∧ True) (by kernel_rfl) ⟨⟨rfl, rfl, trivial⟩, trivial⟩ ⟨call_ok (ks := [0]) (ns := []) (bor := []) (bobjs := []) (s_slices_Clip_hsi x7 x8 e9) (.cons (.c1 (.c0 (.same _ (by kernel_rfl) (by kernel_rfl)))) (.nil)) (by kernel_rfl) ⟨.inr rfl, trivial⟩, trivial⟩ ?_
    refine AX.ret ?_
    refine fin_wk (Wk.forget [4, 5] [0] (s' := ⟨[(4, .sl 0 0 x7.length), (5, .v (.bool true))], [(0, .arr 2 (List.map enc_si x7))]⟩) (by kernel_rfl)) ?_
    have hr := Option.some.inj h
    subst hr
    exact ⟨_, Wk.refl _, .inr rfl, ⟨[0], by kernel_rfl, ⟨rfl, trivial⟩, [.sl 0 0 x7.length, .v (.bool true)], by kernel_rfl, by kernel_rfl⟩⟩

theorem s_slices_Clone_si (p1 : List (ByteArray × Int)) (r : List (ByteArray × Int)) (h : m_slices_Clone_si p1 = some r) :
    Eng.Spec Try.prog 119 [.bs false 2 (List.map enc_si p1)] [] (.sl 0 0 r.length) [.arr 2 (List.map enc_si r)] := by
  unfold m_slices_Clone_si at h
  obtain ⟨g1, h⟩ := gd_e h
  have hr := Option.some.inj h
  subst hr
  refine Eng.Spec.body Try.func119 (by kernel_rfl) rfl (by kernel_rfl) ?_
  refine AX.wkpost ?_
  refine AX.seq ?_
  refine AX.reg (its := []) [0] [] (s1 := ⟨[(0, .bs false 2 (List.map enc_si p1))], []⟩) (C := True) (by kernel_rfl) trivial trivial ?_
  refine AX.nilEq (l := false) (sz := 2) (es := (List.map enc_si p1)) (s0 := (⟨[(2, .sl 1 0 p1.length)], [(1, .arr 2 (List.map enc_si p1))]⟩ : S)) .ret rfl rfl rfl rfl rfl rfl Try.underlying23 (by kernel_rfl) (by kernel_rfl) (by kernel_rfl) ⟨_, Wk.refl _, .inr rfl, ⟨[1], by kernel_rfl, ⟨rfl, trivial⟩, [.sl 1 0 p1.length], by kernel_rfl, by kernel_rfl⟩⟩ ?_
  intro b hb
  rcases bool_cases b with h1 | h1
  · subst h1
    have hp : p1 = [] := by simpa using hb rfl
    subst hp
    refine AX.condT true (by kernel_rfl) rfl ?_
    refine AX.seq ?_
    refine AX.reg (its := []) [2] [] (s1 := ⟨[(2, .v (.slice none 0 0))], []⟩) (C := True) (by kernel_rfl) trivial trivial ?_
    refine AX.wk (Wk.mat 2 1 2 (by kernel_rfl) (Nat.le_of_ble_eq_true (by kernel_rfl)) (by kernel_rfl) rfl) ?_
    refine AX.wk (Wk.forget [2] [1] (s' := ⟨[(2, .sl 1 0 0)], [(1, .arr 2 [])]⟩) (by kernel_rfl)) ?_
    exact AX.ret ⟨rfl, rfl⟩
  · subst h1
    refine AX.condF false (by kernel_rfl) rfl ?_
    refine AX.skip ?_
    refine AX.seq ?_
    refine AX.reg (its := [.auto { nk := 0 }, .auto {}, .auto { y := some (.sl 1 0 p1.length), nk := 1 }]) [2] [1] (s1 := ⟨[(2, .sl 1 0 p1.length)], [(1, .arr 2 (List.map enc_si p1))]⟩) (C := ((((True) ∧ (True)) ∧ (([] : List (List Value)).length + (List.map enc_si p1).length ≤ 1099511627776)) ∧ (AV.sl 1 0 (List.map enc_si p1).length = AV.sl 1 0 p1.length)) ∧ True) (by kernel_rfl) ⟨⟨⟨⟨trivial, trivial⟩, by simpa using g1⟩, sl_len (enc := enc_si) rfl⟩, trivial⟩ trivial ?_
    exact AX.ret ⟨rfl, rfl⟩

theorem s_impl_clone_si (p1 : List (ByteArray × Int)) (r : List (ByteArray × Int)) (h : m_impl_clone_si p1 = some r) :
    Eng.Spec Try.prog 98 [.bs false 2 (List.map enc_si p1)] [] (.sl 0 0 r.length) [.arr 2 (List.map enc_si r)] := by
  unfold m_impl_clone_si at h
  refine Eng.Spec.body Try.func98 (by kernel_rfl) rfl (by kernel_rfl) ?_
  refine AX.wkpost ?_
  refine AX.seq ?_
  refine AX.reg (its := []) [0] [] (s1 := ⟨[(0, .bs false 2 (List.map enc_si p1))], []⟩) (C := True) (by kernel_rfl) trivial trivial ?_
  refine AX.seq ?_
  obtain ⟨x2, e1, h⟩ := bd_e h
  obtain ⟨x3, e2, h⟩ := bd_e h
  refine AX.reg (its := [.auto {}, .call 119 [.bs false 2 (List.map enc_si p1)] (handO (rho ([] ++ [0])) [] [] ++ []) (callEv [] [0] (.sl 0 0 x2.length) [.arr 2 (List.map enc_si x2)]), .call 95 [.sl 0 0 x2.length] (handO (rho ([0] ++ [])) [0] [.arr 2 (List.map enc_si x2)] ++ []) (callEv [0] [] (.sl 0 0 x2.length) [.arr 2 (List.map enc_si x2)])]) [2] [0] (s1 := ⟨[(2, .sl 0 0 x2.length)], [(0, .arr 2 (List.map enc_si x2))]⟩) (C := ((([.bs false 2 (List.map enc_si p1)] : List AV) = [.bs false 2 (List.map enc_si p1)]) ∧ True) ∧ ((([.sl 0 0 x2.length] : List AV) = [.sl 0 0 x2.length]) ∧ (AO.arr 2 (List.map enc_si x2) = AO.arr 2 (List.map enc_si x2)) ∧ True) ∧ True) (by kernel_rfl) ⟨⟨rfl, trivial⟩, ⟨⟨rfl, rfl, trivial⟩, trivial⟩⟩ ⟨call_ok (ks := []) (ns := [0]) (bor := []) (bobjs := []) (s_slices_Clone_si p1 x2 e1) (.cons (.c1 (.c0 (.same _ (by kernel_rfl) (by kernel_rfl)))) (.nil)) (by kernel_rfl) trivial, ⟨call_ok (ks := [0]) (ns := []) (bor := []) (bobjs := []) (s_slices_Clip_hsi x2 x3 e2) (.cons (.c1 (.c0 (.same _ (by kernel_rfl) (by kernel_rfl)))) (.nil)) (by kernel_rfl) ⟨.inr rfl, trivial⟩, trivial⟩⟩ ?_
  refine AX.ret ?_
  refine fin_wk (Wk.forget [2] [0] (s' := ⟨[(2, .sl 0 0 x2.length)], [(0, .arr 2 (List.map enc_si x2))]⟩) (by kernel_rfl)) ?_
  have hr := Option.some.inj h
  subst hr
  exact ⟨_, Wk.refl _, .inr rfl, ⟨[0], by kernel_rfl, ⟨rfl, trivial⟩, [.sl 0 0 x2.length], by kernel_rfl, by kernel_rfl⟩⟩

theorem s_impl_in (p1 : Int) (p2 : Int) (p3 : Int) (r : Bool) (h : m_impl_in p1 p2 p3 = some r) :
    Eng.Spec Try.prog 46 [.v (.int .i64 p1), .v (.int .i64 p2), .v (.int .i64 p3)] [] (.v (.bool r)) [] := by
  unfold m_impl_in at h
  refine Eng.Spec.body Try.func46 (by kernel_rfl) rfl (by kernel_rfl) ?_
  refine AX.wkpost ?_
  refine AX.seq ?_
  refine AX.reg (its := []) [0, 1, 2] [] (s1 := ⟨[(0, .v (.int .i64 p1)), (1, .v (.int .i64 p2)), (2, .v (.int .i64 p3))], []⟩) (C := True) (by kernel_rfl) trivial trivial ?_
  refine AX.seq ?_
  rcases bool_cases (decide (p2 ≤ p1)) with b1 | b1
  · replace h := cd_t b1 h
    refine AX.reg (its := [.auto {}, .auto {}, .auto { y := some (.v (.bool true)) }]) [6] [] (s1 := ⟨[(6, .v (.bool (decide (p1 ≤ p3))))], []⟩) (C := ((True) ∧ ((.v (.bool (decide (p2 ≤ p1))) : AV) = (.v (.bool true) : AV))) ∧ True) (by kernel_rfl) ⟨⟨trivial, (congrArg (fun z => AV.v (.bool z)) b1)⟩, trivial⟩ trivial ?_
    refine AX.ret ?_
    refine fin_wk (Wk.forget [6] [] (s' := ⟨[(6, .v (.bool (decide (p1 ≤ p3))))], []⟩) (by kernel_rfl)) ?_
    have hr := Option.some.inj h
    subst hr
    exact ⟨_, Wk.refl _, .inr rfl, ⟨[], by kernel_rfl, trivial, [.v (.bool (decide (p1 ≤ p3)))], by kernel_rfl, by kernel_rfl⟩⟩
  · replace h := cd_f b1 h
    refine AX.reg (its := [.auto {}, .auto {}, .auto { y := some (.v (.bool false)) }]) [6] [] (s1 := ⟨[(6, .v (.bool false))], []⟩) (C := ((True) ∧ ((.v (.bool (decide (p2 ≤ p1))) : AV) = (.v (.bool false) : AV))) ∧ True) (by kernel_rfl) ⟨⟨trivial, (congrArg (fun z => AV.v (.bool z)) b1)⟩, trivial⟩ trivial ?_
    refine AX.ret ?_
    refine fin_wk (Wk.forget [6] [] (s' := ⟨[(6, .v (.bool false))], []⟩) (by kernel_rfl)) ?_
    have hr := Option.some.inj h
    subst hr
    exact ⟨_, Wk.refl _, .inr rfl, ⟨[], by kernel_rfl, trivial, [.v (.bool false)], by kernel_rfl, by kernel_rfl⟩⟩

theorem s_impl_ValidName_L1 (p1 : ByteArray) (n : Nat) (g : Int) (out : Unit ⊕ Unit) (h : m_impl_ValidName_L1 p1 n g = some out) :
    AX Try.prog 23 0 (codeAt [1, 0, 1, 1] (bodyOf Try.f104)) ((fun g : Int => (⟨[(0, .v (.string p1)), (3, .v (.int .i64 g))], []⟩ : S)) g) (fun ex s => (∃ o : Unit, out = Sum.inl o ∧ ex = .ret ∧ s = ⟨[(2, .v (.bool false))], []⟩) ∨ (∃ o : Unit, out = Sum.inr o ∧ ex = .exit 0 ∧ s = ⟨[(0, .v (.string p1))], []⟩)) := by
  refine AX.wkpost ?_
  refine AX.loop (G := Nat × (Int)) (fun q => (fun g : Int => (⟨[(0, .v (.string p1)), (3, .v (.int .i64 g))], []⟩ : S)) q.2) (fun q => m_impl_ValidName_L1 p1 q.1 q.2 = some out) (fun q => q.1) (n, g) h (Wk.refl _) ?_
  clear h
  rintro ⟨fu, v2⟩ h
  cases fu with
  | zero => cases h
  | succ fu =>
    rw [m_impl_ValidName_L1] at h
    refine AX.seq ?_
    refine AX.seq ?_
    refine AX.reg (its := []) [0, 3, 7] [] (s1 := ⟨[(0, .v (.string p1)), (3, .v (.int .i64 v2)), (7, .v (.bool (decide (v2 < (p1.size : Int)))))], []⟩) (C := True) (by kernel_rfl) trivial trivial ?_
    rcases bool_cases (decide (v2 < (p1.size : Int))) with b1 | b1
    · replace h := cd_t b1 h
      refine AX.condT (decide (v2 < (p1.size : Int))) (by kernel_rfl) b1 ?_
      refine AX.skip ?_
      refine AX.seq ?_
      refine AX.block ?_
      refine AX.seq ?_
      obtain ⟨g2, h⟩ := gd_e h
      rcases bool_cases (decide ((byteAt p1 v2.toNat) < 97)) with b3 | b3
      · replace h := cd_t b3 h
        refine AX.reg (its := [.auto {}, .auto {}, .auto {}, .auto { y := some (.v (.bool true)) }]) [0, 3, 19] [] (s1 := ⟨[(0, .v (.string p1)), (3, .v (.int .i64 v2)), (19, .v (.bool true))], []⟩) (C := (0 ≤ v2 ∧ v2 < (p1.size : Int)) ∧ ((True) ∧ ((.v (.bool (decide ((byteAt p1 v2.toNat) < 97))) : AV) = (.v (.bool true) : AV))) ∧ True) (by kernel_rfl) ⟨g2, ⟨⟨trivial, (congrArg (fun z => AV.v (.bool z)) b3)⟩, trivial⟩⟩ trivial ?_
        refine AX.cond_true (by kernel_rfl) ?_
        refine AX.seq ?_
        refine AX.reg (its := []) [2] [] (s1 := ⟨[(2, .v (.bool false))], []⟩) (C := True) (by kernel_rfl) trivial trivial ?_
        refine AX.ret ?_
        refine fin_wk (Wk.forget [2] [] (s' := ⟨[(2, .v (.bool false))], []⟩) (by kernel_rfl)) ?_
        have hr := Option.some.inj h
        subst hr
        exact ⟨_, Wk.refl _, .inl ⟨(), rfl, rfl, rfl⟩⟩
      · replace h := cd_f b3 h
        refine AX.reg (its := [.auto {}, .auto {}, .auto {}, .auto { y := some (.v (.bool false)) }]) [0, 3, 19] [] (s1 := ⟨[(0, .v (.string p1)), (3, .v (.int .i64 v2)), (19, .v (.bool (decide (122 < (byteAt p1 v2.toNat)))))], []⟩) (C := (0 ≤ v2 ∧ v2 < (p1.size : Int)) ∧ ((True) ∧ ((.v (.bool (decide ((byteAt p1 v2.toNat) < 97))) : AV) = (.v (.bool false) : AV))) ∧ (0 ≤ v2 ∧ v2 < (p1.size : Int)) ∧ True) (by kernel_rfl) ⟨g2, ⟨⟨trivial, (congrArg (fun z => AV.v (.bool z)) b3)⟩, ⟨g2, trivial⟩⟩⟩ trivial ?_
        rcases bool_cases (decide (122 < (byteAt p1 v2.toNat))) with b4 | b4
        · replace h := cd_t b4 h
          refine AX.condT (decide (122 < (byteAt p1 v2.toNat))) (by kernel_rfl) b4 ?_
          refine AX.seq ?_
          refine AX.reg (its := []) [2] [] (s1 := ⟨[(2, .v (.bool false))], []⟩) (C := True) (by kernel_rfl) trivial trivial ?_
          refine AX.ret ?_
          refine fin_wk (Wk.forget [2] [] (s' := ⟨[(2, .v (.bool false))], []⟩) (by kernel_rfl)) ?_
          have hr := Option.some.inj h
          subst hr
          exact ⟨_, Wk.refl _, .inl ⟨(), rfl, rfl, rfl⟩⟩
        · replace h := cd_f b4 h
          refine AX.condF (decide (122 < (byteAt p1 v2.toNat))) (by kernel_rfl) b4 ?_
          refine AX.skip ?_
          refine AX.reg (its := [.auto {}, .auto { raw := true }]) [0, 3] [] (s1 := ⟨[(0, .v (.string p1)), (3, .v (.int .i64 (IntKind.wrap .i64 (v2 + 1))))], []⟩) (C := True) (by kernel_rfl) trivial trivial ?_
          refine ⟨(fu, IntKind.wrap .i64 (v2 + 1)), h, Nat.lt_succ_self _, ?_⟩
          refine Wk.trans (Wk.forget [0, 3] [] (s' := ⟨[(0, .v (.string p1)), (3, .v (.int .i64 (IntKind.wrap .i64 (v2 + 1))))], []⟩) (by kernel_rfl)) ?_
          exact Wk.refl _
    · replace h := cd_f b1 h
      refine AX.condF (decide (v2 < (p1.size : Int))) (by kernel_rfl) b1 ?_
      refine AX.exit ?_
      refine fin_wk (Wk.forget [0] [] (s' := ⟨[(0, .v (.string p1))], []⟩) (by kernel_rfl)) ?_
      have hr := Option.some.inj h
      subst hr
      exact ⟨_, Wk.refl _, .inr ⟨(), rfl, rfl, rfl⟩⟩

theorem s_impl_ValidName (p1 : ByteArray) (r : Bool) (h : m_impl_ValidName p1 = some r) :
    Eng.Spec Try.prog 104 [.v (.string p1)] [] (.v (.bool r)) [] := by
  unfold m_impl_ValidName at h
  refine Eng.Spec.body Try.func104 (by kernel_rfl) rfl (by kernel_rfl) ?_
  refine AX.wkpost ?_
  refine AX.seq ?_
  refine AX.reg (its := []) [0] [] (s1 := ⟨[(0, .v (.string p1))], []⟩) (C := True) (by kernel_rfl) trivial trivial ?_
  refine AX.seq ?_
  refine AX.seq ?_
  refine AX.reg (its := []) [0, 3] [] (s1 := ⟨[(0, .v (.string p1)), (3, .v (.int .i64 0))], []⟩) (C := True) (by kernel_rfl) trivial trivial ?_
  refine AX.block ?_
  obtain ⟨x3, e5, h⟩ := bd_e h
  refine AX.wk (Wk.forget [0, 3] [] (s' := ⟨[(0, .v (.string p1)), (3, .v (.int .i64 0))], []⟩) (by kernel_rfl)) ?_
  refine AX.mono (s_impl_ValidName_L1 p1 FU 0 x3 e5) ?_
  rintro _ _ (⟨x4, rfl, rfl, rfl⟩ | ⟨x5, rfl, rfl, rfl⟩)
  · replace h := sm_l h
    refine fin_wk (Wk.forget [2] [] (s' := ⟨[(2, .v (.bool false))], []⟩) (by kernel_rfl)) ?_
    have hr := Option.some.inj h
    subst hr
    exact ⟨_, Wk.refl _, .inr rfl, ⟨[], by kernel_rfl, trivial, [.v (.bool false)], by kernel_rfl, by kernel_rfl⟩⟩
  · replace h := sm_r h
    refine AX.seq ?_
    obtain ⟨x6, e6, h⟩ := bd_e h
    refine AX.reg (its := [.auto {}, .auto {}, .call 46 [.v (.int .i64 (p1.size : Int)), .v (.int .i64 1), .v (.int .i64 6)] (handO (rho ([] ++ [])) [] [] ++ []) (callEv [] [] (.v (.bool x6)) [])]) [2] [] (s1 := ⟨[(2, .v (.bool x6))], []⟩) (C := ((([.v (.int .i64 (p1.size : Int)), .v (.int .i64 1), .v (.int .i64 6)] : List AV) = [.v (.int .i64 (p1.size : Int)), .v (.int .i64 1), .v (.int .i64 6)]) ∧ True) ∧ True) (by kernel_rfl) ⟨⟨rfl, trivial⟩, trivial⟩ ⟨call_ok (ks := []) (ns := []) (bor := []) (bobjs := []) (s_impl_in (p1.size : Int) 1 6 x6 e6) (.cons (.c1 (.c0 (.same _ (by kernel_rfl) (by kernel_rfl)))) (.cons (.c1 (.c0 (.same _ (by kernel_rfl) (by kernel_rfl)))) (.cons (.c1 (.c0 (.same _ (by kernel_rfl) (by kernel_rfl)))) (.nil)))) (by kernel_rfl) trivial, trivial⟩ ?_
    refine AX.ret ?_
    refine fin_wk (Wk.forget [2] [] (s' := ⟨[(2, .v (.bool x6))], []⟩) (by kernel_rfl)) ?_
    have hr := Option.some.inj h
    subst hr
    exact ⟨_, Wk.refl _, .inr rfl, ⟨[], by kernel_rfl, trivial, [.v (.bool x6)], by kernel_rfl, by kernel_rfl⟩⟩

theorem s_impl_named_1_l (p1 : ByteArray) (p2 : Int) (p3 : ByteArray) (r : Unit) (h : m_impl_named_1_l p1 p2 p3 = some r) :
    Eng.Spec Try.prog 121 [.agg [.v (.string p1), .v (.int .i64 p2)], .bp [.v (.string p3)] 0] [] (.v (.bool (decide (p1 = p3)))) [] := by
  unfold m_impl_named_1_l at h
  refine Eng.Spec.body Try.func121 (by kernel_rfl) rfl (by kernel_rfl) ?_
  refine AX.wkpost ?_
  refine AX.seq ?_
  refine AX.reg (its := [.auto { nk := 0 }]) [1, 2] [0] (s1 := ⟨[(1, .bp [.v (.string p3)] 0), (2, .pt 0 0)], [(0, .box [.v (.string p1), .v (.int .i64 p2)])]⟩) (C := True) (by kernel_rfl) trivial trivial ?_
  refine AX.seq ?_
  refine AX.reg (its := []) [3] [] (s1 := ⟨[(3, .v (.bool (decide (p1 = p3))))], []⟩) (C := True) (by kernel_rfl) trivial trivial ?_
  refine AX.ret ?_
  refine fin_wk (Wk.forget [3] [] (s' := ⟨[(3, .v (.bool (decide (p1 = p3))))], []⟩) (by kernel_rfl)) ?_
  have hr := Option.some.inj h
  subst hr
  exact ⟨_, Wk.refl _, .inr rfl, ⟨[], by kernel_rfl, trivial, [.v (.bool (decide (p1 = p3)))], by kernel_rfl, by kernel_rfl⟩⟩

theorem s_slices_IndexFunc_si_named_1_l_L1 (p1 : List (ByteArray × Int)) (p2 : ByteArray) (n : Nat) (g : Int) (out : Int ⊕ Unit) (h : m_slices_IndexFunc_si_named_1_l_L1 p1 p2 n g = some out) :
    AX Try.prog 19 0 (codeAt [1, 0, 1, 1] (bodyOf Try.f120)) ((fun g : Int => (⟨[(0, .bs false 2 (List.map enc_si p1)), (1, .fn 121 [.bp [.v (.string p2)] 0]), (7, .v (.int .i64 (p1.length : Int))), (8, .v (.int .i64 g))], []⟩ : S)) g) (fun ex s => (∃ o : Int, out = Sum.inl o ∧ ex = .ret ∧ s = ⟨[(4, .v (.int .i64 o))], []⟩) ∨ (∃ o : Unit, out = Sum.inr o ∧ ex = .exit 0 ∧ s = ⟨[], []⟩)) := by
  refine AX.wkpost ?_
  refine AX.loop (G := Nat × (Int)) (fun q => (fun g : Int => (⟨[(0, .bs false 2 (List.map enc_si p1)), (1, .fn 121 [.bp [.v (.string p2)] 0]), (7, .v (.int .i64 (p1.length : Int))), (8, .v (.int .i64 g))], []⟩ : S)) q.2) (fun q => m_slices_IndexFunc_si_named_1_l_L1 p1 p2 q.1 q.2 = some out) (fun q => q.1) (n, g) h (Wk.refl _) ?_
  clear h
  rintro ⟨fu, v3⟩ h
  cases fu with
  | zero => cases h
  | succ fu =>
    rw [m_slices_IndexFunc_si_named_1_l_L1] at h
    refine AX.seq ?_
    refine AX.reg (its := []) [0, 1, 7, 8, 9] [] (s1 := ⟨[(0, .bs false 2 (List.map enc_si p1)), (1, .fn 121 [.bp [.v (.string p2)] 0]), (7, .v (.int .i64 (p1.length : Int))), (8, .v (.int .i64 v3)), (9, .v (.bool (decide (v3 < (p1.length : Int)))))], []⟩) (C := True) (by kernel_rfl) trivial trivial ?_
    refine AX.seq ?_
    rcases bool_cases (decide (v3 < (p1.length : Int))) with b1 | b1
    · replace h := cd_t b1 h
      refine AX.condT (decide (v3 < (p1.length : Int))) (by kernel_rfl) b1 ?_
      refine AX.skip ?_
      refine AX.seq ?_
      refine AX.block ?_
      refine AX.seq ?_
      refine AX.reg (its := []) [0, 1, 5, 7, 8] [] (s1 := ⟨[(0, .bs false 2 (List.map enc_si p1)), (1, .fn 121 [.bp [.v (.string p2)] 0]), (5, .v (.int .i64 v3)), (7, .v (.int .i64 (p1.length : Int))), (8, .v (.int .i64 v3))], []⟩) (C := True) (by kernel_rfl) trivial trivial ?_
      refine AX.seq ?_
      obtain ⟨g2, h⟩ := gd_e h
      obtain ⟨x4, e3, h⟩ := bd_e h
      refine AX.reg (its := [.auto {}, .auto {}, .auto {}, .auto { y := some (.be 2 (enc_si (gt p1 v3)) 0) }, .auto {}, .call 121 [.agg [.v (.string ((gt p1 v3).1)), .v (.int .i64 ((gt p1 v3).2))], .bp [.v (.string p2)] 0] (handO (rho ([] ++ [])) [] [] ++ []) (callEv [] [] (.v (.bool (decide (((gt p1 v3).1) = p2)))) [])]) [0, 1, 5, 7, 8, 16] [] (s1 := ⟨[(0, .bs false 2 (List.map enc_si p1)), (1, .fn 121 [.bp [.v (.string p2)] 0]), (5, .v (.int .i64 v3)), (7, .v (.int .i64 (p1.length : Int))), (8, .v (.int .i64 v3)), (16, .v (.bool (decide (((gt p1 v3).1) = p2))))], []⟩) (C := ((0 ≤ v3 ∧ v3 < ((List.map enc_si p1).length : Int)) ∧ (AV.be 2 ((List.map enc_si p1).getD v3.toNat []) 0 = AV.be 2 (enc_si (gt p1 v3)) 0)) ∧ ((([.agg [.v (.string ((gt p1 v3).1)), .v (.int .i64 ((gt p1 v3).2))], .bp [.v (.string p2)] 0] : List AV) = [.agg [.v (.string ((gt p1 v3).1)), .v (.int .i64 ((gt p1 v3).2))], .bp [.v (.string p2)] 0]) ∧ True) ∧ True) (by kernel_rfl) ⟨idx_bs enc_si p1 v3 2 g2, ⟨⟨rfl, trivial⟩, trivial⟩⟩ ⟨call_ok (ks := []) (ns := []) (bor := []) (bobjs := []) (s_impl_named_1_l ((gt p1 v3).1) ((gt p1 v3).2) p2 x4 e3) (.cons (.c1 (.agg (.cons (.same _ (by kernel_rfl) (by kernel_rfl)) (.cons (.same _ (by kernel_rfl) (by kernel_rfl)) (.nil))))) (.cons (.c1 (.bp (.cons (.same _ (by kernel_rfl) (by kernel_rfl)) (.nil)))) (.nil))) (by kernel_rfl) trivial, trivial⟩ ?_
      rcases bool_cases (decide (((gt p1 v3).1) = p2)) with b4 | b4
      · replace h := cd_t b4 h
        refine AX.condT (decide (((gt p1 v3).1) = p2)) (by kernel_rfl) b4 ?_
        refine AX.seq ?_
        refine AX.reg (its := []) [4] [] (s1 := ⟨[(4, .v (.int .i64 v3))], []⟩) (C := True) (by kernel_rfl) trivial trivial ?_
        refine AX.ret ?_
        refine fin_wk (Wk.forget [4] [] (s' := ⟨[(4, .v (.int .i64 v3))], []⟩) (by kernel_rfl)) ?_
        have hr := Option.some.inj h
        subst hr
        exact ⟨_, Wk.refl _, .inl ⟨v3, rfl, rfl, rfl⟩⟩
      · replace h := cd_f b4 h
        refine AX.condF (decide (((gt p1 v3).1) = p2)) (by kernel_rfl) b4 ?_
        refine AX.skip ?_
        refine AX.reg (its := [.auto { raw := true }]) [0, 1, 7, 8] [] (s1 := ⟨[(0, .bs false 2 (List.map enc_si p1)), (1, .fn 121 [.bp [.v (.string p2)] 0]), (7, .v (.int .i64 (p1.length : Int))), (8, .v (.int .i64 (IntKind.wrap .i64 (v3 + 1))))], []⟩) (C := True) (by kernel_rfl) trivial trivial ?_
        refine ⟨(fu, IntKind.wrap .i64 (v3 + 1)), h, Nat.lt_succ_self _, ?_⟩
        refine Wk.trans (Wk.forget [0, 1, 7, 8] [] (s' := ⟨[(0, .bs false 2 (List.map enc_si p1)), (1, .fn 121 [.bp [.v (.string p2)] 0]), (7, .v (.int .i64 (p1.length : Int))), (8, .v (.int .i64 (IntKind.wrap .i64 (v3 + 1))))], []⟩) (by kernel_rfl)) ?_
        exact Wk.refl _
    · replace h := cd_f b1 h
      refine AX.condF (decide (v3 < (p1.length : Int))) (by kernel_rfl) b1 ?_
      refine AX.exit ?_
      refine fin_wk (Wk.forget [] [] (s' := ⟨[], []⟩) (by kernel_rfl)) ?_
      have hr := Option.some.inj h
      subst hr
      exact ⟨_, Wk.refl _, .inr ⟨(), rfl, rfl, rfl⟩⟩

theorem s_slices_IndexFunc_si_named_1_l (p1 : List (ByteArray × Int)) (p2 : ByteArray) (r : Int) (h : m_slices_IndexFunc_si_named_1_l p1 p2 = some r) :
    Eng.Spec Try.prog 120 [.bs false 2 (List.map enc_si p1), .fn 121 [.bp [.v (.string p2)] 0]] [] (.v (.int .i64 r)) [] := by
  unfold m_slices_IndexFunc_si_named_1_l at h
  refine Eng.Spec.body Try.func120 (by kernel_rfl) rfl (by kernel_rfl) ?_
  refine AX.wkpost ?_
  refine AX.seq ?_
  refine AX.reg (its := []) [0, 1] [] (s1 := ⟨[(0, .bs false 2 (List.map enc_si p1)), (1, .fn 121 [.bp [.v (.string p2)] 0])], []⟩) (C := True) (by kernel_rfl) trivial trivial ?_
  refine AX.seq ?_
  refine AX.seq ?_
  refine AX.reg (its := [.auto {}, .auto { y := some (.v (.int .i64 (p1.length : Int))) }]) [0, 1, 7, 8] [] (s1 := ⟨[(0, .bs false 2 (List.map enc_si p1)), (1, .fn 121 [.bp [.v (.string p2)] 0]), (7, .v (.int .i64 (p1.length : Int))), (8, .v (.int .i64 0))], []⟩) (C := (True ∧ (AV.v (.int .i64 ((List.map enc_si p1).length : Int)) = AV.v (.int .i64 (p1.length : Int)))) ∧ True) (by kernel_rfl) ⟨⟨trivial, len_map enc_si p1⟩, trivial⟩ trivial ?_
  refine AX.block ?_
  obtain ⟨x5, e5, h⟩ := bd_e h
  refine AX.wk (Wk.forget [0, 1, 7, 8] [] (s' := ⟨[(0, .bs false 2 (List.map enc_si p1)), (1, .fn 121 [.bp [.v (.string p2)] 0]), (7, .v (.int .i64 (p1.length : Int))), (8, .v (.int .i64 0))], []⟩) (by kernel_rfl)) ?_
  refine AX.mono (s_slices_IndexFunc_si_named_1_l_L1 p1 p2 FU 0 x5 e5) ?_
  rintro _ _ (⟨x6, rfl, rfl, rfl⟩ | ⟨x7, rfl, rfl, rfl⟩)
  · replace h := sm_l h
    refine fin_wk (Wk.forget [4] [] (s' := ⟨[(4, .v (.int .i64 x6))], []⟩) (by kernel_rfl)) ?_
    have hr := Option.some.inj h
    subst hr
    exact ⟨_, Wk.refl _, .inr rfl, ⟨[], by kernel_rfl, trivial, [.v (.int .i64 x6)], by kernel_rfl, by kernel_rfl⟩⟩
  · replace h := sm_r h
    refine AX.seq ?_
    refine AX.reg (its := []) [4] [] (s1 := ⟨[(4, .v (.int .i64 (-1)))], []⟩) (C := True) (by kernel_rfl) trivial trivial ?_
    refine AX.ret ?_
    refine fin_wk (Wk.forget [4] [] (s' := ⟨[(4, .v (.int .i64 (-1)))], []⟩) (by kernel_rfl)) ?_
    have hr := Option.some.inj h
    subst hr
    exact ⟨_, Wk.refl _, .inr rfl, ⟨[], by kernel_rfl, trivial, [.v (.int .i64 (-1))], by kernel_rfl, by kernel_rfl⟩⟩

theorem s_impl_named (p1 : List (ByteArray × Int)) (p2 : ByteArray) (r : Int) (h : m_impl_named p1 p2 = some r) :
    Eng.Spec Try.prog 105 [.bs false 2 (List.map enc_si p1), .v (.string p2)] [] (.v (.int .i64 r)) [] := by
  unfold m_impl_named at h
  refine Eng.Spec.body Try.func105 (by kernel_rfl) rfl (by kernel_rfl) ?_
  refine AX.wkpost ?_
  refine AX.seq ?_
  refine AX.reg (its := [.auto { nk := 0 }]) [0, 3] [0] (s1 := ⟨[(0, .bs false 2 (List.map enc_si p1)), (3, .pt 0 0)], [(0, .box [.v (.string p2)])]⟩) (C := True) (by kernel_rfl) trivial trivial ?_
  refine AX.seq ?_
  obtain ⟨x3, e1, h⟩ := bd_e h
  refine AX.reg (its := [.auto {}, .auto {}, .call 120 [.bs false 2 (List.map enc_si p1), .fn 121 [.pt 0 0]] (handO (rho ([] ++ [])) [] [] ++ [(0, .box [.v (.string p2)])]) (callEv [] [] (.v (.int .i64 x3)) [])]) [4] [] (s1 := ⟨[(4, .v (.int .i64 x3))], []⟩) (C := ((([.bs false 2 (List.map enc_si p1), .fn 121 [.pt 0 0]] : List AV) = [.bs false 2 (List.map enc_si p1), .fn 121 [.pt 0 0]]) ∧ (AO.box [.v (.string p2)] = AO.box [.v (.string p2)]) ∧ True) ∧ True) (by kernel_rfl) ⟨⟨rfl, rfl, trivial⟩, trivial⟩ ⟨call_ok (ks := []) (ns := []) (bor := [0]) (bobjs := [(0, .box [.v (.string p2)])]) (s_slices_IndexFunc_si_named_1_l p1 p2 x3 e1) (.cons (.c1 (.c0 (.same _ (by kernel_rfl) (by kernel_rfl)))) (.cons (.fn (.cons (.box rfl rfl (.cons (.same _ (by kernel_rfl) (by kernel_rfl)) (.nil))) (.nil))) (.nil))) (by kernel_rfl) trivial, trivial⟩ ?_
  refine AX.ret ?_
  refine fin_wk (Wk.forget [4] [] (s' := ⟨[(4, .v (.int .i64 x3))], []⟩) (by kernel_rfl)) ?_
  have hr := Option.some.inj h
  subst hr
  exact ⟨_, Wk.refl _, .inr rfl, ⟨[], by kernel_rfl, trivial, [.v (.int .i64 x3)], by kernel_rfl, by kernel_rfl⟩⟩

theorem s_impl_defsValid_L1 (p1 : List (ByteArray × Int)) (p2 : Int) (p3 : Int) (n : Nat) (g : Int) (out : Unit ⊕ Unit) (h : m_impl_defsValid_L1 p1 p2 p3 n g = some out) :
    AX Try.prog 41 0 (codeAt [1, 0, 1, 1] (bodyOf Try.f60)) ((fun g : Int => (⟨[(0, .bs false 2 (List.map enc_si p1)), (1, .v (.int .i64 p2)), (2, .v (.int .i64 p3)), (9, .bs false 2 (List.map enc_si p1)), (10, .v (.int .i64 (p1.length : Int))), (11, .v (.int .i64 g))], []⟩ : S)) g) (fun ex s => (∃ o : Unit, out = Sum.inl o ∧ ex = .ret ∧ s = ⟨[(6, .v (.bool false))], []⟩) ∨ (∃ o : Unit, out = Sum.inr o ∧ ex = .exit 0 ∧ s = ⟨[(0, .bs false 2 (List.map enc_si p1))], []⟩)) := by
  refine AX.wkpost ?_
  refine AX.loop (G := Nat × (Int)) (fun q => (fun g : Int => (⟨[(0, .bs false 2 (List.map enc_si p1)), (1, .v (.int .i64 p2)), (2, .v (.int .i64 p3)), (9, .bs false 2 (List.map enc_si p1)), (10, .v (.int .i64 (p1.length : Int))), (11, .v (.int .i64 g))], []⟩ : S)) q.2) (fun q => m_impl_defsValid_L1 p1 p2 p3 q.1 q.2 = some out) (fun q => q.1) (n, g) h (Wk.refl _) ?_
  clear h
  rintro ⟨fu, v4⟩ h
  cases fu with
  | zero => cases h
  | succ fu =>
    rw [m_impl_defsValid_L1] at h
    refine AX.seq ?_
    refine AX.reg (its := []) [0, 1, 2, 9, 10, 11, 12] [] (s1 := ⟨[(0, .bs false 2 (List.map enc_si p1)), (1, .v (.int .i64 p2)), (2, .v (.int .i64 p3)), (9, .bs false 2 (List.map enc_si p1)), (10, .v (.int .i64 (p1.length : Int))), (11, .v (.int .i64 v4)), (12, .v (.bool (decide (v4 < (p1.length : Int)))))], []⟩) (C := True) (by kernel_rfl) trivial trivial ?_
    refine AX.seq ?_
    rcases bool_cases (decide (v4 < (p1.length : Int))) with b1 | b1
    · replace h := cd_t b1 h
      refine AX.condT (decide (v4 < (p1.length : Int))) (by kernel_rfl) b1 ?_
      refine AX.skip ?_
      refine AX.seq ?_
      refine AX.block ?_
      refine AX.seq ?_
      obtain ⟨g2, h⟩ := gd_e h
      refine AX.reg (its := [.auto {}, .auto { y := some (.be 2 (enc_si (gt p1 v4)) 0) }, .auto {}, .auto { nk := 0 }]) [0, 1, 2, 7, 8, 9, 10, 11] [0] (s1 := ⟨[(0, .bs false 2 (List.map enc_si p1)), (1, .v (.int .i64 p2)), (2, .v (.int .i64 p3)), (7, .v (.int .i64 v4)), (8, .pt 0 0), (9, .bs false 2 (List.map enc_si p1)), (10, .v (.int .i64 (p1.length : Int))), (11, .v (.int .i64 v4))], [(0, .box [.v (.string ((gt p1 v4).1)), .v (.int .i64 ((gt p1 v4).2))])]⟩) (C := ((0 ≤ v4 ∧ v4 < ((List.map enc_si p1).length : Int)) ∧ (AV.be 2 ((List.map enc_si p1).getD v4.toNat []) 0 = AV.be 2 (enc_si (gt p1 v4)) 0)) ∧ True) (by kernel_rfl) ⟨idx_bs enc_si p1 v4 2 g2, trivial⟩ trivial ?_
      refine AX.seq ?_
      obtain ⟨x5, e3, h⟩ := bd_e h
      rcases bool_cases ((!x5)) with b4 | b4
      · replace h := cd_t b4 h
        refine AX.drw mixed (its := [.auto {}, .auto {}, .call 104 [.v (.string ((gt p1 v4).1))] (handO (rho ([] ++ [])) [] [] ++ []) (callEv [] [] (.v (.bool x5)) []), .auto { y := some (.v (.bool true)) }]) [0, 1, 2, 9, 10, 11, 36] [] (s1 := ⟨[(0, .bs false 2 (List.map enc_si p1)), (1, .v (.int .i64 p2)), (2, .v (.int .i64 p3)), (9, .bs false 2 (List.map enc_si p1)), (10, .v (.int .i64 (p1.length : Int))), (11, .v (.int .i64 v4)), (36, .v (.bool true))], []⟩) (C := ((([.v (.string ((gt p1 v4).1))] : List AV) = [.v (.string ((gt p1 v4).1))]) ∧ True) ∧ ((True) ∧ ((.v (.bool (!x5)) : AV) = (.v (.bool true) : AV))) ∧ True) (by kernel_rfl) ⟨⟨rfl, trivial⟩, ⟨⟨trivial, (congrArg (fun z => AV.v (.bool z)) b4)⟩, trivial⟩⟩ ⟨call_ok (ks := []) (ns := []) (bor := []) (bobjs := []) (s_impl_ValidName ((gt p1 v4).1) x5 e3) (.cons (.c1 (.c0 (.same _ (by kernel_rfl) (by kernel_rfl)))) (.nil)) (by kernel_rfl) trivial, trivial⟩ ?_
        refine AX.cond_true (by kernel_rfl) ?_
        refine AX.seq ?_
        refine AX.reg (its := []) [6] [] (s1 := ⟨[(6, .v (.bool false))], []⟩) (C := True) (by kernel_rfl) trivial trivial ?_
        refine AX.ret ?_
        refine fin_wk (Wk.forget [6] [] (s' := ⟨[(6, .v (.bool false))], []⟩) (by kernel_rfl)) ?_
        have hr := Option.some.inj h
        subst hr
        exact ⟨_, Wk.refl _, .inl ⟨(), rfl, rfl, rfl⟩⟩
      · replace h := cd_f b4 h
        obtain ⟨x6, e5, h⟩ := bd_e h
        rcases bool_cases ((!x6)) with b6 | b6
        · replace h := cd_t b6 h
          refine AX.drw mixed (its := [.auto {}, .auto {}, .call 104 [.v (.string ((gt p1 v4).1))] (handO (rho ([] ++ [])) [] [] ++ []) (callEv [] [] (.v (.bool x5)) []), .auto { y := some (.v (.bool false)) }, .auto {}, .auto {}, .auto {}, .auto {}, .auto {}, .call 46 [.v (.int .i64 ((gt p1 v4).2)), .v (.int .i64 p2), .v (.int .i64 p3)] (handO (rho ([] ++ [])) [] [] ++ []) (callEv [] [] (.v (.bool x6)) []), .auto { y := some (.v (.bool true)) }]) [0, 1, 2, 9, 10, 11, 36] [] (s1 := ⟨[(0, .bs false 2 (List.map enc_si p1)), (1, .v (.int .i64 p2)), (2, .v (.int .i64 p3)), (9, .bs false 2 (List.map enc_si p1)), (10, .v (.int .i64 (p1.length : Int))), (11, .v (.int .i64 v4)), (36, .v (.bool true))], []⟩) (C := ((([.v (.string ((gt p1 v4).1))] : List AV) = [.v (.string ((gt p1 v4).1))]) ∧ True) ∧ ((True) ∧ ((.v (.bool (!x5)) : AV) = (.v (.bool false) : AV))) ∧ ((([.v (.int .i64 ((gt p1 v4).2)), .v (.int .i64 p2), .v (.int .i64 p3)] : List AV) = [.v (.int .i64 ((gt p1 v4).2)), .v (.int .i64 p2), .v (.int .i64 p3)]) ∧ True) ∧ ((True) ∧ ((.v (.bool (!x6)) : AV) = (.v (.bool true) : AV))) ∧ True) (by kernel_rfl) ⟨⟨rfl, trivial⟩, ⟨⟨trivial, (congrArg (fun z => AV.v (.bool z)) b4)⟩, ⟨⟨rfl, trivial⟩, ⟨⟨trivial, (congrArg (fun z => AV.v (.bool z)) b6)⟩, trivial⟩⟩⟩⟩ ⟨call_ok (ks := []) (ns := []) (bor := []) (bobjs := []) (s_impl_ValidName ((gt p1 v4).1) x5 e3) (.cons (.c1 (.c0 (.same _ (by kernel_rfl) (by kernel_rfl)))) (.nil)) (by kernel_rfl) trivial, ⟨call_ok (ks := []) (ns := []) (bor := []) (bobjs := []) (s_impl_in ((gt p1 v4).2) p2 p3 x6 e5) (.cons (.c1 (.c0 (.same _ (by kernel_rfl) (by kernel_rfl)))) (.cons (.c1 (.c0 (.same _ (by kernel_rfl) (by kernel_rfl)))) (.cons (.c1 (.c0 (.same _ (by kernel_rfl) (by kernel_rfl)))) (.nil)))) (by kernel_rfl) trivial, trivial⟩⟩ ?_
          refine AX.cond_true (by kernel_rfl) ?_
          refine AX.seq ?_
          refine AX.reg (its := []) [6] [] (s1 := ⟨[(6, .v (.bool false))], []⟩) (C := True) (by kernel_rfl) trivial trivial ?_
          refine AX.ret ?_
          refine fin_wk (Wk.forget [6] [] (s' := ⟨[(6, .v (.bool false))], []⟩) (by kernel_rfl)) ?_
          have hr := Option.some.inj h
          subst hr
          exact ⟨_, Wk.refl _, .inl ⟨(), rfl, rfl, rfl⟩⟩
        · replace h := cd_f b6 h
          obtain ⟨g7, h⟩ := gd_e h
          obtain ⟨x7, e8, h⟩ := bd_e h
          refine AX.drw mixed (its := [.auto {}, .auto {}, .call 104 [.v (.string ((gt p1 v4).1))] (handO (rho ([] ++ [])) [] [] ++ []) (callEv [] [] (.v (.bool x5)) []), .auto { y := some (.v (.bool false)) }, .auto {}, .auto {}, .auto {}, .auto {}, .auto {}, .call 46 [.v (.int .i64 ((gt p1 v4).2)), .v (.int .i64 p2), .v (.int .i64 p3)] (handO (rho ([] ++ [])) [] [] ++ []) (callEv [] [] (.v (.bool x6)) []), .auto { y := some (.v (.bool false)) }, .auto {}, .auto {}, .auto {}, .auto {}, .auto { y := some (.bs false 2 (List.map enc_si (sub p1 (0 : Int) v4))) }, .auto {}, .auto {}, .call 105 [.bs false 2 (List.map enc_si (sub p1 (0 : Int) v4)), .v (.string ((gt p1 v4).1))] (handO (rho ([] ++ [])) [] [] ++ []) (callEv [] [] (.v (.int .i64 x7)) [])]) [0, 1, 2, 9, 10, 11, 36] [] (s1 := ⟨[(0, .bs false 2 (List.map enc_si p1)), (1, .v (.int .i64 p2)), (2, .v (.int .i64 p3)), (9, .bs false 2 (List.map enc_si p1)), (10, .v (.int .i64 (p1.length : Int))), (11, .v (.int .i64 v4)), (36, .v (.bool (decide (0 ≤ x7))))], []⟩) (C := ((([.v (.string ((gt p1 v4).1))] : List AV) = [.v (.string ((gt p1 v4).1))]) ∧ True) ∧ ((True) ∧ ((.v (.bool (!x5)) : AV) = (.v (.bool false) : AV))) ∧ ((([.v (.int .i64 ((gt p1 v4).2)), .v (.int .i64 p2), .v (.int .i64 p3)] : List AV) = [.v (.int .i64 ((gt p1 v4).2)), .v (.int .i64 p2), .v (.int .i64 p3)]) ∧ True) ∧ ((True) ∧ ((.v (.bool (!x6)) : AV) = (.v (.bool false) : AV))) ∧ ((0 ≤ (0 : Int) ∧ (0 : Int) ≤ v4 ∧ v4 ≤ ((List.map enc_si p1).length : Int) ∧ ((List.map enc_si p1).length : Int) ≤ ((List.map enc_si p1).length : Int)) ∧ (AV.bs false 2 (((List.map enc_si p1).drop (0 : Int).toNat).take (v4.toNat - (0 : Int).toNat)) = (.bs false 2 (List.map enc_si (sub p1 (0 : Int) v4)) : AV))) ∧ ((([.bs false 2 (List.map enc_si (sub p1 (0 : Int) v4)), .v (.string ((gt p1 v4).1))] : List AV) = [.bs false 2 (List.map enc_si (sub p1 (0 : Int) v4)), .v (.string ((gt p1 v4).1))]) ∧ True) ∧ True) (by kernel_rfl) ⟨⟨rfl, trivial⟩, ⟨⟨trivial, (congrArg (fun z => AV.v (.bool z)) b4)⟩, ⟨⟨rfl, trivial⟩, ⟨⟨trivial, (congrArg (fun z => AV.v (.bool z)) b6)⟩, ⟨⟨by first | exact g7 | simpa only [List.length_map] using g7, by first | exact sub_can enc_si p1 (0 : Int) v4 false 2 | (simp only [List.length_map]; exact sub_can enc_si p1 (0 : Int) v4 false 2)⟩, ⟨⟨rfl, trivial⟩, trivial⟩⟩⟩⟩⟩⟩ ⟨call_ok (ks := []) (ns := []) (bor := []) (bobjs := []) (s_impl_ValidName ((gt p1 v4).1) x5 e3) (.cons (.c1 (.c0 (.same _ (by kernel_rfl) (by kernel_rfl)))) (.nil)) (by kernel_rfl) trivial, ⟨call_ok (ks := []) (ns := []) (bor := []) (bobjs := []) (s_impl_in ((gt p1 v4).2) p2 p3 x6 e5) (.cons (.c1 (.c0 (.same _ (by kernel_rfl) (by kernel_rfl)))) (.cons (.c1 (.c0 (.same _ (by kernel_rfl) (by kernel_rfl)))) (.cons (.c1 (.c0 (.same _ (by kernel_rfl) (by kernel_rfl)))) (.nil)))) (by kernel_rfl) trivial, ⟨call_ok (ks := []) (ns := []) (bor := []) (bobjs := []) (s_impl_named (sub p1 (0 : Int) v4) ((gt p1 v4).1) x7 e8) (.cons (.c1 (.c0 (.same _ (by kernel_rfl) (by kernel_rfl)))) (.cons (.c1 (.c0 (.same _ (by kernel_rfl) (by kernel_rfl)))) (.nil))) (by kernel_rfl) trivial, trivial⟩⟩⟩ ?_
          rcases bool_cases (decide (0 ≤ x7)) with b9 | b9
          · replace h := cd_t b9 h
            refine AX.condT (decide (0 ≤ x7)) (by kernel_rfl) b9 ?_
            refine AX.seq ?_
            refine AX.reg (its := []) [6] [] (s1 := ⟨[(6, .v (.bool false))], []⟩) (C := True) (by kernel_rfl) trivial trivial ?_
            refine AX.ret ?_
            refine fin_wk (Wk.forget [6] [] (s' := ⟨[(6, .v (.bool false))], []⟩) (by kernel_rfl)) ?_
            have hr := Option.some.inj h
            subst hr
            exact ⟨_, Wk.refl _, .inl ⟨(), rfl, rfl, rfl⟩⟩
          · replace h := cd_f b9 h
            refine AX.condF (decide (0 ≤ x7)) (by kernel_rfl) b9 ?_
            refine AX.skip ?_
            refine AX.reg (its := [.auto { raw := true }]) [0, 1, 2, 9, 10, 11] [] (s1 := ⟨[(0, .bs false 2 (List.map enc_si p1)), (1, .v (.int .i64 p2)), (2, .v (.int .i64 p3)), (9, .bs false 2 (List.map enc_si p1)), (10, .v (.int .i64 (p1.length : Int))), (11, .v (.int .i64 (IntKind.wrap .i64 (v4 + 1))))], []⟩) (C := True) (by kernel_rfl) trivial trivial ?_
            refine ⟨(fu, IntKind.wrap .i64 (v4 + 1)), h, Nat.lt_succ_self _, ?_⟩
            refine Wk.trans (Wk.forget [0, 1, 2, 9, 10, 11] [] (s' := ⟨[(0, .bs false 2 (List.map enc_si p1)), (1, .v (.int .i64 p2)), (2, .v (.int .i64 p3)), (9, .bs false 2 (List.map enc_si p1)), (10, .v (.int .i64 (p1.length : Int))), (11, .v (.int .i64 (IntKind.wrap .i64 (v4 + 1))))], []⟩) (by kernel_rfl)) ?_
            exact Wk.refl _
    · replace h := cd_f b1 h
      refine AX.condF (decide (v4 < (p1.length : Int))) (by kernel_rfl) b1 ?_
      refine AX.exit ?_
      refine fin_wk (Wk.forget [0] [] (s' := ⟨[(0, .bs false 2 (List.map enc_si p1))], []⟩) (by kernel_rfl)) ?_
      have hr := Option.some.inj h
      subst hr
      exact ⟨_, Wk.refl _, .inr ⟨(), rfl, rfl, rfl⟩⟩

theorem s_impl_defsValid (p1 : List (ByteArray × Int)) (p2 : Int) (p3 : Int) (r : Bool) (h : m_impl_defsValid p1 p2 p3 = some r) :
    Eng.Spec Try.prog 60 [.bs false 2 (List.map enc_si p1), .v (.int .i64 p2), .v (.int .i64 p3)] [] (.v (.bool r)) [] := by
  unfold m_impl_defsValid at h
  refine Eng.Spec.body Try.func60 (by kernel_rfl) rfl (by kernel_rfl) ?_
  refine AX.wkpost ?_
  refine AX.seq ?_
  refine AX.reg (its := []) [0, 1, 2] [] (s1 := ⟨[(0, .bs false 2 (List.map enc_si p1)), (1, .v (.int .i64 p2)), (2, .v (.int .i64 p3))], []⟩) (C := True) (by kernel_rfl) trivial trivial ?_
  refine AX.seq ?_
  refine AX.seq ?_
  refine AX.reg (its := [.auto {}, .auto { y := some (.v (.int .i64 (p1.length : Int))) }]) [0, 1, 2, 9, 10, 11] [] (s1 := ⟨[(0, .bs false 2 (List.map enc_si p1)), (1, .v (.int .i64 p2)), (2, .v (.int .i64 p3)), (9, .bs false 2 (List.map enc_si p1)), (10, .v (.int .i64 (p1.length : Int))), (11, .v (.int .i64 0))], []⟩) (C := (True ∧ (AV.v (.int .i64 ((List.map enc_si p1).length : Int)) = AV.v (.int .i64 (p1.length : Int)))) ∧ True) (by kernel_rfl) ⟨⟨trivial, len_map enc_si p1⟩, trivial⟩ trivial ?_
  refine AX.block ?_
  obtain ⟨x8, e10, h⟩ := bd_e h
  refine AX.wk (Wk.forget [0, 1, 2, 9, 10, 11] [] (s' := ⟨[(0, .bs false 2 (List.map enc_si p1)), (1, .v (.int .i64 p2)), (2, .v (.int .i64 p3)), (9, .bs false 2 (List.map enc_si p1)), (10, .v (.int .i64 (p1.length : Int))), (11, .v (.int .i64 0))], []⟩) (by kernel_rfl)) ?_
  refine AX.mono (s_impl_defsValid_L1 p1 p2 p3 FU 0 x8 e10) ?_
  rintro _ _ (⟨x9, rfl, rfl, rfl⟩ | ⟨x10, rfl, rfl, rfl⟩)
  · replace h := sm_l h
    refine fin_wk (Wk.forget [6] [] (s' := ⟨[(6, .v (.bool false))], []⟩) (by kernel_rfl)) ?_
    have hr := Option.some.inj h
    subst hr
    exact ⟨_, Wk.refl _, .inr rfl, ⟨[], by kernel_rfl, trivial, [.v (.bool false)], by kernel_rfl, by kernel_rfl⟩⟩
  · replace h := sm_r h
    refine AX.seq ?_
    refine AX.reg (its := [.auto {}, .auto { y := some (.v (.int .i64 (p1.length : Int))) }]) [6] [] (s1 := ⟨[(6, .v (.bool (decide ((p1.length : Int) ≤ 12))))], []⟩) (C := (True ∧ (AV.v (.int .i64 ((List.map enc_si p1).length : Int)) = AV.v (.int .i64 (p1.length : Int)))) ∧ True) (by kernel_rfl) ⟨⟨trivial, len_map enc_si p1⟩, trivial⟩ trivial ?_
    refine AX.ret ?_
    refine fin_wk (Wk.forget [6] [] (s' := ⟨[(6, .v (.bool (decide ((p1.length : Int) ≤ 12))))], []⟩) (by kernel_rfl)) ?_
    have hr := Option.some.inj h
    subst hr
    exact ⟨_, Wk.refl _, .inr rfl, ⟨[], by kernel_rfl, trivial, [.v (.bool (decide ((p1.length : Int) ≤ 12)))], by kernel_rfl, by kernel_rfl⟩⟩

theorem s_impl_ValidFlag (p1 : List (ByteArray × Int)) (p2 : Int) (r : Bool) (h : m_impl_ValidFlag p1 p2 = some r) :
    Eng.Spec Try.prog 20 [.agg [.bs false 2 (List.map enc_si p1), .v (.int .i64 p2)]] [] (.v (.bool r)) [] := by
  unfold m_impl_ValidFlag at h
  refine Eng.Spec.body Try.func20 (by kernel_rfl) rfl (by kernel_rfl) ?_
  refine AX.wkpost ?_
  refine AX.seq ?_
  refine AX.reg (its := [.auto { nk := 0 }]) [1] [0] (s1 := ⟨[(1, .pt 0 0)], [(0, .box [.bs false 2 (List.map enc_si p1), .v (.int .i64 p2)])]⟩) (C := True) (by kernel_rfl) trivial trivial ?_
  refine AX.seq ?_
  obtain ⟨x3, e1, h⟩ := bd_e h
  rcases bool_cases (x3) with b2 | b2
  · replace h := cd_t b2 h
    obtain ⟨x4, e3, h⟩ := bd_e h
    refine AX.reg (its := [.auto {}, .auto {}, .call 60 [.bs false 2 (List.map enc_si p1), .v (.int .i64 0), .v (.int .i64 4095)] (handO (rho ([] ++ [])) [] [] ++ []) (callEv [] [] (.v (.bool true)) []), .auto {}, .auto {}, .auto {}, .call 46 [.v (.int .i64 p2), .v (.int .i64 0), .v (.int .i64 3)] (handO (rho ([] ++ [])) [] [] ++ []) (callEv [] [] (.v (.bool x4)) [])]) [2] [] (s1 := ⟨[(2, .v (.bool x4))], []⟩) (C := ((([.bs false 2 (List.map enc_si p1), .v (.int .i64 0), .v (.int .i64 4095)] : List AV) = [.bs false 2 (List.map enc_si p1), .v (.int .i64 0), .v (.int .i64 4095)]) ∧ True) ∧ ((([.v (.int .i64 p2), .v (.int .i64 0), .v (.int .i64 3)] : List AV) = [.v (.int .i64 p2), .v (.int .i64 0), .v (.int .i64 3)]) ∧ True) ∧ True) (by kernel_rfl) ⟨⟨rfl, trivial⟩, ⟨⟨rfl, trivial⟩, trivial⟩⟩ ⟨call_ok (ks := []) (ns := []) (bor := []) (bobjs := []) (show Eng.Spec Try.prog 60 [.bs false 2 (List.map enc_si p1), .v (.int .i64 0), .v (.int .i64 4095)] [] (.v (.bool true)) [] from by have q := s_impl_defsValid p1 0 4095 x3 e1; rw [b2] at q; exact q) (.cons (.c1 (.c0 (.same _ (by kernel_rfl) (by kernel_rfl)))) (.cons (.c1 (.c0 (.same _ (by kernel_rfl) (by kernel_rfl)))) (.cons (.c1 (.c0 (.same _ (by kernel_rfl) (by kernel_rfl)))) (.nil)))) (by kernel_rfl) trivial, ⟨call_ok (ks := []) (ns := []) (bor := []) (bobjs := []) (s_impl_in p2 0 3 x4 e3) (.cons (.c1 (.c0 (.same _ (by kernel_rfl) (by kernel_rfl)))) (.cons (.c1 (.c0 (.same _ (by kernel_rfl) (by kernel_rfl)))) (.cons (.c1 (.c0 (.same _ (by kernel_rfl) (by kernel_rfl)))) (.nil)))) (by kernel_rfl) trivial, trivial⟩⟩ ?_
    refine AX.ret ?_
    refine fin_wk (Wk.forget [2] [] (s' := ⟨[(2, .v (.bool x4))], []⟩) (by kernel_rfl)) ?_
    have hr := Option.some.inj h
    subst hr
    exact ⟨_, Wk.refl _, .inr rfl, ⟨[], by kernel_rfl, trivial, [.v (.bool x4)], by kernel_rfl, by kernel_rfl⟩⟩
  · replace h := cd_f b2 h
    refine AX.reg (its := [.auto {}, .auto {}, .call 60 [.bs false 2 (List.map enc_si p1), .v (.int .i64 0), .v (.int .i64 4095)] (handO (rho ([] ++ [])) [] [] ++ []) (callEv [] [] (.v (.bool false)) [])]) [2] [] (s1 := ⟨[(2, .v (.bool false))], []⟩) (C := ((([.bs false 2 (List.map enc_si p1), .v (.int .i64 0), .v (.int .i64 4095)] : List AV) = [.bs false 2 (List.map enc_si p1), .v (.int .i64 0), .v (.int .i64 4095)]) ∧ True) ∧ True) (by kernel_rfl) ⟨⟨rfl, trivial⟩, trivial⟩ ⟨call_ok (ks := []) (ns := []) (bor := []) (bobjs := []) (show Eng.Spec Try.prog 60 [.bs false 2 (List.map enc_si p1), .v (.int .i64 0), .v (.int .i64 4095)] [] (.v (.bool false)) [] from by have q := s_impl_defsValid p1 0 4095 x3 e1; rw [b2] at q; exact q) (.cons (.c1 (.c0 (.same _ (by kernel_rfl) (by kernel_rfl)))) (.cons (.c1 (.c0 (.same _ (by kernel_rfl) (by kernel_rfl)))) (.cons (.c1 (.c0 (.same _ (by kernel_rfl) (by kernel_rfl)))) (.nil)))) (by kernel_rfl) trivial, trivial⟩ ?_
    refine AX.ret ?_
    refine fin_wk (Wk.forget [2] [] (s' := ⟨[(2, .v (.bool false))], []⟩) (by kernel_rfl)) ?_
    have hr := Option.some.inj h
    subst hr
    exact ⟨_, Wk.refl _, .inr rfl, ⟨[], by kernel_rfl, trivial, [.v (.bool false)], by kernel_rfl, by kernel_rfl⟩⟩

theorem s_impl_flagOf (p1 : List (ByteArray × Int)) (p2 : Int) (p3 : Bool) (r : (List (ByteArray × Int)) × Int × Bool) (h : m_impl_flagOf p1 p2 p3 = some r) :
    Eng.Spec Try.prog 53 [.bs false 2 (List.map enc_si p1), .v (.int .i64 p2), .v (.bool p3)] [] (.tup [.agg [.sl 0 0 r.1.length, .v (.int .i64 r.2.1)], .v (.bool r.2.2)]) [.arr 2 (List.map enc_si r.1)] := by
  unfold m_impl_flagOf at h
  refine Eng.Spec.body Try.func53 (by kernel_rfl) rfl (by kernel_rfl) ?_
  refine AX.wkpost ?_
  refine AX.seq ?_
  refine AX.reg (its := [.auto { nk := 0 }]) [0, 1, 2, 6] [0] (s1 := ⟨[(0, .bs false 2 (List.map enc_si p1)), (1, .v (.int .i64 p2)), (2, .v (.bool p3)), (6, .pt 0 0)], [(0, .box [.v (.slice none 0 0), .v (.int .i64 0)])]⟩) (C := True) (by kernel_rfl) trivial trivial ?_
  refine AX.seq ?_
  refine AX.seq ?_
  obtain ⟨x4, e1, h⟩ := bd_e h
  refine AX.reg (its := [.auto {}, .call 98 [.bs false 2 (List.map enc_si p1)] (handO (rho ([] ++ [1])) [] [] ++ []) (callEv [] [1] (.sl 0 0 x4.length) [.arr 2 (List.map enc_si x4)]), .auto {}, .auto {}, .auto { nk := 2 }]) [2, 6, 8] [0, 1, 2] (s1 := ⟨[(2, .v (.bool p3)), (6, .pt 0 0), (8, .pt 2 0)], [(0, .box [.v (.slice none 0 0), .v (.int .i64 0)]), (1, .arr 2 (List.map enc_si x4)), (2, .box [.sl 1 0 x4.length, .v (.int .i64 p2)])]⟩) (C := ((([.bs false 2 (List.map enc_si p1)] : List AV) = [.bs false 2 (List.map enc_si p1)]) ∧ True) ∧ True) (by kernel_rfl) ⟨⟨rfl, trivial⟩, trivial⟩ ⟨call_ok (ks := []) (ns := [1]) (bor := []) (bobjs := []) (s_impl_clone_si p1 x4 e1) (.cons (.c1 (.c0 (.same _ (by kernel_rfl) (by kernel_rfl)))) (.nil)) (by kernel_rfl) trivial, trivial⟩ ?_
  refine AX.seq ?_
  rcases bool_cases (p3) with b2 | b2
  · replace h := cd_t b2 h
    obtain ⟨x5, e3, h⟩ := bd_e h
    refine AX.reg (its := [.auto { y := some (.v (.bool true)) }, .auto {}, .auto {}, .call 20 [.agg [.sl 1 0 x4.length, .v (.int .i64 p2)]] (handO (rho ([] ++ [])) [] [] ++ [(1, .arr 2 (List.map enc_si x4))]) (callEv [] [] (.v (.bool x5)) [])]) [6, 8, 17] [0, 1, 2] (s1 := ⟨[(6, .pt 0 0), (8, .pt 2 0), (17, .v (.bool x5))], [(0, .box [.v (.slice none 0 0), .v (.int .i64 0)]), (1, .arr 2 (List.map enc_si x4)), (2, .box [.sl 1 0 x4.length, .v (.int .i64 p2)])]⟩) (C := ((True) ∧ ((.v (.bool p3) : AV) = (.v (.bool true) : AV))) ∧ ((([.agg [.sl 1 0 x4.length, .v (.int .i64 p2)]] : List AV) = [.agg [.sl 1 0 x4.length, .v (.int .i64 p2)]]) ∧ (AO.arr 2 (List.map enc_si x4) = AO.arr 2 (List.map enc_si x4)) ∧ True) ∧ True) (by kernel_rfl) ⟨⟨trivial, (congrArg (fun z => AV.v (.bool z)) b2)⟩, ⟨⟨rfl, rfl, trivial⟩, trivial⟩⟩ ⟨call_ok (ks := []) (ns := []) (bor := [1]) (bobjs := [(1, .arr 2 (List.map enc_si x4))]) (s_impl_ValidFlag x4 p2 x5 e3) (.cons (.c1 (.agg (.cons (.arr rfl rfl ((rfl).trans (List.length_map ..).symm)) (.cons (.same _ (by kernel_rfl) (by kernel_rfl)) (.nil))))) (.nil)) (by kernel_rfl) trivial, trivial⟩ ?_
    rcases bool_cases (x5) with b4 | b4
    · replace h := cd_t b4 h
      refine AX.condT (x5) (by kernel_rfl) b4 ?_
      refine AX.seq ?_
      refine AX.reg (its := []) [6, 7] [0, 1] (s1 := ⟨[(6, .pt 0 0), (7, .v (.bool true))], [(0, .box [.sl 1 0 x4.length, .v (.int .i64 p2)]), (1, .arr 2 (List.map enc_si x4))]⟩) (C := True) (by kernel_rfl) trivial trivial ?_
      refine AX.ret ?_
      refine fin_wk (Wk.forget [6, 7] [0, 1] (s' := ⟨[(6, .pt 0 0), (7, .v (.bool true))], [(0, .box [.sl 1 0 x4.length, .v (.int .i64 p2)]), (1, .arr 2 (List.map enc_si x4))]⟩) (by kernel_rfl)) ?_
      have hr := Option.some.inj h
      subst hr
      exact ⟨_, Wk.refl _, .inr rfl, ⟨[1], by kernel_rfl, ⟨rfl, trivial⟩, [.agg [.sl 1 0 x4.length, .v (.int .i64 p2)], .v (.bool true)], by kernel_rfl, by kernel_rfl⟩⟩
    · replace h := cd_f b4 h
      refine AX.condF (x5) (by kernel_rfl) b4 ?_
      refine AX.skip ?_
      refine AX.seq ?_
      refine AX.reg (its := []) [6, 7] [0] (s1 := ⟨[(6, .pt 0 0), (7, .v (.bool false))], [(0, .box [.v (.slice none 0 0), .v (.int .i64 0)])]⟩) (C := True) (by kernel_rfl) trivial trivial ?_
      refine AX.ret ?_
      refine fin_wk (Wk.matB 0 0 1 2 (cs := [.v (.slice none 0 0), .v (.int .i64 0)]) (by kernel_rfl) (by kernel_rfl) (Nat.le_of_ble_eq_true (by kernel_rfl)) (by kernel_rfl) (by decide) rfl) ?_
      refine fin_wk (Wk.forget [6, 7] [0, 1] (s' := ⟨[(6, .pt 0 0), (7, .v (.bool false))], [(0, .box [.sl 1 0 (([] : List (ByteArray × Int)).length), .v (.int .i64 0)]), (1, .arr 2 (List.map enc_si ([] : List (ByteArray × Int))))]⟩) (by kernel_rfl)) ?_
      have hr := Option.some.inj h
      subst hr
      exact ⟨_, Wk.refl _, .inr rfl, ⟨[1], by kernel_rfl, ⟨rfl, trivial⟩, [.agg [.sl 1 0 (([] : List (ByteArray × Int)).length), .v (.int .i64 0)], .v (.bool false)], by kernel_rfl, by kernel_rfl⟩⟩
  · replace h := cd_f b2 h
    refine AX.reg (its := [.auto { y := some (.v (.bool false)) }]) [6, 8, 17] [0, 1, 2] (s1 := ⟨[(6, .pt 0 0), (8, .pt 2 0), (17, .v (.bool false))], [(0, .box [.v (.slice none 0 0), .v (.int .i64 0)]), (1, .arr 2 (List.map enc_si x4)), (2, .box [.sl 1 0 x4.length, .v (.int .i64 p2)])]⟩) (C := ((True) ∧ ((.v (.bool p3) : AV) = (.v (.bool false) : AV))) ∧ True) (by kernel_rfl) ⟨⟨trivial, (congrArg (fun z => AV.v (.bool z)) b2)⟩, trivial⟩ trivial ?_
    refine AX.cond_false (by kernel_rfl) ?_
    refine AX.skip ?_
    refine AX.seq ?_
    refine AX.reg (its := []) [6, 7] [0] (s1 := ⟨[(6, .pt 0 0), (7, .v (.bool false))], [(0, .box [.v (.slice none 0 0), .v (.int .i64 0)])]⟩) (C := True) (by kernel_rfl) trivial trivial ?_
    refine AX.ret ?_
    refine fin_wk (Wk.matB 0 0 1 2 (cs := [.v (.slice none 0 0), .v (.int .i64 0)]) (by kernel_rfl) (by kernel_rfl) (Nat.le_of_ble_eq_true (by kernel_rfl)) (by kernel_rfl) (by decide) rfl) ?_
    refine fin_wk (Wk.forget [6, 7] [0, 1] (s' := ⟨[(6, .pt 0 0), (7, .v (.bool false))], [(0, .box [.sl 1 0 (([] : List (ByteArray × Int)).length), .v (.int .i64 0)]), (1, .arr 2 (List.map enc_si ([] : List (ByteArray × Int))))]⟩) (by kernel_rfl)) ?_
    have hr := Option.some.inj h
    subst hr
    exact ⟨_, Wk.refl _, .inr rfl, ⟨[1], by kernel_rfl, ⟨rfl, trivial⟩, [.agg [.sl 1 0 (([] : List (ByteArray × Int)).length), .v (.int .i64 0)], .v (.bool false)], by kernel_rfl, by kernel_rfl⟩⟩

theorem s_impl_BuildFlag (p1 : List (ByteArray × Bool × Int)) (p2 : Int) (r : (List (ByteArray × Int)) × Int × Bool) (h : m_impl_BuildFlag p1 p2 = some r) :
    Eng.Spec Try.prog 15 [.bs false 3 (List.map enc_sbi p1), .v (.int .i64 p2)] [] (.tup [.agg [.sl 0 0 r.1.length, .v (.int .i64 r.2.1)], .v (.bool r.2.2)]) [.arr 2 (List.map enc_si r.1)] := by
  unfold m_impl_BuildFlag at h
  refine Eng.Spec.body Try.func15 (by kernel_rfl) rfl (by kernel_rfl) ?_
  refine AX.wkpost ?_
  refine AX.seq ?_
  refine AX.reg (its := [.auto { nk := 0 }]) [0, 1, 4] [0] (s1 := ⟨[(0, .bs false 3 (List.map enc_sbi p1)), (1, .v (.int .i64 p2)), (4, .pt 0 0)], [(0, .box [.v (.slice none 0 0), .v (.int .i64 0)])]⟩) (C := True) (by kernel_rfl) trivial trivial ?_
  refine AX.seq ?_
  refine AX.seq ?_
  refine AX.reg (its := [.auto {}, .auto { y := some (.v (.int .i64 (p1.length : Int))) }]) [0, 1, 4, 10] [0] (s1 := ⟨[(0, .bs false 3 (List.map enc_sbi p1)), (1, .v (.int .i64 p2)), (4, .pt 0 0), (10, .v (.bool (decide (12 < (p1.length : Int)))))], [(0, .box [.v (.slice none 0 0), .v (.int .i64 0)])]⟩) (C := (True ∧ (AV.v (.int .i64 ((List.map enc_sbi p1).length : Int)) = AV.v (.int .i64 (p1.length : Int)))) ∧ True) (by kernel_rfl) ⟨⟨trivial, len_map enc_sbi p1⟩, trivial⟩ trivial ?_
  rcases bool_cases (decide (12 < (p1.length : Int))) with b1 | b1
  · replace h := cd_t b1 h
    refine AX.condT (decide (12 < (p1.length : Int))) (by kernel_rfl) b1 ?_
    refine AX.seq ?_
    refine AX.reg (its := []) [4, 5] [0] (s1 := ⟨[(4, .pt 0 0), (5, .v (.bool false))], [(0, .box [.v (.slice none 0 0), .v (.int .i64 0)])]⟩) (C := True) (by kernel_rfl) trivial trivial ?_
    refine AX.ret ?_
    refine fin_wk (Wk.matB 0 0 1 2 (cs := [.v (.slice none 0 0), .v (.int .i64 0)]) (by kernel_rfl) (by kernel_rfl) (Nat.le_of_ble_eq_true (by kernel_rfl)) (by kernel_rfl) (by decide) rfl) ?_
    refine fin_wk (Wk.forget [4, 5] [0, 1] (s' := ⟨[(4, .pt 0 0), (5, .v (.bool false))], [(0, .box [.sl 1 0 (([] : List (ByteArray × Int)).length), .v (.int .i64 0)]), (1, .arr 2 (List.map enc_si ([] : List (ByteArray × Int))))]⟩) (by kernel_rfl)) ?_
    have hr := Option.some.inj h
    subst hr
    exact ⟨_, Wk.refl _, .inr rfl, ⟨[1], by kernel_rfl, ⟨rfl, trivial⟩, [.agg [.sl 1 0 (([] : List (ByteArray × Int)).length), .v (.int .i64 0)], .v (.bool false)], by kernel_rfl, by kernel_rfl⟩⟩
  · replace h := cd_f b1 h
    refine AX.condF (decide (12 < (p1.length : Int))) (by kernel_rfl) b1 ?_
    refine AX.skip ?_
    refine AX.seq ?_
    obtain ⟨x3, e2, h⟩ := bd_e h
    refine AX.reg (its := [.auto {}, .call 49 [.bs false 3 (List.map enc_sbi p1), .fn 50 []] (handO (rho ([] ++ [1])) [] [] ++ []) (callEv [] [1] (.tup [.sl 0 0 x3.1.length, .v (.bool x3.2)]) [.arr 2 (List.map enc_si x3.1)])]) [1, 4, 6, 7] [0, 1] (s1 := ⟨[(1, .v (.int .i64 p2)), (4, .pt 0 0), (6, .sl 1 0 x3.1.length), (7, .v (.bool x3.2))], [(0, .box [.v (.slice none 0 0), .v (.int .i64 0)]), (1, .arr 2 (List.map enc_si x3.1))]⟩) (C := ((([.bs false 3 (List.map enc_sbi p1), .fn 50 []] : List AV) = [.bs false 3 (List.map enc_sbi p1), .fn 50 []]) ∧ True) ∧ True) (by kernel_rfl) ⟨⟨rfl, trivial⟩, trivial⟩ ⟨call_ok (ks := []) (ns := [1]) (bor := []) (bobjs := []) (s_impl_build_BuildFlag_1 p1 x3 e2) (.cons (.c1 (.c0 (.same _ (by kernel_rfl) (by kernel_rfl)))) (.cons (.fn (.nil)) (.nil))) (by kernel_rfl) trivial, trivial⟩ ?_
    refine AX.seq ?_
    obtain ⟨x4, e3, h⟩ := bd_e h
    refine AX.reg (its := [.auto {}, .auto {}, .auto {}, .call 53 [.sl 1 0 x3.1.length, .v (.int .i64 p2), .v (.bool x3.2)] (handO (rho ([] ++ [2])) [] [] ++ [(1, .arr 2 (List.map enc_si x3.1))]) (callEv [] [2] (.tup [.agg [.sl 0 0 x4.1.length, .v (.int .i64 x4.2.1)], .v (.bool x4.2.2)]) [.arr 2 (List.map enc_si x4.1)])]) [4, 5] [0, 2] (s1 := ⟨[(4, .pt 0 0), (5, .v (.bool x4.2.2))], [(0, .box [.sl 2 0 x4.1.length, .v (.int .i64 x4.2.1)]), (2, .arr 2 (List.map enc_si x4.1))]⟩) (C := ((([.sl 1 0 x3.1.length, .v (.int .i64 p2), .v (.bool x3.2)] : List AV) = [.sl 1 0 x3.1.length, .v (.int .i64 p2), .v (.bool x3.2)]) ∧ (AO.arr 2 (List.map enc_si x3.1) = AO.arr 2 (List.map enc_si x3.1)) ∧ True) ∧ True) (by kernel_rfl) ⟨⟨rfl, rfl, trivial⟩, trivial⟩ ⟨call_ok (ks := []) (ns := [2]) (bor := [1]) (bobjs := [(1, .arr 2 (List.map enc_si x3.1))]) (s_impl_flagOf x3.1 p2 x3.2 x4 e3) (.cons (.c1 (.c0 (.arr rfl rfl ((rfl).trans (List.length_map ..).symm)))) (.cons (.c1 (.c0 (.same _ (by kernel_rfl) (by kernel_rfl)))) (.cons (.c1 (.c0 (.same _ (by kernel_rfl) (by kernel_rfl)))) (.nil)))) (by kernel_rfl) trivial, trivial⟩ ?_
    refine AX.ret ?_
    refine fin_wk (Wk.swap 1 2 (Nat.le_of_ble_eq_true (by kernel_rfl)) (Nat.le_of_ble_eq_true (by kernel_rfl)) rfl) ?_
    refine fin_wk (Wk.forget [4, 5] [0, 1] (s' := ⟨[(4, .pt 0 0), (5, .v (.bool x4.2.2))], [(0, .box [.sl 1 0 x4.1.length, .v (.int .i64 x4.2.1)]), (1, .arr 2 (List.map enc_si x4.1))]⟩) (by kernel_rfl)) ?_
    have hr := Option.some.inj h
    subst hr
    exact ⟨_, Wk.refl _, .inr rfl, ⟨[1], by kernel_rfl, ⟨rfl, trivial⟩, [.agg [.sl 1 0 x4.1.length, .v (.int .i64 x4.2.1)], .v (.bool x4.2.2)], by kernel_rfl, by kernel_rfl⟩⟩

theorem s_laws_eqDef (p1 : ByteArray) (p2 : Int) (p3 : ByteArray) (p4 : Int) (r : Bool) (h : m_laws_eqDef p1 p2 p3 p4 = some r) :
    Eng.Spec Try.prog 106 [.agg [.v (.string p1), .v (.int .i64 p2)], .agg [.v (.string p3), .v (.int .i64 p4)]] [] (.v (.bool r)) [] := by
  unfold m_laws_eqDef at h
  refine Eng.Spec.body Try.func106 (by kernel_rfl) rfl (by kernel_rfl) ?_
  refine AX.wkpost ?_
  refine AX.seq ?_
  refine AX.reg (its := [.auto { nk := 0 }, .auto { nk := 1 }]) [2, 3] [0, 1] (s1 := ⟨[(2, .pt 0 0), (3, .pt 1 0)], [(0, .box [.v (.string p1), .v (.int .i64 p2)]), (1, .box [.v (.string p3), .v (.int .i64 p4)])]⟩) (C := True) (by kernel_rfl) trivial trivial ?_
  refine AX.seq ?_
  refine AX.seq ?_
  refine AX.reg (its := []) [2, 3, 9] [0, 1] (s1 := ⟨[(2, .pt 0 0), (3, .pt 1 0), (9, .v (.bool (!decide (p1 = p3))))], [(0, .box [.v (.string p1), .v (.int .i64 p2)]), (1, .box [.v (.string p3), .v (.int .i64 p4)])]⟩) (C := True) (by kernel_rfl) trivial trivial ?_
  rcases bool_cases ((!decide (p1 = p3))) with b1 | b1
  · replace h := cd_t b1 h
    refine AX.condT ((!decide (p1 = p3))) (by kernel_rfl) b1 ?_
    refine AX.seq ?_
    refine AX.reg (its := []) [4] [] (s1 := ⟨[(4, .v (.bool false))], []⟩) (C := True) (by kernel_rfl) trivial trivial ?_
    refine AX.ret ?_
    refine fin_wk (Wk.forget [4] [] (s' := ⟨[(4, .v (.bool false))], []⟩) (by kernel_rfl)) ?_
    have hr := Option.some.inj h
    subst hr
    exact ⟨_, Wk.refl _, .inr rfl, ⟨[], by kernel_rfl, trivial, [.v (.bool false)], by kernel_rfl, by kernel_rfl⟩⟩
  · replace h := cd_f b1 h
    refine AX.condF ((!decide (p1 = p3))) (by kernel_rfl) b1 ?_
    refine AX.skip ?_
    refine AX.seq ?_
    refine AX.seq ?_
    refine AX.reg (its := []) [14] [] (s1 := ⟨[(14, .v (.bool (!decide (p2 = p4))))], []⟩) (C := True) (by kernel_rfl) trivial trivial ?_
    rcases bool_cases ((!decide (p2 = p4))) with b2 | b2
    · replace h := cd_t b2 h
      refine AX.condT ((!decide (p2 = p4))) (by kernel_rfl) b2 ?_
      refine AX.seq ?_
      refine AX.reg (its := []) [4] [] (s1 := ⟨[(4, .v (.bool false))], []⟩) (C := True) (by kernel_rfl) trivial trivial ?_
      refine AX.ret ?_
      refine fin_wk (Wk.forget [4] [] (s' := ⟨[(4, .v (.bool false))], []⟩) (by kernel_rfl)) ?_
      have hr := Option.some.inj h
      subst hr
      exact ⟨_, Wk.refl _, .inr rfl, ⟨[], by kernel_rfl, trivial, [.v (.bool false)], by kernel_rfl, by kernel_rfl⟩⟩
    · replace h := cd_f b2 h
      refine AX.condF ((!decide (p2 = p4))) (by kernel_rfl) b2 ?_
      refine AX.skip ?_
      refine AX.seq ?_
      refine AX.reg (its := []) [4] [] (s1 := ⟨[(4, .v (.bool true))], []⟩) (C := True) (by kernel_rfl) trivial trivial ?_
      refine AX.ret ?_
      refine fin_wk (Wk.forget [4] [] (s' := ⟨[(4, .v (.bool true))], []⟩) (by kernel_rfl)) ?_
      have hr := Option.some.inj h
      subst hr
      exact ⟨_, Wk.refl _, .inr rfl, ⟨[], by kernel_rfl, trivial, [.v (.bool true)], by kernel_rfl, by kernel_rfl⟩⟩

theorem s_laws_eqDefS_L1 (p1 : List (ByteArray × Int)) (p2 : List (ByteArray × Int)) (n : Nat) (g : Int) (out : Unit ⊕ Unit) (h : m_laws_eqDefS_L1 p1 p2 n g = some out) :
    AX Try.prog 27 0 (codeAt [1, 1, 0, 1, 1] (bodyOf Try.f63)) ((fun g : Int => (⟨[(0, .bs false 2 (List.map enc_si p1)), (1, .bs false 2 (List.map enc_si p2)), (5, .v (.int .i64 g))], []⟩ : S)) g) (fun ex s => (∃ o : Unit, out = Sum.inl o ∧ ex = .ret ∧ s = ⟨[(4, .v (.bool false))], []⟩) ∨ (∃ o : Unit, out = Sum.inr o ∧ ex = .exit 0 ∧ s = ⟨[], []⟩)) := by
  refine AX.wkpost ?_
  refine AX.loop (G := Nat × (Int)) (fun q => (fun g : Int => (⟨[(0, .bs false 2 (List.map enc_si p1)), (1, .bs false 2 (List.map enc_si p2)), (5, .v (.int .i64 g))], []⟩ : S)) q.2) (fun q => m_laws_eqDefS_L1 p1 p2 q.1 q.2 = some out) (fun q => q.1) (n, g) h (Wk.refl _) ?_
  clear h
  rintro ⟨fu, v3⟩ h
  cases fu with
  | zero => cases h
  | succ fu =>
    rw [m_laws_eqDefS_L1] at h
    refine AX.seq ?_
    refine AX.seq ?_
    refine AX.reg (its := [.auto {}, .auto {}, .auto { y := some (.v (.int .i64 (p1.length : Int))) }]) [0, 1, 5, 14] [] (s1 := ⟨[(0, .bs false 2 (List.map enc_si p1)), (1, .bs false 2 (List.map enc_si p2)), (5, .v (.int .i64 v3)), (14, .v (.bool (decide (v3 < (p1.length : Int)))))], []⟩) (C := (True ∧ (AV.v (.int .i64 ((List.map enc_si p1).length : Int)) = AV.v (.int .i64 (p1.length : Int)))) ∧ True) (by kernel_rfl) ⟨⟨trivial, len_map enc_si p1⟩, trivial⟩ trivial ?_
    rcases bool_cases (decide (v3 < (p1.length : Int))) with b2 | b2
    · replace h := cd_t b2 h
      refine AX.condT (decide (v3 < (p1.length : Int))) (by kernel_rfl) b2 ?_
      refine AX.skip ?_
      refine AX.seq ?_
      refine AX.block ?_
      refine AX.seq ?_
      obtain ⟨g3, h⟩ := gd_e h
      obtain ⟨g4, h⟩ := gd_e h
      obtain ⟨x4, e5, h⟩ := bd_e h
      refine AX.drw mixed (its := [.auto {}, .auto {}, .auto { y := some (.be 2 (enc_si (gt p1 v3)) 0) }, .auto {}, .auto {}, .auto {}, .auto { y := some (.be 2 (enc_si (gt p2 v3)) 0) }, .auto {}, .call 106 [.agg [.v (.string ((gt p1 v3).1)), .v (.int .i64 ((gt p1 v3).2))], .agg [.v (.string ((gt p2 v3).1)), .v (.int .i64 ((gt p2 v3).2))]] (handO (rho ([] ++ [])) [] [] ++ []) (callEv [] [] (.v (.bool x4)) [])]) [0, 1, 5, 26] [] (s1 := ⟨[(0, .bs false 2 (List.map enc_si p1)), (1, .bs false 2 (List.map enc_si p2)), (5, .v (.int .i64 v3)), (26, .v (.bool (!x4)))], []⟩) (C := ((0 ≤ v3 ∧ v3 < ((List.map enc_si p1).length : Int)) ∧ (AV.be 2 ((List.map enc_si p1).getD v3.toNat []) 0 = AV.be 2 (enc_si (gt p1 v3)) 0)) ∧ ((0 ≤ v3 ∧ v3 < ((List.map enc_si p2).length : Int)) ∧ (AV.be 2 ((List.map enc_si p2).getD v3.toNat []) 0 = AV.be 2 (enc_si (gt p2 v3)) 0)) ∧ ((([.agg [.v (.string ((gt p1 v3).1)), .v (.int .i64 ((gt p1 v3).2))], .agg [.v (.string ((gt p2 v3).1)), .v (.int .i64 ((gt p2 v3).2))]] : List AV) = [.agg [.v (.string ((gt p1 v3).1)), .v (.int .i64 ((gt p1 v3).2))], .agg [.v (.string ((gt p2 v3).1)), .v (.int .i64 ((gt p2 v3).2))]]) ∧ True) ∧ True) (by kernel_rfl) ⟨idx_bs enc_si p1 v3 2 g3, ⟨idx_bs enc_si p2 v3 2 g4, ⟨⟨rfl, trivial⟩, trivial⟩⟩⟩ ⟨call_ok (ks := []) (ns := []) (bor := []) (bobjs := []) (s_laws_eqDef ((gt p1 v3).1) ((gt p1 v3).2) ((gt p2 v3).1) ((gt p2 v3).2) x4 e5) (.cons (.c1 (.agg (.cons (.same _ (by kernel_rfl) (by kernel_rfl)) (.cons (.same _ (by kernel_rfl) (by kernel_rfl)) (.nil))))) (.cons (.c1 (.agg (.cons (.same _ (by kernel_rfl) (by kernel_rfl)) (.cons (.same _ (by kernel_rfl) (by kernel_rfl)) (.nil))))) (.nil))) (by kernel_rfl) trivial, trivial⟩ ?_
      rcases bool_cases ((!x4)) with b6 | b6
      · replace h := cd_t b6 h
        refine AX.condT ((!x4)) (by kernel_rfl) b6 ?_
        refine AX.seq ?_
        refine AX.reg (its := []) [4] [] (s1 := ⟨[(4, .v (.bool false))], []⟩) (C := True) (by kernel_rfl) trivial trivial ?_
        refine AX.ret ?_
        refine fin_wk (Wk.forget [4] [] (s' := ⟨[(4, .v (.bool false))], []⟩) (by kernel_rfl)) ?_
        have hr := Option.some.inj h
        subst hr
        exact ⟨_, Wk.refl _, .inl ⟨(), rfl, rfl, rfl⟩⟩
      · replace h := cd_f b6 h
        refine AX.condF ((!x4)) (by kernel_rfl) b6 ?_
        refine AX.skip ?_
        refine AX.reg (its := [.auto {}, .auto { raw := true }]) [0, 1, 5] [] (s1 := ⟨[(0, .bs false 2 (List.map enc_si p1)), (1, .bs false 2 (List.map enc_si p2)), (5, .v (.int .i64 (IntKind.wrap .i64 (v3 + 1))))], []⟩) (C := True) (by kernel_rfl) trivial trivial ?_
        refine ⟨(fu, IntKind.wrap .i64 (v3 + 1)), h, Nat.lt_succ_self _, ?_⟩
        refine Wk.trans (Wk.forget [0, 1, 5] [] (s' := ⟨[(0, .bs false 2 (List.map enc_si p1)), (1, .bs false 2 (List.map enc_si p2)), (5, .v (.int .i64 (IntKind.wrap .i64 (v3 + 1))))], []⟩) (by kernel_rfl)) ?_
        exact Wk.refl _
    · replace h := cd_f b2 h
      refine AX.condF (decide (v3 < (p1.length : Int))) (by kernel_rfl) b2 ?_
      refine AX.exit ?_
      refine fin_wk (Wk.forget [] [] (s' := ⟨[], []⟩) (by kernel_rfl)) ?_
      have hr := Option.some.inj h
      subst hr
      exact ⟨_, Wk.refl _, .inr ⟨(), rfl, rfl, rfl⟩⟩

theorem s_laws_eqDefS (p1 : List (ByteArray × Int)) (p2 : List (ByteArray × Int)) (r : Bool) (h : m_laws_eqDefS p1 p2 = some r) :
    Eng.Spec Try.prog 63 [.bs false 2 (List.map enc_si p1), .bs false 2 (List.map enc_si p2)] [] (.v (.bool r)) [] := by
  unfold m_laws_eqDefS at h
  refine Eng.Spec.body Try.func63 (by kernel_rfl) rfl (by kernel_rfl) ?_
  refine AX.wkpost ?_
  refine AX.seq ?_
  refine AX.reg (its := []) [0, 1] [] (s1 := ⟨[(0, .bs false 2 (List.map enc_si p1)), (1, .bs false 2 (List.map enc_si p2))], []⟩) (C := True) (by kernel_rfl) trivial trivial ?_
  refine AX.seq ?_
  refine AX.seq ?_
  refine AX.reg (its := [.auto {}, .auto { y := some (.v (.int .i64 (p1.length : Int))) }, .auto {}, .auto { y := some (.v (.int .i64 (p2.length : Int))) }]) [0, 1, 10] [] (s1 := ⟨[(0, .bs false 2 (List.map enc_si p1)), (1, .bs false 2 (List.map enc_si p2)), (10, .v (.bool (!decide ((p1.length : Int) = (p2.length : Int)))))], []⟩) (C := (True ∧ (AV.v (.int .i64 ((List.map enc_si p1).length : Int)) = AV.v (.int .i64 (p1.length : Int)))) ∧ (True ∧ (AV.v (.int .i64 ((List.map enc_si p2).length : Int)) = AV.v (.int .i64 (p2.length : Int)))) ∧ True) (by kernel_rfl) ⟨⟨trivial, len_map enc_si p1⟩, ⟨⟨trivial, len_map enc_si p2⟩, trivial⟩⟩ trivial ?_
  rcases bool_cases ((!decide ((p1.length : Int) = (p2.length : Int)))) with b1 | b1
  · replace h := cd_t b1 h
    refine AX.condT ((!decide ((p1.length : Int) = (p2.length : Int)))) (by kernel_rfl) b1 ?_
    refine AX.seq ?_
    refine AX.reg (its := []) [4] [] (s1 := ⟨[(4, .v (.bool false))], []⟩) (C := True) (by kernel_rfl) trivial trivial ?_
    refine AX.ret ?_
    refine fin_wk (Wk.forget [4] [] (s' := ⟨[(4, .v (.bool false))], []⟩) (by kernel_rfl)) ?_
    have hr := Option.some.inj h
    subst hr
    exact ⟨_, Wk.refl _, .inr rfl, ⟨[], by kernel_rfl, trivial, [.v (.bool false)], by kernel_rfl, by kernel_rfl⟩⟩
  · replace h := cd_f b1 h
    refine AX.condF ((!decide ((p1.length : Int) = (p2.length : Int)))) (by kernel_rfl) b1 ?_
    refine AX.skip ?_
    refine AX.seq ?_
    refine AX.seq ?_
    refine AX.reg (its := []) [0, 1, 5] [] (s1 := ⟨[(0, .bs false 2 (List.map enc_si p1)), (1, .bs false 2 (List.map enc_si p2)), (5, .v (.int .i64 0))], []⟩) (C := True) (by kernel_rfl) trivial trivial ?_
    refine AX.block ?_
    obtain ⟨x5, e7, h⟩ := bd_e h
    refine AX.wk (Wk.forget [0, 1, 5] [] (s' := ⟨[(0, .bs false 2 (List.map enc_si p1)), (1, .bs false 2 (List.map enc_si p2)), (5, .v (.int .i64 0))], []⟩) (by kernel_rfl)) ?_
    refine AX.mono (s_laws_eqDefS_L1 p1 p2 FU 0 x5 e7) ?_
    rintro _ _ (⟨x6, rfl, rfl, rfl⟩ | ⟨x7, rfl, rfl, rfl⟩)
    · replace h := sm_l h
      refine fin_wk (Wk.forget [4] [] (s' := ⟨[(4, .v (.bool false))], []⟩) (by kernel_rfl)) ?_
      have hr := Option.some.inj h
      subst hr
      exact ⟨_, Wk.refl _, .inr rfl, ⟨[], by kernel_rfl, trivial, [.v (.bool false)], by kernel_rfl, by kernel_rfl⟩⟩
    · replace h := sm_r h
      refine AX.seq ?_
      refine AX.reg (its := []) [4] [] (s1 := ⟨[(4, .v (.bool true))], []⟩) (C := True) (by kernel_rfl) trivial trivial ?_
      refine AX.ret ?_
      refine fin_wk (Wk.forget [4] [] (s' := ⟨[(4, .v (.bool true))], []⟩) (by kernel_rfl)) ?_
      have hr := Option.some.inj h
      subst hr
      exact ⟨_, Wk.refl _, .inr rfl, ⟨[], by kernel_rfl, trivial, [.v (.bool true)], by kernel_rfl, by kernel_rfl⟩⟩

theorem s_laws_eqFlag (p1 : List (ByteArray × Int)) (p2 : Int) (p3 : List (ByteArray × Int)) (p4 : Int) (r : Bool) (h : m_laws_eqFlag p1 p2 p3 p4 = some r) :
    Eng.Spec Try.prog 23 [.agg [.bs false 2 (List.map enc_si p1), .v (.int .i64 p2)], .agg [.bs false 2 (List.map enc_si p3), .v (.int .i64 p4)]] [] (.v (.bool r)) [] := by
  unfold m_laws_eqFlag at h
  refine Eng.Spec.body Try.func23 (by kernel_rfl) rfl (by kernel_rfl) ?_
  refine AX.wkpost ?_
  refine AX.seq ?_
  refine AX.reg (its := [.auto { nk := 0 }, .auto { nk := 1 }]) [2, 3] [0, 1] (s1 := ⟨[(2, .pt 0 0), (3, .pt 1 0)], [(0, .box [.bs false 2 (List.map enc_si p1), .v (.int .i64 p2)]), (1, .box [.bs false 2 (List.map enc_si p3), .v (.int .i64 p4)])]⟩) (C := True) (by kernel_rfl) trivial trivial ?_
  refine AX.seq ?_
  refine AX.seq ?_
  obtain ⟨x5, e1, h⟩ := bd_e h
  refine AX.reg (its := [.auto {}, .auto {}, .auto {}, .auto {}, .call 63 [.bs false 2 (List.map enc_si p1), .bs false 2 (List.map enc_si p3)] (handO (rho ([] ++ [])) [] [] ++ []) (callEv [] [] (.v (.bool x5)) [])]) [2, 3, 10] [0, 1] (s1 := ⟨[(2, .pt 0 0), (3, .pt 1 0), (10, .v (.bool (!x5)))], [(0, .box [.bs false 2 (List.map enc_si p1), .v (.int .i64 p2)]), (1, .box [.bs false 2 (List.map enc_si p3), .v (.int .i64 p4)])]⟩) (C := ((([.bs false 2 (List.map enc_si p1), .bs false 2 (List.map enc_si p3)] : List AV) = [.bs false 2 (List.map enc_si p1), .bs false 2 (List.map enc_si p3)]) ∧ True) ∧ True) (by kernel_rfl) ⟨⟨rfl, trivial⟩, trivial⟩ ⟨call_ok (ks := []) (ns := []) (bor := []) (bobjs := []) (s_laws_eqDefS p1 p3 x5 e1) (.cons (.c1 (.c0 (.same _ (by kernel_rfl) (by kernel_rfl)))) (.cons (.c1 (.c0 (.same _ (by kernel_rfl) (by kernel_rfl)))) (.nil))) (by kernel_rfl) trivial, trivial⟩ ?_
  rcases bool_cases ((!x5)) with b2 | b2
  · replace h := cd_t b2 h
    refine AX.condT ((!x5)) (by kernel_rfl) b2 ?_
    refine AX.seq ?_
    refine AX.reg (its := []) [4] [] (s1 := ⟨[(4, .v (.bool false))], []⟩) (C := True) (by kernel_rfl) trivial trivial ?_
    refine AX.ret ?_
    refine fin_wk (Wk.forget [4] [] (s' := ⟨[(4, .v (.bool false))], []⟩) (by kernel_rfl)) ?_
    have hr := Option.some.inj h
    subst hr
    exact ⟨_, Wk.refl _, .inr rfl, ⟨[], by kernel_rfl, trivial, [.v (.bool false)], by kernel_rfl, by kernel_rfl⟩⟩
  · replace h := cd_f b2 h
    refine AX.condF ((!x5)) (by kernel_rfl) b2 ?_
    refine AX.skip ?_
    refine AX.seq ?_
    refine AX.seq ?_
    refine AX.reg (its := []) [15] [] (s1 := ⟨[(15, .v (.bool (!decide (p2 = p4))))], []⟩) (C := True) (by kernel_rfl) trivial trivial ?_
    rcases bool_cases ((!decide (p2 = p4))) with b3 | b3
    · replace h := cd_t b3 h
      refine AX.condT ((!decide (p2 = p4))) (by kernel_rfl) b3 ?_
      refine AX.seq ?_
      refine AX.reg (its := []) [4] [] (s1 := ⟨[(4, .v (.bool false))], []⟩) (C := True) (by kernel_rfl) trivial trivial ?_
      refine AX.ret ?_
      refine fin_wk (Wk.forget [4] [] (s' := ⟨[(4, .v (.bool false))], []⟩) (by kernel_rfl)) ?_
      have hr := Option.some.inj h
      subst hr
      exact ⟨_, Wk.refl _, .inr rfl, ⟨[], by kernel_rfl, trivial, [.v (.bool false)], by kernel_rfl, by kernel_rfl⟩⟩
    · replace h := cd_f b3 h
      refine AX.condF ((!decide (p2 = p4))) (by kernel_rfl) b3 ?_
      refine AX.skip ?_
      refine AX.seq ?_
      refine AX.reg (its := []) [4] [] (s1 := ⟨[(4, .v (.bool true))], []⟩) (C := True) (by kernel_rfl) trivial trivial ?_
      refine AX.ret ?_
      refine fin_wk (Wk.forget [4] [] (s' := ⟨[(4, .v (.bool true))], []⟩) (by kernel_rfl)) ?_
      have hr := Option.some.inj h
      subst hr
      exact ⟨_, Wk.refl _, .inr rfl, ⟨[], by kernel_rfl, trivial, [.v (.bool true)], by kernel_rfl, by kernel_rfl⟩⟩

theorem s_laws_eqItem (p1 : ByteArray) (p2 : Bool) (p3 : Int) (p4 : ByteArray) (p5 : Bool) (p6 : Int) (r : Bool) (h : m_laws_eqItem p1 p2 p3 p4 p5 p6 = some r) :
    Eng.Spec Try.prog 64 [.agg [.v (.string p1), .v (.bool p2), .v (.int .i64 p3)], .agg [.v (.string p4), .v (.bool p5), .v (.int .i64 p6)]] [] (.v (.bool r)) [] := by
  unfold m_laws_eqItem at h
  refine Eng.Spec.body Try.func64 (by kernel_rfl) rfl (by kernel_rfl) ?_
  refine AX.wkpost ?_
  refine AX.seq ?_
  refine AX.reg (its := [.auto { nk := 0 }, .auto { nk := 1 }]) [2, 3] [0, 1] (s1 := ⟨[(2, .pt 0 0), (3, .pt 1 0)], [(0, .box [.v (.string p1), .v (.bool p2), .v (.int .i64 p3)]), (1, .box [.v (.string p4), .v (.bool p5), .v (.int .i64 p6)])]⟩) (C := True) (by kernel_rfl) trivial trivial ?_
  refine AX.seq ?_
  refine AX.seq ?_
  refine AX.reg (its := []) [2, 3, 9] [0, 1] (s1 := ⟨[(2, .pt 0 0), (3, .pt 1 0), (9, .v (.bool (!decide (p1 = p4))))], [(0, .box [.v (.string p1), .v (.bool p2), .v (.int .i64 p3)]), (1, .box [.v (.string p4), .v (.bool p5), .v (.int .i64 p6)])]⟩) (C := True) (by kernel_rfl) trivial trivial ?_
  rcases bool_cases ((!decide (p1 = p4))) with b1 | b1
  · replace h := cd_t b1 h
    refine AX.condT ((!decide (p1 = p4))) (by kernel_rfl) b1 ?_
    refine AX.seq ?_
    refine AX.reg (its := []) [4] [] (s1 := ⟨[(4, .v (.bool false))], []⟩) (C := True) (by kernel_rfl) trivial trivial ?_
    refine AX.ret ?_
    refine fin_wk (Wk.forget [4] [] (s' := ⟨[(4, .v (.bool false))], []⟩) (by kernel_rfl)) ?_
    have hr := Option.some.inj h
    subst hr
    exact ⟨_, Wk.refl _, .inr rfl, ⟨[], by kernel_rfl, trivial, [.v (.bool false)], by kernel_rfl, by kernel_rfl⟩⟩
  · replace h := cd_f b1 h
    refine AX.condF ((!decide (p1 = p4))) (by kernel_rfl) b1 ?_
    refine AX.skip ?_
    refine AX.seq ?_
    refine AX.seq ?_
    refine AX.reg (its := []) [2, 3, 14] [0, 1] (s1 := ⟨[(2, .pt 0 0), (3, .pt 1 0), (14, .v (.bool (!(p2 == p5))))], [(0, .box [.v (.string p1), .v (.bool p2), .v (.int .i64 p3)]), (1, .box [.v (.string p4), .v (.bool p5), .v (.int .i64 p6)])]⟩) (C := True) (by kernel_rfl) trivial trivial ?_
    rcases bool_cases ((!(p2 == p5))) with b2 | b2
    · replace h := cd_t b2 h
      refine AX.condT ((!(p2 == p5))) (by kernel_rfl) b2 ?_
      refine AX.seq ?_
      refine AX.reg (its := []) [4] [] (s1 := ⟨[(4, .v (.bool false))], []⟩) (C := True) (by kernel_rfl) trivial trivial ?_
      refine AX.ret ?_
      refine fin_wk (Wk.forget [4] [] (s' := ⟨[(4, .v (.bool false))], []⟩) (by kernel_rfl)) ?_
      have hr := Option.some.inj h
      subst hr
      exact ⟨_, Wk.refl _, .inr rfl, ⟨[], by kernel_rfl, trivial, [.v (.bool false)], by kernel_rfl, by kernel_rfl⟩⟩
    · replace h := cd_f b2 h
      refine AX.condF ((!(p2 == p5))) (by kernel_rfl) b2 ?_
      refine AX.skip ?_
      refine AX.seq ?_
      refine AX.seq ?_
      refine AX.reg (its := []) [19] [] (s1 := ⟨[(19, .v (.bool (!decide (p3 = p6))))], []⟩) (C := True) (by kernel_rfl) trivial trivial ?_
      rcases bool_cases ((!decide (p3 = p6))) with b3 | b3
      · replace h := cd_t b3 h
        refine AX.condT ((!decide (p3 = p6))) (by kernel_rfl) b3 ?_
        refine AX.seq ?_
        refine AX.reg (its := []) [4] [] (s1 := ⟨[(4, .v (.bool false))], []⟩) (C := True) (by kernel_rfl) trivial trivial ?_
        refine AX.ret ?_
        refine fin_wk (Wk.forget [4] [] (s' := ⟨[(4, .v (.bool false))], []⟩) (by kernel_rfl)) ?_
        have hr := Option.some.inj h
        subst hr
        exact ⟨_, Wk.refl _, .inr rfl, ⟨[], by kernel_rfl, trivial, [.v (.bool false)], by kernel_rfl, by kernel_rfl⟩⟩
      · replace h := cd_f b3 h
        refine AX.condF ((!decide (p3 = p6))) (by kernel_rfl) b3 ?_
        refine AX.skip ?_
        refine AX.seq ?_
        refine AX.reg (its := []) [4] [] (s1 := ⟨[(4, .v (.bool true))], []⟩) (C := True) (by kernel_rfl) trivial trivial ?_
        refine AX.ret ?_
        refine fin_wk (Wk.forget [4] [] (s' := ⟨[(4, .v (.bool true))], []⟩) (by kernel_rfl)) ?_
        have hr := Option.some.inj h
        subst hr
        exact ⟨_, Wk.refl _, .inr rfl, ⟨[], by kernel_rfl, trivial, [.v (.bool true)], by kernel_rfl, by kernel_rfl⟩⟩

theorem s_laws_eqItemS_L1 (p1 : List (ByteArray × Bool × Int)) (p2 : List (ByteArray × Bool × Int)) (n : Nat) (g : Int) (out : Unit ⊕ Unit) (h : m_laws_eqItemS_L1 p1 p2 n g = some out) :
    AX Try.prog 27 0 (codeAt [1, 1, 0, 1, 1] (bodyOf Try.f24)) ((fun g : Int => (⟨[(0, .bs false 3 (List.map enc_sbi p1)), (1, .bs false 3 (List.map enc_sbi p2)), (5, .v (.int .i64 g))], []⟩ : S)) g) (fun ex s => (∃ o : Unit, out = Sum.inl o ∧ ex = .ret ∧ s = ⟨[(4, .v (.bool false))], []⟩) ∨ (∃ o : Unit, out = Sum.inr o ∧ ex = .exit 0 ∧ s = ⟨[], []⟩)) := by
  refine AX.wkpost ?_
  refine AX.loop (G := Nat × (Int)) (fun q => (fun g : Int => (⟨[(0, .bs false 3 (List.map enc_sbi p1)), (1, .bs false 3 (List.map enc_sbi p2)), (5, .v (.int .i64 g))], []⟩ : S)) q.2) (fun q => m_laws_eqItemS_L1 p1 p2 q.1 q.2 = some out) (fun q => q.1) (n, g) h (Wk.refl _) ?_
  clear h
  rintro ⟨fu, v3⟩ h
  cases fu with
  | zero => cases h
  | succ fu =>
    rw [m_laws_eqItemS_L1] at h
    refine AX.seq ?_
    refine AX.seq ?_
    refine AX.reg (its := [.auto {}, .auto {}, .auto { y := some (.v (.int .i64 (p1.length : Int))) }]) [0, 1, 5, 14] [] (s1 := ⟨[(0, .bs false 3 (List.map enc_sbi p1)), (1, .bs false 3 (List.map enc_sbi p2)), (5, .v (.int .i64 v3)), (14, .v (.bool (decide (v3 < (p1.length : Int)))))], []⟩) (C := (True ∧ (AV.v (.int .i64 ((List.map enc_sbi p1).length : Int)) = AV.v (.int .i64 (p1.length : Int)))) ∧ True) (by kernel_rfl) ⟨⟨trivial, len_map enc_sbi p1⟩, trivial⟩ trivial ?_
    rcases bool_cases (decide (v3 < (p1.length : Int))) with b2 | b2
    · replace h := cd_t b2 h
      refine AX.condT (decide (v3 < (p1.length : Int))) (by kernel_rfl) b2 ?_
      refine AX.skip ?_
      refine AX.seq ?_
      refine AX.block ?_
      refine AX.seq ?_
      obtain ⟨g3, h⟩ := gd_e h
      obtain ⟨g4, h⟩ := gd_e h
      obtain ⟨x4, e5, h⟩ := bd_e h
      refine AX.drw mixed (its := [.auto {}, .auto {}, .auto { y := some (.be 3 (enc_sbi (gt p1 v3)) 0) }, .auto {}, .auto {}, .auto {}, .auto { y := some (.be 3 (enc_sbi (gt p2 v3)) 0) }, .auto {}, .call 64 [.agg [.v (.string ((gt p1 v3).1)), .v (.bool ((gt p1 v3).2.1)), .v (.int .i64 ((gt p1 v3).2.2))], .agg [.v (.string ((gt p2 v3).1)), .v (.bool ((gt p2 v3).2.1)), .v (.int .i64 ((gt p2 v3).2.2))]] (handO (rho ([] ++ [])) [] [] ++ []) (callEv [] [] (.v (.bool x4)) [])]) [0, 1, 5, 26] [] (s1 := ⟨[(0, .bs false 3 (List.map enc_sbi p1)), (1, .bs false 3 (List.map enc_sbi p2)), (5, .v (.int .i64 v3)), (26, .v (.bool (!x4)))], []⟩) (C := ((0 ≤ v3 ∧ v3 < ((List.map enc_sbi p1).length : Int)) ∧ (AV.be 3 ((List.map enc_sbi p1).getD v3.toNat []) 0 = AV.be 3 (enc_sbi (gt p1 v3)) 0)) ∧ ((0 ≤ v3 ∧ v3 < ((List.map enc_sbi p2).length : Int)) ∧ (AV.be 3 ((List.map enc_sbi p2).getD v3.toNat []) 0 = AV.be 3 (enc_sbi (gt p2 v3)) 0)) ∧ ((([.agg [.v (.string ((gt p1 v3).1)), .v (.bool ((gt p1 v3).2.1)), .v (.int .i64 ((gt p1 v3).2.2))], .agg [.v (.string ((gt p2 v3).1)), .v (.bool ((gt p2 v3).2.1)), .v (.int .i64 ((gt p2 v3).2.2))]] : List AV) = [.agg [.v (.string ((gt p1 v3).1)), .v (.bool ((gt p1 v3).2.1)), .v (.int .i64 ((gt p1 v3).2.2))], .agg [.v (.string ((gt p2 v3).1)), .v (.bool ((gt p2 v3).2.1)), .v (.int .i64 ((gt p2 v3).2.2))]]) ∧ True) ∧ True) (by kernel_rfl) ⟨idx_bs enc_sbi p1 v3 3 g3, ⟨idx_bs enc_sbi p2 v3 3 g4, ⟨⟨rfl, trivial⟩, trivial⟩⟩⟩ ⟨call_ok (ks := []) (ns := []) (bor := []) (bobjs := []) (s_laws_eqItem ((gt p1 v3).1) ((gt p1 v3).2.1) ((gt p1 v3).2.2) ((gt p2 v3).1) ((gt p2 v3).2.1) ((gt p2 v3).2.2) x4 e5) (.cons (.c1 (.agg (.cons (.same _ (by kernel_rfl) (by kernel_rfl)) (.cons (.same _ (by kernel_rfl) (by kernel_rfl)) (.cons (.same _ (by kernel_rfl) (by kernel_rfl)) (.nil)))))) (.cons (.c1 (.agg (.cons (.same _ (by kernel_rfl) (by kernel_rfl)) (.cons (.same _ (by kernel_rfl) (by kernel_rfl)) (.cons (.same _ (by kernel_rfl) (by kernel_rfl)) (.nil)))))) (.nil))) (by kernel_rfl) trivial, trivial⟩ ?_
      rcases bool_cases ((!x4)) with b6 | b6
      · replace h := cd_t b6 h
        refine AX.condT ((!x4)) (by kernel_rfl) b6 ?_
        refine AX.seq ?_
        refine AX.reg (its := []) [4] [] (s1 := ⟨[(4, .v (.bool false))], []⟩) (C := True) (by kernel_rfl) trivial trivial ?_
        refine AX.ret ?_
        refine fin_wk (Wk.forget [4] [] (s' := ⟨[(4, .v (.bool false))], []⟩) (by kernel_rfl)) ?_
        have hr := Option.some.inj h
        subst hr
        exact ⟨_, Wk.refl _, .inl ⟨(), rfl, rfl, rfl⟩⟩
      · replace h := cd_f b6 h
        refine AX.condF ((!x4)) (by kernel_rfl) b6 ?_
        refine AX.skip ?_
        refine AX.reg (its := [.auto {}, .auto { raw := true }]) [0, 1, 5] [] (s1 := ⟨[(0, .bs false 3 (List.map enc_sbi p1)), (1, .bs false 3 (List.map enc_sbi p2)), (5, .v (.int .i64 (IntKind.wrap .i64 (v3 + 1))))], []⟩) (C := True) (by kernel_rfl) trivial trivial ?_
        refine ⟨(fu, IntKind.wrap .i64 (v3 + 1)), h, Nat.lt_succ_self _, ?_⟩
        refine Wk.trans (Wk.forget [0, 1, 5] [] (s' := ⟨[(0, .bs false 3 (List.map enc_sbi p1)), (1, .bs false 3 (List.map enc_sbi p2)), (5, .v (.int .i64 (IntKind.wrap .i64 (v3 + 1))))], []⟩) (by kernel_rfl)) ?_
        exact Wk.refl _
    · replace h := cd_f b2 h
      refine AX.condF (decide (v3 < (p1.length : Int))) (by kernel_rfl) b2 ?_
      refine AX.exit ?_
      refine fin_wk (Wk.forget [] [] (s' := ⟨[], []⟩) (by kernel_rfl)) ?_
      have hr := Option.some.inj h
      subst hr
      exact ⟨_, Wk.refl _, .inr ⟨(), rfl, rfl, rfl⟩⟩

theorem s_laws_eqItemS (p1 : List (ByteArray × Bool × Int)) (p2 : List (ByteArray × Bool × Int)) (r : Bool) (h : m_laws_eqItemS p1 p2 = some r) :
    Eng.Spec Try.prog 24 [.bs false 3 (List.map enc_sbi p1), .bs false 3 (List.map enc_sbi p2)] [] (.v (.bool r)) [] := by
  unfold m_laws_eqItemS at h
  refine Eng.Spec.body Try.func24 (by kernel_rfl) rfl (by kernel_rfl) ?_
  refine AX.wkpost ?_
  refine AX.seq ?_
  refine AX.reg (its := []) [0, 1] [] (s1 := ⟨[(0, .bs false 3 (List.map enc_sbi p1)), (1, .bs false 3 (List.map enc_sbi p2))], []⟩) (C := True) (by kernel_rfl) trivial trivial ?_
  refine AX.seq ?_
  refine AX.seq ?_
  refine AX.reg (its := [.auto {}, .auto { y := some (.v (.int .i64 (p1.length : Int))) }, .auto {}, .auto { y := some (.v (.int .i64 (p2.length : Int))) }]) [0, 1, 10] [] (s1 := ⟨[(0, .bs false 3 (List.map enc_sbi p1)), (1, .bs false 3 (List.map enc_sbi p2)), (10, .v (.bool (!decide ((p1.length : Int) = (p2.length : Int)))))], []⟩) (C := (True ∧ (AV.v (.int .i64 ((List.map enc_sbi p1).length : Int)) = AV.v (.int .i64 (p1.length : Int)))) ∧ (True ∧ (AV.v (.int .i64 ((List.map enc_sbi p2).length : Int)) = AV.v (.int .i64 (p2.length : Int)))) ∧ True) (by kernel_rfl) ⟨⟨trivial, len_map enc_sbi p1⟩, ⟨⟨trivial, len_map enc_sbi p2⟩, trivial⟩⟩ trivial ?_
  rcases bool_cases ((!decide ((p1.length : Int) = (p2.length : Int)))) with b1 | b1
  · replace h := cd_t b1 h
    refine AX.condT ((!decide ((p1.length : Int) = (p2.length : Int)))) (by kernel_rfl) b1 ?_
    refine AX.seq ?_
    refine AX.reg (its := []) [4] [] (s1 := ⟨[(4, .v (.bool false))], []⟩) (C := True) (by kernel_rfl) trivial trivial ?_
    refine AX.ret ?_
    refine fin_wk (Wk.forget [4] [] (s' := ⟨[(4, .v (.bool false))], []⟩) (by kernel_rfl)) ?_
    have hr := Option.some.inj h
    subst hr
    exact ⟨_, Wk.refl _, .inr rfl, ⟨[], by kernel_rfl, trivial, [.v (.bool false)], by kernel_rfl, by kernel_rfl⟩⟩
  · replace h := cd_f b1 h
    refine AX.condF ((!decide ((p1.length : Int) = (p2.length : Int)))) (by kernel_rfl) b1 ?_
    refine AX.skip ?_
    refine AX.seq ?_
    refine AX.seq ?_
    refine AX.reg (its := []) [0, 1, 5] [] (s1 := ⟨[(0, .bs false 3 (List.map enc_sbi p1)), (1, .bs false 3 (List.map enc_sbi p2)), (5, .v (.int .i64 0))], []⟩) (C := True) (by kernel_rfl) trivial trivial ?_
    refine AX.block ?_
    obtain ⟨x5, e7, h⟩ := bd_e h
    refine AX.wk (Wk.forget [0, 1, 5] [] (s' := ⟨[(0, .bs false 3 (List.map enc_sbi p1)), (1, .bs false 3 (List.map enc_sbi p2)), (5, .v (.int .i64 0))], []⟩) (by kernel_rfl)) ?_
    refine AX.mono (s_laws_eqItemS_L1 p1 p2 FU 0 x5 e7) ?_
    rintro _ _ (⟨x6, rfl, rfl, rfl⟩ | ⟨x7, rfl, rfl, rfl⟩)
    · replace h := sm_l h
      refine fin_wk (Wk.forget [4] [] (s' := ⟨[(4, .v (.bool false))], []⟩) (by kernel_rfl)) ?_
      have hr := Option.some.inj h
      subst hr
      exact ⟨_, Wk.refl _, .inr rfl, ⟨[], by kernel_rfl, trivial, [.v (.bool false)], by kernel_rfl, by kernel_rfl⟩⟩
    · replace h := sm_r h
      refine AX.seq ?_
      refine AX.reg (its := []) [4] [] (s1 := ⟨[(4, .v (.bool true))], []⟩) (C := True) (by kernel_rfl) trivial trivial ?_
      refine AX.ret ?_
      refine fin_wk (Wk.forget [4] [] (s' := ⟨[(4, .v (.bool true))], []⟩) (by kernel_rfl)) ?_
      have hr := Option.some.inj h
      subst hr
      exact ⟨_, Wk.refl _, .inr rfl, ⟨[], by kernel_rfl, trivial, [.v (.bool true)], by kernel_rfl, by kernel_rfl⟩⟩

theorem s_laws_markText_L1  (n : Nat) (g : Int × ByteArray) (out : ByteArray) (h : m_laws_markText_L1 n g.1 g.2 = some out) :
    AX Try.prog 20 0 (codeAt [1, 1, 1, 0, 1] (bodyOf Try.f65)) ((fun g : Int × ByteArray => (⟨[(0, .v (.int .i64 g.1)), (3, .v (.string g.2))], []⟩ : S)) g) (fun ex s => ex = .exit 0 ∧ s = (fun o : ByteArray => (⟨[(3, .v (.string o))], []⟩ : S)) out) := by
  refine AX.wkpost ?_
  refine AX.loop (G := Nat × (Int × ByteArray)) (fun q => (fun g : Int × ByteArray => (⟨[(0, .v (.int .i64 g.1)), (3, .v (.string g.2))], []⟩ : S)) q.2) (fun q => m_laws_markText_L1 q.1 q.2.1 q.2.2 = some out) (fun q => q.1) (n, g) h (Wk.refl _) ?_
  clear h
  rintro ⟨fu, v2, v3⟩ h
  cases fu with
  | zero => cases h
  | succ fu =>
    rw [m_laws_markText_L1] at h
    refine AX.seq ?_
    refine AX.seq ?_
    refine AX.reg (its := []) [0, 3, 7] [] (s1 := ⟨[(0, .v (.int .i64 v2)), (3, .v (.string v3)), (7, .v (.bool (decide (0 < v2))))], []⟩) (C := True) (by kernel_rfl) trivial trivial ?_
    rcases bool_cases (decide (0 < v2)) with b2 | b2
    · replace h := cd_t b2 h
      refine AX.condT (decide (0 < v2)) (by kernel_rfl) b2 ?_
      refine AX.skip ?_
      refine AX.block ?_
      refine AX.seq ?_
      obtain ⟨g3, h⟩ := gd_e h
      obtain ⟨v4, q4, h⟩ := nm_e h
      obtain ⟨g5, h⟩ := gd_e h
      refine AX.reg (its := [.auto {}, .auto {}, .auto { raw := true }, .auto { raw := true }, .auto { nk := 0 }, .auto { y := some (.v (.string v4)) }]) [0, 3] [] (s1 := ⟨[(0, .v (.int .i64 v2)), (3, .v (.string (v4 ++ v3)))], []⟩) (C := ((10 : Int) ≠ 0) ∧ ((True) ∧ ((.v (.string (bstr ([IntKind.wrap .u8 (IntKind.wrap .i64 (48 + (Int.tmod v2 10)))] : List (Int)))) : AV) = (.v (.string v4) : AV))) ∧ (v4.size + v3.size ≤ 9223372036854775807) ∧ True) (by kernel_rfl) ⟨g3, ⟨⟨trivial, (congrArg (fun z => AV.v (.string z)) q4)⟩, ⟨g5, trivial⟩⟩⟩ trivial ?_
      obtain ⟨g6, h⟩ := gd_e h
      refine AX.reg (its := []) [0, 3] [] (s1 := ⟨[(0, .v (.int .i64 (Int.tdiv v2 10))), (3, .v (.string (v4 ++ v3)))], []⟩) (C := ((10 : Int) ≠ 0 ∧ IntKind.wrap .i64 (Int.tdiv v2 10) = Int.tdiv v2 10) ∧ True) (by kernel_rfl) ⟨g6, trivial⟩ trivial ?_
      refine ⟨(fu, (Int.tdiv v2 10, v4 ++ v3)), h, Nat.lt_succ_self _, ?_⟩
      refine Wk.trans (Wk.forget [0, 3] [] (s' := ⟨[(0, .v (.int .i64 (Int.tdiv v2 10))), (3, .v (.string (v4 ++ v3)))], []⟩) (by kernel_rfl)) ?_
      exact Wk.refl _
    · replace h := cd_f b2 h
      refine AX.condF (decide (0 < v2)) (by kernel_rfl) b2 ?_
      refine AX.exit ?_
      refine fin_wk (Wk.forget [3] [] (s' := ⟨[(3, .v (.string v3))], []⟩) (by kernel_rfl)) ?_
      have hr := Option.some.inj h
      subst hr
      exact ⟨_, Wk.refl _, ⟨rfl, rfl⟩⟩

theorem s_laws_markText (p1 : Int) (r : ByteArray) (h : m_laws_markText p1 = some r) :
    Eng.Spec Try.prog 65 [.v (.int .i64 p1)] [] (.v (.string r)) [] := by
  unfold m_laws_markText at h
  refine Eng.Spec.body Try.func65 (by kernel_rfl) rfl (by kernel_rfl) ?_
  refine AX.wkpost ?_
  refine AX.seq ?_
  refine AX.reg (its := []) [0] [] (s1 := ⟨[(0, .v (.int .i64 p1))], []⟩) (C := True) (by kernel_rfl) trivial trivial ?_
  refine AX.seq ?_
  refine AX.seq ?_
  refine AX.reg (its := []) [0, 5] [] (s1 := ⟨[(0, .v (.int .i64 p1)), (5, .v (.bool (decide (p1 ≤ 0))))], []⟩) (C := True) (by kernel_rfl) trivial trivial ?_
  rcases bool_cases (decide (p1 ≤ 0)) with b1 | b1
  · replace h := cd_t b1 h
    refine AX.condT (decide (p1 ≤ 0)) (by kernel_rfl) b1 ?_
    refine AX.seq ?_
    refine AX.reg (its := []) [2] [] (s1 := ⟨[(2, .v (.string (ByteArray.mk #[109, 48])))], []⟩) (C := True) (by kernel_rfl) trivial trivial ?_
    refine AX.ret ?_
    refine fin_wk (Wk.forget [2] [] (s' := ⟨[(2, .v (.string (ByteArray.mk #[109, 48])))], []⟩) (by kernel_rfl)) ?_
    have hr := Option.some.inj h
    subst hr
    exact ⟨_, Wk.refl _, .inr rfl, ⟨[], by kernel_rfl, trivial, [.v (.string (ByteArray.mk #[109, 48]))], by kernel_rfl, by kernel_rfl⟩⟩
  · replace h := cd_f b1 h
    refine AX.condF (decide (p1 ≤ 0)) (by kernel_rfl) b1 ?_
    refine AX.skip ?_
    refine AX.seq ?_
    refine AX.reg (its := []) [0, 3] [] (s1 := ⟨[(0, .v (.int .i64 p1)), (3, .v (.string ByteArray.empty))], []⟩) (C := True) (by kernel_rfl) trivial trivial ?_
    refine AX.seq ?_
    refine AX.block ?_
    obtain ⟨x5, e7, h⟩ := bd_e h
    refine AX.wk (Wk.forget [0, 3] [] (s' := ⟨[(0, .v (.int .i64 p1)), (3, .v (.string ByteArray.empty))], []⟩) (by kernel_rfl)) ?_
    refine AX.mono (s_laws_markText_L1  FU (p1, ByteArray.empty) x5 e7) ?_
    rintro _ _ ⟨rfl, rfl⟩
    skip
    refine AX.seq ?_
    obtain ⟨g8, h⟩ := gd_e h
    refine AX.reg (its := []) [2] [] (s1 := ⟨[(2, .v (.string ((ByteArray.mk #[109]) ++ x5)))], []⟩) (C := ((ByteArray.mk #[109]).size + x5.size ≤ 9223372036854775807) ∧ True) (by kernel_rfl) ⟨g8, trivial⟩ trivial ?_
    refine AX.ret ?_
    refine fin_wk (Wk.forget [2] [] (s' := ⟨[(2, .v (.string ((ByteArray.mk #[109]) ++ x5)))], []⟩) (by kernel_rfl)) ?_
    have hr := Option.some.inj h
    subst hr
    exact ⟨_, Wk.refl _, .inr rfl, ⟨[], by kernel_rfl, trivial, [.v (.string ((ByteArray.mk #[109]) ++ x5))], by kernel_rfl, by kernel_rfl⟩⟩

theorem s_laws_markItemS_h_L1  (n : Nat) (g : Int × Int × (List (ByteArray × Bool × Int))) (out : Int × (List (ByteArray × Bool × Int))) (h : m_laws_markItemS_h_L1 n g.1 g.2.1 g.2.2 = some out) :
    AX Try.prog 37 1 (codeAt [1, 0, 1, 1] (bodyOf Try.f25)) ((fun g : Int × Int × (List (ByteArray × Bool × Int)) => (⟨[(0, .sl 0 0 g.2.2.length), (1, .v (.int .i64 g.1)), (5, .v (.int .i64 g.2.1))], [(0, .arr 3 (List.map enc_sbi g.2.2))]⟩ : S)) g) (fun ex s => ex = .exit 0 ∧ s = (fun o : Int × (List (ByteArray × Bool × Int)) => (⟨[(1, .v (.int .i64 o.1))], [(0, .arr 3 (List.map enc_sbi o.2))]⟩ : S)) out) := by
  refine AX.wkpost ?_
  refine AX.loop (G := Nat × (Int × Int × (List (ByteArray × Bool × Int)))) (fun q => (fun g : Int × Int × (List (ByteArray × Bool × Int)) => (⟨[(0, .sl 0 0 g.2.2.length), (1, .v (.int .i64 g.1)), (5, .v (.int .i64 g.2.1))], [(0, .arr 3 (List.map enc_sbi g.2.2))]⟩ : S)) q.2) (fun q => m_laws_markItemS_h_L1 q.1 q.2.1 q.2.2.1 q.2.2.2 = some out) (fun q => q.1) (n, g) h (Wk.refl _) ?_
  clear h
  rintro ⟨fu, v3, v4, v5⟩ h
  cases fu with
  | zero => cases h
  | succ fu =>
    rw [m_laws_markItemS_h_L1] at h
    refine AX.seq ?_
    refine AX.seq ?_
    refine AX.reg (its := []) [0, 1, 5, 9] [0] (s1 := ⟨[(0, .sl 0 0 v5.length), (1, .v (.int .i64 v3)), (5, .v (.int .i64 v4)), (9, .v (.bool (decide (v4 < (v5.length : Int)))))], [(0, .arr 3 (List.map enc_sbi v5))]⟩) (C := True) (by kernel_rfl) trivial trivial ?_
    rcases bool_cases (decide (v4 < (v5.length : Int))) with b1 | b1
    · replace h := cd_t b1 h
      refine AX.condT (decide (v4 < (v5.length : Int))) (by kernel_rfl) b1 ?_
      refine AX.skip ?_
      refine AX.seq ?_
      refine AX.block ?_
      refine AX.seq ?_
      obtain ⟨x6, e2, h⟩ := bd_e h
      obtain ⟨g3, h⟩ := gd_e h
      refine AX.reg (its := [.auto {}, .auto {}, .auto {}, .call 65 [.v (.int .i64 v3)] (handO (rho ([] ++ [])) [] [] ++ []) (callEv [] [] (.v (.string x6)) []), .auto {}, .auto {}, .auto { els := some ([enc_sbi (x6, (gt v5 v4).2.1, (gt v5 v4).2.2)]) }]) [0, 1, 5] [0] (s1 := ⟨[(0, .sl 0 0 v5.length), (1, .v (.int .i64 v3)), (5, .v (.int .i64 v4))], [(0, .arr 3 ((List.map enc_sbi v5).set (0 + v4.toNat) (enc_sbi (x6, (gt v5 v4).2.1, (gt v5 v4).2.2))))]⟩) (C := ((([.v (.int .i64 v3)] : List AV) = [.v (.int .i64 v3)]) ∧ True) ∧ (0 ≤ v4 ∧ v4 < (v5.length : Int)) ∧ ((((List.map enc_sbi v5).getD (0 + v4.toNat) []).take 0 ++ [(.string x6)] ++ ((List.map enc_sbi v5).getD (0 + v4.toNat) []).drop 1 = enc_sbi (x6, (gt v5 v4).2.1, (gt v5 v4).2.2))) ∧ True) (by kernel_rfl) ⟨⟨rfl, trivial⟩, ⟨g3, ⟨(congrArg (fun z : List Value => z.take 0 ++ [(.string x6)] ++ z.drop 1) (idx_arr (enc := enc_sbi) rfl g3)), trivial⟩⟩⟩ ⟨call_ok (ks := []) (ns := []) (bor := []) (bobjs := []) (s_laws_markText v3 x6 e2) (.cons (.c1 (.c0 (.same _ (by kernel_rfl) (by kernel_rfl)))) (.nil)) (by kernel_rfl) trivial, trivial⟩ ?_
      refine AX.seq ?_
      refine AX.reg (its := [.auto {}, .auto { raw := true }]) [0, 1, 5] [0] (s1 := ⟨[(0, .sl 0 0 v5.length), (1, .v (.int .i64 (IntKind.wrap .i64 (v3 + 1)))), (5, .v (.int .i64 v4))], [(0, .arr 3 ((List.map enc_sbi v5).set (0 + v4.toNat) (enc_sbi (x6, (gt v5 v4).2.1, (gt v5 v4).2.2))))]⟩) (C := True) (by kernel_rfl) trivial trivial ?_
      refine AX.seq ?_
      obtain ⟨g4, h⟩ := gd_e h
      refine AX.reg (its := [.auto {}, .auto {}, .auto {}, .auto {}, .auto {}, .auto {}, .auto {}, .auto { els := some ([enc_sbi ((gt (v5.set (0 + v4.toNat) (x6, (gt v5 v4).2.1, (gt v5 v4).2.2)) v4).1, decide ((Int.tmod (IntKind.wrap .i64 (v3 + 1)) 3) = 0), (gt (v5.set (0 + v4.toNat) (x6, (gt v5 v4).2.1, (gt v5 v4).2.2)) v4).2.2)]) }]) [0, 1, 5] [0] (s1 := ⟨[(0, .sl 0 0 v5.length), (1, .v (.int .i64 (IntKind.wrap .i64 (v3 + 1)))), (5, .v (.int .i64 v4))], [(0, .arr 3 (((List.map enc_sbi v5).set (0 + v4.toNat) (enc_sbi (x6, (gt v5 v4).2.1, (gt v5 v4).2.2))).set (0 + v4.toNat) (enc_sbi ((gt (v5.set (0 + v4.toNat) (x6, (gt v5 v4).2.1, (gt v5 v4).2.2)) v4).1, decide ((Int.tmod (IntKind.wrap .i64 (v3 + 1)) 3) = 0), (gt (v5.set (0 + v4.toNat) (x6, (gt v5 v4).2.1, (gt v5 v4).2.2)) v4).2.2))))]⟩) (C := ((3 : Int) ≠ 0) ∧ (0 ≤ v4 ∧ v4 < (v5.length : Int)) ∧ (((((List.map enc_sbi v5).set (0 + v4.toNat) (enc_sbi (x6, (gt v5 v4).2.1, (gt v5 v4).2.2))).getD (0 + v4.toNat) []).take 1 ++ [(.bool (decide ((Int.tmod (IntKind.wrap .i64 (v3 + 1)) 3) = 0)))] ++ (((List.map enc_sbi v5).set (0 + v4.toNat) (enc_sbi (x6, (gt v5 v4).2.1, (gt v5 v4).2.2))).getD (0 + v4.toNat) []).drop 2 = enc_sbi ((gt (v5.set (0 + v4.toNat) (x6, (gt v5 v4).2.1, (gt v5 v4).2.2)) v4).1, decide ((Int.tmod (IntKind.wrap .i64 (v3 + 1)) 3) = 0), (gt (v5.set (0 + v4.toNat) (x6, (gt v5 v4).2.1, (gt v5 v4).2.2)) v4).2.2))) ∧ True) (by kernel_rfl) ⟨g4, ⟨g3, ⟨(congrArg (fun z : List Value => z.take 1 ++ [(.bool (decide ((Int.tmod (IntKind.wrap .i64 (v3 + 1)) 3) = 0)))] ++ z.drop 2) (idx_arr (enc := enc_sbi) (set_can (enc := enc_sbi) rfl (0 + v4.toNat) (x6, (gt v5 v4).2.1, (gt v5 v4).2.2)) (idx_len (set_len ((rfl : v5.length = v5.length)) (0 + v4.toNat) (x6, (gt v5 v4).2.1, (gt v5 v4).2.2)) g3))), trivial⟩⟩⟩ trivial ?_
      refine AX.seq ?_
      refine AX.reg (its := [.auto {}, .auto { raw := true }]) [0, 1, 5] [0] (s1 := ⟨[(0, .sl 0 0 v5.length), (1, .v (.int .i64 (IntKind.wrap .i64 ((IntKind.wrap .i64 (v3 + 1)) + 1)))), (5, .v (.int .i64 v4))], [(0, .arr 3 (((List.map enc_sbi v5).set (0 + v4.toNat) (enc_sbi (x6, (gt v5 v4).2.1, (gt v5 v4).2.2))).set (0 + v4.toNat) (enc_sbi ((gt (v5.set (0 + v4.toNat) (x6, (gt v5 v4).2.1, (gt v5 v4).2.2)) v4).1, decide ((Int.tmod (IntKind.wrap .i64 (v3 + 1)) 3) = 0), (gt (v5.set (0 + v4.toNat) (x6, (gt v5 v4).2.1, (gt v5 v4).2.2)) v4).2.2))))]⟩) (C := True) (by kernel_rfl) trivial trivial ?_
      refine AX.seq ?_
      refine AX.reg (its := [.auto {}, .auto {}, .auto {}, .auto {}, .auto {}, .auto { els := some ([enc_sbi ((gt ((v5.set (0 + v4.toNat) (x6, (gt v5 v4).2.1, (gt v5 v4).2.2)).set (0 + v4.toNat) ((gt (v5.set (0 + v4.toNat) (x6, (gt v5 v4).2.1, (gt v5 v4).2.2)) v4).1, decide ((Int.tmod (IntKind.wrap .i64 (v3 + 1)) 3) = 0), (gt (v5.set (0 + v4.toNat) (x6, (gt v5 v4).2.1, (gt v5 v4).2.2)) v4).2.2)) v4).1, (gt ((v5.set (0 + v4.toNat) (x6, (gt v5 v4).2.1, (gt v5 v4).2.2)).set (0 + v4.toNat) ((gt (v5.set (0 + v4.toNat) (x6, (gt v5 v4).2.1, (gt v5 v4).2.2)) v4).1, decide ((Int.tmod (IntKind.wrap .i64 (v3 + 1)) 3) = 0), (gt (v5.set (0 + v4.toNat) (x6, (gt v5 v4).2.1, (gt v5 v4).2.2)) v4).2.2)) v4).2.1, IntKind.wrap .i64 ((IntKind.wrap .i64 (v3 + 1)) + 1))]) }]) [0, 1, 5] [0] (s1 := ⟨[(0, .sl 0 0 v5.length), (1, .v (.int .i64 (IntKind.wrap .i64 ((IntKind.wrap .i64 (v3 + 1)) + 1)))), (5, .v (.int .i64 v4))], [(0, .arr 3 ((((List.map enc_sbi v5).set (0 + v4.toNat) (enc_sbi (x6, (gt v5 v4).2.1, (gt v5 v4).2.2))).set (0 + v4.toNat) (enc_sbi ((gt (v5.set (0 + v4.toNat) (x6, (gt v5 v4).2.1, (gt v5 v4).2.2)) v4).1, decide ((Int.tmod (IntKind.wrap .i64 (v3 + 1)) 3) = 0), (gt (v5.set (0 + v4.toNat) (x6, (gt v5 v4).2.1, (gt v5 v4).2.2)) v4).2.2))).set (0 + v4.toNat) (enc_sbi ((gt ((v5.set (0 + v4.toNat) (x6, (gt v5 v4).2.1, (gt v5 v4).2.2)).set (0 + v4.toNat) ((gt (v5.set (0 + v4.toNat) (x6, (gt v5 v4).2.1, (gt v5 v4).2.2)) v4).1, decide ((Int.tmod (IntKind.wrap .i64 (v3 + 1)) 3) = 0), (gt (v5.set (0 + v4.toNat) (x6, (gt v5 v4).2.1, (gt v5 v4).2.2)) v4).2.2)) v4).1, (gt ((v5.set (0 + v4.toNat) (x6, (gt v5 v4).2.1, (gt v5 v4).2.2)).set (0 + v4.toNat) ((gt (v5.set (0 + v4.toNat) (x6, (gt v5 v4).2.1, (gt v5 v4).2.2)) v4).1, decide ((Int.tmod (IntKind.wrap .i64 (v3 + 1)) 3) = 0), (gt (v5.set (0 + v4.toNat) (x6, (gt v5 v4).2.1, (gt v5 v4).2.2)) v4).2.2)) v4).2.1, IntKind.wrap .i64 ((IntKind.wrap .i64 (v3 + 1)) + 1)))))]⟩) (C := (0 ≤ v4 ∧ v4 < (v5.length : Int)) ∧ ((((((List.map enc_sbi v5).set (0 + v4.toNat) (enc_sbi (x6, (gt v5 v4).2.1, (gt v5 v4).2.2))).set (0 + v4.toNat) (enc_sbi ((gt (v5.set (0 + v4.toNat) (x6, (gt v5 v4).2.1, (gt v5 v4).2.2)) v4).1, decide ((Int.tmod (IntKind.wrap .i64 (v3 + 1)) 3) = 0), (gt (v5.set (0 + v4.toNat) (x6, (gt v5 v4).2.1, (gt v5 v4).2.2)) v4).2.2))).getD (0 + v4.toNat) []).take 2 ++ [(.int .i64 (IntKind.wrap .i64 ((IntKind.wrap .i64 (v3 + 1)) + 1)))] ++ ((((List.map enc_sbi v5).set (0 + v4.toNat) (enc_sbi (x6, (gt v5 v4).2.1, (gt v5 v4).2.2))).set (0 + v4.toNat) (enc_sbi ((gt (v5.set (0 + v4.toNat) (x6, (gt v5 v4).2.1, (gt v5 v4).2.2)) v4).1, decide ((Int.tmod (IntKind.wrap .i64 (v3 + 1)) 3) = 0), (gt (v5.set (0 + v4.toNat) (x6, (gt v5 v4).2.1, (gt v5 v4).2.2)) v4).2.2))).getD (0 + v4.toNat) []).drop 3 = enc_sbi ((gt ((v5.set (0 + v4.toNat) (x6, (gt v5 v4).2.1, (gt v5 v4).2.2)).set (0 + v4.toNat) ((gt (v5.set (0 + v4.toNat) (x6, (gt v5 v4).2.1, (gt v5 v4).2.2)) v4).1, decide ((Int.tmod (IntKind.wrap .i64 (v3 + 1)) 3) = 0), (gt (v5.set (0 + v4.toNat) (x6, (gt v5 v4).2.1, (gt v5 v4).2.2)) v4).2.2)) v4).1, (gt ((v5.set (0 + v4.toNat) (x6, (gt v5 v4).2.1, (gt v5 v4).2.2)).set (0 + v4.toNat) ((gt (v5.set (0 + v4.toNat) (x6, (gt v5 v4).2.1, (gt v5 v4).2.2)) v4).1, decide ((Int.tmod (IntKind.wrap .i64 (v3 + 1)) 3) = 0), (gt (v5.set (0 + v4.toNat) (x6, (gt v5 v4).2.1, (gt v5 v4).2.2)) v4).2.2)) v4).2.1, IntKind.wrap .i64 ((IntKind.wrap .i64 (v3 + 1)) + 1)))) ∧ True) (by kernel_rfl) ⟨g3, ⟨(congrArg (fun z : List Value => z.take 2 ++ [(.int .i64 (IntKind.wrap .i64 ((IntKind.wrap .i64 (v3 + 1)) + 1)))] ++ z.drop 3) (idx_arr (enc := enc_sbi) (set_can (enc := enc_sbi) (set_can (enc := enc_sbi) rfl (0 + v4.toNat) (x6, (gt v5 v4).2.1, (gt v5 v4).2.2)) (0 + v4.toNat) ((gt (v5.set (0 + v4.toNat) (x6, (gt v5 v4).2.1, (gt v5 v4).2.2)) v4).1, decide ((Int.tmod (IntKind.wrap .i64 (v3 + 1)) 3) = 0), (gt (v5.set (0 + v4.toNat) (x6, (gt v5 v4).2.1, (gt v5 v4).2.2)) v4).2.2)) (idx_len (set_len ((set_len ((rfl : v5.length = v5.length)) (0 + v4.toNat) (x6, (gt v5 v4).2.1, (gt v5 v4).2.2) : v5.length = (v5.set (0 + v4.toNat) (x6, (gt v5 v4).2.1, (gt v5 v4).2.2)).length)) (0 + v4.toNat) ((gt (v5.set (0 + v4.toNat) (x6, (gt v5 v4).2.1, (gt v5 v4).2.2)) v4).1, decide ((Int.tmod (IntKind.wrap .i64 (v3 + 1)) 3) = 0), (gt (v5.set (0 + v4.toNat) (x6, (gt v5 v4).2.1, (gt v5 v4).2.2)) v4).2.2)) g3))), trivial⟩⟩ trivial ?_
      obtain ⟨v7, q5, h⟩ := nm_e h
      refine AX.reg (its := [.auto {}, .auto { y := some (.v (.int .i64 v7)), raw := true }]) [0, 1, 5] [0] (s1 := ⟨[(0, .sl 0 0 v5.length), (1, .v (.int .i64 v7)), (5, .v (.int .i64 v4))], [(0, .arr 3 ((((List.map enc_sbi v5).set (0 + v4.toNat) (enc_sbi (x6, (gt v5 v4).2.1, (gt v5 v4).2.2))).set (0 + v4.toNat) (enc_sbi ((gt (v5.set (0 + v4.toNat) (x6, (gt v5 v4).2.1, (gt v5 v4).2.2)) v4).1, decide ((Int.tmod (IntKind.wrap .i64 (v3 + 1)) 3) = 0), (gt (v5.set (0 + v4.toNat) (x6, (gt v5 v4).2.1, (gt v5 v4).2.2)) v4).2.2))).set (0 + v4.toNat) (enc_sbi ((gt ((v5.set (0 + v4.toNat) (x6, (gt v5 v4).2.1, (gt v5 v4).2.2)).set (0 + v4.toNat) ((gt (v5.set (0 + v4.toNat) (x6, (gt v5 v4).2.1, (gt v5 v4).2.2)) v4).1, decide ((Int.tmod (IntKind.wrap .i64 (v3 + 1)) 3) = 0), (gt (v5.set (0 + v4.toNat) (x6, (gt v5 v4).2.1, (gt v5 v4).2.2)) v4).2.2)) v4).1, (gt ((v5.set (0 + v4.toNat) (x6, (gt v5 v4).2.1, (gt v5 v4).2.2)).set (0 + v4.toNat) ((gt (v5.set (0 + v4.toNat) (x6, (gt v5 v4).2.1, (gt v5 v4).2.2)) v4).1, decide ((Int.tmod (IntKind.wrap .i64 (v3 + 1)) 3) = 0), (gt (v5.set (0 + v4.toNat) (x6, (gt v5 v4).2.1, (gt v5 v4).2.2)) v4).2.2)) v4).2.1, IntKind.wrap .i64 ((IntKind.wrap .i64 (v3 + 1)) + 1)))))]⟩) (C := ((True) ∧ ((.v (.int .i64 (IntKind.wrap .i64 ((IntKind.wrap .i64 ((IntKind.wrap .i64 (v3 + 1)) + 1)) + 1))) : AV) = (.v (.int .i64 v7) : AV))) ∧ True) (by kernel_rfl) ⟨⟨trivial, (congrArg (fun z => AV.v (.int .i64 z)) q5)⟩, trivial⟩ trivial ?_
      refine AX.reg (its := [.auto {}, .auto { raw := true }]) [0, 1, 5] [0] (s1 := ⟨[(0, .sl 0 0 v5.length), (1, .v (.int .i64 v7)), (5, .v (.int .i64 (IntKind.wrap .i64 (v4 + 1))))], [(0, .arr 3 ((((List.map enc_sbi v5).set (0 + v4.toNat) (enc_sbi (x6, (gt v5 v4).2.1, (gt v5 v4).2.2))).set (0 + v4.toNat) (enc_sbi ((gt (v5.set (0 + v4.toNat) (x6, (gt v5 v4).2.1, (gt v5 v4).2.2)) v4).1, decide ((Int.tmod (IntKind.wrap .i64 (v3 + 1)) 3) = 0), (gt (v5.set (0 + v4.toNat) (x6, (gt v5 v4).2.1, (gt v5 v4).2.2)) v4).2.2))).set (0 + v4.toNat) (enc_sbi ((gt ((v5.set (0 + v4.toNat) (x6, (gt v5 v4).2.1, (gt v5 v4).2.2)).set (0 + v4.toNat) ((gt (v5.set (0 + v4.toNat) (x6, (gt v5 v4).2.1, (gt v5 v4).2.2)) v4).1, decide ((Int.tmod (IntKind.wrap .i64 (v3 + 1)) 3) = 0), (gt (v5.set (0 + v4.toNat) (x6, (gt v5 v4).2.1, (gt v5 v4).2.2)) v4).2.2)) v4).1, (gt ((v5.set (0 + v4.toNat) (x6, (gt v5 v4).2.1, (gt v5 v4).2.2)).set (0 + v4.toNat) ((gt (v5.set (0 + v4.toNat) (x6, (gt v5 v4).2.1, (gt v5 v4).2.2)) v4).1, decide ((Int.tmod (IntKind.wrap .i64 (v3 + 1)) 3) = 0), (gt (v5.set (0 + v4.toNat) (x6, (gt v5 v4).2.1, (gt v5 v4).2.2)) v4).2.2)) v4).2.1, IntKind.wrap .i64 ((IntKind.wrap .i64 (v3 + 1)) + 1)))))]⟩) (C := True) (by kernel_rfl) trivial trivial ?_
      refine ⟨(fu, (v7, IntKind.wrap .i64 (v4 + 1), ((v5.set (0 + v4.toNat) (x6, (gt v5 v4).2.1, (gt v5 v4).2.2)).set (0 + v4.toNat) ((gt (v5.set (0 + v4.toNat) (x6, (gt v5 v4).2.1, (gt v5 v4).2.2)) v4).1, decide ((Int.tmod (IntKind.wrap .i64 (v3 + 1)) 3) = 0), (gt (v5.set (0 + v4.toNat) (x6, (gt v5 v4).2.1, (gt v5 v4).2.2)) v4).2.2)).set (0 + v4.toNat) ((gt ((v5.set (0 + v4.toNat) (x6, (gt v5 v4).2.1, (gt v5 v4).2.2)).set (0 + v4.toNat) ((gt (v5.set (0 + v4.toNat) (x6, (gt v5 v4).2.1, (gt v5 v4).2.2)) v4).1, decide ((Int.tmod (IntKind.wrap .i64 (v3 + 1)) 3) = 0), (gt (v5.set (0 + v4.toNat) (x6, (gt v5 v4).2.1, (gt v5 v4).2.2)) v4).2.2)) v4).1, (gt ((v5.set (0 + v4.toNat) (x6, (gt v5 v4).2.1, (gt v5 v4).2.2)).set (0 + v4.toNat) ((gt (v5.set (0 + v4.toNat) (x6, (gt v5 v4).2.1, (gt v5 v4).2.2)) v4).1, decide ((Int.tmod (IntKind.wrap .i64 (v3 + 1)) 3) = 0), (gt (v5.set (0 + v4.toNat) (x6, (gt v5 v4).2.1, (gt v5 v4).2.2)) v4).2.2)) v4).2.1, IntKind.wrap .i64 ((IntKind.wrap .i64 (v3 + 1)) + 1)))), h, Nat.lt_succ_self _, ?_⟩
      refine Wk.trans (Wk.forget [0, 1, 5] [0] (s' := ⟨[(0, .sl 0 0 v5.length), (1, .v (.int .i64 v7)), (5, .v (.int .i64 (IntKind.wrap .i64 (v4 + 1))))], [(0, .arr 3 ((((List.map enc_sbi v5).set (0 + v4.toNat) (enc_sbi (x6, (gt v5 v4).2.1, (gt v5 v4).2.2))).set (0 + v4.toNat) (enc_sbi ((gt (v5.set (0 + v4.toNat) (x6, (gt v5 v4).2.1, (gt v5 v4).2.2)) v4).1, decide ((Int.tmod (IntKind.wrap .i64 (v3 + 1)) 3) = 0), (gt (v5.set (0 + v4.toNat) (x6, (gt v5 v4).2.1, (gt v5 v4).2.2)) v4).2.2))).set (0 + v4.toNat) (enc_sbi ((gt ((v5.set (0 + v4.toNat) (x6, (gt v5 v4).2.1, (gt v5 v4).2.2)).set (0 + v4.toNat) ((gt (v5.set (0 + v4.toNat) (x6, (gt v5 v4).2.1, (gt v5 v4).2.2)) v4).1, decide ((Int.tmod (IntKind.wrap .i64 (v3 + 1)) 3) = 0), (gt (v5.set (0 + v4.toNat) (x6, (gt v5 v4).2.1, (gt v5 v4).2.2)) v4).2.2)) v4).1, (gt ((v5.set (0 + v4.toNat) (x6, (gt v5 v4).2.1, (gt v5 v4).2.2)).set (0 + v4.toNat) ((gt (v5.set (0 + v4.toNat) (x6, (gt v5 v4).2.1, (gt v5 v4).2.2)) v4).1, decide ((Int.tmod (IntKind.wrap .i64 (v3 + 1)) 3) = 0), (gt (v5.set (0 + v4.toNat) (x6, (gt v5 v4).2.1, (gt v5 v4).2.2)) v4).2.2)) v4).2.1, IntKind.wrap .i64 ((IntKind.wrap .i64 (v3 + 1)) + 1)))))]⟩) (by kernel_rfl)) ?_
      refine Wk.trans (Wk.of_eq (congrArg (fun z => (⟨[(0, .sl 0 0 v5.length), (1, .v (.int .i64 v7)), (5, .v (.int .i64 (IntKind.wrap .i64 (v4 + 1))))], [(0, .arr 3 (z))]⟩ : S)) (set_can (enc := enc_sbi) (set_can (enc := enc_sbi) (set_can (enc := enc_sbi) rfl (0 + v4.toNat) (x6, (gt v5 v4).2.1, (gt v5 v4).2.2)) (0 + v4.toNat) ((gt (v5.set (0 + v4.toNat) (x6, (gt v5 v4).2.1, (gt v5 v4).2.2)) v4).1, decide ((Int.tmod (IntKind.wrap .i64 (v3 + 1)) 3) = 0), (gt (v5.set (0 + v4.toNat) (x6, (gt v5 v4).2.1, (gt v5 v4).2.2)) v4).2.2)) (0 + v4.toNat) ((gt ((v5.set (0 + v4.toNat) (x6, (gt v5 v4).2.1, (gt v5 v4).2.2)).set (0 + v4.toNat) ((gt (v5.set (0 + v4.toNat) (x6, (gt v5 v4).2.1, (gt v5 v4).2.2)) v4).1, decide ((Int.tmod (IntKind.wrap .i64 (v3 + 1)) 3) = 0), (gt (v5.set (0 + v4.toNat) (x6, (gt v5 v4).2.1, (gt v5 v4).2.2)) v4).2.2)) v4).1, (gt ((v5.set (0 + v4.toNat) (x6, (gt v5 v4).2.1, (gt v5 v4).2.2)).set (0 + v4.toNat) ((gt (v5.set (0 + v4.toNat) (x6, (gt v5 v4).2.1, (gt v5 v4).2.2)) v4).1, decide ((Int.tmod (IntKind.wrap .i64 (v3 + 1)) 3) = 0), (gt (v5.set (0 + v4.toNat) (x6, (gt v5 v4).2.1, (gt v5 v4).2.2)) v4).2.2)) v4).2.1, IntKind.wrap .i64 ((IntKind.wrap .i64 (v3 + 1)) + 1))))) ?_
      refine Wk.trans (Wk.of_eq (congrArg (fun z => (⟨[(0, .sl 0 0 z), (1, .v (.int .i64 v7)), (5, .v (.int .i64 (IntKind.wrap .i64 (v4 + 1))))], [(0, .arr 3 (List.map enc_sbi (((v5.set (0 + v4.toNat) (x6, (gt v5 v4).2.1, (gt v5 v4).2.2)).set (0 + v4.toNat) ((gt (v5.set (0 + v4.toNat) (x6, (gt v5 v4).2.1, (gt v5 v4).2.2)) v4).1, decide ((Int.tmod (IntKind.wrap .i64 (v3 + 1)) 3) = 0), (gt (v5.set (0 + v4.toNat) (x6, (gt v5 v4).2.1, (gt v5 v4).2.2)) v4).2.2)).set (0 + v4.toNat) ((gt ((v5.set (0 + v4.toNat) (x6, (gt v5 v4).2.1, (gt v5 v4).2.2)).set (0 + v4.toNat) ((gt (v5.set (0 + v4.toNat) (x6, (gt v5 v4).2.1, (gt v5 v4).2.2)) v4).1, decide ((Int.tmod (IntKind.wrap .i64 (v3 + 1)) 3) = 0), (gt (v5.set (0 + v4.toNat) (x6, (gt v5 v4).2.1, (gt v5 v4).2.2)) v4).2.2)) v4).1, (gt ((v5.set (0 + v4.toNat) (x6, (gt v5 v4).2.1, (gt v5 v4).2.2)).set (0 + v4.toNat) ((gt (v5.set (0 + v4.toNat) (x6, (gt v5 v4).2.1, (gt v5 v4).2.2)) v4).1, decide ((Int.tmod (IntKind.wrap .i64 (v3 + 1)) 3) = 0), (gt (v5.set (0 + v4.toNat) (x6, (gt v5 v4).2.1, (gt v5 v4).2.2)) v4).2.2)) v4).2.1, IntKind.wrap .i64 ((IntKind.wrap .i64 (v3 + 1)) + 1)))))]⟩ : S)) (set_len ((set_len ((set_len ((rfl : v5.length = v5.length)) (0 + v4.toNat) (x6, (gt v5 v4).2.1, (gt v5 v4).2.2) : v5.length = (v5.set (0 + v4.toNat) (x6, (gt v5 v4).2.1, (gt v5 v4).2.2)).length)) (0 + v4.toNat) ((gt (v5.set (0 + v4.toNat) (x6, (gt v5 v4).2.1, (gt v5 v4).2.2)) v4).1, decide ((Int.tmod (IntKind.wrap .i64 (v3 + 1)) 3) = 0), (gt (v5.set (0 + v4.toNat) (x6, (gt v5 v4).2.1, (gt v5 v4).2.2)) v4).2.2) : v5.length = ((v5.set (0 + v4.toNat) (x6, (gt v5 v4).2.1, (gt v5 v4).2.2)).set (0 + v4.toNat) ((gt (v5.set (0 + v4.toNat) (x6, (gt v5 v4).2.1, (gt v5 v4).2.2)) v4).1, decide ((Int.tmod (IntKind.wrap .i64 (v3 + 1)) 3) = 0), (gt (v5.set (0 + v4.toNat) (x6, (gt v5 v4).2.1, (gt v5 v4).2.2)) v4).2.2)).length)) (0 + v4.toNat) ((gt ((v5.set (0 + v4.toNat) (x6, (gt v5 v4).2.1, (gt v5 v4).2.2)).set (0 + v4.toNat) ((gt (v5.set (0 + v4.toNat) (x6, (gt v5 v4).2.1, (gt v5 v4).2.2)) v4).1, decide ((Int.tmod (IntKind.wrap .i64 (v3 + 1)) 3) = 0), (gt (v5.set (0 + v4.toNat) (x6, (gt v5 v4).2.1, (gt v5 v4).2.2)) v4).2.2)) v4).1, (gt ((v5.set (0 + v4.toNat) (x6, (gt v5 v4).2.1, (gt v5 v4).2.2)).set (0 + v4.toNat) ((gt (v5.set (0 + v4.toNat) (x6, (gt v5 v4).2.1, (gt v5 v4).2.2)) v4).1, decide ((Int.tmod (IntKind.wrap .i64 (v3 + 1)) 3) = 0), (gt (v5.set (0 + v4.toNat) (x6, (gt v5 v4).2.1, (gt v5 v4).2.2)) v4).2.2)) v4).2.1, IntKind.wrap .i64 ((IntKind.wrap .i64 (v3 + 1)) + 1))))) ?_
      exact Wk.refl _
    · replace h := cd_f b1 h
      refine AX.condF (decide (v4 < (v5.length : Int))) (by kernel_rfl) b1 ?_
      refine AX.exit ?_
      refine fin_wk (Wk.forget [1] [0] (s' := ⟨[(1, .v (.int .i64 v3))], [(0, .arr 3 (List.map enc_sbi v5))]⟩) (by kernel_rfl)) ?_
      have hr := Option.some.inj h
      subst hr
      exact ⟨_, Wk.refl _, ⟨rfl, rfl⟩⟩

theorem s_laws_markItemS_h (p1 : Int) (p2 : List (ByteArray × Bool × Int)) (r : Int × (List (ByteArray × Bool × Int))) (h : m_laws_markItemS_h p1 p2 = some r) :
    Eng.Spec Try.prog 25 [.sl 0 0 p2.length, .v (.int .i64 p1)] [.arr 3 (List.map enc_sbi p2)] (.v (.int .i64 r.1)) [.arr 3 (List.map enc_sbi r.2)] := by
  unfold m_laws_markItemS_h at h
  refine Eng.Spec.body Try.func25 (by kernel_rfl) rfl (by kernel_rfl) ?_
  refine AX.wkpost ?_
  refine AX.seq ?_
  refine AX.reg (its := []) [0, 1] [0] (s1 := ⟨[(0, .sl 0 0 p2.length), (1, .v (.int .i64 p1))], [(0, .arr 3 (List.map enc_sbi p2))]⟩) (C := True) (by kernel_rfl) trivial trivial ?_
  refine AX.seq ?_
  refine AX.seq ?_
  refine AX.reg (its := []) [0, 1, 5] [0] (s1 := ⟨[(0, .sl 0 0 p2.length), (1, .v (.int .i64 p1)), (5, .v (.int .i64 0))], [(0, .arr 3 (List.map enc_sbi p2))]⟩) (C := True) (by kernel_rfl) trivial trivial ?_
  refine AX.block ?_
  obtain ⟨x8, e6, h⟩ := bd_e h
  refine AX.wk (Wk.forget [0, 1, 5] [0] (s' := ⟨[(0, .sl 0 0 p2.length), (1, .v (.int .i64 p1)), (5, .v (.int .i64 0))], [(0, .arr 3 (List.map enc_sbi p2))]⟩) (by kernel_rfl)) ?_
  refine AX.mono (s_laws_markItemS_h_L1  FU (p1, 0, p2) x8 e6) ?_
  rintro _ _ ⟨rfl, rfl⟩
  skip
  refine AX.seq ?_
  refine AX.reg (its := []) [4] [0] (s1 := ⟨[(4, .v (.int .i64 x8.1))], [(0, .arr 3 (List.map enc_sbi x8.2))]⟩) (C := True) (by kernel_rfl) trivial trivial ?_
  refine AX.ret ?_
  refine fin_wk (Wk.forget [4] [0] (s' := ⟨[(4, .v (.int .i64 x8.1))], [(0, .arr 3 (List.map enc_sbi x8.2))]⟩) (by kernel_rfl)) ?_
  have hr := Option.some.inj h
  subst hr
  exact ⟨_, Wk.refl _, .inr rfl, ⟨[], by kernel_rfl, ⟨rfl, trivial⟩, [.v (.int .i64 x8.1)], by kernel_rfl, by kernel_rfl⟩⟩

theorem s_laws_markDefS_h_L1  (n : Nat) (g : Int × Int × (List (ByteArray × Int))) (out : Int × (List (ByteArray × Int))) (h : m_laws_markDefS_h_L1 n g.1 g.2.1 g.2.2 = some out) :
    AX Try.prog 28 1 (codeAt [1, 0, 1, 1] (bodyOf Try.f66)) ((fun g : Int × Int × (List (ByteArray × Int)) => (⟨[(0, .sl 0 0 g.2.2.length), (1, .v (.int .i64 g.1)), (5, .v (.int .i64 g.2.1))], [(0, .arr 2 (List.map enc_si g.2.2))]⟩ : S)) g) (fun ex s => ex = .exit 0 ∧ s = (fun o : Int × (List (ByteArray × Int)) => (⟨[(1, .v (.int .i64 o.1))], [(0, .arr 2 (List.map enc_si o.2))]⟩ : S)) out) := by
  refine AX.wkpost ?_
  refine AX.loop (G := Nat × (Int × Int × (List (ByteArray × Int)))) (fun q => (fun g : Int × Int × (List (ByteArray × Int)) => (⟨[(0, .sl 0 0 g.2.2.length), (1, .v (.int .i64 g.1)), (5, .v (.int .i64 g.2.1))], [(0, .arr 2 (List.map enc_si g.2.2))]⟩ : S)) q.2) (fun q => m_laws_markDefS_h_L1 q.1 q.2.1 q.2.2.1 q.2.2.2 = some out) (fun q => q.1) (n, g) h (Wk.refl _) ?_
  clear h
  rintro ⟨fu, v3, v4, v5⟩ h
  cases fu with
  | zero => cases h
  | succ fu =>
    rw [m_laws_markDefS_h_L1] at h
    refine AX.seq ?_
    refine AX.seq ?_
    refine AX.reg (its := []) [0, 1, 5, 9] [0] (s1 := ⟨[(0, .sl 0 0 v5.length), (1, .v (.int .i64 v3)), (5, .v (.int .i64 v4)), (9, .v (.bool (decide (v4 < (v5.length : Int)))))], [(0, .arr 2 (List.map enc_si v5))]⟩) (C := True) (by kernel_rfl) trivial trivial ?_
    rcases bool_cases (decide (v4 < (v5.length : Int))) with b1 | b1
    · replace h := cd_t b1 h
      refine AX.condT (decide (v4 < (v5.length : Int))) (by kernel_rfl) b1 ?_
      refine AX.skip ?_
      refine AX.seq ?_
      refine AX.block ?_
      refine AX.seq ?_
      obtain ⟨x6, e2, h⟩ := bd_e h
      obtain ⟨g3, h⟩ := gd_e h
      refine AX.reg (its := [.auto {}, .auto {}, .auto {}, .call 65 [.v (.int .i64 v3)] (handO (rho ([] ++ [])) [] [] ++ []) (callEv [] [] (.v (.string x6)) []), .auto {}, .auto {}, .auto { els := some ([enc_si (x6, (gt v5 v4).2)]) }]) [0, 1, 5] [0] (s1 := ⟨[(0, .sl 0 0 v5.length), (1, .v (.int .i64 v3)), (5, .v (.int .i64 v4))], [(0, .arr 2 ((List.map enc_si v5).set (0 + v4.toNat) (enc_si (x6, (gt v5 v4).2))))]⟩) (C := ((([.v (.int .i64 v3)] : List AV) = [.v (.int .i64 v3)]) ∧ True) ∧ (0 ≤ v4 ∧ v4 < (v5.length : Int)) ∧ ((((List.map enc_si v5).getD (0 + v4.toNat) []).take 0 ++ [(.string x6)] ++ ((List.map enc_si v5).getD (0 + v4.toNat) []).drop 1 = enc_si (x6, (gt v5 v4).2))) ∧ True) (by kernel_rfl) ⟨⟨rfl, trivial⟩, ⟨g3, ⟨(congrArg (fun z : List Value => z.take 0 ++ [(.string x6)] ++ z.drop 1) (idx_arr (enc := enc_si) rfl g3)), trivial⟩⟩⟩ ⟨call_ok (ks := []) (ns := []) (bor := []) (bobjs := []) (s_laws_markText v3 x6 e2) (.cons (.c1 (.c0 (.same _ (by kernel_rfl) (by kernel_rfl)))) (.nil)) (by kernel_rfl) trivial, trivial⟩ ?_
      refine AX.seq ?_
      refine AX.reg (its := [.auto {}, .auto { raw := true }]) [0, 1, 5] [0] (s1 := ⟨[(0, .sl 0 0 v5.length), (1, .v (.int .i64 (IntKind.wrap .i64 (v3 + 1)))), (5, .v (.int .i64 v4))], [(0, .arr 2 ((List.map enc_si v5).set (0 + v4.toNat) (enc_si (x6, (gt v5 v4).2))))]⟩) (C := True) (by kernel_rfl) trivial trivial ?_
      refine AX.seq ?_
      refine AX.reg (its := [.auto {}, .auto {}, .auto {}, .auto {}, .auto {}, .auto { els := some ([enc_si ((gt (v5.set (0 + v4.toNat) (x6, (gt v5 v4).2)) v4).1, IntKind.wrap .i64 (v3 + 1))]) }]) [0, 1, 5] [0] (s1 := ⟨[(0, .sl 0 0 v5.length), (1, .v (.int .i64 (IntKind.wrap .i64 (v3 + 1)))), (5, .v (.int .i64 v4))], [(0, .arr 2 (((List.map enc_si v5).set (0 + v4.toNat) (enc_si (x6, (gt v5 v4).2))).set (0 + v4.toNat) (enc_si ((gt (v5.set (0 + v4.toNat) (x6, (gt v5 v4).2)) v4).1, IntKind.wrap .i64 (v3 + 1)))))]⟩) (C := (0 ≤ v4 ∧ v4 < (v5.length : Int)) ∧ (((((List.map enc_si v5).set (0 + v4.toNat) (enc_si (x6, (gt v5 v4).2))).getD (0 + v4.toNat) []).take 1 ++ [(.int .i64 (IntKind.wrap .i64 (v3 + 1)))] ++ (((List.map enc_si v5).set (0 + v4.toNat) (enc_si (x6, (gt v5 v4).2))).getD (0 + v4.toNat) []).drop 2 = enc_si ((gt (v5.set (0 + v4.toNat) (x6, (gt v5 v4).2)) v4).1, IntKind.wrap .i64 (v3 + 1)))) ∧ True) (by kernel_rfl) ⟨g3, ⟨(congrArg (fun z : List Value => z.take 1 ++ [(.int .i64 (IntKind.wrap .i64 (v3 + 1)))] ++ z.drop 2) (idx_arr (enc := enc_si) (set_can (enc := enc_si) rfl (0 + v4.toNat) (x6, (gt v5 v4).2)) (idx_len (set_len ((rfl : v5.length = v5.length)) (0 + v4.toNat) (x6, (gt v5 v4).2)) g3))), trivial⟩⟩ trivial ?_
      refine AX.reg (its := [.auto {}, .auto { raw := true }]) [0, 1, 5] [0] (s1 := ⟨[(0, .sl 0 0 v5.length), (1, .v (.int .i64 (IntKind.wrap .i64 ((IntKind.wrap .i64 (v3 + 1)) + 1)))), (5, .v (.int .i64 v4))], [(0, .arr 2 (((List.map enc_si v5).set (0 + v4.toNat) (enc_si (x6, (gt v5 v4).2))).set (0 + v4.toNat) (enc_si ((gt (v5.set (0 + v4.toNat) (x6, (gt v5 v4).2)) v4).1, IntKind.wrap .i64 (v3 + 1)))))]⟩) (C := True) (by kernel_rfl) trivial trivial ?_
      refine AX.reg (its := [.auto {}, .auto { raw := true }]) [0, 1, 5] [0] (s1 := ⟨[(0, .sl 0 0 v5.length), (1, .v (.int .i64 (IntKind.wrap .i64 ((IntKind.wrap .i64 (v3 + 1)) + 1)))), (5, .v (.int .i64 (IntKind.wrap .i64 (v4 + 1))))], [(0, .arr 2 (((List.map enc_si v5).set (0 + v4.toNat) (enc_si (x6, (gt v5 v4).2))).set (0 + v4.toNat) (enc_si ((gt (v5.set (0 + v4.toNat) (x6, (gt v5 v4).2)) v4).1, IntKind.wrap .i64 (v3 + 1)))))]⟩) (C := True) (by kernel_rfl) trivial trivial ?_
      refine ⟨(fu, (IntKind.wrap .i64 ((IntKind.wrap .i64 (v3 + 1)) + 1), IntKind.wrap .i64 (v4 + 1), (v5.set (0 + v4.toNat) (x6, (gt v5 v4).2)).set (0 + v4.toNat) ((gt (v5.set (0 + v4.toNat) (x6, (gt v5 v4).2)) v4).1, IntKind.wrap .i64 (v3 + 1)))), h, Nat.lt_succ_self _, ?_⟩
      refine Wk.trans (Wk.forget [0, 1, 5] [0] (s' := ⟨[(0, .sl 0 0 v5.length), (1, .v (.int .i64 (IntKind.wrap .i64 ((IntKind.wrap .i64 (v3 + 1)) + 1)))), (5, .v (.int .i64 (IntKind.wrap .i64 (v4 + 1))))], [(0, .arr 2 (((List.map enc_si v5).set (0 + v4.toNat) (enc_si (x6, (gt v5 v4).2))).set (0 + v4.toNat) (enc_si ((gt (v5.set (0 + v4.toNat) (x6, (gt v5 v4).2)) v4).1, IntKind.wrap .i64 (v3 + 1)))))]⟩) (by kernel_rfl)) ?_
      refine Wk.trans (Wk.of_eq (congrArg (fun z => (⟨[(0, .sl 0 0 v5.length), (1, .v (.int .i64 (IntKind.wrap .i64 ((IntKind.wrap .i64 (v3 + 1)) + 1)))), (5, .v (.int .i64 (IntKind.wrap .i64 (v4 + 1))))], [(0, .arr 2 (z))]⟩ : S)) (set_can (enc := enc_si) (set_can (enc := enc_si) rfl (0 + v4.toNat) (x6, (gt v5 v4).2)) (0 + v4.toNat) ((gt (v5.set (0 + v4.toNat) (x6, (gt v5 v4).2)) v4).1, IntKind.wrap .i64 (v3 + 1))))) ?_
      refine Wk.trans (Wk.of_eq (congrArg (fun z => (⟨[(0, .sl 0 0 z), (1, .v (.int .i64 (IntKind.wrap .i64 ((IntKind.wrap .i64 (v3 + 1)) + 1)))), (5, .v (.int .i64 (IntKind.wrap .i64 (v4 + 1))))], [(0, .arr 2 (List.map enc_si ((v5.set (0 + v4.toNat) (x6, (gt v5 v4).2)).set (0 + v4.toNat) ((gt (v5.set (0 + v4.toNat) (x6, (gt v5 v4).2)) v4).1, IntKind.wrap .i64 (v3 + 1)))))]⟩ : S)) (set_len ((set_len ((rfl : v5.length = v5.length)) (0 + v4.toNat) (x6, (gt v5 v4).2) : v5.length = (v5.set (0 + v4.toNat) (x6, (gt v5 v4).2)).length)) (0 + v4.toNat) ((gt (v5.set (0 + v4.toNat) (x6, (gt v5 v4).2)) v4).1, IntKind.wrap .i64 (v3 + 1))))) ?_
      exact Wk.refl _
    · replace h := cd_f b1 h
      refine AX.condF (decide (v4 < (v5.length : Int))) (by kernel_rfl) b1 ?_
      refine AX.exit ?_
      refine fin_wk (Wk.forget [1] [0] (s' := ⟨[(1, .v (.int .i64 v3))], [(0, .arr 2 (List.map enc_si v5))]⟩) (by kernel_rfl)) ?_
      have hr := Option.some.inj h
      subst hr
      exact ⟨_, Wk.refl _, ⟨rfl, rfl⟩⟩

theorem s_laws_markDefS_h (p1 : Int) (p2 : List (ByteArray × Int)) (r : Int × (List (ByteArray × Int))) (h : m_laws_markDefS_h p1 p2 = some r) :
    Eng.Spec Try.prog 66 [.sl 0 0 p2.length, .v (.int .i64 p1)] [.arr 2 (List.map enc_si p2)] (.v (.int .i64 r.1)) [.arr 2 (List.map enc_si r.2)] := by
  unfold m_laws_markDefS_h at h
  refine Eng.Spec.body Try.func66 (by kernel_rfl) rfl (by kernel_rfl) ?_
  refine AX.wkpost ?_
  refine AX.seq ?_
  refine AX.reg (its := []) [0, 1] [0] (s1 := ⟨[(0, .sl 0 0 p2.length), (1, .v (.int .i64 p1))], [(0, .arr 2 (List.map enc_si p2))]⟩) (C := True) (by kernel_rfl) trivial trivial ?_
  refine AX.seq ?_
  refine AX.seq ?_
  refine AX.reg (its := []) [0, 1, 5] [0] (s1 := ⟨[(0, .sl 0 0 p2.length), (1, .v (.int .i64 p1)), (5, .v (.int .i64 0))], [(0, .arr 2 (List.map enc_si p2))]⟩) (C := True) (by kernel_rfl) trivial trivial ?_
  refine AX.block ?_
  obtain ⟨x7, e4, h⟩ := bd_e h
  refine AX.wk (Wk.forget [0, 1, 5] [0] (s' := ⟨[(0, .sl 0 0 p2.length), (1, .v (.int .i64 p1)), (5, .v (.int .i64 0))], [(0, .arr 2 (List.map enc_si p2))]⟩) (by kernel_rfl)) ?_
  refine AX.mono (s_laws_markDefS_h_L1  FU (p1, 0, p2) x7 e4) ?_
  rintro _ _ ⟨rfl, rfl⟩
  skip
  refine AX.seq ?_
  refine AX.reg (its := []) [4] [0] (s1 := ⟨[(4, .v (.int .i64 x7.1))], [(0, .arr 2 (List.map enc_si x7.2))]⟩) (C := True) (by kernel_rfl) trivial trivial ?_
  refine AX.ret ?_
  refine fin_wk (Wk.forget [4] [0] (s' := ⟨[(4, .v (.int .i64 x7.1))], [(0, .arr 2 (List.map enc_si x7.2))]⟩) (by kernel_rfl)) ?_
  have hr := Option.some.inj h
  subst hr
  exact ⟨_, Wk.refl _, .inr rfl, ⟨[], by kernel_rfl, ⟨rfl, trivial⟩, [.v (.int .i64 x7.1)], by kernel_rfl, by kernel_rfl⟩⟩

theorem s_laws_markFlag_h (p1 : Int) (p2 : Int) (p3 : List (ByteArray × Int)) (r : Int × (List (ByteArray × Int))) (h : m_laws_markFlag_h p1 p2 p3 = some r) :
    Eng.Spec Try.prog 26 [.agg [.sl 0 0 p3.length, .v (.int .i64 p1)], .v (.int .i64 p2)] [.arr 2 (List.map enc_si p3)] (.v (.int .i64 r.1)) [.arr 2 (List.map enc_si r.2)] := by
  unfold m_laws_markFlag_h at h
  refine Eng.Spec.body Try.func26 (by kernel_rfl) rfl (by kernel_rfl) ?_
  refine AX.wkpost ?_
  refine AX.seq ?_
  refine AX.reg (its := [.auto { nk := 1 }]) [1, 2] [0, 1] (s1 := ⟨[(1, .v (.int .i64 p2)), (2, .pt 1 0)], [(0, .arr 2 (List.map enc_si p3)), (1, .box [.sl 0 0 p3.length, .v (.int .i64 p1)])]⟩) (C := True) (by kernel_rfl) trivial trivial ?_
  refine AX.seq ?_
  obtain ⟨x4, e1, h⟩ := bd_e h
  obtain ⟨g2, h⟩ := gd_e h
  refine AX.reg (its := [.auto {}, .auto {}, .auto {}, .call 66 [.sl 0 0 p3.length, .v (.int .i64 p2)] (handO (rho ([0] ++ [])) [0] [.arr 2 (List.map enc_si p3)] ++ []) (callEv [0] [] (.v (.int .i64 x4.1)) [.arr 2 (List.map enc_si x4.2)])]) [1] [0] (s1 := ⟨[(1, .v (.int .i64 x4.1))], [(0, .arr 2 (List.map enc_si x4.2))]⟩) (C := ((([.sl 0 0 p3.length, .v (.int .i64 p2)] : List AV) = [.sl 0 0 p3.length, .v (.int .i64 p2)]) ∧ (AO.arr 2 (List.map enc_si p3) = AO.arr 2 (List.map enc_si p3)) ∧ True) ∧ True) (by kernel_rfl) ⟨⟨rfl, rfl, trivial⟩, trivial⟩ ⟨call_ok (ks := [0]) (ns := []) (bor := []) (bobjs := []) (s_laws_markDefS_h p2 p3 x4 e1) (.cons (.c1 (.c0 (.same _ (by kernel_rfl) (by kernel_rfl)))) (.cons (.c1 (.c0 (.same _ (by kernel_rfl) (by kernel_rfl)))) (.nil))) (by kernel_rfl) ⟨.inr (arr_sh (enc := enc_si) g2), trivial⟩, trivial⟩ ?_
  refine AX.seq ?_
  refine AX.reg (its := []) [4] [0] (s1 := ⟨[(4, .v (.int .i64 x4.1))], [(0, .arr 2 (List.map enc_si x4.2))]⟩) (C := True) (by kernel_rfl) trivial trivial ?_
  refine AX.ret ?_
  refine fin_wk (Wk.forget [4] [0] (s' := ⟨[(4, .v (.int .i64 x4.1))], [(0, .arr 2 (List.map enc_si x4.2))]⟩) (by kernel_rfl)) ?_
  refine fin_wk (Wk.of_eq (congrArg (fun z => (⟨[(4, .v (.int .i64 x4.1))], [(0, .arr 2 (List.map enc_si x4.2))]⟩ : S)) (((rfl : p3.length = p3.length)).trans (g2).symm))) ?_
  have hr := Option.some.inj h
  subst hr
  exact ⟨_, Wk.refl _, .inr rfl, ⟨[], by kernel_rfl, ⟨rfl, trivial⟩, [.v (.int .i64 x4.1)], by kernel_rfl, by kernel_rfl⟩⟩

theorem s_laws_heldDefS_L1 (p1 : List (ByteArray × Int)) (n : Nat) (g : Int × Int) (out : Unit ⊕ Int) (h : m_laws_heldDefS_L1 p1 n g.1 g.2 = some out) :
    AX Try.prog 32 0 (codeAt [1, 0, 1, 1] (bodyOf Try.f67)) ((fun g : Int × Int => (⟨[(0, .bs false 2 (List.map enc_si p1)), (1, .v (.int .i64 g.1)), (5, .v (.int .i64 g.2))], []⟩ : S)) g) (fun ex s => (∃ o : Unit, out = Sum.inl o ∧ ex = .ret ∧ s = ⟨[(4, .v (.int .i64 (-1)))], []⟩) ∨ (∃ o : Int, out = Sum.inr o ∧ ex = .exit 0 ∧ s = ⟨[(1, .v (.int .i64 o))], []⟩)) := by
  refine AX.wkpost ?_
  refine AX.loop (G := Nat × (Int × Int)) (fun q => (fun g : Int × Int => (⟨[(0, .bs false 2 (List.map enc_si p1)), (1, .v (.int .i64 g.1)), (5, .v (.int .i64 g.2))], []⟩ : S)) q.2) (fun q => m_laws_heldDefS_L1 p1 q.1 q.2.1 q.2.2 = some out) (fun q => q.1) (n, g) h (Wk.refl _) ?_
  clear h
  rintro ⟨fu, v3, v4⟩ h
  cases fu with
  | zero => cases h
  | succ fu =>
    rw [m_laws_heldDefS_L1] at h
    refine AX.seq ?_
    refine AX.seq ?_
    refine AX.reg (its := [.auto {}, .auto {}, .auto { y := some (.v (.int .i64 (p1.length : Int))) }]) [0, 1, 5, 9] [] (s1 := ⟨[(0, .bs false 2 (List.map enc_si p1)), (1, .v (.int .i64 v3)), (5, .v (.int .i64 v4)), (9, .v (.bool (decide (v4 < (p1.length : Int)))))], []⟩) (C := (True ∧ (AV.v (.int .i64 ((List.map enc_si p1).length : Int)) = AV.v (.int .i64 (p1.length : Int)))) ∧ True) (by kernel_rfl) ⟨⟨trivial, len_map enc_si p1⟩, trivial⟩ trivial ?_
    rcases bool_cases (decide (v4 < (p1.length : Int))) with b1 | b1
    · replace h := cd_t b1 h
      refine AX.condT (decide (v4 < (p1.length : Int))) (by kernel_rfl) b1 ?_
      refine AX.skip ?_
      refine AX.seq ?_
      refine AX.block ?_
      refine AX.seq ?_
      refine AX.seq ?_
      obtain ⟨g2, h⟩ := gd_e h
      obtain ⟨x5, e3, h⟩ := bd_e h
      refine AX.drw mixed (its := [.auto {}, .auto {}, .auto { y := some (.be 2 (enc_si (gt p1 v4)) 0) }, .auto {}, .auto {}, .auto {}, .call 65 [.v (.int .i64 v3)] (handO (rho ([] ++ [])) [] [] ++ []) (callEv [] [] (.v (.string x5)) [])]) [0, 1, 5, 19] [] (s1 := ⟨[(0, .bs false 2 (List.map enc_si p1)), (1, .v (.int .i64 v3)), (5, .v (.int .i64 v4)), (19, .v (.bool (!decide (((gt p1 v4).1) = x5))))], []⟩) (C := ((0 ≤ v4 ∧ v4 < ((List.map enc_si p1).length : Int)) ∧ (AV.be 2 ((List.map enc_si p1).getD v4.toNat []) 0 = AV.be 2 (enc_si (gt p1 v4)) 0)) ∧ ((([.v (.int .i64 v3)] : List AV) = [.v (.int .i64 v3)]) ∧ True) ∧ True) (by kernel_rfl) ⟨idx_bs enc_si p1 v4 2 g2, ⟨⟨rfl, trivial⟩, trivial⟩⟩ ⟨call_ok (ks := []) (ns := []) (bor := []) (bobjs := []) (s_laws_markText v3 x5 e3) (.cons (.c1 (.c0 (.same _ (by kernel_rfl) (by kernel_rfl)))) (.nil)) (by kernel_rfl) trivial, trivial⟩ ?_
      rcases bool_cases ((!decide (((gt p1 v4).1) = x5))) with b4 | b4
      · replace h := cd_t b4 h
        refine AX.condT ((!decide (((gt p1 v4).1) = x5))) (by kernel_rfl) b4 ?_
        refine AX.seq ?_
        refine AX.reg (its := []) [4] [] (s1 := ⟨[(4, .v (.int .i64 (-1)))], []⟩) (C := True) (by kernel_rfl) trivial trivial ?_
        refine AX.ret ?_
        refine fin_wk (Wk.forget [4] [] (s' := ⟨[(4, .v (.int .i64 (-1)))], []⟩) (by kernel_rfl)) ?_
        have hr := Option.some.inj h
        subst hr
        exact ⟨_, Wk.refl _, .inl ⟨(), rfl, rfl, rfl⟩⟩
      · replace h := cd_f b4 h
        refine AX.condF ((!decide (((gt p1 v4).1) = x5))) (by kernel_rfl) b4 ?_
        refine AX.skip ?_
        refine AX.seq ?_
        refine AX.reg (its := [.auto {}, .auto { raw := true }]) [0, 1, 5] [] (s1 := ⟨[(0, .bs false 2 (List.map enc_si p1)), (1, .v (.int .i64 (IntKind.wrap .i64 (v3 + 1)))), (5, .v (.int .i64 v4))], []⟩) (C := True) (by kernel_rfl) trivial trivial ?_
        refine AX.seq ?_
        refine AX.seq ?_
        refine AX.reg (its := [.auto {}, .auto {}, .auto { y := some (.be 2 (enc_si (gt p1 v4)) 0) }]) [0, 1, 5, 28] [] (s1 := ⟨[(0, .bs false 2 (List.map enc_si p1)), (1, .v (.int .i64 (IntKind.wrap .i64 (v3 + 1)))), (5, .v (.int .i64 v4)), (28, .v (.bool (!decide (((gt p1 v4).2) = (IntKind.wrap .i64 (v3 + 1))))))], []⟩) (C := ((0 ≤ v4 ∧ v4 < ((List.map enc_si p1).length : Int)) ∧ (AV.be 2 ((List.map enc_si p1).getD v4.toNat []) 0 = AV.be 2 (enc_si (gt p1 v4)) 0)) ∧ True) (by kernel_rfl) ⟨idx_bs enc_si p1 v4 2 g2, trivial⟩ trivial ?_
        rcases bool_cases ((!decide (((gt p1 v4).2) = (IntKind.wrap .i64 (v3 + 1))))) with b5 | b5
        · replace h := cd_t b5 h
          refine AX.condT ((!decide (((gt p1 v4).2) = (IntKind.wrap .i64 (v3 + 1))))) (by kernel_rfl) b5 ?_
          refine AX.seq ?_
          refine AX.reg (its := []) [4] [] (s1 := ⟨[(4, .v (.int .i64 (-1)))], []⟩) (C := True) (by kernel_rfl) trivial trivial ?_
          refine AX.ret ?_
          refine fin_wk (Wk.forget [4] [] (s' := ⟨[(4, .v (.int .i64 (-1)))], []⟩) (by kernel_rfl)) ?_
          have hr := Option.some.inj h
          subst hr
          exact ⟨_, Wk.refl _, .inl ⟨(), rfl, rfl, rfl⟩⟩
        · replace h := cd_f b5 h
          refine AX.condF ((!decide (((gt p1 v4).2) = (IntKind.wrap .i64 (v3 + 1))))) (by kernel_rfl) b5 ?_
          refine AX.skip ?_
          refine AX.reg (its := [.auto {}, .auto { raw := true }]) [0, 1, 5] [] (s1 := ⟨[(0, .bs false 2 (List.map enc_si p1)), (1, .v (.int .i64 (IntKind.wrap .i64 ((IntKind.wrap .i64 (v3 + 1)) + 1)))), (5, .v (.int .i64 v4))], []⟩) (C := True) (by kernel_rfl) trivial trivial ?_
          refine AX.reg (its := [.auto {}, .auto { raw := true }]) [0, 1, 5] [] (s1 := ⟨[(0, .bs false 2 (List.map enc_si p1)), (1, .v (.int .i64 (IntKind.wrap .i64 ((IntKind.wrap .i64 (v3 + 1)) + 1)))), (5, .v (.int .i64 (IntKind.wrap .i64 (v4 + 1))))], []⟩) (C := True) (by kernel_rfl) trivial trivial ?_
          refine ⟨(fu, (IntKind.wrap .i64 ((IntKind.wrap .i64 (v3 + 1)) + 1), IntKind.wrap .i64 (v4 + 1))), h, Nat.lt_succ_self _, ?_⟩
          refine Wk.trans (Wk.forget [0, 1, 5] [] (s' := ⟨[(0, .bs false 2 (List.map enc_si p1)), (1, .v (.int .i64 (IntKind.wrap .i64 ((IntKind.wrap .i64 (v3 + 1)) + 1)))), (5, .v (.int .i64 (IntKind.wrap .i64 (v4 + 1))))], []⟩) (by kernel_rfl)) ?_
          exact Wk.refl _
    · replace h := cd_f b1 h
      refine AX.condF (decide (v4 < (p1.length : Int))) (by kernel_rfl) b1 ?_
      refine AX.exit ?_
      refine fin_wk (Wk.forget [1] [] (s' := ⟨[(1, .v (.int .i64 v3))], []⟩) (by kernel_rfl)) ?_
      have hr := Option.some.inj h
      subst hr
      exact ⟨_, Wk.refl _, .inr ⟨v3, rfl, rfl, rfl⟩⟩

theorem s_laws_heldDefS (p1 : List (ByteArray × Int)) (p2 : Int) (r : Int) (h : m_laws_heldDefS p1 p2 = some r) :
    Eng.Spec Try.prog 67 [.bs false 2 (List.map enc_si p1), .v (.int .i64 p2)] [] (.v (.int .i64 r)) [] := by
  unfold m_laws_heldDefS at h
  refine Eng.Spec.body Try.func67 (by kernel_rfl) rfl (by kernel_rfl) ?_
  refine AX.wkpost ?_
  refine AX.seq ?_
  refine AX.reg (its := []) [0, 1] [] (s1 := ⟨[(0, .bs false 2 (List.map enc_si p1)), (1, .v (.int .i64 p2))], []⟩) (C := True) (by kernel_rfl) trivial trivial ?_
  refine AX.seq ?_
  refine AX.seq ?_
  refine AX.reg (its := []) [0, 1, 5] [] (s1 := ⟨[(0, .bs false 2 (List.map enc_si p1)), (1, .v (.int .i64 p2)), (5, .v (.int .i64 0))], []⟩) (C := True) (by kernel_rfl) trivial trivial ?_
  refine AX.block ?_
  obtain ⟨x6, e6, h⟩ := bd_e h
  refine AX.wk (Wk.forget [0, 1, 5] [] (s' := ⟨[(0, .bs false 2 (List.map enc_si p1)), (1, .v (.int .i64 p2)), (5, .v (.int .i64 0))], []⟩) (by kernel_rfl)) ?_
  refine AX.mono (s_laws_heldDefS_L1 p1 FU (p2, 0) x6 e6) ?_
  rintro _ _ (⟨x7, rfl, rfl, rfl⟩ | ⟨x8, rfl, rfl, rfl⟩)
  · replace h := sm_l h
    refine fin_wk (Wk.forget [4] [] (s' := ⟨[(4, .v (.int .i64 (-1)))], []⟩) (by kernel_rfl)) ?_
    have hr := Option.some.inj h
    subst hr
    exact ⟨_, Wk.refl _, .inr rfl, ⟨[], by kernel_rfl, trivial, [.v (.int .i64 (-1))], by kernel_rfl, by kernel_rfl⟩⟩
  · replace h := sm_r h
    refine AX.seq ?_
    refine AX.reg (its := []) [4] [] (s1 := ⟨[(4, .v (.int .i64 x8))], []⟩) (C := True) (by kernel_rfl) trivial trivial ?_
    refine AX.ret ?_
    refine fin_wk (Wk.forget [4] [] (s' := ⟨[(4, .v (.int .i64 x8))], []⟩) (by kernel_rfl)) ?_
    have hr := Option.some.inj h
    subst hr
    exact ⟨_, Wk.refl _, .inr rfl, ⟨[], by kernel_rfl, trivial, [.v (.int .i64 x8)], by kernel_rfl, by kernel_rfl⟩⟩

theorem s_laws_heldFlag (p1 : List (ByteArray × Int)) (p2 : Int) (p3 : Int) (r : Int) (h : m_laws_heldFlag p1 p2 p3 = some r) :
    Eng.Spec Try.prog 27 [.agg [.bs false 2 (List.map enc_si p1), .v (.int .i64 p2)], .v (.int .i64 p3)] [] (.v (.int .i64 r)) [] := by
  unfold m_laws_heldFlag at h
  refine Eng.Spec.body Try.func27 (by kernel_rfl) rfl (by kernel_rfl) ?_
  refine AX.wkpost ?_
  refine AX.seq ?_
  refine AX.reg (its := [.auto { nk := 0 }]) [1, 2] [0] (s1 := ⟨[(1, .v (.int .i64 p3)), (2, .pt 0 0)], [(0, .box [.bs false 2 (List.map enc_si p1), .v (.int .i64 p2)])]⟩) (C := True) (by kernel_rfl) trivial trivial ?_
  refine AX.seq ?_
  obtain ⟨x4, e1, h⟩ := bd_e h
  refine AX.reg (its := [.auto {}, .auto {}, .auto {}, .call 67 [.bs false 2 (List.map enc_si p1), .v (.int .i64 p3)] (handO (rho ([] ++ [])) [] [] ++ []) (callEv [] [] (.v (.int .i64 x4)) [])]) [1] [] (s1 := ⟨[(1, .v (.int .i64 x4))], []⟩) (C := ((([.bs false 2 (List.map enc_si p1), .v (.int .i64 p3)] : List AV) = [.bs false 2 (List.map enc_si p1), .v (.int .i64 p3)]) ∧ True) ∧ True) (by kernel_rfl) ⟨⟨rfl, trivial⟩, trivial⟩ ⟨call_ok (ks := []) (ns := []) (bor := []) (bobjs := []) (s_laws_heldDefS p1 p3 x4 e1) (.cons (.c1 (.c0 (.same _ (by kernel_rfl) (by kernel_rfl)))) (.cons (.c1 (.c0 (.same _ (by kernel_rfl) (by kernel_rfl)))) (.nil))) (by kernel_rfl) trivial, trivial⟩ ?_
  refine AX.seq ?_
  refine AX.seq ?_
  refine AX.reg (its := []) [1, 10] [] (s1 := ⟨[(1, .v (.int .i64 x4)), (10, .v (.bool (decide (x4 < 0))))], []⟩) (C := True) (by kernel_rfl) trivial trivial ?_
  rcases bool_cases (decide (x4 < 0)) with b2 | b2
  · replace h := cd_t b2 h
    refine AX.condT (decide (x4 < 0)) (by kernel_rfl) b2 ?_
    refine AX.seq ?_
    refine AX.reg (its := []) [4] [] (s1 := ⟨[(4, .v (.int .i64 (-1)))], []⟩) (C := True) (by kernel_rfl) trivial trivial ?_
    refine AX.ret ?_
    refine fin_wk (Wk.forget [4] [] (s' := ⟨[(4, .v (.int .i64 (-1)))], []⟩) (by kernel_rfl)) ?_
    have hr := Option.some.inj h
    subst hr
    exact ⟨_, Wk.refl _, .inr rfl, ⟨[], by kernel_rfl, trivial, [.v (.int .i64 (-1))], by kernel_rfl, by kernel_rfl⟩⟩
  · replace h := cd_f b2 h
    refine AX.condF (decide (x4 < 0)) (by kernel_rfl) b2 ?_
    refine AX.skip ?_
    refine AX.seq ?_
    refine AX.reg (its := []) [4] [] (s1 := ⟨[(4, .v (.int .i64 x4))], []⟩) (C := True) (by kernel_rfl) trivial trivial ?_
    refine AX.ret ?_
    refine fin_wk (Wk.forget [4] [] (s' := ⟨[(4, .v (.int .i64 x4))], []⟩) (by kernel_rfl)) ?_
    have hr := Option.some.inj h
    subst hr
    exact ⟨_, Wk.refl _, .inr rfl, ⟨[], by kernel_rfl, trivial, [.v (.int .i64 x4)], by kernel_rfl, by kernel_rfl⟩⟩

theorem s_laws_FnExactBuildFlag (p1 : List (ByteArray × Bool × Int)) (p2 : Int) (r : Bool) (h : m_laws_FnExactBuildFlag p1 p2 = some r) :
    Eng.Spec Try.prog 5 [.bs true 3 (List.map enc_sbi p1), .v (.int .i64 p2)] [] (.v (.bool r)) [] := by
  unfold m_laws_FnExactBuildFlag at h
  refine Eng.Spec.body Try.func5 (by kernel_rfl) rfl (by kernel_rfl) ?_
  refine AX.wkpost ?_
  refine AX.seq ?_
  refine AX.reg (its := []) [0, 1] [] (s1 := ⟨[(0, .bs true 3 (List.map enc_sbi p1)), (1, .v (.int .i64 p2))], []⟩) (C := True) (by kernel_rfl) trivial trivial ?_
  refine AX.seq ?_
  refine AX.reg (its := []) [0, 1, 5] [] (s1 := ⟨[(0, .bs true 3 (List.map enc_sbi p1)), (1, .v (.int .i64 p2)), (5, .v (.int .i64 1048576))], []⟩) (C := True) (by kernel_rfl) trivial trivial ?_
  refine AX.seq ?_
  obtain ⟨x3, e1, h⟩ := bd_e h
  refine AX.reg (its := [.auto {}, .auto {}, .call 21 [.bs true 3 (List.map enc_sbi p1), .v (.int .i64 1048576)] (handO (rho ([] ++ [])) [] [] ++ []) (callEv [] [] (.v (.int .i64 x3)) [])]) [0, 1, 5] [] (s1 := ⟨[(0, .bs true 3 (List.map enc_sbi p1)), (1, .v (.int .i64 p2)), (5, .v (.int .i64 x3))], []⟩) (C := ((([.bs true 3 (List.map enc_sbi p1), .v (.int .i64 1048576)] : List AV) = [.bs true 3 (List.map enc_sbi p1), .v (.int .i64 1048576)]) ∧ True) ∧ True) (by kernel_rfl) ⟨⟨rfl, trivial⟩, trivial⟩ ⟨call_ok (ks := []) (ns := []) (bor := []) (bobjs := []) (s_laws_szItemS p1 1048576 x3 e1) (.cons (.c1 (.c0 (.same _ (by kernel_rfl) (by kernel_rfl)))) (.cons (.c1 (.c0 (.same _ (by kernel_rfl) (by kernel_rfl)))) (.nil))) (by kernel_rfl) trivial, trivial⟩ ?_
  refine AX.seq ?_
  refine AX.seq ?_
  refine AX.reg (its := []) [0, 1, 20] [] (s1 := ⟨[(0, .bs true 3 (List.map enc_sbi p1)), (1, .v (.int .i64 p2)), (20, .v (.bool (decide (x3 < 0))))], []⟩) (C := True) (by kernel_rfl) trivial trivial ?_
  rcases bool_cases (decide (x3 < 0)) with b2 | b2
  · replace h := cd_t b2 h
    refine AX.condT (decide (x3 < 0)) (by kernel_rfl) b2 ?_
    refine AX.seq ?_
    refine AX.reg (its := []) [4] [] (s1 := ⟨[(4, .v (.bool true))], []⟩) (C := True) (by kernel_rfl) trivial trivial ?_
    refine AX.ret ?_
    refine fin_wk (Wk.forget [4] [] (s' := ⟨[(4, .v (.bool true))], []⟩) (by kernel_rfl)) ?_
    have hr := Option.some.inj h
    subst hr
    exact ⟨_, Wk.refl _, .inr rfl, ⟨[], by kernel_rfl, trivial, [.v (.bool true)], by kernel_rfl, by kernel_rfl⟩⟩
  · replace h := cd_f b2 h
    refine AX.condF (decide (x3 < 0)) (by kernel_rfl) b2 ?_
    refine AX.skip ?_
    refine AX.seq ?_
    obtain ⟨x4, e3, h⟩ := bd_e h
    obtain ⟨x5, e4, h⟩ := bd_e h
    refine AX.reg (its := [.auto {}, .call 22 [.bs true 3 (List.map enc_sbi p1)] (handO (rho ([] ++ [0])) [] [] ++ []) (callEv [] [0] (.sl 0 0 x4.length) [.arr 3 (List.map enc_sbi x4)]), .auto {}, .call 16 [.sl 0 0 x4.length, .v (.int .i64 p2)] (handO (rho ([] ++ [1])) [] [] ++ [(0, .arr 3 (List.map enc_sbi x4))]) (callEv [] [1] (.tup [.agg [.sl 0 0 x5.1.length, .v (.int .i64 x5.2.1)], .v (.bool x5.2.2)]) [.arr 2 (List.map enc_si x5.1)]), .auto {}, .auto {}, .auto {}, .auto { nk := 2 }]) [0, 1, 6, 7] [1, 2] (s1 := ⟨[(0, .bs true 3 (List.map enc_sbi p1)), (1, .v (.int .i64 p2)), (6, .pt 2 0), (7, .v (.bool x5.2.2))], [(1, .arr 2 (List.map enc_si x5.1)), (2, .box [.sl 1 0 x5.1.length, .v (.int .i64 x5.2.1)])]⟩) (C := ((([.bs true 3 (List.map enc_sbi p1)] : List AV) = [.bs true 3 (List.map enc_sbi p1)]) ∧ True) ∧ ((([.sl 0 0 x4.length, .v (.int .i64 p2)] : List AV) = [.sl 0 0 x4.length, .v (.int .i64 p2)]) ∧ (AO.arr 3 (List.map enc_sbi x4) = AO.arr 3 (List.map enc_sbi x4)) ∧ True) ∧ True) (by kernel_rfl) ⟨⟨rfl, trivial⟩, ⟨⟨rfl, rfl, trivial⟩, trivial⟩⟩ ⟨call_ok (ks := []) (ns := [0]) (bor := []) (bobjs := []) (s_laws_toItemS p1 x4 e3) (.cons (.c1 (.c0 (.same _ (by kernel_rfl) (by kernel_rfl)))) (.nil)) (by kernel_rfl) trivial, ⟨call_ok (ks := []) (ns := [1]) (bor := [0]) (bobjs := [(0, .arr 3 (List.map enc_sbi x4))]) (s_spec_BuildFlag x4 p2 x5 e4) (.cons (.c1 (.c0 (.arr rfl rfl ((rfl).trans (List.length_map ..).symm)))) (.cons (.c1 (.c0 (.same _ (by kernel_rfl) (by kernel_rfl)))) (.nil))) (by kernel_rfl) trivial, trivial⟩⟩ ?_
    refine AX.seq ?_
    obtain ⟨x6, e5, h⟩ := bd_e h
    refine AX.reg (its := [.auto {}, .call 22 [.bs true 3 (List.map enc_sbi p1)] (handO (rho ([] ++ [3])) [] [] ++ []) (callEv [] [3] (.sl 0 0 x6.length) [.arr 3 (List.map enc_sbi x6)])]) [0, 1, 6, 7, 8] [1, 2, 3] (s1 := ⟨[(0, .bs true 3 (List.map enc_sbi p1)), (1, .v (.int .i64 p2)), (6, .pt 2 0), (7, .v (.bool x5.2.2)), (8, .sl 3 0 x6.length)], [(1, .arr 2 (List.map enc_si x5.1)), (2, .box [.sl 1 0 x5.1.length, .v (.int .i64 x5.2.1)]), (3, .arr 3 (List.map enc_sbi x6))]⟩) (C := ((([.bs true 3 (List.map enc_sbi p1)] : List AV) = [.bs true 3 (List.map enc_sbi p1)]) ∧ True) ∧ True) (by kernel_rfl) ⟨⟨rfl, trivial⟩, trivial⟩ ⟨call_ok (ks := []) (ns := [3]) (bor := []) (bobjs := []) (s_laws_toItemS p1 x6 e5) (.cons (.c1 (.c0 (.same _ (by kernel_rfl) (by kernel_rfl)))) (.nil)) (by kernel_rfl) trivial, trivial⟩ ?_
    refine AX.seq ?_
    obtain ⟨x7, e6, h⟩ := bd_e h
    refine AX.reg (its := [.auto {}, .auto {}, .call 15 [.sl 3 0 x6.length, .v (.int .i64 p2)] (handO (rho ([] ++ [4])) [] [] ++ [(3, .arr 3 (List.map enc_sbi x6))]) (callEv [] [4] (.tup [.agg [.sl 0 0 x7.1.length, .v (.int .i64 x7.2.1)], .v (.bool x7.2.2)]) [.arr 2 (List.map enc_si x7.1)]), .auto {}, .auto {}, .auto {}, .auto { nk := 5 }]) [0, 1, 6, 7, 8, 9, 10] [1, 2, 3, 4, 5] (s1 := ⟨[(0, .bs true 3 (List.map enc_sbi p1)), (1, .v (.int .i64 p2)), (6, .pt 2 0), (7, .v (.bool x5.2.2)), (8, .sl 3 0 x6.length), (9, .pt 5 0), (10, .v (.bool x7.2.2))], [(1, .arr 2 (List.map enc_si x5.1)), (2, .box [.sl 1 0 x5.1.length, .v (.int .i64 x5.2.1)]), (3, .arr 3 (List.map enc_sbi x6)), (4, .arr 2 (List.map enc_si x7.1)), (5, .box [.sl 4 0 x7.1.length, .v (.int .i64 x7.2.1)])]⟩) (C := ((([.sl 3 0 x6.length, .v (.int .i64 p2)] : List AV) = [.sl 3 0 x6.length, .v (.int .i64 p2)]) ∧ (AO.arr 3 (List.map enc_sbi x6) = AO.arr 3 (List.map enc_sbi x6)) ∧ True) ∧ True) (by kernel_rfl) ⟨⟨rfl, rfl, trivial⟩, trivial⟩ ⟨call_ok (ks := []) (ns := [4]) (bor := [3]) (bobjs := [(3, .arr 3 (List.map enc_sbi x6))]) (s_impl_BuildFlag x6 p2 x7 e6) (.cons (.c1 (.c0 (.arr rfl rfl ((rfl).trans (List.length_map ..).symm)))) (.cons (.c1 (.c0 (.same _ (by kernel_rfl) (by kernel_rfl)))) (.nil))) (by kernel_rfl) trivial, trivial⟩ ?_
    refine AX.seq ?_
    refine AX.seq ?_
    obtain ⟨x8, e7, h⟩ := bd_e h
    rcases bool_cases ((!x8)) with b8 | b8
    · replace h := cd_t b8 h
      refine AX.reg (its := [.auto {}, .auto {}, .call 23 [.agg [.sl 4 0 x7.1.length, .v (.int .i64 x7.2.1)], .agg [.sl 1 0 x5.1.length, .v (.int .i64 x5.2.1)]] (handO (rho ([] ++ [])) [] [] ++ [(4, .arr 2 (List.map enc_si x7.1)), (1, .arr 2 (List.map enc_si x5.1))]) (callEv [] [] (.v (.bool x8)) []), .auto { y := some (.v (.bool true)) }]) [0, 1, 6, 7, 8, 9, 10, 44] [1, 2, 3, 4, 5] (s1 := ⟨[(0, .bs true 3 (List.map enc_sbi p1)), (1, .v (.int .i64 p2)), (6, .pt 2 0), (7, .v (.bool x5.2.2)), (8, .sl 3 0 x6.length), (9, .pt 5 0), (10, .v (.bool x7.2.2)), (44, .v (.bool true))], [(1, .arr 2 (List.map enc_si x5.1)), (2, .box [.sl 1 0 x5.1.length, .v (.int .i64 x5.2.1)]), (3, .arr 3 (List.map enc_sbi x6)), (4, .arr 2 (List.map enc_si x7.1)), (5, .box [.sl 4 0 x7.1.length, .v (.int .i64 x7.2.1)])]⟩) (C := ((([.agg [.sl 4 0 x7.1.length, .v (.int .i64 x7.2.1)], .agg [.sl 1 0 x5.1.length, .v (.int .i64 x5.2.1)]] : List AV) = [.agg [.sl 4 0 x7.1.length, .v (.int .i64 x7.2.1)], .agg [.sl 1 0 x5.1.length, .v (.int .i64 x5.2.1)]]) ∧ (AO.arr 2 (List.map enc_si x7.1) = AO.arr 2 (List.map enc_si x7.1)) ∧ (AO.arr 2 (List.map enc_si x5.1) = AO.arr 2 (List.map enc_si x5.1)) ∧ True) ∧ ((True) ∧ ((.v (.bool (!x8)) : AV) = (.v (.bool true) : AV))) ∧ True) (by kernel_rfl) ⟨⟨rfl, rfl, rfl, trivial⟩, ⟨⟨trivial, (congrArg (fun z => AV.v (.bool z)) b8)⟩, trivial⟩⟩ ⟨call_ok (ks := []) (ns := []) (bor := [4, 1]) (bobjs := [(4, .arr 2 (List.map enc_si x7.1)), (1, .arr 2 (List.map enc_si x5.1))]) (s_laws_eqFlag x7.1 x7.2.1 x5.1 x5.2.1 x8 e7) (.cons (.c1 (.agg (.cons (.arr rfl rfl ((rfl).trans (List.length_map ..).symm)) (.cons (.same _ (by kernel_rfl) (by kernel_rfl)) (.nil))))) (.cons (.c1 (.agg (.cons (.arr rfl rfl ((rfl).trans (List.length_map ..).symm)) (.cons (.same _ (by kernel_rfl) (by kernel_rfl)) (.nil))))) (.nil))) (by kernel_rfl) trivial, trivial⟩ ?_
      refine AX.cond_true (by kernel_rfl) ?_
      refine AX.seq ?_
      refine AX.reg (its := []) [4] [] (s1 := ⟨[(4, .v (.bool false))], []⟩) (C := True) (by kernel_rfl) trivial trivial ?_
      refine AX.ret ?_
      refine fin_wk (Wk.forget [4] [] (s' := ⟨[(4, .v (.bool false))], []⟩) (by kernel_rfl)) ?_
      have hr := Option.some.inj h
      subst hr
      exact ⟨_, Wk.refl _, .inr rfl, ⟨[], by kernel_rfl, trivial, [.v (.bool false)], by kernel_rfl, by kernel_rfl⟩⟩
    · replace h := cd_f b8 h
      refine AX.reg (its := [.auto {}, .auto {}, .call 23 [.agg [.sl 4 0 x7.1.length, .v (.int .i64 x7.2.1)], .agg [.sl 1 0 x5.1.length, .v (.int .i64 x5.2.1)]] (handO (rho ([] ++ [])) [] [] ++ [(4, .arr 2 (List.map enc_si x7.1)), (1, .arr 2 (List.map enc_si x5.1))]) (callEv [] [] (.v (.bool x8)) []), .auto { y := some (.v (.bool false)) }]) [0, 1, 6, 7, 8, 9, 10, 44] [1, 2, 3, 4, 5] (s1 := ⟨[(0, .bs true 3 (List.map enc_sbi p1)), (1, .v (.int .i64 p2)), (6, .pt 2 0), (7, .v (.bool x5.2.2)), (8, .sl 3 0 x6.length), (9, .pt 5 0), (10, .v (.bool x7.2.2)), (44, .v (.bool (!(x7.2.2 == x5.2.2))))], [(1, .arr 2 (List.map enc_si x5.1)), (2, .box [.sl 1 0 x5.1.length, .v (.int .i64 x5.2.1)]), (3, .arr 3 (List.map enc_sbi x6)), (4, .arr 2 (List.map enc_si x7.1)), (5, .box [.sl 4 0 x7.1.length, .v (.int .i64 x7.2.1)])]⟩) (C := ((([.agg [.sl 4 0 x7.1.length, .v (.int .i64 x7.2.1)], .agg [.sl 1 0 x5.1.length, .v (.int .i64 x5.2.1)]] : List AV) = [.agg [.sl 4 0 x7.1.length, .v (.int .i64 x7.2.1)], .agg [.sl 1 0 x5.1.length, .v (.int .i64 x5.2.1)]]) ∧ (AO.arr 2 (List.map enc_si x7.1) = AO.arr 2 (List.map enc_si x7.1)) ∧ (AO.arr 2 (List.map enc_si x5.1) = AO.arr 2 (List.map enc_si x5.1)) ∧ True) ∧ ((True) ∧ ((.v (.bool (!x8)) : AV) = (.v (.bool false) : AV))) ∧ True) (by kernel_rfl) ⟨⟨rfl, rfl, rfl, trivial⟩, ⟨⟨trivial, (congrArg (fun z => AV.v (.bool z)) b8)⟩, trivial⟩⟩ ⟨call_ok (ks := []) (ns := []) (bor := [4, 1]) (bobjs := [(4, .arr 2 (List.map enc_si x7.1)), (1, .arr 2 (List.map enc_si x5.1))]) (s_laws_eqFlag x7.1 x7.2.1 x5.1 x5.2.1 x8 e7) (.cons (.c1 (.agg (.cons (.arr rfl rfl ((rfl).trans (List.length_map ..).symm)) (.cons (.same _ (by kernel_rfl) (by kernel_rfl)) (.nil))))) (.cons (.c1 (.agg (.cons (.arr rfl rfl ((rfl).trans (List.length_map ..).symm)) (.cons (.same _ (by kernel_rfl) (by kernel_rfl)) (.nil))))) (.nil))) (by kernel_rfl) trivial, trivial⟩ ?_
      rcases bool_cases ((!(x7.2.2 == x5.2.2))) with b9 | b9
      · replace h := cd_t b9 h
        refine AX.condT ((!(x7.2.2 == x5.2.2))) (by kernel_rfl) b9 ?_
        refine AX.seq ?_
        refine AX.reg (its := []) [4] [] (s1 := ⟨[(4, .v (.bool false))], []⟩) (C := True) (by kernel_rfl) trivial trivial ?_
        refine AX.ret ?_
        refine fin_wk (Wk.forget [4] [] (s' := ⟨[(4, .v (.bool false))], []⟩) (by kernel_rfl)) ?_
        have hr := Option.some.inj h
        subst hr
        exact ⟨_, Wk.refl _, .inr rfl, ⟨[], by kernel_rfl, trivial, [.v (.bool false)], by kernel_rfl, by kernel_rfl⟩⟩
      · replace h := cd_f b9 h
        refine AX.condF ((!(x7.2.2 == x5.2.2))) (by kernel_rfl) b9 ?_
        refine AX.skip ?_
        refine AX.seq ?_
        refine AX.seq ?_
        obtain ⟨x9, e10, h⟩ := bd_e h
        obtain ⟨x10, e11, h⟩ := bd_e h
        refine AX.reg (its := [.auto {}, .auto {}, .call 22 [.bs true 3 (List.map enc_sbi p1)] (handO (rho ([] ++ [6])) [] [] ++ []) (callEv [] [6] (.sl 0 0 x9.length) [.arr 3 (List.map enc_sbi x9)]), .call 24 [.sl 3 0 x6.length, .sl 6 0 x9.length] (handO (rho ([] ++ [])) [] [] ++ [(3, .arr 3 (List.map enc_sbi x6)), (6, .arr 3 (List.map enc_sbi x9))]) (callEv [] [] (.v (.bool x10)) [])]) [0, 1, 6, 7, 8, 9, 10, 49] [1, 2, 3, 4, 5] (s1 := ⟨[(0, .bs true 3 (List.map enc_sbi p1)), (1, .v (.int .i64 p2)), (6, .pt 2 0), (7, .v (.bool x5.2.2)), (8, .sl 3 0 x6.length), (9, .pt 5 0), (10, .v (.bool x7.2.2)), (49, .v (.bool (!x10)))], [(1, .arr 2 (List.map enc_si x5.1)), (2, .box [.sl 1 0 x5.1.length, .v (.int .i64 x5.2.1)]), (3, .arr 3 (List.map enc_sbi x6)), (4, .arr 2 (List.map enc_si x7.1)), (5, .box [.sl 4 0 x7.1.length, .v (.int .i64 x7.2.1)])]⟩) (C := ((([.bs true 3 (List.map enc_sbi p1)] : List AV) = [.bs true 3 (List.map enc_sbi p1)]) ∧ True) ∧ ((([.sl 3 0 x6.length, .sl 6 0 x9.length] : List AV) = [.sl 3 0 x6.length, .sl 6 0 x9.length]) ∧ (AO.arr 3 (List.map enc_sbi x6) = AO.arr 3 (List.map enc_sbi x6)) ∧ (AO.arr 3 (List.map enc_sbi x9) = AO.arr 3 (List.map enc_sbi x9)) ∧ True) ∧ True) (by kernel_rfl) ⟨⟨rfl, trivial⟩, ⟨⟨rfl, rfl, rfl, trivial⟩, trivial⟩⟩ ⟨call_ok (ks := []) (ns := [6]) (bor := []) (bobjs := []) (s_laws_toItemS p1 x9 e10) (.cons (.c1 (.c0 (.same _ (by kernel_rfl) (by kernel_rfl)))) (.nil)) (by kernel_rfl) trivial, ⟨call_ok (ks := []) (ns := []) (bor := [3, 6]) (bobjs := [(3, .arr 3 (List.map enc_sbi x6)), (6, .arr 3 (List.map enc_sbi x9))]) (s_laws_eqItemS x6 x9 x10 e11) (.cons (.c1 (.c0 (.arr rfl rfl ((rfl).trans (List.length_map ..).symm)))) (.cons (.c1 (.c0 (.arr rfl rfl ((rfl).trans (List.length_map ..).symm)))) (.nil))) (by kernel_rfl) trivial, trivial⟩⟩ ?_
        rcases bool_cases ((!x10)) with b12 | b12
        · replace h := cd_t b12 h
          refine AX.condT ((!x10)) (by kernel_rfl) b12 ?_
          refine AX.seq ?_
          refine AX.reg (its := []) [4] [] (s1 := ⟨[(4, .v (.bool false))], []⟩) (C := True) (by kernel_rfl) trivial trivial ?_
          refine AX.ret ?_
          refine fin_wk (Wk.forget [4] [] (s' := ⟨[(4, .v (.bool false))], []⟩) (by kernel_rfl)) ?_
          have hr := Option.some.inj h
          subst hr
          exact ⟨_, Wk.refl _, .inr rfl, ⟨[], by kernel_rfl, trivial, [.v (.bool false)], by kernel_rfl, by kernel_rfl⟩⟩
        · replace h := cd_f b12 h
          refine AX.condF ((!x10)) (by kernel_rfl) b12 ?_
          refine AX.skip ?_
          refine AX.seq ?_
          refine AX.reg (its := []) [0, 1, 6, 7, 8, 9, 10, 11] [1, 2, 3, 4, 5] (s1 := ⟨[(0, .bs true 3 (List.map enc_sbi p1)), (1, .v (.int .i64 p2)), (6, .pt 2 0), (7, .v (.bool x5.2.2)), (8, .sl 3 0 x6.length), (9, .pt 5 0), (10, .v (.bool x7.2.2)), (11, .v (.int .i64 1))], [(1, .arr 2 (List.map enc_si x5.1)), (2, .box [.sl 1 0 x5.1.length, .v (.int .i64 x5.2.1)]), (3, .arr 3 (List.map enc_sbi x6)), (4, .arr 2 (List.map enc_si x7.1)), (5, .box [.sl 4 0 x7.1.length, .v (.int .i64 x7.2.1)])]⟩) (C := True) (by kernel_rfl) trivial trivial ?_
          refine AX.seq ?_
          obtain ⟨x11, e13, h⟩ := bd_e h
          obtain ⟨g14, h⟩ := gd_e h
          refine AX.reg (its := [.auto {}, .auto {}, .call 25 [.sl 3 0 x6.length, .v (.int .i64 1)] (handO (rho ([3] ++ [])) [3] [.arr 3 (List.map enc_sbi x6)] ++ []) (callEv [3] [] (.v (.int .i64 x11.1)) [.arr 3 (List.map enc_sbi x11.2)])]) [0, 1, 6, 7, 9, 10, 11] [1, 2, 4, 5] (s1 := ⟨[(0, .bs true 3 (List.map enc_sbi p1)), (1, .v (.int .i64 p2)), (6, .pt 2 0), (7, .v (.bool x5.2.2)), (9, .pt 5 0), (10, .v (.bool x7.2.2)), (11, .v (.int .i64 x11.1))], [(1, .arr 2 (List.map enc_si x5.1)), (2, .box [.sl 1 0 x5.1.length, .v (.int .i64 x5.2.1)]), (4, .arr 2 (List.map enc_si x7.1)), (5, .box [.sl 4 0 x7.1.length, .v (.int .i64 x7.2.1)])]⟩) (C := ((([.sl 3 0 x6.length, .v (.int .i64 1)] : List AV) = [.sl 3 0 x6.length, .v (.int .i64 1)]) ∧ (AO.arr 3 (List.map enc_sbi x6) = AO.arr 3 (List.map enc_sbi x6)) ∧ True) ∧ True) (by kernel_rfl) ⟨⟨rfl, rfl, trivial⟩, trivial⟩ ⟨call_ok (ks := [3]) (ns := []) (bor := []) (bobjs := []) (s_laws_markItemS_h 1 x6 x11 e13) (.cons (.c1 (.c0 (.same _ (by kernel_rfl) (by kernel_rfl)))) (.cons (.c1 (.c0 (.same _ (by kernel_rfl) (by kernel_rfl)))) (.nil))) (by kernel_rfl) ⟨.inr (arr_sh (enc := enc_sbi) g14), trivial⟩, trivial⟩ ?_
          refine AX.seq ?_
          refine AX.seq ?_
          rcases bool_cases (decide (x11.1 < 0)) with b15 | b15
          · replace h := cd_t b15 h
            refine AX.reg (its := [.auto {}, .auto { y := some (.v (.bool true)) }]) [0, 1, 6, 7, 9, 65] [1, 2, 4, 5] (s1 := ⟨[(0, .bs true 3 (List.map enc_sbi p1)), (1, .v (.int .i64 p2)), (6, .pt 2 0), (7, .v (.bool x5.2.2)), (9, .pt 5 0), (65, .v (.bool true))], [(1, .arr 2 (List.map enc_si x5.1)), (2, .box [.sl 1 0 x5.1.length, .v (.int .i64 x5.2.1)]), (4, .arr 2 (List.map enc_si x7.1)), (5, .box [.sl 4 0 x7.1.length, .v (.int .i64 x7.2.1)])]⟩) (C := ((True) ∧ ((.v (.bool (decide (x11.1 < 0))) : AV) = (.v (.bool true) : AV))) ∧ True) (by kernel_rfl) ⟨⟨trivial, (congrArg (fun z => AV.v (.bool z)) b15)⟩, trivial⟩ trivial ?_
            refine AX.cond_true (by kernel_rfl) ?_
            refine AX.seq ?_
            refine AX.reg (its := []) [4] [] (s1 := ⟨[(4, .v (.bool false))], []⟩) (C := True) (by kernel_rfl) trivial trivial ?_
            refine AX.ret ?_
            refine fin_wk (Wk.forget [4] [] (s' := ⟨[(4, .v (.bool false))], []⟩) (by kernel_rfl)) ?_
            have hr := Option.some.inj h
            subst hr
            exact ⟨_, Wk.refl _, .inr rfl, ⟨[], by kernel_rfl, trivial, [.v (.bool false)], by kernel_rfl, by kernel_rfl⟩⟩
          · replace h := cd_f b15 h
            obtain ⟨x12, e16, h⟩ := bd_e h
            rcases bool_cases ((!x12)) with b17 | b17
            · replace h := cd_t b17 h
              refine AX.reg (its := [.auto {}, .auto { y := some (.v (.bool false)) }, .auto {}, .auto {}, .auto {}, .call 23 [.agg [.sl 4 0 x7.1.length, .v (.int .i64 x7.2.1)], .agg [.sl 1 0 x5.1.length, .v (.int .i64 x5.2.1)]] (handO (rho ([] ++ [])) [] [] ++ [(4, .arr 2 (List.map enc_si x7.1)), (1, .arr 2 (List.map enc_si x5.1))]) (callEv [] [] (.v (.bool x12)) []), .auto { y := some (.v (.bool true)) }]) [0, 1, 6, 7, 9, 65] [1, 2, 4, 5] (s1 := ⟨[(0, .bs true 3 (List.map enc_sbi p1)), (1, .v (.int .i64 p2)), (6, .pt 2 0), (7, .v (.bool x5.2.2)), (9, .pt 5 0), (65, .v (.bool true))], [(1, .arr 2 (List.map enc_si x5.1)), (2, .box [.sl 1 0 x5.1.length, .v (.int .i64 x5.2.1)]), (4, .arr 2 (List.map enc_si x7.1)), (5, .box [.sl 4 0 x7.1.length, .v (.int .i64 x7.2.1)])]⟩) (C := ((True) ∧ ((.v (.bool (decide (x11.1 < 0))) : AV) = (.v (.bool false) : AV))) ∧ ((([.agg [.sl 4 0 x7.1.length, .v (.int .i64 x7.2.1)], .agg [.sl 1 0 x5.1.length, .v (.int .i64 x5.2.1)]] : List AV) = [.agg [.sl 4 0 x7.1.length, .v (.int .i64 x7.2.1)], .agg [.sl 1 0 x5.1.length, .v (.int .i64 x5.2.1)]]) ∧ (AO.arr 2 (List.map enc_si x7.1) = AO.arr 2 (List.map enc_si x7.1)) ∧ (AO.arr 2 (List.map enc_si x5.1) = AO.arr 2 (List.map enc_si x5.1)) ∧ True) ∧ ((True) ∧ ((.v (.bool (!x12)) : AV) = (.v (.bool true) : AV))) ∧ True) (by kernel_rfl) ⟨⟨trivial, (congrArg (fun z => AV.v (.bool z)) b15)⟩, ⟨⟨rfl, rfl, rfl, trivial⟩, ⟨⟨trivial, (congrArg (fun z => AV.v (.bool z)) b17)⟩, trivial⟩⟩⟩ ⟨call_ok (ks := []) (ns := []) (bor := [4, 1]) (bobjs := [(4, .arr 2 (List.map enc_si x7.1)), (1, .arr 2 (List.map enc_si x5.1))]) (s_laws_eqFlag x7.1 x7.2.1 x5.1 x5.2.1 x12 e16) (.cons (.c1 (.agg (.cons (.arr rfl rfl ((rfl).trans (List.length_map ..).symm)) (.cons (.same _ (by kernel_rfl) (by kernel_rfl)) (.nil))))) (.cons (.c1 (.agg (.cons (.arr rfl rfl ((rfl).trans (List.length_map ..).symm)) (.cons (.same _ (by kernel_rfl) (by kernel_rfl)) (.nil))))) (.nil))) (by kernel_rfl) trivial, trivial⟩ ?_
              refine AX.cond_true (by kernel_rfl) ?_
              refine AX.seq ?_
              refine AX.reg (its := []) [4] [] (s1 := ⟨[(4, .v (.bool false))], []⟩) (C := True) (by kernel_rfl) trivial trivial ?_
              refine AX.ret ?_
              refine fin_wk (Wk.forget [4] [] (s' := ⟨[(4, .v (.bool false))], []⟩) (by kernel_rfl)) ?_
              have hr := Option.some.inj h
              subst hr
              exact ⟨_, Wk.refl _, .inr rfl, ⟨[], by kernel_rfl, trivial, [.v (.bool false)], by kernel_rfl, by kernel_rfl⟩⟩
            · replace h := cd_f b17 h
              refine AX.reg (its := [.auto {}, .auto { y := some (.v (.bool false)) }, .auto {}, .auto {}, .auto {}, .call 23 [.agg [.sl 4 0 x7.1.length, .v (.int .i64 x7.2.1)], .agg [.sl 1 0 x5.1.length, .v (.int .i64 x5.2.1)]] (handO (rho ([] ++ [])) [] [] ++ [(4, .arr 2 (List.map enc_si x7.1)), (1, .arr 2 (List.map enc_si x5.1))]) (callEv [] [] (.v (.bool x12)) []), .auto { y := some (.v (.bool false)) }]) [0, 1, 6, 7, 9, 65] [1, 2, 4, 5] (s1 := ⟨[(0, .bs true 3 (List.map enc_sbi p1)), (1, .v (.int .i64 p2)), (6, .pt 2 0), (7, .v (.bool x5.2.2)), (9, .pt 5 0), (65, .v (.bool (!(x7.2.2 == x5.2.2))))], [(1, .arr 2 (List.map enc_si x5.1)), (2, .box [.sl 1 0 x5.1.length, .v (.int .i64 x5.2.1)]), (4, .arr 2 (List.map enc_si x7.1)), (5, .box [.sl 4 0 x7.1.length, .v (.int .i64 x7.2.1)])]⟩) (C := ((True) ∧ ((.v (.bool (decide (x11.1 < 0))) : AV) = (.v (.bool false) : AV))) ∧ ((([.agg [.sl 4 0 x7.1.length, .v (.int .i64 x7.2.1)], .agg [.sl 1 0 x5.1.length, .v (.int .i64 x5.2.1)]] : List AV) = [.agg [.sl 4 0 x7.1.length, .v (.int .i64 x7.2.1)], .agg [.sl 1 0 x5.1.length, .v (.int .i64 x5.2.1)]]) ∧ (AO.arr 2 (List.map enc_si x7.1) = AO.arr 2 (List.map enc_si x7.1)) ∧ (AO.arr 2 (List.map enc_si x5.1) = AO.arr 2 (List.map enc_si x5.1)) ∧ True) ∧ ((True) ∧ ((.v (.bool (!x12)) : AV) = (.v (.bool false) : AV))) ∧ True) (by kernel_rfl) ⟨⟨trivial, (congrArg (fun z => AV.v (.bool z)) b15)⟩, ⟨⟨rfl, rfl, rfl, trivial⟩, ⟨⟨trivial, (congrArg (fun z => AV.v (.bool z)) b17)⟩, trivial⟩⟩⟩ ⟨call_ok (ks := []) (ns := []) (bor := [4, 1]) (bobjs := [(4, .arr 2 (List.map enc_si x7.1)), (1, .arr 2 (List.map enc_si x5.1))]) (s_laws_eqFlag x7.1 x7.2.1 x5.1 x5.2.1 x12 e16) (.cons (.c1 (.agg (.cons (.arr rfl rfl ((rfl).trans (List.length_map ..).symm)) (.cons (.same _ (by kernel_rfl) (by kernel_rfl)) (.nil))))) (.cons (.c1 (.agg (.cons (.arr rfl rfl ((rfl).trans (List.length_map ..).symm)) (.cons (.same _ (by kernel_rfl) (by kernel_rfl)) (.nil))))) (.nil))) (by kernel_rfl) trivial, trivial⟩ ?_
              refine AX.condF ((!(x7.2.2 == x5.2.2))) (by kernel_rfl) b9 ?_
              refine AX.skip ?_
              refine AX.seq ?_
              refine AX.reg (its := []) [0, 1, 6, 7, 9, 12] [1, 2, 4, 5] (s1 := ⟨[(0, .bs true 3 (List.map enc_sbi p1)), (1, .v (.int .i64 p2)), (6, .pt 2 0), (7, .v (.bool x5.2.2)), (9, .pt 5 0), (12, .v (.int .i64 1))], [(1, .arr 2 (List.map enc_si x5.1)), (2, .box [.sl 1 0 x5.1.length, .v (.int .i64 x5.2.1)]), (4, .arr 2 (List.map enc_si x7.1)), (5, .box [.sl 4 0 x7.1.length, .v (.int .i64 x7.2.1)])]⟩) (C := True) (by kernel_rfl) trivial trivial ?_
              refine AX.seq ?_
              obtain ⟨x13, e18, h⟩ := bd_e h
              obtain ⟨g19, h⟩ := gd_e h
              refine AX.reg (its := [.auto {}, .auto {}, .call 26 [.agg [.sl 4 0 x7.1.length, .v (.int .i64 x7.2.1)], .v (.int .i64 1)] (handO (rho ([4] ++ [])) [4] [.arr 2 (List.map enc_si x7.1)] ++ []) (callEv [4] [] (.v (.int .i64 x13.1)) [.arr 2 (List.map enc_si x13.2)])]) [0, 1, 6, 7, 9, 12] [1, 2, 4, 5] (s1 := ⟨[(0, .bs true 3 (List.map enc_sbi p1)), (1, .v (.int .i64 p2)), (6, .pt 2 0), (7, .v (.bool x5.2.2)), (9, .pt 5 0), (12, .v (.int .i64 x13.1))], [(1, .arr 2 (List.map enc_si x5.1)), (2, .box [.sl 1 0 x5.1.length, .v (.int .i64 x5.2.1)]), (4, .arr 2 (List.map enc_si x13.2)), (5, .box [.sl 4 0 x7.1.length, .v (.int .i64 x7.2.1)])]⟩) (C := ((([.agg [.sl 4 0 x7.1.length, .v (.int .i64 x7.2.1)], .v (.int .i64 1)] : List AV) = [.agg [.sl 4 0 x7.1.length, .v (.int .i64 x7.2.1)], .v (.int .i64 1)]) ∧ (AO.arr 2 (List.map enc_si x7.1) = AO.arr 2 (List.map enc_si x7.1)) ∧ True) ∧ True) (by kernel_rfl) ⟨⟨rfl, rfl, trivial⟩, trivial⟩ ⟨call_ok (ks := [4]) (ns := []) (bor := []) (bobjs := []) (s_laws_markFlag_h x7.2.1 1 x7.1 x13 e18) (.cons (.c1 (.agg (.cons (.same _ (by kernel_rfl) (by kernel_rfl)) (.cons (.same _ (by kernel_rfl) (by kernel_rfl)) (.nil))))) (.cons (.c1 (.c0 (.same _ (by kernel_rfl) (by kernel_rfl)))) (.nil))) (by kernel_rfl) ⟨.inr (arr_sh (enc := enc_si) g19), trivial⟩, trivial⟩ ?_
              refine AX.seq ?_
              refine AX.reg (its := []) [0, 1, 6, 7, 9, 12, 13] [1, 2, 4, 5] (s1 := ⟨[(0, .bs true 3 (List.map enc_sbi p1)), (1, .v (.int .i64 p2)), (6, .pt 2 0), (7, .v (.bool x5.2.2)), (9, .pt 5 0), (12, .v (.int .i64 x13.1)), (13, .v (.int .i64 1))], [(1, .arr 2 (List.map enc_si x5.1)), (2, .box [.sl 1 0 x5.1.length, .v (.int .i64 x5.2.1)]), (4, .arr 2 (List.map enc_si x13.2)), (5, .box [.sl 4 0 x7.1.length, .v (.int .i64 x7.2.1)])]⟩) (C := True) (by kernel_rfl) trivial trivial ?_
              refine AX.seq ?_
              obtain ⟨x14, e20, h⟩ := bd_e h
              refine AX.reg (its := [.auto {}, .auto {}, .call 27 [.agg [.sl 4 0 x7.1.length, .v (.int .i64 x7.2.1)], .v (.int .i64 1)] (handO (rho ([] ++ [])) [] [] ++ [(4, .arr 2 (List.map enc_si x13.2))]) (callEv [] [] (.v (.int .i64 x14)) [])]) [0, 1, 6, 7, 9, 12, 13] [1, 2, 4, 5] (s1 := ⟨[(0, .bs true 3 (List.map enc_sbi p1)), (1, .v (.int .i64 p2)), (6, .pt 2 0), (7, .v (.bool x5.2.2)), (9, .pt 5 0), (12, .v (.int .i64 x13.1)), (13, .v (.int .i64 x14))], [(1, .arr 2 (List.map enc_si x5.1)), (2, .box [.sl 1 0 x5.1.length, .v (.int .i64 x5.2.1)]), (4, .arr 2 (List.map enc_si x13.2)), (5, .box [.sl 4 0 x7.1.length, .v (.int .i64 x7.2.1)])]⟩) (C := ((([.agg [.sl 4 0 x7.1.length, .v (.int .i64 x7.2.1)], .v (.int .i64 1)] : List AV) = [.agg [.sl 4 0 x7.1.length, .v (.int .i64 x7.2.1)], .v (.int .i64 1)]) ∧ (AO.arr 2 (List.map enc_si x13.2) = AO.arr 2 (List.map enc_si x13.2)) ∧ True) ∧ True) (by kernel_rfl) ⟨⟨rfl, rfl, trivial⟩, trivial⟩ ⟨call_ok (ks := []) (ns := []) (bor := [4]) (bobjs := [(4, .arr 2 (List.map enc_si x13.2))]) (s_laws_heldFlag x13.2 x7.2.1 1 x14 e20) (.cons (.c1 (.agg (.cons (.arr rfl rfl ((((rfl : x7.1.length = x7.1.length)).trans (g19).symm).trans (List.length_map ..).symm)) (.cons (.same _ (by kernel_rfl) (by kernel_rfl)) (.nil))))) (.cons (.c1 (.c0 (.same _ (by kernel_rfl) (by kernel_rfl)))) (.nil))) (by kernel_rfl) trivial, trivial⟩ ?_
              refine AX.seq ?_
              refine AX.seq ?_
              refine AX.reg (its := []) [0, 1, 6, 7, 9, 12, 13, 73] [1, 2, 4, 5] (s1 := ⟨[(0, .bs true 3 (List.map enc_sbi p1)), (1, .v (.int .i64 p2)), (6, .pt 2 0), (7, .v (.bool x5.2.2)), (9, .pt 5 0), (12, .v (.int .i64 x13.1)), (13, .v (.int .i64 x14)), (73, .v (.bool (decide (x14 < 0))))], [(1, .arr 2 (List.map enc_si x5.1)), (2, .box [.sl 1 0 x5.1.length, .v (.int .i64 x5.2.1)]), (4, .arr 2 (List.map enc_si x13.2)), (5, .box [.sl 4 0 x7.1.length, .v (.int .i64 x7.2.1)])]⟩) (C := True) (by kernel_rfl) trivial trivial ?_
              rcases bool_cases (decide (x14 < 0)) with b21 | b21
              · replace h := cd_t b21 h
                refine AX.condT (decide (x14 < 0)) (by kernel_rfl) b21 ?_
                refine AX.seq ?_
                refine AX.reg (its := []) [4] [] (s1 := ⟨[(4, .v (.bool false))], []⟩) (C := True) (by kernel_rfl) trivial trivial ?_
                refine AX.ret ?_
                refine fin_wk (Wk.forget [4] [] (s' := ⟨[(4, .v (.bool false))], []⟩) (by kernel_rfl)) ?_
                have hr := Option.some.inj h
                subst hr
                exact ⟨_, Wk.refl _, .inr rfl, ⟨[], by kernel_rfl, trivial, [.v (.bool false)], by kernel_rfl, by kernel_rfl⟩⟩
              · replace h := cd_f b21 h
                refine AX.condF (decide (x14 < 0)) (by kernel_rfl) b21 ?_
                refine AX.skip ?_
                refine AX.seq ?_
                refine AX.seq ?_
                refine AX.reg (its := []) [0, 1, 6, 7, 9, 12, 76] [1, 2, 4, 5] (s1 := ⟨[(0, .bs true 3 (List.map enc_sbi p1)), (1, .v (.int .i64 p2)), (6, .pt 2 0), (7, .v (.bool x5.2.2)), (9, .pt 5 0), (12, .v (.int .i64 x13.1)), (76, .v (.bool (!decide (x14 = x13.1))))], [(1, .arr 2 (List.map enc_si x5.1)), (2, .box [.sl 1 0 x5.1.length, .v (.int .i64 x5.2.1)]), (4, .arr 2 (List.map enc_si x13.2)), (5, .box [.sl 4 0 x7.1.length, .v (.int .i64 x7.2.1)])]⟩) (C := True) (by kernel_rfl) trivial trivial ?_
                rcases bool_cases ((!decide (x14 = x13.1))) with b22 | b22
                · replace h := cd_t b22 h
                  refine AX.condT ((!decide (x14 = x13.1))) (by kernel_rfl) b22 ?_
                  refine AX.seq ?_
                  refine AX.reg (its := []) [4] [] (s1 := ⟨[(4, .v (.bool false))], []⟩) (C := True) (by kernel_rfl) trivial trivial ?_
                  refine AX.ret ?_
                  refine fin_wk (Wk.forget [4] [] (s' := ⟨[(4, .v (.bool false))], []⟩) (by kernel_rfl)) ?_
                  have hr := Option.some.inj h
                  subst hr
                  exact ⟨_, Wk.refl _, .inr rfl, ⟨[], by kernel_rfl, trivial, [.v (.bool false)], by kernel_rfl, by kernel_rfl⟩⟩
                · replace h := cd_f b22 h
                  refine AX.condF ((!decide (x14 = x13.1))) (by kernel_rfl) b22 ?_
                  refine AX.skip ?_
                  refine AX.seq ?_
                  obtain ⟨x15, e23, h⟩ := bd_e h
                  obtain ⟨x16, e24, h⟩ := bd_e h
                  refine AX.reg (its := [.auto {}, .call 22 [.bs true 3 (List.map enc_sbi p1)] (handO (rho ([] ++ [6])) [] [] ++ []) (callEv [] [6] (.sl 0 0 x15.length) [.arr 3 (List.map enc_sbi x15)]), .auto {}, .call 15 [.sl 6 0 x15.length, .v (.int .i64 p2)] (handO (rho ([] ++ [7])) [] [] ++ [(6, .arr 3 (List.map enc_sbi x15))]) (callEv [] [7] (.tup [.agg [.sl 0 0 x16.1.length, .v (.int .i64 x16.2.1)], .v (.bool x16.2.2)]) [.arr 2 (List.map enc_si x16.1)]), .auto {}, .auto {}, .auto {}, .auto { nk := 8 }]) [6, 7, 9, 12, 14, 15] [1, 2, 4, 5, 7, 8] (s1 := ⟨[(6, .pt 2 0), (7, .v (.bool x5.2.2)), (9, .pt 5 0), (12, .v (.int .i64 x13.1)), (14, .pt 8 0), (15, .v (.bool x16.2.2))], [(1, .arr 2 (List.map enc_si x5.1)), (2, .box [.sl 1 0 x5.1.length, .v (.int .i64 x5.2.1)]), (4, .arr 2 (List.map enc_si x13.2)), (5, .box [.sl 4 0 x7.1.length, .v (.int .i64 x7.2.1)]), (7, .arr 2 (List.map enc_si x16.1)), (8, .box [.sl 7 0 x16.1.length, .v (.int .i64 x16.2.1)])]⟩) (C := ((([.bs true 3 (List.map enc_sbi p1)] : List AV) = [.bs true 3 (List.map enc_sbi p1)]) ∧ True) ∧ ((([.sl 6 0 x15.length, .v (.int .i64 p2)] : List AV) = [.sl 6 0 x15.length, .v (.int .i64 p2)]) ∧ (AO.arr 3 (List.map enc_sbi x15) = AO.arr 3 (List.map enc_sbi x15)) ∧ True) ∧ True) (by kernel_rfl) ⟨⟨rfl, trivial⟩, ⟨⟨rfl, rfl, trivial⟩, trivial⟩⟩ ⟨call_ok (ks := []) (ns := [6]) (bor := []) (bobjs := []) (s_laws_toItemS p1 x15 e23) (.cons (.c1 (.c0 (.same _ (by kernel_rfl) (by kernel_rfl)))) (.nil)) (by kernel_rfl) trivial, ⟨call_ok (ks := []) (ns := [7]) (bor := [6]) (bobjs := [(6, .arr 3 (List.map enc_sbi x15))]) (s_impl_BuildFlag x15 p2 x16 e24) (.cons (.c1 (.c0 (.arr rfl rfl ((rfl).trans (List.length_map ..).symm)))) (.cons (.c1 (.c0 (.same _ (by kernel_rfl) (by kernel_rfl)))) (.nil))) (by kernel_rfl) trivial, trivial⟩⟩ ?_
                  refine AX.seq ?_
                  refine AX.seq ?_
                  obtain ⟨x17, e25, h⟩ := bd_e h
                  rcases bool_cases ((!x17)) with b26 | b26
                  · replace h := cd_t b26 h
                    refine AX.reg (its := [.auto {}, .auto {}, .call 23 [.agg [.sl 7 0 x16.1.length, .v (.int .i64 x16.2.1)], .agg [.sl 1 0 x5.1.length, .v (.int .i64 x5.2.1)]] (handO (rho ([] ++ [])) [] [] ++ [(7, .arr 2 (List.map enc_si x16.1)), (1, .arr 2 (List.map enc_si x5.1))]) (callEv [] [] (.v (.bool x17)) []), .auto { y := some (.v (.bool true)) }]) [9, 12, 92] [4, 5] (s1 := ⟨[(9, .pt 5 0), (12, .v (.int .i64 x13.1)), (92, .v (.bool true))], [(4, .arr 2 (List.map enc_si x13.2)), (5, .box [.sl 4 0 x7.1.length, .v (.int .i64 x7.2.1)])]⟩) (C := ((([.agg [.sl 7 0 x16.1.length, .v (.int .i64 x16.2.1)], .agg [.sl 1 0 x5.1.length, .v (.int .i64 x5.2.1)]] : List AV) = [.agg [.sl 7 0 x16.1.length, .v (.int .i64 x16.2.1)], .agg [.sl 1 0 x5.1.length, .v (.int .i64 x5.2.1)]]) ∧ (AO.arr 2 (List.map enc_si x16.1) = AO.arr 2 (List.map enc_si x16.1)) ∧ (AO.arr 2 (List.map enc_si x5.1) = AO.arr 2 (List.map enc_si x5.1)) ∧ True) ∧ ((True) ∧ ((.v (.bool (!x17)) : AV) = (.v (.bool true) : AV))) ∧ True) (by kernel_rfl) ⟨⟨rfl, rfl, rfl, trivial⟩, ⟨⟨trivial, (congrArg (fun z => AV.v (.bool z)) b26)⟩, trivial⟩⟩ ⟨call_ok (ks := []) (ns := []) (bor := [7, 1]) (bobjs := [(7, .arr 2 (List.map enc_si x16.1)), (1, .arr 2 (List.map enc_si x5.1))]) (s_laws_eqFlag x16.1 x16.2.1 x5.1 x5.2.1 x17 e25) (.cons (.c1 (.agg (.cons (.arr rfl rfl ((rfl).trans (List.length_map ..).symm)) (.cons (.same _ (by kernel_rfl) (by kernel_rfl)) (.nil))))) (.cons (.c1 (.agg (.cons (.arr rfl rfl ((rfl).trans (List.length_map ..).symm)) (.cons (.same _ (by kernel_rfl) (by kernel_rfl)) (.nil))))) (.nil))) (by kernel_rfl) trivial, trivial⟩ ?_
                    refine AX.cond_true (by kernel_rfl) ?_
                    refine AX.seq ?_
                    refine AX.reg (its := []) [4] [] (s1 := ⟨[(4, .v (.bool false))], []⟩) (C := True) (by kernel_rfl) trivial trivial ?_
                    refine AX.ret ?_
                    refine fin_wk (Wk.forget [4] [] (s' := ⟨[(4, .v (.bool false))], []⟩) (by kernel_rfl)) ?_
                    have hr := Option.some.inj h
                    subst hr
                    exact ⟨_, Wk.refl _, .inr rfl, ⟨[], by kernel_rfl, trivial, [.v (.bool false)], by kernel_rfl, by kernel_rfl⟩⟩
                  · replace h := cd_f b26 h
                    refine AX.reg (its := [.auto {}, .auto {}, .call 23 [.agg [.sl 7 0 x16.1.length, .v (.int .i64 x16.2.1)], .agg [.sl 1 0 x5.1.length, .v (.int .i64 x5.2.1)]] (handO (rho ([] ++ [])) [] [] ++ [(7, .arr 2 (List.map enc_si x16.1)), (1, .arr 2 (List.map enc_si x5.1))]) (callEv [] [] (.v (.bool x17)) []), .auto { y := some (.v (.bool false)) }]) [9, 12, 92] [4, 5] (s1 := ⟨[(9, .pt 5 0), (12, .v (.int .i64 x13.1)), (92, .v (.bool (!(x16.2.2 == x5.2.2))))], [(4, .arr 2 (List.map enc_si x13.2)), (5, .box [.sl 4 0 x7.1.length, .v (.int .i64 x7.2.1)])]⟩) (C := ((([.agg [.sl 7 0 x16.1.length, .v (.int .i64 x16.2.1)], .agg [.sl 1 0 x5.1.length, .v (.int .i64 x5.2.1)]] : List AV) = [.agg [.sl 7 0 x16.1.length, .v (.int .i64 x16.2.1)], .agg [.sl 1 0 x5.1.length, .v (.int .i64 x5.2.1)]]) ∧ (AO.arr 2 (List.map enc_si x16.1) = AO.arr 2 (List.map enc_si x16.1)) ∧ (AO.arr 2 (List.map enc_si x5.1) = AO.arr 2 (List.map enc_si x5.1)) ∧ True) ∧ ((True) ∧ ((.v (.bool (!x17)) : AV) = (.v (.bool false) : AV))) ∧ True) (by kernel_rfl) ⟨⟨rfl, rfl, rfl, trivial⟩, ⟨⟨trivial, (congrArg (fun z => AV.v (.bool z)) b26)⟩, trivial⟩⟩ ⟨call_ok (ks := []) (ns := []) (bor := [7, 1]) (bobjs := [(7, .arr 2 (List.map enc_si x16.1)), (1, .arr 2 (List.map enc_si x5.1))]) (s_laws_eqFlag x16.1 x16.2.1 x5.1 x5.2.1 x17 e25) (.cons (.c1 (.agg (.cons (.arr rfl rfl ((rfl).trans (List.length_map ..).symm)) (.cons (.same _ (by kernel_rfl) (by kernel_rfl)) (.nil))))) (.cons (.c1 (.agg (.cons (.arr rfl rfl ((rfl).trans (List.length_map ..).symm)) (.cons (.same _ (by kernel_rfl) (by kernel_rfl)) (.nil))))) (.nil))) (by kernel_rfl) trivial, trivial⟩ ?_
                    rcases bool_cases ((!(x16.2.2 == x5.2.2))) with b27 | b27
                    · replace h := cd_t b27 h
                      refine AX.condT ((!(x16.2.2 == x5.2.2))) (by kernel_rfl) b27 ?_
                      refine AX.seq ?_
                      refine AX.reg (its := []) [4] [] (s1 := ⟨[(4, .v (.bool false))], []⟩) (C := True) (by kernel_rfl) trivial trivial ?_
                      refine AX.ret ?_
                      refine fin_wk (Wk.forget [4] [] (s' := ⟨[(4, .v (.bool false))], []⟩) (by kernel_rfl)) ?_
                      have hr := Option.some.inj h
                      subst hr
                      exact ⟨_, Wk.refl _, .inr rfl, ⟨[], by kernel_rfl, trivial, [.v (.bool false)], by kernel_rfl, by kernel_rfl⟩⟩
                    · replace h := cd_f b27 h
                      refine AX.condF ((!(x16.2.2 == x5.2.2))) (by kernel_rfl) b27 ?_
                      refine AX.skip ?_
                      refine AX.seq ?_
                      refine AX.reg (its := []) [9, 12, 13] [4, 5] (s1 := ⟨[(9, .pt 5 0), (12, .v (.int .i64 x13.1)), (13, .v (.int .i64 1))], [(4, .arr 2 (List.map enc_si x13.2)), (5, .box [.sl 4 0 x7.1.length, .v (.int .i64 x7.2.1)])]⟩) (C := True) (by kernel_rfl) trivial trivial ?_
                      refine AX.seq ?_
                      obtain ⟨x18, e28, h⟩ := bd_e h
                      refine AX.reg (its := [.auto {}, .auto {}, .call 27 [.agg [.sl 4 0 x7.1.length, .v (.int .i64 x7.2.1)], .v (.int .i64 1)] (handO (rho ([] ++ [])) [] [] ++ [(4, .arr 2 (List.map enc_si x13.2))]) (callEv [] [] (.v (.int .i64 x18)) [])]) [12, 13] [] (s1 := ⟨[(12, .v (.int .i64 x13.1)), (13, .v (.int .i64 x18))], []⟩) (C := ((([.agg [.sl 4 0 x7.1.length, .v (.int .i64 x7.2.1)], .v (.int .i64 1)] : List AV) = [.agg [.sl 4 0 x7.1.length, .v (.int .i64 x7.2.1)], .v (.int .i64 1)]) ∧ (AO.arr 2 (List.map enc_si x13.2) = AO.arr 2 (List.map enc_si x13.2)) ∧ True) ∧ True) (by kernel_rfl) ⟨⟨rfl, rfl, trivial⟩, trivial⟩ ⟨call_ok (ks := []) (ns := []) (bor := [4]) (bobjs := [(4, .arr 2 (List.map enc_si x13.2))]) (s_laws_heldFlag x13.2 x7.2.1 1 x18 e28) (.cons (.c1 (.agg (.cons (.arr rfl rfl ((((rfl : x7.1.length = x7.1.length)).trans (g19).symm).trans (List.length_map ..).symm)) (.cons (.same _ (by kernel_rfl) (by kernel_rfl)) (.nil))))) (.cons (.c1 (.c0 (.same _ (by kernel_rfl) (by kernel_rfl)))) (.nil))) (by kernel_rfl) trivial, trivial⟩ ?_
                      refine AX.seq ?_
                      refine AX.seq ?_
                      refine AX.reg (its := []) [12, 13, 97] [] (s1 := ⟨[(12, .v (.int .i64 x13.1)), (13, .v (.int .i64 x18)), (97, .v (.bool (decide (x18 < 0))))], []⟩) (C := True) (by kernel_rfl) trivial trivial ?_
                      rcases bool_cases (decide (x18 < 0)) with b29 | b29
                      · replace h := cd_t b29 h
                        refine AX.condT (decide (x18 < 0)) (by kernel_rfl) b29 ?_
                        refine AX.seq ?_
                        refine AX.reg (its := []) [4] [] (s1 := ⟨[(4, .v (.bool false))], []⟩) (C := True) (by kernel_rfl) trivial trivial ?_
                        refine AX.ret ?_
                        refine fin_wk (Wk.forget [4] [] (s' := ⟨[(4, .v (.bool false))], []⟩) (by kernel_rfl)) ?_
                        have hr := Option.some.inj h
                        subst hr
                        exact ⟨_, Wk.refl _, .inr rfl, ⟨[], by kernel_rfl, trivial, [.v (.bool false)], by kernel_rfl, by kernel_rfl⟩⟩
                      · replace h := cd_f b29 h
                        refine AX.condF (decide (x18 < 0)) (by kernel_rfl) b29 ?_
                        refine AX.skip ?_
                        refine AX.seq ?_
                        refine AX.seq ?_
                        refine AX.reg (its := []) [100] [] (s1 := ⟨[(100, .v (.bool (!decide (x18 = x13.1))))], []⟩) (C := True) (by kernel_rfl) trivial trivial ?_
                        rcases bool_cases ((!decide (x18 = x13.1))) with b30 | b30
                        · replace h := cd_t b30 h
                          refine AX.condT ((!decide (x18 = x13.1))) (by kernel_rfl) b30 ?_
                          refine AX.seq ?_
                          refine AX.reg (its := []) [4] [] (s1 := ⟨[(4, .v (.bool false))], []⟩) (C := True) (by kernel_rfl) trivial trivial ?_
                          refine AX.ret ?_
                          refine fin_wk (Wk.forget [4] [] (s' := ⟨[(4, .v (.bool false))], []⟩) (by kernel_rfl)) ?_
                          have hr := Option.some.inj h
                          subst hr
                          exact ⟨_, Wk.refl _, .inr rfl, ⟨[], by kernel_rfl, trivial, [.v (.bool false)], by kernel_rfl, by kernel_rfl⟩⟩
                        · replace h := cd_f b30 h
                          refine AX.condF ((!decide (x18 = x13.1))) (by kernel_rfl) b30 ?_
                          refine AX.skip ?_
                          refine AX.seq ?_
                          refine AX.reg (its := []) [4] [] (s1 := ⟨[(4, .v (.bool true))], []⟩) (C := True) (by kernel_rfl) trivial trivial ?_
                          refine AX.ret ?_
                          refine fin_wk (Wk.forget [4] [] (s' := ⟨[(4, .v (.bool true))], []⟩) (by kernel_rfl)) ?_
                          have hr := Option.some.inj h
                          subst hr
                          exact ⟨_, Wk.refl _, .inr rfl, ⟨[], by kernel_rfl, trivial, [.v (.bool true)], by kernel_rfl, by kernel_rfl⟩⟩

end Go.Eng
