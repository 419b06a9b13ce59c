/- What is proved here: each function keeps to its model, whatever its arguments, wherever the model has an answer. Printed by gen.py. -/
import Derived.Test.YtomemaanjendhaaDoorCExactShowShortWalk1
import Derived.Test.YtomemaanjendhaaDoorProg
import Derived.Test.YtomemaanjendhaaDoorCExactShowShortShelf
import Derived.KernelRfl
set_option linter.unusedVariables false
set_option linter.unusedSimpArgs false
set_option linter.unnecessarySimpa false
namespace Go.Eng
open Go Go.Proofs


theorem s_spec_ShowShort (p1 : List (ByteArray × Int)) (p2 : Int) (p3 : Int) (r : ByteArray) (h : m_spec_ShowShort p1 p2 p3 = some r) :
    Eng.Spec Tryd.prog 32 [.agg [.bs false 2 (List.map enc_si p1), .v (.int .i64 p2)], .v (.int .i64 p3)] [] (.v (.string r)) [] := by
  unfold m_spec_ShowShort at h
  refine Eng.Spec.body Tryd.func32 (by kernel_rfl) rfl (by kernel_rfl) ?_
  refine AX.wkpost ?_
  refine AX.seq ?_
  refine AX.reg (its := [.auto { nk := 0 }]) [1, 2] [0] (s1 := ⟨[(1, .v (.int .i64 p3)), (2, .pt 0 0)], [(0, .box [.bs false 2 (List.map enc_si p1), .v (.int .i64 p2)])]⟩) (C := True) (by kernel_rfl) trivial trivial ?_
  refine AX.seq ?_
  refine AX.seq ?_
  obtain ⟨x4, e1, h⟩ := bd_e h
  refine AX.reg (its := [.auto {}, .auto {}, .call 54 [.agg [.bs false 2 (List.map enc_si p1), .v (.int .i64 p2)], .v (.int .i64 p3)] (handO (rho ([] ++ [])) [] [] ++ []) (callEv [] [] (.v (.bool x4)) [])]) [1, 2, 9] [0] (s1 := ⟨[(1, .v (.int .i64 p3)), (2, .pt 0 0), (9, .v (.bool (!x4)))], [(0, .box [.bs false 2 (List.map enc_si p1), .v (.int .i64 p2)])]⟩) (C := ((([.agg [.bs false 2 (List.map enc_si p1), .v (.int .i64 p2)], .v (.int .i64 p3)] : List AV) = [.agg [.bs false 2 (List.map enc_si p1), .v (.int .i64 p2)], .v (.int .i64 p3)]) ∧ True) ∧ True) (by kernel_rfl) ⟨⟨rfl, trivial⟩, trivial⟩ ⟨call_ok (ks := []) (ns := []) (bor := []) (bobjs := []) (s_spec_isValue p1 p2 p3 x4 e1) (.cons (.c1 (.agg (.cons (.same _ (by kernel_rfl) (by kernel_rfl)) (.cons (.same _ (by kernel_rfl) (by kernel_rfl)) (.nil))))) (.cons (.c1 (.c0 (.same _ (by kernel_rfl) (by kernel_rfl)))) (.nil))) (by kernel_rfl) trivial, trivial⟩ ?_
  rcases bool_cases ((!x4)) with b2 | b2
  · replace h := cd_t b2 h
    refine AX.condT ((!x4)) (by kernel_rfl) b2 ?_
    refine AX.seq ?_
    refine AX.reg (its := []) [4] [] (s1 := ⟨[(4, .v (.string ByteArray.empty))], []⟩) (C := True) (by kernel_rfl) trivial trivial ?_
    refine AX.ret ?_
    refine fin_wk (Wk.forget [4] [] (s' := ⟨[(4, .v (.string ByteArray.empty))], []⟩) (by kernel_rfl)) ?_
    have hr := Option.some.inj h
    subst hr
    exact ⟨_, Wk.refl _, .inr rfl, ⟨[], by kernel_rfl, trivial, [.v (.string ByteArray.empty)], by kernel_rfl, by kernel_rfl⟩⟩
  · replace h := cd_f b2 h
    refine AX.condF ((!x4)) (by kernel_rfl) b2 ?_
    refine AX.skip ?_
    refine AX.seq ?_
    obtain ⟨x5, e3, h⟩ := bd_e h
    refine AX.reg (its := [.auto {}, .auto {}, .auto {}, .call 69 [.bs false 2 (List.map enc_si p1), .v (.int .i64 p3)] (handO (rho ([] ++ [1])) [] [] ++ []) (callEv [] [1] (.sl 0 0 x5.length) [.arr 2 (List.map enc_si x5)])]) [1, 2, 5] [0, 1] (s1 := ⟨[(1, .v (.int .i64 p3)), (2, .pt 0 0), (5, .sl 1 0 x5.length)], [(0, .box [.bs false 2 (List.map enc_si p1), .v (.int .i64 p2)]), (1, .arr 2 (List.map enc_si x5))]⟩) (C := ((([.bs false 2 (List.map enc_si p1), .v (.int .i64 p3)] : List AV) = [.bs false 2 (List.map enc_si p1), .v (.int .i64 p3)]) ∧ True) ∧ True) (by kernel_rfl) ⟨⟨rfl, trivial⟩, trivial⟩ ⟨call_ok (ks := []) (ns := [1]) (bor := []) (bobjs := []) (s_spec_short p1 p3 x5 e3) (.cons (.c1 (.c0 (.same _ (by kernel_rfl) (by kernel_rfl)))) (.cons (.c1 (.c0 (.same _ (by kernel_rfl) (by kernel_rfl)))) (.nil))) (by kernel_rfl) trivial, trivial⟩ ?_
    refine AX.seq ?_
    obtain ⟨x6, e4, h⟩ := bd_e h
    obtain ⟨x7, e5, h⟩ := bd_e h
    obtain ⟨x8, e6, h⟩ := bd_e h
    obtain ⟨x9, e7, h⟩ := bd_e h
    refine AX.drw mixed (its := [.auto {}, .auto {}, .auto {}, .call 71 [.sl 1 0 x5.length] (handO (rho ([] ++ [2])) [] [] ++ [(1, .arr 2 (List.map enc_si x5))]) (callEv [] [2] (.sl 0 0 x6.length) [.arr 1 (List.map enc_s x6)]), .auto {}, .auto {}, .call 73 [.sl 1 0 x5.length] (handO (rho ([] ++ [])) [] [] ++ [(1, .arr 2 (List.map enc_si x5))]) (callEv [] [] (.v (.int .i64 x7)) []), .call 72 [.v (.int .i64 p3), .v (.int .i64 x7)] (handO (rho ([] ++ [])) [] [] ++ []) (callEv [] [] (.v (.int .i64 x8)) []), .call 70 [.bs false 2 (List.map enc_si p1), .sl 2 0 x6.length, .v (.int .i64 x8)] (handO (rho ([] ++ [])) [] [] ++ [(2, .arr 1 (List.map enc_s x6))]) (callEv [] [] (.v (.string x9)) [])]) [4] [] (s1 := ⟨[(4, .v (.string x9))], []⟩) (C := ((([.sl 1 0 x5.length] : List AV) = [.sl 1 0 x5.length]) ∧ (AO.arr 2 (List.map enc_si x5) = AO.arr 2 (List.map enc_si x5)) ∧ True) ∧ ((([.sl 1 0 x5.length] : List AV) = [.sl 1 0 x5.length]) ∧ (AO.arr 2 (List.map enc_si x5) = AO.arr 2 (List.map enc_si x5)) ∧ True) ∧ ((([.v (.int .i64 p3), .v (.int .i64 x7)] : List AV) = [.v (.int .i64 p3), .v (.int .i64 x7)]) ∧ True) ∧ ((([.bs false 2 (List.map enc_si p1), .sl 2 0 x6.length, .v (.int .i64 x8)] : List AV) = [.bs false 2 (List.map enc_si p1), .sl 2 0 x6.length, .v (.int .i64 x8)]) ∧ (AO.arr 1 (List.map enc_s x6) = AO.arr 1 (List.map enc_s x6)) ∧ True) ∧ True) (by kernel_rfl) ⟨⟨rfl, rfl, trivial⟩, ⟨⟨rfl, rfl, trivial⟩, ⟨⟨rfl, trivial⟩, ⟨⟨rfl, rfl, trivial⟩, trivial⟩⟩⟩⟩ ⟨call_ok (ks := []) (ns := [2]) (bor := [1]) (bobjs := [(1, .arr 2 (List.map enc_si x5))]) (s_spec_namesOf x5 x6 e4) (.cons (.c1 (.c0 (.arr rfl rfl ((rfl).trans (List.length_map ..).symm)))) (.nil)) (by kernel_rfl) trivial, ⟨call_ok (ks := []) (ns := []) (bor := [1]) (bobjs := [(1, .arr 2 (List.map enc_si x5))]) (s_spec_mask x5 x7 e5) (.cons (.c1 (.c0 (.arr rfl rfl ((rfl).trans (List.length_map ..).symm)))) (.nil)) (by kernel_rfl) trivial, ⟨call_ok (ks := []) (ns := []) (bor := []) (bobjs := []) (s_spec_less p3 x7 x8 e6) (.cons (.c1 (.c0 (.same _ (by kernel_rfl) (by kernel_rfl)))) (.cons (.c1 (.c0 (.same _ (by kernel_rfl) (by kernel_rfl)))) (.nil))) (by kernel_rfl) trivial, ⟨call_ok (ks := []) (ns := []) (bor := [2]) (bobjs := [(2, .arr 1 (List.map enc_s x6))]) (s_spec_withRest p1 x6 x8 x9 e7) (.cons (.c1 (.c0 (.same _ (by kernel_rfl) (by kernel_rfl)))) (.cons (.c1 (.c0 (.arr rfl rfl ((rfl).trans (List.length_map ..).symm)))) (.cons (.c1 (.c0 (.same _ (by kernel_rfl) (by kernel_rfl)))) (.nil)))) (by kernel_rfl) trivial, trivial⟩⟩⟩⟩ ?_
    refine AX.ret ?_
    refine fin_wk (Wk.forget [4] [] (s' := ⟨[(4, .v (.string x9))], []⟩) (by kernel_rfl)) ?_
    have hr := Option.some.inj h
    subst hr
    exact ⟨_, Wk.refl _, .inr rfl, ⟨[], by kernel_rfl, trivial, [.v (.string x9)], by kernel_rfl, by kernel_rfl⟩⟩

theorem s_impl_in (p1 : Int) (p2 : Int) (p3 : Int) (r : Bool) (h : m_impl_in p1 p2 p3 = some r) :
    Eng.Spec Tryd.prog 42 [.v (.int .i64 p1), .v (.int .i64 p2), .v (.int .i64 p3)] [] (.v (.bool r)) [] := by
  unfold m_impl_in at h
  refine Eng.Spec.body Tryd.func42 (by kernel_rfl) rfl (by kernel_rfl) ?_
  refine AX.wkpost ?_
  refine AX.seq ?_
  refine AX.reg (its := []) [0, 1, 2] [] (s1 := ⟨[(0, .v (.int .i64 p1)), (1, .v (.int .i64 p2)), (2, .v (.int .i64 p3))], []⟩) (C := True) (by kernel_rfl) trivial trivial ?_
  refine AX.seq ?_
  rcases bool_cases (decide (p2 ≤ p1)) with b1 | b1
  · replace h := cd_t b1 h
    refine AX.reg (its := [.auto {}, .auto {}, .auto { y := some (.v (.bool true)) }]) [6] [] (s1 := ⟨[(6, .v (.bool (decide (p1 ≤ p3))))], []⟩) (C := ((True) ∧ ((.v (.bool (decide (p2 ≤ p1))) : AV) = (.v (.bool true) : AV))) ∧ True) (by kernel_rfl) ⟨⟨trivial, (congrArg (fun z => AV.v (.bool z)) b1)⟩, trivial⟩ trivial ?_
    refine AX.ret ?_
    refine fin_wk (Wk.forget [6] [] (s' := ⟨[(6, .v (.bool (decide (p1 ≤ p3))))], []⟩) (by kernel_rfl)) ?_
    have hr := Option.some.inj h
    subst hr
    exact ⟨_, Wk.refl _, .inr rfl, ⟨[], by kernel_rfl, trivial, [.v (.bool (decide (p1 ≤ p3)))], by kernel_rfl, by kernel_rfl⟩⟩
  · replace h := cd_f b1 h
    refine AX.reg (its := [.auto {}, .auto {}, .auto { y := some (.v (.bool false)) }]) [6] [] (s1 := ⟨[(6, .v (.bool false))], []⟩) (C := ((True) ∧ ((.v (.bool (decide (p2 ≤ p1))) : AV) = (.v (.bool false) : AV))) ∧ True) (by kernel_rfl) ⟨⟨trivial, (congrArg (fun z => AV.v (.bool z)) b1)⟩, trivial⟩ trivial ?_
    refine AX.ret ?_
    refine fin_wk (Wk.forget [6] [] (s' := ⟨[(6, .v (.bool false))], []⟩) (by kernel_rfl)) ?_
    have hr := Option.some.inj h
    subst hr
    exact ⟨_, Wk.refl _, .inr rfl, ⟨[], by kernel_rfl, trivial, [.v (.bool false)], by kernel_rfl, by kernel_rfl⟩⟩

theorem s_impl_ValidName_L1 (p1 : ByteArray) (n : Nat) (g : Int) (out : Unit ⊕ Unit) (h : m_impl_ValidName_L1 p1 n g = some out) :
    AX Tryd.prog 23 0 (codeAt [1, 0, 1, 1] (bodyOf Tryd.f126)) ((fun g : Int => (⟨[(0, .v (.string p1)), (3, .v (.int .i64 g))], []⟩ : S)) g) (fun ex s => (∃ o : Unit, out = Sum.inl o ∧ ex = .ret ∧ s = ⟨[(2, .v (.bool false))], []⟩) ∨ (∃ o : Unit, out = Sum.inr o ∧ ex = .exit 0 ∧ s = ⟨[(0, .v (.string p1))], []⟩)) := by
  refine AX.wkpost ?_
  refine AX.loop (G := Nat × (Int)) (fun q => (fun g : Int => (⟨[(0, .v (.string p1)), (3, .v (.int .i64 g))], []⟩ : S)) q.2) (fun q => m_impl_ValidName_L1 p1 q.1 q.2 = some out) (fun q => q.1) (n, g) h (Wk.refl _) ?_
  clear h
  rintro ⟨fu, v2⟩ h
  cases fu with
  | zero => cases h
  | succ fu =>
    rw [m_impl_ValidName_L1] at h
    refine AX.seq ?_
    refine AX.seq ?_
    refine AX.reg (its := []) [0, 3, 7] [] (s1 := ⟨[(0, .v (.string p1)), (3, .v (.int .i64 v2)), (7, .v (.bool (decide (v2 < (p1.size : Int)))))], []⟩) (C := True) (by kernel_rfl) trivial trivial ?_
    rcases bool_cases (decide (v2 < (p1.size : Int))) with b1 | b1
    · replace h := cd_t b1 h
      refine AX.condT (decide (v2 < (p1.size : Int))) (by kernel_rfl) b1 ?_
      refine AX.skip ?_
      refine AX.seq ?_
      refine AX.block ?_
      refine AX.seq ?_
      obtain ⟨g2, h⟩ := gd_e h
      rcases bool_cases (decide ((byteAt p1 v2.toNat) < 97)) with b3 | b3
      · replace h := cd_t b3 h
        refine AX.reg (its := [.auto {}, .auto {}, .auto {}, .auto { y := some (.v (.bool true)) }]) [0, 3, 19] [] (s1 := ⟨[(0, .v (.string p1)), (3, .v (.int .i64 v2)), (19, .v (.bool true))], []⟩) (C := (0 ≤ v2 ∧ v2 < (p1.size : Int)) ∧ ((True) ∧ ((.v (.bool (decide ((byteAt p1 v2.toNat) < 97))) : AV) = (.v (.bool true) : AV))) ∧ True) (by kernel_rfl) ⟨g2, ⟨⟨trivial, (congrArg (fun z => AV.v (.bool z)) b3)⟩, trivial⟩⟩ trivial ?_
        refine AX.cond_true (by kernel_rfl) ?_
        refine AX.seq ?_
        refine AX.reg (its := []) [2] [] (s1 := ⟨[(2, .v (.bool false))], []⟩) (C := True) (by kernel_rfl) trivial trivial ?_
        refine AX.ret ?_
        refine fin_wk (Wk.forget [2] [] (s' := ⟨[(2, .v (.bool false))], []⟩) (by kernel_rfl)) ?_
        have hr := Option.some.inj h
        subst hr
        exact ⟨_, Wk.refl _, .inl ⟨(), rfl, rfl, rfl⟩⟩
      · replace h := cd_f b3 h
        refine AX.reg (its := [.auto {}, .auto {}, .auto {}, .auto { y := some (.v (.bool false)) }]) [0, 3, 19] [] (s1 := ⟨[(0, .v (.string p1)), (3, .v (.int .i64 v2)), (19, .v (.bool (decide (122 < (byteAt p1 v2.toNat)))))], []⟩) (C := (0 ≤ v2 ∧ v2 < (p1.size : Int)) ∧ ((True) ∧ ((.v (.bool (decide ((byteAt p1 v2.toNat) < 97))) : AV) = (.v (.bool false) : AV))) ∧ (0 ≤ v2 ∧ v2 < (p1.size : Int)) ∧ True) (by kernel_rfl) ⟨g2, ⟨⟨trivial, (congrArg (fun z => AV.v (.bool z)) b3)⟩, ⟨g2, trivial⟩⟩⟩ trivial ?_
        rcases bool_cases (decide (122 < (byteAt p1 v2.toNat))) with b4 | b4
        · replace h := cd_t b4 h
          refine AX.condT (decide (122 < (byteAt p1 v2.toNat))) (by kernel_rfl) b4 ?_
          refine AX.seq ?_
          refine AX.reg (its := []) [2] [] (s1 := ⟨[(2, .v (.bool false))], []⟩) (C := True) (by kernel_rfl) trivial trivial ?_
          refine AX.ret ?_
          refine fin_wk (Wk.forget [2] [] (s' := ⟨[(2, .v (.bool false))], []⟩) (by kernel_rfl)) ?_
          have hr := Option.some.inj h
          subst hr
          exact ⟨_, Wk.refl _, .inl ⟨(), rfl, rfl, rfl⟩⟩
        · replace h := cd_f b4 h
          refine AX.condF (decide (122 < (byteAt p1 v2.toNat))) (by kernel_rfl) b4 ?_
          refine AX.skip ?_
          refine AX.reg (its := [.auto {}, .auto { raw := true }]) [0, 3] [] (s1 := ⟨[(0, .v (.string p1)), (3, .v (.int .i64 (IntKind.wrap .i64 (v2 + 1))))], []⟩) (C := True) (by kernel_rfl) trivial trivial ?_
          refine ⟨(fu, IntKind.wrap .i64 (v2 + 1)), h, Nat.lt_succ_self _, ?_⟩
          refine Wk.trans (Wk.forget [0, 3] [] (s' := ⟨[(0, .v (.string p1)), (3, .v (.int .i64 (IntKind.wrap .i64 (v2 + 1))))], []⟩) (by kernel_rfl)) ?_
          exact Wk.refl _
    · replace h := cd_f b1 h
      refine AX.condF (decide (v2 < (p1.size : Int))) (by kernel_rfl) b1 ?_
      refine AX.exit ?_
      refine fin_wk (Wk.forget [0] [] (s' := ⟨[(0, .v (.string p1))], []⟩) (by kernel_rfl)) ?_
      have hr := Option.some.inj h
      subst hr
      exact ⟨_, Wk.refl _, .inr ⟨(), rfl, rfl, rfl⟩⟩

theorem s_impl_ValidName (p1 : ByteArray) (r : Bool) (h : m_impl_ValidName p1 = some r) :
    Eng.Spec Tryd.prog 126 [.v (.string p1)] [] (.v (.bool r)) [] := by
  unfold m_impl_ValidName at h
  refine Eng.Spec.body Tryd.func126 (by kernel_rfl) rfl (by kernel_rfl) ?_
  refine AX.wkpost ?_
  refine AX.seq ?_
  refine AX.reg (its := []) [0] [] (s1 := ⟨[(0, .v (.string p1))], []⟩) (C := True) (by kernel_rfl) trivial trivial ?_
  refine AX.seq ?_
  refine AX.seq ?_
  refine AX.reg (its := []) [0, 3] [] (s1 := ⟨[(0, .v (.string p1)), (3, .v (.int .i64 0))], []⟩) (C := True) (by kernel_rfl) trivial trivial ?_
  refine AX.block ?_
  obtain ⟨x3, e5, h⟩ := bd_e h
  refine AX.wk (Wk.forget [0, 3] [] (s' := ⟨[(0, .v (.string p1)), (3, .v (.int .i64 0))], []⟩) (by kernel_rfl)) ?_
  refine AX.mono (s_impl_ValidName_L1 p1 FU 0 x3 e5) ?_
  rintro _ _ (⟨x4, rfl, rfl, rfl⟩ | ⟨x5, rfl, rfl, rfl⟩)
  · replace h := sm_l h
    refine fin_wk (Wk.forget [2] [] (s' := ⟨[(2, .v (.bool false))], []⟩) (by kernel_rfl)) ?_
    have hr := Option.some.inj h
    subst hr
    exact ⟨_, Wk.refl _, .inr rfl, ⟨[], by kernel_rfl, trivial, [.v (.bool false)], by kernel_rfl, by kernel_rfl⟩⟩
  · replace h := sm_r h
    refine AX.seq ?_
    obtain ⟨x6, e6, h⟩ := bd_e h
    refine AX.reg (its := [.auto {}, .auto {}, .call 42 [.v (.int .i64 (p1.size : Int)), .v (.int .i64 1), .v (.int .i64 6)] (handO (rho ([] ++ [])) [] [] ++ []) (callEv [] [] (.v (.bool x6)) [])]) [2] [] (s1 := ⟨[(2, .v (.bool x6))], []⟩) (C := ((([.v (.int .i64 (p1.size : Int)), .v (.int .i64 1), .v (.int .i64 6)] : List AV) = [.v (.int .i64 (p1.size : Int)), .v (.int .i64 1), .v (.int .i64 6)]) ∧ True) ∧ True) (by kernel_rfl) ⟨⟨rfl, trivial⟩, trivial⟩ ⟨call_ok (ks := []) (ns := []) (bor := []) (bobjs := []) (s_impl_in (p1.size : Int) 1 6 x6 e6) (.cons (.c1 (.c0 (.same _ (by kernel_rfl) (by kernel_rfl)))) (.cons (.c1 (.c0 (.same _ (by kernel_rfl) (by kernel_rfl)))) (.cons (.c1 (.c0 (.same _ (by kernel_rfl) (by kernel_rfl)))) (.nil)))) (by kernel_rfl) trivial, trivial⟩ ?_
    refine AX.ret ?_
    refine fin_wk (Wk.forget [2] [] (s' := ⟨[(2, .v (.bool x6))], []⟩) (by kernel_rfl)) ?_
    have hr := Option.some.inj h
    subst hr
    exact ⟨_, Wk.refl _, .inr rfl, ⟨[], by kernel_rfl, trivial, [.v (.bool x6)], by kernel_rfl, by kernel_rfl⟩⟩

theorem s_impl_named_1_l (p1 : ByteArray) (p2 : Int) (p3 : ByteArray) (r : Unit) (h : m_impl_named_1_l p1 p2 p3 = some r) :
    Eng.Spec Tryd.prog 87 [.agg [.v (.string p1), .v (.int .i64 p2)], .bp [.v (.string p3)] 0] [] (.v (.bool (decide (p1 = p3)))) [] := by
  unfold m_impl_named_1_l at h
  refine Eng.Spec.body Tryd.func87 (by kernel_rfl) rfl (by kernel_rfl) ?_
  refine AX.wkpost ?_
  refine AX.seq ?_
  refine AX.reg (its := [.auto { nk := 0 }]) [1, 2] [0] (s1 := ⟨[(1, .bp [.v (.string p3)] 0), (2, .pt 0 0)], [(0, .box [.v (.string p1), .v (.int .i64 p2)])]⟩) (C := True) (by kernel_rfl) trivial trivial ?_
  refine AX.seq ?_
  refine AX.reg (its := []) [3] [] (s1 := ⟨[(3, .v (.bool (decide (p1 = p3))))], []⟩) (C := True) (by kernel_rfl) trivial trivial ?_
  refine AX.ret ?_
  refine fin_wk (Wk.forget [3] [] (s' := ⟨[(3, .v (.bool (decide (p1 = p3))))], []⟩) (by kernel_rfl)) ?_
  have hr := Option.some.inj h
  subst hr
  exact ⟨_, Wk.refl _, .inr rfl, ⟨[], by kernel_rfl, trivial, [.v (.bool (decide (p1 = p3)))], by kernel_rfl, by kernel_rfl⟩⟩

theorem s_slices_IndexFunc_si_named_1_l_L1 (p1 : List (ByteArray × Int)) (p2 : ByteArray) (n : Nat) (g : Int) (out : Int ⊕ Unit) (h : m_slices_IndexFunc_si_named_1_l_L1 p1 p2 n g = some out) :
    AX Tryd.prog 19 0 (codeAt [1, 0, 1, 1] (bodyOf Tryd.f86)) ((fun g : Int => (⟨[(0, .bs false 2 (List.map enc_si p1)), (1, .fn 87 [.bp [.v (.string p2)] 0]), (7, .v (.int .i64 (p1.length : Int))), (8, .v (.int .i64 g))], []⟩ : S)) g) (fun ex s => (∃ o : Int, out = Sum.inl o ∧ ex = .ret ∧ s = ⟨[(4, .v (.int .i64 o))], []⟩) ∨ (∃ o : Unit, out = Sum.inr o ∧ ex = .exit 0 ∧ s = ⟨[], []⟩)) := by
  refine AX.wkpost ?_
  refine AX.loop (G := Nat × (Int)) (fun q => (fun g : Int => (⟨[(0, .bs false 2 (List.map enc_si p1)), (1, .fn 87 [.bp [.v (.string p2)] 0]), (7, .v (.int .i64 (p1.length : Int))), (8, .v (.int .i64 g))], []⟩ : S)) q.2) (fun q => m_slices_IndexFunc_si_named_1_l_L1 p1 p2 q.1 q.2 = some out) (fun q => q.1) (n, g) h (Wk.refl _) ?_
  clear h
  rintro ⟨fu, v3⟩ h
  cases fu with
  | zero => cases h
  | succ fu =>
    rw [m_slices_IndexFunc_si_named_1_l_L1] at h
    refine AX.seq ?_
    refine AX.reg (its := []) [0, 1, 7, 8, 9] [] (s1 := ⟨[(0, .bs false 2 (List.map enc_si p1)), (1, .fn 87 [.bp [.v (.string p2)] 0]), (7, .v (.int .i64 (p1.length : Int))), (8, .v (.int .i64 v3)), (9, .v (.bool (decide (v3 < (p1.length : Int)))))], []⟩) (C := True) (by kernel_rfl) trivial trivial ?_
    refine AX.seq ?_
    rcases bool_cases (decide (v3 < (p1.length : Int))) with b1 | b1
    · replace h := cd_t b1 h
      refine AX.condT (decide (v3 < (p1.length : Int))) (by kernel_rfl) b1 ?_
      refine AX.skip ?_
      refine AX.seq ?_
      refine AX.block ?_
      refine AX.seq ?_
      refine AX.reg (its := []) [0, 1, 5, 7, 8] [] (s1 := ⟨[(0, .bs false 2 (List.map enc_si p1)), (1, .fn 87 [.bp [.v (.string p2)] 0]), (5, .v (.int .i64 v3)), (7, .v (.int .i64 (p1.length : Int))), (8, .v (.int .i64 v3))], []⟩) (C := True) (by kernel_rfl) trivial trivial ?_
      refine AX.seq ?_
      obtain ⟨g2, h⟩ := gd_e h
      obtain ⟨x4, e3, h⟩ := bd_e h
      refine AX.reg (its := [.auto {}, .auto {}, .auto {}, .auto { y := some (.be 2 (enc_si (gt p1 v3)) 0) }, .auto {}, .call 87 [.agg [.v (.string ((gt p1 v3).1)), .v (.int .i64 ((gt p1 v3).2))], .bp [.v (.string p2)] 0] (handO (rho ([] ++ [])) [] [] ++ []) (callEv [] [] (.v (.bool (decide (((gt p1 v3).1) = p2)))) [])]) [0, 1, 5, 7, 8, 16] [] (s1 := ⟨[(0, .bs false 2 (List.map enc_si p1)), (1, .fn 87 [.bp [.v (.string p2)] 0]), (5, .v (.int .i64 v3)), (7, .v (.int .i64 (p1.length : Int))), (8, .v (.int .i64 v3)), (16, .v (.bool (decide (((gt p1 v3).1) = p2))))], []⟩) (C := ((0 ≤ v3 ∧ v3 < ((List.map enc_si p1).length : Int)) ∧ (AV.be 2 ((List.map enc_si p1).getD v3.toNat []) 0 = AV.be 2 (enc_si (gt p1 v3)) 0)) ∧ ((([.agg [.v (.string ((gt p1 v3).1)), .v (.int .i64 ((gt p1 v3).2))], .bp [.v (.string p2)] 0] : List AV) = [.agg [.v (.string ((gt p1 v3).1)), .v (.int .i64 ((gt p1 v3).2))], .bp [.v (.string p2)] 0]) ∧ True) ∧ True) (by kernel_rfl) ⟨idx_bs enc_si p1 v3 2 g2, ⟨⟨rfl, trivial⟩, trivial⟩⟩ ⟨call_ok (ks := []) (ns := []) (bor := []) (bobjs := []) (s_impl_named_1_l ((gt p1 v3).1) ((gt p1 v3).2) p2 x4 e3) (.cons (.c1 (.agg (.cons (.same _ (by kernel_rfl) (by kernel_rfl)) (.cons (.same _ (by kernel_rfl) (by kernel_rfl)) (.nil))))) (.cons (.c1 (.bp (.cons (.same _ (by kernel_rfl) (by kernel_rfl)) (.nil)))) (.nil))) (by kernel_rfl) trivial, trivial⟩ ?_
      rcases bool_cases (decide (((gt p1 v3).1) = p2)) with b4 | b4
      · replace h := cd_t b4 h
        refine AX.condT (decide (((gt p1 v3).1) = p2)) (by kernel_rfl) b4 ?_
        refine AX.seq ?_
        refine AX.reg (its := []) [4] [] (s1 := ⟨[(4, .v (.int .i64 v3))], []⟩) (C := True) (by kernel_rfl) trivial trivial ?_
        refine AX.ret ?_
        refine fin_wk (Wk.forget [4] [] (s' := ⟨[(4, .v (.int .i64 v3))], []⟩) (by kernel_rfl)) ?_
        have hr := Option.some.inj h
        subst hr
        exact ⟨_, Wk.refl _, .inl ⟨v3, rfl, rfl, rfl⟩⟩
      · replace h := cd_f b4 h
        refine AX.condF (decide (((gt p1 v3).1) = p2)) (by kernel_rfl) b4 ?_
        refine AX.skip ?_
        refine AX.reg (its := [.auto { raw := true }]) [0, 1, 7, 8] [] (s1 := ⟨[(0, .bs false 2 (List.map enc_si p1)), (1, .fn 87 [.bp [.v (.string p2)] 0]), (7, .v (.int .i64 (p1.length : Int))), (8, .v (.int .i64 (IntKind.wrap .i64 (v3 + 1))))], []⟩) (C := True) (by kernel_rfl) trivial trivial ?_
        refine ⟨(fu, IntKind.wrap .i64 (v3 + 1)), h, Nat.lt_succ_self _, ?_⟩
        refine Wk.trans (Wk.forget [0, 1, 7, 8] [] (s' := ⟨[(0, .bs false 2 (List.map enc_si p1)), (1, .fn 87 [.bp [.v (.string p2)] 0]), (7, .v (.int .i64 (p1.length : Int))), (8, .v (.int .i64 (IntKind.wrap .i64 (v3 + 1))))], []⟩) (by kernel_rfl)) ?_
        exact Wk.refl _
    · replace h := cd_f b1 h
      refine AX.condF (decide (v3 < (p1.length : Int))) (by kernel_rfl) b1 ?_
      refine AX.exit ?_
      refine fin_wk (Wk.forget [] [] (s' := ⟨[], []⟩) (by kernel_rfl)) ?_
      have hr := Option.some.inj h
      subst hr
      exact ⟨_, Wk.refl _, .inr ⟨(), rfl, rfl, rfl⟩⟩

theorem s_slices_IndexFunc_si_named_1_l (p1 : List (ByteArray × Int)) (p2 : ByteArray) (r : Int) (h : m_slices_IndexFunc_si_named_1_l p1 p2 = some r) :
    Eng.Spec Tryd.prog 86 [.bs false 2 (List.map enc_si p1), .fn 87 [.bp [.v (.string p2)] 0]] [] (.v (.int .i64 r)) [] := by
  unfold m_slices_IndexFunc_si_named_1_l at h
  refine Eng.Spec.body Tryd.func86 (by kernel_rfl) rfl (by kernel_rfl) ?_
  refine AX.wkpost ?_
  refine AX.seq ?_
  refine AX.reg (its := []) [0, 1] [] (s1 := ⟨[(0, .bs false 2 (List.map enc_si p1)), (1, .fn 87 [.bp [.v (.string p2)] 0])], []⟩) (C := True) (by kernel_rfl) trivial trivial ?_
  refine AX.seq ?_
  refine AX.seq ?_
  refine AX.reg (its := [.auto {}, .auto { y := some (.v (.int .i64 (p1.length : Int))) }]) [0, 1, 7, 8] [] (s1 := ⟨[(0, .bs false 2 (List.map enc_si p1)), (1, .fn 87 [.bp [.v (.string p2)] 0]), (7, .v (.int .i64 (p1.length : Int))), (8, .v (.int .i64 0))], []⟩) (C := (True ∧ (AV.v (.int .i64 ((List.map enc_si p1).length : Int)) = AV.v (.int .i64 (p1.length : Int)))) ∧ True) (by kernel_rfl) ⟨⟨trivial, len_map enc_si p1⟩, trivial⟩ trivial ?_
  refine AX.block ?_
  obtain ⟨x5, e5, h⟩ := bd_e h
  refine AX.wk (Wk.forget [0, 1, 7, 8] [] (s' := ⟨[(0, .bs false 2 (List.map enc_si p1)), (1, .fn 87 [.bp [.v (.string p2)] 0]), (7, .v (.int .i64 (p1.length : Int))), (8, .v (.int .i64 0))], []⟩) (by kernel_rfl)) ?_
  refine AX.mono (s_slices_IndexFunc_si_named_1_l_L1 p1 p2 FU 0 x5 e5) ?_
  rintro _ _ (⟨x6, rfl, rfl, rfl⟩ | ⟨x7, rfl, rfl, rfl⟩)
  · replace h := sm_l h
    refine fin_wk (Wk.forget [4] [] (s' := ⟨[(4, .v (.int .i64 x6))], []⟩) (by kernel_rfl)) ?_
    have hr := Option.some.inj h
    subst hr
    exact ⟨_, Wk.refl _, .inr rfl, ⟨[], by kernel_rfl, trivial, [.v (.int .i64 x6)], by kernel_rfl, by kernel_rfl⟩⟩
  · replace h := sm_r h
    refine AX.seq ?_
    refine AX.reg (its := []) [4] [] (s1 := ⟨[(4, .v (.int .i64 (-1)))], []⟩) (C := True) (by kernel_rfl) trivial trivial ?_
    refine AX.ret ?_
    refine fin_wk (Wk.forget [4] [] (s' := ⟨[(4, .v (.int .i64 (-1)))], []⟩) (by kernel_rfl)) ?_
    have hr := Option.some.inj h
    subst hr
    exact ⟨_, Wk.refl _, .inr rfl, ⟨[], by kernel_rfl, trivial, [.v (.int .i64 (-1))], by kernel_rfl, by kernel_rfl⟩⟩

theorem s_impl_named (p1 : List (ByteArray × Int)) (p2 : ByteArray) (r : Int) (h : m_impl_named p1 p2 = some r) :
    Eng.Spec Tryd.prog 40 [.bs false 2 (List.map enc_si p1), .v (.string p2)] [] (.v (.int .i64 r)) [] := by
  unfold m_impl_named at h
  refine Eng.Spec.body Tryd.func40 (by kernel_rfl) rfl (by kernel_rfl) ?_
  refine AX.wkpost ?_
  refine AX.seq ?_
  refine AX.reg (its := [.auto { nk := 0 }]) [0, 3] [0] (s1 := ⟨[(0, .bs false 2 (List.map enc_si p1)), (3, .pt 0 0)], [(0, .box [.v (.string p2)])]⟩) (C := True) (by kernel_rfl) trivial trivial ?_
  refine AX.seq ?_
  obtain ⟨x3, e1, h⟩ := bd_e h
  refine AX.reg (its := [.auto {}, .auto {}, .call 86 [.bs false 2 (List.map enc_si p1), .fn 87 [.pt 0 0]] (handO (rho ([] ++ [])) [] [] ++ [(0, .box [.v (.string p2)])]) (callEv [] [] (.v (.int .i64 x3)) [])]) [4] [] (s1 := ⟨[(4, .v (.int .i64 x3))], []⟩) (C := ((([.bs false 2 (List.map enc_si p1), .fn 87 [.pt 0 0]] : List AV) = [.bs false 2 (List.map enc_si p1), .fn 87 [.pt 0 0]]) ∧ (AO.box [.v (.string p2)] = AO.box [.v (.string p2)]) ∧ True) ∧ True) (by kernel_rfl) ⟨⟨rfl, rfl, trivial⟩, trivial⟩ ⟨call_ok (ks := []) (ns := []) (bor := [0]) (bobjs := [(0, .box [.v (.string p2)])]) (s_slices_IndexFunc_si_named_1_l p1 p2 x3 e1) (.cons (.c1 (.c0 (.same _ (by kernel_rfl) (by kernel_rfl)))) (.cons (.fn (.cons (.box rfl rfl (.cons (.same _ (by kernel_rfl) (by kernel_rfl)) (.nil))) (.nil))) (.nil))) (by kernel_rfl) trivial, trivial⟩ ?_
  refine AX.ret ?_
  refine fin_wk (Wk.forget [4] [] (s' := ⟨[(4, .v (.int .i64 x3))], []⟩) (by kernel_rfl)) ?_
  have hr := Option.some.inj h
  subst hr
  exact ⟨_, Wk.refl _, .inr rfl, ⟨[], by kernel_rfl, trivial, [.v (.int .i64 x3)], by kernel_rfl, by kernel_rfl⟩⟩

theorem s_impl_defsValid_L1 (p1 : List (ByteArray × Int)) (p2 : Int) (p3 : Int) (n : Nat) (g : Int) (out : Unit ⊕ Unit) (h : m_impl_defsValid_L1 p1 p2 p3 n g = some out) :
    AX Tryd.prog 41 0 (codeAt [1, 0, 1, 1] (bodyOf Tryd.f84)) ((fun g : Int => (⟨[(0, .bs false 2 (List.map enc_si p1)), (1, .v (.int .i64 p2)), (2, .v (.int .i64 p3)), (9, .bs false 2 (List.map enc_si p1)), (10, .v (.int .i64 (p1.length : Int))), (11, .v (.int .i64 g))], []⟩ : S)) g) (fun ex s => (∃ o : Unit, out = Sum.inl o ∧ ex = .ret ∧ s = ⟨[(6, .v (.bool false))], []⟩) ∨ (∃ o : Unit, out = Sum.inr o ∧ ex = .exit 0 ∧ s = ⟨[(0, .bs false 2 (List.map enc_si p1))], []⟩)) := by
  refine AX.wkpost ?_
  refine AX.loop (G := Nat × (Int)) (fun q => (fun g : Int => (⟨[(0, .bs false 2 (List.map enc_si p1)), (1, .v (.int .i64 p2)), (2, .v (.int .i64 p3)), (9, .bs false 2 (List.map enc_si p1)), (10, .v (.int .i64 (p1.length : Int))), (11, .v (.int .i64 g))], []⟩ : S)) q.2) (fun q => m_impl_defsValid_L1 p1 p2 p3 q.1 q.2 = some out) (fun q => q.1) (n, g) h (Wk.refl _) ?_
  clear h
  rintro ⟨fu, v4⟩ h
  cases fu with
  | zero => cases h
  | succ fu =>
    rw [m_impl_defsValid_L1] at h
    refine AX.seq ?_
    refine AX.reg (its := []) [0, 1, 2, 9, 10, 11, 12] [] (s1 := ⟨[(0, .bs false 2 (List.map enc_si p1)), (1, .v (.int .i64 p2)), (2, .v (.int .i64 p3)), (9, .bs false 2 (List.map enc_si p1)), (10, .v (.int .i64 (p1.length : Int))), (11, .v (.int .i64 v4)), (12, .v (.bool (decide (v4 < (p1.length : Int)))))], []⟩) (C := True) (by kernel_rfl) trivial trivial ?_
    refine AX.seq ?_
    rcases bool_cases (decide (v4 < (p1.length : Int))) with b1 | b1
    · replace h := cd_t b1 h
      refine AX.condT (decide (v4 < (p1.length : Int))) (by kernel_rfl) b1 ?_
      refine AX.skip ?_
      refine AX.seq ?_
      refine AX.block ?_
      refine AX.seq ?_
      obtain ⟨g2, h⟩ := gd_e h
      refine AX.reg (its := [.auto {}, .auto { y := some (.be 2 (enc_si (gt p1 v4)) 0) }, .auto {}, .auto { nk := 0 }]) [0, 1, 2, 7, 8, 9, 10, 11] [0] (s1 := ⟨[(0, .bs false 2 (List.map enc_si p1)), (1, .v (.int .i64 p2)), (2, .v (.int .i64 p3)), (7, .v (.int .i64 v4)), (8, .pt 0 0), (9, .bs false 2 (List.map enc_si p1)), (10, .v (.int .i64 (p1.length : Int))), (11, .v (.int .i64 v4))], [(0, .box [.v (.string ((gt p1 v4).1)), .v (.int .i64 ((gt p1 v4).2))])]⟩) (C := ((0 ≤ v4 ∧ v4 < ((List.map enc_si p1).length : Int)) ∧ (AV.be 2 ((List.map enc_si p1).getD v4.toNat []) 0 = AV.be 2 (enc_si (gt p1 v4)) 0)) ∧ True) (by kernel_rfl) ⟨idx_bs enc_si p1 v4 2 g2, trivial⟩ trivial ?_
      refine AX.seq ?_
      obtain ⟨x5, e3, h⟩ := bd_e h
      rcases bool_cases ((!x5)) with b4 | b4
      · replace h := cd_t b4 h
        refine AX.drw mixed (its := [.auto {}, .auto {}, .call 126 [.v (.string ((gt p1 v4).1))] (handO (rho ([] ++ [])) [] [] ++ []) (callEv [] [] (.v (.bool x5)) []), .auto { y := some (.v (.bool true)) }]) [0, 1, 2, 9, 10, 11, 36] [] (s1 := ⟨[(0, .bs false 2 (List.map enc_si p1)), (1, .v (.int .i64 p2)), (2, .v (.int .i64 p3)), (9, .bs false 2 (List.map enc_si p1)), (10, .v (.int .i64 (p1.length : Int))), (11, .v (.int .i64 v4)), (36, .v (.bool true))], []⟩) (C := ((([.v (.string ((gt p1 v4).1))] : List AV) = [.v (.string ((gt p1 v4).1))]) ∧ True) ∧ ((True) ∧ ((.v (.bool (!x5)) : AV) = (.v (.bool true) : AV))) ∧ True) (by kernel_rfl) ⟨⟨rfl, trivial⟩, ⟨⟨trivial, (congrArg (fun z => AV.v (.bool z)) b4)⟩, trivial⟩⟩ ⟨call_ok (ks := []) (ns := []) (bor := []) (bobjs := []) (s_impl_ValidName ((gt p1 v4).1) x5 e3) (.cons (.c1 (.c0 (.same _ (by kernel_rfl) (by kernel_rfl)))) (.nil)) (by kernel_rfl) trivial, trivial⟩ ?_
        refine AX.cond_true (by kernel_rfl) ?_
        refine AX.seq ?_
        refine AX.reg (its := []) [6] [] (s1 := ⟨[(6, .v (.bool false))], []⟩) (C := True) (by kernel_rfl) trivial trivial ?_
        refine AX.ret ?_
        refine fin_wk (Wk.forget [6] [] (s' := ⟨[(6, .v (.bool false))], []⟩) (by kernel_rfl)) ?_
        have hr := Option.some.inj h
        subst hr
        exact ⟨_, Wk.refl _, .inl ⟨(), rfl, rfl, rfl⟩⟩
      · replace h := cd_f b4 h
        obtain ⟨x6, e5, h⟩ := bd_e h
        rcases bool_cases ((!x6)) with b6 | b6
        · replace h := cd_t b6 h
          refine AX.drw mixed (its := [.auto {}, .auto {}, .call 126 [.v (.string ((gt p1 v4).1))] (handO (rho ([] ++ [])) [] [] ++ []) (callEv [] [] (.v (.bool x5)) []), .auto { y := some (.v (.bool false)) }, .auto {}, .auto {}, .auto {}, .auto {}, .auto {}, .call 42 [.v (.int .i64 ((gt p1 v4).2)), .v (.int .i64 p2), .v (.int .i64 p3)] (handO (rho ([] ++ [])) [] [] ++ []) (callEv [] [] (.v (.bool x6)) []), .auto { y := some (.v (.bool true)) }]) [0, 1, 2, 9, 10, 11, 36] [] (s1 := ⟨[(0, .bs false 2 (List.map enc_si p1)), (1, .v (.int .i64 p2)), (2, .v (.int .i64 p3)), (9, .bs false 2 (List.map enc_si p1)), (10, .v (.int .i64 (p1.length : Int))), (11, .v (.int .i64 v4)), (36, .v (.bool true))], []⟩) (C := ((([.v (.string ((gt p1 v4).1))] : List AV) = [.v (.string ((gt p1 v4).1))]) ∧ True) ∧ ((True) ∧ ((.v (.bool (!x5)) : AV) = (.v (.bool false) : AV))) ∧ ((([.v (.int .i64 ((gt p1 v4).2)), .v (.int .i64 p2), .v (.int .i64 p3)] : List AV) = [.v (.int .i64 ((gt p1 v4).2)), .v (.int .i64 p2), .v (.int .i64 p3)]) ∧ True) ∧ ((True) ∧ ((.v (.bool (!x6)) : AV) = (.v (.bool true) : AV))) ∧ True) (by kernel_rfl) ⟨⟨rfl, trivial⟩, ⟨⟨trivial, (congrArg (fun z => AV.v (.bool z)) b4)⟩, ⟨⟨rfl, trivial⟩, ⟨⟨trivial, (congrArg (fun z => AV.v (.bool z)) b6)⟩, trivial⟩⟩⟩⟩ ⟨call_ok (ks := []) (ns := []) (bor := []) (bobjs := []) (s_impl_ValidName ((gt p1 v4).1) x5 e3) (.cons (.c1 (.c0 (.same _ (by kernel_rfl) (by kernel_rfl)))) (.nil)) (by kernel_rfl) trivial, ⟨call_ok (ks := []) (ns := []) (bor := []) (bobjs := []) (s_impl_in ((gt p1 v4).2) p2 p3 x6 e5) (.cons (.c1 (.c0 (.same _ (by kernel_rfl) (by kernel_rfl)))) (.cons (.c1 (.c0 (.same _ (by kernel_rfl) (by kernel_rfl)))) (.cons (.c1 (.c0 (.same _ (by kernel_rfl) (by kernel_rfl)))) (.nil)))) (by kernel_rfl) trivial, trivial⟩⟩ ?_
          refine AX.cond_true (by kernel_rfl) ?_
          refine AX.seq ?_
          refine AX.reg (its := []) [6] [] (s1 := ⟨[(6, .v (.bool false))], []⟩) (C := True) (by kernel_rfl) trivial trivial ?_
          refine AX.ret ?_
          refine fin_wk (Wk.forget [6] [] (s' := ⟨[(6, .v (.bool false))], []⟩) (by kernel_rfl)) ?_
          have hr := Option.some.inj h
          subst hr
          exact ⟨_, Wk.refl _, .inl ⟨(), rfl, rfl, rfl⟩⟩
        · replace h := cd_f b6 h
          obtain ⟨g7, h⟩ := gd_e h
          obtain ⟨x7, e8, h⟩ := bd_e h
          refine AX.drw mixed (its := [.auto {}, .auto {}, .call 126 [.v (.string ((gt p1 v4).1))] (handO (rho ([] ++ [])) [] [] ++ []) (callEv [] [] (.v (.bool x5)) []), .auto { y := some (.v (.bool false)) }, .auto {}, .auto {}, .auto {}, .auto {}, .auto {}, .call 42 [.v (.int .i64 ((gt p1 v4).2)), .v (.int .i64 p2), .v (.int .i64 p3)] (handO (rho ([] ++ [])) [] [] ++ []) (callEv [] [] (.v (.bool x6)) []), .auto { y := some (.v (.bool false)) }, .auto {}, .auto {}, .auto {}, .auto {}, .auto { y := some (.bs false 2 (List.map enc_si (sub p1 (0 : Int) v4))) }, .auto {}, .auto {}, .call 40 [.bs false 2 (List.map enc_si (sub p1 (0 : Int) v4)), .v (.string ((gt p1 v4).1))] (handO (rho ([] ++ [])) [] [] ++ []) (callEv [] [] (.v (.int .i64 x7)) [])]) [0, 1, 2, 9, 10, 11, 36] [] (s1 := ⟨[(0, .bs false 2 (List.map enc_si p1)), (1, .v (.int .i64 p2)), (2, .v (.int .i64 p3)), (9, .bs false 2 (List.map enc_si p1)), (10, .v (.int .i64 (p1.length : Int))), (11, .v (.int .i64 v4)), (36, .v (.bool (decide (0 ≤ x7))))], []⟩) (C := ((([.v (.string ((gt p1 v4).1))] : List AV) = [.v (.string ((gt p1 v4).1))]) ∧ True) ∧ ((True) ∧ ((.v (.bool (!x5)) : AV) = (.v (.bool false) : AV))) ∧ ((([.v (.int .i64 ((gt p1 v4).2)), .v (.int .i64 p2), .v (.int .i64 p3)] : List AV) = [.v (.int .i64 ((gt p1 v4).2)), .v (.int .i64 p2), .v (.int .i64 p3)]) ∧ True) ∧ ((True) ∧ ((.v (.bool (!x6)) : AV) = (.v (.bool false) : AV))) ∧ ((0 ≤ (0 : Int) ∧ (0 : Int) ≤ v4 ∧ v4 ≤ ((List.map enc_si p1).length : Int) ∧ ((List.map enc_si p1).length : Int) ≤ ((List.map enc_si p1).length : Int)) ∧ (AV.bs false 2 (((List.map enc_si p1).drop (0 : Int).toNat).take (v4.toNat - (0 : Int).toNat)) = (.bs false 2 (List.map enc_si (sub p1 (0 : Int) v4)) : AV))) ∧ ((([.bs false 2 (List.map enc_si (sub p1 (0 : Int) v4)), .v (.string ((gt p1 v4).1))] : List AV) = [.bs false 2 (List.map enc_si (sub p1 (0 : Int) v4)), .v (.string ((gt p1 v4).1))]) ∧ True) ∧ True) (by kernel_rfl) ⟨⟨rfl, trivial⟩, ⟨⟨trivial, (congrArg (fun z => AV.v (.bool z)) b4)⟩, ⟨⟨rfl, trivial⟩, ⟨⟨trivial, (congrArg (fun z => AV.v (.bool z)) b6)⟩, ⟨⟨by first | exact g7 | simpa only [List.length_map] using g7, by first | exact sub_can enc_si p1 (0 : Int) v4 false 2 | (simp only [List.length_map]; exact sub_can enc_si p1 (0 : Int) v4 false 2)⟩, ⟨⟨rfl, trivial⟩, trivial⟩⟩⟩⟩⟩⟩ ⟨call_ok (ks := []) (ns := []) (bor := []) (bobjs := []) (s_impl_ValidName ((gt p1 v4).1) x5 e3) (.cons (.c1 (.c0 (.same _ (by kernel_rfl) (by kernel_rfl)))) (.nil)) (by kernel_rfl) trivial, ⟨call_ok (ks := []) (ns := []) (bor := []) (bobjs := []) (s_impl_in ((gt p1 v4).2) p2 p3 x6 e5) (.cons (.c1 (.c0 (.same _ (by kernel_rfl) (by kernel_rfl)))) (.cons (.c1 (.c0 (.same _ (by kernel_rfl) (by kernel_rfl)))) (.cons (.c1 (.c0 (.same _ (by kernel_rfl) (by kernel_rfl)))) (.nil)))) (by kernel_rfl) trivial, ⟨call_ok (ks := []) (ns := []) (bor := []) (bobjs := []) (s_impl_named (sub p1 (0 : Int) v4) ((gt p1 v4).1) x7 e8) (.cons (.c1 (.c0 (.same _ (by kernel_rfl) (by kernel_rfl)))) (.cons (.c1 (.c0 (.same _ (by kernel_rfl) (by kernel_rfl)))) (.nil))) (by kernel_rfl) trivial, trivial⟩⟩⟩ ?_
          rcases bool_cases (decide (0 ≤ x7)) with b9 | b9
          · replace h := cd_t b9 h
            refine AX.condT (decide (0 ≤ x7)) (by kernel_rfl) b9 ?_
            refine AX.seq ?_
            refine AX.reg (its := []) [6] [] (s1 := ⟨[(6, .v (.bool false))], []⟩) (C := True) (by kernel_rfl) trivial trivial ?_
            refine AX.ret ?_
            refine fin_wk (Wk.forget [6] [] (s' := ⟨[(6, .v (.bool false))], []⟩) (by kernel_rfl)) ?_
            have hr := Option.some.inj h
            subst hr
            exact ⟨_, Wk.refl _, .inl ⟨(), rfl, rfl, rfl⟩⟩
          · replace h := cd_f b9 h
            refine AX.condF (decide (0 ≤ x7)) (by kernel_rfl) b9 ?_
            refine AX.skip ?_
            refine AX.reg (its := [.auto { raw := true }]) [0, 1, 2, 9, 10, 11] [] (s1 := ⟨[(0, .bs false 2 (List.map enc_si p1)), (1, .v (.int .i64 p2)), (2, .v (.int .i64 p3)), (9, .bs false 2 (List.map enc_si p1)), (10, .v (.int .i64 (p1.length : Int))), (11, .v (.int .i64 (IntKind.wrap .i64 (v4 + 1))))], []⟩) (C := True) (by kernel_rfl) trivial trivial ?_
            refine ⟨(fu, IntKind.wrap .i64 (v4 + 1)), h, Nat.lt_succ_self _, ?_⟩
            refine Wk.trans (Wk.forget [0, 1, 2, 9, 10, 11] [] (s' := ⟨[(0, .bs false 2 (List.map enc_si p1)), (1, .v (.int .i64 p2)), (2, .v (.int .i64 p3)), (9, .bs false 2 (List.map enc_si p1)), (10, .v (.int .i64 (p1.length : Int))), (11, .v (.int .i64 (IntKind.wrap .i64 (v4 + 1))))], []⟩) (by kernel_rfl)) ?_
            exact Wk.refl _
    · replace h := cd_f b1 h
      refine AX.condF (decide (v4 < (p1.length : Int))) (by kernel_rfl) b1 ?_
      refine AX.exit ?_
      refine fin_wk (Wk.forget [0] [] (s' := ⟨[(0, .bs false 2 (List.map enc_si p1))], []⟩) (by kernel_rfl)) ?_
      have hr := Option.some.inj h
      subst hr
      exact ⟨_, Wk.refl _, .inr ⟨(), rfl, rfl, rfl⟩⟩

theorem s_impl_defsValid (p1 : List (ByteArray × Int)) (p2 : Int) (p3 : Int) (r : Bool) (h : m_impl_defsValid p1 p2 p3 = some r) :
    Eng.Spec Tryd.prog 84 [.bs false 2 (List.map enc_si p1), .v (.int .i64 p2), .v (.int .i64 p3)] [] (.v (.bool r)) [] := by
  unfold m_impl_defsValid at h
  refine Eng.Spec.body Tryd.func84 (by kernel_rfl) rfl (by kernel_rfl) ?_
  refine AX.wkpost ?_
  refine AX.seq ?_
  refine AX.reg (its := []) [0, 1, 2] [] (s1 := ⟨[(0, .bs false 2 (List.map enc_si p1)), (1, .v (.int .i64 p2)), (2, .v (.int .i64 p3))], []⟩) (C := True) (by kernel_rfl) trivial trivial ?_
  refine AX.seq ?_
  refine AX.seq ?_
  refine AX.reg (its := [.auto {}, .auto { y := some (.v (.int .i64 (p1.length : Int))) }]) [0, 1, 2, 9, 10, 11] [] (s1 := ⟨[(0, .bs false 2 (List.map enc_si p1)), (1, .v (.int .i64 p2)), (2, .v (.int .i64 p3)), (9, .bs false 2 (List.map enc_si p1)), (10, .v (.int .i64 (p1.length : Int))), (11, .v (.int .i64 0))], []⟩) (C := (True ∧ (AV.v (.int .i64 ((List.map enc_si p1).length : Int)) = AV.v (.int .i64 (p1.length : Int)))) ∧ True) (by kernel_rfl) ⟨⟨trivial, len_map enc_si p1⟩, trivial⟩ trivial ?_
  refine AX.block ?_
  obtain ⟨x8, e10, h⟩ := bd_e h
  refine AX.wk (Wk.forget [0, 1, 2, 9, 10, 11] [] (s' := ⟨[(0, .bs false 2 (List.map enc_si p1)), (1, .v (.int .i64 p2)), (2, .v (.int .i64 p3)), (9, .bs false 2 (List.map enc_si p1)), (10, .v (.int .i64 (p1.length : Int))), (11, .v (.int .i64 0))], []⟩) (by kernel_rfl)) ?_
  refine AX.mono (s_impl_defsValid_L1 p1 p2 p3 FU 0 x8 e10) ?_
  rintro _ _ (⟨x9, rfl, rfl, rfl⟩ | ⟨x10, rfl, rfl, rfl⟩)
  · replace h := sm_l h
    refine fin_wk (Wk.forget [6] [] (s' := ⟨[(6, .v (.bool false))], []⟩) (by kernel_rfl)) ?_
    have hr := Option.some.inj h
    subst hr
    exact ⟨_, Wk.refl _, .inr rfl, ⟨[], by kernel_rfl, trivial, [.v (.bool false)], by kernel_rfl, by kernel_rfl⟩⟩
  · replace h := sm_r h
    refine AX.seq ?_
    refine AX.reg (its := [.auto {}, .auto { y := some (.v (.int .i64 (p1.length : Int))) }]) [6] [] (s1 := ⟨[(6, .v (.bool (decide ((p1.length : Int) ≤ 12))))], []⟩) (C := (True ∧ (AV.v (.int .i64 ((List.map enc_si p1).length : Int)) = AV.v (.int .i64 (p1.length : Int)))) ∧ True) (by kernel_rfl) ⟨⟨trivial, len_map enc_si p1⟩, trivial⟩ trivial ?_
    refine AX.ret ?_
    refine fin_wk (Wk.forget [6] [] (s' := ⟨[(6, .v (.bool (decide ((p1.length : Int) ≤ 12))))], []⟩) (by kernel_rfl)) ?_
    have hr := Option.some.inj h
    subst hr
    exact ⟨_, Wk.refl _, .inr rfl, ⟨[], by kernel_rfl, trivial, [.v (.bool (decide ((p1.length : Int) ≤ 12)))], by kernel_rfl, by kernel_rfl⟩⟩

theorem s_impl_ValidFlag (p1 : List (ByteArray × Int)) (p2 : Int) (r : Bool) (h : m_impl_ValidFlag p1 p2 = some r) :
    Eng.Spec Tryd.prog 38 [.agg [.bs false 2 (List.map enc_si p1), .v (.int .i64 p2)]] [] (.v (.bool r)) [] := by
  unfold m_impl_ValidFlag at h
  refine Eng.Spec.body Tryd.func38 (by kernel_rfl) rfl (by kernel_rfl) ?_
  refine AX.wkpost ?_
  refine AX.seq ?_
  refine AX.reg (its := [.auto { nk := 0 }]) [1] [0] (s1 := ⟨[(1, .pt 0 0)], [(0, .box [.bs false 2 (List.map enc_si p1), .v (.int .i64 p2)])]⟩) (C := True) (by kernel_rfl) trivial trivial ?_
  refine AX.seq ?_
  obtain ⟨x3, e1, h⟩ := bd_e h
  rcases bool_cases (x3) with b2 | b2
  · replace h := cd_t b2 h
    obtain ⟨x4, e3, h⟩ := bd_e h
    refine AX.reg (its := [.auto {}, .auto {}, .call 84 [.bs false 2 (List.map enc_si p1), .v (.int .i64 0), .v (.int .i64 4095)] (handO (rho ([] ++ [])) [] [] ++ []) (callEv [] [] (.v (.bool true)) []), .auto {}, .auto {}, .auto {}, .call 42 [.v (.int .i64 p2), .v (.int .i64 0), .v (.int .i64 3)] (handO (rho ([] ++ [])) [] [] ++ []) (callEv [] [] (.v (.bool x4)) [])]) [2] [] (s1 := ⟨[(2, .v (.bool x4))], []⟩) (C := ((([.bs false 2 (List.map enc_si p1), .v (.int .i64 0), .v (.int .i64 4095)] : List AV) = [.bs false 2 (List.map enc_si p1), .v (.int .i64 0), .v (.int .i64 4095)]) ∧ True) ∧ ((([.v (.int .i64 p2), .v (.int .i64 0), .v (.int .i64 3)] : List AV) = [.v (.int .i64 p2), .v (.int .i64 0), .v (.int .i64 3)]) ∧ True) ∧ True) (by kernel_rfl) ⟨⟨rfl, trivial⟩, ⟨⟨rfl, trivial⟩, trivial⟩⟩ ⟨call_ok (ks := []) (ns := []) (bor := []) (bobjs := []) (show Eng.Spec Tryd.prog 84 [.bs false 2 (List.map enc_si p1), .v (.int .i64 0), .v (.int .i64 4095)] [] (.v (.bool true)) [] from by have q := s_impl_defsValid p1 0 4095 x3 e1; rw [b2] at q; exact q) (.cons (.c1 (.c0 (.same _ (by kernel_rfl) (by kernel_rfl)))) (.cons (.c1 (.c0 (.same _ (by kernel_rfl) (by kernel_rfl)))) (.cons (.c1 (.c0 (.same _ (by kernel_rfl) (by kernel_rfl)))) (.nil)))) (by kernel_rfl) trivial, ⟨call_ok (ks := []) (ns := []) (bor := []) (bobjs := []) (s_impl_in p2 0 3 x4 e3) (.cons (.c1 (.c0 (.same _ (by kernel_rfl) (by kernel_rfl)))) (.cons (.c1 (.c0 (.same _ (by kernel_rfl) (by kernel_rfl)))) (.cons (.c1 (.c0 (.same _ (by kernel_rfl) (by kernel_rfl)))) (.nil)))) (by kernel_rfl) trivial, trivial⟩⟩ ?_
    refine AX.ret ?_
    refine fin_wk (Wk.forget [2] [] (s' := ⟨[(2, .v (.bool x4))], []⟩) (by kernel_rfl)) ?_
    have hr := Option.some.inj h
    subst hr
    exact ⟨_, Wk.refl _, .inr rfl, ⟨[], by kernel_rfl, trivial, [.v (.bool x4)], by kernel_rfl, by kernel_rfl⟩⟩
  · replace h := cd_f b2 h
    refine AX.reg (its := [.auto {}, .auto {}, .call 84 [.bs false 2 (List.map enc_si p1), .v (.int .i64 0), .v (.int .i64 4095)] (handO (rho ([] ++ [])) [] [] ++ []) (callEv [] [] (.v (.bool false)) [])]) [2] [] (s1 := ⟨[(2, .v (.bool false))], []⟩) (C := ((([.bs false 2 (List.map enc_si p1), .v (.int .i64 0), .v (.int .i64 4095)] : List AV) = [.bs false 2 (List.map enc_si p1), .v (.int .i64 0), .v (.int .i64 4095)]) ∧ True) ∧ True) (by kernel_rfl) ⟨⟨rfl, trivial⟩, trivial⟩ ⟨call_ok (ks := []) (ns := []) (bor := []) (bobjs := []) (show Eng.Spec Tryd.prog 84 [.bs false 2 (List.map enc_si p1), .v (.int .i64 0), .v (.int .i64 4095)] [] (.v (.bool false)) [] from by have q := s_impl_defsValid p1 0 4095 x3 e1; rw [b2] at q; exact q) (.cons (.c1 (.c0 (.same _ (by kernel_rfl) (by kernel_rfl)))) (.cons (.c1 (.c0 (.same _ (by kernel_rfl) (by kernel_rfl)))) (.cons (.c1 (.c0 (.same _ (by kernel_rfl) (by kernel_rfl)))) (.nil)))) (by kernel_rfl) trivial, trivial⟩ ?_
    refine AX.ret ?_
    refine fin_wk (Wk.forget [2] [] (s' := ⟨[(2, .v (.bool false))], []⟩) (by kernel_rfl)) ?_
    have hr := Option.some.inj h
    subst hr
    exact ⟨_, Wk.refl _, .inr rfl, ⟨[], by kernel_rfl, trivial, [.v (.bool false)], by kernel_rfl, by kernel_rfl⟩⟩

theorem s_impl_Flag_mask_L1 (p1 : List (ByteArray × Int)) (n : Nat) (g : Int × Int) (out : Int) (h : m_impl_Flag_mask_L1 p1 n g.1 g.2 = some out) :
    AX Tryd.prog 19 0 (codeAt [1, 1, 0, 1, 1] (bodyOf Tryd.f89)) ((fun g : Int × Int => (⟨[(3, .v (.int .i64 g.1)), (7, .bs false 2 (List.map enc_si p1)), (8, .v (.int .i64 (p1.length : Int))), (9, .v (.int .i64 g.2))], []⟩ : S)) g) (fun ex s => ex = .exit 0 ∧ s = (fun o : Int => (⟨[(3, .v (.int .i64 o))], []⟩ : S)) out) := by
  refine AX.wkpost ?_
  refine AX.loop (G := Nat × (Int × Int)) (fun q => (fun g : Int × Int => (⟨[(3, .v (.int .i64 g.1)), (7, .bs false 2 (List.map enc_si p1)), (8, .v (.int .i64 (p1.length : Int))), (9, .v (.int .i64 g.2))], []⟩ : S)) q.2) (fun q => m_impl_Flag_mask_L1 p1 q.1 q.2.1 q.2.2 = some out) (fun q => q.1) (n, g) h (Wk.refl _) ?_
  clear h
  rintro ⟨fu, v3, v4⟩ h
  cases fu with
  | zero => cases h
  | succ fu =>
    rw [m_impl_Flag_mask_L1] at h
    refine AX.seq ?_
    refine AX.reg (its := []) [3, 7, 8, 9, 10] [] (s1 := ⟨[(3, .v (.int .i64 v3)), (7, .bs false 2 (List.map enc_si p1)), (8, .v (.int .i64 (p1.length : Int))), (9, .v (.int .i64 v4)), (10, .v (.bool (decide (v4 < (p1.length : Int)))))], []⟩) (C := True) (by kernel_rfl) trivial trivial ?_
    refine AX.seq ?_
    rcases bool_cases (decide (v4 < (p1.length : Int))) with b1 | b1
    · replace h := cd_t b1 h
      refine AX.condT (decide (v4 < (p1.length : Int))) (by kernel_rfl) b1 ?_
      refine AX.skip ?_
      refine AX.seq ?_
      refine AX.block ?_
      refine AX.seq ?_
      obtain ⟨g2, h⟩ := gd_e h
      refine AX.reg (its := [.auto { y := some (.be 2 (enc_si (gt p1 v4)) 0) }, .auto {}, .auto { nk := 0 }]) [3, 5, 7, 8, 9] [0] (s1 := ⟨[(3, .v (.int .i64 v3)), (5, .pt 0 0), (7, .bs false 2 (List.map enc_si p1)), (8, .v (.int .i64 (p1.length : Int))), (9, .v (.int .i64 v4))], [(0, .box [.v (.string ((gt p1 v4).1)), .v (.int .i64 ((gt p1 v4).2))])]⟩) (C := ((0 ≤ v4 ∧ v4 < ((List.map enc_si p1).length : Int)) ∧ (AV.be 2 ((List.map enc_si p1).getD v4.toNat []) 0 = AV.be 2 (enc_si (gt p1 v4)) 0)) ∧ True) (by kernel_rfl) ⟨idx_bs enc_si p1 v4 2 g2, trivial⟩ trivial ?_
      refine AX.reg (its := []) [3, 7, 8, 9] [] (s1 := ⟨[(3, .v (.int .i64 (Go.bits .or .i64 v3 ((gt p1 v4).2)))), (7, .bs false 2 (List.map enc_si p1)), (8, .v (.int .i64 (p1.length : Int))), (9, .v (.int .i64 v4))], []⟩) (C := True) (by kernel_rfl) trivial trivial ?_
      refine AX.reg (its := [.auto { raw := true }]) [3, 7, 8, 9] [] (s1 := ⟨[(3, .v (.int .i64 (Go.bits .or .i64 v3 ((gt p1 v4).2)))), (7, .bs false 2 (List.map enc_si p1)), (8, .v (.int .i64 (p1.length : Int))), (9, .v (.int .i64 (IntKind.wrap .i64 (v4 + 1))))], []⟩) (C := True) (by kernel_rfl) trivial trivial ?_
      refine ⟨(fu, (Go.bits .or .i64 v3 ((gt p1 v4).2), IntKind.wrap .i64 (v4 + 1))), h, Nat.lt_succ_self _, ?_⟩
      refine Wk.trans (Wk.forget [3, 7, 8, 9] [] (s' := ⟨[(3, .v (.int .i64 (Go.bits .or .i64 v3 ((gt p1 v4).2)))), (7, .bs false 2 (List.map enc_si p1)), (8, .v (.int .i64 (p1.length : Int))), (9, .v (.int .i64 (IntKind.wrap .i64 (v4 + 1))))], []⟩) (by kernel_rfl)) ?_
      exact Wk.refl _
    · replace h := cd_f b1 h
      refine AX.condF (decide (v4 < (p1.length : Int))) (by kernel_rfl) b1 ?_
      refine AX.exit ?_
      refine fin_wk (Wk.forget [3] [] (s' := ⟨[(3, .v (.int .i64 v3))], []⟩) (by kernel_rfl)) ?_
      have hr := Option.some.inj h
      subst hr
      exact ⟨_, Wk.refl _, ⟨rfl, rfl⟩⟩

theorem s_impl_Flag_mask (p1 : List (ByteArray × Int)) (p2 : Int) (r : Int) (h : m_impl_Flag_mask p1 p2 = some r) :
    Eng.Spec Tryd.prog 89 [.agg [.bs false 2 (List.map enc_si p1), .v (.int .i64 p2)]] [] (.v (.int .i64 r)) [] := by
  unfold m_impl_Flag_mask at h
  refine Eng.Spec.body Tryd.func89 (by kernel_rfl) rfl (by kernel_rfl) ?_
  refine AX.wkpost ?_
  refine AX.seq ?_
  refine AX.reg (its := [.auto { nk := 0 }]) [1] [0] (s1 := ⟨[(1, .pt 0 0)], [(0, .box [.bs false 2 (List.map enc_si p1), .v (.int .i64 p2)])]⟩) (C := True) (by kernel_rfl) trivial trivial ?_
  refine AX.seq ?_
  refine AX.reg (its := []) [1, 3] [0] (s1 := ⟨[(1, .pt 0 0), (3, .v (.int .i64 0))], [(0, .box [.bs false 2 (List.map enc_si p1), .v (.int .i64 p2)])]⟩) (C := True) (by kernel_rfl) trivial trivial ?_
  refine AX.seq ?_
  refine AX.seq ?_
  refine AX.reg (its := [.auto {}, .auto {}, .auto { y := some (.v (.int .i64 (p1.length : Int))) }]) [3, 7, 8, 9] [] (s1 := ⟨[(3, .v (.int .i64 0)), (7, .bs false 2 (List.map enc_si p1)), (8, .v (.int .i64 (p1.length : Int))), (9, .v (.int .i64 0))], []⟩) (C := (True ∧ (AV.v (.int .i64 ((List.map enc_si p1).length : Int)) = AV.v (.int .i64 (p1.length : Int)))) ∧ True) (by kernel_rfl) ⟨⟨trivial, len_map enc_si p1⟩, trivial⟩ trivial ?_
  refine AX.block ?_
  obtain ⟨x5, e3, h⟩ := bd_e h
  refine AX.wk (Wk.forget [3, 7, 8, 9] [] (s' := ⟨[(3, .v (.int .i64 0)), (7, .bs false 2 (List.map enc_si p1)), (8, .v (.int .i64 (p1.length : Int))), (9, .v (.int .i64 0))], []⟩) (by kernel_rfl)) ?_
  refine AX.mono (s_impl_Flag_mask_L1 p1 FU (0, 0) x5 e3) ?_
  rintro _ _ ⟨rfl, rfl⟩
  skip
  refine AX.seq ?_
  refine AX.reg (its := []) [2] [] (s1 := ⟨[(2, .v (.int .i64 x5))], []⟩) (C := True) (by kernel_rfl) trivial trivial ?_
  refine AX.ret ?_
  refine fin_wk (Wk.forget [2] [] (s' := ⟨[(2, .v (.int .i64 x5))], []⟩) (by kernel_rfl)) ?_
  have hr := Option.some.inj h
  subst hr
  exact ⟨_, Wk.refl _, .inr rfl, ⟨[], by kernel_rfl, trivial, [.v (.int .i64 x5)], by kernel_rfl, by kernel_rfl⟩⟩

theorem s_impl_IsValue (p1 : List (ByteArray × Int)) (p2 : Int) (p3 : Int) (r : Bool) (h : m_impl_IsValue p1 p2 p3 = some r) :
    Eng.Spec Tryd.prog 43 [.agg [.bs false 2 (List.map enc_si p1), .v (.int .i64 p2)], .v (.int .i64 p3)] [] (.v (.bool r)) [] := by
  unfold m_impl_IsValue at h
  refine Eng.Spec.body Tryd.func43 (by kernel_rfl) rfl (by kernel_rfl) ?_
  refine AX.wkpost ?_
  refine AX.seq ?_
  refine AX.reg (its := [.auto { nk := 0 }]) [1, 2] [0] (s1 := ⟨[(1, .v (.int .i64 p3)), (2, .pt 0 0)], [(0, .box [.bs false 2 (List.map enc_si p1), .v (.int .i64 p2)])]⟩) (C := True) (by kernel_rfl) trivial trivial ?_
  refine AX.seq ?_
  obtain ⟨x4, e1, h⟩ := bd_e h
  rcases bool_cases (x4) with b2 | b2
  · replace h := cd_t b2 h
    obtain ⟨x5, e3, h⟩ := bd_e h
    rcases bool_cases (x5) with b4 | b4
    · replace h := cd_t b4 h
      rcases bool_cases (decide (p2 = 3)) with b5 | b5
      · replace h := cd_t b5 h
        refine AX.reg (its := [.auto {}, .call 38 [.agg [.bs false 2 (List.map enc_si p1), .v (.int .i64 p2)]] (handO (rho ([] ++ [])) [] [] ++ []) (callEv [] [] (.v (.bool true)) []), .auto {}, .auto {}, .call 42 [.v (.int .i64 p3), .v (.int .i64 0), .v (.int .i64 4095)] (handO (rho ([] ++ [])) [] [] ++ []) (callEv [] [] (.v (.bool true)) []), .auto {}, .auto {}, .auto {}, .auto {}, .auto { y := some (.v (.bool true)) }]) [4] [] (s1 := ⟨[(4, .v (.bool true))], []⟩) (C := ((([.agg [.bs false 2 (List.map enc_si p1), .v (.int .i64 p2)]] : List AV) = [.agg [.bs false 2 (List.map enc_si p1), .v (.int .i64 p2)]]) ∧ True) ∧ ((([.v (.int .i64 p3), .v (.int .i64 0), .v (.int .i64 4095)] : List AV) = [.v (.int .i64 p3), .v (.int .i64 0), .v (.int .i64 4095)]) ∧ True) ∧ ((True) ∧ ((.v (.bool (decide (p2 = 3))) : AV) = (.v (.bool true) : AV))) ∧ True) (by kernel_rfl) ⟨⟨rfl, trivial⟩, ⟨⟨rfl, trivial⟩, ⟨⟨trivial, (congrArg (fun z => AV.v (.bool z)) b5)⟩, trivial⟩⟩⟩ ⟨call_ok (ks := []) (ns := []) (bor := []) (bobjs := []) (show Eng.Spec Tryd.prog 38 [.agg [.bs false 2 (List.map enc_si p1), .v (.int .i64 p2)]] [] (.v (.bool true)) [] from by have q := s_impl_ValidFlag p1 p2 x4 e1; rw [b2] at q; exact q) (.cons (.c1 (.agg (.cons (.same _ (by kernel_rfl) (by kernel_rfl)) (.cons (.same _ (by kernel_rfl) (by kernel_rfl)) (.nil))))) (.nil)) (by kernel_rfl) trivial, ⟨call_ok (ks := []) (ns := []) (bor := []) (bobjs := []) (show Eng.Spec Tryd.prog 42 [.v (.int .i64 p3), .v (.int .i64 0), .v (.int .i64 4095)] [] (.v (.bool true)) [] from by have q := s_impl_in p3 0 4095 x5 e3; rw [b4] at q; exact q) (.cons (.c1 (.c0 (.same _ (by kernel_rfl) (by kernel_rfl)))) (.cons (.c1 (.c0 (.same _ (by kernel_rfl) (by kernel_rfl)))) (.cons (.c1 (.c0 (.same _ (by kernel_rfl) (by kernel_rfl)))) (.nil)))) (by kernel_rfl) trivial, trivial⟩⟩ ?_
        refine AX.ret ?_
        refine fin_wk (Wk.forget [4] [] (s' := ⟨[(4, .v (.bool true))], []⟩) (by kernel_rfl)) ?_
        have hr := Option.some.inj h
        subst hr
        exact ⟨_, Wk.refl _, .inr rfl, ⟨[], by kernel_rfl, trivial, [.v (.bool true)], by kernel_rfl, by kernel_rfl⟩⟩
      · replace h := cd_f b5 h
        obtain ⟨x6, e6, h⟩ := bd_e h
        refine AX.reg (its := [.auto {}, .call 38 [.agg [.bs false 2 (List.map enc_si p1), .v (.int .i64 p2)]] (handO (rho ([] ++ [])) [] [] ++ []) (callEv [] [] (.v (.bool true)) []), .auto {}, .auto {}, .call 42 [.v (.int .i64 p3), .v (.int .i64 0), .v (.int .i64 4095)] (handO (rho ([] ++ [])) [] [] ++ []) (callEv [] [] (.v (.bool true)) []), .auto {}, .auto {}, .auto {}, .auto {}, .auto { y := some (.v (.bool false)) }, .auto {}, .auto {}, .auto {}, .call 89 [.agg [.bs false 2 (List.map enc_si p1), .v (.int .i64 p2)]] (handO (rho ([] ++ [])) [] [] ++ []) (callEv [] [] (.v (.int .i64 x6)) [])]) [4] [] (s1 := ⟨[(4, .v (.bool (decide ((Go.bits .andNot .i64 p3 x6) = 0))))], []⟩) (C := ((([.agg [.bs false 2 (List.map enc_si p1), .v (.int .i64 p2)]] : List AV) = [.agg [.bs false 2 (List.map enc_si p1), .v (.int .i64 p2)]]) ∧ True) ∧ ((([.v (.int .i64 p3), .v (.int .i64 0), .v (.int .i64 4095)] : List AV) = [.v (.int .i64 p3), .v (.int .i64 0), .v (.int .i64 4095)]) ∧ True) ∧ ((True) ∧ ((.v (.bool (decide (p2 = 3))) : AV) = (.v (.bool false) : AV))) ∧ ((([.agg [.bs false 2 (List.map enc_si p1), .v (.int .i64 p2)]] : List AV) = [.agg [.bs false 2 (List.map enc_si p1), .v (.int .i64 p2)]]) ∧ True) ∧ True) (by kernel_rfl) ⟨⟨rfl, trivial⟩, ⟨⟨rfl, trivial⟩, ⟨⟨trivial, (congrArg (fun z => AV.v (.bool z)) b5)⟩, ⟨⟨rfl, trivial⟩, trivial⟩⟩⟩⟩ ⟨call_ok (ks := []) (ns := []) (bor := []) (bobjs := []) (show Eng.Spec Tryd.prog 38 [.agg [.bs false 2 (List.map enc_si p1), .v (.int .i64 p2)]] [] (.v (.bool true)) [] from by have q := s_impl_ValidFlag p1 p2 x4 e1; rw [b2] at q; exact q) (.cons (.c1 (.agg (.cons (.same _ (by kernel_rfl) (by kernel_rfl)) (.cons (.same _ (by kernel_rfl) (by kernel_rfl)) (.nil))))) (.nil)) (by kernel_rfl) trivial, ⟨call_ok (ks := []) (ns := []) (bor := []) (bobjs := []) (show Eng.Spec Tryd.prog 42 [.v (.int .i64 p3), .v (.int .i64 0), .v (.int .i64 4095)] [] (.v (.bool true)) [] from by have q := s_impl_in p3 0 4095 x5 e3; rw [b4] at q; exact q) (.cons (.c1 (.c0 (.same _ (by kernel_rfl) (by kernel_rfl)))) (.cons (.c1 (.c0 (.same _ (by kernel_rfl) (by kernel_rfl)))) (.cons (.c1 (.c0 (.same _ (by kernel_rfl) (by kernel_rfl)))) (.nil)))) (by kernel_rfl) trivial, ⟨call_ok (ks := []) (ns := []) (bor := []) (bobjs := []) (s_impl_Flag_mask p1 p2 x6 e6) (.cons (.c1 (.agg (.cons (.same _ (by kernel_rfl) (by kernel_rfl)) (.cons (.same _ (by kernel_rfl) (by kernel_rfl)) (.nil))))) (.nil)) (by kernel_rfl) trivial, trivial⟩⟩⟩ ?_
        refine AX.ret ?_
        refine fin_wk (Wk.forget [4] [] (s' := ⟨[(4, .v (.bool (decide ((Go.bits .andNot .i64 p3 x6) = 0))))], []⟩) (by kernel_rfl)) ?_
        have hr := Option.some.inj h
        subst hr
        exact ⟨_, Wk.refl _, .inr rfl, ⟨[], by kernel_rfl, trivial, [.v (.bool (decide ((Go.bits .andNot .i64 p3 x6) = 0)))], by kernel_rfl, by kernel_rfl⟩⟩
    · replace h := cd_f b4 h
      refine AX.reg (its := [.auto {}, .call 38 [.agg [.bs false 2 (List.map enc_si p1), .v (.int .i64 p2)]] (handO (rho ([] ++ [])) [] [] ++ []) (callEv [] [] (.v (.bool true)) []), .auto {}, .auto {}, .call 42 [.v (.int .i64 p3), .v (.int .i64 0), .v (.int .i64 4095)] (handO (rho ([] ++ [])) [] [] ++ []) (callEv [] [] (.v (.bool false)) [])]) [4] [] (s1 := ⟨[(4, .v (.bool false))], []⟩) (C := ((([.agg [.bs false 2 (List.map enc_si p1), .v (.int .i64 p2)]] : List AV) = [.agg [.bs false 2 (List.map enc_si p1), .v (.int .i64 p2)]]) ∧ True) ∧ ((([.v (.int .i64 p3), .v (.int .i64 0), .v (.int .i64 4095)] : List AV) = [.v (.int .i64 p3), .v (.int .i64 0), .v (.int .i64 4095)]) ∧ True) ∧ True) (by kernel_rfl) ⟨⟨rfl, trivial⟩, ⟨⟨rfl, trivial⟩, trivial⟩⟩ ⟨call_ok (ks := []) (ns := []) (bor := []) (bobjs := []) (show Eng.Spec Tryd.prog 38 [.agg [.bs false 2 (List.map enc_si p1), .v (.int .i64 p2)]] [] (.v (.bool true)) [] from by have q := s_impl_ValidFlag p1 p2 x4 e1; rw [b2] at q; exact q) (.cons (.c1 (.agg (.cons (.same _ (by kernel_rfl) (by kernel_rfl)) (.cons (.same _ (by kernel_rfl) (by kernel_rfl)) (.nil))))) (.nil)) (by kernel_rfl) trivial, ⟨call_ok (ks := []) (ns := []) (bor := []) (bobjs := []) (show Eng.Spec Tryd.prog 42 [.v (.int .i64 p3), .v (.int .i64 0), .v (.int .i64 4095)] [] (.v (.bool false)) [] from by have q := s_impl_in p3 0 4095 x5 e3; rw [b4] at q; exact q) (.cons (.c1 (.c0 (.same _ (by kernel_rfl) (by kernel_rfl)))) (.cons (.c1 (.c0 (.same _ (by kernel_rfl) (by kernel_rfl)))) (.cons (.c1 (.c0 (.same _ (by kernel_rfl) (by kernel_rfl)))) (.nil)))) (by kernel_rfl) trivial, trivial⟩⟩ ?_
      refine AX.ret ?_
      refine fin_wk (Wk.forget [4] [] (s' := ⟨[(4, .v (.bool false))], []⟩) (by kernel_rfl)) ?_
      have hr := Option.some.inj h
      subst hr
      exact ⟨_, Wk.refl _, .inr rfl, ⟨[], by kernel_rfl, trivial, [.v (.bool false)], by kernel_rfl, by kernel_rfl⟩⟩
  · replace h := cd_f b2 h
    refine AX.reg (its := [.auto {}, .call 38 [.agg [.bs false 2 (List.map enc_si p1), .v (.int .i64 p2)]] (handO (rho ([] ++ [])) [] [] ++ []) (callEv [] [] (.v (.bool false)) [])]) [4] [] (s1 := ⟨[(4, .v (.bool false))], []⟩) (C := ((([.agg [.bs false 2 (List.map enc_si p1), .v (.int .i64 p2)]] : List AV) = [.agg [.bs false 2 (List.map enc_si p1), .v (.int .i64 p2)]]) ∧ True) ∧ True) (by kernel_rfl) ⟨⟨rfl, trivial⟩, trivial⟩ ⟨call_ok (ks := []) (ns := []) (bor := []) (bobjs := []) (show Eng.Spec Tryd.prog 38 [.agg [.bs false 2 (List.map enc_si p1), .v (.int .i64 p2)]] [] (.v (.bool false)) [] from by have q := s_impl_ValidFlag p1 p2 x4 e1; rw [b2] at q; exact q) (.cons (.c1 (.agg (.cons (.same _ (by kernel_rfl) (by kernel_rfl)) (.cons (.same _ (by kernel_rfl) (by kernel_rfl)) (.nil))))) (.nil)) (by kernel_rfl) trivial, trivial⟩ ?_
    refine AX.ret ?_
    refine fin_wk (Wk.forget [4] [] (s' := ⟨[(4, .v (.bool false))], []⟩) (by kernel_rfl)) ?_
    have hr := Option.some.inj h
    subst hr
    exact ⟨_, Wk.refl _, .inr rfl, ⟨[], by kernel_rfl, trivial, [.v (.bool false)], by kernel_rfl, by kernel_rfl⟩⟩

theorem s_slices_Clone_si (p1 : List (ByteArray × Int)) (r : List (ByteArray × Int)) (h : m_slices_Clone_si p1 = some r) :
    Eng.Spec Tryd.prog 150 [.bs false 2 (List.map enc_si p1)] [] (.sl 0 0 r.length) [.arr 2 (List.map enc_si r)] := by
  unfold m_slices_Clone_si at h
  obtain ⟨g1, h⟩ := gd_e h
  have hr := Option.some.inj h
  subst hr
  refine Eng.Spec.body Tryd.func150 (by kernel_rfl) rfl (by kernel_rfl) ?_
  refine AX.wkpost ?_
  refine AX.seq ?_
  refine AX.reg (its := []) [0] [] (s1 := ⟨[(0, .bs false 2 (List.map enc_si p1))], []⟩) (C := True) (by kernel_rfl) trivial trivial ?_
  refine AX.nilEq (l := false) (sz := 2) (es := (List.map enc_si p1)) (s0 := (⟨[(2, .sl 1 0 p1.length)], [(1, .arr 2 (List.map enc_si p1))]⟩ : S)) .ret rfl rfl rfl rfl rfl rfl Tryd.underlying28 (by kernel_rfl) (by kernel_rfl) (by kernel_rfl) ⟨_, Wk.refl _, .inr rfl, ⟨[1], by kernel_rfl, ⟨rfl, trivial⟩, [.sl 1 0 p1.length], by kernel_rfl, by kernel_rfl⟩⟩ ?_
  intro b hb
  rcases bool_cases b with h1 | h1
  · subst h1
    have hp : p1 = [] := by simpa using hb rfl
    subst hp
    refine AX.condT true (by kernel_rfl) rfl ?_
    refine AX.seq ?_
    refine AX.reg (its := []) [2] [] (s1 := ⟨[(2, .v (.slice none 0 0))], []⟩) (C := True) (by kernel_rfl) trivial trivial ?_
    refine AX.wk (Wk.mat 2 1 2 (by kernel_rfl) (Nat.le_of_ble_eq_true (by kernel_rfl)) (by kernel_rfl) rfl) ?_
    refine AX.wk (Wk.forget [2] [1] (s' := ⟨[(2, .sl 1 0 0)], [(1, .arr 2 [])]⟩) (by kernel_rfl)) ?_
    exact AX.ret ⟨rfl, rfl⟩
  · subst h1
    refine AX.condF false (by kernel_rfl) rfl ?_
    refine AX.skip ?_
    refine AX.seq ?_
    refine AX.reg (its := [.auto { nk := 0 }, .auto {}, .auto { y := some (.sl 1 0 p1.length), nk := 1 }]) [2] [1] (s1 := ⟨[(2, .sl 1 0 p1.length)], [(1, .arr 2 (List.map enc_si p1))]⟩) (C := ((((True) ∧ (True)) ∧ (([] : List (List Value)).length + (List.map enc_si p1).length ≤ 1099511627776)) ∧ (AV.sl 1 0 (List.map enc_si p1).length = AV.sl 1 0 p1.length)) ∧ True) (by kernel_rfl) ⟨⟨⟨⟨trivial, trivial⟩, by simpa using g1⟩, sl_len (enc := enc_si) rfl⟩, trivial⟩ trivial ?_
    exact AX.ret ⟨rfl, rfl⟩

theorem s_impl_Flag_fitting_1_l (p1 : ByteArray) (p2 : Int) (p3 : Int) (r : Bool) (h : m_impl_Flag_fitting_1_l p1 p2 p3 = some r) :
    Eng.Spec Tryd.prog 151 [.agg [.v (.string p1), .v (.int .i64 p2)], .bp [.v (.int .i64 p3)] 0] [] (.v (.bool r)) [] := by
  unfold m_impl_Flag_fitting_1_l at h
  refine Eng.Spec.body Tryd.func151 (by kernel_rfl) rfl (by kernel_rfl) ?_
  refine AX.wkpost ?_
  refine AX.seq ?_
  refine AX.reg (its := [.auto { nk := 0 }]) [1, 2] [0] (s1 := ⟨[(1, .bp [.v (.int .i64 p3)] 0), (2, .pt 0 0)], [(0, .box [.v (.string p1), .v (.int .i64 p2)])]⟩) (C := True) (by kernel_rfl) trivial trivial ?_
  refine AX.seq ?_
  rcases bool_cases (decide (p2 = 0)) with b1 | b1
  · replace h := cd_t b1 h
    refine AX.reg (its := [.auto {}, .auto {}, .auto { y := some (.v (.bool true)) }]) [3] [] (s1 := ⟨[(3, .v (.bool true))], []⟩) (C := ((True) ∧ ((.v (.bool (decide (p2 = 0))) : AV) = (.v (.bool true) : AV))) ∧ True) (by kernel_rfl) ⟨⟨trivial, (congrArg (fun z => AV.v (.bool z)) b1)⟩, trivial⟩ trivial ?_
    refine AX.ret ?_
    refine fin_wk (Wk.forget [3] [] (s' := ⟨[(3, .v (.bool true))], []⟩) (by kernel_rfl)) ?_
    have hr := Option.some.inj h
    subst hr
    exact ⟨_, Wk.refl _, .inr rfl, ⟨[], by kernel_rfl, trivial, [.v (.bool true)], by kernel_rfl, by kernel_rfl⟩⟩
  · replace h := cd_f b1 h
    refine AX.reg (its := [.auto {}, .auto {}, .auto { y := some (.v (.bool false)) }]) [3] [] (s1 := ⟨[(3, .v (.bool (!decide ((Go.bits .andNot .i64 p2 p3) = 0))))], []⟩) (C := ((True) ∧ ((.v (.bool (decide (p2 = 0))) : AV) = (.v (.bool false) : AV))) ∧ True) (by kernel_rfl) ⟨⟨trivial, (congrArg (fun z => AV.v (.bool z)) b1)⟩, trivial⟩ trivial ?_
    refine AX.ret ?_
    refine fin_wk (Wk.forget [3] [] (s' := ⟨[(3, .v (.bool (!decide ((Go.bits .andNot .i64 p2 p3) = 0))))], []⟩) (by kernel_rfl)) ?_
    have hr := Option.some.inj h
    subst hr
    exact ⟨_, Wk.refl _, .inr rfl, ⟨[], by kernel_rfl, trivial, [.v (.bool (!decide ((Go.bits .andNot .i64 p2 p3) = 0)))], by kernel_rfl, by kernel_rfl⟩⟩

theorem s_slices_IndexFunc_si_Flag_fitting_1_l_L1 (p1 : List (ByteArray × Int)) (p2 : Int) (n : Nat) (g : Int) (out : Int ⊕ Unit) (h : m_slices_IndexFunc_si_Flag_fitting_1_l_L1 p1 p2 n g = some out) :
    AX Tryd.prog 19 0 (codeAt [1, 0, 1, 1] (bodyOf Tryd.f86)) ((fun g : Int => (⟨[(0, .bs false 2 (List.map enc_si p1)), (1, .fn 151 [.bp [.v (.int .i64 p2)] 0]), (7, .v (.int .i64 (p1.length : Int))), (8, .v (.int .i64 g))], []⟩ : S)) g) (fun ex s => (∃ o : Int, out = Sum.inl o ∧ ex = .ret ∧ s = ⟨[(4, .v (.int .i64 o))], []⟩) ∨ (∃ o : Unit, out = Sum.inr o ∧ ex = .exit 0 ∧ s = ⟨[], []⟩)) := by
  refine AX.wkpost ?_
  refine AX.loop (G := Nat × (Int)) (fun q => (fun g : Int => (⟨[(0, .bs false 2 (List.map enc_si p1)), (1, .fn 151 [.bp [.v (.int .i64 p2)] 0]), (7, .v (.int .i64 (p1.length : Int))), (8, .v (.int .i64 g))], []⟩ : S)) q.2) (fun q => m_slices_IndexFunc_si_Flag_fitting_1_l_L1 p1 p2 q.1 q.2 = some out) (fun q => q.1) (n, g) h (Wk.refl _) ?_
  clear h
  rintro ⟨fu, v3⟩ h
  cases fu with
  | zero => cases h
  | succ fu =>
    rw [m_slices_IndexFunc_si_Flag_fitting_1_l_L1] at h
    refine AX.seq ?_
    refine AX.reg (its := []) [0, 1, 7, 8, 9] [] (s1 := ⟨[(0, .bs false 2 (List.map enc_si p1)), (1, .fn 151 [.bp [.v (.int .i64 p2)] 0]), (7, .v (.int .i64 (p1.length : Int))), (8, .v (.int .i64 v3)), (9, .v (.bool (decide (v3 < (p1.length : Int)))))], []⟩) (C := True) (by kernel_rfl) trivial trivial ?_
    refine AX.seq ?_
    rcases bool_cases (decide (v3 < (p1.length : Int))) with b1 | b1
    · replace h := cd_t b1 h
      refine AX.condT (decide (v3 < (p1.length : Int))) (by kernel_rfl) b1 ?_
      refine AX.skip ?_
      refine AX.seq ?_
      refine AX.block ?_
      refine AX.seq ?_
      refine AX.reg (its := []) [0, 1, 5, 7, 8] [] (s1 := ⟨[(0, .bs false 2 (List.map enc_si p1)), (1, .fn 151 [.bp [.v (.int .i64 p2)] 0]), (5, .v (.int .i64 v3)), (7, .v (.int .i64 (p1.length : Int))), (8, .v (.int .i64 v3))], []⟩) (C := True) (by kernel_rfl) trivial trivial ?_
      refine AX.seq ?_
      obtain ⟨g2, h⟩ := gd_e h
      obtain ⟨x4, e3, h⟩ := bd_e h
      refine AX.reg (its := [.auto {}, .auto {}, .auto {}, .auto { y := some (.be 2 (enc_si (gt p1 v3)) 0) }, .auto {}, .call 151 [.agg [.v (.string ((gt p1 v3).1)), .v (.int .i64 ((gt p1 v3).2))], .bp [.v (.int .i64 p2)] 0] (handO (rho ([] ++ [])) [] [] ++ []) (callEv [] [] (.v (.bool x4)) [])]) [0, 1, 5, 7, 8, 16] [] (s1 := ⟨[(0, .bs false 2 (List.map enc_si p1)), (1, .fn 151 [.bp [.v (.int .i64 p2)] 0]), (5, .v (.int .i64 v3)), (7, .v (.int .i64 (p1.length : Int))), (8, .v (.int .i64 v3)), (16, .v (.bool x4))], []⟩) (C := ((0 ≤ v3 ∧ v3 < ((List.map enc_si p1).length : Int)) ∧ (AV.be 2 ((List.map enc_si p1).getD v3.toNat []) 0 = AV.be 2 (enc_si (gt p1 v3)) 0)) ∧ ((([.agg [.v (.string ((gt p1 v3).1)), .v (.int .i64 ((gt p1 v3).2))], .bp [.v (.int .i64 p2)] 0] : List AV) = [.agg [.v (.string ((gt p1 v3).1)), .v (.int .i64 ((gt p1 v3).2))], .bp [.v (.int .i64 p2)] 0]) ∧ True) ∧ True) (by kernel_rfl) ⟨idx_bs enc_si p1 v3 2 g2, ⟨⟨rfl, trivial⟩, trivial⟩⟩ ⟨call_ok (ks := []) (ns := []) (bor := []) (bobjs := []) (s_impl_Flag_fitting_1_l ((gt p1 v3).1) ((gt p1 v3).2) p2 x4 e3) (.cons (.c1 (.agg (.cons (.same _ (by kernel_rfl) (by kernel_rfl)) (.cons (.same _ (by kernel_rfl) (by kernel_rfl)) (.nil))))) (.cons (.c1 (.bp (.cons (.same _ (by kernel_rfl) (by kernel_rfl)) (.nil)))) (.nil))) (by kernel_rfl) trivial, trivial⟩ ?_
      rcases bool_cases (x4) with b4 | b4
      · replace h := cd_t b4 h
        refine AX.condT (x4) (by kernel_rfl) b4 ?_
        refine AX.seq ?_
        refine AX.reg (its := []) [4] [] (s1 := ⟨[(4, .v (.int .i64 v3))], []⟩) (C := True) (by kernel_rfl) trivial trivial ?_
        refine AX.ret ?_
        refine fin_wk (Wk.forget [4] [] (s' := ⟨[(4, .v (.int .i64 v3))], []⟩) (by kernel_rfl)) ?_
        have hr := Option.some.inj h
        subst hr
        exact ⟨_, Wk.refl _, .inl ⟨v3, rfl, rfl, rfl⟩⟩
      · replace h := cd_f b4 h
        refine AX.condF (x4) (by kernel_rfl) b4 ?_
        refine AX.skip ?_
        refine AX.reg (its := [.auto { raw := true }]) [0, 1, 7, 8] [] (s1 := ⟨[(0, .bs false 2 (List.map enc_si p1)), (1, .fn 151 [.bp [.v (.int .i64 p2)] 0]), (7, .v (.int .i64 (p1.length : Int))), (8, .v (.int .i64 (IntKind.wrap .i64 (v3 + 1))))], []⟩) (C := True) (by kernel_rfl) trivial trivial ?_
        refine ⟨(fu, IntKind.wrap .i64 (v3 + 1)), h, Nat.lt_succ_self _, ?_⟩
        refine Wk.trans (Wk.forget [0, 1, 7, 8] [] (s' := ⟨[(0, .bs false 2 (List.map enc_si p1)), (1, .fn 151 [.bp [.v (.int .i64 p2)] 0]), (7, .v (.int .i64 (p1.length : Int))), (8, .v (.int .i64 (IntKind.wrap .i64 (v3 + 1))))], []⟩) (by kernel_rfl)) ?_
        exact Wk.refl _
    · replace h := cd_f b1 h
      refine AX.condF (decide (v3 < (p1.length : Int))) (by kernel_rfl) b1 ?_
      refine AX.exit ?_
      refine fin_wk (Wk.forget [] [] (s' := ⟨[], []⟩) (by kernel_rfl)) ?_
      have hr := Option.some.inj h
      subst hr
      exact ⟨_, Wk.refl _, .inr ⟨(), rfl, rfl, rfl⟩⟩

theorem s_slices_IndexFunc_si_Flag_fitting_1_l (p1 : List (ByteArray × Int)) (p2 : Int) (r : Int) (h : m_slices_IndexFunc_si_Flag_fitting_1_l p1 p2 = some r) :
    Eng.Spec Tryd.prog 86 [.bs false 2 (List.map enc_si p1), .fn 151 [.bp [.v (.int .i64 p2)] 0]] [] (.v (.int .i64 r)) [] := by
  unfold m_slices_IndexFunc_si_Flag_fitting_1_l at h
  refine Eng.Spec.body Tryd.func86 (by kernel_rfl) rfl (by kernel_rfl) ?_
  refine AX.wkpost ?_
  refine AX.seq ?_
  refine AX.reg (its := []) [0, 1] [] (s1 := ⟨[(0, .bs false 2 (List.map enc_si p1)), (1, .fn 151 [.bp [.v (.int .i64 p2)] 0])], []⟩) (C := True) (by kernel_rfl) trivial trivial ?_
  refine AX.seq ?_
  refine AX.seq ?_
  refine AX.reg (its := [.auto {}, .auto { y := some (.v (.int .i64 (p1.length : Int))) }]) [0, 1, 7, 8] [] (s1 := ⟨[(0, .bs false 2 (List.map enc_si p1)), (1, .fn 151 [.bp [.v (.int .i64 p2)] 0]), (7, .v (.int .i64 (p1.length : Int))), (8, .v (.int .i64 0))], []⟩) (C := (True ∧ (AV.v (.int .i64 ((List.map enc_si p1).length : Int)) = AV.v (.int .i64 (p1.length : Int)))) ∧ True) (by kernel_rfl) ⟨⟨trivial, len_map enc_si p1⟩, trivial⟩ trivial ?_
  refine AX.block ?_
  obtain ⟨x5, e5, h⟩ := bd_e h
  refine AX.wk (Wk.forget [0, 1, 7, 8] [] (s' := ⟨[(0, .bs false 2 (List.map enc_si p1)), (1, .fn 151 [.bp [.v (.int .i64 p2)] 0]), (7, .v (.int .i64 (p1.length : Int))), (8, .v (.int .i64 0))], []⟩) (by kernel_rfl)) ?_
  refine AX.mono (s_slices_IndexFunc_si_Flag_fitting_1_l_L1 p1 p2 FU 0 x5 e5) ?_
  rintro _ _ (⟨x6, rfl, rfl, rfl⟩ | ⟨x7, rfl, rfl, rfl⟩)
  · replace h := sm_l h
    refine fin_wk (Wk.forget [4] [] (s' := ⟨[(4, .v (.int .i64 x6))], []⟩) (by kernel_rfl)) ?_
    have hr := Option.some.inj h
    subst hr
    exact ⟨_, Wk.refl _, .inr rfl, ⟨[], by kernel_rfl, trivial, [.v (.int .i64 x6)], by kernel_rfl, by kernel_rfl⟩⟩
  · replace h := sm_r h
    refine AX.seq ?_
    refine AX.reg (its := []) [4] [] (s1 := ⟨[(4, .v (.int .i64 (-1)))], []⟩) (C := True) (by kernel_rfl) trivial trivial ?_
    refine AX.ret ?_
    refine fin_wk (Wk.forget [4] [] (s' := ⟨[(4, .v (.int .i64 (-1)))], []⟩) (by kernel_rfl)) ?_
    have hr := Option.some.inj h
    subst hr
    exact ⟨_, Wk.refl _, .inr rfl, ⟨[], by kernel_rfl, trivial, [.v (.int .i64 (-1))], by kernel_rfl, by kernel_rfl⟩⟩

theorem s_slices_DeleteFunc_h_Flag_fitting_1_si_L1 (p2 : Int) (n : Nat) (g : Int × Int × (List (ByteArray × Int))) (out : Int × (List (ByteArray × Int))) (h : m_slices_DeleteFunc_h_Flag_fitting_1_si_L1 p2 n g.1 g.2.1 g.2.2 = some out) :
    AX Tryd.prog 42 2 (codeAt [1, 1, 1, 0, 1, 1] (bodyOf Tryd.f149)) ((fun g : Int × Int × (List (ByteArray × Int)) => (⟨[(0, .sl 0 0 g.2.2.length), (1, .fn 151 [.pt 1 0]), (5, .v (.int .i64 g.1)), (6, .v (.int .i64 g.2.1))], [(0, .arr 2 (List.map enc_si g.2.2)), (1, .box [.v (.int .i64 p2)])]⟩ : S)) g) (fun ex s => ex = .exit 0 ∧ s = (fun o : Int × (List (ByteArray × Int)) => (⟨[(0, .sl 0 0 o.2.length), (5, .v (.int .i64 o.1))], [(0, .arr 2 (List.map enc_si o.2)), (1, .box [.v (.int .i64 p2)])]⟩ : S)) out) := by
  refine AX.wkpost ?_
  refine AX.loop (G := Nat × (Int × Int × (List (ByteArray × Int)))) (fun q => (fun g : Int × Int × (List (ByteArray × Int)) => (⟨[(0, .sl 0 0 g.2.2.length), (1, .fn 151 [.pt 1 0]), (5, .v (.int .i64 g.1)), (6, .v (.int .i64 g.2.1))], [(0, .arr 2 (List.map enc_si g.2.2)), (1, .box [.v (.int .i64 p2)])]⟩ : S)) q.2) (fun q => m_slices_DeleteFunc_h_Flag_fitting_1_si_L1 p2 q.1 q.2.1 q.2.2.1 q.2.2.2 = some out) (fun q => q.1) (n, g) h (Wk.refl _) ?_
  clear h
  rintro ⟨fu, v4, v5, v6⟩ h
  cases fu with
  | zero => cases h
  | succ fu =>
    rw [m_slices_DeleteFunc_h_Flag_fitting_1_si_L1] at h
    refine AX.seq ?_
    refine AX.seq ?_
    refine AX.reg (its := []) [0, 1, 5, 6, 19] [0, 1] (s1 := ⟨[(0, .sl 0 0 v6.length), (1, .fn 151 [.pt 1 0]), (5, .v (.int .i64 v4)), (6, .v (.int .i64 v5)), (19, .v (.bool (decide (v5 < (v6.length : Int)))))], [(0, .arr 2 (List.map enc_si v6)), (1, .box [.v (.int .i64 p2)])]⟩) (C := True) (by kernel_rfl) trivial trivial ?_
    rcases bool_cases (decide (v5 < (v6.length : Int))) with b3 | b3
    · replace h := cd_t b3 h
      refine AX.condT (decide (v5 < (v6.length : Int))) (by kernel_rfl) b3 ?_
      refine AX.skip ?_
      refine AX.seq ?_
      refine AX.block ?_
      refine AX.seq ?_
      obtain ⟨g4, h⟩ := gd_e h
      refine AX.reg (its := [.auto {}, .auto {}, .auto {}, .auto { y := some (.agg [.v (.string ((gt v6 v5).1)), .v (.int .i64 ((gt v6 v5).2))]) }, .auto { nk := 2 }]) [0, 1, 5, 6, 7] [0, 1, 2] (s1 := ⟨[(0, .sl 0 0 v6.length), (1, .fn 151 [.pt 1 0]), (5, .v (.int .i64 v4)), (6, .v (.int .i64 v5)), (7, .pt 2 0)], [(0, .arr 2 (List.map enc_si v6)), (1, .box [.v (.int .i64 p2)]), (2, .box [.v (.string ((gt v6 v5).1)), .v (.int .i64 ((gt v6 v5).2))])]⟩) (C := (0 ≤ v5 ∧ v5 < (v6.length : Int)) ∧ (True ∧ (AV.agg ((((List.map enc_si v6).getD (0 + v5.toNat) []).drop 0 |>.take 2).map .v) = .agg [.v (.string ((gt v6 v5).1)), .v (.int .i64 ((gt v6 v5).2))])) ∧ True) (by kernel_rfl) ⟨g4, ⟨⟨trivial, (congrArg (fun z : List Value => AV.agg (((z.drop 0).take 2).map .v)) (idx_arr (enc := enc_si) rfl g4))⟩, trivial⟩⟩ trivial ?_
      refine AX.seq ?_
      obtain ⟨x7, e5, h⟩ := bd_e h
      refine AX.reg (its := [.auto {}, .auto {}, .call 151 [.agg [.v (.string ((gt v6 v5).1)), .v (.int .i64 ((gt v6 v5).2))], .pt 1 0] (handO (rho ([] ++ [])) [] [] ++ [(1, .box [.v (.int .i64 p2)])]) (callEv [] [] (.v (.bool x7)) [])]) [0, 1, 5, 6, 7, 29] [0, 1, 2] (s1 := ⟨[(0, .sl 0 0 v6.length), (1, .fn 151 [.pt 1 0]), (5, .v (.int .i64 v4)), (6, .v (.int .i64 v5)), (7, .pt 2 0), (29, .v (.bool (!x7)))], [(0, .arr 2 (List.map enc_si v6)), (1, .box [.v (.int .i64 p2)]), (2, .box [.v (.string ((gt v6 v5).1)), .v (.int .i64 ((gt v6 v5).2))])]⟩) (C := ((([.agg [.v (.string ((gt v6 v5).1)), .v (.int .i64 ((gt v6 v5).2))], .pt 1 0] : List AV) = [.agg [.v (.string ((gt v6 v5).1)), .v (.int .i64 ((gt v6 v5).2))], .pt 1 0]) ∧ (AO.box [.v (.int .i64 p2)] = AO.box [.v (.int .i64 p2)]) ∧ True) ∧ True) (by kernel_rfl) ⟨⟨rfl, rfl, trivial⟩, trivial⟩ ⟨call_ok (ks := []) (ns := []) (bor := [1]) (bobjs := [(1, .box [.v (.int .i64 p2)])]) (s_impl_Flag_fitting_1_l ((gt v6 v5).1) ((gt v6 v5).2) p2 x7 e5) (.cons (.c1 (.agg (.cons (.same _ (by kernel_rfl) (by kernel_rfl)) (.cons (.same _ (by kernel_rfl) (by kernel_rfl)) (.nil))))) (.cons (.c1 (.box rfl rfl (.cons (.same _ (by kernel_rfl) (by kernel_rfl)) (.nil)))) (.nil))) (by kernel_rfl) trivial, trivial⟩ ?_
      rcases bool_cases ((!x7)) with b6 | b6
      · replace h := cd_t b6 h
        refine AX.condT ((!x7)) (by kernel_rfl) b6 ?_
        refine AX.seq ?_
        obtain ⟨g7, h⟩ := gd_e h
        refine AX.reg (its := []) [0, 1, 5, 6] [0, 1] (s1 := ⟨[(0, .sl 0 0 v6.length), (1, .fn 151 [.pt 1 0]), (5, .v (.int .i64 v4)), (6, .v (.int .i64 v5))], [(0, .arr 2 ((List.map enc_si v6).set (0 + v4.toNat) [(.string ((gt v6 v5).1)), (.int .i64 ((gt v6 v5).2))])), (1, .box [.v (.int .i64 p2)])]⟩) (C := (0 ≤ v4 ∧ v4 < (v6.length : Int)) ∧ True) (by kernel_rfl) ⟨g7, trivial⟩ trivial ?_
        refine AX.reg (its := [.auto {}, .auto { raw := true }]) [0, 1, 5, 6] [0, 1] (s1 := ⟨[(0, .sl 0 0 v6.length), (1, .fn 151 [.pt 1 0]), (5, .v (.int .i64 (IntKind.wrap .i64 (v4 + 1)))), (6, .v (.int .i64 v5))], [(0, .arr 2 ((List.map enc_si v6).set (0 + v4.toNat) [(.string ((gt v6 v5).1)), (.int .i64 ((gt v6 v5).2))])), (1, .box [.v (.int .i64 p2)])]⟩) (C := True) (by kernel_rfl) trivial trivial ?_
        refine AX.reg (its := [.auto {}, .auto { raw := true }]) [0, 1, 5, 6] [0, 1] (s1 := ⟨[(0, .sl 0 0 v6.length), (1, .fn 151 [.pt 1 0]), (5, .v (.int .i64 (IntKind.wrap .i64 (v4 + 1)))), (6, .v (.int .i64 (IntKind.wrap .i64 (v5 + 1))))], [(0, .arr 2 ((List.map enc_si v6).set (0 + v4.toNat) [(.string ((gt v6 v5).1)), (.int .i64 ((gt v6 v5).2))])), (1, .box [.v (.int .i64 p2)])]⟩) (C := True) (by kernel_rfl) trivial trivial ?_
        refine ⟨(fu, (IntKind.wrap .i64 (v4 + 1), IntKind.wrap .i64 (v5 + 1), v6.set (0 + v4.toNat) ((gt v6 v5).1, (gt v6 v5).2))), h, Nat.lt_succ_self _, ?_⟩
        refine Wk.trans (Wk.forget [0, 1, 5, 6] [0, 1] (s' := ⟨[(0, .sl 0 0 v6.length), (1, .fn 151 [.pt 1 0]), (5, .v (.int .i64 (IntKind.wrap .i64 (v4 + 1)))), (6, .v (.int .i64 (IntKind.wrap .i64 (v5 + 1))))], [(0, .arr 2 ((List.map enc_si v6).set (0 + v4.toNat) [(.string ((gt v6 v5).1)), (.int .i64 ((gt v6 v5).2))])), (1, .box [.v (.int .i64 p2)])]⟩) (by kernel_rfl)) ?_
        refine Wk.trans (Wk.of_eq (congrArg (fun z => (⟨[(0, .sl 0 0 v6.length), (1, .fn 151 [.pt 1 0]), (5, .v (.int .i64 (IntKind.wrap .i64 (v4 + 1)))), (6, .v (.int .i64 (IntKind.wrap .i64 (v5 + 1))))], [(0, .arr 2 (z)), (1, .box [.v (.int .i64 p2)])]⟩ : S)) (set_can (enc := enc_si) rfl (0 + v4.toNat) ((gt v6 v5).1, (gt v6 v5).2)))) ?_
        refine Wk.trans (Wk.of_eq (congrArg (fun z => (⟨[(0, .sl 0 0 z), (1, .fn 151 [.pt 1 0]), (5, .v (.int .i64 (IntKind.wrap .i64 (v4 + 1)))), (6, .v (.int .i64 (IntKind.wrap .i64 (v5 + 1))))], [(0, .arr 2 (List.map enc_si (v6.set (0 + v4.toNat) ((gt v6 v5).1, (gt v6 v5).2)))), (1, .box [.v (.int .i64 p2)])]⟩ : S)) (set_len ((rfl : v6.length = v6.length)) (0 + v4.toNat) ((gt v6 v5).1, (gt v6 v5).2)))) ?_
        exact Wk.refl _
      · replace h := cd_f b6 h
        refine AX.condF ((!x7)) (by kernel_rfl) b6 ?_
        refine AX.skip ?_
        refine AX.reg (its := [.auto {}, .auto { raw := true }]) [0, 1, 5, 6] [0, 1] (s1 := ⟨[(0, .sl 0 0 v6.length), (1, .fn 151 [.pt 1 0]), (5, .v (.int .i64 v4)), (6, .v (.int .i64 (IntKind.wrap .i64 (v5 + 1))))], [(0, .arr 2 (List.map enc_si v6)), (1, .box [.v (.int .i64 p2)])]⟩) (C := True) (by kernel_rfl) trivial trivial ?_
        refine ⟨(fu, (v4, IntKind.wrap .i64 (v5 + 1), v6)), h, Nat.lt_succ_self _, ?_⟩
        refine Wk.trans (Wk.forget [0, 1, 5, 6] [0, 1] (s' := ⟨[(0, .sl 0 0 v6.length), (1, .fn 151 [.pt 1 0]), (5, .v (.int .i64 v4)), (6, .v (.int .i64 (IntKind.wrap .i64 (v5 + 1))))], [(0, .arr 2 (List.map enc_si v6)), (1, .box [.v (.int .i64 p2)])]⟩) (by kernel_rfl)) ?_
        exact Wk.refl _
    · replace h := cd_f b3 h
      refine AX.condF (decide (v5 < (v6.length : Int))) (by kernel_rfl) b3 ?_
      refine AX.exit ?_
      refine fin_wk (Wk.forget [0, 5] [0, 1] (s' := ⟨[(0, .sl 0 0 v6.length), (5, .v (.int .i64 v4))], [(0, .arr 2 (List.map enc_si v6)), (1, .box [.v (.int .i64 p2)])]⟩) (by kernel_rfl)) ?_
      have hr := Option.some.inj h
      subst hr
      exact ⟨_, Wk.refl _, ⟨rfl, rfl⟩⟩

theorem s_slices_DeleteFunc_h_Flag_fitting_1_si (p1 : List (ByteArray × Int)) (p2 : Int) (r : List (ByteArray × Int)) (h : m_slices_DeleteFunc_h_Flag_fitting_1_si p1 p2 = some r) :
    Eng.Spec Tryd.prog 149 [.sl 0 0 p1.length, .fn 151 [.pt 1 0]] [.arr 2 (List.map enc_si p1), .box [.v (.int .i64 p2)]] (.sl 2 0 r.length) [.dead, .box [.v (.int .i64 p2)], .arr 2 (List.map enc_si r)] := by
  unfold m_slices_DeleteFunc_h_Flag_fitting_1_si at h
  refine Eng.Spec.body Tryd.func149 (by kernel_rfl) rfl (by kernel_rfl) ?_
  refine AX.wkpost ?_
  refine AX.seq ?_
  refine AX.reg (its := []) [0, 1] [0, 1] (s1 := ⟨[(0, .sl 0 0 p1.length), (1, .fn 151 [.pt 1 0])], [(0, .arr 2 (List.map enc_si p1)), (1, .box [.v (.int .i64 p2)])]⟩) (C := True) (by kernel_rfl) trivial trivial ?_
  refine AX.seq ?_
  obtain ⟨x3, e1, h⟩ := bd_e h
  refine AX.reg (its := [.auto {}, .auto {}, .call 86 [.sl 0 0 p1.length, .fn 151 [.pt 1 0]] (handO (rho ([] ++ [])) [] [] ++ [(0, .arr 2 (List.map enc_si p1)), (1, .box [.v (.int .i64 p2)])]) (callEv [] [] (.v (.int .i64 x3)) [])]) [0, 1, 5] [0, 1] (s1 := ⟨[(0, .sl 0 0 p1.length), (1, .fn 151 [.pt 1 0]), (5, .v (.int .i64 x3))], [(0, .arr 2 (List.map enc_si p1)), (1, .box [.v (.int .i64 p2)])]⟩) (C := ((([.sl 0 0 p1.length, .fn 151 [.pt 1 0]] : List AV) = [.sl 0 0 p1.length, .fn 151 [.pt 1 0]]) ∧ (AO.arr 2 (List.map enc_si p1) = AO.arr 2 (List.map enc_si p1)) ∧ (AO.box [.v (.int .i64 p2)] = AO.box [.v (.int .i64 p2)]) ∧ True) ∧ True) (by kernel_rfl) ⟨⟨rfl, rfl, rfl, trivial⟩, trivial⟩ ⟨call_ok (ks := []) (ns := []) (bor := [0, 1]) (bobjs := [(0, .arr 2 (List.map enc_si p1)), (1, .box [.v (.int .i64 p2)])]) (s_slices_IndexFunc_si_Flag_fitting_1_l p1 p2 x3 e1) (.cons (.c1 (.c0 (.arr rfl rfl ((rfl).trans (List.length_map ..).symm)))) (.cons (.fn (.cons (.box rfl rfl (.cons (.same _ (by kernel_rfl) (by kernel_rfl)) (.nil))) (.nil))) (.nil))) (by kernel_rfl) trivial, trivial⟩ ?_
  refine AX.seq ?_
  refine AX.seq ?_
  refine AX.reg (its := []) [0, 1, 5, 12] [0, 1] (s1 := ⟨[(0, .sl 0 0 p1.length), (1, .fn 151 [.pt 1 0]), (5, .v (.int .i64 x3)), (12, .v (.bool (decide (x3 = (-1)))))], [(0, .arr 2 (List.map enc_si p1)), (1, .box [.v (.int .i64 p2)])]⟩) (C := True) (by kernel_rfl) trivial trivial ?_
  rcases bool_cases (decide (x3 = (-1))) with b2 | b2
  · replace h := cd_t b2 h
    refine AX.condT (decide (x3 = (-1))) (by kernel_rfl) b2 ?_
    refine AX.seq ?_
    refine AX.reg (its := []) [4] [0, 1] (s1 := ⟨[(4, .sl 0 0 p1.length)], [(0, .arr 2 (List.map enc_si p1)), (1, .box [.v (.int .i64 p2)])]⟩) (C := True) (by kernel_rfl) trivial trivial ?_
    refine AX.ret ?_
    refine fin_wk (Wk.trunc 4 0 2 (lo := 0) (len := p1.length) (sz := 2) (es := List.map enc_si p1) (by kernel_rfl) (by kernel_rfl) (Nat.le_of_ble_eq_true (by kernel_rfl)) (by kernel_rfl) rfl) ?_
    refine fin_wk (Wk.forget [4] [1, 2] (s' := ⟨[(4, .sl 2 0 p1.length)], [(1, .box [.v (.int .i64 p2)]), (2, .arr 2 (((List.map enc_si p1).drop (0)).take (p1.length)))]⟩) (by kernel_rfl)) ?_
    refine fin_wk (Wk.of_eq (congrArg (fun z => (⟨[(4, .sl 2 0 p1.length)], [(1, .box [.v (.int .i64 p2)]), (2, .arr 2 (z))]⟩ : S)) (dt_all (enc := enc_si) rfl rfl))) ?_
    have hr := Option.some.inj h
    subst hr
    exact ⟨_, Wk.refl _, .inr rfl, ⟨[2], by kernel_rfl, ⟨rfl, rfl, trivial⟩, [.sl 2 0 p1.length], by kernel_rfl, by kernel_rfl⟩⟩
  · replace h := cd_f b2 h
    refine AX.condF (decide (x3 = (-1))) (by kernel_rfl) b2 ?_
    refine AX.skip ?_
    refine AX.seq ?_
    refine AX.seq ?_
    refine AX.reg (its := [.auto {}, .auto { raw := true }]) [0, 1, 5, 6] [0, 1] (s1 := ⟨[(0, .sl 0 0 p1.length), (1, .fn 151 [.pt 1 0]), (5, .v (.int .i64 x3)), (6, .v (.int .i64 (IntKind.wrap .i64 (x3 + 1))))], [(0, .arr 2 (List.map enc_si p1)), (1, .box [.v (.int .i64 p2)])]⟩) (C := True) (by kernel_rfl) trivial trivial ?_
    refine AX.block ?_
    obtain ⟨x8, e8, h⟩ := bd_e h
    refine AX.wk (Wk.forget [0, 1, 5, 6] [0, 1] (s' := ⟨[(0, .sl 0 0 p1.length), (1, .fn 151 [.pt 1 0]), (5, .v (.int .i64 x3)), (6, .v (.int .i64 (IntKind.wrap .i64 (x3 + 1))))], [(0, .arr 2 (List.map enc_si p1)), (1, .box [.v (.int .i64 p2)])]⟩) (by kernel_rfl)) ?_
    refine AX.mono (s_slices_DeleteFunc_h_Flag_fitting_1_si_L1 p2 FU (x3, IntKind.wrap .i64 (x3 + 1), p1) x8 e8) ?_
    rintro _ _ ⟨rfl, rfl⟩
    skip
    refine AX.seq ?_
    obtain ⟨g9, h⟩ := gd_e h
    refine AX.reg (its := []) [0, 5] [0, 1] (s1 := ⟨[(0, .sl 0 0 x8.2.length), (5, .v (.int .i64 x8.1))], [(0, .arr 2 ((List.map enc_si x8.2).take (0 + x8.1.toNat) ++ List.replicate ((x8.2.length : Int).toNat - x8.1.toNat) (enc_si ((ByteArray.empty, 0) : ByteArray × Int)) ++ (List.map enc_si x8.2).drop (0 + x8.1.toNat + ((x8.2.length : Int).toNat - x8.1.toNat)))), (1, .box [.v (.int .i64 p2)])]⟩) (C := (0 ≤ x8.1 ∧ x8.1 ≤ (x8.2.length : Int) ∧ (x8.2.length : Int) ≤ (x8.2.length : Int) ∧ (x8.2.length : Int) ≤ (x8.2.length : Int)) ∧ True) (by kernel_rfl) ⟨g9, trivial⟩ trivial ?_
    refine AX.seq ?_
    obtain ⟨g10, h⟩ := gd_e h
    refine AX.reg (its := []) [4] [0, 1] (s1 := ⟨[(4, .sl 0 (0 + (0 : Int).toNat) (x8.1.toNat - (0 : Int).toNat))], [(0, .arr 2 ((List.map enc_si x8.2).take (0 + x8.1.toNat) ++ List.replicate ((x8.2.length : Int).toNat - x8.1.toNat) (enc_si ((ByteArray.empty, 0) : ByteArray × Int)) ++ (List.map enc_si x8.2).drop (0 + x8.1.toNat + ((x8.2.length : Int).toNat - x8.1.toNat)))), (1, .box [.v (.int .i64 p2)])]⟩) (C := (0 ≤ (0 : Int) ∧ (0 : Int) ≤ x8.1 ∧ x8.1 ≤ (x8.2.length : Int) ∧ (x8.2.length : Int) ≤ (x8.2.length : Int)) ∧ True) (by kernel_rfl) ⟨g10, trivial⟩ trivial ?_
    refine AX.ret ?_
    refine fin_wk (Wk.trunc 4 0 2 (lo := 0 + (0 : Int).toNat) (len := x8.1.toNat - (0 : Int).toNat) (sz := 2) (es := (List.map enc_si x8.2).take (0 + x8.1.toNat) ++ List.replicate ((x8.2.length : Int).toNat - x8.1.toNat) (enc_si ((ByteArray.empty, 0) : ByteArray × Int)) ++ (List.map enc_si x8.2).drop (0 + x8.1.toNat + ((x8.2.length : Int).toNat - x8.1.toNat))) (by kernel_rfl) (by kernel_rfl) (Nat.le_of_ble_eq_true (by kernel_rfl)) (by kernel_rfl) rfl) ?_
    refine fin_wk (Wk.forget [4] [1, 2] (s' := ⟨[(4, .sl 2 0 (x8.1.toNat - (0 : Int).toNat))], [(1, .box [.v (.int .i64 p2)]), (2, .arr 2 ((((List.map enc_si x8.2).take (0 + x8.1.toNat) ++ List.replicate ((x8.2.length : Int).toNat - x8.1.toNat) (enc_si ((ByteArray.empty, 0) : ByteArray × Int)) ++ (List.map enc_si x8.2).drop (0 + x8.1.toNat + ((x8.2.length : Int).toNat - x8.1.toNat))).drop (0 + (0 : Int).toNat)).take (x8.1.toNat - (0 : Int).toNat)))]⟩) (by kernel_rfl)) ?_
    refine fin_wk (Wk.of_eq (congrArg (fun z => (⟨[(4, .sl 2 0 (x8.1.toNat - (0 : Int).toNat))], [(1, .box [.v (.int .i64 p2)]), (2, .arr 2 (z))]⟩ : S)) (part_can (enc := enc_si) (clr_can (enc := enc_si) rfl x8.1 (x8.2.length : Int) ((ByteArray.empty, 0) : ByteArray × Int)) (0 : Int) x8.1))) ?_
    refine fin_wk (Wk.of_eq (congrArg (fun z => (⟨[(4, .sl 2 0 z)], [(1, .box [.v (.int .i64 p2)]), (2, .arr 2 (List.map enc_si (sub (clr x8.2 x8.1 (x8.2.length : Int) ((ByteArray.empty, 0) : ByteArray × Int)) (0 : Int) x8.1)))]⟩ : S)) (part_len ((clr_len ((rfl : x8.2.length = x8.2.length)) ((ByteArray.empty, 0) : ByteArray × Int) g9 : x8.2.length = (clr x8.2 x8.1 (x8.2.length : Int) ((ByteArray.empty, 0) : ByteArray × Int)).length)) g10))) ?_
    have hr := Option.some.inj h
    subst hr
    exact ⟨_, Wk.refl _, .inr rfl, ⟨[2], by kernel_rfl, ⟨rfl, rfl, trivial⟩, [.sl 2 0 ((sub (clr x8.2 x8.1 (x8.2.length : Int) ((ByteArray.empty, 0) : ByteArray × Int)) (0 : Int) x8.1).length)], by kernel_rfl, by kernel_rfl⟩⟩

theorem s_impl_Flag_fitting (p1 : List (ByteArray × Int)) (p2 : Int) (p3 : Int) (r : List (ByteArray × Int)) (h : m_impl_Flag_fitting p1 p2 p3 = some r) :
    Eng.Spec Tryd.prog 121 [.agg [.bs false 2 (List.map enc_si p1), .v (.int .i64 p2)], .v (.int .i64 p3)] [] (.sl 0 0 r.length) [.arr 2 (List.map enc_si r)] := by
  unfold m_impl_Flag_fitting at h
  refine Eng.Spec.body Tryd.func121 (by kernel_rfl) rfl (by kernel_rfl) ?_
  refine AX.wkpost ?_
  refine AX.seq ?_
  refine AX.reg (its := [.auto { nk := 0 }, .auto { nk := 1 }]) [2, 3] [0, 1] (s1 := ⟨[(2, .pt 0 0), (3, .pt 1 0)], [(0, .box [.bs false 2 (List.map enc_si p1), .v (.int .i64 p2)]), (1, .box [.v (.int .i64 p3)])]⟩) (C := True) (by kernel_rfl) trivial trivial ?_
  refine AX.seq ?_
  obtain ⟨x4, e1, h⟩ := bd_e h
  obtain ⟨x5, e2, h⟩ := bd_e h
  refine AX.reg (its := [.auto {}, .auto {}, .call 150 [.bs false 2 (List.map enc_si p1)] (handO (rho ([] ++ [2])) [] [] ++ []) (callEv [] [2] (.sl 0 0 x4.length) [.arr 2 (List.map enc_si x4)]), .auto {}, .call 149 [.sl 2 0 x4.length, .fn 151 [.pt 1 0]] (handO (rho ([2, 1] ++ [3])) [2, 1] [.arr 2 (List.map enc_si x4), .box [.v (.int .i64 p3)]] ++ []) (callEv [2, 1] [3] (.sl 2 0 x5.length) [.dead, .box [.v (.int .i64 p3)], .arr 2 (List.map enc_si x5)])]) [4] [3] (s1 := ⟨[(4, .sl 3 0 x5.length)], [(3, .arr 2 (List.map enc_si x5))]⟩) (C := ((([.bs false 2 (List.map enc_si p1)] : List AV) = [.bs false 2 (List.map enc_si p1)]) ∧ True) ∧ ((([.sl 2 0 x4.length, .fn 151 [.pt 1 0]] : List AV) = [.sl 2 0 x4.length, .fn 151 [.pt 1 0]]) ∧ (AO.arr 2 (List.map enc_si x4) = AO.arr 2 (List.map enc_si x4)) ∧ (AO.box [.v (.int .i64 p3)] = AO.box [.v (.int .i64 p3)]) ∧ True) ∧ True) (by kernel_rfl) ⟨⟨rfl, trivial⟩, ⟨⟨rfl, rfl, rfl, trivial⟩, trivial⟩⟩ ⟨call_ok (ks := []) (ns := [2]) (bor := []) (bobjs := []) (s_slices_Clone_si p1 x4 e1) (.cons (.c1 (.c0 (.same _ (by kernel_rfl) (by kernel_rfl)))) (.nil)) (by kernel_rfl) trivial, ⟨call_ok (ks := [2, 1]) (ns := [3]) (bor := []) (bobjs := []) (s_slices_DeleteFunc_h_Flag_fitting_1_si x4 p3 x5 e2) (.cons (.c1 (.c0 (.same _ (by kernel_rfl) (by kernel_rfl)))) (.cons (.fn (.cons (.c0 (.same _ (by kernel_rfl) (by kernel_rfl))) (.nil))) (.nil))) (by kernel_rfl) ⟨.inl rfl, .inr rfl, trivial⟩, trivial⟩⟩ ?_
  refine AX.ret ?_
  refine fin_wk (Wk.swap 0 3 (Nat.le_of_ble_eq_true (by kernel_rfl)) (Nat.le_of_ble_eq_true (by kernel_rfl)) rfl) ?_
  refine fin_wk (Wk.forget [4] [0] (s' := ⟨[(4, .sl 0 0 x5.length)], [(0, .arr 2 (List.map enc_si x5))]⟩) (by kernel_rfl)) ?_
  have hr := Option.some.inj h
  subst hr
  exact ⟨_, Wk.refl _, .inr rfl, ⟨[0], by kernel_rfl, ⟨rfl, trivial⟩, [.sl 0 0 x5.length], by kernel_rfl, by kernel_rfl⟩⟩

theorem s_impl_together (p1 : List (ByteArray × Int)) (r : Int) (h : m_impl_together p1 = some r) :
    Eng.Spec Tryd.prog 77 [.bs false 2 (List.map enc_si p1)] [] (.v (.int .i64 r)) [] := by
  unfold m_impl_together at h
  refine Eng.Spec.body Tryd.func77 (by kernel_rfl) rfl (by kernel_rfl) ?_
  refine AX.wkpost ?_
  refine AX.seq ?_
  refine AX.reg (its := []) [0] [] (s1 := ⟨[(0, .bs false 2 (List.map enc_si p1))], []⟩) (C := True) (by kernel_rfl) trivial trivial ?_
  refine AX.seq ?_
  obtain ⟨x2, e1, h⟩ := bd_e h
  refine AX.reg (its := [.auto {}, .auto {}, .call 89 [.agg [.bs false 2 (List.map enc_si p1), .v (.int .i64 0)]] (handO (rho ([] ++ [])) [] [] ++ []) (callEv [] [] (.v (.int .i64 x2)) [])]) [2] [] (s1 := ⟨[(2, .v (.int .i64 x2))], []⟩) (C := ((([.agg [.bs false 2 (List.map enc_si p1), .v (.int .i64 0)]] : List AV) = [.agg [.bs false 2 (List.map enc_si p1), .v (.int .i64 0)]]) ∧ True) ∧ True) (by kernel_rfl) ⟨⟨rfl, trivial⟩, trivial⟩ ⟨call_ok (ks := []) (ns := []) (bor := []) (bobjs := []) (s_impl_Flag_mask p1 0 x2 e1) (.cons (.c1 (.agg (.cons (.same _ (by kernel_rfl) (by kernel_rfl)) (.cons (.same _ (by kernel_rfl) (by kernel_rfl)) (.nil))))) (.nil)) (by kernel_rfl) trivial, trivial⟩ ?_
  refine AX.ret ?_
  refine fin_wk (Wk.forget [2] [] (s' := ⟨[(2, .v (.int .i64 x2))], []⟩) (by kernel_rfl)) ?_
  have hr := Option.some.inj h
  subst hr
  exact ⟨_, Wk.refl _, .inr rfl, ⟨[], by kernel_rfl, trivial, [.v (.int .i64 x2)], by kernel_rfl, by kernel_rfl⟩⟩

theorem s_slices_Grow_nsi (p1 : Int) (r : List (ByteArray × Int)) (h : m_slices_Grow_nsi p1 = some r) :
    Eng.Spec Tryd.prog 174 [.v (.slice none 0 0), .v (.int .i64 p1)] [] (.sl 0 0 r.length) [.arr 2 (List.map enc_si r)] := by
  unfold m_slices_Grow_nsi at h
  refine Eng.Spec.body Tryd.func174 (by kernel_rfl) rfl (by kernel_rfl) ?_
  refine AX.wkpost ?_
  refine AX.seq ?_
  refine AX.reg (its := []) [0, 1] [] (s1 := ⟨[(0, .v (.slice none 0 0)), (1, .v (.int .i64 p1))], []⟩) (C := True) (by kernel_rfl) trivial trivial ?_
  refine AX.seq ?_
  refine AX.seq ?_
  refine AX.reg (its := []) [0, 1, 6] [] (s1 := ⟨[(0, .v (.slice none 0 0)), (1, .v (.int .i64 p1)), (6, .v (.bool (decide (p1 < 0))))], []⟩) (C := True) (by kernel_rfl) trivial trivial ?_
  rcases bool_cases (decide (p1 < 0)) with b1 | b1
  · replace h := cd_t b1 h
    refine AX.condT (decide (p1 < 0)) (by kernel_rfl) b1 ?_
    cases h
  · replace h := cd_f b1 h
    refine AX.condF (decide (p1 < 0)) (by kernel_rfl) b1 ?_
    refine AX.skip ?_
    refine AX.seq ?_
    refine AX.seq ?_
    refine AX.reg (its := [.auto {}, .auto {}, .auto {}, .auto {}, .auto {}, .auto { raw := true }, .auto { raw := true }]) [0, 1] [] (s1 := ⟨[(0, .v (.slice none 0 0)), (1, .v (.int .i64 (IntKind.wrap .i64 (p1 - (IntKind.wrap .i64 (0 - 0))))))], []⟩) (C := True) (by kernel_rfl) trivial trivial ?_
    refine AX.seq ?_
    obtain ⟨v2, q2, h⟩ := nm_e h
    refine AX.reg (its := [.auto {}, .auto { y := some (.v (.bool v2)) }]) [0, 1, 16] [] (s1 := ⟨[(0, .v (.slice none 0 0)), (1, .v (.int .i64 (IntKind.wrap .i64 (p1 - (IntKind.wrap .i64 (0 - 0)))))), (16, .v (.bool v2))], []⟩) (C := ((True) ∧ ((.v (.bool (decide (0 < (IntKind.wrap .i64 (p1 - (IntKind.wrap .i64 (0 - 0))))))) : AV) = (.v (.bool v2) : AV))) ∧ True) (by kernel_rfl) ⟨⟨trivial, (congrArg (fun z => AV.v (.bool z)) q2)⟩, trivial⟩ trivial ?_
    rcases bool_cases (v2) with b3 | b3
    · replace h := cd_t b3 h
      refine AX.condT (v2) (by kernel_rfl) b3 ?_
      obtain ⟨g4, h⟩ := gd_e h
      obtain ⟨g5, h⟩ := gd_e h
      obtain ⟨g6, h⟩ := gd_e h
      obtain ⟨g7, h⟩ := gd_e h
      refine AX.reg (its := [.auto {}, .auto {}, .auto {}, .auto {}, .auto {}, .auto { y := some (.sl 0 0 ((List.replicate (IntKind.wrap .i64 (p1 - (IntKind.wrap .i64 (0 - 0)))).toNat ((ByteArray.empty, 0) : ByteArray × Int)).length)), nk := 0 }]) [0] [0] (s1 := ⟨[(0, .sl 0 (0 + (0 : Int).toNat) ((0 : Int).toNat - (0 : Int).toNat))], [(0, .arr 2 (([] : List (List Value)) ++ List.replicate (IntKind.wrap .i64 (p1 - (IntKind.wrap .i64 (0 - 0)))).toNat (enc_si ((ByteArray.empty, 0) : ByteArray × Int))))]⟩) (C := ((0 : Int) = 0 ∧ (0 : Int) = 0 ∧ (0 : Int) = 0) ∧ (((True ∧ (0 ≤ (IntKind.wrap .i64 (p1 - (IntKind.wrap .i64 (0 - 0)))) ∧ (IntKind.wrap .i64 (p1 - (IntKind.wrap .i64 (0 - 0)))) ≤ 1099511627776)) ∧ (([] : List (List Value))).length + (List.replicate (IntKind.wrap .i64 (p1 - (IntKind.wrap .i64 (0 - 0)))).toNat (enc_si ((ByteArray.empty, 0) : ByteArray × Int))).length ≤ 1099511627776) ∧ (AV.sl 0 0 (([] : List (List Value)) ++ List.replicate (IntKind.wrap .i64 (p1 - (IntKind.wrap .i64 (0 - 0)))).toNat (enc_si ((ByteArray.empty, 0) : ByteArray × Int))).length = AV.sl 0 0 (List.replicate (IntKind.wrap .i64 (p1 - (IntKind.wrap .i64 (0 - 0)))).toNat ((ByteArray.empty, 0) : ByteArray × Int)).length)) ∧ (0 ≤ (0 : Int) ∧ (0 : Int) ≤ (0 : Int) ∧ (0 : Int) ≤ ((List.replicate (IntKind.wrap .i64 (p1 - (IntKind.wrap .i64 (0 - 0)))).toNat ((ByteArray.empty, 0) : ByteArray × Int)).length : Int) ∧ ((List.replicate (IntKind.wrap .i64 (p1 - (IntKind.wrap .i64 (0 - 0)))).toNat ((ByteArray.empty, 0) : ByteArray × Int)).length : Int) ≤ ((List.replicate (IntKind.wrap .i64 (p1 - (IntKind.wrap .i64 (0 - 0)))).toNat ((ByteArray.empty, 0) : ByteArray × Int)).length : Int)) ∧ True) (by kernel_rfl) ⟨g4, ⟨⟨⟨⟨trivial, g5⟩, (by simp only [List.length_map, List.length_nil, List.length_replicate]; simpa using g6)⟩, sl_len (enc := enc_si) (rep_can (IntKind.wrap .i64 (p1 - (IntKind.wrap .i64 (0 - 0)))).toNat ((ByteArray.empty, 0) : ByteArray × Int))⟩, ⟨g7, trivial⟩⟩⟩ trivial ?_
      refine AX.seq ?_
      refine AX.reg (its := []) [4] [0] (s1 := ⟨[(4, .sl 0 (0 + (0 : Int).toNat) ((0 : Int).toNat - (0 : Int).toNat))], [(0, .arr 2 (([] : List (List Value)) ++ List.replicate (IntKind.wrap .i64 (p1 - (IntKind.wrap .i64 (0 - 0)))).toNat (enc_si ((ByteArray.empty, 0) : ByteArray × Int))))]⟩) (C := True) (by kernel_rfl) trivial trivial ?_
      refine AX.ret ?_
      refine fin_wk (Wk.trunc 4 0 1 (lo := 0 + (0 : Int).toNat) (len := (0 : Int).toNat - (0 : Int).toNat) (sz := 2) (es := ([] : List (List Value)) ++ List.replicate (IntKind.wrap .i64 (p1 - (IntKind.wrap .i64 (0 - 0)))).toNat (enc_si ((ByteArray.empty, 0) : ByteArray × Int))) (by kernel_rfl) (by kernel_rfl) (Nat.le_of_ble_eq_true (by kernel_rfl)) (by kernel_rfl) rfl) ?_
      refine fin_wk (Wk.swap 0 1 (Nat.le_of_ble_eq_true (by kernel_rfl)) (Nat.le_of_ble_eq_true (by kernel_rfl)) rfl) ?_
      refine fin_wk (Wk.forget [4] [0] (s' := ⟨[(4, .sl 0 0 ((0 : Int).toNat - (0 : Int).toNat))], [(0, .arr 2 (((([] : List (List Value)) ++ List.replicate (IntKind.wrap .i64 (p1 - (IntKind.wrap .i64 (0 - 0)))).toNat (enc_si ((ByteArray.empty, 0) : ByteArray × Int))).drop (0 + (0 : Int).toNat)).take ((0 : Int).toNat - (0 : Int).toNat)))]⟩) (by kernel_rfl)) ?_
      refine fin_wk (Wk.of_eq (congrArg (fun z => (⟨[(4, .sl 0 0 ((0 : Int).toNat - (0 : Int).toNat))], [(0, .arr 2 (z))]⟩ : S)) (part_can (enc := enc_si) (rep_can (IntKind.wrap .i64 (p1 - (IntKind.wrap .i64 (0 - 0)))).toNat ((ByteArray.empty, 0) : ByteArray × Int) : ([] : List (List Value)) ++ List.replicate (IntKind.wrap .i64 (p1 - (IntKind.wrap .i64 (0 - 0)))).toNat (enc_si ((ByteArray.empty, 0) : ByteArray × Int)) = List.map enc_si (List.replicate (IntKind.wrap .i64 (p1 - (IntKind.wrap .i64 (0 - 0)))).toNat ((ByteArray.empty, 0) : ByteArray × Int))) (0 : Int) (0 : Int)))) ?_
      refine fin_wk (Wk.of_eq (congrArg (fun z => (⟨[(4, .sl 0 0 z)], [(0, .arr 2 (List.map enc_si (sub (List.replicate (IntKind.wrap .i64 (p1 - (IntKind.wrap .i64 (0 - 0)))).toNat ((ByteArray.empty, 0) : ByteArray × Int)) (0 : Int) (0 : Int))))]⟩ : S)) (part_len ((rfl : (List.replicate (IntKind.wrap .i64 (p1 - (IntKind.wrap .i64 (0 - 0)))).toNat ((ByteArray.empty, 0) : ByteArray × Int)).length = (List.replicate (IntKind.wrap .i64 (p1 - (IntKind.wrap .i64 (0 - 0)))).toNat ((ByteArray.empty, 0) : ByteArray × Int)).length)) g7))) ?_
      have hr := Option.some.inj h
      subst hr
      exact ⟨_, Wk.refl _, .inr rfl, ⟨[0], by kernel_rfl, ⟨rfl, trivial⟩, [.sl 0 0 ((sub (List.replicate (IntKind.wrap .i64 (p1 - (IntKind.wrap .i64 (0 - 0)))).toNat ((ByteArray.empty, 0) : ByteArray × Int)) (0 : Int) (0 : Int)).length)], by kernel_rfl, by kernel_rfl⟩⟩
    · replace h := cd_f b3 h
      refine AX.condF (v2) (by kernel_rfl) b3 ?_
      refine AX.skip ?_
      refine AX.seq ?_
      refine AX.reg (its := []) [4] [] (s1 := ⟨[(4, .v (.slice none 0 0))], []⟩) (C := True) (by kernel_rfl) trivial trivial ?_
      refine AX.ret ?_
      refine fin_wk (Wk.mat 4 0 2 (by kernel_rfl) (Nat.le_of_ble_eq_true (by kernel_rfl)) (by kernel_rfl) rfl) ?_
      refine fin_wk (Wk.forget [4] [0] (s' := ⟨[(4, .sl 0 0 (([] : List (ByteArray × Int)).length))], [(0, .arr 2 (List.map enc_si ([] : List (ByteArray × Int))))]⟩) (by kernel_rfl)) ?_
      have hr := Option.some.inj h
      subst hr
      exact ⟨_, Wk.refl _, .inr rfl, ⟨[0], by kernel_rfl, ⟨rfl, trivial⟩, [.sl 0 0 (([] : List (ByteArray × Int)).length)], by kernel_rfl, by kernel_rfl⟩⟩

theorem s_slices_Concat_x2sin (p1 : List (ByteArray × Int)) (r : List (ByteArray × Int)) (h : m_slices_Concat_x2sin p1 = some r) :
    Eng.Spec Tryd.prog 152 [.bx [.bs false 2 (List.map enc_si p1), .v (.slice none 0 0)]] [] (.sl 0 0 r.length) [.arr 2 (List.map enc_si r)] := by
  unfold m_slices_Concat_x2sin at h
  refine Eng.Spec.body Tryd.func152 (by kernel_rfl) rfl (by kernel_rfl) ?_
  refine AX.wkpost ?_
  refine AX.seq ?_
  refine AX.reg (its := []) [0] [] (s1 := ⟨[(0, .bx [.bs false 2 (List.map enc_si p1), .v (.slice none 0 0)])], []⟩) (C := True) (by kernel_rfl) trivial trivial ?_
  refine AX.seq ?_
  refine AX.reg (its := []) [0, 3] [] (s1 := ⟨[(0, .bx [.bs false 2 (List.map enc_si p1), .v (.slice none 0 0)]), (3, .v (.int .i64 0))], []⟩) (C := True) (by kernel_rfl) trivial trivial ?_
  refine AX.seq ?_
  refine AX.seq ?_
  refine AX.reg (its := []) [0, 3, 9, 10, 11] [] (s1 := ⟨[(0, .bx [.bs false 2 (List.map enc_si p1), .v (.slice none 0 0)]), (3, .v (.int .i64 0)), (9, .bx [.bs false 2 (List.map enc_si p1), .v (.slice none 0 0)]), (10, .v (.int .i64 2)), (11, .v (.int .i64 0))], []⟩) (C := True) (by kernel_rfl) trivial trivial ?_
  refine AX.block ?_
  refine AXL.start ?_
  refine AXL.step ?_
  refine AX.seq ?_
  refine AX.reg (its := []) [0, 3, 9, 10, 11, 12] [] (s1 := ⟨[(0, .bx [.bs false 2 (List.map enc_si p1), .v (.slice none 0 0)]), (3, .v (.int .i64 0)), (9, .bx [.bs false 2 (List.map enc_si p1), .v (.slice none 0 0)]), (10, .v (.int .i64 2)), (11, .v (.int .i64 0)), (12, .v (.bool true))], []⟩) (C := True) (by kernel_rfl) trivial trivial ?_
  refine AX.seq ?_
  refine AX.cond_true (by kernel_rfl) ?_
  refine AX.skip ?_
  refine AX.seq ?_
  refine AX.block ?_
  refine AX.seq ?_
  refine AX.reg (its := []) [0, 3, 5, 9, 10, 11] [] (s1 := ⟨[(0, .bx [.bs false 2 (List.map enc_si p1), .v (.slice none 0 0)]), (3, .v (.int .i64 0)), (5, .bs false 2 (List.map enc_si p1)), (9, .bx [.bs false 2 (List.map enc_si p1), .v (.slice none 0 0)]), (10, .v (.int .i64 2)), (11, .v (.int .i64 0))], []⟩) (C := ((0 : Int) ≤ 0 ∧ (0 : Int) < ((2 : Nat) : Int)) ∧ True) (by kernel_rfl) ⟨(by decide), trivial⟩ trivial ?_
  refine AX.seq ?_
  refine AX.reg (its := [.auto {}, .auto {}, .auto { y := some (.v (.int .i64 (p1.length : Int))) }, .auto { raw := true }]) [0, 3, 9, 10, 11] [] (s1 := ⟨[(0, .bx [.bs false 2 (List.map enc_si p1), .v (.slice none 0 0)]), (3, .v (.int .i64 (IntKind.wrap .i64 (0 + (p1.length : Int))))), (9, .bx [.bs false 2 (List.map enc_si p1), .v (.slice none 0 0)]), (10, .v (.int .i64 2)), (11, .v (.int .i64 0))], []⟩) (C := (True ∧ (AV.v (.int .i64 ((List.map enc_si p1).length : Int)) = AV.v (.int .i64 (p1.length : Int)))) ∧ True) (by kernel_rfl) ⟨⟨trivial, len_map enc_si p1⟩, trivial⟩ trivial ?_
  refine AX.seq ?_
  refine AX.reg (its := []) [0, 3, 9, 10, 11, 20] [] (s1 := ⟨[(0, .bx [.bs false 2 (List.map enc_si p1), .v (.slice none 0 0)]), (3, .v (.int .i64 (IntKind.wrap .i64 (0 + (p1.length : Int))))), (9, .bx [.bs false 2 (List.map enc_si p1), .v (.slice none 0 0)]), (10, .v (.int .i64 2)), (11, .v (.int .i64 0)), (20, .v (.bool (decide ((IntKind.wrap .i64 (0 + (p1.length : Int))) < 0))))], []⟩) (C := True) (by kernel_rfl) trivial trivial ?_
  rcases bool_cases (decide ((IntKind.wrap .i64 (0 + (p1.length : Int))) < 0)) with b1 | b1
  · replace h := cd_t b1 h
    refine AX.condT (decide ((IntKind.wrap .i64 (0 + (p1.length : Int))) < 0)) (by kernel_rfl) b1 ?_
    cases h
  · replace h := cd_f b1 h
    refine AX.condF (decide ((IntKind.wrap .i64 (0 + (p1.length : Int))) < 0)) (by kernel_rfl) b1 ?_
    refine AX.skip ?_
    refine AX.reg (its := [.auto { raw := true }]) [0, 3, 9, 10, 11] [] (s1 := ⟨[(0, .bx [.bs false 2 (List.map enc_si p1), .v (.slice none 0 0)]), (3, .v (.int .i64 (IntKind.wrap .i64 (0 + (p1.length : Int))))), (9, .bx [.bs false 2 (List.map enc_si p1), .v (.slice none 0 0)]), (10, .v (.int .i64 2)), (11, .v (.int .i64 1))], []⟩) (C := True) (by kernel_rfl) trivial trivial ?_
    refine AXL.step ?_
    refine AX.seq ?_
    refine AX.reg (its := []) [0, 3, 9, 10, 11, 12] [] (s1 := ⟨[(0, .bx [.bs false 2 (List.map enc_si p1), .v (.slice none 0 0)]), (3, .v (.int .i64 (IntKind.wrap .i64 (0 + (p1.length : Int))))), (9, .bx [.bs false 2 (List.map enc_si p1), .v (.slice none 0 0)]), (10, .v (.int .i64 2)), (11, .v (.int .i64 1)), (12, .v (.bool true))], []⟩) (C := True) (by kernel_rfl) trivial trivial ?_
    refine AX.seq ?_
    refine AX.cond_true (by kernel_rfl) ?_
    refine AX.skip ?_
    refine AX.seq ?_
    refine AX.block ?_
    refine AX.seq ?_
    refine AX.reg (its := []) [0, 3, 5, 9, 10, 11] [] (s1 := ⟨[(0, .bx [.bs false 2 (List.map enc_si p1), .v (.slice none 0 0)]), (3, .v (.int .i64 (IntKind.wrap .i64 (0 + (p1.length : Int))))), (5, .v (.slice none 0 0)), (9, .bx [.bs false 2 (List.map enc_si p1), .v (.slice none 0 0)]), (10, .v (.int .i64 2)), (11, .v (.int .i64 1))], []⟩) (C := ((0 : Int) ≤ 1 ∧ (1 : Int) < ((2 : Nat) : Int)) ∧ True) (by kernel_rfl) ⟨(by decide), trivial⟩ trivial ?_
    refine AX.seq ?_
    obtain ⟨v2, q2, h⟩ := nm_e h
    refine AX.reg (its := [.auto {}, .auto {}, .auto {}, .auto { y := some (.v (.int .i64 v2)), raw := true }]) [0, 3, 9, 10, 11] [] (s1 := ⟨[(0, .bx [.bs false 2 (List.map enc_si p1), .v (.slice none 0 0)]), (3, .v (.int .i64 v2)), (9, .bx [.bs false 2 (List.map enc_si p1), .v (.slice none 0 0)]), (10, .v (.int .i64 2)), (11, .v (.int .i64 1))], []⟩) (C := ((True) ∧ ((.v (.int .i64 (IntKind.wrap .i64 ((IntKind.wrap .i64 (0 + (p1.length : Int))) + 0))) : AV) = (.v (.int .i64 v2) : AV))) ∧ True) (by kernel_rfl) ⟨⟨trivial, (congrArg (fun z => AV.v (.int .i64 z)) q2)⟩, trivial⟩ trivial ?_
    refine AX.seq ?_
    refine AX.reg (its := []) [0, 3, 9, 10, 11, 20] [] (s1 := ⟨[(0, .bx [.bs false 2 (List.map enc_si p1), .v (.slice none 0 0)]), (3, .v (.int .i64 v2)), (9, .bx [.bs false 2 (List.map enc_si p1), .v (.slice none 0 0)]), (10, .v (.int .i64 2)), (11, .v (.int .i64 1)), (20, .v (.bool (decide (v2 < 0))))], []⟩) (C := True) (by kernel_rfl) trivial trivial ?_
    rcases bool_cases (decide (v2 < 0)) with b3 | b3
    · replace h := cd_t b3 h
      refine AX.condT (decide (v2 < 0)) (by kernel_rfl) b3 ?_
      cases h
    · replace h := cd_f b3 h
      refine AX.condF (decide (v2 < 0)) (by kernel_rfl) b3 ?_
      refine AX.skip ?_
      refine AX.reg (its := [.auto { raw := true }]) [0, 3, 9, 10, 11] [] (s1 := ⟨[(0, .bx [.bs false 2 (List.map enc_si p1), .v (.slice none 0 0)]), (3, .v (.int .i64 v2)), (9, .bx [.bs false 2 (List.map enc_si p1), .v (.slice none 0 0)]), (10, .v (.int .i64 2)), (11, .v (.int .i64 2))], []⟩) (C := True) (by kernel_rfl) trivial trivial ?_
      refine AXL.step ?_
      refine AX.seq ?_
      refine AX.reg (its := []) [0, 3, 9, 10, 11, 12] [] (s1 := ⟨[(0, .bx [.bs false 2 (List.map enc_si p1), .v (.slice none 0 0)]), (3, .v (.int .i64 v2)), (9, .bx [.bs false 2 (List.map enc_si p1), .v (.slice none 0 0)]), (10, .v (.int .i64 2)), (11, .v (.int .i64 2)), (12, .v (.bool false))], []⟩) (C := True) (by kernel_rfl) trivial trivial ?_
      refine AX.seq ?_
      refine AX.cond_false (by kernel_rfl) ?_
      refine AX.exit ?_
      refine AX.seq ?_
      obtain ⟨x3, e4, h⟩ := bd_e h
      refine AX.reg (its := [.auto {}, .call 174 [.v (.slice none 0 0), .v (.int .i64 v2)] (handO (rho ([] ++ [0])) [] [] ++ []) (callEv [] [0] (.sl 0 0 x3.length) [.arr 2 (List.map enc_si x3)])]) [0, 6] [0] (s1 := ⟨[(0, .bx [.bs false 2 (List.map enc_si p1), .v (.slice none 0 0)]), (6, .sl 0 0 x3.length)], [(0, .arr 2 (List.map enc_si x3))]⟩) (C := ((([.v (.slice none 0 0), .v (.int .i64 v2)] : List AV) = [.v (.slice none 0 0), .v (.int .i64 v2)]) ∧ True) ∧ True) (by kernel_rfl) ⟨⟨rfl, trivial⟩, trivial⟩ ⟨call_ok (ks := []) (ns := [0]) (bor := []) (bobjs := []) (s_slices_Grow_nsi v2 x3 e4) (.cons (.c1 (.c0 (.same _ (by kernel_rfl) (by kernel_rfl)))) (.cons (.c1 (.c0 (.same _ (by kernel_rfl) (by kernel_rfl)))) (.nil))) (by kernel_rfl) trivial, trivial⟩ ?_
      refine AX.seq ?_
      refine AX.seq ?_
      refine AX.reg (its := []) [6, 25, 26, 27] [0] (s1 := ⟨[(6, .sl 0 0 x3.length), (25, .bx [.bs false 2 (List.map enc_si p1), .v (.slice none 0 0)]), (26, .v (.int .i64 2)), (27, .v (.int .i64 0))], [(0, .arr 2 (List.map enc_si x3))]⟩) (C := True) (by kernel_rfl) trivial trivial ?_
      refine AX.block ?_
      refine AXL.start ?_
      refine AXL.step ?_
      refine AX.seq ?_
      refine AX.reg (its := []) [6, 25, 26, 27, 28] [0] (s1 := ⟨[(6, .sl 0 0 x3.length), (25, .bx [.bs false 2 (List.map enc_si p1), .v (.slice none 0 0)]), (26, .v (.int .i64 2)), (27, .v (.int .i64 0)), (28, .v (.bool true))], [(0, .arr 2 (List.map enc_si x3))]⟩) (C := True) (by kernel_rfl) trivial trivial ?_
      refine AX.seq ?_
      refine AX.cond_true (by kernel_rfl) ?_
      refine AX.skip ?_
      refine AX.seq ?_
      refine AX.block ?_
      refine AX.seq ?_
      refine AX.reg (its := []) [6, 8, 25, 26, 27] [0] (s1 := ⟨[(6, .sl 0 0 x3.length), (8, .bs false 2 (List.map enc_si p1)), (25, .bx [.bs false 2 (List.map enc_si p1), .v (.slice none 0 0)]), (26, .v (.int .i64 2)), (27, .v (.int .i64 0))], [(0, .arr 2 (List.map enc_si x3))]⟩) (C := ((0 : Int) ≤ 0 ∧ (0 : Int) < ((2 : Nat) : Int)) ∧ True) (by kernel_rfl) ⟨(by decide), trivial⟩ trivial ?_
      obtain ⟨g5, h⟩ := gd_e h
      refine AX.reg (its := [.auto {}, .auto {}, .auto { y := some (.sl 1 0 ((x3 ++ p1).length)), els := some (List.map enc_si x3), nk := 1 }]) [6, 25, 26, 27] [1] (s1 := ⟨[(6, .sl 1 0 ((x3 ++ p1).length)), (25, .bx [.bs false 2 (List.map enc_si p1), .v (.slice none 0 0)]), (26, .v (.int .i64 2)), (27, .v (.int .i64 0))], [(1, .arr 2 (List.map enc_si x3 ++ List.map enc_si p1))]⟩) (C := ((((((List.map enc_si x3).drop 0).take (x3.length) = List.map enc_si x3) ∧ True) ∧ (List.map enc_si x3).length + (List.map enc_si p1).length ≤ 1099511627776) ∧ (AV.sl 1 0 (List.map enc_si x3 ++ List.map enc_si p1).length = AV.sl 1 0 (x3 ++ p1).length)) ∧ True) (by kernel_rfl) ⟨⟨⟨⟨(dt_all (enc := enc_si) rfl rfl), trivial⟩, (by simp only [List.length_map, List.length_nil, List.length_replicate]; simpa using g5)⟩, sl_len (enc := enc_si) (app_can (enc := enc_si) rfl (rfl))⟩, trivial⟩ trivial ?_
      refine AX.reg (its := [.auto { raw := true }]) [6, 25, 26, 27] [1] (s1 := ⟨[(6, .sl 1 0 ((x3 ++ p1).length)), (25, .bx [.bs false 2 (List.map enc_si p1), .v (.slice none 0 0)]), (26, .v (.int .i64 2)), (27, .v (.int .i64 1))], [(1, .arr 2 (List.map enc_si x3 ++ List.map enc_si p1))]⟩) (C := True) (by kernel_rfl) trivial trivial ?_
      refine AXL.step ?_
      refine AX.seq ?_
      refine AX.reg (its := []) [6, 25, 26, 27, 28] [1] (s1 := ⟨[(6, .sl 1 0 ((x3 ++ p1).length)), (25, .bx [.bs false 2 (List.map enc_si p1), .v (.slice none 0 0)]), (26, .v (.int .i64 2)), (27, .v (.int .i64 1)), (28, .v (.bool true))], [(1, .arr 2 (List.map enc_si x3 ++ List.map enc_si p1))]⟩) (C := True) (by kernel_rfl) trivial trivial ?_
      refine AX.seq ?_
      refine AX.cond_true (by kernel_rfl) ?_
      refine AX.skip ?_
      refine AX.seq ?_
      refine AX.block ?_
      refine AX.seq ?_
      refine AX.reg (its := []) [6, 8, 25, 26, 27] [1] (s1 := ⟨[(6, .sl 1 0 ((x3 ++ p1).length)), (8, .v (.slice none 0 0)), (25, .bx [.bs false 2 (List.map enc_si p1), .v (.slice none 0 0)]), (26, .v (.int .i64 2)), (27, .v (.int .i64 1))], [(1, .arr 2 (List.map enc_si x3 ++ List.map enc_si p1))]⟩) (C := ((0 : Int) ≤ 1 ∧ (1 : Int) < ((2 : Nat) : Int)) ∧ True) (by kernel_rfl) ⟨(by decide), trivial⟩ trivial ?_
      obtain ⟨g6, h⟩ := gd_e h
      refine AX.reg (its := [.auto {}, .auto {}, .auto { y := some (.sl 2 0 (((x3 ++ p1) ++ ([] : List (ByteArray × Int))).length)), els := some (List.map enc_si (x3 ++ p1)), nk := 2 }]) [6, 25, 26, 27] [2] (s1 := ⟨[(6, .sl 2 0 (((x3 ++ p1) ++ ([] : List (ByteArray × Int))).length)), (25, .bx [.bs false 2 (List.map enc_si p1), .v (.slice none 0 0)]), (26, .v (.int .i64 2)), (27, .v (.int .i64 1))], [(2, .arr 2 (List.map enc_si (x3 ++ p1) ++ ([] : List (List Value))))]⟩) (C := ((((((List.map enc_si x3 ++ List.map enc_si p1).drop 0).take ((x3 ++ p1).length) = List.map enc_si (x3 ++ p1)) ∧ True) ∧ (List.map enc_si (x3 ++ p1)).length + (([] : List (List Value))).length ≤ 1099511627776) ∧ (AV.sl 2 0 (List.map enc_si (x3 ++ p1) ++ ([] : List (List Value))).length = AV.sl 2 0 ((x3 ++ p1) ++ ([] : List (ByteArray × Int))).length)) ∧ True) (by kernel_rfl) ⟨⟨⟨⟨(dt_all (enc := enc_si) (app_can (enc := enc_si) rfl (rfl) : List.map enc_si x3 ++ List.map enc_si p1 = List.map enc_si (x3 ++ p1)) rfl), trivial⟩, (by simp only [List.length_map, List.length_nil, List.length_replicate]; simpa using g6)⟩, sl_len (enc := enc_si) (app_can (enc := enc_si) rfl (rfl))⟩, trivial⟩ trivial ?_
      refine AX.reg (its := [.auto { raw := true }]) [6, 25, 26, 27] [2] (s1 := ⟨[(6, .sl 2 0 (((x3 ++ p1) ++ ([] : List (ByteArray × Int))).length)), (25, .bx [.bs false 2 (List.map enc_si p1), .v (.slice none 0 0)]), (26, .v (.int .i64 2)), (27, .v (.int .i64 2))], [(2, .arr 2 (List.map enc_si (x3 ++ p1) ++ ([] : List (List Value))))]⟩) (C := True) (by kernel_rfl) trivial trivial ?_
      refine AXL.step ?_
      refine AX.seq ?_
      refine AX.reg (its := []) [6, 25, 26, 27, 28] [2] (s1 := ⟨[(6, .sl 2 0 (((x3 ++ p1) ++ ([] : List (ByteArray × Int))).length)), (25, .bx [.bs false 2 (List.map enc_si p1), .v (.slice none 0 0)]), (26, .v (.int .i64 2)), (27, .v (.int .i64 2)), (28, .v (.bool false))], [(2, .arr 2 (List.map enc_si (x3 ++ p1) ++ ([] : List (List Value))))]⟩) (C := True) (by kernel_rfl) trivial trivial ?_
      refine AX.seq ?_
      refine AX.cond_false (by kernel_rfl) ?_
      refine AX.exit ?_
      refine AX.seq ?_
      refine AX.reg (its := []) [2] [2] (s1 := ⟨[(2, .sl 2 0 (((x3 ++ p1) ++ ([] : List (ByteArray × Int))).length))], [(2, .arr 2 (List.map enc_si (x3 ++ p1) ++ ([] : List (List Value))))]⟩) (C := True) (by kernel_rfl) trivial trivial ?_
      refine AX.ret ?_
      refine fin_wk (Wk.swap 0 2 (Nat.le_of_ble_eq_true (by kernel_rfl)) (Nat.le_of_ble_eq_true (by kernel_rfl)) rfl) ?_
      refine fin_wk (Wk.forget [2] [0] (s' := ⟨[(2, .sl 0 0 (((x3 ++ p1) ++ ([] : List (ByteArray × Int))).length))], [(0, .arr 2 (List.map enc_si (x3 ++ p1) ++ ([] : List (List Value))))]⟩) (by kernel_rfl)) ?_
      refine fin_wk (Wk.of_eq (congrArg (fun z => (⟨[(2, .sl 0 0 (((x3 ++ p1) ++ ([] : List (ByteArray × Int))).length))], [(0, .arr 2 (z))]⟩ : S)) (app_can (enc := enc_si) rfl (rfl) : List.map enc_si (x3 ++ p1) ++ ([] : List (List Value)) = List.map enc_si ((x3 ++ p1) ++ ([] : List (ByteArray × Int)))))) ?_
      have hr := Option.some.inj h
      subst hr
      exact ⟨_, Wk.refl _, .inr rfl, ⟨[0], by kernel_rfl, ⟨rfl, trivial⟩, [.sl 0 0 (((x3 ++ p1) ++ ([] : List (ByteArray × Int))).length)], by kernel_rfl, by kernel_rfl⟩⟩

theorem s_slices_Concat_x2sisi (p1 : List (ByteArray × Int)) (p2 : List (ByteArray × Int)) (r : List (ByteArray × Int)) (h : m_slices_Concat_x2sisi p1 p2 = some r) :
    Eng.Spec Tryd.prog 152 [.bx [.bs false 2 (List.map enc_si p1), .bs false 2 (List.map enc_si p2)]] [] (.sl 0 0 r.length) [.arr 2 (List.map enc_si r)] := by
  unfold m_slices_Concat_x2sisi at h
  refine Eng.Spec.body Tryd.func152 (by kernel_rfl) rfl (by kernel_rfl) ?_
  refine AX.wkpost ?_
  refine AX.seq ?_
  refine AX.reg (its := []) [0] [] (s1 := ⟨[(0, .bx [.bs false 2 (List.map enc_si p1), .bs false 2 (List.map enc_si p2)])], []⟩) (C := True) (by kernel_rfl) trivial trivial ?_
  refine AX.seq ?_
  refine AX.reg (its := []) [0, 3] [] (s1 := ⟨[(0, .bx [.bs false 2 (List.map enc_si p1), .bs false 2 (List.map enc_si p2)]), (3, .v (.int .i64 0))], []⟩) (C := True) (by kernel_rfl) trivial trivial ?_
  refine AX.seq ?_
  refine AX.seq ?_
  refine AX.reg (its := []) [0, 3, 9, 10, 11] [] (s1 := ⟨[(0, .bx [.bs false 2 (List.map enc_si p1), .bs false 2 (List.map enc_si p2)]), (3, .v (.int .i64 0)), (9, .bx [.bs false 2 (List.map enc_si p1), .bs false 2 (List.map enc_si p2)]), (10, .v (.int .i64 2)), (11, .v (.int .i64 0))], []⟩) (C := True) (by kernel_rfl) trivial trivial ?_
  refine AX.block ?_
  refine AXL.start ?_
  refine AXL.step ?_
  refine AX.seq ?_
  refine AX.reg (its := []) [0, 3, 9, 10, 11, 12] [] (s1 := ⟨[(0, .bx [.bs false 2 (List.map enc_si p1), .bs false 2 (List.map enc_si p2)]), (3, .v (.int .i64 0)), (9, .bx [.bs false 2 (List.map enc_si p1), .bs false 2 (List.map enc_si p2)]), (10, .v (.int .i64 2)), (11, .v (.int .i64 0)), (12, .v (.bool true))], []⟩) (C := True) (by kernel_rfl) trivial trivial ?_
  refine AX.seq ?_
  refine AX.cond_true (by kernel_rfl) ?_
  refine AX.skip ?_
  refine AX.seq ?_
  refine AX.block ?_
  refine AX.seq ?_
  refine AX.reg (its := []) [0, 3, 5, 9, 10, 11] [] (s1 := ⟨[(0, .bx [.bs false 2 (List.map enc_si p1), .bs false 2 (List.map enc_si p2)]), (3, .v (.int .i64 0)), (5, .bs false 2 (List.map enc_si p1)), (9, .bx [.bs false 2 (List.map enc_si p1), .bs false 2 (List.map enc_si p2)]), (10, .v (.int .i64 2)), (11, .v (.int .i64 0))], []⟩) (C := ((0 : Int) ≤ 0 ∧ (0 : Int) < ((2 : Nat) : Int)) ∧ True) (by kernel_rfl) ⟨(by decide), trivial⟩ trivial ?_
  refine AX.seq ?_
  refine AX.reg (its := [.auto {}, .auto {}, .auto { y := some (.v (.int .i64 (p1.length : Int))) }, .auto { raw := true }]) [0, 3, 9, 10, 11] [] (s1 := ⟨[(0, .bx [.bs false 2 (List.map enc_si p1), .bs false 2 (List.map enc_si p2)]), (3, .v (.int .i64 (IntKind.wrap .i64 (0 + (p1.length : Int))))), (9, .bx [.bs false 2 (List.map enc_si p1), .bs false 2 (List.map enc_si p2)]), (10, .v (.int .i64 2)), (11, .v (.int .i64 0))], []⟩) (C := (True ∧ (AV.v (.int .i64 ((List.map enc_si p1).length : Int)) = AV.v (.int .i64 (p1.length : Int)))) ∧ True) (by kernel_rfl) ⟨⟨trivial, len_map enc_si p1⟩, trivial⟩ trivial ?_
  refine AX.seq ?_
  refine AX.reg (its := []) [0, 3, 9, 10, 11, 20] [] (s1 := ⟨[(0, .bx [.bs false 2 (List.map enc_si p1), .bs false 2 (List.map enc_si p2)]), (3, .v (.int .i64 (IntKind.wrap .i64 (0 + (p1.length : Int))))), (9, .bx [.bs false 2 (List.map enc_si p1), .bs false 2 (List.map enc_si p2)]), (10, .v (.int .i64 2)), (11, .v (.int .i64 0)), (20, .v (.bool (decide ((IntKind.wrap .i64 (0 + (p1.length : Int))) < 0))))], []⟩) (C := True) (by kernel_rfl) trivial trivial ?_
  rcases bool_cases (decide ((IntKind.wrap .i64 (0 + (p1.length : Int))) < 0)) with b1 | b1
  · replace h := cd_t b1 h
    refine AX.condT (decide ((IntKind.wrap .i64 (0 + (p1.length : Int))) < 0)) (by kernel_rfl) b1 ?_
    cases h
  · replace h := cd_f b1 h
    refine AX.condF (decide ((IntKind.wrap .i64 (0 + (p1.length : Int))) < 0)) (by kernel_rfl) b1 ?_
    refine AX.skip ?_
    refine AX.reg (its := [.auto { raw := true }]) [0, 3, 9, 10, 11] [] (s1 := ⟨[(0, .bx [.bs false 2 (List.map enc_si p1), .bs false 2 (List.map enc_si p2)]), (3, .v (.int .i64 (IntKind.wrap .i64 (0 + (p1.length : Int))))), (9, .bx [.bs false 2 (List.map enc_si p1), .bs false 2 (List.map enc_si p2)]), (10, .v (.int .i64 2)), (11, .v (.int .i64 1))], []⟩) (C := True) (by kernel_rfl) trivial trivial ?_
    refine AXL.step ?_
    refine AX.seq ?_
    refine AX.reg (its := []) [0, 3, 9, 10, 11, 12] [] (s1 := ⟨[(0, .bx [.bs false 2 (List.map enc_si p1), .bs false 2 (List.map enc_si p2)]), (3, .v (.int .i64 (IntKind.wrap .i64 (0 + (p1.length : Int))))), (9, .bx [.bs false 2 (List.map enc_si p1), .bs false 2 (List.map enc_si p2)]), (10, .v (.int .i64 2)), (11, .v (.int .i64 1)), (12, .v (.bool true))], []⟩) (C := True) (by kernel_rfl) trivial trivial ?_
    refine AX.seq ?_
    refine AX.cond_true (by kernel_rfl) ?_
    refine AX.skip ?_
    refine AX.seq ?_
    refine AX.block ?_
    refine AX.seq ?_
    refine AX.reg (its := []) [0, 3, 5, 9, 10, 11] [] (s1 := ⟨[(0, .bx [.bs false 2 (List.map enc_si p1), .bs false 2 (List.map enc_si p2)]), (3, .v (.int .i64 (IntKind.wrap .i64 (0 + (p1.length : Int))))), (5, .bs false 2 (List.map enc_si p2)), (9, .bx [.bs false 2 (List.map enc_si p1), .bs false 2 (List.map enc_si p2)]), (10, .v (.int .i64 2)), (11, .v (.int .i64 1))], []⟩) (C := ((0 : Int) ≤ 1 ∧ (1 : Int) < ((2 : Nat) : Int)) ∧ True) (by kernel_rfl) ⟨(by decide), trivial⟩ trivial ?_
    refine AX.seq ?_
    obtain ⟨v3, q2, h⟩ := nm_e h
    refine AX.reg (its := [.auto {}, .auto {}, .auto { y := some (.v (.int .i64 (p2.length : Int))) }, .auto { y := some (.v (.int .i64 v3)), raw := true }]) [0, 3, 9, 10, 11] [] (s1 := ⟨[(0, .bx [.bs false 2 (List.map enc_si p1), .bs false 2 (List.map enc_si p2)]), (3, .v (.int .i64 v3)), (9, .bx [.bs false 2 (List.map enc_si p1), .bs false 2 (List.map enc_si p2)]), (10, .v (.int .i64 2)), (11, .v (.int .i64 1))], []⟩) (C := (True ∧ (AV.v (.int .i64 ((List.map enc_si p2).length : Int)) = AV.v (.int .i64 (p2.length : Int)))) ∧ ((True) ∧ ((.v (.int .i64 (IntKind.wrap .i64 ((IntKind.wrap .i64 (0 + (p1.length : Int))) + (p2.length : Int)))) : AV) = (.v (.int .i64 v3) : AV))) ∧ True) (by kernel_rfl) ⟨⟨trivial, len_map enc_si p2⟩, ⟨⟨trivial, (congrArg (fun z => AV.v (.int .i64 z)) q2)⟩, trivial⟩⟩ trivial ?_
    refine AX.seq ?_
    refine AX.reg (its := []) [0, 3, 9, 10, 11, 20] [] (s1 := ⟨[(0, .bx [.bs false 2 (List.map enc_si p1), .bs false 2 (List.map enc_si p2)]), (3, .v (.int .i64 v3)), (9, .bx [.bs false 2 (List.map enc_si p1), .bs false 2 (List.map enc_si p2)]), (10, .v (.int .i64 2)), (11, .v (.int .i64 1)), (20, .v (.bool (decide (v3 < 0))))], []⟩) (C := True) (by kernel_rfl) trivial trivial ?_
    rcases bool_cases (decide (v3 < 0)) with b3 | b3
    · replace h := cd_t b3 h
      refine AX.condT (decide (v3 < 0)) (by kernel_rfl) b3 ?_
      cases h
    · replace h := cd_f b3 h
      refine AX.condF (decide (v3 < 0)) (by kernel_rfl) b3 ?_
      refine AX.skip ?_
      refine AX.reg (its := [.auto { raw := true }]) [0, 3, 9, 10, 11] [] (s1 := ⟨[(0, .bx [.bs false 2 (List.map enc_si p1), .bs false 2 (List.map enc_si p2)]), (3, .v (.int .i64 v3)), (9, .bx [.bs false 2 (List.map enc_si p1), .bs false 2 (List.map enc_si p2)]), (10, .v (.int .i64 2)), (11, .v (.int .i64 2))], []⟩) (C := True) (by kernel_rfl) trivial trivial ?_
      refine AXL.step ?_
      refine AX.seq ?_
      refine AX.reg (its := []) [0, 3, 9, 10, 11, 12] [] (s1 := ⟨[(0, .bx [.bs false 2 (List.map enc_si p1), .bs false 2 (List.map enc_si p2)]), (3, .v (.int .i64 v3)), (9, .bx [.bs false 2 (List.map enc_si p1), .bs false 2 (List.map enc_si p2)]), (10, .v (.int .i64 2)), (11, .v (.int .i64 2)), (12, .v (.bool false))], []⟩) (C := True) (by kernel_rfl) trivial trivial ?_
      refine AX.seq ?_
      refine AX.cond_false (by kernel_rfl) ?_
      refine AX.exit ?_
      refine AX.seq ?_
      obtain ⟨x4, e4, h⟩ := bd_e h
      refine AX.reg (its := [.auto {}, .call 174 [.v (.slice none 0 0), .v (.int .i64 v3)] (handO (rho ([] ++ [0])) [] [] ++ []) (callEv [] [0] (.sl 0 0 x4.length) [.arr 2 (List.map enc_si x4)])]) [0, 6] [0] (s1 := ⟨[(0, .bx [.bs false 2 (List.map enc_si p1), .bs false 2 (List.map enc_si p2)]), (6, .sl 0 0 x4.length)], [(0, .arr 2 (List.map enc_si x4))]⟩) (C := ((([.v (.slice none 0 0), .v (.int .i64 v3)] : List AV) = [.v (.slice none 0 0), .v (.int .i64 v3)]) ∧ True) ∧ True) (by kernel_rfl) ⟨⟨rfl, trivial⟩, trivial⟩ ⟨call_ok (ks := []) (ns := [0]) (bor := []) (bobjs := []) (s_slices_Grow_nsi v3 x4 e4) (.cons (.c1 (.c0 (.same _ (by kernel_rfl) (by kernel_rfl)))) (.cons (.c1 (.c0 (.same _ (by kernel_rfl) (by kernel_rfl)))) (.nil))) (by kernel_rfl) trivial, trivial⟩ ?_
      refine AX.seq ?_
      refine AX.seq ?_
      refine AX.reg (its := []) [6, 25, 26, 27] [0] (s1 := ⟨[(6, .sl 0 0 x4.length), (25, .bx [.bs false 2 (List.map enc_si p1), .bs false 2 (List.map enc_si p2)]), (26, .v (.int .i64 2)), (27, .v (.int .i64 0))], [(0, .arr 2 (List.map enc_si x4))]⟩) (C := True) (by kernel_rfl) trivial trivial ?_
      refine AX.block ?_
      refine AXL.start ?_
      refine AXL.step ?_
      refine AX.seq ?_
      refine AX.reg (its := []) [6, 25, 26, 27, 28] [0] (s1 := ⟨[(6, .sl 0 0 x4.length), (25, .bx [.bs false 2 (List.map enc_si p1), .bs false 2 (List.map enc_si p2)]), (26, .v (.int .i64 2)), (27, .v (.int .i64 0)), (28, .v (.bool true))], [(0, .arr 2 (List.map enc_si x4))]⟩) (C := True) (by kernel_rfl) trivial trivial ?_
      refine AX.seq ?_
      refine AX.cond_true (by kernel_rfl) ?_
      refine AX.skip ?_
      refine AX.seq ?_
      refine AX.block ?_
      refine AX.seq ?_
      refine AX.reg (its := []) [6, 8, 25, 26, 27] [0] (s1 := ⟨[(6, .sl 0 0 x4.length), (8, .bs false 2 (List.map enc_si p1)), (25, .bx [.bs false 2 (List.map enc_si p1), .bs false 2 (List.map enc_si p2)]), (26, .v (.int .i64 2)), (27, .v (.int .i64 0))], [(0, .arr 2 (List.map enc_si x4))]⟩) (C := ((0 : Int) ≤ 0 ∧ (0 : Int) < ((2 : Nat) : Int)) ∧ True) (by kernel_rfl) ⟨(by decide), trivial⟩ trivial ?_
      obtain ⟨g5, h⟩ := gd_e h
      refine AX.reg (its := [.auto {}, .auto {}, .auto { y := some (.sl 1 0 ((x4 ++ p1).length)), els := some (List.map enc_si x4), nk := 1 }]) [6, 25, 26, 27] [1] (s1 := ⟨[(6, .sl 1 0 ((x4 ++ p1).length)), (25, .bx [.bs false 2 (List.map enc_si p1), .bs false 2 (List.map enc_si p2)]), (26, .v (.int .i64 2)), (27, .v (.int .i64 0))], [(1, .arr 2 (List.map enc_si x4 ++ List.map enc_si p1))]⟩) (C := ((((((List.map enc_si x4).drop 0).take (x4.length) = List.map enc_si x4) ∧ True) ∧ (List.map enc_si x4).length + (List.map enc_si p1).length ≤ 1099511627776) ∧ (AV.sl 1 0 (List.map enc_si x4 ++ List.map enc_si p1).length = AV.sl 1 0 (x4 ++ p1).length)) ∧ True) (by kernel_rfl) ⟨⟨⟨⟨(dt_all (enc := enc_si) rfl rfl), trivial⟩, (by simp only [List.length_map, List.length_nil, List.length_replicate]; simpa using g5)⟩, sl_len (enc := enc_si) (app_can (enc := enc_si) rfl (rfl))⟩, trivial⟩ trivial ?_
      refine AX.reg (its := [.auto { raw := true }]) [6, 25, 26, 27] [1] (s1 := ⟨[(6, .sl 1 0 ((x4 ++ p1).length)), (25, .bx [.bs false 2 (List.map enc_si p1), .bs false 2 (List.map enc_si p2)]), (26, .v (.int .i64 2)), (27, .v (.int .i64 1))], [(1, .arr 2 (List.map enc_si x4 ++ List.map enc_si p1))]⟩) (C := True) (by kernel_rfl) trivial trivial ?_
      refine AXL.step ?_
      refine AX.seq ?_
      refine AX.reg (its := []) [6, 25, 26, 27, 28] [1] (s1 := ⟨[(6, .sl 1 0 ((x4 ++ p1).length)), (25, .bx [.bs false 2 (List.map enc_si p1), .bs false 2 (List.map enc_si p2)]), (26, .v (.int .i64 2)), (27, .v (.int .i64 1)), (28, .v (.bool true))], [(1, .arr 2 (List.map enc_si x4 ++ List.map enc_si p1))]⟩) (C := True) (by kernel_rfl) trivial trivial ?_
      refine AX.seq ?_
      refine AX.cond_true (by kernel_rfl) ?_
      refine AX.skip ?_
      refine AX.seq ?_
      refine AX.block ?_
      refine AX.seq ?_
      refine AX.reg (its := []) [6, 8, 25, 26, 27] [1] (s1 := ⟨[(6, .sl 1 0 ((x4 ++ p1).length)), (8, .bs false 2 (List.map enc_si p2)), (25, .bx [.bs false 2 (List.map enc_si p1), .bs false 2 (List.map enc_si p2)]), (26, .v (.int .i64 2)), (27, .v (.int .i64 1))], [(1, .arr 2 (List.map enc_si x4 ++ List.map enc_si p1))]⟩) (C := ((0 : Int) ≤ 1 ∧ (1 : Int) < ((2 : Nat) : Int)) ∧ True) (by kernel_rfl) ⟨(by decide), trivial⟩ trivial ?_
      obtain ⟨g6, h⟩ := gd_e h
      refine AX.reg (its := [.auto {}, .auto {}, .auto { y := some (.sl 2 0 (((x4 ++ p1) ++ p2).length)), els := some (List.map enc_si (x4 ++ p1)), nk := 2 }]) [6, 25, 26, 27] [2] (s1 := ⟨[(6, .sl 2 0 (((x4 ++ p1) ++ p2).length)), (25, .bx [.bs false 2 (List.map enc_si p1), .bs false 2 (List.map enc_si p2)]), (26, .v (.int .i64 2)), (27, .v (.int .i64 1))], [(2, .arr 2 (List.map enc_si (x4 ++ p1) ++ List.map enc_si p2))]⟩) (C := ((((((List.map enc_si x4 ++ List.map enc_si p1).drop 0).take ((x4 ++ p1).length) = List.map enc_si (x4 ++ p1)) ∧ True) ∧ (List.map enc_si (x4 ++ p1)).length + (List.map enc_si p2).length ≤ 1099511627776) ∧ (AV.sl 2 0 (List.map enc_si (x4 ++ p1) ++ List.map enc_si p2).length = AV.sl 2 0 ((x4 ++ p1) ++ p2).length)) ∧ True) (by kernel_rfl) ⟨⟨⟨⟨(dt_all (enc := enc_si) (app_can (enc := enc_si) rfl (rfl) : List.map enc_si x4 ++ List.map enc_si p1 = List.map enc_si (x4 ++ p1)) rfl), trivial⟩, (by simp only [List.length_map, List.length_nil, List.length_replicate]; simpa using g6)⟩, sl_len (enc := enc_si) (app_can (enc := enc_si) rfl (rfl))⟩, trivial⟩ trivial ?_
      refine AX.reg (its := [.auto { raw := true }]) [6, 25, 26, 27] [2] (s1 := ⟨[(6, .sl 2 0 (((x4 ++ p1) ++ p2).length)), (25, .bx [.bs false 2 (List.map enc_si p1), .bs false 2 (List.map enc_si p2)]), (26, .v (.int .i64 2)), (27, .v (.int .i64 2))], [(2, .arr 2 (List.map enc_si (x4 ++ p1) ++ List.map enc_si p2))]⟩) (C := True) (by kernel_rfl) trivial trivial ?_
      refine AXL.step ?_
      refine AX.seq ?_
      refine AX.reg (its := []) [6, 25, 26, 27, 28] [2] (s1 := ⟨[(6, .sl 2 0 (((x4 ++ p1) ++ p2).length)), (25, .bx [.bs false 2 (List.map enc_si p1), .bs false 2 (List.map enc_si p2)]), (26, .v (.int .i64 2)), (27, .v (.int .i64 2)), (28, .v (.bool false))], [(2, .arr 2 (List.map enc_si (x4 ++ p1) ++ List.map enc_si p2))]⟩) (C := True) (by kernel_rfl) trivial trivial ?_
      refine AX.seq ?_
      refine AX.cond_false (by kernel_rfl) ?_
      refine AX.exit ?_
      refine AX.seq ?_
      refine AX.reg (its := []) [2] [2] (s1 := ⟨[(2, .sl 2 0 (((x4 ++ p1) ++ p2).length))], [(2, .arr 2 (List.map enc_si (x4 ++ p1) ++ List.map enc_si p2))]⟩) (C := True) (by kernel_rfl) trivial trivial ?_
      refine AX.ret ?_
      refine fin_wk (Wk.swap 0 2 (Nat.le_of_ble_eq_true (by kernel_rfl)) (Nat.le_of_ble_eq_true (by kernel_rfl)) rfl) ?_
      refine fin_wk (Wk.forget [2] [0] (s' := ⟨[(2, .sl 0 0 (((x4 ++ p1) ++ p2).length))], [(0, .arr 2 (List.map enc_si (x4 ++ p1) ++ List.map enc_si p2))]⟩) (by kernel_rfl)) ?_
      refine fin_wk (Wk.of_eq (congrArg (fun z => (⟨[(2, .sl 0 0 (((x4 ++ p1) ++ p2).length))], [(0, .arr 2 (z))]⟩ : S)) (app_can (enc := enc_si) rfl (rfl) : List.map enc_si (x4 ++ p1) ++ List.map enc_si p2 = List.map enc_si ((x4 ++ p1) ++ p2)))) ?_
      have hr := Option.some.inj h
      subst hr
      exact ⟨_, Wk.refl _, .inr rfl, ⟨[0], by kernel_rfl, ⟨rfl, trivial⟩, [.sl 0 0 (((x4 ++ p1) ++ p2).length)], by kernel_rfl, by kernel_rfl⟩⟩

theorem s_impl_fewest_L1 (rec : (List (ByteArray × Int)) → Int → Int → Option ((List (ByteArray × Int)) × Bool)) (ih : ∀ (p1 : List (ByteArray × Int)) (p2 : Int) (p3 : Int) (r : (List (ByteArray × Int)) × Bool) (h : rec p1 p2 p3 = some r), Eng.Spec Tryd.prog 122 [.bs false 2 (List.map enc_si p1), .v (.int .i64 p2), .v (.int .i64 p3)] [] (.tup [.sl 0 0 r.1.length, .v (.bool r.2)]) [.arr 2 (List.map enc_si r.1)]) (p1 : List (ByteArray × Int)) (p2 : Int) (p3 : Int) (n : Nat) (g : Int) (out : List (ByteArray × Int) ⊕ Unit) (h : m_impl_fewest_L1 rec p1 p2 p3 n g = some out) :
    AX Tryd.prog 44 0 (codeAt [1, 1, 0, 1, 1] (bodyOf Tryd.f122)) ((fun g : Int => (⟨[(0, .bs false 2 (List.map enc_si p1)), (1, .v (.int .i64 p2)), (2, .v (.int .i64 p3)), (16, .bs false 2 (List.map enc_si p1)), (17, .v (.int .i64 (p1.length : Int))), (18, .v (.int .i64 g))], []⟩ : S)) g) (fun ex s => (∃ o : List (ByteArray × Int), out = Sum.inl o ∧ ex = .ret ∧ s = ⟨[(6, .sl 0 0 o.length), (7, .v (.bool true))], [(0, .arr 2 (List.map enc_si o))]⟩) ∨ (∃ o : Unit, out = Sum.inr o ∧ ex = .exit 0 ∧ s = ⟨[], []⟩)) := by
  refine AX.wkpost ?_
  refine AX.loop (G := Nat × (Int)) (fun q => (fun g : Int => (⟨[(0, .bs false 2 (List.map enc_si p1)), (1, .v (.int .i64 p2)), (2, .v (.int .i64 p3)), (16, .bs false 2 (List.map enc_si p1)), (17, .v (.int .i64 (p1.length : Int))), (18, .v (.int .i64 g))], []⟩ : S)) q.2) (fun q => m_impl_fewest_L1 rec p1 p2 p3 q.1 q.2 = some out) (fun q => q.1) (n, g) h (Wk.refl _) ?_
  clear h
  rintro ⟨fu, v4⟩ h
  cases fu with
  | zero => cases h
  | succ fu =>
    rw [m_impl_fewest_L1] at h
    refine AX.seq ?_
    refine AX.reg (its := []) [0, 1, 2, 16, 17, 18, 19] [] (s1 := ⟨[(0, .bs false 2 (List.map enc_si p1)), (1, .v (.int .i64 p2)), (2, .v (.int .i64 p3)), (16, .bs false 2 (List.map enc_si p1)), (17, .v (.int .i64 (p1.length : Int))), (18, .v (.int .i64 v4)), (19, .v (.bool (decide (v4 < (p1.length : Int)))))], []⟩) (C := True) (by kernel_rfl) trivial trivial ?_
    refine AX.seq ?_
    rcases bool_cases (decide (v4 < (p1.length : Int))) with b2 | b2
    · replace h := cd_t b2 h
      refine AX.condT (decide (v4 < (p1.length : Int))) (by kernel_rfl) b2 ?_
      refine AX.skip ?_
      refine AX.seq ?_
      refine AX.block ?_
      refine AX.seq ?_
      obtain ⟨g3, h⟩ := gd_e h
      refine AX.reg (its := [.auto {}, .auto { y := some (.be 2 (enc_si (gt p1 v4)) 0) }, .auto {}, .auto { nk := 0 }]) [0, 1, 2, 8, 9, 16, 17, 18] [0] (s1 := ⟨[(0, .bs false 2 (List.map enc_si p1)), (1, .v (.int .i64 p2)), (2, .v (.int .i64 p3)), (8, .v (.int .i64 v4)), (9, .pt 0 0), (16, .bs false 2 (List.map enc_si p1)), (17, .v (.int .i64 (p1.length : Int))), (18, .v (.int .i64 v4))], [(0, .box [.v (.string ((gt p1 v4).1)), .v (.int .i64 ((gt p1 v4).2))])]⟩) (C := ((0 ≤ v4 ∧ v4 < ((List.map enc_si p1).length : Int)) ∧ (AV.be 2 ((List.map enc_si p1).getD v4.toNat []) 0 = AV.be 2 (enc_si (gt p1 v4)) 0)) ∧ True) (by kernel_rfl) ⟨idx_bs enc_si p1 v4 2 g3, trivial⟩ trivial ?_
      refine AX.seq ?_
      obtain ⟨g4, h⟩ := gd_e h
      obtain ⟨x5, e5, h⟩ := bd_e h
      refine AX.drw mixed (its := [.auto {}, .auto {}, .auto { raw := true }, .auto { y := some (.bs false 2 (List.map enc_si (sub p1 (IntKind.wrap .i64 (v4 + 1)) (p1.length : Int)))) }, .auto {}, .auto { raw := true }, .auto {}, .auto {}, .auto {}, .auto {}, .call 122 [.bs false 2 (List.map enc_si (sub p1 (IntKind.wrap .i64 (v4 + 1)) (p1.length : Int))), .v (.int .i64 (IntKind.wrap .i64 (p2 - 1))), .v (.int .i64 (Go.bits .andNot .i64 p3 ((gt p1 v4).2)))] (handO (rho ([] ++ [1])) [] [] ++ []) (callEv [] [1] (.tup [.sl 0 0 x5.1.length, .v (.bool x5.2)]) [.arr 2 (List.map enc_si x5.1)])]) [0, 1, 2, 9, 10, 11, 16, 17, 18] [0, 1] (s1 := ⟨[(0, .bs false 2 (List.map enc_si p1)), (1, .v (.int .i64 p2)), (2, .v (.int .i64 p3)), (9, .pt 0 0), (10, .sl 1 0 x5.1.length), (11, .v (.bool x5.2)), (16, .bs false 2 (List.map enc_si p1)), (17, .v (.int .i64 (p1.length : Int))), (18, .v (.int .i64 v4))], [(0, .box [.v (.string ((gt p1 v4).1)), .v (.int .i64 ((gt p1 v4).2))]), (1, .arr 2 (List.map enc_si x5.1))]⟩) (C := ((0 ≤ (IntKind.wrap .i64 (v4 + 1)) ∧ (IntKind.wrap .i64 (v4 + 1)) ≤ ((List.map enc_si p1).length : Int) ∧ ((List.map enc_si p1).length : Int) ≤ ((List.map enc_si p1).length : Int) ∧ ((List.map enc_si p1).length : Int) ≤ ((List.map enc_si p1).length : Int)) ∧ (AV.bs false 2 (((List.map enc_si p1).drop (IntKind.wrap .i64 (v4 + 1)).toNat).take (((List.map enc_si p1).length : Int).toNat - (IntKind.wrap .i64 (v4 + 1)).toNat)) = (.bs false 2 (List.map enc_si (sub p1 (IntKind.wrap .i64 (v4 + 1)) (p1.length : Int))) : AV))) ∧ ((([.bs false 2 (List.map enc_si (sub p1 (IntKind.wrap .i64 (v4 + 1)) (p1.length : Int))), .v (.int .i64 (IntKind.wrap .i64 (p2 - 1))), .v (.int .i64 (Go.bits .andNot .i64 p3 ((gt p1 v4).2)))] : List AV) = [.bs false 2 (List.map enc_si (sub p1 (IntKind.wrap .i64 (v4 + 1)) (p1.length : Int))), .v (.int .i64 (IntKind.wrap .i64 (p2 - 1))), .v (.int .i64 (Go.bits .andNot .i64 p3 ((gt p1 v4).2)))]) ∧ True) ∧ True) (by kernel_rfl) ⟨⟨by first | exact g4 | simpa only [List.length_map] using g4, by first | exact sub_can enc_si p1 (IntKind.wrap .i64 (v4 + 1)) (p1.length : Int) false 2 | (simp only [List.length_map]; exact sub_can enc_si p1 (IntKind.wrap .i64 (v4 + 1)) (p1.length : Int) false 2)⟩, ⟨⟨rfl, trivial⟩, trivial⟩⟩ ⟨call_ok (ks := []) (ns := [1]) (bor := []) (bobjs := []) (ih (sub p1 (IntKind.wrap .i64 (v4 + 1)) (p1.length : Int)) (IntKind.wrap .i64 (p2 - 1)) (Go.bits .andNot .i64 p3 ((gt p1 v4).2)) x5 e5) (.cons (.c1 (.c0 (.same _ (by kernel_rfl) (by kernel_rfl)))) (.cons (.c1 (.c0 (.same _ (by kernel_rfl) (by kernel_rfl)))) (.cons (.c1 (.c0 (.same _ (by kernel_rfl) (by kernel_rfl)))) (.nil)))) (by kernel_rfl) trivial, trivial⟩ ?_
      refine AX.seq ?_
      refine AX.reg (its := []) [0, 1, 2, 9, 10, 16, 17, 18, 37] [0, 1] (s1 := ⟨[(0, .bs false 2 (List.map enc_si p1)), (1, .v (.int .i64 p2)), (2, .v (.int .i64 p3)), (9, .pt 0 0), (10, .sl 1 0 x5.1.length), (16, .bs false 2 (List.map enc_si p1)), (17, .v (.int .i64 (p1.length : Int))), (18, .v (.int .i64 v4)), (37, .v (.bool x5.2))], [(0, .box [.v (.string ((gt p1 v4).1)), .v (.int .i64 ((gt p1 v4).2))]), (1, .arr 2 (List.map enc_si x5.1))]⟩) (C := True) (by kernel_rfl) trivial trivial ?_
      rcases bool_cases (x5.2) with b6 | b6
      · replace h := cd_t b6 h
        refine AX.condT (x5.2) (by kernel_rfl) b6 ?_
        refine AX.seq ?_
        obtain ⟨x6, e7, h⟩ := bd_e h
        refine AX.reg (its := [.auto {}, .auto { nk := 2 }, .auto {}, .auto { raw := true, nk := 3 }, .call 152 [.sx 3 2] (handO (rho ([] ++ [4])) [] [] ++ [(3, .box [.sl 2 0 (([((gt p1 v4).1, (gt p1 v4).2)] : List (ByteArray × Int)).length), .sl 1 0 x5.1.length]), (2, .arr 2 (List.map enc_si ([((gt p1 v4).1, (gt p1 v4).2)] : List (ByteArray × Int)))), (1, .arr 2 (List.map enc_si x5.1))]) (callEv [] [4] (.sl 0 0 x6.length) [.arr 2 (List.map enc_si x6)])]) [6, 7] [4] (s1 := ⟨[(6, .sl 4 0 x6.length), (7, .v (.bool true))], [(4, .arr 2 (List.map enc_si x6))]⟩) (C := ((([.sx 3 2] : List AV) = [.sx 3 2]) ∧ (AO.box [.sl 2 0 (([((gt p1 v4).1, (gt p1 v4).2)] : List (ByteArray × Int)).length), .sl 1 0 x5.1.length] = AO.box [.sl 2 0 (([((gt p1 v4).1, (gt p1 v4).2)] : List (ByteArray × Int)).length), .sl 1 0 x5.1.length]) ∧ (AO.arr 2 (List.map enc_si ([((gt p1 v4).1, (gt p1 v4).2)] : List (ByteArray × Int))) = AO.arr 2 (List.map enc_si ([((gt p1 v4).1, (gt p1 v4).2)] : List (ByteArray × Int)))) ∧ (AO.arr 2 (List.map enc_si x5.1) = AO.arr 2 (List.map enc_si x5.1)) ∧ True) ∧ True) (by kernel_rfl) ⟨⟨rfl, rfl, rfl, rfl, trivial⟩, trivial⟩ ⟨call_ok (ks := []) (ns := [4]) (bor := [3, 2, 1]) (bobjs := [(3, .box [.sl 2 0 (([((gt p1 v4).1, (gt p1 v4).2)] : List (ByteArray × Int)).length), .sl 1 0 x5.1.length]), (2, .arr 2 (List.map enc_si ([((gt p1 v4).1, (gt p1 v4).2)] : List (ByteArray × Int)))), (1, .arr 2 (List.map enc_si x5.1))]) (s_slices_Concat_x2sisi ([((gt p1 v4).1, (gt p1 v4).2)] : List (ByteArray × Int)) x5.1 x6 e7) (.cons (.c1 (.sx rfl rfl (.cons (.arr rfl rfl ((rfl).trans (List.length_map ..).symm)) (.cons (.arr rfl rfl ((rfl).trans (List.length_map ..).symm)) (.nil))))) (.nil)) (by kernel_rfl) trivial, trivial⟩ ?_
        refine AX.ret ?_
        refine fin_wk (Wk.swap 0 4 (Nat.le_of_ble_eq_true (by kernel_rfl)) (Nat.le_of_ble_eq_true (by kernel_rfl)) rfl) ?_
        refine fin_wk (Wk.forget [6, 7] [0] (s' := ⟨[(6, .sl 0 0 x6.length), (7, .v (.bool true))], [(0, .arr 2 (List.map enc_si x6))]⟩) (by kernel_rfl)) ?_
        have hr := Option.some.inj h
        subst hr
        exact ⟨_, Wk.refl _, .inl ⟨x6, rfl, rfl, rfl⟩⟩
      · replace h := cd_f b6 h
        refine AX.condF (x5.2) (by kernel_rfl) b6 ?_
        refine AX.skip ?_
        refine AX.reg (its := [.auto { raw := true }]) [0, 1, 2, 16, 17, 18] [] (s1 := ⟨[(0, .bs false 2 (List.map enc_si p1)), (1, .v (.int .i64 p2)), (2, .v (.int .i64 p3)), (16, .bs false 2 (List.map enc_si p1)), (17, .v (.int .i64 (p1.length : Int))), (18, .v (.int .i64 (IntKind.wrap .i64 (v4 + 1))))], []⟩) (C := True) (by kernel_rfl) trivial trivial ?_
        refine ⟨(fu, IntKind.wrap .i64 (v4 + 1)), h, Nat.lt_succ_self _, ?_⟩
        refine Wk.trans (Wk.forget [0, 1, 2, 16, 17, 18] [] (s' := ⟨[(0, .bs false 2 (List.map enc_si p1)), (1, .v (.int .i64 p2)), (2, .v (.int .i64 p3)), (16, .bs false 2 (List.map enc_si p1)), (17, .v (.int .i64 (p1.length : Int))), (18, .v (.int .i64 (IntKind.wrap .i64 (v4 + 1))))], []⟩) (by kernel_rfl)) ?_
        exact Wk.refl _
    · replace h := cd_f b2 h
      refine AX.condF (decide (v4 < (p1.length : Int))) (by kernel_rfl) b2 ?_
      refine AX.exit ?_
      refine fin_wk (Wk.forget [] [] (s' := ⟨[], []⟩) (by kernel_rfl)) ?_
      have hr := Option.some.inj h
      subst hr
      exact ⟨_, Wk.refl _, .inr ⟨(), rfl, rfl, rfl⟩⟩

theorem s_impl_fewest : ∀ (fu : Nat) (p1 : List (ByteArray × Int)) (p2 : Int) (p3 : Int) (r : (List (ByteArray × Int)) × Bool) (h : m_impl_fewest fu p1 p2 p3 = some r),
    Eng.Spec Tryd.prog 122 [.bs false 2 (List.map enc_si p1), .v (.int .i64 p2), .v (.int .i64 p3)] [] (.tup [.sl 0 0 r.1.length, .v (.bool r.2)]) [.arr 2 (List.map enc_si r.1)] := by
  intro fu
  induction fu with
  | zero => intro p1 p2 p3 r h; cases h
  | succ fu ih =>
    intro p1 p2 p3 r h
    rw [m_impl_fewest] at h
    refine Eng.Spec.body Tryd.func122 (by kernel_rfl) rfl (by kernel_rfl) ?_
    refine AX.wkpost ?_
    refine AX.seq ?_
    refine AX.reg (its := []) [0, 1, 2] [] (s1 := ⟨[(0, .bs false 2 (List.map enc_si p1)), (1, .v (.int .i64 p2)), (2, .v (.int .i64 p3))], []⟩) (C := True) (by kernel_rfl) trivial trivial ?_
    refine AX.seq ?_
    refine AX.seq ?_
    refine AX.reg (its := []) [0, 1, 2, 13] [] (s1 := ⟨[(0, .bs false 2 (List.map enc_si p1)), (1, .v (.int .i64 p2)), (2, .v (.int .i64 p3)), (13, .v (.bool (decide (p2 = 0))))], []⟩) (C := True) (by kernel_rfl) trivial trivial ?_
    rcases bool_cases (decide (p2 = 0)) with b1 | b1
    · replace h := cd_t b1 h
      refine AX.condT (decide (p2 = 0)) (by kernel_rfl) b1 ?_
      refine AX.seq ?_
      refine AX.reg (its := []) [6, 7] [] (s1 := ⟨[(6, .v (.slice none 0 0)), (7, .v (.bool (decide (p3 = 0))))], []⟩) (C := True) (by kernel_rfl) trivial trivial ?_
      refine AX.ret ?_
      refine fin_wk (Wk.mat 6 0 2 (by kernel_rfl) (Nat.le_of_ble_eq_true (by kernel_rfl)) (by kernel_rfl) rfl) ?_
      refine fin_wk (Wk.forget [6, 7] [0] (s' := ⟨[(6, .sl 0 0 (([] : List (ByteArray × Int)).length)), (7, .v (.bool (decide (p3 = 0))))], [(0, .arr 2 (List.map enc_si ([] : List (ByteArray × Int))))]⟩) (by kernel_rfl)) ?_
      have hr := Option.some.inj h
      subst hr
      exact ⟨_, Wk.refl _, .inr rfl, ⟨[0], by kernel_rfl, ⟨rfl, trivial⟩, [.sl 0 0 (([] : List (ByteArray × Int)).length), .v (.bool (decide (p3 = 0)))], by kernel_rfl, by kernel_rfl⟩⟩
    · replace h := cd_f b1 h
      refine AX.condF (decide (p2 = 0)) (by kernel_rfl) b1 ?_
      refine AX.skip ?_
      refine AX.seq ?_
      refine AX.seq ?_
      refine AX.reg (its := [.auto {}, .auto { y := some (.v (.int .i64 (p1.length : Int))) }]) [0, 1, 2, 16, 17, 18] [] (s1 := ⟨[(0, .bs false 2 (List.map enc_si p1)), (1, .v (.int .i64 p2)), (2, .v (.int .i64 p3)), (16, .bs false 2 (List.map enc_si p1)), (17, .v (.int .i64 (p1.length : Int))), (18, .v (.int .i64 0))], []⟩) (C := (True ∧ (AV.v (.int .i64 ((List.map enc_si p1).length : Int)) = AV.v (.int .i64 (p1.length : Int)))) ∧ True) (by kernel_rfl) ⟨⟨trivial, len_map enc_si p1⟩, trivial⟩ trivial ?_
      refine AX.block ?_
      obtain ⟨x7, e8, h⟩ := bd_e h
      refine AX.wk (Wk.forget [0, 1, 2, 16, 17, 18] [] (s' := ⟨[(0, .bs false 2 (List.map enc_si p1)), (1, .v (.int .i64 p2)), (2, .v (.int .i64 p3)), (16, .bs false 2 (List.map enc_si p1)), (17, .v (.int .i64 (p1.length : Int))), (18, .v (.int .i64 0))], []⟩) (by kernel_rfl)) ?_
      refine AX.mono (s_impl_fewest_L1 (m_impl_fewest fu) ih p1 p2 p3 FU 0 x7 e8) ?_
      rintro _ _ (⟨x8, rfl, rfl, rfl⟩ | ⟨x9, rfl, rfl, rfl⟩)
      · replace h := sm_l h
        refine fin_wk (Wk.forget [6, 7] [0] (s' := ⟨[(6, .sl 0 0 x8.length), (7, .v (.bool true))], [(0, .arr 2 (List.map enc_si x8))]⟩) (by kernel_rfl)) ?_
        have hr := Option.some.inj h
        subst hr
        exact ⟨_, Wk.refl _, .inr rfl, ⟨[0], by kernel_rfl, ⟨rfl, trivial⟩, [.sl 0 0 x8.length, .v (.bool true)], by kernel_rfl, by kernel_rfl⟩⟩
      · replace h := sm_r h
        refine AX.seq ?_
        refine AX.reg (its := []) [6, 7] [] (s1 := ⟨[(6, .v (.slice none 0 0)), (7, .v (.bool false))], []⟩) (C := True) (by kernel_rfl) trivial trivial ?_
        refine AX.ret ?_
        refine fin_wk (Wk.mat 6 0 2 (by kernel_rfl) (Nat.le_of_ble_eq_true (by kernel_rfl)) (by kernel_rfl) rfl) ?_
        refine fin_wk (Wk.forget [6, 7] [0] (s' := ⟨[(6, .sl 0 0 (([] : List (ByteArray × Int)).length)), (7, .v (.bool false))], [(0, .arr 2 (List.map enc_si ([] : List (ByteArray × Int))))]⟩) (by kernel_rfl)) ?_
        have hr := Option.some.inj h
        subst hr
        exact ⟨_, Wk.refl _, .inr rfl, ⟨[0], by kernel_rfl, ⟨rfl, trivial⟩, [.sl 0 0 (([] : List (ByteArray × Int)).length), .v (.bool false)], by kernel_rfl, by kernel_rfl⟩⟩

theorem s_impl_Flag_short_L1 (x4 : List (ByteArray × Int)) (n : Nat) (g : Int) (out : List (ByteArray × Int)) (h : m_impl_Flag_short_L1 x4 n g = some out) :
    AX Tryd.prog 24 0 (codeAt [1, 1, 1, 1] (bodyOf Tryd.f74)) ((fun g : Int => (⟨[(5, .sl 0 0 x4.length), (6, .v (.int .i64 g))], [(0, .arr 2 (List.map enc_si x4))]⟩ : S)) g) (fun ex s => ex = .ret ∧ s = (fun o : List (ByteArray × Int) => (⟨[(4, .sl 0 0 o.length)], [(0, .arr 2 (List.map enc_si o))]⟩ : S)) out) := by
  refine AX.wkpost ?_
  refine AX.loop (G := Nat × (Int)) (fun q => (fun g : Int => (⟨[(5, .sl 0 0 x4.length), (6, .v (.int .i64 g))], [(0, .arr 2 (List.map enc_si x4))]⟩ : S)) q.2) (fun q => m_impl_Flag_short_L1 x4 q.1 q.2 = some out) (fun q => q.1) (n, g) h (Wk.refl _) ?_
  clear h
  rintro ⟨fu, v5⟩ h
  cases fu with
  | zero => cases h
  | succ fu =>
    rw [m_impl_Flag_short_L1] at h
    refine AX.seq ?_
    refine AX.block ?_
    refine AX.seq ?_
    obtain ⟨x6, e2, h⟩ := bd_e h
    obtain ⟨x7, e3, h⟩ := bd_e h
    refine AX.reg (its := [.auto {}, .auto {}, .auto {}, .call 77 [.sl 0 0 x4.length] (handO (rho ([] ++ [])) [] [] ++ [(0, .arr 2 (List.map enc_si x4))]) (callEv [] [] (.v (.int .i64 x6)) []), .call 122 [.sl 0 0 x4.length, .v (.int .i64 v5), .v (.int .i64 x6)] (handO (rho ([] ++ [1])) [] [] ++ [(0, .arr 2 (List.map enc_si x4))]) (callEv [] [1] (.tup [.sl 0 0 x7.1.length, .v (.bool x7.2)]) [.arr 2 (List.map enc_si x7.1)])]) [5, 6, 7, 8] [0, 1] (s1 := ⟨[(5, .sl 0 0 x4.length), (6, .v (.int .i64 v5)), (7, .sl 1 0 x7.1.length), (8, .v (.bool x7.2))], [(0, .arr 2 (List.map enc_si x4)), (1, .arr 2 (List.map enc_si x7.1))]⟩) (C := ((([.sl 0 0 x4.length] : List AV) = [.sl 0 0 x4.length]) ∧ (AO.arr 2 (List.map enc_si x4) = AO.arr 2 (List.map enc_si x4)) ∧ True) ∧ ((([.sl 0 0 x4.length, .v (.int .i64 v5), .v (.int .i64 x6)] : List AV) = [.sl 0 0 x4.length, .v (.int .i64 v5), .v (.int .i64 x6)]) ∧ (AO.arr 2 (List.map enc_si x4) = AO.arr 2 (List.map enc_si x4)) ∧ True) ∧ True) (by kernel_rfl) ⟨⟨rfl, rfl, trivial⟩, ⟨⟨rfl, rfl, trivial⟩, trivial⟩⟩ ⟨call_ok (ks := []) (ns := []) (bor := [0]) (bobjs := [(0, .arr 2 (List.map enc_si x4))]) (s_impl_together x4 x6 e2) (.cons (.c1 (.c0 (.arr rfl rfl ((rfl).trans (List.length_map ..).symm)))) (.nil)) (by kernel_rfl) trivial, ⟨call_ok (ks := []) (ns := [1]) (bor := [0]) (bobjs := [(0, .arr 2 (List.map enc_si x4))]) (s_impl_fewest FU x4 v5 x6 x7 e3) (.cons (.c1 (.c0 (.arr rfl rfl ((rfl).trans (List.length_map ..).symm)))) (.cons (.c1 (.c0 (.same _ (by kernel_rfl) (by kernel_rfl)))) (.cons (.c1 (.c0 (.same _ (by kernel_rfl) (by kernel_rfl)))) (.nil)))) (by kernel_rfl) trivial, trivial⟩⟩ ?_
    refine AX.seq ?_
    refine AX.reg (its := []) [5, 6, 7, 22] [0, 1] (s1 := ⟨[(5, .sl 0 0 x4.length), (6, .v (.int .i64 v5)), (7, .sl 1 0 x7.1.length), (22, .v (.bool x7.2))], [(0, .arr 2 (List.map enc_si x4)), (1, .arr 2 (List.map enc_si x7.1))]⟩) (C := True) (by kernel_rfl) trivial trivial ?_
    rcases bool_cases (x7.2) with b4 | b4
    · replace h := cd_t b4 h
      refine AX.condT (x7.2) (by kernel_rfl) b4 ?_
      refine AX.seq ?_
      refine AX.reg (its := []) [4] [1] (s1 := ⟨[(4, .sl 1 0 x7.1.length)], [(1, .arr 2 (List.map enc_si x7.1))]⟩) (C := True) (by kernel_rfl) trivial trivial ?_
      refine AX.ret ?_
      refine fin_wk (Wk.swap 0 1 (Nat.le_of_ble_eq_true (by kernel_rfl)) (Nat.le_of_ble_eq_true (by kernel_rfl)) rfl) ?_
      refine fin_wk (Wk.forget [4] [0] (s' := ⟨[(4, .sl 0 0 x7.1.length)], [(0, .arr 2 (List.map enc_si x7.1))]⟩) (by kernel_rfl)) ?_
      have hr := Option.some.inj h
      subst hr
      exact ⟨_, Wk.refl _, ⟨rfl, rfl⟩⟩
    · replace h := cd_f b4 h
      refine AX.condF (x7.2) (by kernel_rfl) b4 ?_
      refine AX.skip ?_
      refine AX.reg (its := [.auto {}, .auto { raw := true }]) [5, 6] [0] (s1 := ⟨[(5, .sl 0 0 x4.length), (6, .v (.int .i64 (IntKind.wrap .i64 (v5 + 1))))], [(0, .arr 2 (List.map enc_si x4))]⟩) (C := True) (by kernel_rfl) trivial trivial ?_
      refine ⟨(fu, IntKind.wrap .i64 (v5 + 1)), h, Nat.lt_succ_self _, ?_⟩
      refine Wk.trans (Wk.forget [5, 6] [0] (s' := ⟨[(5, .sl 0 0 x4.length), (6, .v (.int .i64 (IntKind.wrap .i64 (v5 + 1))))], [(0, .arr 2 (List.map enc_si x4))]⟩) (by kernel_rfl)) ?_
      exact Wk.refl _

theorem s_impl_Flag_short (p1 : List (ByteArray × Int)) (p2 : Int) (p3 : Int) (r : List (ByteArray × Int)) (h : m_impl_Flag_short p1 p2 p3 = some r) :
    Eng.Spec Tryd.prog 74 [.agg [.bs false 2 (List.map enc_si p1), .v (.int .i64 p2)], .v (.int .i64 p3)] [] (.sl 0 0 r.length) [.arr 2 (List.map enc_si r)] := by
  unfold m_impl_Flag_short at h
  refine Eng.Spec.body Tryd.func74 (by kernel_rfl) rfl (by kernel_rfl) ?_
  refine AX.wkpost ?_
  refine AX.seq ?_
  refine AX.reg (its := [.auto { nk := 0 }]) [1, 2] [0] (s1 := ⟨[(1, .v (.int .i64 p3)), (2, .pt 0 0)], [(0, .box [.bs false 2 (List.map enc_si p1), .v (.int .i64 p2)])]⟩) (C := True) (by kernel_rfl) trivial trivial ?_
  refine AX.seq ?_
  obtain ⟨x4, e1, h⟩ := bd_e h
  refine AX.reg (its := [.auto {}, .auto {}, .call 121 [.agg [.bs false 2 (List.map enc_si p1), .v (.int .i64 p2)], .v (.int .i64 p3)] (handO (rho ([] ++ [1])) [] [] ++ []) (callEv [] [1] (.sl 0 0 x4.length) [.arr 2 (List.map enc_si x4)])]) [5] [1] (s1 := ⟨[(5, .sl 1 0 x4.length)], [(1, .arr 2 (List.map enc_si x4))]⟩) (C := ((([.agg [.bs false 2 (List.map enc_si p1), .v (.int .i64 p2)], .v (.int .i64 p3)] : List AV) = [.agg [.bs false 2 (List.map enc_si p1), .v (.int .i64 p2)], .v (.int .i64 p3)]) ∧ True) ∧ True) (by kernel_rfl) ⟨⟨rfl, trivial⟩, trivial⟩ ⟨call_ok (ks := []) (ns := [1]) (bor := []) (bobjs := []) (s_impl_Flag_fitting p1 p2 p3 x4 e1) (.cons (.c1 (.agg (.cons (.same _ (by kernel_rfl) (by kernel_rfl)) (.cons (.same _ (by kernel_rfl) (by kernel_rfl)) (.nil))))) (.cons (.c1 (.c0 (.same _ (by kernel_rfl) (by kernel_rfl)))) (.nil))) (by kernel_rfl) trivial, trivial⟩ ?_
  refine AX.seq ?_
  refine AX.reg (its := []) [5, 6] [1] (s1 := ⟨[(5, .sl 1 0 x4.length), (6, .v (.int .i64 0))], [(1, .arr 2 (List.map enc_si x4))]⟩) (C := True) (by kernel_rfl) trivial trivial ?_
  refine AX.block ?_
  obtain ⟨x8, e5, h⟩ := bd_e h
  refine AX.wk (Wk.swap 0 1 (Nat.le_of_ble_eq_true (by kernel_rfl)) (Nat.le_of_ble_eq_true (by kernel_rfl)) rfl) ?_
  refine AX.wk (Wk.forget [5, 6] [0] (s' := ⟨[(5, .sl 0 0 x4.length), (6, .v (.int .i64 0))], [(0, .arr 2 (List.map enc_si x4))]⟩) (by kernel_rfl)) ?_
  refine AX.mono (s_impl_Flag_short_L1 x4 FU 0 x8 e5) ?_
  rintro _ _ ⟨rfl, rfl⟩
  skip
  refine fin_wk (Wk.forget [4] [0] (s' := ⟨[(4, .sl 0 0 x8.length)], [(0, .arr 2 (List.map enc_si x8))]⟩) (by kernel_rfl)) ?_
  have hr := Option.some.inj h
  subst hr
  exact ⟨_, Wk.refl _, .inr rfl, ⟨[0], by kernel_rfl, ⟨rfl, trivial⟩, [.sl 0 0 x8.length], by kernel_rfl, by kernel_rfl⟩⟩

theorem s_impl_anyDef (p1 : ByteArray) (p2 : Int) (r : Unit) (h : m_impl_anyDef p1 p2 = some r) :
    Eng.Spec Tryd.prog 76 [.agg [.v (.string p1), .v (.int .i64 p2)]] [] (.v (.bool true)) [] := by
  unfold m_impl_anyDef at h
  refine Eng.Spec.body Tryd.func76 (by kernel_rfl) rfl (by kernel_rfl) ?_
  refine AX.wkpost ?_
  refine AX.seq ?_
  refine AX.reg (its := [.auto { nk := 0 }]) [] [] (s1 := ⟨[], []⟩) (C := True) (by kernel_rfl) trivial trivial ?_
  refine AX.seq ?_
  refine AX.reg (its := []) [2] [] (s1 := ⟨[(2, .v (.bool true))], []⟩) (C := True) (by kernel_rfl) trivial trivial ?_
  refine AX.ret ?_
  refine fin_wk (Wk.forget [2] [] (s' := ⟨[(2, .v (.bool true))], []⟩) (by kernel_rfl)) ?_
  have hr := Option.some.inj h
  subst hr
  exact ⟨_, Wk.refl _, .inr rfl, ⟨[], by kernel_rfl, trivial, [.v (.bool true)], by kernel_rfl, by kernel_rfl⟩⟩

theorem s_slices_Clip_s (p1 : List (ByteArray)) (r : Unit) (h : m_slices_Clip_s p1 = some r) :
    Eng.Spec Tryd.prog 123 [.bs false 1 (List.map enc_s p1)] [] (.bs false 1 (List.map enc_s (sub p1 (0 : Int) (p1.length : Int)))) [] := by
  unfold m_slices_Clip_s at h
  refine Eng.Spec.body Tryd.func123 (by kernel_rfl) rfl (by kernel_rfl) ?_
  refine AX.wkpost ?_
  refine AX.seq ?_
  refine AX.reg (its := []) [0] [] (s1 := ⟨[(0, .bs false 1 (List.map enc_s p1))], []⟩) (C := True) (by kernel_rfl) trivial trivial ?_
  refine AX.seq ?_
  obtain ⟨g1, h⟩ := gd_e h
  refine AX.reg (its := [.auto {}, .auto {}, .auto { y := some (.v (.int .i64 (p1.length : Int))) }, .auto {}, .auto { y := some (.v (.int .i64 (p1.length : Int))) }, .auto { y := some (.bs false 1 (List.map enc_s (sub p1 (0 : Int) (p1.length : Int)))) }]) [2] [] (s1 := ⟨[(2, .bs false 1 (List.map enc_s (sub p1 (0 : Int) (p1.length : Int))))], []⟩) (C := (True ∧ (AV.v (.int .i64 ((List.map enc_s p1).length : Int)) = AV.v (.int .i64 (p1.length : Int)))) ∧ (True ∧ (AV.v (.int .i64 ((List.map enc_s p1).length : Int)) = AV.v (.int .i64 (p1.length : Int)))) ∧ ((0 ≤ (0 : Int) ∧ (0 : Int) ≤ (p1.length : Int) ∧ (p1.length : Int) ≤ (p1.length : Int) ∧ (p1.length : Int) ≤ ((List.map enc_s p1).length : Int)) ∧ (AV.bs false 1 (((List.map enc_s p1).drop (0 : Int).toNat).take ((p1.length : Int).toNat - (0 : Int).toNat)) = (.bs false 1 (List.map enc_s (sub p1 (0 : Int) (p1.length : Int))) : AV))) ∧ True) (by kernel_rfl) ⟨⟨trivial, len_map enc_s p1⟩, ⟨⟨trivial, len_map enc_s p1⟩, ⟨⟨by first | exact g1 | simpa only [List.length_map] using g1, by first | exact sub_can enc_s p1 (0 : Int) (p1.length : Int) false 1 | (simp only [List.length_map]; exact sub_can enc_s p1 (0 : Int) (p1.length : Int) false 1)⟩, trivial⟩⟩⟩ trivial ?_
  refine AX.ret ?_
  refine fin_wk (Wk.forget [2] [] (s' := ⟨[(2, .bs false 1 (List.map enc_s (sub p1 (0 : Int) (p1.length : Int))))], []⟩) (by kernel_rfl)) ?_
  have hr := Option.some.inj h
  subst hr
  exact ⟨_, Wk.refl _, .inr rfl, ⟨[], by kernel_rfl, trivial, [.bs false 1 (List.map enc_s (sub p1 (0 : Int) (p1.length : Int)))], by kernel_rfl, by kernel_rfl⟩⟩

theorem s_slices_Clip_hs (p1 : List (ByteArray)) (r : Unit) (h : m_slices_Clip_hs p1 = some r) :
    Eng.Spec Tryd.prog 123 [.sl 0 0 p1.length] [.arr 1 (List.map enc_s p1)] (.sl 0 0 p1.length) [.arr 1 (List.map enc_s p1)] := by
  unfold m_slices_Clip_hs at h
  refine Eng.Spec.body Tryd.func123 (by kernel_rfl) rfl (by kernel_rfl) ?_
  refine AX.wkpost ?_
  refine AX.seq ?_
  refine AX.reg (its := []) [0] [0] (s1 := ⟨[(0, .sl 0 0 p1.length)], [(0, .arr 1 (List.map enc_s p1))]⟩) (C := True) (by kernel_rfl) trivial trivial ?_
  refine AX.seq ?_
  refine AX.reg (its := [.auto {}, .auto {}, .auto {}, .auto {}, .auto {}, .auto { y := some (.sl 0 0 p1.length) }]) [2] [0] (s1 := ⟨[(2, .sl 0 0 p1.length)], [(0, .arr 1 (List.map enc_s p1))]⟩) (C := ((0 ≤ (0 : Int) ∧ (0 : Int) ≤ (p1.length : Int) ∧ (p1.length : Int) ≤ (p1.length : Int) ∧ (p1.length : Int) ≤ (p1.length : Int)) ∧ (AV.sl 0 (0 + (0 : Int).toNat) ((p1.length : Int).toNat - (0 : Int).toNat) = AV.sl 0 0 p1.length)) ∧ True) (by kernel_rfl) ⟨⟨⟨by omega, by omega, by omega, by omega⟩, rfl⟩, trivial⟩ trivial ?_
  refine AX.ret ?_
  refine fin_wk (Wk.forget [2] [0] (s' := ⟨[(2, .sl 0 0 p1.length)], [(0, .arr 1 (List.map enc_s p1))]⟩) (by kernel_rfl)) ?_
  have hr := Option.some.inj h
  subst hr
  exact ⟨_, Wk.refl _, .inr rfl, ⟨[], by kernel_rfl, ⟨rfl, trivial⟩, [.sl 0 0 p1.length], by kernel_rfl, by kernel_rfl⟩⟩

end Go.Eng
