/- What is proved here: each function keeps to its model, whatever its arguments, wherever the model has an answer. Printed by gen.py. -/
import Derived.Test.YtpoaggicbnldhaaCExactApplyChangesWalk1
import Derived.Test.YtpoaggicbnldhaaProg
import Derived.KernelRfl
set_option linter.unusedVariables false
namespace Go.Eng
open Go Go.Proofs


theorem s_impl_named (p1 : List (ByteArray × Int)) (p2 : ByteArray) (r : Int) (h : m_impl_named p1 p2 = some r) :
    Eng.Spec Try.prog 68 [.bs false 2 (List.map enc_si p1), .v (.string p2)] [] (.v (.int .i64 r)) [] := by
  unfold m_impl_named at h
  refine Eng.Spec.body Try.func68 (by kernel_rfl) rfl (by kernel_rfl) ?_
  refine AX.wkpost ?_
  refine AX.seq ?_
  refine AX.reg (its := [.auto { nk := 0 }]) [0, 3] [0] (s1 := ⟨[(0, .bs false 2 (List.map enc_si p1)), (3, .pt 0 0)], [(0, .box [.v (.string p2)])]⟩) (C := True) (by kernel_rfl) trivial trivial ?_
  refine AX.seq ?_
  obtain ⟨x3, e1, h⟩ := bd_e h
  refine AX.reg (its := [.auto {}, .auto {}, .call 87 [.bs false 2 (List.map enc_si p1), .fn 88 [.pt 0 0]] (handO (rho ([] ++ [])) [] [] ++ [(0, .box [.v (.string p2)])]) (callEv [] [] (.v (.int .i64 x3)) [])]) [4] [] (s1 := ⟨[(4, .v (.int .i64 x3))], []⟩) (C := ((([.bs false 2 (List.map enc_si p1), .fn 88 [.pt 0 0]] : List AV) = [.bs false 2 (List.map enc_si p1), .fn 88 [.pt 0 0]]) ∧ (AO.box [.v (.string p2)] = AO.box [.v (.string p2)]) ∧ True) ∧ True) (by kernel_rfl) ⟨⟨rfl, rfl, trivial⟩, trivial⟩ ⟨call_ok (ks := []) (ns := []) (bor := [0]) (bobjs := [(0, .box [.v (.string p2)])]) (s_slices_IndexFunc_si_named_1_l p1 p2 x3 e1) (.cons (.c1 (.c0 (.same _ (by kernel_rfl) (by kernel_rfl)))) (.cons (.fn (.cons (.box rfl rfl (.cons (.same _ (by kernel_rfl) (by kernel_rfl)) (.nil))) (.nil))) (.nil))) (by kernel_rfl) trivial, trivial⟩ ?_
  refine AX.ret ?_
  refine fin_wk (Wk.forget [4] [] (s' := ⟨[(4, .v (.int .i64 x3))], []⟩) (by kernel_rfl)) ?_
  have hr := Option.some.inj h
  subst hr
  exact ⟨_, Wk.refl _, .inr rfl, ⟨[], by kernel_rfl, trivial, [.v (.int .i64 x3)], by kernel_rfl, by kernel_rfl⟩⟩

theorem s_impl_defsValid_L1 (p1 : List (ByteArray × Int)) (p2 : Int) (p3 : Int) (n : Nat) (g : Int) (out : Unit ⊕ Unit) (h : m_impl_defsValid_L1 p1 p2 p3 n g = some out) :
    AX Try.prog 41 0 (codeAt [1, 0, 1, 1] (bodyOf Try.f42)) ((fun g : Int => (⟨[(0, .bs false 2 (List.map enc_si p1)), (1, .v (.int .i64 p2)), (2, .v (.int .i64 p3)), (9, .bs false 2 (List.map enc_si p1)), (10, .v (.int .i64 (p1.length : Int))), (11, .v (.int .i64 g))], []⟩ : S)) g) (fun ex s => (∃ o : Unit, out = Sum.inl o ∧ ex = .ret ∧ s = ⟨[(6, .v (.bool false))], []⟩) ∨ (∃ o : Unit, out = Sum.inr o ∧ ex = .exit 0 ∧ s = ⟨[(0, .bs false 2 (List.map enc_si p1))], []⟩)) := by
  refine AX.wkpost ?_
  refine AX.loop (G := Nat × (Int)) (fun q => (fun g : Int => (⟨[(0, .bs false 2 (List.map enc_si p1)), (1, .v (.int .i64 p2)), (2, .v (.int .i64 p3)), (9, .bs false 2 (List.map enc_si p1)), (10, .v (.int .i64 (p1.length : Int))), (11, .v (.int .i64 g))], []⟩ : S)) q.2) (fun q => m_impl_defsValid_L1 p1 p2 p3 q.1 q.2 = some out) (fun q => q.1) (n, g) h (Wk.refl _) ?_
  clear h
  rintro ⟨fu, v4⟩ h
  cases fu with
  | zero => cases h
  | succ fu =>
    rw [m_impl_defsValid_L1] at h
    refine AX.seq ?_
    refine AX.reg (its := []) [0, 1, 2, 9, 10, 11, 12] [] (s1 := ⟨[(0, .bs false 2 (List.map enc_si p1)), (1, .v (.int .i64 p2)), (2, .v (.int .i64 p3)), (9, .bs false 2 (List.map enc_si p1)), (10, .v (.int .i64 (p1.length : Int))), (11, .v (.int .i64 v4)), (12, .v (.bool (decide (v4 < (p1.length : Int)))))], []⟩) (C := True) (by kernel_rfl) trivial trivial ?_
    refine AX.seq ?_
    rcases bool_cases (decide (v4 < (p1.length : Int))) with b1 | b1
    · replace h := cd_t b1 h
      refine AX.condT (decide (v4 < (p1.length : Int))) (by kernel_rfl) b1 ?_
      refine AX.skip ?_
      refine AX.seq ?_
      refine AX.block ?_
      refine AX.seq ?_
      obtain ⟨g2, h⟩ := gd_e h
      refine AX.reg (its := [.auto {}, .auto { y := some (.be 2 (enc_si (gt p1 v4)) 0) }, .auto {}, .auto { nk := 0 }]) [0, 1, 2, 7, 8, 9, 10, 11] [0] (s1 := ⟨[(0, .bs false 2 (List.map enc_si p1)), (1, .v (.int .i64 p2)), (2, .v (.int .i64 p3)), (7, .v (.int .i64 v4)), (8, .pt 0 0), (9, .bs false 2 (List.map enc_si p1)), (10, .v (.int .i64 (p1.length : Int))), (11, .v (.int .i64 v4))], [(0, .box [.v (.string ((gt p1 v4).1)), .v (.int .i64 ((gt p1 v4).2))])]⟩) (C := ((0 ≤ v4 ∧ v4 < ((List.map enc_si p1).length : Int)) ∧ (AV.be 2 ((List.map enc_si p1).getD v4.toNat []) 0 = AV.be 2 (enc_si (gt p1 v4)) 0)) ∧ True) (by kernel_rfl) ⟨idx_bs enc_si p1 v4 2 g2, trivial⟩ trivial ?_
      refine AX.seq ?_
      obtain ⟨x5, e3, h⟩ := bd_e h
      rcases bool_cases ((!x5)) with b4 | b4
      · replace h := cd_t b4 h
        refine AX.drw mixed (its := [.auto {}, .auto {}, .call 76 [.v (.string ((gt p1 v4).1))] (handO (rho ([] ++ [])) [] [] ++ []) (callEv [] [] (.v (.bool x5)) []), .auto { y := some (.v (.bool true)) }]) [0, 1, 2, 9, 10, 11, 36] [] (s1 := ⟨[(0, .bs false 2 (List.map enc_si p1)), (1, .v (.int .i64 p2)), (2, .v (.int .i64 p3)), (9, .bs false 2 (List.map enc_si p1)), (10, .v (.int .i64 (p1.length : Int))), (11, .v (.int .i64 v4)), (36, .v (.bool true))], []⟩) (C := ((([.v (.string ((gt p1 v4).1))] : List AV) = [.v (.string ((gt p1 v4).1))]) ∧ True) ∧ ((True) ∧ ((.v (.bool (!x5)) : AV) = (.v (.bool true) : AV))) ∧ True) (by kernel_rfl) ⟨⟨rfl, trivial⟩, ⟨⟨trivial, (congrArg (fun z => AV.v (.bool z)) b4)⟩, trivial⟩⟩ ⟨call_ok (ks := []) (ns := []) (bor := []) (bobjs := []) (s_impl_ValidName ((gt p1 v4).1) x5 e3) (.cons (.c1 (.c0 (.same _ (by kernel_rfl) (by kernel_rfl)))) (.nil)) (by kernel_rfl) trivial, trivial⟩ ?_
        refine AX.cond_true (by kernel_rfl) ?_
        refine AX.seq ?_
        refine AX.reg (its := []) [6] [] (s1 := ⟨[(6, .v (.bool false))], []⟩) (C := True) (by kernel_rfl) trivial trivial ?_
        refine AX.ret ?_
        refine fin_wk (Wk.forget [6] [] (s' := ⟨[(6, .v (.bool false))], []⟩) (by kernel_rfl)) ?_
        have hr := Option.some.inj h
        subst hr
        exact ⟨_, Wk.refl _, .inl ⟨(), rfl, rfl, rfl⟩⟩
      · replace h := cd_f b4 h
        obtain ⟨x6, e5, h⟩ := bd_e h
        rcases bool_cases ((!x6)) with b6 | b6
        · replace h := cd_t b6 h
          refine AX.drw mixed (its := [.auto {}, .auto {}, .call 76 [.v (.string ((gt p1 v4).1))] (handO (rho ([] ++ [])) [] [] ++ []) (callEv [] [] (.v (.bool x5)) []), .auto { y := some (.v (.bool false)) }, .auto {}, .auto {}, .auto {}, .auto {}, .auto {}, .call 77 [.v (.int .i64 ((gt p1 v4).2)), .v (.int .i64 p2), .v (.int .i64 p3)] (handO (rho ([] ++ [])) [] [] ++ []) (callEv [] [] (.v (.bool x6)) []), .auto { y := some (.v (.bool true)) }]) [0, 1, 2, 9, 10, 11, 36] [] (s1 := ⟨[(0, .bs false 2 (List.map enc_si p1)), (1, .v (.int .i64 p2)), (2, .v (.int .i64 p3)), (9, .bs false 2 (List.map enc_si p1)), (10, .v (.int .i64 (p1.length : Int))), (11, .v (.int .i64 v4)), (36, .v (.bool true))], []⟩) (C := ((([.v (.string ((gt p1 v4).1))] : List AV) = [.v (.string ((gt p1 v4).1))]) ∧ True) ∧ ((True) ∧ ((.v (.bool (!x5)) : AV) = (.v (.bool false) : AV))) ∧ ((([.v (.int .i64 ((gt p1 v4).2)), .v (.int .i64 p2), .v (.int .i64 p3)] : List AV) = [.v (.int .i64 ((gt p1 v4).2)), .v (.int .i64 p2), .v (.int .i64 p3)]) ∧ True) ∧ ((True) ∧ ((.v (.bool (!x6)) : AV) = (.v (.bool true) : AV))) ∧ True) (by kernel_rfl) ⟨⟨rfl, trivial⟩, ⟨⟨trivial, (congrArg (fun z => AV.v (.bool z)) b4)⟩, ⟨⟨rfl, trivial⟩, ⟨⟨trivial, (congrArg (fun z => AV.v (.bool z)) b6)⟩, trivial⟩⟩⟩⟩ ⟨call_ok (ks := []) (ns := []) (bor := []) (bobjs := []) (s_impl_ValidName ((gt p1 v4).1) x5 e3) (.cons (.c1 (.c0 (.same _ (by kernel_rfl) (by kernel_rfl)))) (.nil)) (by kernel_rfl) trivial, ⟨call_ok (ks := []) (ns := []) (bor := []) (bobjs := []) (s_impl_in ((gt p1 v4).2) p2 p3 x6 e5) (.cons (.c1 (.c0 (.same _ (by kernel_rfl) (by kernel_rfl)))) (.cons (.c1 (.c0 (.same _ (by kernel_rfl) (by kernel_rfl)))) (.cons (.c1 (.c0 (.same _ (by kernel_rfl) (by kernel_rfl)))) (.nil)))) (by kernel_rfl) trivial, trivial⟩⟩ ?_
          refine AX.cond_true (by kernel_rfl) ?_
          refine AX.seq ?_
          refine AX.reg (its := []) [6] [] (s1 := ⟨[(6, .v (.bool false))], []⟩) (C := True) (by kernel_rfl) trivial trivial ?_
          refine AX.ret ?_
          refine fin_wk (Wk.forget [6] [] (s' := ⟨[(6, .v (.bool false))], []⟩) (by kernel_rfl)) ?_
          have hr := Option.some.inj h
          subst hr
          exact ⟨_, Wk.refl _, .inl ⟨(), rfl, rfl, rfl⟩⟩
        · replace h := cd_f b6 h
          obtain ⟨g7, h⟩ := gd_e h
          obtain ⟨x7, e8, h⟩ := bd_e h
          refine AX.drw mixed (its := [.auto {}, .auto {}, .call 76 [.v (.string ((gt p1 v4).1))] (handO (rho ([] ++ [])) [] [] ++ []) (callEv [] [] (.v (.bool x5)) []), .auto { y := some (.v (.bool false)) }, .auto {}, .auto {}, .auto {}, .auto {}, .auto {}, .call 77 [.v (.int .i64 ((gt p1 v4).2)), .v (.int .i64 p2), .v (.int .i64 p3)] (handO (rho ([] ++ [])) [] [] ++ []) (callEv [] [] (.v (.bool x6)) []), .auto { y := some (.v (.bool false)) }, .auto {}, .auto {}, .auto {}, .auto {}, .auto { y := some (.bs false 2 (List.map enc_si (sub p1 (0 : Int) v4))) }, .auto {}, .auto {}, .call 68 [.bs false 2 (List.map enc_si (sub p1 (0 : Int) v4)), .v (.string ((gt p1 v4).1))] (handO (rho ([] ++ [])) [] [] ++ []) (callEv [] [] (.v (.int .i64 x7)) [])]) [0, 1, 2, 9, 10, 11, 36] [] (s1 := ⟨[(0, .bs false 2 (List.map enc_si p1)), (1, .v (.int .i64 p2)), (2, .v (.int .i64 p3)), (9, .bs false 2 (List.map enc_si p1)), (10, .v (.int .i64 (p1.length : Int))), (11, .v (.int .i64 v4)), (36, .v (.bool (decide (0 ≤ x7))))], []⟩) (C := ((([.v (.string ((gt p1 v4).1))] : List AV) = [.v (.string ((gt p1 v4).1))]) ∧ True) ∧ ((True) ∧ ((.v (.bool (!x5)) : AV) = (.v (.bool false) : AV))) ∧ ((([.v (.int .i64 ((gt p1 v4).2)), .v (.int .i64 p2), .v (.int .i64 p3)] : List AV) = [.v (.int .i64 ((gt p1 v4).2)), .v (.int .i64 p2), .v (.int .i64 p3)]) ∧ True) ∧ ((True) ∧ ((.v (.bool (!x6)) : AV) = (.v (.bool false) : AV))) ∧ ((0 ≤ (0 : Int) ∧ (0 : Int) ≤ v4 ∧ v4 ≤ ((List.map enc_si p1).length : Int) ∧ ((List.map enc_si p1).length : Int) ≤ ((List.map enc_si p1).length : Int)) ∧ (AV.bs false 2 (((List.map enc_si p1).drop (0 : Int).toNat).take (v4.toNat - (0 : Int).toNat)) = (.bs false 2 (List.map enc_si (sub p1 (0 : Int) v4)) : AV))) ∧ ((([.bs false 2 (List.map enc_si (sub p1 (0 : Int) v4)), .v (.string ((gt p1 v4).1))] : List AV) = [.bs false 2 (List.map enc_si (sub p1 (0 : Int) v4)), .v (.string ((gt p1 v4).1))]) ∧ True) ∧ True) (by kernel_rfl) ⟨⟨rfl, trivial⟩, ⟨⟨trivial, (congrArg (fun z => AV.v (.bool z)) b4)⟩, ⟨⟨rfl, trivial⟩, ⟨⟨trivial, (congrArg (fun z => AV.v (.bool z)) b6)⟩, ⟨⟨by first | exact g7 | simpa only [List.length_map] using g7, by first | exact sub_can enc_si p1 (0 : Int) v4 false 2 | (simp only [List.length_map]; exact sub_can enc_si p1 (0 : Int) v4 false 2)⟩, ⟨⟨rfl, trivial⟩, trivial⟩⟩⟩⟩⟩⟩ ⟨call_ok (ks := []) (ns := []) (bor := []) (bobjs := []) (s_impl_ValidName ((gt p1 v4).1) x5 e3) (.cons (.c1 (.c0 (.same _ (by kernel_rfl) (by kernel_rfl)))) (.nil)) (by kernel_rfl) trivial, ⟨call_ok (ks := []) (ns := []) (bor := []) (bobjs := []) (s_impl_in ((gt p1 v4).2) p2 p3 x6 e5) (.cons (.c1 (.c0 (.same _ (by kernel_rfl) (by kernel_rfl)))) (.cons (.c1 (.c0 (.same _ (by kernel_rfl) (by kernel_rfl)))) (.cons (.c1 (.c0 (.same _ (by kernel_rfl) (by kernel_rfl)))) (.nil)))) (by kernel_rfl) trivial, ⟨call_ok (ks := []) (ns := []) (bor := []) (bobjs := []) (s_impl_named (sub p1 (0 : Int) v4) ((gt p1 v4).1) x7 e8) (.cons (.c1 (.c0 (.same _ (by kernel_rfl) (by kernel_rfl)))) (.cons (.c1 (.c0 (.same _ (by kernel_rfl) (by kernel_rfl)))) (.nil))) (by kernel_rfl) trivial, trivial⟩⟩⟩ ?_
          rcases bool_cases (decide (0 ≤ x7)) with b9 | b9
          · replace h := cd_t b9 h
            refine AX.condT (decide (0 ≤ x7)) (by kernel_rfl) b9 ?_
            refine AX.seq ?_
            refine AX.reg (its := []) [6] [] (s1 := ⟨[(6, .v (.bool false))], []⟩) (C := True) (by kernel_rfl) trivial trivial ?_
            refine AX.ret ?_
            refine fin_wk (Wk.forget [6] [] (s' := ⟨[(6, .v (.bool false))], []⟩) (by kernel_rfl)) ?_
            have hr := Option.some.inj h
            subst hr
            exact ⟨_, Wk.refl _, .inl ⟨(), rfl, rfl, rfl⟩⟩
          · replace h := cd_f b9 h
            refine AX.condF (decide (0 ≤ x7)) (by kernel_rfl) b9 ?_
            refine AX.skip ?_
            refine AX.reg (its := [.auto { raw := true }]) [0, 1, 2, 9, 10, 11] [] (s1 := ⟨[(0, .bs false 2 (List.map enc_si p1)), (1, .v (.int .i64 p2)), (2, .v (.int .i64 p3)), (9, .bs false 2 (List.map enc_si p1)), (10, .v (.int .i64 (p1.length : Int))), (11, .v (.int .i64 (IntKind.wrap .i64 (v4 + 1))))], []⟩) (C := True) (by kernel_rfl) trivial trivial ?_
            refine ⟨(fu, IntKind.wrap .i64 (v4 + 1)), h, Nat.lt_succ_self _, ?_⟩
            refine Wk.trans (Wk.forget [0, 1, 2, 9, 10, 11] [] (s' := ⟨[(0, .bs false 2 (List.map enc_si p1)), (1, .v (.int .i64 p2)), (2, .v (.int .i64 p3)), (9, .bs false 2 (List.map enc_si p1)), (10, .v (.int .i64 (p1.length : Int))), (11, .v (.int .i64 (IntKind.wrap .i64 (v4 + 1))))], []⟩) (by kernel_rfl)) ?_
            exact Wk.refl _
    · replace h := cd_f b1 h
      refine AX.condF (decide (v4 < (p1.length : Int))) (by kernel_rfl) b1 ?_
      refine AX.exit ?_
      refine fin_wk (Wk.forget [0] [] (s' := ⟨[(0, .bs false 2 (List.map enc_si p1))], []⟩) (by kernel_rfl)) ?_
      have hr := Option.some.inj h
      subst hr
      exact ⟨_, Wk.refl _, .inr ⟨(), rfl, rfl, rfl⟩⟩

theorem s_impl_defsValid (p1 : List (ByteArray × Int)) (p2 : Int) (p3 : Int) (r : Bool) (h : m_impl_defsValid p1 p2 p3 = some r) :
    Eng.Spec Try.prog 42 [.bs false 2 (List.map enc_si p1), .v (.int .i64 p2), .v (.int .i64 p3)] [] (.v (.bool r)) [] := by
  unfold m_impl_defsValid at h
  refine Eng.Spec.body Try.func42 (by kernel_rfl) rfl (by kernel_rfl) ?_
  refine AX.wkpost ?_
  refine AX.seq ?_
  refine AX.reg (its := []) [0, 1, 2] [] (s1 := ⟨[(0, .bs false 2 (List.map enc_si p1)), (1, .v (.int .i64 p2)), (2, .v (.int .i64 p3))], []⟩) (C := True) (by kernel_rfl) trivial trivial ?_
  refine AX.seq ?_
  refine AX.seq ?_
  refine AX.reg (its := [.auto {}, .auto { y := some (.v (.int .i64 (p1.length : Int))) }]) [0, 1, 2, 9, 10, 11] [] (s1 := ⟨[(0, .bs false 2 (List.map enc_si p1)), (1, .v (.int .i64 p2)), (2, .v (.int .i64 p3)), (9, .bs false 2 (List.map enc_si p1)), (10, .v (.int .i64 (p1.length : Int))), (11, .v (.int .i64 0))], []⟩) (C := (True ∧ (AV.v (.int .i64 ((List.map enc_si p1).length : Int)) = AV.v (.int .i64 (p1.length : Int)))) ∧ True) (by kernel_rfl) ⟨⟨trivial, len_map enc_si p1⟩, trivial⟩ trivial ?_
  refine AX.block ?_
  obtain ⟨x8, e10, h⟩ := bd_e h
  refine AX.wk (Wk.forget [0, 1, 2, 9, 10, 11] [] (s' := ⟨[(0, .bs false 2 (List.map enc_si p1)), (1, .v (.int .i64 p2)), (2, .v (.int .i64 p3)), (9, .bs false 2 (List.map enc_si p1)), (10, .v (.int .i64 (p1.length : Int))), (11, .v (.int .i64 0))], []⟩) (by kernel_rfl)) ?_
  refine AX.mono (s_impl_defsValid_L1 p1 p2 p3 FU 0 x8 e10) ?_
  rintro _ _ (⟨x9, rfl, rfl, rfl⟩ | ⟨x10, rfl, rfl, rfl⟩)
  · replace h := sm_l h
    refine fin_wk (Wk.forget [6] [] (s' := ⟨[(6, .v (.bool false))], []⟩) (by kernel_rfl)) ?_
    have hr := Option.some.inj h
    subst hr
    exact ⟨_, Wk.refl _, .inr rfl, ⟨[], by kernel_rfl, trivial, [.v (.bool false)], by kernel_rfl, by kernel_rfl⟩⟩
  · replace h := sm_r h
    refine AX.seq ?_
    refine AX.reg (its := [.auto {}, .auto { y := some (.v (.int .i64 (p1.length : Int))) }]) [6] [] (s1 := ⟨[(6, .v (.bool (decide ((p1.length : Int) ≤ 12))))], []⟩) (C := (True ∧ (AV.v (.int .i64 ((List.map enc_si p1).length : Int)) = AV.v (.int .i64 (p1.length : Int)))) ∧ True) (by kernel_rfl) ⟨⟨trivial, len_map enc_si p1⟩, trivial⟩ trivial ?_
    refine AX.ret ?_
    refine fin_wk (Wk.forget [6] [] (s' := ⟨[(6, .v (.bool (decide ((p1.length : Int) ≤ 12))))], []⟩) (by kernel_rfl)) ?_
    have hr := Option.some.inj h
    subst hr
    exact ⟨_, Wk.refl _, .inr rfl, ⟨[], by kernel_rfl, trivial, [.v (.bool (decide ((p1.length : Int) ≤ 12)))], by kernel_rfl, by kernel_rfl⟩⟩

theorem s_impl_ValidEnum (p1 : List (ByteArray × Int)) (r : Bool) (h : m_impl_ValidEnum p1 = some r) :
    Eng.Spec Try.prog 13 [.agg [.bs false 2 (List.map enc_si p1)]] [] (.v (.bool r)) [] := by
  unfold m_impl_ValidEnum at h
  refine Eng.Spec.body Try.func13 (by kernel_rfl) rfl (by kernel_rfl) ?_
  refine AX.wkpost ?_
  refine AX.seq ?_
  refine AX.reg (its := [.auto { nk := 0 }]) [1] [0] (s1 := ⟨[(1, .pt 0 0)], [(0, .box [.bs false 2 (List.map enc_si p1)])]⟩) (C := True) (by kernel_rfl) trivial trivial ?_
  refine AX.seq ?_
  obtain ⟨x2, e1, h⟩ := bd_e h
  refine AX.reg (its := [.auto {}, .auto {}, .call 42 [.bs false 2 (List.map enc_si p1), .v (.int .i64 (-1000)), .v (.int .i64 1000)] (handO (rho ([] ++ [])) [] [] ++ []) (callEv [] [] (.v (.bool x2)) [])]) [2] [] (s1 := ⟨[(2, .v (.bool x2))], []⟩) (C := ((([.bs false 2 (List.map enc_si p1), .v (.int .i64 (-1000)), .v (.int .i64 1000)] : List AV) = [.bs false 2 (List.map enc_si p1), .v (.int .i64 (-1000)), .v (.int .i64 1000)]) ∧ True) ∧ True) (by kernel_rfl) ⟨⟨rfl, trivial⟩, trivial⟩ ⟨call_ok (ks := []) (ns := []) (bor := []) (bobjs := []) (s_impl_defsValid p1 (-1000) 1000 x2 e1) (.cons (.c1 (.c0 (.same _ (by kernel_rfl) (by kernel_rfl)))) (.cons (.c1 (.c0 (.same _ (by kernel_rfl) (by kernel_rfl)))) (.cons (.c1 (.c0 (.same _ (by kernel_rfl) (by kernel_rfl)))) (.nil)))) (by kernel_rfl) trivial, trivial⟩ ?_
  refine AX.ret ?_
  refine fin_wk (Wk.forget [2] [] (s' := ⟨[(2, .v (.bool x2))], []⟩) (by kernel_rfl)) ?_
  have hr := Option.some.inj h
  subst hr
  exact ⟨_, Wk.refl _, .inr rfl, ⟨[], by kernel_rfl, trivial, [.v (.bool x2)], by kernel_rfl, by kernel_rfl⟩⟩

theorem s_slices_Clone_si (p1 : List (ByteArray × Int)) (r : List (ByteArray × Int)) (h : m_slices_Clone_si p1 = some r) :
    Eng.Spec Try.prog 67 [.bs false 2 (List.map enc_si p1)] [] (.sl 0 0 r.length) [.arr 2 (List.map enc_si r)] := by
  unfold m_slices_Clone_si at h
  obtain ⟨g1, h⟩ := gd_e h
  have hr := Option.some.inj h
  subst hr
  refine Eng.Spec.body Try.func67 (by kernel_rfl) rfl (by kernel_rfl) ?_
  refine AX.wkpost ?_
  refine AX.seq ?_
  refine AX.reg (its := []) [0] [] (s1 := ⟨[(0, .bs false 2 (List.map enc_si p1))], []⟩) (C := True) (by kernel_rfl) trivial trivial ?_
  refine AX.nilEq (l := false) (sz := 2) (es := (List.map enc_si p1)) (s0 := (⟨[(2, .sl 1 0 p1.length)], [(1, .arr 2 (List.map enc_si p1))]⟩ : S)) .ret rfl rfl rfl rfl rfl rfl Try.underlying23 (by kernel_rfl) (by kernel_rfl) (by kernel_rfl) ⟨_, Wk.refl _, .inr rfl, ⟨[1], by kernel_rfl, ⟨rfl, trivial⟩, [.sl 1 0 p1.length], by kernel_rfl, by kernel_rfl⟩⟩ ?_
  intro b hb
  rcases bool_cases b with h1 | h1
  · subst h1
    have hp : p1 = [] := by simpa using hb rfl
    subst hp
    refine AX.condT true (by kernel_rfl) rfl ?_
    refine AX.seq ?_
    refine AX.reg (its := []) [2] [] (s1 := ⟨[(2, .v (.slice none 0 0))], []⟩) (C := True) (by kernel_rfl) trivial trivial ?_
    refine AX.wk (Wk.mat 2 1 2 (by kernel_rfl) (Nat.le_of_ble_eq_true (by kernel_rfl)) (by kernel_rfl) rfl) ?_
    refine AX.wk (Wk.forget [2] [1] (s' := ⟨[(2, .sl 1 0 0)], [(1, .arr 2 [])]⟩) (by kernel_rfl)) ?_
    exact AX.ret ⟨rfl, rfl⟩
  · subst h1
    refine AX.condF false (by kernel_rfl) rfl ?_
    refine AX.skip ?_
    refine AX.seq ?_
    refine AX.reg (its := [.auto { nk := 0 }, .auto {}, .auto { y := some (.sl 1 0 p1.length), nk := 1 }]) [2] [1] (s1 := ⟨[(2, .sl 1 0 p1.length)], [(1, .arr 2 (List.map enc_si p1))]⟩) (C := ((((True) ∧ (True)) ∧ (([] : List (List Value)).length + (List.map enc_si p1).length ≤ 1099511627776)) ∧ (AV.sl 1 0 (List.map enc_si p1).length = AV.sl 1 0 p1.length)) ∧ True) (by kernel_rfl) ⟨⟨⟨⟨trivial, trivial⟩, by simpa using g1⟩, sl_len (enc := enc_si) rfl⟩, trivial⟩ trivial ?_
    exact AX.ret ⟨rfl, rfl⟩

theorem s_slices_Clip_si (p1 : List (ByteArray × Int)) (r : Unit) (h : m_slices_Clip_si p1 = some r) :
    Eng.Spec Try.prog 66 [.bs false 2 (List.map enc_si p1)] [] (.bs false 2 (List.map enc_si (sub p1 (0 : Int) (p1.length : Int)))) [] := by
  unfold m_slices_Clip_si at h
  refine Eng.Spec.body Try.func66 (by kernel_rfl) rfl (by kernel_rfl) ?_
  refine AX.wkpost ?_
  refine AX.seq ?_
  refine AX.reg (its := []) [0] [] (s1 := ⟨[(0, .bs false 2 (List.map enc_si p1))], []⟩) (C := True) (by kernel_rfl) trivial trivial ?_
  refine AX.seq ?_
  obtain ⟨g1, h⟩ := gd_e h
  refine AX.reg (its := [.auto {}, .auto {}, .auto { y := some (.v (.int .i64 (p1.length : Int))) }, .auto {}, .auto { y := some (.v (.int .i64 (p1.length : Int))) }, .auto { y := some (.bs false 2 (List.map enc_si (sub p1 (0 : Int) (p1.length : Int)))) }]) [2] [] (s1 := ⟨[(2, .bs false 2 (List.map enc_si (sub p1 (0 : Int) (p1.length : Int))))], []⟩) (C := (True ∧ (AV.v (.int .i64 ((List.map enc_si p1).length : Int)) = AV.v (.int .i64 (p1.length : Int)))) ∧ (True ∧ (AV.v (.int .i64 ((List.map enc_si p1).length : Int)) = AV.v (.int .i64 (p1.length : Int)))) ∧ ((0 ≤ (0 : Int) ∧ (0 : Int) ≤ (p1.length : Int) ∧ (p1.length : Int) ≤ (p1.length : Int) ∧ (p1.length : Int) ≤ ((List.map enc_si p1).length : Int)) ∧ (AV.bs false 2 (((List.map enc_si p1).drop (0 : Int).toNat).take ((p1.length : Int).toNat - (0 : Int).toNat)) = (.bs false 2 (List.map enc_si (sub p1 (0 : Int) (p1.length : Int))) : AV))) ∧ True) (by kernel_rfl) ⟨⟨trivial, len_map enc_si p1⟩, ⟨⟨trivial, len_map enc_si p1⟩, ⟨⟨by first | exact g1 | simpa only [List.length_map] using g1, by first | exact sub_can enc_si p1 (0 : Int) (p1.length : Int) false 2 | (simp only [List.length_map]; exact sub_can enc_si p1 (0 : Int) (p1.length : Int) false 2)⟩, trivial⟩⟩⟩ trivial ?_
  refine AX.ret ?_
  refine fin_wk (Wk.forget [2] [] (s' := ⟨[(2, .bs false 2 (List.map enc_si (sub p1 (0 : Int) (p1.length : Int))))], []⟩) (by kernel_rfl)) ?_
  have hr := Option.some.inj h
  subst hr
  exact ⟨_, Wk.refl _, .inr rfl, ⟨[], by kernel_rfl, trivial, [.bs false 2 (List.map enc_si (sub p1 (0 : Int) (p1.length : Int)))], by kernel_rfl, by kernel_rfl⟩⟩

theorem s_slices_Clip_hsi (p1 : List (ByteArray × Int)) (r : Unit) (h : m_slices_Clip_hsi p1 = some r) :
    Eng.Spec Try.prog 66 [.sl 0 0 p1.length] [.arr 2 (List.map enc_si p1)] (.sl 0 0 p1.length) [.arr 2 (List.map enc_si p1)] := by
  unfold m_slices_Clip_hsi at h
  refine Eng.Spec.body Try.func66 (by kernel_rfl) rfl (by kernel_rfl) ?_
  refine AX.wkpost ?_
  refine AX.seq ?_
  refine AX.reg (its := []) [0] [0] (s1 := ⟨[(0, .sl 0 0 p1.length)], [(0, .arr 2 (List.map enc_si p1))]⟩) (C := True) (by kernel_rfl) trivial trivial ?_
  refine AX.seq ?_
  refine AX.reg (its := [.auto {}, .auto {}, .auto {}, .auto {}, .auto {}, .auto { y := some (.sl 0 0 p1.length) }]) [2] [0] (s1 := ⟨[(2, .sl 0 0 p1.length)], [(0, .arr 2 (List.map enc_si p1))]⟩) (C := ((0 ≤ (0 : Int) ∧ (0 : Int) ≤ (p1.length : Int) ∧ (p1.length : Int) ≤ (p1.length : Int) ∧ (p1.length : Int) ≤ (p1.length : Int)) ∧ (AV.sl 0 (0 + (0 : Int).toNat) ((p1.length : Int).toNat - (0 : Int).toNat) = AV.sl 0 0 p1.length)) ∧ True) (by kernel_rfl) ⟨⟨⟨by omega, by omega, by omega, by omega⟩, rfl⟩, trivial⟩ trivial ?_
  refine AX.ret ?_
  refine fin_wk (Wk.forget [2] [0] (s' := ⟨[(2, .sl 0 0 p1.length)], [(0, .arr 2 (List.map enc_si p1))]⟩) (by kernel_rfl)) ?_
  have hr := Option.some.inj h
  subst hr
  exact ⟨_, Wk.refl _, .inr rfl, ⟨[], by kernel_rfl, ⟨rfl, trivial⟩, [.sl 0 0 p1.length], by kernel_rfl, by kernel_rfl⟩⟩

theorem s_impl_clone_si (p1 : List (ByteArray × Int)) (r : List (ByteArray × Int)) (h : m_impl_clone_si p1 = some r) :
    Eng.Spec Try.prog 34 [.bs false 2 (List.map enc_si p1)] [] (.sl 0 0 r.length) [.arr 2 (List.map enc_si r)] := by
  unfold m_impl_clone_si at h
  refine Eng.Spec.body Try.func34 (by kernel_rfl) rfl (by kernel_rfl) ?_
  refine AX.wkpost ?_
  refine AX.seq ?_
  refine AX.reg (its := []) [0] [] (s1 := ⟨[(0, .bs false 2 (List.map enc_si p1))], []⟩) (C := True) (by kernel_rfl) trivial trivial ?_
  refine AX.seq ?_
  obtain ⟨x2, e1, h⟩ := bd_e h
  obtain ⟨x3, e2, h⟩ := bd_e h
  refine AX.reg (its := [.auto {}, .call 67 [.bs false 2 (List.map enc_si p1)] (handO (rho ([] ++ [0])) [] [] ++ []) (callEv [] [0] (.sl 0 0 x2.length) [.arr 2 (List.map enc_si x2)]), .call 66 [.sl 0 0 x2.length] (handO (rho ([0] ++ [])) [0] [.arr 2 (List.map enc_si x2)] ++ []) (callEv [0] [] (.sl 0 0 x2.length) [.arr 2 (List.map enc_si x2)])]) [2] [0] (s1 := ⟨[(2, .sl 0 0 x2.length)], [(0, .arr 2 (List.map enc_si x2))]⟩) (C := ((([.bs false 2 (List.map enc_si p1)] : List AV) = [.bs false 2 (List.map enc_si p1)]) ∧ True) ∧ ((([.sl 0 0 x2.length] : List AV) = [.sl 0 0 x2.length]) ∧ (AO.arr 2 (List.map enc_si x2) = AO.arr 2 (List.map enc_si x2)) ∧ True) ∧ True) (by kernel_rfl) ⟨⟨rfl, trivial⟩, ⟨⟨rfl, rfl, trivial⟩, trivial⟩⟩ ⟨call_ok (ks := []) (ns := [0]) (bor := []) (bobjs := []) (s_slices_Clone_si p1 x2 e1) (.cons (.c1 (.c0 (.same _ (by kernel_rfl) (by kernel_rfl)))) (.nil)) (by kernel_rfl) trivial, ⟨call_ok (ks := [0]) (ns := []) (bor := []) (bobjs := []) (s_slices_Clip_hsi x2 x3 e2) (.cons (.c1 (.c0 (.same _ (by kernel_rfl) (by kernel_rfl)))) (.nil)) (by kernel_rfl) ⟨.inr rfl, trivial⟩, trivial⟩⟩ ?_
  refine AX.ret ?_
  refine fin_wk (Wk.forget [2] [0] (s' := ⟨[(2, .sl 0 0 x2.length)], [(0, .arr 2 (List.map enc_si x2))]⟩) (by kernel_rfl)) ?_
  have hr := Option.some.inj h
  subst hr
  exact ⟨_, Wk.refl _, .inr rfl, ⟨[0], by kernel_rfl, ⟨rfl, trivial⟩, [.sl 0 0 x2.length], by kernel_rfl, by kernel_rfl⟩⟩

theorem s_impl_enumOf (p1 : List (ByteArray × Int)) (p2 : Bool) (r : (List (ByteArray × Int)) × Bool) (h : m_impl_enumOf p1 p2 = some r) :
    Eng.Spec Try.prog 71 [.bs false 2 (List.map enc_si p1), .v (.bool p2)] [] (.tup [.agg [.sl 0 0 r.1.length], .v (.bool r.2)]) [.arr 2 (List.map enc_si r.1)] := by
  unfold m_impl_enumOf at h
  refine Eng.Spec.body Try.func71 (by kernel_rfl) rfl (by kernel_rfl) ?_
  refine AX.wkpost ?_
  refine AX.seq ?_
  refine AX.reg (its := [.auto { nk := 0 }]) [0, 1, 4] [0] (s1 := ⟨[(0, .bs false 2 (List.map enc_si p1)), (1, .v (.bool p2)), (4, .pt 0 0)], [(0, .box [.v (.slice none 0 0)])]⟩) (C := True) (by kernel_rfl) trivial trivial ?_
  refine AX.seq ?_
  refine AX.seq ?_
  rcases bool_cases ((!p2)) with b1 | b1
  · replace h := cd_t b1 h
    refine AX.reg (its := [.auto {}, .auto { y := some (.v (.bool true)) }]) [0, 4, 13] [0] (s1 := ⟨[(0, .bs false 2 (List.map enc_si p1)), (4, .pt 0 0), (13, .v (.bool true))], [(0, .box [.v (.slice none 0 0)])]⟩) (C := ((True) ∧ ((.v (.bool (!p2)) : AV) = (.v (.bool true) : AV))) ∧ True) (by kernel_rfl) ⟨⟨trivial, (congrArg (fun z => AV.v (.bool z)) b1)⟩, trivial⟩ trivial ?_
    refine AX.cond_true (by kernel_rfl) ?_
    refine AX.seq ?_
    refine AX.reg (its := []) [4, 5] [0] (s1 := ⟨[(4, .pt 0 0), (5, .v (.bool false))], [(0, .box [.v (.slice none 0 0)])]⟩) (C := True) (by kernel_rfl) trivial trivial ?_
    refine AX.ret ?_
    refine fin_wk (Wk.matB 0 0 1 2 (cs := [.v (.slice none 0 0)]) (by kernel_rfl) (by kernel_rfl) (Nat.le_of_ble_eq_true (by kernel_rfl)) (by kernel_rfl) (by decide) rfl) ?_
    refine fin_wk (Wk.forget [4, 5] [0, 1] (s' := ⟨[(4, .pt 0 0), (5, .v (.bool false))], [(0, .box [.sl 1 0 (([] : List (ByteArray × Int)).length)]), (1, .arr 2 (List.map enc_si ([] : List (ByteArray × Int))))]⟩) (by kernel_rfl)) ?_
    have hr := Option.some.inj h
    subst hr
    exact ⟨_, Wk.refl _, .inr rfl, ⟨[1], by kernel_rfl, ⟨rfl, trivial⟩, [.agg [.sl 1 0 (([] : List (ByteArray × Int)).length)], .v (.bool false)], by kernel_rfl, by kernel_rfl⟩⟩
  · replace h := cd_f b1 h
    obtain ⟨x3, e2, h⟩ := bd_e h
    refine AX.reg (its := [.auto {}, .auto { y := some (.v (.bool false)) }, .auto {}, .auto {}, .auto {}, .call 13 [.agg [.bs false 2 (List.map enc_si p1)]] (handO (rho ([] ++ [])) [] [] ++ []) (callEv [] [] (.v (.bool x3)) [])]) [0, 4, 13] [0] (s1 := ⟨[(0, .bs false 2 (List.map enc_si p1)), (4, .pt 0 0), (13, .v (.bool (!x3)))], [(0, .box [.v (.slice none 0 0)])]⟩) (C := ((True) ∧ ((.v (.bool (!p2)) : AV) = (.v (.bool false) : AV))) ∧ ((([.agg [.bs false 2 (List.map enc_si p1)]] : List AV) = [.agg [.bs false 2 (List.map enc_si p1)]]) ∧ True) ∧ True) (by kernel_rfl) ⟨⟨trivial, (congrArg (fun z => AV.v (.bool z)) b1)⟩, ⟨⟨rfl, trivial⟩, trivial⟩⟩ ⟨call_ok (ks := []) (ns := []) (bor := []) (bobjs := []) (s_impl_ValidEnum p1 x3 e2) (.cons (.c1 (.agg (.cons (.same _ (by kernel_rfl) (by kernel_rfl)) (.nil)))) (.nil)) (by kernel_rfl) trivial, trivial⟩ ?_
    rcases bool_cases ((!x3)) with b3 | b3
    · replace h := cd_t b3 h
      refine AX.condT ((!x3)) (by kernel_rfl) b3 ?_
      refine AX.seq ?_
      refine AX.reg (its := []) [4, 5] [0] (s1 := ⟨[(4, .pt 0 0), (5, .v (.bool false))], [(0, .box [.v (.slice none 0 0)])]⟩) (C := True) (by kernel_rfl) trivial trivial ?_
      refine AX.ret ?_
      refine fin_wk (Wk.matB 0 0 1 2 (cs := [.v (.slice none 0 0)]) (by kernel_rfl) (by kernel_rfl) (Nat.le_of_ble_eq_true (by kernel_rfl)) (by kernel_rfl) (by decide) rfl) ?_
      refine fin_wk (Wk.forget [4, 5] [0, 1] (s' := ⟨[(4, .pt 0 0), (5, .v (.bool false))], [(0, .box [.sl 1 0 (([] : List (ByteArray × Int)).length)]), (1, .arr 2 (List.map enc_si ([] : List (ByteArray × Int))))]⟩) (by kernel_rfl)) ?_
      have hr := Option.some.inj h
      subst hr
      exact ⟨_, Wk.refl _, .inr rfl, ⟨[1], by kernel_rfl, ⟨rfl, trivial⟩, [.agg [.sl 1 0 (([] : List (ByteArray × Int)).length)], .v (.bool false)], by kernel_rfl, by kernel_rfl⟩⟩
    · replace h := cd_f b3 h
      refine AX.condF ((!x3)) (by kernel_rfl) b3 ?_
      refine AX.skip ?_
      refine AX.seq ?_
      obtain ⟨x4, e4, h⟩ := bd_e h
      refine AX.reg (its := [.auto {}, .call 34 [.bs false 2 (List.map enc_si p1)] (handO (rho ([] ++ [1])) [] [] ++ []) (callEv [] [1] (.sl 0 0 x4.length) [.arr 2 (List.map enc_si x4)])]) [4, 5] [0, 1] (s1 := ⟨[(4, .pt 0 0), (5, .v (.bool true))], [(0, .box [.sl 1 0 x4.length]), (1, .arr 2 (List.map enc_si x4))]⟩) (C := ((([.bs false 2 (List.map enc_si p1)] : List AV) = [.bs false 2 (List.map enc_si p1)]) ∧ True) ∧ True) (by kernel_rfl) ⟨⟨rfl, trivial⟩, trivial⟩ ⟨call_ok (ks := []) (ns := [1]) (bor := []) (bobjs := []) (s_impl_clone_si p1 x4 e4) (.cons (.c1 (.c0 (.same _ (by kernel_rfl) (by kernel_rfl)))) (.nil)) (by kernel_rfl) trivial, trivial⟩ ?_
      refine AX.ret ?_
      refine fin_wk (Wk.forget [4, 5] [0, 1] (s' := ⟨[(4, .pt 0 0), (5, .v (.bool true))], [(0, .box [.sl 1 0 x4.length]), (1, .arr 2 (List.map enc_si x4))]⟩) (by kernel_rfl)) ?_
      have hr := Option.some.inj h
      subst hr
      exact ⟨_, Wk.refl _, .inr rfl, ⟨[1], by kernel_rfl, ⟨rfl, trivial⟩, [.agg [.sl 1 0 x4.length], .v (.bool true)], by kernel_rfl, by kernel_rfl⟩⟩

theorem s_impl_AddDef (p1 : List (ByteArray × Int)) (p2 : ByteArray) (p3 : Int) (r : (List (ByteArray × Int)) × Bool) (h : m_impl_AddDef p1 p2 p3 = some r) :
    Eng.Spec Try.prog 69 [.agg [.bs false 2 (List.map enc_si p1)], .agg [.v (.string p2), .v (.int .i64 p3)]] [] (.tup [.agg [.sl 0 0 r.1.length], .v (.bool r.2)]) [.arr 2 (List.map enc_si r.1)] := by
  unfold m_impl_AddDef at h
  refine Eng.Spec.body Try.func69 (by kernel_rfl) rfl (by kernel_rfl) ?_
  refine AX.wkpost ?_
  refine AX.seq ?_
  refine AX.reg (its := [.auto { nk := 0 }, .auto { nk := 1 }, .auto { nk := 2 }]) [2, 3, 4] [0, 1, 2] (s1 := ⟨[(2, .pt 0 0), (3, .pt 1 0), (4, .pt 2 0)], [(0, .box [.bs false 2 (List.map enc_si p1)]), (1, .box [.v (.string p2), .v (.int .i64 p3)]), (2, .box [.v (.slice none 0 0)])]⟩) (C := True) (by kernel_rfl) trivial trivial ?_
  refine AX.seq ?_
  obtain ⟨x4, e1, h⟩ := bd_e h
  obtain ⟨g2, h⟩ := gd_e h
  obtain ⟨x5, e3, h⟩ := bd_e h
  obtain ⟨x6, e4, h⟩ := bd_e h
  refine AX.drw mixed (its := [.auto {}, .auto {}, .call 34 [.bs false 2 (List.map enc_si p1)] (handO (rho ([] ++ [3])) [] [] ++ []) (callEv [] [3] (.sl 0 0 x4.length) [.arr 2 (List.map enc_si x4)]), .auto {}, .auto { nk := 4 }, .auto { y := some (.sl 5 0 ((x4 ++ ([(p2, p3)] : List (ByteArray × Int))).length)), els := some (List.map enc_si x4), els2 := some (List.map enc_si ([(p2, p3)] : List (ByteArray × Int))), nk := 5 }, .auto {}, .call 13 [.agg [.bs false 2 (List.map enc_si p1)]] (handO (rho ([] ++ [])) [] [] ++ []) (callEv [] [] (.v (.bool x5)) []), .call 71 [.sl 5 0 ((x4 ++ ([(p2, p3)] : List (ByteArray × Int))).length), .v (.bool x5)] (handO (rho ([] ++ [6])) [] [] ++ [(5, .arr 2 (List.map enc_si (x4 ++ ([(p2, p3)] : List (ByteArray × Int)))))]) (callEv [] [6] (.tup [.agg [.sl 0 0 x6.1.length], .v (.bool x6.2)]) [.arr 2 (List.map enc_si x6.1)])]) [4, 5] [2, 6] (s1 := ⟨[(4, .pt 2 0), (5, .v (.bool x6.2))], [(2, .box [.sl 6 0 x6.1.length]), (6, .arr 2 (List.map enc_si x6.1))]⟩) (C := ((([.bs false 2 (List.map enc_si p1)] : List AV) = [.bs false 2 (List.map enc_si p1)]) ∧ True) ∧ ((((((List.map enc_si x4).drop 0).take (x4.length) = List.map enc_si x4) ∧ (((List.map enc_si ([(p2, p3)] : List (ByteArray × Int))).drop 0).take (([(p2, p3)] : List (ByteArray × Int)).length) = List.map enc_si ([(p2, p3)] : List (ByteArray × Int)))) ∧ (List.map enc_si x4).length + (List.map enc_si ([(p2, p3)] : List (ByteArray × Int))).length ≤ 1099511627776) ∧ (AV.sl 5 0 (List.map enc_si x4 ++ List.map enc_si ([(p2, p3)] : List (ByteArray × Int))).length = AV.sl 5 0 (x4 ++ ([(p2, p3)] : List (ByteArray × Int))).length)) ∧ ((([.agg [.bs false 2 (List.map enc_si p1)]] : List AV) = [.agg [.bs false 2 (List.map enc_si p1)]]) ∧ True) ∧ ((([.sl 5 0 ((x4 ++ ([(p2, p3)] : List (ByteArray × Int))).length), .v (.bool x5)] : List AV) = [.sl 5 0 ((x4 ++ ([(p2, p3)] : List (ByteArray × Int))).length), .v (.bool x5)]) ∧ (AO.arr 2 (List.map enc_si x4 ++ List.map enc_si ([(p2, p3)] : List (ByteArray × Int))) = AO.arr 2 (List.map enc_si (x4 ++ ([(p2, p3)] : List (ByteArray × Int))))) ∧ True) ∧ True) (by kernel_rfl) ⟨⟨rfl, trivial⟩, ⟨⟨⟨⟨(dt_all (enc := enc_si) rfl rfl), (dt_all (enc := enc_si) rfl rfl)⟩, (by simp only [List.length_map, List.length_nil, List.length_replicate]; simpa using g2)⟩, sl_len (enc := enc_si) (app_can (enc := enc_si) rfl (rfl))⟩, ⟨⟨rfl, trivial⟩, ⟨⟨rfl, arr_eq (app_can (enc := enc_si) rfl (rfl) : List.map enc_si x4 ++ List.map enc_si ([(p2, p3)] : List (ByteArray × Int)) = List.map enc_si (x4 ++ ([(p2, p3)] : List (ByteArray × Int)))), trivial⟩, trivial⟩⟩⟩⟩ ⟨call_ok (ks := []) (ns := [3]) (bor := []) (bobjs := []) (s_impl_clone_si p1 x4 e1) (.cons (.c1 (.c0 (.same _ (by kernel_rfl) (by kernel_rfl)))) (.nil)) (by kernel_rfl) trivial, ⟨call_ok (ks := []) (ns := []) (bor := []) (bobjs := []) (s_impl_ValidEnum p1 x5 e3) (.cons (.c1 (.agg (.cons (.same _ (by kernel_rfl) (by kernel_rfl)) (.nil)))) (.nil)) (by kernel_rfl) trivial, ⟨call_ok (ks := []) (ns := [6]) (bor := [5]) (bobjs := [(5, .arr 2 (List.map enc_si (x4 ++ ([(p2, p3)] : List (ByteArray × Int)))))]) (s_impl_enumOf (x4 ++ ([(p2, p3)] : List (ByteArray × Int))) x5 x6 e4) (.cons (.c1 (.c0 (.arr rfl rfl ((rfl).trans (List.length_map ..).symm)))) (.cons (.c1 (.c0 (.same _ (by kernel_rfl) (by kernel_rfl)))) (.nil))) (by kernel_rfl) trivial, trivial⟩⟩⟩ ?_
  refine AX.ret ?_
  refine fin_wk (Wk.swap 0 2 (Nat.le_of_ble_eq_true (by kernel_rfl)) (Nat.le_of_ble_eq_true (by kernel_rfl)) rfl) ?_
  refine fin_wk (Wk.swap 1 6 (Nat.le_of_ble_eq_true (by kernel_rfl)) (Nat.le_of_ble_eq_true (by kernel_rfl)) rfl) ?_
  refine fin_wk (Wk.forget [4, 5] [0, 1] (s' := ⟨[(4, .pt 0 0), (5, .v (.bool x6.2))], [(0, .box [.sl 1 0 x6.1.length]), (1, .arr 2 (List.map enc_si x6.1))]⟩) (by kernel_rfl)) ?_
  have hr := Option.some.inj h
  subst hr
  exact ⟨_, Wk.refl _, .inr rfl, ⟨[1], by kernel_rfl, ⟨rfl, trivial⟩, [.agg [.sl 1 0 x6.1.length], .v (.bool x6.2)], by kernel_rfl, by kernel_rfl⟩⟩

theorem s_slices_Grow_nsi (p1 : Int) (r : List (ByteArray × Int)) (h : m_slices_Grow_nsi p1 = some r) :
    Eng.Spec Try.prog 96 [.v (.slice none 0 0), .v (.int .i64 p1)] [] (.sl 0 0 r.length) [.arr 2 (List.map enc_si r)] := by
  unfold m_slices_Grow_nsi at h
  refine Eng.Spec.body Try.func96 (by kernel_rfl) rfl (by kernel_rfl) ?_
  refine AX.wkpost ?_
  refine AX.seq ?_
  refine AX.reg (its := []) [0, 1] [] (s1 := ⟨[(0, .v (.slice none 0 0)), (1, .v (.int .i64 p1))], []⟩) (C := True) (by kernel_rfl) trivial trivial ?_
  refine AX.seq ?_
  refine AX.seq ?_
  refine AX.reg (its := []) [0, 1, 6] [] (s1 := ⟨[(0, .v (.slice none 0 0)), (1, .v (.int .i64 p1)), (6, .v (.bool (decide (p1 < 0))))], []⟩) (C := True) (by kernel_rfl) trivial trivial ?_
  rcases bool_cases (decide (p1 < 0)) with b1 | b1
  · replace h := cd_t b1 h
    refine AX.condT (decide (p1 < 0)) (by kernel_rfl) b1 ?_
    cases h
  · replace h := cd_f b1 h
    refine AX.condF (decide (p1 < 0)) (by kernel_rfl) b1 ?_
    refine AX.skip ?_
    refine AX.seq ?_
    refine AX.seq ?_
    refine AX.reg (its := [.auto {}, .auto {}, .auto {}, .auto {}, .auto {}, .auto { raw := true }, .auto { raw := true }]) [0, 1] [] (s1 := ⟨[(0, .v (.slice none 0 0)), (1, .v (.int .i64 (IntKind.wrap .i64 (p1 - (IntKind.wrap .i64 (0 - 0))))))], []⟩) (C := True) (by kernel_rfl) trivial trivial ?_
    refine AX.seq ?_
    obtain ⟨v2, q2, h⟩ := nm_e h
    refine AX.reg (its := [.auto {}, .auto { y := some (.v (.bool v2)) }]) [0, 1, 16] [] (s1 := ⟨[(0, .v (.slice none 0 0)), (1, .v (.int .i64 (IntKind.wrap .i64 (p1 - (IntKind.wrap .i64 (0 - 0)))))), (16, .v (.bool v2))], []⟩) (C := ((True) ∧ ((.v (.bool (decide (0 < (IntKind.wrap .i64 (p1 - (IntKind.wrap .i64 (0 - 0))))))) : AV) = (.v (.bool v2) : AV))) ∧ True) (by kernel_rfl) ⟨⟨trivial, (congrArg (fun z => AV.v (.bool z)) q2)⟩, trivial⟩ trivial ?_
    rcases bool_cases (v2) with b3 | b3
    · replace h := cd_t b3 h
      refine AX.condT (v2) (by kernel_rfl) b3 ?_
      obtain ⟨g4, h⟩ := gd_e h
      obtain ⟨g5, h⟩ := gd_e h
      obtain ⟨g6, h⟩ := gd_e h
      obtain ⟨g7, h⟩ := gd_e h
      refine AX.reg (its := [.auto {}, .auto {}, .auto {}, .auto {}, .auto {}, .auto { y := some (.sl 0 0 ((List.replicate (IntKind.wrap .i64 (p1 - (IntKind.wrap .i64 (0 - 0)))).toNat ((ByteArray.empty, 0) : ByteArray × Int)).length)), nk := 0 }]) [0] [0] (s1 := ⟨[(0, .sl 0 (0 + (0 : Int).toNat) ((0 : Int).toNat - (0 : Int).toNat))], [(0, .arr 2 (([] : List (List Value)) ++ List.replicate (IntKind.wrap .i64 (p1 - (IntKind.wrap .i64 (0 - 0)))).toNat (enc_si ((ByteArray.empty, 0) : ByteArray × Int))))]⟩) (C := ((0 : Int) = 0 ∧ (0 : Int) = 0 ∧ (0 : Int) = 0) ∧ (((True ∧ (0 ≤ (IntKind.wrap .i64 (p1 - (IntKind.wrap .i64 (0 - 0)))) ∧ (IntKind.wrap .i64 (p1 - (IntKind.wrap .i64 (0 - 0)))) ≤ 1099511627776)) ∧ (([] : List (List Value))).length + (List.replicate (IntKind.wrap .i64 (p1 - (IntKind.wrap .i64 (0 - 0)))).toNat (enc_si ((ByteArray.empty, 0) : ByteArray × Int))).length ≤ 1099511627776) ∧ (AV.sl 0 0 (([] : List (List Value)) ++ List.replicate (IntKind.wrap .i64 (p1 - (IntKind.wrap .i64 (0 - 0)))).toNat (enc_si ((ByteArray.empty, 0) : ByteArray × Int))).length = AV.sl 0 0 (List.replicate (IntKind.wrap .i64 (p1 - (IntKind.wrap .i64 (0 - 0)))).toNat ((ByteArray.empty, 0) : ByteArray × Int)).length)) ∧ (0 ≤ (0 : Int) ∧ (0 : Int) ≤ (0 : Int) ∧ (0 : Int) ≤ ((List.replicate (IntKind.wrap .i64 (p1 - (IntKind.wrap .i64 (0 - 0)))).toNat ((ByteArray.empty, 0) : ByteArray × Int)).length : Int) ∧ ((List.replicate (IntKind.wrap .i64 (p1 - (IntKind.wrap .i64 (0 - 0)))).toNat ((ByteArray.empty, 0) : ByteArray × Int)).length : Int) ≤ ((List.replicate (IntKind.wrap .i64 (p1 - (IntKind.wrap .i64 (0 - 0)))).toNat ((ByteArray.empty, 0) : ByteArray × Int)).length : Int)) ∧ True) (by kernel_rfl) ⟨g4, ⟨⟨⟨⟨trivial, g5⟩, (by simp only [List.length_map, List.length_nil, List.length_replicate]; simpa using g6)⟩, sl_len (enc := enc_si) (rep_can (IntKind.wrap .i64 (p1 - (IntKind.wrap .i64 (0 - 0)))).toNat ((ByteArray.empty, 0) : ByteArray × Int))⟩, ⟨g7, trivial⟩⟩⟩ trivial ?_
      refine AX.seq ?_
      refine AX.reg (its := []) [4] [0] (s1 := ⟨[(4, .sl 0 (0 + (0 : Int).toNat) ((0 : Int).toNat - (0 : Int).toNat))], [(0, .arr 2 (([] : List (List Value)) ++ List.replicate (IntKind.wrap .i64 (p1 - (IntKind.wrap .i64 (0 - 0)))).toNat (enc_si ((ByteArray.empty, 0) : ByteArray × Int))))]⟩) (C := True) (by kernel_rfl) trivial trivial ?_
      refine AX.ret ?_
      refine fin_wk (Wk.trunc 4 0 1 (lo := 0 + (0 : Int).toNat) (len := (0 : Int).toNat - (0 : Int).toNat) (sz := 2) (es := ([] : List (List Value)) ++ List.replicate (IntKind.wrap .i64 (p1 - (IntKind.wrap .i64 (0 - 0)))).toNat (enc_si ((ByteArray.empty, 0) : ByteArray × Int))) (by kernel_rfl) (by kernel_rfl) (Nat.le_of_ble_eq_true (by kernel_rfl)) (by kernel_rfl) rfl) ?_
      refine fin_wk (Wk.swap 0 1 (Nat.le_of_ble_eq_true (by kernel_rfl)) (Nat.le_of_ble_eq_true (by kernel_rfl)) rfl) ?_
      refine fin_wk (Wk.forget [4] [0] (s' := ⟨[(4, .sl 0 0 ((0 : Int).toNat - (0 : Int).toNat))], [(0, .arr 2 (((([] : List (List Value)) ++ List.replicate (IntKind.wrap .i64 (p1 - (IntKind.wrap .i64 (0 - 0)))).toNat (enc_si ((ByteArray.empty, 0) : ByteArray × Int))).drop (0 + (0 : Int).toNat)).take ((0 : Int).toNat - (0 : Int).toNat)))]⟩) (by kernel_rfl)) ?_
      refine fin_wk (Wk.of_eq (congrArg (fun z => (⟨[(4, .sl 0 0 ((0 : Int).toNat - (0 : Int).toNat))], [(0, .arr 2 (z))]⟩ : S)) (part_can (enc := enc_si) (rep_can (IntKind.wrap .i64 (p1 - (IntKind.wrap .i64 (0 - 0)))).toNat ((ByteArray.empty, 0) : ByteArray × Int) : ([] : List (List Value)) ++ List.replicate (IntKind.wrap .i64 (p1 - (IntKind.wrap .i64 (0 - 0)))).toNat (enc_si ((ByteArray.empty, 0) : ByteArray × Int)) = List.map enc_si (List.replicate (IntKind.wrap .i64 (p1 - (IntKind.wrap .i64 (0 - 0)))).toNat ((ByteArray.empty, 0) : ByteArray × Int))) (0 : Int) (0 : Int)))) ?_
      refine fin_wk (Wk.of_eq (congrArg (fun z => (⟨[(4, .sl 0 0 z)], [(0, .arr 2 (List.map enc_si (sub (List.replicate (IntKind.wrap .i64 (p1 - (IntKind.wrap .i64 (0 - 0)))).toNat ((ByteArray.empty, 0) : ByteArray × Int)) (0 : Int) (0 : Int))))]⟩ : S)) (part_len ((rfl : (List.replicate (IntKind.wrap .i64 (p1 - (IntKind.wrap .i64 (0 - 0)))).toNat ((ByteArray.empty, 0) : ByteArray × Int)).length = (List.replicate (IntKind.wrap .i64 (p1 - (IntKind.wrap .i64 (0 - 0)))).toNat ((ByteArray.empty, 0) : ByteArray × Int)).length)) g7))) ?_
      have hr := Option.some.inj h
      subst hr
      exact ⟨_, Wk.refl _, .inr rfl, ⟨[0], by kernel_rfl, ⟨rfl, trivial⟩, [.sl 0 0 ((sub (List.replicate (IntKind.wrap .i64 (p1 - (IntKind.wrap .i64 (0 - 0)))).toNat ((ByteArray.empty, 0) : ByteArray × Int)) (0 : Int) (0 : Int)).length)], by kernel_rfl, by kernel_rfl⟩⟩
    · replace h := cd_f b3 h
      refine AX.condF (v2) (by kernel_rfl) b3 ?_
      refine AX.skip ?_
      refine AX.seq ?_
      refine AX.reg (its := []) [4] [] (s1 := ⟨[(4, .v (.slice none 0 0))], []⟩) (C := True) (by kernel_rfl) trivial trivial ?_
      refine AX.ret ?_
      refine fin_wk (Wk.mat 4 0 2 (by kernel_rfl) (Nat.le_of_ble_eq_true (by kernel_rfl)) (by kernel_rfl) rfl) ?_
      refine fin_wk (Wk.forget [4] [0] (s' := ⟨[(4, .sl 0 0 (([] : List (ByteArray × Int)).length))], [(0, .arr 2 (List.map enc_si ([] : List (ByteArray × Int))))]⟩) (by kernel_rfl)) ?_
      have hr := Option.some.inj h
      subst hr
      exact ⟨_, Wk.refl _, .inr rfl, ⟨[0], by kernel_rfl, ⟨rfl, trivial⟩, [.sl 0 0 (([] : List (ByteArray × Int)).length)], by kernel_rfl, by kernel_rfl⟩⟩

theorem s_slices_Concat_x2sisi (p1 : List (ByteArray × Int)) (p2 : List (ByteArray × Int)) (r : List (ByteArray × Int)) (h : m_slices_Concat_x2sisi p1 p2 = some r) :
    Eng.Spec Try.prog 89 [.bx [.bs false 2 (List.map enc_si p1), .bs false 2 (List.map enc_si p2)]] [] (.sl 0 0 r.length) [.arr 2 (List.map enc_si r)] := by
  unfold m_slices_Concat_x2sisi at h
  refine Eng.Spec.body Try.func89 (by kernel_rfl) rfl (by kernel_rfl) ?_
  refine AX.wkpost ?_
  refine AX.seq ?_
  refine AX.reg (its := []) [0] [] (s1 := ⟨[(0, .bx [.bs false 2 (List.map enc_si p1), .bs false 2 (List.map enc_si p2)])], []⟩) (C := True) (by kernel_rfl) trivial trivial ?_
  refine AX.seq ?_
  refine AX.reg (its := []) [0, 3] [] (s1 := ⟨[(0, .bx [.bs false 2 (List.map enc_si p1), .bs false 2 (List.map enc_si p2)]), (3, .v (.int .i64 0))], []⟩) (C := True) (by kernel_rfl) trivial trivial ?_
  refine AX.seq ?_
  refine AX.seq ?_
  refine AX.reg (its := []) [0, 3, 9, 10, 11] [] (s1 := ⟨[(0, .bx [.bs false 2 (List.map enc_si p1), .bs false 2 (List.map enc_si p2)]), (3, .v (.int .i64 0)), (9, .bx [.bs false 2 (List.map enc_si p1), .bs false 2 (List.map enc_si p2)]), (10, .v (.int .i64 2)), (11, .v (.int .i64 0))], []⟩) (C := True) (by kernel_rfl) trivial trivial ?_
  refine AX.block ?_
  refine AXL.start ?_
  refine AXL.step ?_
  refine AX.seq ?_
  refine AX.reg (its := []) [0, 3, 9, 10, 11, 12] [] (s1 := ⟨[(0, .bx [.bs false 2 (List.map enc_si p1), .bs false 2 (List.map enc_si p2)]), (3, .v (.int .i64 0)), (9, .bx [.bs false 2 (List.map enc_si p1), .bs false 2 (List.map enc_si p2)]), (10, .v (.int .i64 2)), (11, .v (.int .i64 0)), (12, .v (.bool true))], []⟩) (C := True) (by kernel_rfl) trivial trivial ?_
  refine AX.seq ?_
  refine AX.cond_true (by kernel_rfl) ?_
  refine AX.skip ?_
  refine AX.seq ?_
  refine AX.block ?_
  refine AX.seq ?_
  refine AX.reg (its := []) [0, 3, 5, 9, 10, 11] [] (s1 := ⟨[(0, .bx [.bs false 2 (List.map enc_si p1), .bs false 2 (List.map enc_si p2)]), (3, .v (.int .i64 0)), (5, .bs false 2 (List.map enc_si p1)), (9, .bx [.bs false 2 (List.map enc_si p1), .bs false 2 (List.map enc_si p2)]), (10, .v (.int .i64 2)), (11, .v (.int .i64 0))], []⟩) (C := ((0 : Int) ≤ 0 ∧ (0 : Int) < ((2 : Nat) : Int)) ∧ True) (by kernel_rfl) ⟨(by decide), trivial⟩ trivial ?_
  refine AX.seq ?_
  refine AX.reg (its := [.auto {}, .auto {}, .auto { y := some (.v (.int .i64 (p1.length : Int))) }, .auto { raw := true }]) [0, 3, 9, 10, 11] [] (s1 := ⟨[(0, .bx [.bs false 2 (List.map enc_si p1), .bs false 2 (List.map enc_si p2)]), (3, .v (.int .i64 (IntKind.wrap .i64 (0 + (p1.length : Int))))), (9, .bx [.bs false 2 (List.map enc_si p1), .bs false 2 (List.map enc_si p2)]), (10, .v (.int .i64 2)), (11, .v (.int .i64 0))], []⟩) (C := (True ∧ (AV.v (.int .i64 ((List.map enc_si p1).length : Int)) = AV.v (.int .i64 (p1.length : Int)))) ∧ True) (by kernel_rfl) ⟨⟨trivial, len_map enc_si p1⟩, trivial⟩ trivial ?_
  refine AX.seq ?_
  refine AX.reg (its := []) [0, 3, 9, 10, 11, 20] [] (s1 := ⟨[(0, .bx [.bs false 2 (List.map enc_si p1), .bs false 2 (List.map enc_si p2)]), (3, .v (.int .i64 (IntKind.wrap .i64 (0 + (p1.length : Int))))), (9, .bx [.bs false 2 (List.map enc_si p1), .bs false 2 (List.map enc_si p2)]), (10, .v (.int .i64 2)), (11, .v (.int .i64 0)), (20, .v (.bool (decide ((IntKind.wrap .i64 (0 + (p1.length : Int))) < 0))))], []⟩) (C := True) (by kernel_rfl) trivial trivial ?_
  rcases bool_cases (decide ((IntKind.wrap .i64 (0 + (p1.length : Int))) < 0)) with b1 | b1
  · replace h := cd_t b1 h
    refine AX.condT (decide ((IntKind.wrap .i64 (0 + (p1.length : Int))) < 0)) (by kernel_rfl) b1 ?_
    cases h
  · replace h := cd_f b1 h
    refine AX.condF (decide ((IntKind.wrap .i64 (0 + (p1.length : Int))) < 0)) (by kernel_rfl) b1 ?_
    refine AX.skip ?_
    refine AX.reg (its := [.auto { raw := true }]) [0, 3, 9, 10, 11] [] (s1 := ⟨[(0, .bx [.bs false 2 (List.map enc_si p1), .bs false 2 (List.map enc_si p2)]), (3, .v (.int .i64 (IntKind.wrap .i64 (0 + (p1.length : Int))))), (9, .bx [.bs false 2 (List.map enc_si p1), .bs false 2 (List.map enc_si p2)]), (10, .v (.int .i64 2)), (11, .v (.int .i64 1))], []⟩) (C := True) (by kernel_rfl) trivial trivial ?_
    refine AXL.step ?_
    refine AX.seq ?_
    refine AX.reg (its := []) [0, 3, 9, 10, 11, 12] [] (s1 := ⟨[(0, .bx [.bs false 2 (List.map enc_si p1), .bs false 2 (List.map enc_si p2)]), (3, .v (.int .i64 (IntKind.wrap .i64 (0 + (p1.length : Int))))), (9, .bx [.bs false 2 (List.map enc_si p1), .bs false 2 (List.map enc_si p2)]), (10, .v (.int .i64 2)), (11, .v (.int .i64 1)), (12, .v (.bool true))], []⟩) (C := True) (by kernel_rfl) trivial trivial ?_
    refine AX.seq ?_
    refine AX.cond_true (by kernel_rfl) ?_
    refine AX.skip ?_
    refine AX.seq ?_
    refine AX.block ?_
    refine AX.seq ?_
    refine AX.reg (its := []) [0, 3, 5, 9, 10, 11] [] (s1 := ⟨[(0, .bx [.bs false 2 (List.map enc_si p1), .bs false 2 (List.map enc_si p2)]), (3, .v (.int .i64 (IntKind.wrap .i64 (0 + (p1.length : Int))))), (5, .bs false 2 (List.map enc_si p2)), (9, .bx [.bs false 2 (List.map enc_si p1), .bs false 2 (List.map enc_si p2)]), (10, .v (.int .i64 2)), (11, .v (.int .i64 1))], []⟩) (C := ((0 : Int) ≤ 1 ∧ (1 : Int) < ((2 : Nat) : Int)) ∧ True) (by kernel_rfl) ⟨(by decide), trivial⟩ trivial ?_
    refine AX.seq ?_
    obtain ⟨v3, q2, h⟩ := nm_e h
    refine AX.reg (its := [.auto {}, .auto {}, .auto { y := some (.v (.int .i64 (p2.length : Int))) }, .auto { y := some (.v (.int .i64 v3)), raw := true }]) [0, 3, 9, 10, 11] [] (s1 := ⟨[(0, .bx [.bs false 2 (List.map enc_si p1), .bs false 2 (List.map enc_si p2)]), (3, .v (.int .i64 v3)), (9, .bx [.bs false 2 (List.map enc_si p1), .bs false 2 (List.map enc_si p2)]), (10, .v (.int .i64 2)), (11, .v (.int .i64 1))], []⟩) (C := (True ∧ (AV.v (.int .i64 ((List.map enc_si p2).length : Int)) = AV.v (.int .i64 (p2.length : Int)))) ∧ ((True) ∧ ((.v (.int .i64 (IntKind.wrap .i64 ((IntKind.wrap .i64 (0 + (p1.length : Int))) + (p2.length : Int)))) : AV) = (.v (.int .i64 v3) : AV))) ∧ True) (by kernel_rfl) ⟨⟨trivial, len_map enc_si p2⟩, ⟨⟨trivial, (congrArg (fun z => AV.v (.int .i64 z)) q2)⟩, trivial⟩⟩ trivial ?_
    refine AX.seq ?_
    refine AX.reg (its := []) [0, 3, 9, 10, 11, 20] [] (s1 := ⟨[(0, .bx [.bs false 2 (List.map enc_si p1), .bs false 2 (List.map enc_si p2)]), (3, .v (.int .i64 v3)), (9, .bx [.bs false 2 (List.map enc_si p1), .bs false 2 (List.map enc_si p2)]), (10, .v (.int .i64 2)), (11, .v (.int .i64 1)), (20, .v (.bool (decide (v3 < 0))))], []⟩) (C := True) (by kernel_rfl) trivial trivial ?_
    rcases bool_cases (decide (v3 < 0)) with b3 | b3
    · replace h := cd_t b3 h
      refine AX.condT (decide (v3 < 0)) (by kernel_rfl) b3 ?_
      cases h
    · replace h := cd_f b3 h
      refine AX.condF (decide (v3 < 0)) (by kernel_rfl) b3 ?_
      refine AX.skip ?_
      refine AX.reg (its := [.auto { raw := true }]) [0, 3, 9, 10, 11] [] (s1 := ⟨[(0, .bx [.bs false 2 (List.map enc_si p1), .bs false 2 (List.map enc_si p2)]), (3, .v (.int .i64 v3)), (9, .bx [.bs false 2 (List.map enc_si p1), .bs false 2 (List.map enc_si p2)]), (10, .v (.int .i64 2)), (11, .v (.int .i64 2))], []⟩) (C := True) (by kernel_rfl) trivial trivial ?_
      refine AXL.step ?_
      refine AX.seq ?_
      refine AX.reg (its := []) [0, 3, 9, 10, 11, 12] [] (s1 := ⟨[(0, .bx [.bs false 2 (List.map enc_si p1), .bs false 2 (List.map enc_si p2)]), (3, .v (.int .i64 v3)), (9, .bx [.bs false 2 (List.map enc_si p1), .bs false 2 (List.map enc_si p2)]), (10, .v (.int .i64 2)), (11, .v (.int .i64 2)), (12, .v (.bool false))], []⟩) (C := True) (by kernel_rfl) trivial trivial ?_
      refine AX.seq ?_
      refine AX.cond_false (by kernel_rfl) ?_
      refine AX.exit ?_
      refine AX.seq ?_
      obtain ⟨x4, e4, h⟩ := bd_e h
      refine AX.reg (its := [.auto {}, .call 96 [.v (.slice none 0 0), .v (.int .i64 v3)] (handO (rho ([] ++ [0])) [] [] ++ []) (callEv [] [0] (.sl 0 0 x4.length) [.arr 2 (List.map enc_si x4)])]) [0, 6] [0] (s1 := ⟨[(0, .bx [.bs false 2 (List.map enc_si p1), .bs false 2 (List.map enc_si p2)]), (6, .sl 0 0 x4.length)], [(0, .arr 2 (List.map enc_si x4))]⟩) (C := ((([.v (.slice none 0 0), .v (.int .i64 v3)] : List AV) = [.v (.slice none 0 0), .v (.int .i64 v3)]) ∧ True) ∧ True) (by kernel_rfl) ⟨⟨rfl, trivial⟩, trivial⟩ ⟨call_ok (ks := []) (ns := [0]) (bor := []) (bobjs := []) (s_slices_Grow_nsi v3 x4 e4) (.cons (.c1 (.c0 (.same _ (by kernel_rfl) (by kernel_rfl)))) (.cons (.c1 (.c0 (.same _ (by kernel_rfl) (by kernel_rfl)))) (.nil))) (by kernel_rfl) trivial, trivial⟩ ?_
      refine AX.seq ?_
      refine AX.seq ?_
      refine AX.reg (its := []) [6, 25, 26, 27] [0] (s1 := ⟨[(6, .sl 0 0 x4.length), (25, .bx [.bs false 2 (List.map enc_si p1), .bs false 2 (List.map enc_si p2)]), (26, .v (.int .i64 2)), (27, .v (.int .i64 0))], [(0, .arr 2 (List.map enc_si x4))]⟩) (C := True) (by kernel_rfl) trivial trivial ?_
      refine AX.block ?_
      refine AXL.start ?_
      refine AXL.step ?_
      refine AX.seq ?_
      refine AX.reg (its := []) [6, 25, 26, 27, 28] [0] (s1 := ⟨[(6, .sl 0 0 x4.length), (25, .bx [.bs false 2 (List.map enc_si p1), .bs false 2 (List.map enc_si p2)]), (26, .v (.int .i64 2)), (27, .v (.int .i64 0)), (28, .v (.bool true))], [(0, .arr 2 (List.map enc_si x4))]⟩) (C := True) (by kernel_rfl) trivial trivial ?_
      refine AX.seq ?_
      refine AX.cond_true (by kernel_rfl) ?_
      refine AX.skip ?_
      refine AX.seq ?_
      refine AX.block ?_
      refine AX.seq ?_
      refine AX.reg (its := []) [6, 8, 25, 26, 27] [0] (s1 := ⟨[(6, .sl 0 0 x4.length), (8, .bs false 2 (List.map enc_si p1)), (25, .bx [.bs false 2 (List.map enc_si p1), .bs false 2 (List.map enc_si p2)]), (26, .v (.int .i64 2)), (27, .v (.int .i64 0))], [(0, .arr 2 (List.map enc_si x4))]⟩) (C := ((0 : Int) ≤ 0 ∧ (0 : Int) < ((2 : Nat) : Int)) ∧ True) (by kernel_rfl) ⟨(by decide), trivial⟩ trivial ?_
      obtain ⟨g5, h⟩ := gd_e h
      refine AX.reg (its := [.auto {}, .auto {}, .auto { y := some (.sl 1 0 ((x4 ++ p1).length)), els := some (List.map enc_si x4), nk := 1 }]) [6, 25, 26, 27] [1] (s1 := ⟨[(6, .sl 1 0 ((x4 ++ p1).length)), (25, .bx [.bs false 2 (List.map enc_si p1), .bs false 2 (List.map enc_si p2)]), (26, .v (.int .i64 2)), (27, .v (.int .i64 0))], [(1, .arr 2 (List.map enc_si x4 ++ List.map enc_si p1))]⟩) (C := ((((((List.map enc_si x4).drop 0).take (x4.length) = List.map enc_si x4) ∧ True) ∧ (List.map enc_si x4).length + (List.map enc_si p1).length ≤ 1099511627776) ∧ (AV.sl 1 0 (List.map enc_si x4 ++ List.map enc_si p1).length = AV.sl 1 0 (x4 ++ p1).length)) ∧ True) (by kernel_rfl) ⟨⟨⟨⟨(dt_all (enc := enc_si) rfl rfl), trivial⟩, (by simp only [List.length_map, List.length_nil, List.length_replicate]; simpa using g5)⟩, sl_len (enc := enc_si) (app_can (enc := enc_si) rfl (rfl))⟩, trivial⟩ trivial ?_
      refine AX.reg (its := [.auto { raw := true }]) [6, 25, 26, 27] [1] (s1 := ⟨[(6, .sl 1 0 ((x4 ++ p1).length)), (25, .bx [.bs false 2 (List.map enc_si p1), .bs false 2 (List.map enc_si p2)]), (26, .v (.int .i64 2)), (27, .v (.int .i64 1))], [(1, .arr 2 (List.map enc_si x4 ++ List.map enc_si p1))]⟩) (C := True) (by kernel_rfl) trivial trivial ?_
      refine AXL.step ?_
      refine AX.seq ?_
      refine AX.reg (its := []) [6, 25, 26, 27, 28] [1] (s1 := ⟨[(6, .sl 1 0 ((x4 ++ p1).length)), (25, .bx [.bs false 2 (List.map enc_si p1), .bs false 2 (List.map enc_si p2)]), (26, .v (.int .i64 2)), (27, .v (.int .i64 1)), (28, .v (.bool true))], [(1, .arr 2 (List.map enc_si x4 ++ List.map enc_si p1))]⟩) (C := True) (by kernel_rfl) trivial trivial ?_
      refine AX.seq ?_
      refine AX.cond_true (by kernel_rfl) ?_
      refine AX.skip ?_
      refine AX.seq ?_
      refine AX.block ?_
      refine AX.seq ?_
      refine AX.reg (its := []) [6, 8, 25, 26, 27] [1] (s1 := ⟨[(6, .sl 1 0 ((x4 ++ p1).length)), (8, .bs false 2 (List.map enc_si p2)), (25, .bx [.bs false 2 (List.map enc_si p1), .bs false 2 (List.map enc_si p2)]), (26, .v (.int .i64 2)), (27, .v (.int .i64 1))], [(1, .arr 2 (List.map enc_si x4 ++ List.map enc_si p1))]⟩) (C := ((0 : Int) ≤ 1 ∧ (1 : Int) < ((2 : Nat) : Int)) ∧ True) (by kernel_rfl) ⟨(by decide), trivial⟩ trivial ?_
      obtain ⟨g6, h⟩ := gd_e h
      refine AX.reg (its := [.auto {}, .auto {}, .auto { y := some (.sl 2 0 (((x4 ++ p1) ++ p2).length)), els := some (List.map enc_si (x4 ++ p1)), nk := 2 }]) [6, 25, 26, 27] [2] (s1 := ⟨[(6, .sl 2 0 (((x4 ++ p1) ++ p2).length)), (25, .bx [.bs false 2 (List.map enc_si p1), .bs false 2 (List.map enc_si p2)]), (26, .v (.int .i64 2)), (27, .v (.int .i64 1))], [(2, .arr 2 (List.map enc_si (x4 ++ p1) ++ List.map enc_si p2))]⟩) (C := ((((((List.map enc_si x4 ++ List.map enc_si p1).drop 0).take ((x4 ++ p1).length) = List.map enc_si (x4 ++ p1)) ∧ True) ∧ (List.map enc_si (x4 ++ p1)).length + (List.map enc_si p2).length ≤ 1099511627776) ∧ (AV.sl 2 0 (List.map enc_si (x4 ++ p1) ++ List.map enc_si p2).length = AV.sl 2 0 ((x4 ++ p1) ++ p2).length)) ∧ True) (by kernel_rfl) ⟨⟨⟨⟨(dt_all (enc := enc_si) (app_can (enc := enc_si) rfl (rfl) : List.map enc_si x4 ++ List.map enc_si p1 = List.map enc_si (x4 ++ p1)) rfl), trivial⟩, (by simp only [List.length_map, List.length_nil, List.length_replicate]; simpa using g6)⟩, sl_len (enc := enc_si) (app_can (enc := enc_si) rfl (rfl))⟩, trivial⟩ trivial ?_
      refine AX.reg (its := [.auto { raw := true }]) [6, 25, 26, 27] [2] (s1 := ⟨[(6, .sl 2 0 (((x4 ++ p1) ++ p2).length)), (25, .bx [.bs false 2 (List.map enc_si p1), .bs false 2 (List.map enc_si p2)]), (26, .v (.int .i64 2)), (27, .v (.int .i64 2))], [(2, .arr 2 (List.map enc_si (x4 ++ p1) ++ List.map enc_si p2))]⟩) (C := True) (by kernel_rfl) trivial trivial ?_
      refine AXL.step ?_
      refine AX.seq ?_
      refine AX.reg (its := []) [6, 25, 26, 27, 28] [2] (s1 := ⟨[(6, .sl 2 0 (((x4 ++ p1) ++ p2).length)), (25, .bx [.bs false 2 (List.map enc_si p1), .bs false 2 (List.map enc_si p2)]), (26, .v (.int .i64 2)), (27, .v (.int .i64 2)), (28, .v (.bool false))], [(2, .arr 2 (List.map enc_si (x4 ++ p1) ++ List.map enc_si p2))]⟩) (C := True) (by kernel_rfl) trivial trivial ?_
      refine AX.seq ?_
      refine AX.cond_false (by kernel_rfl) ?_
      refine AX.exit ?_
      refine AX.seq ?_
      refine AX.reg (its := []) [2] [2] (s1 := ⟨[(2, .sl 2 0 (((x4 ++ p1) ++ p2).length))], [(2, .arr 2 (List.map enc_si (x4 ++ p1) ++ List.map enc_si p2))]⟩) (C := True) (by kernel_rfl) trivial trivial ?_
      refine AX.ret ?_
      refine fin_wk (Wk.swap 0 2 (Nat.le_of_ble_eq_true (by kernel_rfl)) (Nat.le_of_ble_eq_true (by kernel_rfl)) rfl) ?_
      refine fin_wk (Wk.forget [2] [0] (s' := ⟨[(2, .sl 0 0 (((x4 ++ p1) ++ p2).length))], [(0, .arr 2 (List.map enc_si (x4 ++ p1) ++ List.map enc_si p2))]⟩) (by kernel_rfl)) ?_
      refine fin_wk (Wk.of_eq (congrArg (fun z => (⟨[(2, .sl 0 0 (((x4 ++ p1) ++ p2).length))], [(0, .arr 2 (z))]⟩ : S)) (app_can (enc := enc_si) rfl (rfl) : List.map enc_si (x4 ++ p1) ++ List.map enc_si p2 = List.map enc_si ((x4 ++ p1) ++ p2)))) ?_
      have hr := Option.some.inj h
      subst hr
      exact ⟨_, Wk.refl _, .inr rfl, ⟨[0], by kernel_rfl, ⟨rfl, trivial⟩, [.sl 0 0 (((x4 ++ p1) ++ p2).length)], by kernel_rfl, by kernel_rfl⟩⟩

theorem s_impl_DropDef (p1 : List (ByteArray × Int)) (p2 : ByteArray) (r : (List (ByteArray × Int)) × Bool) (h : m_impl_DropDef p1 p2 = some r) :
    Eng.Spec Try.prog 70 [.agg [.bs false 2 (List.map enc_si p1)], .v (.string p2)] [] (.tup [.agg [.sl 0 0 r.1.length], .v (.bool r.2)]) [.arr 2 (List.map enc_si r.1)] := by
  unfold m_impl_DropDef at h
  refine Eng.Spec.body Try.func70 (by kernel_rfl) rfl (by kernel_rfl) ?_
  refine AX.wkpost ?_
  refine AX.seq ?_
  refine AX.reg (its := [.auto { nk := 0 }, .auto { nk := 1 }]) [1, 2, 4] [0, 1] (s1 := ⟨[(1, .v (.string p2)), (2, .pt 0 0), (4, .pt 1 0)], [(0, .box [.bs false 2 (List.map enc_si p1)]), (1, .box [.v (.slice none 0 0)])]⟩) (C := True) (by kernel_rfl) trivial trivial ?_
  refine AX.seq ?_
  obtain ⟨x3, e1, h⟩ := bd_e h
  refine AX.reg (its := [.auto {}, .auto {}, .auto {}, .call 68 [.bs false 2 (List.map enc_si p1), .v (.string p2)] (handO (rho ([] ++ [])) [] [] ++ []) (callEv [] [] (.v (.int .i64 x3)) [])]) [2, 4, 6] [0, 1] (s1 := ⟨[(2, .pt 0 0), (4, .pt 1 0), (6, .v (.int .i64 x3))], [(0, .box [.bs false 2 (List.map enc_si p1)]), (1, .box [.v (.slice none 0 0)])]⟩) (C := ((([.bs false 2 (List.map enc_si p1), .v (.string p2)] : List AV) = [.bs false 2 (List.map enc_si p1), .v (.string p2)]) ∧ True) ∧ True) (by kernel_rfl) ⟨⟨rfl, trivial⟩, trivial⟩ ⟨call_ok (ks := []) (ns := []) (bor := []) (bobjs := []) (s_impl_named p1 p2 x3 e1) (.cons (.c1 (.c0 (.same _ (by kernel_rfl) (by kernel_rfl)))) (.cons (.c1 (.c0 (.same _ (by kernel_rfl) (by kernel_rfl)))) (.nil))) (by kernel_rfl) trivial, trivial⟩ ?_
  refine AX.seq ?_
  refine AX.seq ?_
  refine AX.reg (its := []) [2, 4, 6, 12] [0, 1] (s1 := ⟨[(2, .pt 0 0), (4, .pt 1 0), (6, .v (.int .i64 x3)), (12, .v (.bool (decide (x3 < 0))))], [(0, .box [.bs false 2 (List.map enc_si p1)]), (1, .box [.v (.slice none 0 0)])]⟩) (C := True) (by kernel_rfl) trivial trivial ?_
  rcases bool_cases (decide (x3 < 0)) with b2 | b2
  · replace h := cd_t b2 h
    refine AX.condT (decide (x3 < 0)) (by kernel_rfl) b2 ?_
    refine AX.seq ?_
    refine AX.reg (its := []) [4, 5] [1] (s1 := ⟨[(4, .pt 1 0), (5, .v (.bool false))], [(1, .box [.v (.slice none 0 0)])]⟩) (C := True) (by kernel_rfl) trivial trivial ?_
    refine AX.ret ?_
    refine fin_wk (Wk.matB 1 0 2 2 (cs := [.v (.slice none 0 0)]) (by kernel_rfl) (by kernel_rfl) (Nat.le_of_ble_eq_true (by kernel_rfl)) (by kernel_rfl) (by decide) rfl) ?_
    refine fin_wk (Wk.swap 0 1 (Nat.le_of_ble_eq_true (by kernel_rfl)) (Nat.le_of_ble_eq_true (by kernel_rfl)) rfl) ?_
    refine fin_wk (Wk.swap 1 2 (Nat.le_of_ble_eq_true (by kernel_rfl)) (Nat.le_of_ble_eq_true (by kernel_rfl)) rfl) ?_
    refine fin_wk (Wk.forget [4, 5] [0, 1] (s' := ⟨[(4, .pt 0 0), (5, .v (.bool false))], [(0, .box [.sl 1 0 (([] : List (ByteArray × Int)).length)]), (1, .arr 2 (List.map enc_si ([] : List (ByteArray × Int))))]⟩) (by kernel_rfl)) ?_
    have hr := Option.some.inj h
    subst hr
    exact ⟨_, Wk.refl _, .inr rfl, ⟨[1], by kernel_rfl, ⟨rfl, trivial⟩, [.agg [.sl 1 0 (([] : List (ByteArray × Int)).length)], .v (.bool false)], by kernel_rfl, by kernel_rfl⟩⟩
  · replace h := cd_f b2 h
    refine AX.condF (decide (x3 < 0)) (by kernel_rfl) b2 ?_
    refine AX.skip ?_
    refine AX.seq ?_
    obtain ⟨g3, h⟩ := gd_e h
    obtain ⟨g4, h⟩ := gd_e h
    obtain ⟨x4, e5, h⟩ := bd_e h
    obtain ⟨x5, e6, h⟩ := bd_e h
    obtain ⟨x6, e7, h⟩ := bd_e h
    refine AX.drw mixed (its := [.auto {}, .auto {}, .auto {}, .auto { y := some (.bs false 2 (List.map enc_si (sub p1 (0 : Int) x3))) }, .auto {}, .auto {}, .auto {}, .auto { raw := true }, .auto { y := some (.bs false 2 (List.map enc_si (sub p1 (IntKind.wrap .i64 (x3 + 1)) (p1.length : Int)))) }, .auto { raw := true, nk := 2 }, .call 89 [.sx 2 2] (handO (rho ([] ++ [3])) [] [] ++ [(2, .box [.bs false 2 (List.map enc_si (sub p1 (0 : Int) x3)), .bs false 2 (List.map enc_si (sub p1 (IntKind.wrap .i64 (x3 + 1)) (p1.length : Int)))])]) (callEv [] [3] (.sl 0 0 x4.length) [.arr 2 (List.map enc_si x4)]), .auto {}, .call 13 [.agg [.bs false 2 (List.map enc_si p1)]] (handO (rho ([] ++ [])) [] [] ++ []) (callEv [] [] (.v (.bool x5)) []), .call 71 [.sl 3 0 x4.length, .v (.bool x5)] (handO (rho ([] ++ [4])) [] [] ++ [(3, .arr 2 (List.map enc_si x4))]) (callEv [] [4] (.tup [.agg [.sl 0 0 x6.1.length], .v (.bool x6.2)]) [.arr 2 (List.map enc_si x6.1)])]) [4, 5] [1, 4] (s1 := ⟨[(4, .pt 1 0), (5, .v (.bool x6.2))], [(1, .box [.sl 4 0 x6.1.length]), (4, .arr 2 (List.map enc_si x6.1))]⟩) (C := ((0 ≤ (0 : Int) ∧ (0 : Int) ≤ x3 ∧ x3 ≤ ((List.map enc_si p1).length : Int) ∧ ((List.map enc_si p1).length : Int) ≤ ((List.map enc_si p1).length : Int)) ∧ (AV.bs false 2 (((List.map enc_si p1).drop (0 : Int).toNat).take (x3.toNat - (0 : Int).toNat)) = (.bs false 2 (List.map enc_si (sub p1 (0 : Int) x3)) : AV))) ∧ ((0 ≤ (IntKind.wrap .i64 (x3 + 1)) ∧ (IntKind.wrap .i64 (x3 + 1)) ≤ ((List.map enc_si p1).length : Int) ∧ ((List.map enc_si p1).length : Int) ≤ ((List.map enc_si p1).length : Int) ∧ ((List.map enc_si p1).length : Int) ≤ ((List.map enc_si p1).length : Int)) ∧ (AV.bs false 2 (((List.map enc_si p1).drop (IntKind.wrap .i64 (x3 + 1)).toNat).take (((List.map enc_si p1).length : Int).toNat - (IntKind.wrap .i64 (x3 + 1)).toNat)) = (.bs false 2 (List.map enc_si (sub p1 (IntKind.wrap .i64 (x3 + 1)) (p1.length : Int))) : AV))) ∧ ((([.sx 2 2] : List AV) = [.sx 2 2]) ∧ (AO.box [.bs false 2 (List.map enc_si (sub p1 (0 : Int) x3)), .bs false 2 (List.map enc_si (sub p1 (IntKind.wrap .i64 (x3 + 1)) (p1.length : Int)))] = AO.box [.bs false 2 (List.map enc_si (sub p1 (0 : Int) x3)), .bs false 2 (List.map enc_si (sub p1 (IntKind.wrap .i64 (x3 + 1)) (p1.length : Int)))]) ∧ True) ∧ ((([.agg [.bs false 2 (List.map enc_si p1)]] : List AV) = [.agg [.bs false 2 (List.map enc_si p1)]]) ∧ True) ∧ ((([.sl 3 0 x4.length, .v (.bool x5)] : List AV) = [.sl 3 0 x4.length, .v (.bool x5)]) ∧ (AO.arr 2 (List.map enc_si x4) = AO.arr 2 (List.map enc_si x4)) ∧ True) ∧ True) (by kernel_rfl) ⟨⟨by first | exact g3 | simpa only [List.length_map] using g3, by first | exact sub_can enc_si p1 (0 : Int) x3 false 2 | (simp only [List.length_map]; exact sub_can enc_si p1 (0 : Int) x3 false 2)⟩, ⟨⟨by first | exact g4 | simpa only [List.length_map] using g4, by first | exact sub_can enc_si p1 (IntKind.wrap .i64 (x3 + 1)) (p1.length : Int) false 2 | (simp only [List.length_map]; exact sub_can enc_si p1 (IntKind.wrap .i64 (x3 + 1)) (p1.length : Int) false 2)⟩, ⟨⟨rfl, rfl, trivial⟩, ⟨⟨rfl, trivial⟩, ⟨⟨rfl, rfl, trivial⟩, trivial⟩⟩⟩⟩⟩ ⟨call_ok (ks := []) (ns := [3]) (bor := [2]) (bobjs := [(2, .box [.bs false 2 (List.map enc_si (sub p1 (0 : Int) x3)), .bs false 2 (List.map enc_si (sub p1 (IntKind.wrap .i64 (x3 + 1)) (p1.length : Int)))])]) (s_slices_Concat_x2sisi (sub p1 (0 : Int) x3) (sub p1 (IntKind.wrap .i64 (x3 + 1)) (p1.length : Int)) x4 e5) (.cons (.c1 (.sx rfl rfl (.cons (.same _ (by kernel_rfl) (by kernel_rfl)) (.cons (.same _ (by kernel_rfl) (by kernel_rfl)) (.nil))))) (.nil)) (by kernel_rfl) trivial, ⟨call_ok (ks := []) (ns := []) (bor := []) (bobjs := []) (s_impl_ValidEnum p1 x5 e6) (.cons (.c1 (.agg (.cons (.same _ (by kernel_rfl) (by kernel_rfl)) (.nil)))) (.nil)) (by kernel_rfl) trivial, ⟨call_ok (ks := []) (ns := [4]) (bor := [3]) (bobjs := [(3, .arr 2 (List.map enc_si x4))]) (s_impl_enumOf x4 x5 x6 e7) (.cons (.c1 (.c0 (.arr rfl rfl ((rfl).trans (List.length_map ..).symm)))) (.cons (.c1 (.c0 (.same _ (by kernel_rfl) (by kernel_rfl)))) (.nil))) (by kernel_rfl) trivial, trivial⟩⟩⟩ ?_
    refine AX.ret ?_
    refine fin_wk (Wk.swap 0 1 (Nat.le_of_ble_eq_true (by kernel_rfl)) (Nat.le_of_ble_eq_true (by kernel_rfl)) rfl) ?_
    refine fin_wk (Wk.swap 1 4 (Nat.le_of_ble_eq_true (by kernel_rfl)) (Nat.le_of_ble_eq_true (by kernel_rfl)) rfl) ?_
    refine fin_wk (Wk.forget [4, 5] [0, 1] (s' := ⟨[(4, .pt 0 0), (5, .v (.bool x6.2))], [(0, .box [.sl 1 0 x6.1.length]), (1, .arr 2 (List.map enc_si x6.1))]⟩) (by kernel_rfl)) ?_
    have hr := Option.some.inj h
    subst hr
    exact ⟨_, Wk.refl _, .inr rfl, ⟨[1], by kernel_rfl, ⟨rfl, trivial⟩, [.agg [.sl 1 0 x6.1.length], .v (.bool x6.2)], by kernel_rfl, by kernel_rfl⟩⟩

theorem s_impl_Enum_apply (p1 : List (ByteArray × Int)) (p2 : Int) (p3 : ByteArray) (p4 : Int) (p5 : Int) (r : (List (ByteArray × Int)) × Bool) (h : m_impl_Enum_apply p1 p2 p3 p4 p5 = some r) :
    Eng.Spec Try.prog 35 [.agg [.bs false 2 (List.map enc_si p1)], .agg [.v (.int .i64 p2), .v (.string p3), .v (.int .i64 p4), .v (.int .i64 p5)]] [] (.tup [.agg [.sl 0 0 r.1.length], .v (.bool r.2)]) [.arr 2 (List.map enc_si r.1)] := by
  unfold m_impl_Enum_apply at h
  refine Eng.Spec.body Try.func35 (by kernel_rfl) rfl (by kernel_rfl) ?_
  refine AX.wkpost ?_
  refine AX.seq ?_
  refine AX.reg (its := [.auto { nk := 0 }, .auto { nk := 1 }, .auto { nk := 2 }]) [2, 3, 4] [0, 1, 2] (s1 := ⟨[(2, .pt 0 0), (3, .pt 1 0), (4, .pt 2 0)], [(0, .box [.bs false 2 (List.map enc_si p1)]), (1, .box [.v (.int .i64 p2), .v (.string p3), .v (.int .i64 p4), .v (.int .i64 p5)]), (2, .box [.v (.slice none 0 0)])]⟩) (C := True) (by kernel_rfl) trivial trivial ?_
  refine AX.seq ?_
  obtain ⟨x6, e1, h⟩ := bd_e h
  refine AX.reg (its := [.auto {}, .auto {}, .auto {}, .auto {}, .call 68 [.bs false 2 (List.map enc_si p1), .v (.string p3)] (handO (rho ([] ++ [])) [] [] ++ []) (callEv [] [] (.v (.int .i64 x6)) [])]) [2, 3, 4, 6] [0, 1, 2] (s1 := ⟨[(2, .pt 0 0), (3, .pt 1 0), (4, .pt 2 0), (6, .v (.int .i64 x6))], [(0, .box [.bs false 2 (List.map enc_si p1)]), (1, .box [.v (.int .i64 p2), .v (.string p3), .v (.int .i64 p4), .v (.int .i64 p5)]), (2, .box [.v (.slice none 0 0)])]⟩) (C := ((([.bs false 2 (List.map enc_si p1), .v (.string p3)] : List AV) = [.bs false 2 (List.map enc_si p1), .v (.string p3)]) ∧ True) ∧ True) (by kernel_rfl) ⟨⟨rfl, trivial⟩, trivial⟩ ⟨call_ok (ks := []) (ns := []) (bor := []) (bobjs := []) (s_impl_named p1 p3 x6 e1) (.cons (.c1 (.c0 (.same _ (by kernel_rfl) (by kernel_rfl)))) (.cons (.c1 (.c0 (.same _ (by kernel_rfl) (by kernel_rfl)))) (.nil))) (by kernel_rfl) trivial, trivial⟩ ?_
  refine AX.seq ?_
  refine AX.block ?_
  refine AX.seq ?_
  refine AX.reg (its := []) [2, 3, 4, 6, 13] [0, 1, 2] (s1 := ⟨[(2, .pt 0 0), (3, .pt 1 0), (4, .pt 2 0), (6, .v (.int .i64 x6)), (13, .v (.bool (decide (p2 = 0))))], [(0, .box [.bs false 2 (List.map enc_si p1)]), (1, .box [.v (.int .i64 p2), .v (.string p3), .v (.int .i64 p4), .v (.int .i64 p5)]), (2, .box [.v (.slice none 0 0)])]⟩) (C := True) (by kernel_rfl) trivial trivial ?_
  rcases bool_cases (decide (p2 = 0)) with b2 | b2
  · replace h := cd_t b2 h
    refine AX.condT (decide (p2 = 0)) (by kernel_rfl) b2 ?_
    refine AX.seq ?_
    refine AX.seq ?_
    rcases bool_cases (decide (0 ≤ x6)) with b3 | b3
    · replace h := cd_t b3 h
      refine AX.reg (its := [.auto {}, .auto { y := some (.v (.bool true)) }]) [2, 3, 4, 23] [0, 1, 2] (s1 := ⟨[(2, .pt 0 0), (3, .pt 1 0), (4, .pt 2 0), (23, .v (.bool true))], [(0, .box [.bs false 2 (List.map enc_si p1)]), (1, .box [.v (.int .i64 p2), .v (.string p3), .v (.int .i64 p4), .v (.int .i64 p5)]), (2, .box [.v (.slice none 0 0)])]⟩) (C := ((True) ∧ ((.v (.bool (decide (0 ≤ x6))) : AV) = (.v (.bool true) : AV))) ∧ True) (by kernel_rfl) ⟨⟨trivial, (congrArg (fun z => AV.v (.bool z)) b3)⟩, trivial⟩ trivial ?_
      refine AX.cond_true (by kernel_rfl) ?_
      refine AX.seq ?_
      refine AX.reg (its := []) [4, 5] [2] (s1 := ⟨[(4, .pt 2 0), (5, .v (.bool false))], [(2, .box [.v (.slice none 0 0)])]⟩) (C := True) (by kernel_rfl) trivial trivial ?_
      refine AX.ret ?_
      refine fin_wk (Wk.matB 2 0 3 2 (cs := [.v (.slice none 0 0)]) (by kernel_rfl) (by kernel_rfl) (Nat.le_of_ble_eq_true (by kernel_rfl)) (by kernel_rfl) (by decide) rfl) ?_
      refine fin_wk (Wk.swap 0 2 (Nat.le_of_ble_eq_true (by kernel_rfl)) (Nat.le_of_ble_eq_true (by kernel_rfl)) rfl) ?_
      refine fin_wk (Wk.swap 1 3 (Nat.le_of_ble_eq_true (by kernel_rfl)) (Nat.le_of_ble_eq_true (by kernel_rfl)) rfl) ?_
      refine fin_wk (Wk.forget [4, 5] [0, 1] (s' := ⟨[(4, .pt 0 0), (5, .v (.bool false))], [(0, .box [.sl 1 0 (([] : List (ByteArray × Int)).length)]), (1, .arr 2 (List.map enc_si ([] : List (ByteArray × Int))))]⟩) (by kernel_rfl)) ?_
      have hr := Option.some.inj h
      subst hr
      exact ⟨_, Wk.refl _, .inr rfl, ⟨[1], by kernel_rfl, ⟨rfl, trivial⟩, [.agg [.sl 1 0 (([] : List (ByteArray × Int)).length)], .v (.bool false)], by kernel_rfl, by kernel_rfl⟩⟩
    · replace h := cd_f b3 h
      refine AX.reg (its := [.auto {}, .auto { y := some (.v (.bool false)) }]) [2, 3, 4, 23] [0, 1, 2] (s1 := ⟨[(2, .pt 0 0), (3, .pt 1 0), (4, .pt 2 0), (23, .v (.bool (!decide (p4 = 0))))], [(0, .box [.bs false 2 (List.map enc_si p1)]), (1, .box [.v (.int .i64 p2), .v (.string p3), .v (.int .i64 p4), .v (.int .i64 p5)]), (2, .box [.v (.slice none 0 0)])]⟩) (C := ((True) ∧ ((.v (.bool (decide (0 ≤ x6))) : AV) = (.v (.bool false) : AV))) ∧ True) (by kernel_rfl) ⟨⟨trivial, (congrArg (fun z => AV.v (.bool z)) b3)⟩, trivial⟩ trivial ?_
      rcases bool_cases ((!decide (p4 = 0))) with b4 | b4
      · replace h := cd_t b4 h
        refine AX.condT ((!decide (p4 = 0))) (by kernel_rfl) b4 ?_
        refine AX.seq ?_
        refine AX.reg (its := []) [4, 5] [2] (s1 := ⟨[(4, .pt 2 0), (5, .v (.bool false))], [(2, .box [.v (.slice none 0 0)])]⟩) (C := True) (by kernel_rfl) trivial trivial ?_
        refine AX.ret ?_
        refine fin_wk (Wk.matB 2 0 3 2 (cs := [.v (.slice none 0 0)]) (by kernel_rfl) (by kernel_rfl) (Nat.le_of_ble_eq_true (by kernel_rfl)) (by kernel_rfl) (by decide) rfl) ?_
        refine fin_wk (Wk.swap 0 2 (Nat.le_of_ble_eq_true (by kernel_rfl)) (Nat.le_of_ble_eq_true (by kernel_rfl)) rfl) ?_
        refine fin_wk (Wk.swap 1 3 (Nat.le_of_ble_eq_true (by kernel_rfl)) (Nat.le_of_ble_eq_true (by kernel_rfl)) rfl) ?_
        refine fin_wk (Wk.forget [4, 5] [0, 1] (s' := ⟨[(4, .pt 0 0), (5, .v (.bool false))], [(0, .box [.sl 1 0 (([] : List (ByteArray × Int)).length)]), (1, .arr 2 (List.map enc_si ([] : List (ByteArray × Int))))]⟩) (by kernel_rfl)) ?_
        have hr := Option.some.inj h
        subst hr
        exact ⟨_, Wk.refl _, .inr rfl, ⟨[1], by kernel_rfl, ⟨rfl, trivial⟩, [.agg [.sl 1 0 (([] : List (ByteArray × Int)).length)], .v (.bool false)], by kernel_rfl, by kernel_rfl⟩⟩
      · replace h := cd_f b4 h
        refine AX.condF ((!decide (p4 = 0))) (by kernel_rfl) b4 ?_
        refine AX.skip ?_
        refine AX.seq ?_
        obtain ⟨x7, e5, h⟩ := bd_e h
        refine AX.reg (its := [.auto {}, .auto {}, .auto {}, .auto {}, .auto {}, .auto {}, .call 69 [.agg [.bs false 2 (List.map enc_si p1)], .agg [.v (.string p3), .v (.int .i64 p5)]] (handO (rho ([] ++ [3])) [] [] ++ []) (callEv [] [3] (.tup [.agg [.sl 0 0 x7.1.length], .v (.bool x7.2)]) [.arr 2 (List.map enc_si x7.1)])]) [4, 5] [2, 3] (s1 := ⟨[(4, .pt 2 0), (5, .v (.bool x7.2))], [(2, .box [.sl 3 0 x7.1.length]), (3, .arr 2 (List.map enc_si x7.1))]⟩) (C := ((([.agg [.bs false 2 (List.map enc_si p1)], .agg [.v (.string p3), .v (.int .i64 p5)]] : List AV) = [.agg [.bs false 2 (List.map enc_si p1)], .agg [.v (.string p3), .v (.int .i64 p5)]]) ∧ True) ∧ True) (by kernel_rfl) ⟨⟨rfl, trivial⟩, trivial⟩ ⟨call_ok (ks := []) (ns := [3]) (bor := []) (bobjs := []) (s_impl_AddDef p1 p3 p5 x7 e5) (.cons (.c1 (.agg (.cons (.same _ (by kernel_rfl) (by kernel_rfl)) (.nil)))) (.cons (.c1 (.agg (.cons (.same _ (by kernel_rfl) (by kernel_rfl)) (.cons (.same _ (by kernel_rfl) (by kernel_rfl)) (.nil))))) (.nil))) (by kernel_rfl) trivial, trivial⟩ ?_
        refine AX.ret ?_
        refine fin_wk (Wk.swap 0 2 (Nat.le_of_ble_eq_true (by kernel_rfl)) (Nat.le_of_ble_eq_true (by kernel_rfl)) rfl) ?_
        refine fin_wk (Wk.swap 1 3 (Nat.le_of_ble_eq_true (by kernel_rfl)) (Nat.le_of_ble_eq_true (by kernel_rfl)) rfl) ?_
        refine fin_wk (Wk.forget [4, 5] [0, 1] (s' := ⟨[(4, .pt 0 0), (5, .v (.bool x7.2))], [(0, .box [.sl 1 0 x7.1.length]), (1, .arr 2 (List.map enc_si x7.1))]⟩) (by kernel_rfl)) ?_
        have hr := Option.some.inj h
        subst hr
        exact ⟨_, Wk.refl _, .inr rfl, ⟨[1], by kernel_rfl, ⟨rfl, trivial⟩, [.agg [.sl 1 0 x7.1.length], .v (.bool x7.2)], by kernel_rfl, by kernel_rfl⟩⟩
  · replace h := cd_f b2 h
    refine AX.condF (decide (p2 = 0)) (by kernel_rfl) b2 ?_
    refine AX.seq ?_
    rcases bool_cases (decide (x6 < 0)) with b6 | b6
    · replace h := cd_t b6 h
      refine AX.drw mixed (its := [.auto {}, .auto { y := some (.v (.bool true)) }]) [2, 3, 4, 6, 34] [0, 1, 2] (s1 := ⟨[(2, .pt 0 0), (3, .pt 1 0), (4, .pt 2 0), (6, .v (.int .i64 x6)), (34, .v (.bool true))], [(0, .box [.bs false 2 (List.map enc_si p1)]), (1, .box [.v (.int .i64 p2), .v (.string p3), .v (.int .i64 p4), .v (.int .i64 p5)]), (2, .box [.v (.slice none 0 0)])]⟩) (C := ((True) ∧ ((.v (.bool (decide (x6 < 0))) : AV) = (.v (.bool true) : AV))) ∧ True) (by kernel_rfl) ⟨⟨trivial, (congrArg (fun z => AV.v (.bool z)) b6)⟩, trivial⟩ trivial ?_
      refine AX.cond_true (by kernel_rfl) ?_
      refine AX.seq ?_
      refine AX.reg (its := []) [4, 5] [2] (s1 := ⟨[(4, .pt 2 0), (5, .v (.bool false))], [(2, .box [.v (.slice none 0 0)])]⟩) (C := True) (by kernel_rfl) trivial trivial ?_
      refine AX.ret ?_
      refine fin_wk (Wk.matB 2 0 3 2 (cs := [.v (.slice none 0 0)]) (by kernel_rfl) (by kernel_rfl) (Nat.le_of_ble_eq_true (by kernel_rfl)) (by kernel_rfl) (by decide) rfl) ?_
      refine fin_wk (Wk.swap 0 2 (Nat.le_of_ble_eq_true (by kernel_rfl)) (Nat.le_of_ble_eq_true (by kernel_rfl)) rfl) ?_
      refine fin_wk (Wk.swap 1 3 (Nat.le_of_ble_eq_true (by kernel_rfl)) (Nat.le_of_ble_eq_true (by kernel_rfl)) rfl) ?_
      refine fin_wk (Wk.forget [4, 5] [0, 1] (s' := ⟨[(4, .pt 0 0), (5, .v (.bool false))], [(0, .box [.sl 1 0 (([] : List (ByteArray × Int)).length)]), (1, .arr 2 (List.map enc_si ([] : List (ByteArray × Int))))]⟩) (by kernel_rfl)) ?_
      have hr := Option.some.inj h
      subst hr
      exact ⟨_, Wk.refl _, .inr rfl, ⟨[1], by kernel_rfl, ⟨rfl, trivial⟩, [.agg [.sl 1 0 (([] : List (ByteArray × Int)).length)], .v (.bool false)], by kernel_rfl, by kernel_rfl⟩⟩
    · replace h := cd_f b6 h
      obtain ⟨g7, h⟩ := gd_e h
      refine AX.drw mixed (its := [.auto {}, .auto { y := some (.v (.bool false)) }, .auto {}, .auto {}, .auto {}, .auto {}, .auto { y := some (.be 2 (enc_si (gt p1 x6)) 0) }]) [2, 3, 4, 6, 34] [0, 1, 2] (s1 := ⟨[(2, .pt 0 0), (3, .pt 1 0), (4, .pt 2 0), (6, .v (.int .i64 x6)), (34, .v (.bool (!decide (((gt p1 x6).2) = p4))))], [(0, .box [.bs false 2 (List.map enc_si p1)]), (1, .box [.v (.int .i64 p2), .v (.string p3), .v (.int .i64 p4), .v (.int .i64 p5)]), (2, .box [.v (.slice none 0 0)])]⟩) (C := ((True) ∧ ((.v (.bool (decide (x6 < 0))) : AV) = (.v (.bool false) : AV))) ∧ ((0 ≤ x6 ∧ x6 < ((List.map enc_si p1).length : Int)) ∧ (AV.be 2 ((List.map enc_si p1).getD x6.toNat []) 0 = AV.be 2 (enc_si (gt p1 x6)) 0)) ∧ True) (by kernel_rfl) ⟨⟨trivial, (congrArg (fun z => AV.v (.bool z)) b6)⟩, ⟨idx_bs enc_si p1 x6 2 g7, trivial⟩⟩ trivial ?_
      rcases bool_cases ((!decide (((gt p1 x6).2) = p4))) with b8 | b8
      · replace h := cd_t b8 h
        refine AX.condT ((!decide (((gt p1 x6).2) = p4))) (by kernel_rfl) b8 ?_
        refine AX.seq ?_
        refine AX.reg (its := []) [4, 5] [2] (s1 := ⟨[(4, .pt 2 0), (5, .v (.bool false))], [(2, .box [.v (.slice none 0 0)])]⟩) (C := True) (by kernel_rfl) trivial trivial ?_
        refine AX.ret ?_
        refine fin_wk (Wk.matB 2 0 3 2 (cs := [.v (.slice none 0 0)]) (by kernel_rfl) (by kernel_rfl) (Nat.le_of_ble_eq_true (by kernel_rfl)) (by kernel_rfl) (by decide) rfl) ?_
        refine fin_wk (Wk.swap 0 2 (Nat.le_of_ble_eq_true (by kernel_rfl)) (Nat.le_of_ble_eq_true (by kernel_rfl)) rfl) ?_
        refine fin_wk (Wk.swap 1 3 (Nat.le_of_ble_eq_true (by kernel_rfl)) (Nat.le_of_ble_eq_true (by kernel_rfl)) rfl) ?_
        refine fin_wk (Wk.forget [4, 5] [0, 1] (s' := ⟨[(4, .pt 0 0), (5, .v (.bool false))], [(0, .box [.sl 1 0 (([] : List (ByteArray × Int)).length)]), (1, .arr 2 (List.map enc_si ([] : List (ByteArray × Int))))]⟩) (by kernel_rfl)) ?_
        have hr := Option.some.inj h
        subst hr
        exact ⟨_, Wk.refl _, .inr rfl, ⟨[1], by kernel_rfl, ⟨rfl, trivial⟩, [.agg [.sl 1 0 (([] : List (ByteArray × Int)).length)], .v (.bool false)], by kernel_rfl, by kernel_rfl⟩⟩
      · replace h := cd_f b8 h
        refine AX.condF ((!decide (((gt p1 x6).2) = p4))) (by kernel_rfl) b8 ?_
        refine AX.seq ?_
        rcases bool_cases (decide (p2 = 1)) with b9 | b9
        · replace h := cd_t b9 h
          refine AX.reg (its := [.auto {}, .auto {}, .auto { y := some (.v (.bool true)) }]) [2, 3, 4, 6, 49] [0, 1, 2] (s1 := ⟨[(2, .pt 0 0), (3, .pt 1 0), (4, .pt 2 0), (6, .v (.int .i64 x6)), (49, .v (.bool (decide (p5 = 0))))], [(0, .box [.bs false 2 (List.map enc_si p1)]), (1, .box [.v (.int .i64 p2), .v (.string p3), .v (.int .i64 p4), .v (.int .i64 p5)]), (2, .box [.v (.slice none 0 0)])]⟩) (C := ((True) ∧ ((.v (.bool (decide (p2 = 1))) : AV) = (.v (.bool true) : AV))) ∧ True) (by kernel_rfl) ⟨⟨trivial, (congrArg (fun z => AV.v (.bool z)) b9)⟩, trivial⟩ trivial ?_
          rcases bool_cases (decide (p5 = 0)) with b10 | b10
          · replace h := cd_t b10 h
            refine AX.condT (decide (p5 = 0)) (by kernel_rfl) b10 ?_
            refine AX.seq ?_
            obtain ⟨x8, e11, h⟩ := bd_e h
            refine AX.reg (its := [.auto {}, .auto {}, .auto {}, .call 70 [.agg [.bs false 2 (List.map enc_si p1)], .v (.string p3)] (handO (rho ([] ++ [3])) [] [] ++ []) (callEv [] [3] (.tup [.agg [.sl 0 0 x8.1.length], .v (.bool x8.2)]) [.arr 2 (List.map enc_si x8.1)])]) [4, 5] [2, 3] (s1 := ⟨[(4, .pt 2 0), (5, .v (.bool x8.2))], [(2, .box [.sl 3 0 x8.1.length]), (3, .arr 2 (List.map enc_si x8.1))]⟩) (C := ((([.agg [.bs false 2 (List.map enc_si p1)], .v (.string p3)] : List AV) = [.agg [.bs false 2 (List.map enc_si p1)], .v (.string p3)]) ∧ True) ∧ True) (by kernel_rfl) ⟨⟨rfl, trivial⟩, trivial⟩ ⟨call_ok (ks := []) (ns := [3]) (bor := []) (bobjs := []) (s_impl_DropDef p1 p3 x8 e11) (.cons (.c1 (.agg (.cons (.same _ (by kernel_rfl) (by kernel_rfl)) (.nil)))) (.cons (.c1 (.c0 (.same _ (by kernel_rfl) (by kernel_rfl)))) (.nil))) (by kernel_rfl) trivial, trivial⟩ ?_
            refine AX.ret ?_
            refine fin_wk (Wk.swap 0 2 (Nat.le_of_ble_eq_true (by kernel_rfl)) (Nat.le_of_ble_eq_true (by kernel_rfl)) rfl) ?_
            refine fin_wk (Wk.swap 1 3 (Nat.le_of_ble_eq_true (by kernel_rfl)) (Nat.le_of_ble_eq_true (by kernel_rfl)) rfl) ?_
            refine fin_wk (Wk.forget [4, 5] [0, 1] (s' := ⟨[(4, .pt 0 0), (5, .v (.bool x8.2))], [(0, .box [.sl 1 0 x8.1.length]), (1, .arr 2 (List.map enc_si x8.1))]⟩) (by kernel_rfl)) ?_
            have hr := Option.some.inj h
            subst hr
            exact ⟨_, Wk.refl _, .inr rfl, ⟨[1], by kernel_rfl, ⟨rfl, trivial⟩, [.agg [.sl 1 0 x8.1.length], .v (.bool x8.2)], by kernel_rfl, by kernel_rfl⟩⟩
          · replace h := cd_f b10 h
            refine AX.condF (decide (p5 = 0)) (by kernel_rfl) b10 ?_
            refine AX.seq ?_
            refine AX.reg (its := []) [2, 3, 4, 6, 64] [0, 1, 2] (s1 := ⟨[(2, .pt 0 0), (3, .pt 1 0), (4, .pt 2 0), (6, .v (.int .i64 x6)), (64, .v (.bool (decide (p2 = 2))))], [(0, .box [.bs false 2 (List.map enc_si p1)]), (1, .box [.v (.int .i64 p2), .v (.string p3), .v (.int .i64 p4), .v (.int .i64 p5)]), (2, .box [.v (.slice none 0 0)])]⟩) (C := True) (by kernel_rfl) trivial trivial ?_
            rcases bool_cases (decide (p2 = 2)) with b12 | b12
            · replace h := cd_t b12 h
              refine AX.condT (decide (p2 = 2)) (by kernel_rfl) b12 ?_
              refine AX.seq ?_
              obtain ⟨x9, e13, h⟩ := bd_e h
              refine AX.reg (its := [.auto {}, .auto {}, .call 34 [.bs false 2 (List.map enc_si p1)] (handO (rho ([] ++ [3])) [] [] ++ []) (callEv [] [3] (.sl 0 0 x9.length) [.arr 2 (List.map enc_si x9)])]) [3, 4, 6, 7] [1, 2, 3] (s1 := ⟨[(3, .pt 1 0), (4, .pt 2 0), (6, .v (.int .i64 x6)), (7, .sl 3 0 x9.length)], [(1, .box [.v (.int .i64 p2), .v (.string p3), .v (.int .i64 p4), .v (.int .i64 p5)]), (2, .box [.v (.slice none 0 0)]), (3, .arr 2 (List.map enc_si x9))]⟩) (C := ((([.bs false 2 (List.map enc_si p1)] : List AV) = [.bs false 2 (List.map enc_si p1)]) ∧ True) ∧ True) (by kernel_rfl) ⟨⟨rfl, trivial⟩, trivial⟩ ⟨call_ok (ks := []) (ns := [3]) (bor := []) (bobjs := []) (s_impl_clone_si p1 x9 e13) (.cons (.c1 (.c0 (.same _ (by kernel_rfl) (by kernel_rfl)))) (.nil)) (by kernel_rfl) trivial, trivial⟩ ?_
              refine AX.seq ?_
              obtain ⟨g14, h⟩ := gd_e h
              refine AX.reg (its := [.auto {}, .auto {}, .auto {}, .auto {}, .auto {}, .auto {}, .auto { els := some ([enc_si ((gt x9 x6).1, p5)]) }]) [4, 7] [2, 3] (s1 := ⟨[(4, .pt 2 0), (7, .sl 3 0 x9.length)], [(2, .box [.v (.slice none 0 0)]), (3, .arr 2 ((List.map enc_si x9).set (0 + x6.toNat) (enc_si ((gt x9 x6).1, p5))))]⟩) (C := (0 ≤ x6 ∧ x6 < (x9.length : Int)) ∧ ((((List.map enc_si x9).getD (0 + x6.toNat) []).take 1 ++ [(.int .i64 p5)] ++ ((List.map enc_si x9).getD (0 + x6.toNat) []).drop 2 = enc_si ((gt x9 x6).1, p5))) ∧ True) (by kernel_rfl) ⟨g14, ⟨(congrArg (fun z : List Value => z.take 1 ++ [(.int .i64 p5)] ++ z.drop 2) (idx_arr (enc := enc_si) rfl g14)), trivial⟩⟩ trivial ?_
              refine AX.seq ?_
              obtain ⟨x10, e15, h⟩ := bd_e h
              refine AX.reg (its := [.auto {}, .call 71 [.sl 3 0 x9.length, .v (.bool true)] (handO (rho ([] ++ [4])) [] [] ++ [(3, .arr 2 (List.map enc_si (x9.set (0 + x6.toNat) ((gt x9 x6).1, p5))))]) (callEv [] [4] (.tup [.agg [.sl 0 0 x10.1.length], .v (.bool x10.2)]) [.arr 2 (List.map enc_si x10.1)])]) [4, 5] [2, 4] (s1 := ⟨[(4, .pt 2 0), (5, .v (.bool x10.2))], [(2, .box [.sl 4 0 x10.1.length]), (4, .arr 2 (List.map enc_si x10.1))]⟩) (C := ((([.sl 3 0 x9.length, .v (.bool true)] : List AV) = [.sl 3 0 x9.length, .v (.bool true)]) ∧ (AO.arr 2 ((List.map enc_si x9).set (0 + x6.toNat) (enc_si ((gt x9 x6).1, p5))) = AO.arr 2 (List.map enc_si (x9.set (0 + x6.toNat) ((gt x9 x6).1, p5)))) ∧ True) ∧ True) (by kernel_rfl) ⟨⟨rfl, arr_eq (set_can (enc := enc_si) rfl (0 + x6.toNat) ((gt x9 x6).1, p5)), trivial⟩, trivial⟩ ⟨call_ok (ks := []) (ns := [4]) (bor := [3]) (bobjs := [(3, .arr 2 (List.map enc_si (x9.set (0 + x6.toNat) ((gt x9 x6).1, p5))))]) (s_impl_enumOf (x9.set (0 + x6.toNat) ((gt x9 x6).1, p5)) true x10 e15) (.cons (.c1 (.c0 (.arr rfl rfl ((set_len ((rfl : x9.length = x9.length)) (0 + x6.toNat) ((gt x9 x6).1, p5)).trans (List.length_map ..).symm)))) (.cons (.c1 (.c0 (.same _ (by kernel_rfl) (by kernel_rfl)))) (.nil))) (by kernel_rfl) trivial, trivial⟩ ?_
              refine AX.ret ?_
              refine fin_wk (Wk.swap 0 2 (Nat.le_of_ble_eq_true (by kernel_rfl)) (Nat.le_of_ble_eq_true (by kernel_rfl)) rfl) ?_
              refine fin_wk (Wk.swap 1 4 (Nat.le_of_ble_eq_true (by kernel_rfl)) (Nat.le_of_ble_eq_true (by kernel_rfl)) rfl) ?_
              refine fin_wk (Wk.forget [4, 5] [0, 1] (s' := ⟨[(4, .pt 0 0), (5, .v (.bool x10.2))], [(0, .box [.sl 1 0 x10.1.length]), (1, .arr 2 (List.map enc_si x10.1))]⟩) (by kernel_rfl)) ?_
              have hr := Option.some.inj h
              subst hr
              exact ⟨_, Wk.refl _, .inr rfl, ⟨[1], by kernel_rfl, ⟨rfl, trivial⟩, [.agg [.sl 1 0 x10.1.length], .v (.bool x10.2)], by kernel_rfl, by kernel_rfl⟩⟩
            · replace h := cd_f b12 h
              refine AX.condF (decide (p2 = 2)) (by kernel_rfl) b12 ?_
              refine AX.skip ?_
              refine AX.seq ?_
              refine AX.reg (its := []) [4, 5] [2] (s1 := ⟨[(4, .pt 2 0), (5, .v (.bool false))], [(2, .box [.v (.slice none 0 0)])]⟩) (C := True) (by kernel_rfl) trivial trivial ?_
              refine AX.ret ?_
              refine fin_wk (Wk.matB 2 0 3 2 (cs := [.v (.slice none 0 0)]) (by kernel_rfl) (by kernel_rfl) (Nat.le_of_ble_eq_true (by kernel_rfl)) (by kernel_rfl) (by decide) rfl) ?_
              refine fin_wk (Wk.swap 0 2 (Nat.le_of_ble_eq_true (by kernel_rfl)) (Nat.le_of_ble_eq_true (by kernel_rfl)) rfl) ?_
              refine fin_wk (Wk.swap 1 3 (Nat.le_of_ble_eq_true (by kernel_rfl)) (Nat.le_of_ble_eq_true (by kernel_rfl)) rfl) ?_
              refine fin_wk (Wk.forget [4, 5] [0, 1] (s' := ⟨[(4, .pt 0 0), (5, .v (.bool false))], [(0, .box [.sl 1 0 (([] : List (ByteArray × Int)).length)]), (1, .arr 2 (List.map enc_si ([] : List (ByteArray × Int))))]⟩) (by kernel_rfl)) ?_
              have hr := Option.some.inj h
              subst hr
              exact ⟨_, Wk.refl _, .inr rfl, ⟨[1], by kernel_rfl, ⟨rfl, trivial⟩, [.agg [.sl 1 0 (([] : List (ByteArray × Int)).length)], .v (.bool false)], by kernel_rfl, by kernel_rfl⟩⟩
        · replace h := cd_f b9 h
          refine AX.reg (its := [.auto {}, .auto {}, .auto { y := some (.v (.bool false)) }]) [2, 3, 4, 6, 49] [0, 1, 2] (s1 := ⟨[(2, .pt 0 0), (3, .pt 1 0), (4, .pt 2 0), (6, .v (.int .i64 x6)), (49, .v (.bool false))], [(0, .box [.bs false 2 (List.map enc_si p1)]), (1, .box [.v (.int .i64 p2), .v (.string p3), .v (.int .i64 p4), .v (.int .i64 p5)]), (2, .box [.v (.slice none 0 0)])]⟩) (C := ((True) ∧ ((.v (.bool (decide (p2 = 1))) : AV) = (.v (.bool false) : AV))) ∧ True) (by kernel_rfl) ⟨⟨trivial, (congrArg (fun z => AV.v (.bool z)) b9)⟩, trivial⟩ trivial ?_
          refine AX.cond_false (by kernel_rfl) ?_
          refine AX.seq ?_
          refine AX.reg (its := []) [2, 3, 4, 6, 64] [0, 1, 2] (s1 := ⟨[(2, .pt 0 0), (3, .pt 1 0), (4, .pt 2 0), (6, .v (.int .i64 x6)), (64, .v (.bool (decide (p2 = 2))))], [(0, .box [.bs false 2 (List.map enc_si p1)]), (1, .box [.v (.int .i64 p2), .v (.string p3), .v (.int .i64 p4), .v (.int .i64 p5)]), (2, .box [.v (.slice none 0 0)])]⟩) (C := True) (by kernel_rfl) trivial trivial ?_
          rcases bool_cases (decide (p2 = 2)) with b16 | b16
          · replace h := cd_t b16 h
            refine AX.condT (decide (p2 = 2)) (by kernel_rfl) b16 ?_
            refine AX.seq ?_
            obtain ⟨x11, e17, h⟩ := bd_e h
            refine AX.reg (its := [.auto {}, .auto {}, .call 34 [.bs false 2 (List.map enc_si p1)] (handO (rho ([] ++ [3])) [] [] ++ []) (callEv [] [3] (.sl 0 0 x11.length) [.arr 2 (List.map enc_si x11)])]) [3, 4, 6, 7] [1, 2, 3] (s1 := ⟨[(3, .pt 1 0), (4, .pt 2 0), (6, .v (.int .i64 x6)), (7, .sl 3 0 x11.length)], [(1, .box [.v (.int .i64 p2), .v (.string p3), .v (.int .i64 p4), .v (.int .i64 p5)]), (2, .box [.v (.slice none 0 0)]), (3, .arr 2 (List.map enc_si x11))]⟩) (C := ((([.bs false 2 (List.map enc_si p1)] : List AV) = [.bs false 2 (List.map enc_si p1)]) ∧ True) ∧ True) (by kernel_rfl) ⟨⟨rfl, trivial⟩, trivial⟩ ⟨call_ok (ks := []) (ns := [3]) (bor := []) (bobjs := []) (s_impl_clone_si p1 x11 e17) (.cons (.c1 (.c0 (.same _ (by kernel_rfl) (by kernel_rfl)))) (.nil)) (by kernel_rfl) trivial, trivial⟩ ?_
            refine AX.seq ?_
            obtain ⟨g18, h⟩ := gd_e h
            refine AX.reg (its := [.auto {}, .auto {}, .auto {}, .auto {}, .auto {}, .auto {}, .auto { els := some ([enc_si ((gt x11 x6).1, p5)]) }]) [4, 7] [2, 3] (s1 := ⟨[(4, .pt 2 0), (7, .sl 3 0 x11.length)], [(2, .box [.v (.slice none 0 0)]), (3, .arr 2 ((List.map enc_si x11).set (0 + x6.toNat) (enc_si ((gt x11 x6).1, p5))))]⟩) (C := (0 ≤ x6 ∧ x6 < (x11.length : Int)) ∧ ((((List.map enc_si x11).getD (0 + x6.toNat) []).take 1 ++ [(.int .i64 p5)] ++ ((List.map enc_si x11).getD (0 + x6.toNat) []).drop 2 = enc_si ((gt x11 x6).1, p5))) ∧ True) (by kernel_rfl) ⟨g18, ⟨(congrArg (fun z : List Value => z.take 1 ++ [(.int .i64 p5)] ++ z.drop 2) (idx_arr (enc := enc_si) rfl g18)), trivial⟩⟩ trivial ?_
            refine AX.seq ?_
            obtain ⟨x12, e19, h⟩ := bd_e h
            refine AX.reg (its := [.auto {}, .call 71 [.sl 3 0 x11.length, .v (.bool true)] (handO (rho ([] ++ [4])) [] [] ++ [(3, .arr 2 (List.map enc_si (x11.set (0 + x6.toNat) ((gt x11 x6).1, p5))))]) (callEv [] [4] (.tup [.agg [.sl 0 0 x12.1.length], .v (.bool x12.2)]) [.arr 2 (List.map enc_si x12.1)])]) [4, 5] [2, 4] (s1 := ⟨[(4, .pt 2 0), (5, .v (.bool x12.2))], [(2, .box [.sl 4 0 x12.1.length]), (4, .arr 2 (List.map enc_si x12.1))]⟩) (C := ((([.sl 3 0 x11.length, .v (.bool true)] : List AV) = [.sl 3 0 x11.length, .v (.bool true)]) ∧ (AO.arr 2 ((List.map enc_si x11).set (0 + x6.toNat) (enc_si ((gt x11 x6).1, p5))) = AO.arr 2 (List.map enc_si (x11.set (0 + x6.toNat) ((gt x11 x6).1, p5)))) ∧ True) ∧ True) (by kernel_rfl) ⟨⟨rfl, arr_eq (set_can (enc := enc_si) rfl (0 + x6.toNat) ((gt x11 x6).1, p5)), trivial⟩, trivial⟩ ⟨call_ok (ks := []) (ns := [4]) (bor := [3]) (bobjs := [(3, .arr 2 (List.map enc_si (x11.set (0 + x6.toNat) ((gt x11 x6).1, p5))))]) (s_impl_enumOf (x11.set (0 + x6.toNat) ((gt x11 x6).1, p5)) true x12 e19) (.cons (.c1 (.c0 (.arr rfl rfl ((set_len ((rfl : x11.length = x11.length)) (0 + x6.toNat) ((gt x11 x6).1, p5)).trans (List.length_map ..).symm)))) (.cons (.c1 (.c0 (.same _ (by kernel_rfl) (by kernel_rfl)))) (.nil))) (by kernel_rfl) trivial, trivial⟩ ?_
            refine AX.ret ?_
            refine fin_wk (Wk.swap 0 2 (Nat.le_of_ble_eq_true (by kernel_rfl)) (Nat.le_of_ble_eq_true (by kernel_rfl)) rfl) ?_
            refine fin_wk (Wk.swap 1 4 (Nat.le_of_ble_eq_true (by kernel_rfl)) (Nat.le_of_ble_eq_true (by kernel_rfl)) rfl) ?_
            refine fin_wk (Wk.forget [4, 5] [0, 1] (s' := ⟨[(4, .pt 0 0), (5, .v (.bool x12.2))], [(0, .box [.sl 1 0 x12.1.length]), (1, .arr 2 (List.map enc_si x12.1))]⟩) (by kernel_rfl)) ?_
            have hr := Option.some.inj h
            subst hr
            exact ⟨_, Wk.refl _, .inr rfl, ⟨[1], by kernel_rfl, ⟨rfl, trivial⟩, [.agg [.sl 1 0 x12.1.length], .v (.bool x12.2)], by kernel_rfl, by kernel_rfl⟩⟩
          · replace h := cd_f b16 h
            refine AX.condF (decide (p2 = 2)) (by kernel_rfl) b16 ?_
            refine AX.skip ?_
            refine AX.seq ?_
            refine AX.reg (its := []) [4, 5] [2] (s1 := ⟨[(4, .pt 2 0), (5, .v (.bool false))], [(2, .box [.v (.slice none 0 0)])]⟩) (C := True) (by kernel_rfl) trivial trivial ?_
            refine AX.ret ?_
            refine fin_wk (Wk.matB 2 0 3 2 (cs := [.v (.slice none 0 0)]) (by kernel_rfl) (by kernel_rfl) (Nat.le_of_ble_eq_true (by kernel_rfl)) (by kernel_rfl) (by decide) rfl) ?_
            refine fin_wk (Wk.swap 0 2 (Nat.le_of_ble_eq_true (by kernel_rfl)) (Nat.le_of_ble_eq_true (by kernel_rfl)) rfl) ?_
            refine fin_wk (Wk.swap 1 3 (Nat.le_of_ble_eq_true (by kernel_rfl)) (Nat.le_of_ble_eq_true (by kernel_rfl)) rfl) ?_
            refine fin_wk (Wk.forget [4, 5] [0, 1] (s' := ⟨[(4, .pt 0 0), (5, .v (.bool false))], [(0, .box [.sl 1 0 (([] : List (ByteArray × Int)).length)]), (1, .arr 2 (List.map enc_si ([] : List (ByteArray × Int))))]⟩) (by kernel_rfl)) ?_
            have hr := Option.some.inj h
            subst hr
            exact ⟨_, Wk.refl _, .inr rfl, ⟨[1], by kernel_rfl, ⟨rfl, trivial⟩, [.agg [.sl 1 0 (([] : List (ByteArray × Int)).length)], .v (.bool false)], by kernel_rfl, by kernel_rfl⟩⟩

theorem s_impl_ApplyChanges_L1 (p2 : List (Int × ByteArray × Int × Int)) (n : Nat) (g : (List (ByteArray × Int)) × Int) (out : Unit ⊕ List (ByteArray × Int)) (h : m_impl_ApplyChanges_L1 p2 n g.1 g.2 = some out) :
    AX Try.prog 42 0 (codeAt [1, 1, 1, 0, 1, 1] (bodyOf Try.f9)) ((fun g : (List (ByteArray × Int)) × Int => (⟨[(4, .pt 0 0), (6, .pt 1 0), (24, .bs false 4 (List.map enc_isii p2)), (25, .v (.int .i64 (p2.length : Int))), (26, .v (.int .i64 g.2))], [(0, .box [.v (.slice none 0 0)]), (1, .box [.sl 2 0 g.1.length]), (2, .arr 2 (List.map enc_si g.1))]⟩ : S)) g) (fun ex s => (∃ o : Unit, out = Sum.inl o ∧ ex = .ret ∧ s = ⟨[(4, .pt 0 0), (5, .v (.bool false))], [(0, .box [.v (.slice none 0 0)])]⟩) ∨ (∃ o : List (ByteArray × Int), out = Sum.inr o ∧ ex = .exit 0 ∧ s = ⟨[(4, .pt 0 0), (6, .pt 1 0)], [(0, .box [.v (.slice none 0 0)]), (1, .box [.sl 2 0 o.length]), (2, .arr 2 (List.map enc_si o))]⟩)) := by
  refine AX.wkpost ?_
  refine AX.loop (G := Nat × ((List (ByteArray × Int)) × Int)) (fun q => (fun g : (List (ByteArray × Int)) × Int => (⟨[(4, .pt 0 0), (6, .pt 1 0), (24, .bs false 4 (List.map enc_isii p2)), (25, .v (.int .i64 (p2.length : Int))), (26, .v (.int .i64 g.2))], [(0, .box [.v (.slice none 0 0)]), (1, .box [.sl 2 0 g.1.length]), (2, .arr 2 (List.map enc_si g.1))]⟩ : S)) q.2) (fun q => m_impl_ApplyChanges_L1 p2 q.1 q.2.1 q.2.2 = some out) (fun q => q.1) (n, g) h (Wk.refl _) ?_
  clear h
  rintro ⟨fu, v5, v6⟩ h
  cases fu with
  | zero => cases h
  | succ fu =>
    rw [m_impl_ApplyChanges_L1] at h
    refine AX.seq ?_
    refine AX.reg (its := []) [4, 6, 24, 25, 26, 27] [0, 1, 2] (s1 := ⟨[(4, .pt 0 0), (6, .pt 1 0), (24, .bs false 4 (List.map enc_isii p2)), (25, .v (.int .i64 (p2.length : Int))), (26, .v (.int .i64 v6)), (27, .v (.bool (decide (v6 < (p2.length : Int)))))], [(0, .box [.v (.slice none 0 0)]), (1, .box [.sl 2 0 v5.length]), (2, .arr 2 (List.map enc_si v5))]⟩) (C := True) (by kernel_rfl) trivial trivial ?_
    refine AX.seq ?_
    rcases bool_cases (decide (v6 < (p2.length : Int))) with b5 | b5
    · replace h := cd_t b5 h
      refine AX.condT (decide (v6 < (p2.length : Int))) (by kernel_rfl) b5 ?_
      refine AX.skip ?_
      refine AX.seq ?_
      refine AX.block ?_
      refine AX.seq ?_
      obtain ⟨g6, h⟩ := gd_e h
      refine AX.reg (its := [.auto { y := some (.be 4 (enc_isii (gt p2 v6)) 0) }, .auto {}, .auto { nk := 3 }]) [4, 6, 8, 24, 25, 26] [0, 1, 2, 3] (s1 := ⟨[(4, .pt 0 0), (6, .pt 1 0), (8, .pt 3 0), (24, .bs false 4 (List.map enc_isii p2)), (25, .v (.int .i64 (p2.length : Int))), (26, .v (.int .i64 v6))], [(0, .box [.v (.slice none 0 0)]), (1, .box [.sl 2 0 v5.length]), (2, .arr 2 (List.map enc_si v5)), (3, .box [.v (.int .i64 ((gt p2 v6).1)), .v (.string ((gt p2 v6).2.1)), .v (.int .i64 ((gt p2 v6).2.2.1)), .v (.int .i64 ((gt p2 v6).2.2.2))])]⟩) (C := ((0 ≤ v6 ∧ v6 < ((List.map enc_isii p2).length : Int)) ∧ (AV.be 4 ((List.map enc_isii p2).getD v6.toNat []) 0 = AV.be 4 (enc_isii (gt p2 v6)) 0)) ∧ True) (by kernel_rfl) ⟨idx_bs enc_isii p2 v6 4 g6, trivial⟩ trivial ?_
      refine AX.seq ?_
      obtain ⟨x7, e7, h⟩ := bd_e h
      refine AX.reg (its := [.auto {}, .auto {}, .call 35 [.agg [.sl 2 0 v5.length], .agg [.v (.int .i64 ((gt p2 v6).1)), .v (.string ((gt p2 v6).2.1)), .v (.int .i64 ((gt p2 v6).2.2.1)), .v (.int .i64 ((gt p2 v6).2.2.2))]] (handO (rho ([] ++ [4])) [] [] ++ [(2, .arr 2 (List.map enc_si v5))]) (callEv [] [4] (.tup [.agg [.sl 0 0 x7.1.length], .v (.bool x7.2)]) [.arr 2 (List.map enc_si x7.1)]), .auto {}, .auto {}, .auto {}, .auto { nk := 5 }]) [4, 6, 9, 10, 24, 25, 26] [0, 1, 2, 4, 5] (s1 := ⟨[(4, .pt 0 0), (6, .pt 1 0), (9, .pt 5 0), (10, .v (.bool x7.2)), (24, .bs false 4 (List.map enc_isii p2)), (25, .v (.int .i64 (p2.length : Int))), (26, .v (.int .i64 v6))], [(0, .box [.v (.slice none 0 0)]), (1, .box [.sl 2 0 v5.length]), (2, .arr 2 (List.map enc_si v5)), (4, .arr 2 (List.map enc_si x7.1)), (5, .box [.sl 4 0 x7.1.length])]⟩) (C := ((([.agg [.sl 2 0 v5.length], .agg [.v (.int .i64 ((gt p2 v6).1)), .v (.string ((gt p2 v6).2.1)), .v (.int .i64 ((gt p2 v6).2.2.1)), .v (.int .i64 ((gt p2 v6).2.2.2))]] : List AV) = [.agg [.sl 2 0 v5.length], .agg [.v (.int .i64 ((gt p2 v6).1)), .v (.string ((gt p2 v6).2.1)), .v (.int .i64 ((gt p2 v6).2.2.1)), .v (.int .i64 ((gt p2 v6).2.2.2))]]) ∧ (AO.arr 2 (List.map enc_si v5) = AO.arr 2 (List.map enc_si v5)) ∧ True) ∧ True) (by kernel_rfl) ⟨⟨rfl, rfl, trivial⟩, trivial⟩ ⟨call_ok (ks := []) (ns := [4]) (bor := [2]) (bobjs := [(2, .arr 2 (List.map enc_si v5))]) (s_impl_Enum_apply v5 ((gt p2 v6).1) ((gt p2 v6).2.1) ((gt p2 v6).2.2.1) ((gt p2 v6).2.2.2) x7 e7) (.cons (.c1 (.agg (.cons (.arr rfl rfl ((rfl).trans (List.length_map ..).symm)) (.nil)))) (.cons (.c1 (.agg (.cons (.same _ (by kernel_rfl) (by kernel_rfl)) (.cons (.same _ (by kernel_rfl) (by kernel_rfl)) (.cons (.same _ (by kernel_rfl) (by kernel_rfl)) (.cons (.same _ (by kernel_rfl) (by kernel_rfl)) (.nil))))))) (.nil))) (by kernel_rfl) trivial, trivial⟩ ?_
      refine AX.seq ?_
      refine AX.seq ?_
      refine AX.reg (its := []) [4, 6, 9, 24, 25, 26, 37] [0, 1, 2, 4, 5] (s1 := ⟨[(4, .pt 0 0), (6, .pt 1 0), (9, .pt 5 0), (24, .bs false 4 (List.map enc_isii p2)), (25, .v (.int .i64 (p2.length : Int))), (26, .v (.int .i64 v6)), (37, .v (.bool (!x7.2)))], [(0, .box [.v (.slice none 0 0)]), (1, .box [.sl 2 0 v5.length]), (2, .arr 2 (List.map enc_si v5)), (4, .arr 2 (List.map enc_si x7.1)), (5, .box [.sl 4 0 x7.1.length])]⟩) (C := True) (by kernel_rfl) trivial trivial ?_
      rcases bool_cases ((!x7.2)) with b8 | b8
      · replace h := cd_t b8 h
        refine AX.condT ((!x7.2)) (by kernel_rfl) b8 ?_
        refine AX.seq ?_
        refine AX.reg (its := []) [4, 5] [0] (s1 := ⟨[(4, .pt 0 0), (5, .v (.bool false))], [(0, .box [.v (.slice none 0 0)])]⟩) (C := True) (by kernel_rfl) trivial trivial ?_
        refine AX.ret ?_
        refine fin_wk (Wk.forget [4, 5] [0] (s' := ⟨[(4, .pt 0 0), (5, .v (.bool false))], [(0, .box [.v (.slice none 0 0)])]⟩) (by kernel_rfl)) ?_
        have hr := Option.some.inj h
        subst hr
        exact ⟨_, Wk.refl _, .inl ⟨(), rfl, rfl, rfl⟩⟩
      · replace h := cd_f b8 h
        refine AX.condF ((!x7.2)) (by kernel_rfl) b8 ?_
        refine AX.skip ?_
        refine AX.reg (its := []) [4, 6, 24, 25, 26] [0, 1, 4] (s1 := ⟨[(4, .pt 0 0), (6, .pt 1 0), (24, .bs false 4 (List.map enc_isii p2)), (25, .v (.int .i64 (p2.length : Int))), (26, .v (.int .i64 v6))], [(0, .box [.v (.slice none 0 0)]), (1, .box [.sl 4 0 x7.1.length]), (4, .arr 2 (List.map enc_si x7.1))]⟩) (C := True) (by kernel_rfl) trivial trivial ?_
        refine AX.reg (its := [.auto { raw := true }]) [4, 6, 24, 25, 26] [0, 1, 4] (s1 := ⟨[(4, .pt 0 0), (6, .pt 1 0), (24, .bs false 4 (List.map enc_isii p2)), (25, .v (.int .i64 (p2.length : Int))), (26, .v (.int .i64 (IntKind.wrap .i64 (v6 + 1))))], [(0, .box [.v (.slice none 0 0)]), (1, .box [.sl 4 0 x7.1.length]), (4, .arr 2 (List.map enc_si x7.1))]⟩) (C := True) (by kernel_rfl) trivial trivial ?_
        refine ⟨(fu, (x7.1, IntKind.wrap .i64 (v6 + 1))), h, Nat.lt_succ_self _, ?_⟩
        refine Wk.trans (Wk.swap 2 4 (Nat.le_of_ble_eq_true (by kernel_rfl)) (Nat.le_of_ble_eq_true (by kernel_rfl)) rfl) ?_
        refine Wk.trans (Wk.forget [4, 6, 24, 25, 26] [0, 1, 2] (s' := ⟨[(4, .pt 0 0), (6, .pt 1 0), (24, .bs false 4 (List.map enc_isii p2)), (25, .v (.int .i64 (p2.length : Int))), (26, .v (.int .i64 (IntKind.wrap .i64 (v6 + 1))))], [(0, .box [.v (.slice none 0 0)]), (1, .box [.sl 2 0 x7.1.length]), (2, .arr 2 (List.map enc_si x7.1))]⟩) (by kernel_rfl)) ?_
        exact Wk.refl _
    · replace h := cd_f b5 h
      refine AX.condF (decide (v6 < (p2.length : Int))) (by kernel_rfl) b5 ?_
      refine AX.exit ?_
      refine fin_wk (Wk.forget [4, 6] [0, 1, 2] (s' := ⟨[(4, .pt 0 0), (6, .pt 1 0)], [(0, .box [.v (.slice none 0 0)]), (1, .box [.sl 2 0 v5.length]), (2, .arr 2 (List.map enc_si v5))]⟩) (by kernel_rfl)) ?_
      have hr := Option.some.inj h
      subst hr
      exact ⟨_, Wk.refl _, .inr ⟨v5, rfl, rfl, rfl⟩⟩

theorem s_impl_ApplyChanges (p1 : List (ByteArray × Int)) (p2 : List (Int × ByteArray × Int × Int)) (r : (List (ByteArray × Int)) × Bool) (h : m_impl_ApplyChanges p1 p2 = some r) :
    Eng.Spec Try.prog 9 [.agg [.bs false 2 (List.map enc_si p1)], .bs false 4 (List.map enc_isii p2)] [] (.tup [.agg [.sl 0 0 r.1.length], .v (.bool r.2)]) [.arr 2 (List.map enc_si r.1)] := by
  unfold m_impl_ApplyChanges at h
  refine Eng.Spec.body Try.func9 (by kernel_rfl) rfl (by kernel_rfl) ?_
  refine AX.wkpost ?_
  refine AX.seq ?_
  refine AX.reg (its := [.auto { nk := 0 }, .auto { nk := 1 }]) [1, 2, 4] [0, 1] (s1 := ⟨[(1, .bs false 4 (List.map enc_isii p2)), (2, .pt 0 0), (4, .pt 1 0)], [(0, .box [.bs false 2 (List.map enc_si p1)]), (1, .box [.v (.slice none 0 0)])]⟩) (C := True) (by kernel_rfl) trivial trivial ?_
  refine AX.seq ?_
  refine AX.seq ?_
  obtain ⟨x3, e1, h⟩ := bd_e h
  rcases bool_cases ((!x3)) with b2 | b2
  · replace h := cd_t b2 h
    refine AX.reg (its := [.auto {}, .call 13 [.agg [.bs false 2 (List.map enc_si p1)]] (handO (rho ([] ++ [])) [] [] ++ []) (callEv [] [] (.v (.bool x3)) []), .auto { y := some (.v (.bool true)) }]) [1, 2, 4, 18] [0, 1] (s1 := ⟨[(1, .bs false 4 (List.map enc_isii p2)), (2, .pt 0 0), (4, .pt 1 0), (18, .v (.bool true))], [(0, .box [.bs false 2 (List.map enc_si p1)]), (1, .box [.v (.slice none 0 0)])]⟩) (C := ((([.agg [.bs false 2 (List.map enc_si p1)]] : List AV) = [.agg [.bs false 2 (List.map enc_si p1)]]) ∧ True) ∧ ((True) ∧ ((.v (.bool (!x3)) : AV) = (.v (.bool true) : AV))) ∧ True) (by kernel_rfl) ⟨⟨rfl, trivial⟩, ⟨⟨trivial, (congrArg (fun z => AV.v (.bool z)) b2)⟩, trivial⟩⟩ ⟨call_ok (ks := []) (ns := []) (bor := []) (bobjs := []) (s_impl_ValidEnum p1 x3 e1) (.cons (.c1 (.agg (.cons (.same _ (by kernel_rfl) (by kernel_rfl)) (.nil)))) (.nil)) (by kernel_rfl) trivial, trivial⟩ ?_
    refine AX.cond_true (by kernel_rfl) ?_
    refine AX.seq ?_
    refine AX.reg (its := []) [4, 5] [1] (s1 := ⟨[(4, .pt 1 0), (5, .v (.bool false))], [(1, .box [.v (.slice none 0 0)])]⟩) (C := True) (by kernel_rfl) trivial trivial ?_
    refine AX.ret ?_
    refine fin_wk (Wk.matB 1 0 2 2 (cs := [.v (.slice none 0 0)]) (by kernel_rfl) (by kernel_rfl) (Nat.le_of_ble_eq_true (by kernel_rfl)) (by kernel_rfl) (by decide) rfl) ?_
    refine fin_wk (Wk.swap 0 1 (Nat.le_of_ble_eq_true (by kernel_rfl)) (Nat.le_of_ble_eq_true (by kernel_rfl)) rfl) ?_
    refine fin_wk (Wk.swap 1 2 (Nat.le_of_ble_eq_true (by kernel_rfl)) (Nat.le_of_ble_eq_true (by kernel_rfl)) rfl) ?_
    refine fin_wk (Wk.forget [4, 5] [0, 1] (s' := ⟨[(4, .pt 0 0), (5, .v (.bool false))], [(0, .box [.sl 1 0 (([] : List (ByteArray × Int)).length)]), (1, .arr 2 (List.map enc_si ([] : List (ByteArray × Int))))]⟩) (by kernel_rfl)) ?_
    have hr := Option.some.inj h
    subst hr
    exact ⟨_, Wk.refl _, .inr rfl, ⟨[1], by kernel_rfl, ⟨rfl, trivial⟩, [.agg [.sl 1 0 (([] : List (ByteArray × Int)).length)], .v (.bool false)], by kernel_rfl, by kernel_rfl⟩⟩
  · replace h := cd_f b2 h
    refine AX.reg (its := [.auto {}, .call 13 [.agg [.bs false 2 (List.map enc_si p1)]] (handO (rho ([] ++ [])) [] [] ++ []) (callEv [] [] (.v (.bool x3)) []), .auto { y := some (.v (.bool false)) }, .auto {}, .auto {}, .auto { y := some (.v (.int .i64 (p2.length : Int))) }]) [1, 2, 4, 18] [0, 1] (s1 := ⟨[(1, .bs false 4 (List.map enc_isii p2)), (2, .pt 0 0), (4, .pt 1 0), (18, .v (.bool (decide (30 < (p2.length : Int)))))], [(0, .box [.bs false 2 (List.map enc_si p1)]), (1, .box [.v (.slice none 0 0)])]⟩) (C := ((([.agg [.bs false 2 (List.map enc_si p1)]] : List AV) = [.agg [.bs false 2 (List.map enc_si p1)]]) ∧ True) ∧ ((True) ∧ ((.v (.bool (!x3)) : AV) = (.v (.bool false) : AV))) ∧ (True ∧ (AV.v (.int .i64 ((List.map enc_isii p2).length : Int)) = AV.v (.int .i64 (p2.length : Int)))) ∧ True) (by kernel_rfl) ⟨⟨rfl, trivial⟩, ⟨⟨trivial, (congrArg (fun z => AV.v (.bool z)) b2)⟩, ⟨⟨trivial, len_map enc_isii p2⟩, trivial⟩⟩⟩ ⟨call_ok (ks := []) (ns := []) (bor := []) (bobjs := []) (s_impl_ValidEnum p1 x3 e1) (.cons (.c1 (.agg (.cons (.same _ (by kernel_rfl) (by kernel_rfl)) (.nil)))) (.nil)) (by kernel_rfl) trivial, trivial⟩ ?_
    rcases bool_cases (decide (30 < (p2.length : Int))) with b3 | b3
    · replace h := cd_t b3 h
      refine AX.condT (decide (30 < (p2.length : Int))) (by kernel_rfl) b3 ?_
      refine AX.seq ?_
      refine AX.reg (its := []) [4, 5] [1] (s1 := ⟨[(4, .pt 1 0), (5, .v (.bool false))], [(1, .box [.v (.slice none 0 0)])]⟩) (C := True) (by kernel_rfl) trivial trivial ?_
      refine AX.ret ?_
      refine fin_wk (Wk.matB 1 0 2 2 (cs := [.v (.slice none 0 0)]) (by kernel_rfl) (by kernel_rfl) (Nat.le_of_ble_eq_true (by kernel_rfl)) (by kernel_rfl) (by decide) rfl) ?_
      refine fin_wk (Wk.swap 0 1 (Nat.le_of_ble_eq_true (by kernel_rfl)) (Nat.le_of_ble_eq_true (by kernel_rfl)) rfl) ?_
      refine fin_wk (Wk.swap 1 2 (Nat.le_of_ble_eq_true (by kernel_rfl)) (Nat.le_of_ble_eq_true (by kernel_rfl)) rfl) ?_
      refine fin_wk (Wk.forget [4, 5] [0, 1] (s' := ⟨[(4, .pt 0 0), (5, .v (.bool false))], [(0, .box [.sl 1 0 (([] : List (ByteArray × Int)).length)]), (1, .arr 2 (List.map enc_si ([] : List (ByteArray × Int))))]⟩) (by kernel_rfl)) ?_
      have hr := Option.some.inj h
      subst hr
      exact ⟨_, Wk.refl _, .inr rfl, ⟨[1], by kernel_rfl, ⟨rfl, trivial⟩, [.agg [.sl 1 0 (([] : List (ByteArray × Int)).length)], .v (.bool false)], by kernel_rfl, by kernel_rfl⟩⟩
    · replace h := cd_f b3 h
      refine AX.condF (decide (30 < (p2.length : Int))) (by kernel_rfl) b3 ?_
      refine AX.skip ?_
      refine AX.seq ?_
      obtain ⟨x4, e4, h⟩ := bd_e h
      refine AX.reg (its := [.auto {}, .auto {}, .call 34 [.bs false 2 (List.map enc_si p1)] (handO (rho ([] ++ [2])) [] [] ++ []) (callEv [] [2] (.sl 0 0 x4.length) [.arr 2 (List.map enc_si x4)]), .auto {}, .auto { nk := 3 }]) [1, 4, 6] [1, 2, 3] (s1 := ⟨[(1, .bs false 4 (List.map enc_isii p2)), (4, .pt 1 0), (6, .pt 3 0)], [(1, .box [.v (.slice none 0 0)]), (2, .arr 2 (List.map enc_si x4)), (3, .box [.sl 2 0 x4.length])]⟩) (C := ((([.bs false 2 (List.map enc_si p1)] : List AV) = [.bs false 2 (List.map enc_si p1)]) ∧ True) ∧ True) (by kernel_rfl) ⟨⟨rfl, trivial⟩, trivial⟩ ⟨call_ok (ks := []) (ns := [2]) (bor := []) (bobjs := []) (s_impl_clone_si p1 x4 e4) (.cons (.c1 (.c0 (.same _ (by kernel_rfl) (by kernel_rfl)))) (.nil)) (by kernel_rfl) trivial, trivial⟩ ?_
      refine AX.seq ?_
      refine AX.seq ?_
      refine AX.reg (its := [.auto {}, .auto { y := some (.v (.int .i64 (p2.length : Int))) }]) [4, 6, 24, 25, 26] [1, 2, 3] (s1 := ⟨[(4, .pt 1 0), (6, .pt 3 0), (24, .bs false 4 (List.map enc_isii p2)), (25, .v (.int .i64 (p2.length : Int))), (26, .v (.int .i64 0))], [(1, .box [.v (.slice none 0 0)]), (2, .arr 2 (List.map enc_si x4)), (3, .box [.sl 2 0 x4.length])]⟩) (C := (True ∧ (AV.v (.int .i64 ((List.map enc_isii p2).length : Int)) = AV.v (.int .i64 (p2.length : Int)))) ∧ True) (by kernel_rfl) ⟨⟨trivial, len_map enc_isii p2⟩, trivial⟩ trivial ?_
      refine AX.block ?_
      obtain ⟨x8, e9, h⟩ := bd_e h
      refine AX.wk (Wk.swap 0 1 (Nat.le_of_ble_eq_true (by kernel_rfl)) (Nat.le_of_ble_eq_true (by kernel_rfl)) rfl) ?_
      refine AX.wk (Wk.swap 1 3 (Nat.le_of_ble_eq_true (by kernel_rfl)) (Nat.le_of_ble_eq_true (by kernel_rfl)) rfl) ?_
      refine AX.wk (Wk.forget [4, 6, 24, 25, 26] [0, 1, 2] (s' := ⟨[(4, .pt 0 0), (6, .pt 1 0), (24, .bs false 4 (List.map enc_isii p2)), (25, .v (.int .i64 (p2.length : Int))), (26, .v (.int .i64 0))], [(0, .box [.v (.slice none 0 0)]), (1, .box [.sl 2 0 x4.length]), (2, .arr 2 (List.map enc_si x4))]⟩) (by kernel_rfl)) ?_
      refine AX.mono (s_impl_ApplyChanges_L1 p2 FU (x4, 0) x8 e9) ?_
      rintro _ _ (⟨x9, rfl, rfl, rfl⟩ | ⟨x10, rfl, rfl, rfl⟩)
      · replace h := sm_l h
        refine fin_wk (Wk.matB 0 0 1 2 (cs := [.v (.slice none 0 0)]) (by kernel_rfl) (by kernel_rfl) (Nat.le_of_ble_eq_true (by kernel_rfl)) (by kernel_rfl) (by decide) rfl) ?_
        refine fin_wk (Wk.forget [4, 5] [0, 1] (s' := ⟨[(4, .pt 0 0), (5, .v (.bool false))], [(0, .box [.sl 1 0 (([] : List (ByteArray × Int)).length)]), (1, .arr 2 (List.map enc_si ([] : List (ByteArray × Int))))]⟩) (by kernel_rfl)) ?_
        have hr := Option.some.inj h
        subst hr
        exact ⟨_, Wk.refl _, .inr rfl, ⟨[1], by kernel_rfl, ⟨rfl, trivial⟩, [.agg [.sl 1 0 (([] : List (ByteArray × Int)).length)], .v (.bool false)], by kernel_rfl, by kernel_rfl⟩⟩
      · replace h := sm_r h
        refine AX.seq ?_
        refine AX.reg (its := []) [4, 5] [0, 2] (s1 := ⟨[(4, .pt 0 0), (5, .v (.bool true))], [(0, .box [.sl 2 0 x10.length]), (2, .arr 2 (List.map enc_si x10))]⟩) (C := True) (by kernel_rfl) trivial trivial ?_
        refine AX.ret ?_
        refine fin_wk (Wk.swap 1 2 (Nat.le_of_ble_eq_true (by kernel_rfl)) (Nat.le_of_ble_eq_true (by kernel_rfl)) rfl) ?_
        refine fin_wk (Wk.forget [4, 5] [0, 1] (s' := ⟨[(4, .pt 0 0), (5, .v (.bool true))], [(0, .box [.sl 1 0 x10.length]), (1, .arr 2 (List.map enc_si x10))]⟩) (by kernel_rfl)) ?_
        have hr := Option.some.inj h
        subst hr
        exact ⟨_, Wk.refl _, .inr rfl, ⟨[1], by kernel_rfl, ⟨rfl, trivial⟩, [.agg [.sl 1 0 x10.length], .v (.bool true)], by kernel_rfl, by kernel_rfl⟩⟩

theorem s_laws_eqDef (p1 : ByteArray) (p2 : Int) (p3 : ByteArray) (p4 : Int) (r : Bool) (h : m_laws_eqDef p1 p2 p3 p4 = some r) :
    Eng.Spec Try.prog 81 [.agg [.v (.string p1), .v (.int .i64 p2)], .agg [.v (.string p3), .v (.int .i64 p4)]] [] (.v (.bool r)) [] := by
  unfold m_laws_eqDef at h
  refine Eng.Spec.body Try.func81 (by kernel_rfl) rfl (by kernel_rfl) ?_
  refine AX.wkpost ?_
  refine AX.seq ?_
  refine AX.reg (its := [.auto { nk := 0 }, .auto { nk := 1 }]) [2, 3] [0, 1] (s1 := ⟨[(2, .pt 0 0), (3, .pt 1 0)], [(0, .box [.v (.string p1), .v (.int .i64 p2)]), (1, .box [.v (.string p3), .v (.int .i64 p4)])]⟩) (C := True) (by kernel_rfl) trivial trivial ?_
  refine AX.seq ?_
  refine AX.seq ?_
  refine AX.reg (its := []) [2, 3, 9] [0, 1] (s1 := ⟨[(2, .pt 0 0), (3, .pt 1 0), (9, .v (.bool (!decide (p1 = p3))))], [(0, .box [.v (.string p1), .v (.int .i64 p2)]), (1, .box [.v (.string p3), .v (.int .i64 p4)])]⟩) (C := True) (by kernel_rfl) trivial trivial ?_
  rcases bool_cases ((!decide (p1 = p3))) with b1 | b1
  · replace h := cd_t b1 h
    refine AX.condT ((!decide (p1 = p3))) (by kernel_rfl) b1 ?_
    refine AX.seq ?_
    refine AX.reg (its := []) [4] [] (s1 := ⟨[(4, .v (.bool false))], []⟩) (C := True) (by kernel_rfl) trivial trivial ?_
    refine AX.ret ?_
    refine fin_wk (Wk.forget [4] [] (s' := ⟨[(4, .v (.bool false))], []⟩) (by kernel_rfl)) ?_
    have hr := Option.some.inj h
    subst hr
    exact ⟨_, Wk.refl _, .inr rfl, ⟨[], by kernel_rfl, trivial, [.v (.bool false)], by kernel_rfl, by kernel_rfl⟩⟩
  · replace h := cd_f b1 h
    refine AX.condF ((!decide (p1 = p3))) (by kernel_rfl) b1 ?_
    refine AX.skip ?_
    refine AX.seq ?_
    refine AX.seq ?_
    refine AX.reg (its := []) [14] [] (s1 := ⟨[(14, .v (.bool (!decide (p2 = p4))))], []⟩) (C := True) (by kernel_rfl) trivial trivial ?_
    rcases bool_cases ((!decide (p2 = p4))) with b2 | b2
    · replace h := cd_t b2 h
      refine AX.condT ((!decide (p2 = p4))) (by kernel_rfl) b2 ?_
      refine AX.seq ?_
      refine AX.reg (its := []) [4] [] (s1 := ⟨[(4, .v (.bool false))], []⟩) (C := True) (by kernel_rfl) trivial trivial ?_
      refine AX.ret ?_
      refine fin_wk (Wk.forget [4] [] (s' := ⟨[(4, .v (.bool false))], []⟩) (by kernel_rfl)) ?_
      have hr := Option.some.inj h
      subst hr
      exact ⟨_, Wk.refl _, .inr rfl, ⟨[], by kernel_rfl, trivial, [.v (.bool false)], by kernel_rfl, by kernel_rfl⟩⟩
    · replace h := cd_f b2 h
      refine AX.condF ((!decide (p2 = p4))) (by kernel_rfl) b2 ?_
      refine AX.skip ?_
      refine AX.seq ?_
      refine AX.reg (its := []) [4] [] (s1 := ⟨[(4, .v (.bool true))], []⟩) (C := True) (by kernel_rfl) trivial trivial ?_
      refine AX.ret ?_
      refine fin_wk (Wk.forget [4] [] (s' := ⟨[(4, .v (.bool true))], []⟩) (by kernel_rfl)) ?_
      have hr := Option.some.inj h
      subst hr
      exact ⟨_, Wk.refl _, .inr rfl, ⟨[], by kernel_rfl, trivial, [.v (.bool true)], by kernel_rfl, by kernel_rfl⟩⟩

theorem s_laws_eqDefS_L1 (p1 : List (ByteArray × Int)) (p2 : List (ByteArray × Int)) (n : Nat) (g : Int) (out : Unit ⊕ Unit) (h : m_laws_eqDefS_L1 p1 p2 n g = some out) :
    AX Try.prog 27 0 (codeAt [1, 1, 0, 1, 1] (bodyOf Try.f48)) ((fun g : Int => (⟨[(0, .bs false 2 (List.map enc_si p1)), (1, .bs false 2 (List.map enc_si p2)), (5, .v (.int .i64 g))], []⟩ : S)) g) (fun ex s => (∃ o : Unit, out = Sum.inl o ∧ ex = .ret ∧ s = ⟨[(4, .v (.bool false))], []⟩) ∨ (∃ o : Unit, out = Sum.inr o ∧ ex = .exit 0 ∧ s = ⟨[], []⟩)) := by
  refine AX.wkpost ?_
  refine AX.loop (G := Nat × (Int)) (fun q => (fun g : Int => (⟨[(0, .bs false 2 (List.map enc_si p1)), (1, .bs false 2 (List.map enc_si p2)), (5, .v (.int .i64 g))], []⟩ : S)) q.2) (fun q => m_laws_eqDefS_L1 p1 p2 q.1 q.2 = some out) (fun q => q.1) (n, g) h (Wk.refl _) ?_
  clear h
  rintro ⟨fu, v3⟩ h
  cases fu with
  | zero => cases h
  | succ fu =>
    rw [m_laws_eqDefS_L1] at h
    refine AX.seq ?_
    refine AX.seq ?_
    refine AX.reg (its := [.auto {}, .auto {}, .auto { y := some (.v (.int .i64 (p1.length : Int))) }]) [0, 1, 5, 14] [] (s1 := ⟨[(0, .bs false 2 (List.map enc_si p1)), (1, .bs false 2 (List.map enc_si p2)), (5, .v (.int .i64 v3)), (14, .v (.bool (decide (v3 < (p1.length : Int)))))], []⟩) (C := (True ∧ (AV.v (.int .i64 ((List.map enc_si p1).length : Int)) = AV.v (.int .i64 (p1.length : Int)))) ∧ True) (by kernel_rfl) ⟨⟨trivial, len_map enc_si p1⟩, trivial⟩ trivial ?_
    rcases bool_cases (decide (v3 < (p1.length : Int))) with b2 | b2
    · replace h := cd_t b2 h
      refine AX.condT (decide (v3 < (p1.length : Int))) (by kernel_rfl) b2 ?_
      refine AX.skip ?_
      refine AX.seq ?_
      refine AX.block ?_
      refine AX.seq ?_
      obtain ⟨g3, h⟩ := gd_e h
      obtain ⟨g4, h⟩ := gd_e h
      obtain ⟨x4, e5, h⟩ := bd_e h
      refine AX.drw mixed (its := [.auto {}, .auto {}, .auto { y := some (.be 2 (enc_si (gt p1 v3)) 0) }, .auto {}, .auto {}, .auto {}, .auto { y := some (.be 2 (enc_si (gt p2 v3)) 0) }, .auto {}, .call 81 [.agg [.v (.string ((gt p1 v3).1)), .v (.int .i64 ((gt p1 v3).2))], .agg [.v (.string ((gt p2 v3).1)), .v (.int .i64 ((gt p2 v3).2))]] (handO (rho ([] ++ [])) [] [] ++ []) (callEv [] [] (.v (.bool x4)) [])]) [0, 1, 5, 26] [] (s1 := ⟨[(0, .bs false 2 (List.map enc_si p1)), (1, .bs false 2 (List.map enc_si p2)), (5, .v (.int .i64 v3)), (26, .v (.bool (!x4)))], []⟩) (C := ((0 ≤ v3 ∧ v3 < ((List.map enc_si p1).length : Int)) ∧ (AV.be 2 ((List.map enc_si p1).getD v3.toNat []) 0 = AV.be 2 (enc_si (gt p1 v3)) 0)) ∧ ((0 ≤ v3 ∧ v3 < ((List.map enc_si p2).length : Int)) ∧ (AV.be 2 ((List.map enc_si p2).getD v3.toNat []) 0 = AV.be 2 (enc_si (gt p2 v3)) 0)) ∧ ((([.agg [.v (.string ((gt p1 v3).1)), .v (.int .i64 ((gt p1 v3).2))], .agg [.v (.string ((gt p2 v3).1)), .v (.int .i64 ((gt p2 v3).2))]] : List AV) = [.agg [.v (.string ((gt p1 v3).1)), .v (.int .i64 ((gt p1 v3).2))], .agg [.v (.string ((gt p2 v3).1)), .v (.int .i64 ((gt p2 v3).2))]]) ∧ True) ∧ True) (by kernel_rfl) ⟨idx_bs enc_si p1 v3 2 g3, ⟨idx_bs enc_si p2 v3 2 g4, ⟨⟨rfl, trivial⟩, trivial⟩⟩⟩ ⟨call_ok (ks := []) (ns := []) (bor := []) (bobjs := []) (s_laws_eqDef ((gt p1 v3).1) ((gt p1 v3).2) ((gt p2 v3).1) ((gt p2 v3).2) x4 e5) (.cons (.c1 (.agg (.cons (.same _ (by kernel_rfl) (by kernel_rfl)) (.cons (.same _ (by kernel_rfl) (by kernel_rfl)) (.nil))))) (.cons (.c1 (.agg (.cons (.same _ (by kernel_rfl) (by kernel_rfl)) (.cons (.same _ (by kernel_rfl) (by kernel_rfl)) (.nil))))) (.nil))) (by kernel_rfl) trivial, trivial⟩ ?_
      rcases bool_cases ((!x4)) with b6 | b6
      · replace h := cd_t b6 h
        refine AX.condT ((!x4)) (by kernel_rfl) b6 ?_
        refine AX.seq ?_
        refine AX.reg (its := []) [4] [] (s1 := ⟨[(4, .v (.bool false))], []⟩) (C := True) (by kernel_rfl) trivial trivial ?_
        refine AX.ret ?_
        refine fin_wk (Wk.forget [4] [] (s' := ⟨[(4, .v (.bool false))], []⟩) (by kernel_rfl)) ?_
        have hr := Option.some.inj h
        subst hr
        exact ⟨_, Wk.refl _, .inl ⟨(), rfl, rfl, rfl⟩⟩
      · replace h := cd_f b6 h
        refine AX.condF ((!x4)) (by kernel_rfl) b6 ?_
        refine AX.skip ?_
        refine AX.reg (its := [.auto {}, .auto { raw := true }]) [0, 1, 5] [] (s1 := ⟨[(0, .bs false 2 (List.map enc_si p1)), (1, .bs false 2 (List.map enc_si p2)), (5, .v (.int .i64 (IntKind.wrap .i64 (v3 + 1))))], []⟩) (C := True) (by kernel_rfl) trivial trivial ?_
        refine ⟨(fu, IntKind.wrap .i64 (v3 + 1)), h, Nat.lt_succ_self _, ?_⟩
        refine Wk.trans (Wk.forget [0, 1, 5] [] (s' := ⟨[(0, .bs false 2 (List.map enc_si p1)), (1, .bs false 2 (List.map enc_si p2)), (5, .v (.int .i64 (IntKind.wrap .i64 (v3 + 1))))], []⟩) (by kernel_rfl)) ?_
        exact Wk.refl _
    · replace h := cd_f b2 h
      refine AX.condF (decide (v3 < (p1.length : Int))) (by kernel_rfl) b2 ?_
      refine AX.exit ?_
      refine fin_wk (Wk.forget [] [] (s' := ⟨[], []⟩) (by kernel_rfl)) ?_
      have hr := Option.some.inj h
      subst hr
      exact ⟨_, Wk.refl _, .inr ⟨(), rfl, rfl, rfl⟩⟩

theorem s_laws_eqDefS (p1 : List (ByteArray × Int)) (p2 : List (ByteArray × Int)) (r : Bool) (h : m_laws_eqDefS p1 p2 = some r) :
    Eng.Spec Try.prog 48 [.bs false 2 (List.map enc_si p1), .bs false 2 (List.map enc_si p2)] [] (.v (.bool r)) [] := by
  unfold m_laws_eqDefS at h
  refine Eng.Spec.body Try.func48 (by kernel_rfl) rfl (by kernel_rfl) ?_
  refine AX.wkpost ?_
  refine AX.seq ?_
  refine AX.reg (its := []) [0, 1] [] (s1 := ⟨[(0, .bs false 2 (List.map enc_si p1)), (1, .bs false 2 (List.map enc_si p2))], []⟩) (C := True) (by kernel_rfl) trivial trivial ?_
  refine AX.seq ?_
  refine AX.seq ?_
  refine AX.reg (its := [.auto {}, .auto { y := some (.v (.int .i64 (p1.length : Int))) }, .auto {}, .auto { y := some (.v (.int .i64 (p2.length : Int))) }]) [0, 1, 10] [] (s1 := ⟨[(0, .bs false 2 (List.map enc_si p1)), (1, .bs false 2 (List.map enc_si p2)), (10, .v (.bool (!decide ((p1.length : Int) = (p2.length : Int)))))], []⟩) (C := (True ∧ (AV.v (.int .i64 ((List.map enc_si p1).length : Int)) = AV.v (.int .i64 (p1.length : Int)))) ∧ (True ∧ (AV.v (.int .i64 ((List.map enc_si p2).length : Int)) = AV.v (.int .i64 (p2.length : Int)))) ∧ True) (by kernel_rfl) ⟨⟨trivial, len_map enc_si p1⟩, ⟨⟨trivial, len_map enc_si p2⟩, trivial⟩⟩ trivial ?_
  rcases bool_cases ((!decide ((p1.length : Int) = (p2.length : Int)))) with b1 | b1
  · replace h := cd_t b1 h
    refine AX.condT ((!decide ((p1.length : Int) = (p2.length : Int)))) (by kernel_rfl) b1 ?_
    refine AX.seq ?_
    refine AX.reg (its := []) [4] [] (s1 := ⟨[(4, .v (.bool false))], []⟩) (C := True) (by kernel_rfl) trivial trivial ?_
    refine AX.ret ?_
    refine fin_wk (Wk.forget [4] [] (s' := ⟨[(4, .v (.bool false))], []⟩) (by kernel_rfl)) ?_
    have hr := Option.some.inj h
    subst hr
    exact ⟨_, Wk.refl _, .inr rfl, ⟨[], by kernel_rfl, trivial, [.v (.bool false)], by kernel_rfl, by kernel_rfl⟩⟩
  · replace h := cd_f b1 h
    refine AX.condF ((!decide ((p1.length : Int) = (p2.length : Int)))) (by kernel_rfl) b1 ?_
    refine AX.skip ?_
    refine AX.seq ?_
    refine AX.seq ?_
    refine AX.reg (its := []) [0, 1, 5] [] (s1 := ⟨[(0, .bs false 2 (List.map enc_si p1)), (1, .bs false 2 (List.map enc_si p2)), (5, .v (.int .i64 0))], []⟩) (C := True) (by kernel_rfl) trivial trivial ?_
    refine AX.block ?_
    obtain ⟨x5, e7, h⟩ := bd_e h
    refine AX.wk (Wk.forget [0, 1, 5] [] (s' := ⟨[(0, .bs false 2 (List.map enc_si p1)), (1, .bs false 2 (List.map enc_si p2)), (5, .v (.int .i64 0))], []⟩) (by kernel_rfl)) ?_
    refine AX.mono (s_laws_eqDefS_L1 p1 p2 FU 0 x5 e7) ?_
    rintro _ _ (⟨x6, rfl, rfl, rfl⟩ | ⟨x7, rfl, rfl, rfl⟩)
    · replace h := sm_l h
      refine fin_wk (Wk.forget [4] [] (s' := ⟨[(4, .v (.bool false))], []⟩) (by kernel_rfl)) ?_
      have hr := Option.some.inj h
      subst hr
      exact ⟨_, Wk.refl _, .inr rfl, ⟨[], by kernel_rfl, trivial, [.v (.bool false)], by kernel_rfl, by kernel_rfl⟩⟩
    · replace h := sm_r h
      refine AX.seq ?_
      refine AX.reg (its := []) [4] [] (s1 := ⟨[(4, .v (.bool true))], []⟩) (C := True) (by kernel_rfl) trivial trivial ?_
      refine AX.ret ?_
      refine fin_wk (Wk.forget [4] [] (s' := ⟨[(4, .v (.bool true))], []⟩) (by kernel_rfl)) ?_
      have hr := Option.some.inj h
      subst hr
      exact ⟨_, Wk.refl _, .inr rfl, ⟨[], by kernel_rfl, trivial, [.v (.bool true)], by kernel_rfl, by kernel_rfl⟩⟩

theorem s_laws_eqEnum (p1 : List (ByteArray × Int)) (p2 : List (ByteArray × Int)) (r : Bool) (h : m_laws_eqEnum p1 p2 = some r) :
    Eng.Spec Try.prog 19 [.agg [.bs false 2 (List.map enc_si p1)], .agg [.bs false 2 (List.map enc_si p2)]] [] (.v (.bool r)) [] := by
  unfold m_laws_eqEnum at h
  refine Eng.Spec.body Try.func19 (by kernel_rfl) rfl (by kernel_rfl) ?_
  refine AX.wkpost ?_
  refine AX.seq ?_
  refine AX.reg (its := [.auto { nk := 0 }, .auto { nk := 1 }]) [2, 3] [0, 1] (s1 := ⟨[(2, .pt 0 0), (3, .pt 1 0)], [(0, .box [.bs false 2 (List.map enc_si p1)]), (1, .box [.bs false 2 (List.map enc_si p2)])]⟩) (C := True) (by kernel_rfl) trivial trivial ?_
  refine AX.seq ?_
  refine AX.seq ?_
  obtain ⟨x3, e1, h⟩ := bd_e h
  refine AX.reg (its := [.auto {}, .auto {}, .auto {}, .auto {}, .call 48 [.bs false 2 (List.map enc_si p1), .bs false 2 (List.map enc_si p2)] (handO (rho ([] ++ [])) [] [] ++ []) (callEv [] [] (.v (.bool x3)) [])]) [10] [] (s1 := ⟨[(10, .v (.bool (!x3)))], []⟩) (C := ((([.bs false 2 (List.map enc_si p1), .bs false 2 (List.map enc_si p2)] : List AV) = [.bs false 2 (List.map enc_si p1), .bs false 2 (List.map enc_si p2)]) ∧ True) ∧ True) (by kernel_rfl) ⟨⟨rfl, trivial⟩, trivial⟩ ⟨call_ok (ks := []) (ns := []) (bor := []) (bobjs := []) (s_laws_eqDefS p1 p2 x3 e1) (.cons (.c1 (.c0 (.same _ (by kernel_rfl) (by kernel_rfl)))) (.cons (.c1 (.c0 (.same _ (by kernel_rfl) (by kernel_rfl)))) (.nil))) (by kernel_rfl) trivial, trivial⟩ ?_
  rcases bool_cases ((!x3)) with b2 | b2
  · replace h := cd_t b2 h
    refine AX.condT ((!x3)) (by kernel_rfl) b2 ?_
    refine AX.seq ?_
    refine AX.reg (its := []) [4] [] (s1 := ⟨[(4, .v (.bool false))], []⟩) (C := True) (by kernel_rfl) trivial trivial ?_
    refine AX.ret ?_
    refine fin_wk (Wk.forget [4] [] (s' := ⟨[(4, .v (.bool false))], []⟩) (by kernel_rfl)) ?_
    have hr := Option.some.inj h
    subst hr
    exact ⟨_, Wk.refl _, .inr rfl, ⟨[], by kernel_rfl, trivial, [.v (.bool false)], by kernel_rfl, by kernel_rfl⟩⟩
  · replace h := cd_f b2 h
    refine AX.condF ((!x3)) (by kernel_rfl) b2 ?_
    refine AX.skip ?_
    refine AX.seq ?_
    refine AX.reg (its := []) [4] [] (s1 := ⟨[(4, .v (.bool true))], []⟩) (C := True) (by kernel_rfl) trivial trivial ?_
    refine AX.ret ?_
    refine fin_wk (Wk.forget [4] [] (s' := ⟨[(4, .v (.bool true))], []⟩) (by kernel_rfl)) ?_
    have hr := Option.some.inj h
    subst hr
    exact ⟨_, Wk.refl _, .inr rfl, ⟨[], by kernel_rfl, trivial, [.v (.bool true)], by kernel_rfl, by kernel_rfl⟩⟩

theorem s_laws_eqChange (p1 : Int) (p2 : ByteArray) (p3 : Int) (p4 : Int) (p5 : Int) (p6 : ByteArray) (p7 : Int) (p8 : Int) (r : Bool) (h : m_laws_eqChange p1 p2 p3 p4 p5 p6 p7 p8 = some r) :
    Eng.Spec Try.prog 49 [.agg [.v (.int .i64 p1), .v (.string p2), .v (.int .i64 p3), .v (.int .i64 p4)], .agg [.v (.int .i64 p5), .v (.string p6), .v (.int .i64 p7), .v (.int .i64 p8)]] [] (.v (.bool r)) [] := by
  unfold m_laws_eqChange at h
  refine Eng.Spec.body Try.func49 (by kernel_rfl) rfl (by kernel_rfl) ?_
  refine AX.wkpost ?_
  refine AX.seq ?_
  refine AX.reg (its := [.auto { nk := 0 }, .auto { nk := 1 }]) [2, 3] [0, 1] (s1 := ⟨[(2, .pt 0 0), (3, .pt 1 0)], [(0, .box [.v (.int .i64 p1), .v (.string p2), .v (.int .i64 p3), .v (.int .i64 p4)]), (1, .box [.v (.int .i64 p5), .v (.string p6), .v (.int .i64 p7), .v (.int .i64 p8)])]⟩) (C := True) (by kernel_rfl) trivial trivial ?_
  refine AX.seq ?_
  refine AX.seq ?_
  refine AX.reg (its := []) [2, 3, 9] [0, 1] (s1 := ⟨[(2, .pt 0 0), (3, .pt 1 0), (9, .v (.bool (!decide (p1 = p5))))], [(0, .box [.v (.int .i64 p1), .v (.string p2), .v (.int .i64 p3), .v (.int .i64 p4)]), (1, .box [.v (.int .i64 p5), .v (.string p6), .v (.int .i64 p7), .v (.int .i64 p8)])]⟩) (C := True) (by kernel_rfl) trivial trivial ?_
  rcases bool_cases ((!decide (p1 = p5))) with b1 | b1
  · replace h := cd_t b1 h
    refine AX.condT ((!decide (p1 = p5))) (by kernel_rfl) b1 ?_
    refine AX.seq ?_
    refine AX.reg (its := []) [4] [] (s1 := ⟨[(4, .v (.bool false))], []⟩) (C := True) (by kernel_rfl) trivial trivial ?_
    refine AX.ret ?_
    refine fin_wk (Wk.forget [4] [] (s' := ⟨[(4, .v (.bool false))], []⟩) (by kernel_rfl)) ?_
    have hr := Option.some.inj h
    subst hr
    exact ⟨_, Wk.refl _, .inr rfl, ⟨[], by kernel_rfl, trivial, [.v (.bool false)], by kernel_rfl, by kernel_rfl⟩⟩
  · replace h := cd_f b1 h
    refine AX.condF ((!decide (p1 = p5))) (by kernel_rfl) b1 ?_
    refine AX.skip ?_
    refine AX.seq ?_
    refine AX.seq ?_
    refine AX.reg (its := []) [2, 3, 14] [0, 1] (s1 := ⟨[(2, .pt 0 0), (3, .pt 1 0), (14, .v (.bool (!decide (p2 = p6))))], [(0, .box [.v (.int .i64 p1), .v (.string p2), .v (.int .i64 p3), .v (.int .i64 p4)]), (1, .box [.v (.int .i64 p5), .v (.string p6), .v (.int .i64 p7), .v (.int .i64 p8)])]⟩) (C := True) (by kernel_rfl) trivial trivial ?_
    rcases bool_cases ((!decide (p2 = p6))) with b2 | b2
    · replace h := cd_t b2 h
      refine AX.condT ((!decide (p2 = p6))) (by kernel_rfl) b2 ?_
      refine AX.seq ?_
      refine AX.reg (its := []) [4] [] (s1 := ⟨[(4, .v (.bool false))], []⟩) (C := True) (by kernel_rfl) trivial trivial ?_
      refine AX.ret ?_
      refine fin_wk (Wk.forget [4] [] (s' := ⟨[(4, .v (.bool false))], []⟩) (by kernel_rfl)) ?_
      have hr := Option.some.inj h
      subst hr
      exact ⟨_, Wk.refl _, .inr rfl, ⟨[], by kernel_rfl, trivial, [.v (.bool false)], by kernel_rfl, by kernel_rfl⟩⟩
    · replace h := cd_f b2 h
      refine AX.condF ((!decide (p2 = p6))) (by kernel_rfl) b2 ?_
      refine AX.skip ?_
      refine AX.seq ?_
      refine AX.seq ?_
      refine AX.reg (its := []) [2, 3, 19] [0, 1] (s1 := ⟨[(2, .pt 0 0), (3, .pt 1 0), (19, .v (.bool (!decide (p3 = p7))))], [(0, .box [.v (.int .i64 p1), .v (.string p2), .v (.int .i64 p3), .v (.int .i64 p4)]), (1, .box [.v (.int .i64 p5), .v (.string p6), .v (.int .i64 p7), .v (.int .i64 p8)])]⟩) (C := True) (by kernel_rfl) trivial trivial ?_
      rcases bool_cases ((!decide (p3 = p7))) with b3 | b3
      · replace h := cd_t b3 h
        refine AX.condT ((!decide (p3 = p7))) (by kernel_rfl) b3 ?_
        refine AX.seq ?_
        refine AX.reg (its := []) [4] [] (s1 := ⟨[(4, .v (.bool false))], []⟩) (C := True) (by kernel_rfl) trivial trivial ?_
        refine AX.ret ?_
        refine fin_wk (Wk.forget [4] [] (s' := ⟨[(4, .v (.bool false))], []⟩) (by kernel_rfl)) ?_
        have hr := Option.some.inj h
        subst hr
        exact ⟨_, Wk.refl _, .inr rfl, ⟨[], by kernel_rfl, trivial, [.v (.bool false)], by kernel_rfl, by kernel_rfl⟩⟩
      · replace h := cd_f b3 h
        refine AX.condF ((!decide (p3 = p7))) (by kernel_rfl) b3 ?_
        refine AX.skip ?_
        refine AX.seq ?_
        refine AX.seq ?_
        refine AX.reg (its := []) [24] [] (s1 := ⟨[(24, .v (.bool (!decide (p4 = p8))))], []⟩) (C := True) (by kernel_rfl) trivial trivial ?_
        rcases bool_cases ((!decide (p4 = p8))) with b4 | b4
        · replace h := cd_t b4 h
          refine AX.condT ((!decide (p4 = p8))) (by kernel_rfl) b4 ?_
          refine AX.seq ?_
          refine AX.reg (its := []) [4] [] (s1 := ⟨[(4, .v (.bool false))], []⟩) (C := True) (by kernel_rfl) trivial trivial ?_
          refine AX.ret ?_
          refine fin_wk (Wk.forget [4] [] (s' := ⟨[(4, .v (.bool false))], []⟩) (by kernel_rfl)) ?_
          have hr := Option.some.inj h
          subst hr
          exact ⟨_, Wk.refl _, .inr rfl, ⟨[], by kernel_rfl, trivial, [.v (.bool false)], by kernel_rfl, by kernel_rfl⟩⟩
        · replace h := cd_f b4 h
          refine AX.condF ((!decide (p4 = p8))) (by kernel_rfl) b4 ?_
          refine AX.skip ?_
          refine AX.seq ?_
          refine AX.reg (its := []) [4] [] (s1 := ⟨[(4, .v (.bool true))], []⟩) (C := True) (by kernel_rfl) trivial trivial ?_
          refine AX.ret ?_
          refine fin_wk (Wk.forget [4] [] (s' := ⟨[(4, .v (.bool true))], []⟩) (by kernel_rfl)) ?_
          have hr := Option.some.inj h
          subst hr
          exact ⟨_, Wk.refl _, .inr rfl, ⟨[], by kernel_rfl, trivial, [.v (.bool true)], by kernel_rfl, by kernel_rfl⟩⟩

theorem s_laws_eqChangeS_L1 (p1 : List (Int × ByteArray × Int × Int)) (p2 : List (Int × ByteArray × Int × Int)) (n : Nat) (g : Int) (out : Unit ⊕ Unit) (h : m_laws_eqChangeS_L1 p1 p2 n g = some out) :
    AX Try.prog 27 0 (codeAt [1, 1, 0, 1, 1] (bodyOf Try.f20)) ((fun g : Int => (⟨[(0, .bs false 4 (List.map enc_isii p1)), (1, .bs false 4 (List.map enc_isii p2)), (5, .v (.int .i64 g))], []⟩ : S)) g) (fun ex s => (∃ o : Unit, out = Sum.inl o ∧ ex = .ret ∧ s = ⟨[(4, .v (.bool false))], []⟩) ∨ (∃ o : Unit, out = Sum.inr o ∧ ex = .exit 0 ∧ s = ⟨[], []⟩)) := by
  refine AX.wkpost ?_
  refine AX.loop (G := Nat × (Int)) (fun q => (fun g : Int => (⟨[(0, .bs false 4 (List.map enc_isii p1)), (1, .bs false 4 (List.map enc_isii p2)), (5, .v (.int .i64 g))], []⟩ : S)) q.2) (fun q => m_laws_eqChangeS_L1 p1 p2 q.1 q.2 = some out) (fun q => q.1) (n, g) h (Wk.refl _) ?_
  clear h
  rintro ⟨fu, v3⟩ h
  cases fu with
  | zero => cases h
  | succ fu =>
    rw [m_laws_eqChangeS_L1] at h
    refine AX.seq ?_
    refine AX.seq ?_
    refine AX.reg (its := [.auto {}, .auto {}, .auto { y := some (.v (.int .i64 (p1.length : Int))) }]) [0, 1, 5, 14] [] (s1 := ⟨[(0, .bs false 4 (List.map enc_isii p1)), (1, .bs false 4 (List.map enc_isii p2)), (5, .v (.int .i64 v3)), (14, .v (.bool (decide (v3 < (p1.length : Int)))))], []⟩) (C := (True ∧ (AV.v (.int .i64 ((List.map enc_isii p1).length : Int)) = AV.v (.int .i64 (p1.length : Int)))) ∧ True) (by kernel_rfl) ⟨⟨trivial, len_map enc_isii p1⟩, trivial⟩ trivial ?_
    rcases bool_cases (decide (v3 < (p1.length : Int))) with b2 | b2
    · replace h := cd_t b2 h
      refine AX.condT (decide (v3 < (p1.length : Int))) (by kernel_rfl) b2 ?_
      refine AX.skip ?_
      refine AX.seq ?_
      refine AX.block ?_
      refine AX.seq ?_
      obtain ⟨g3, h⟩ := gd_e h
      obtain ⟨g4, h⟩ := gd_e h
      obtain ⟨x4, e5, h⟩ := bd_e h
      refine AX.drw mixed (its := [.auto {}, .auto {}, .auto { y := some (.be 4 (enc_isii (gt p1 v3)) 0) }, .auto {}, .auto {}, .auto {}, .auto { y := some (.be 4 (enc_isii (gt p2 v3)) 0) }, .auto {}, .call 49 [.agg [.v (.int .i64 ((gt p1 v3).1)), .v (.string ((gt p1 v3).2.1)), .v (.int .i64 ((gt p1 v3).2.2.1)), .v (.int .i64 ((gt p1 v3).2.2.2))], .agg [.v (.int .i64 ((gt p2 v3).1)), .v (.string ((gt p2 v3).2.1)), .v (.int .i64 ((gt p2 v3).2.2.1)), .v (.int .i64 ((gt p2 v3).2.2.2))]] (handO (rho ([] ++ [])) [] [] ++ []) (callEv [] [] (.v (.bool x4)) [])]) [0, 1, 5, 26] [] (s1 := ⟨[(0, .bs false 4 (List.map enc_isii p1)), (1, .bs false 4 (List.map enc_isii p2)), (5, .v (.int .i64 v3)), (26, .v (.bool (!x4)))], []⟩) (C := ((0 ≤ v3 ∧ v3 < ((List.map enc_isii p1).length : Int)) ∧ (AV.be 4 ((List.map enc_isii p1).getD v3.toNat []) 0 = AV.be 4 (enc_isii (gt p1 v3)) 0)) ∧ ((0 ≤ v3 ∧ v3 < ((List.map enc_isii p2).length : Int)) ∧ (AV.be 4 ((List.map enc_isii p2).getD v3.toNat []) 0 = AV.be 4 (enc_isii (gt p2 v3)) 0)) ∧ ((([.agg [.v (.int .i64 ((gt p1 v3).1)), .v (.string ((gt p1 v3).2.1)), .v (.int .i64 ((gt p1 v3).2.2.1)), .v (.int .i64 ((gt p1 v3).2.2.2))], .agg [.v (.int .i64 ((gt p2 v3).1)), .v (.string ((gt p2 v3).2.1)), .v (.int .i64 ((gt p2 v3).2.2.1)), .v (.int .i64 ((gt p2 v3).2.2.2))]] : List AV) = [.agg [.v (.int .i64 ((gt p1 v3).1)), .v (.string ((gt p1 v3).2.1)), .v (.int .i64 ((gt p1 v3).2.2.1)), .v (.int .i64 ((gt p1 v3).2.2.2))], .agg [.v (.int .i64 ((gt p2 v3).1)), .v (.string ((gt p2 v3).2.1)), .v (.int .i64 ((gt p2 v3).2.2.1)), .v (.int .i64 ((gt p2 v3).2.2.2))]]) ∧ True) ∧ True) (by kernel_rfl) ⟨idx_bs enc_isii p1 v3 4 g3, ⟨idx_bs enc_isii p2 v3 4 g4, ⟨⟨rfl, trivial⟩, trivial⟩⟩⟩ ⟨call_ok (ks := []) (ns := []) (bor := []) (bobjs := []) (s_laws_eqChange ((gt p1 v3).1) ((gt p1 v3).2.1) ((gt p1 v3).2.2.1) ((gt p1 v3).2.2.2) ((gt p2 v3).1) ((gt p2 v3).2.1) ((gt p2 v3).2.2.1) ((gt p2 v3).2.2.2) x4 e5) (.cons (.c1 (.agg (.cons (.same _ (by kernel_rfl) (by kernel_rfl)) (.cons (.same _ (by kernel_rfl) (by kernel_rfl)) (.cons (.same _ (by kernel_rfl) (by kernel_rfl)) (.cons (.same _ (by kernel_rfl) (by kernel_rfl)) (.nil))))))) (.cons (.c1 (.agg (.cons (.same _ (by kernel_rfl) (by kernel_rfl)) (.cons (.same _ (by kernel_rfl) (by kernel_rfl)) (.cons (.same _ (by kernel_rfl) (by kernel_rfl)) (.cons (.same _ (by kernel_rfl) (by kernel_rfl)) (.nil))))))) (.nil))) (by kernel_rfl) trivial, trivial⟩ ?_
      rcases bool_cases ((!x4)) with b6 | b6
      · replace h := cd_t b6 h
        refine AX.condT ((!x4)) (by kernel_rfl) b6 ?_
        refine AX.seq ?_
        refine AX.reg (its := []) [4] [] (s1 := ⟨[(4, .v (.bool false))], []⟩) (C := True) (by kernel_rfl) trivial trivial ?_
        refine AX.ret ?_
        refine fin_wk (Wk.forget [4] [] (s' := ⟨[(4, .v (.bool false))], []⟩) (by kernel_rfl)) ?_
        have hr := Option.some.inj h
        subst hr
        exact ⟨_, Wk.refl _, .inl ⟨(), rfl, rfl, rfl⟩⟩
      · replace h := cd_f b6 h
        refine AX.condF ((!x4)) (by kernel_rfl) b6 ?_
        refine AX.skip ?_
        refine AX.reg (its := [.auto {}, .auto { raw := true }]) [0, 1, 5] [] (s1 := ⟨[(0, .bs false 4 (List.map enc_isii p1)), (1, .bs false 4 (List.map enc_isii p2)), (5, .v (.int .i64 (IntKind.wrap .i64 (v3 + 1))))], []⟩) (C := True) (by kernel_rfl) trivial trivial ?_
        refine ⟨(fu, IntKind.wrap .i64 (v3 + 1)), h, Nat.lt_succ_self _, ?_⟩
        refine Wk.trans (Wk.forget [0, 1, 5] [] (s' := ⟨[(0, .bs false 4 (List.map enc_isii p1)), (1, .bs false 4 (List.map enc_isii p2)), (5, .v (.int .i64 (IntKind.wrap .i64 (v3 + 1))))], []⟩) (by kernel_rfl)) ?_
        exact Wk.refl _
    · replace h := cd_f b2 h
      refine AX.condF (decide (v3 < (p1.length : Int))) (by kernel_rfl) b2 ?_
      refine AX.exit ?_
      refine fin_wk (Wk.forget [] [] (s' := ⟨[], []⟩) (by kernel_rfl)) ?_
      have hr := Option.some.inj h
      subst hr
      exact ⟨_, Wk.refl _, .inr ⟨(), rfl, rfl, rfl⟩⟩

theorem s_laws_eqChangeS (p1 : List (Int × ByteArray × Int × Int)) (p2 : List (Int × ByteArray × Int × Int)) (r : Bool) (h : m_laws_eqChangeS p1 p2 = some r) :
    Eng.Spec Try.prog 20 [.bs false 4 (List.map enc_isii p1), .bs false 4 (List.map enc_isii p2)] [] (.v (.bool r)) [] := by
  unfold m_laws_eqChangeS at h
  refine Eng.Spec.body Try.func20 (by kernel_rfl) rfl (by kernel_rfl) ?_
  refine AX.wkpost ?_
  refine AX.seq ?_
  refine AX.reg (its := []) [0, 1] [] (s1 := ⟨[(0, .bs false 4 (List.map enc_isii p1)), (1, .bs false 4 (List.map enc_isii p2))], []⟩) (C := True) (by kernel_rfl) trivial trivial ?_
  refine AX.seq ?_
  refine AX.seq ?_
  refine AX.reg (its := [.auto {}, .auto { y := some (.v (.int .i64 (p1.length : Int))) }, .auto {}, .auto { y := some (.v (.int .i64 (p2.length : Int))) }]) [0, 1, 10] [] (s1 := ⟨[(0, .bs false 4 (List.map enc_isii p1)), (1, .bs false 4 (List.map enc_isii p2)), (10, .v (.bool (!decide ((p1.length : Int) = (p2.length : Int)))))], []⟩) (C := (True ∧ (AV.v (.int .i64 ((List.map enc_isii p1).length : Int)) = AV.v (.int .i64 (p1.length : Int)))) ∧ (True ∧ (AV.v (.int .i64 ((List.map enc_isii p2).length : Int)) = AV.v (.int .i64 (p2.length : Int)))) ∧ True) (by kernel_rfl) ⟨⟨trivial, len_map enc_isii p1⟩, ⟨⟨trivial, len_map enc_isii p2⟩, trivial⟩⟩ trivial ?_
  rcases bool_cases ((!decide ((p1.length : Int) = (p2.length : Int)))) with b1 | b1
  · replace h := cd_t b1 h
    refine AX.condT ((!decide ((p1.length : Int) = (p2.length : Int)))) (by kernel_rfl) b1 ?_
    refine AX.seq ?_
    refine AX.reg (its := []) [4] [] (s1 := ⟨[(4, .v (.bool false))], []⟩) (C := True) (by kernel_rfl) trivial trivial ?_
    refine AX.ret ?_
    refine fin_wk (Wk.forget [4] [] (s' := ⟨[(4, .v (.bool false))], []⟩) (by kernel_rfl)) ?_
    have hr := Option.some.inj h
    subst hr
    exact ⟨_, Wk.refl _, .inr rfl, ⟨[], by kernel_rfl, trivial, [.v (.bool false)], by kernel_rfl, by kernel_rfl⟩⟩
  · replace h := cd_f b1 h
    refine AX.condF ((!decide ((p1.length : Int) = (p2.length : Int)))) (by kernel_rfl) b1 ?_
    refine AX.skip ?_
    refine AX.seq ?_
    refine AX.seq ?_
    refine AX.reg (its := []) [0, 1, 5] [] (s1 := ⟨[(0, .bs false 4 (List.map enc_isii p1)), (1, .bs false 4 (List.map enc_isii p2)), (5, .v (.int .i64 0))], []⟩) (C := True) (by kernel_rfl) trivial trivial ?_
    refine AX.block ?_
    obtain ⟨x5, e7, h⟩ := bd_e h
    refine AX.wk (Wk.forget [0, 1, 5] [] (s' := ⟨[(0, .bs false 4 (List.map enc_isii p1)), (1, .bs false 4 (List.map enc_isii p2)), (5, .v (.int .i64 0))], []⟩) (by kernel_rfl)) ?_
    refine AX.mono (s_laws_eqChangeS_L1 p1 p2 FU 0 x5 e7) ?_
    rintro _ _ (⟨x6, rfl, rfl, rfl⟩ | ⟨x7, rfl, rfl, rfl⟩)
    · replace h := sm_l h
      refine fin_wk (Wk.forget [4] [] (s' := ⟨[(4, .v (.bool false))], []⟩) (by kernel_rfl)) ?_
      have hr := Option.some.inj h
      subst hr
      exact ⟨_, Wk.refl _, .inr rfl, ⟨[], by kernel_rfl, trivial, [.v (.bool false)], by kernel_rfl, by kernel_rfl⟩⟩
    · replace h := sm_r h
      refine AX.seq ?_
      refine AX.reg (its := []) [4] [] (s1 := ⟨[(4, .v (.bool true))], []⟩) (C := True) (by kernel_rfl) trivial trivial ?_
      refine AX.ret ?_
      refine fin_wk (Wk.forget [4] [] (s' := ⟨[(4, .v (.bool true))], []⟩) (by kernel_rfl)) ?_
      have hr := Option.some.inj h
      subst hr
      exact ⟨_, Wk.refl _, .inr rfl, ⟨[], by kernel_rfl, trivial, [.v (.bool true)], by kernel_rfl, by kernel_rfl⟩⟩

theorem s_laws_markText_L1  (n : Nat) (g : Int × ByteArray) (out : ByteArray) (h : m_laws_markText_L1 n g.1 g.2 = some out) :
    AX Try.prog 20 0 (codeAt [1, 1, 1, 0, 1] (bodyOf Try.f51)) ((fun g : Int × ByteArray => (⟨[(0, .v (.int .i64 g.1)), (3, .v (.string g.2))], []⟩ : S)) g) (fun ex s => ex = .exit 0 ∧ s = (fun o : ByteArray => (⟨[(3, .v (.string o))], []⟩ : S)) out) := by
  refine AX.wkpost ?_
  refine AX.loop (G := Nat × (Int × ByteArray)) (fun q => (fun g : Int × ByteArray => (⟨[(0, .v (.int .i64 g.1)), (3, .v (.string g.2))], []⟩ : S)) q.2) (fun q => m_laws_markText_L1 q.1 q.2.1 q.2.2 = some out) (fun q => q.1) (n, g) h (Wk.refl _) ?_
  clear h
  rintro ⟨fu, v2, v3⟩ h
  cases fu with
  | zero => cases h
  | succ fu =>
    rw [m_laws_markText_L1] at h
    refine AX.seq ?_
    refine AX.seq ?_
    refine AX.reg (its := []) [0, 3, 7] [] (s1 := ⟨[(0, .v (.int .i64 v2)), (3, .v (.string v3)), (7, .v (.bool (decide (0 < v2))))], []⟩) (C := True) (by kernel_rfl) trivial trivial ?_
    rcases bool_cases (decide (0 < v2)) with b2 | b2
    · replace h := cd_t b2 h
      refine AX.condT (decide (0 < v2)) (by kernel_rfl) b2 ?_
      refine AX.skip ?_
      refine AX.block ?_
      refine AX.seq ?_
      obtain ⟨g3, h⟩ := gd_e h
      obtain ⟨v4, q4, h⟩ := nm_e h
      obtain ⟨g5, h⟩ := gd_e h
      refine AX.reg (its := [.auto {}, .auto {}, .auto { raw := true }, .auto { raw := true }, .auto { nk := 0 }, .auto { y := some (.v (.string v4)) }]) [0, 3] [] (s1 := ⟨[(0, .v (.int .i64 v2)), (3, .v (.string (v4 ++ v3)))], []⟩) (C := ((10 : Int) ≠ 0) ∧ ((True) ∧ ((.v (.string (bstr ([IntKind.wrap .u8 (IntKind.wrap .i64 (48 + (Int.tmod v2 10)))] : List (Int)))) : AV) = (.v (.string v4) : AV))) ∧ (v4.size + v3.size ≤ 9223372036854775807) ∧ True) (by kernel_rfl) ⟨g3, ⟨⟨trivial, (congrArg (fun z => AV.v (.string z)) q4)⟩, ⟨g5, trivial⟩⟩⟩ trivial ?_
      obtain ⟨g6, h⟩ := gd_e h
      refine AX.reg (its := []) [0, 3] [] (s1 := ⟨[(0, .v (.int .i64 (Int.tdiv v2 10))), (3, .v (.string (v4 ++ v3)))], []⟩) (C := ((10 : Int) ≠ 0 ∧ IntKind.wrap .i64 (Int.tdiv v2 10) = Int.tdiv v2 10) ∧ True) (by kernel_rfl) ⟨g6, trivial⟩ trivial ?_
      refine ⟨(fu, (Int.tdiv v2 10, v4 ++ v3)), h, Nat.lt_succ_self _, ?_⟩
      refine Wk.trans (Wk.forget [0, 3] [] (s' := ⟨[(0, .v (.int .i64 (Int.tdiv v2 10))), (3, .v (.string (v4 ++ v3)))], []⟩) (by kernel_rfl)) ?_
      exact Wk.refl _
    · replace h := cd_f b2 h
      refine AX.condF (decide (0 < v2)) (by kernel_rfl) b2 ?_
      refine AX.exit ?_
      refine fin_wk (Wk.forget [3] [] (s' := ⟨[(3, .v (.string v3))], []⟩) (by kernel_rfl)) ?_
      have hr := Option.some.inj h
      subst hr
      exact ⟨_, Wk.refl _, ⟨rfl, rfl⟩⟩

theorem s_laws_markText (p1 : Int) (r : ByteArray) (h : m_laws_markText p1 = some r) :
    Eng.Spec Try.prog 51 [.v (.int .i64 p1)] [] (.v (.string r)) [] := by
  unfold m_laws_markText at h
  refine Eng.Spec.body Try.func51 (by kernel_rfl) rfl (by kernel_rfl) ?_
  refine AX.wkpost ?_
  refine AX.seq ?_
  refine AX.reg (its := []) [0] [] (s1 := ⟨[(0, .v (.int .i64 p1))], []⟩) (C := True) (by kernel_rfl) trivial trivial ?_
  refine AX.seq ?_
  refine AX.seq ?_
  refine AX.reg (its := []) [0, 5] [] (s1 := ⟨[(0, .v (.int .i64 p1)), (5, .v (.bool (decide (p1 ≤ 0))))], []⟩) (C := True) (by kernel_rfl) trivial trivial ?_
  rcases bool_cases (decide (p1 ≤ 0)) with b1 | b1
  · replace h := cd_t b1 h
    refine AX.condT (decide (p1 ≤ 0)) (by kernel_rfl) b1 ?_
    refine AX.seq ?_
    refine AX.reg (its := []) [2] [] (s1 := ⟨[(2, .v (.string (ByteArray.mk #[109, 48])))], []⟩) (C := True) (by kernel_rfl) trivial trivial ?_
    refine AX.ret ?_
    refine fin_wk (Wk.forget [2] [] (s' := ⟨[(2, .v (.string (ByteArray.mk #[109, 48])))], []⟩) (by kernel_rfl)) ?_
    have hr := Option.some.inj h
    subst hr
    exact ⟨_, Wk.refl _, .inr rfl, ⟨[], by kernel_rfl, trivial, [.v (.string (ByteArray.mk #[109, 48]))], by kernel_rfl, by kernel_rfl⟩⟩
  · replace h := cd_f b1 h
    refine AX.condF (decide (p1 ≤ 0)) (by kernel_rfl) b1 ?_
    refine AX.skip ?_
    refine AX.seq ?_
    refine AX.reg (its := []) [0, 3] [] (s1 := ⟨[(0, .v (.int .i64 p1)), (3, .v (.string ByteArray.empty))], []⟩) (C := True) (by kernel_rfl) trivial trivial ?_
    refine AX.seq ?_
    refine AX.block ?_
    obtain ⟨x5, e7, h⟩ := bd_e h
    refine AX.wk (Wk.forget [0, 3] [] (s' := ⟨[(0, .v (.int .i64 p1)), (3, .v (.string ByteArray.empty))], []⟩) (by kernel_rfl)) ?_
    refine AX.mono (s_laws_markText_L1  FU (p1, ByteArray.empty) x5 e7) ?_
    rintro _ _ ⟨rfl, rfl⟩
    skip
    refine AX.seq ?_
    obtain ⟨g8, h⟩ := gd_e h
    refine AX.reg (its := []) [2] [] (s1 := ⟨[(2, .v (.string ((ByteArray.mk #[109]) ++ x5)))], []⟩) (C := ((ByteArray.mk #[109]).size + x5.size ≤ 9223372036854775807) ∧ True) (by kernel_rfl) ⟨g8, trivial⟩ trivial ?_
    refine AX.ret ?_
    refine fin_wk (Wk.forget [2] [] (s' := ⟨[(2, .v (.string ((ByteArray.mk #[109]) ++ x5)))], []⟩) (by kernel_rfl)) ?_
    have hr := Option.some.inj h
    subst hr
    exact ⟨_, Wk.refl _, .inr rfl, ⟨[], by kernel_rfl, trivial, [.v (.string ((ByteArray.mk #[109]) ++ x5))], by kernel_rfl, by kernel_rfl⟩⟩

theorem s_laws_markDefS_h_L1  (n : Nat) (g : Int × Int × (List (ByteArray × Int))) (out : Int × (List (ByteArray × Int))) (h : m_laws_markDefS_h_L1 n g.1 g.2.1 g.2.2 = some out) :
    AX Try.prog 28 1 (codeAt [1, 0, 1, 1] (bodyOf Try.f50)) ((fun g : Int × Int × (List (ByteArray × Int)) => (⟨[(0, .sl 0 0 g.2.2.length), (1, .v (.int .i64 g.1)), (5, .v (.int .i64 g.2.1))], [(0, .arr 2 (List.map enc_si g.2.2))]⟩ : S)) g) (fun ex s => ex = .exit 0 ∧ s = (fun o : Int × (List (ByteArray × Int)) => (⟨[(1, .v (.int .i64 o.1))], [(0, .arr 2 (List.map enc_si o.2))]⟩ : S)) out) := by
  refine AX.wkpost ?_
  refine AX.loop (G := Nat × (Int × Int × (List (ByteArray × Int)))) (fun q => (fun g : Int × Int × (List (ByteArray × Int)) => (⟨[(0, .sl 0 0 g.2.2.length), (1, .v (.int .i64 g.1)), (5, .v (.int .i64 g.2.1))], [(0, .arr 2 (List.map enc_si g.2.2))]⟩ : S)) q.2) (fun q => m_laws_markDefS_h_L1 q.1 q.2.1 q.2.2.1 q.2.2.2 = some out) (fun q => q.1) (n, g) h (Wk.refl _) ?_
  clear h
  rintro ⟨fu, v3, v4, v5⟩ h
  cases fu with
  | zero => cases h
  | succ fu =>
    rw [m_laws_markDefS_h_L1] at h
    refine AX.seq ?_
    refine AX.seq ?_
    refine AX.reg (its := []) [0, 1, 5, 9] [0] (s1 := ⟨[(0, .sl 0 0 v5.length), (1, .v (.int .i64 v3)), (5, .v (.int .i64 v4)), (9, .v (.bool (decide (v4 < (v5.length : Int)))))], [(0, .arr 2 (List.map enc_si v5))]⟩) (C := True) (by kernel_rfl) trivial trivial ?_
    rcases bool_cases (decide (v4 < (v5.length : Int))) with b1 | b1
    · replace h := cd_t b1 h
      refine AX.condT (decide (v4 < (v5.length : Int))) (by kernel_rfl) b1 ?_
      refine AX.skip ?_
      refine AX.seq ?_
      refine AX.block ?_
      refine AX.seq ?_
      obtain ⟨x6, e2, h⟩ := bd_e h
      obtain ⟨g3, h⟩ := gd_e h
      refine AX.reg (its := [.auto {}, .auto {}, .auto {}, .call 51 [.v (.int .i64 v3)] (handO (rho ([] ++ [])) [] [] ++ []) (callEv [] [] (.v (.string x6)) []), .auto {}, .auto {}, .auto { els := some ([enc_si (x6, (gt v5 v4).2)]) }]) [0, 1, 5] [0] (s1 := ⟨[(0, .sl 0 0 v5.length), (1, .v (.int .i64 v3)), (5, .v (.int .i64 v4))], [(0, .arr 2 ((List.map enc_si v5).set (0 + v4.toNat) (enc_si (x6, (gt v5 v4).2))))]⟩) (C := ((([.v (.int .i64 v3)] : List AV) = [.v (.int .i64 v3)]) ∧ True) ∧ (0 ≤ v4 ∧ v4 < (v5.length : Int)) ∧ ((((List.map enc_si v5).getD (0 + v4.toNat) []).take 0 ++ [(.string x6)] ++ ((List.map enc_si v5).getD (0 + v4.toNat) []).drop 1 = enc_si (x6, (gt v5 v4).2))) ∧ True) (by kernel_rfl) ⟨⟨rfl, trivial⟩, ⟨g3, ⟨(congrArg (fun z : List Value => z.take 0 ++ [(.string x6)] ++ z.drop 1) (idx_arr (enc := enc_si) rfl g3)), trivial⟩⟩⟩ ⟨call_ok (ks := []) (ns := []) (bor := []) (bobjs := []) (s_laws_markText v3 x6 e2) (.cons (.c1 (.c0 (.same _ (by kernel_rfl) (by kernel_rfl)))) (.nil)) (by kernel_rfl) trivial, trivial⟩ ?_
      refine AX.seq ?_
      refine AX.reg (its := [.auto {}, .auto { raw := true }]) [0, 1, 5] [0] (s1 := ⟨[(0, .sl 0 0 v5.length), (1, .v (.int .i64 (IntKind.wrap .i64 (v3 + 1)))), (5, .v (.int .i64 v4))], [(0, .arr 2 ((List.map enc_si v5).set (0 + v4.toNat) (enc_si (x6, (gt v5 v4).2))))]⟩) (C := True) (by kernel_rfl) trivial trivial ?_
      refine AX.seq ?_
      refine AX.reg (its := [.auto {}, .auto {}, .auto {}, .auto {}, .auto {}, .auto { els := some ([enc_si ((gt (v5.set (0 + v4.toNat) (x6, (gt v5 v4).2)) v4).1, IntKind.wrap .i64 (v3 + 1))]) }]) [0, 1, 5] [0] (s1 := ⟨[(0, .sl 0 0 v5.length), (1, .v (.int .i64 (IntKind.wrap .i64 (v3 + 1)))), (5, .v (.int .i64 v4))], [(0, .arr 2 (((List.map enc_si v5).set (0 + v4.toNat) (enc_si (x6, (gt v5 v4).2))).set (0 + v4.toNat) (enc_si ((gt (v5.set (0 + v4.toNat) (x6, (gt v5 v4).2)) v4).1, IntKind.wrap .i64 (v3 + 1)))))]⟩) (C := (0 ≤ v4 ∧ v4 < (v5.length : Int)) ∧ (((((List.map enc_si v5).set (0 + v4.toNat) (enc_si (x6, (gt v5 v4).2))).getD (0 + v4.toNat) []).take 1 ++ [(.int .i64 (IntKind.wrap .i64 (v3 + 1)))] ++ (((List.map enc_si v5).set (0 + v4.toNat) (enc_si (x6, (gt v5 v4).2))).getD (0 + v4.toNat) []).drop 2 = enc_si ((gt (v5.set (0 + v4.toNat) (x6, (gt v5 v4).2)) v4).1, IntKind.wrap .i64 (v3 + 1)))) ∧ True) (by kernel_rfl) ⟨g3, ⟨(congrArg (fun z : List Value => z.take 1 ++ [(.int .i64 (IntKind.wrap .i64 (v3 + 1)))] ++ z.drop 2) (idx_arr (enc := enc_si) (set_can (enc := enc_si) rfl (0 + v4.toNat) (x6, (gt v5 v4).2)) (idx_len (set_len ((rfl : v5.length = v5.length)) (0 + v4.toNat) (x6, (gt v5 v4).2)) g3))), trivial⟩⟩ trivial ?_
      refine AX.reg (its := [.auto {}, .auto { raw := true }]) [0, 1, 5] [0] (s1 := ⟨[(0, .sl 0 0 v5.length), (1, .v (.int .i64 (IntKind.wrap .i64 ((IntKind.wrap .i64 (v3 + 1)) + 1)))), (5, .v (.int .i64 v4))], [(0, .arr 2 (((List.map enc_si v5).set (0 + v4.toNat) (enc_si (x6, (gt v5 v4).2))).set (0 + v4.toNat) (enc_si ((gt (v5.set (0 + v4.toNat) (x6, (gt v5 v4).2)) v4).1, IntKind.wrap .i64 (v3 + 1)))))]⟩) (C := True) (by kernel_rfl) trivial trivial ?_
      refine AX.reg (its := [.auto {}, .auto { raw := true }]) [0, 1, 5] [0] (s1 := ⟨[(0, .sl 0 0 v5.length), (1, .v (.int .i64 (IntKind.wrap .i64 ((IntKind.wrap .i64 (v3 + 1)) + 1)))), (5, .v (.int .i64 (IntKind.wrap .i64 (v4 + 1))))], [(0, .arr 2 (((List.map enc_si v5).set (0 + v4.toNat) (enc_si (x6, (gt v5 v4).2))).set (0 + v4.toNat) (enc_si ((gt (v5.set (0 + v4.toNat) (x6, (gt v5 v4).2)) v4).1, IntKind.wrap .i64 (v3 + 1)))))]⟩) (C := True) (by kernel_rfl) trivial trivial ?_
      refine ⟨(fu, (IntKind.wrap .i64 ((IntKind.wrap .i64 (v3 + 1)) + 1), IntKind.wrap .i64 (v4 + 1), (v5.set (0 + v4.toNat) (x6, (gt v5 v4).2)).set (0 + v4.toNat) ((gt (v5.set (0 + v4.toNat) (x6, (gt v5 v4).2)) v4).1, IntKind.wrap .i64 (v3 + 1)))), h, Nat.lt_succ_self _, ?_⟩
      refine Wk.trans (Wk.forget [0, 1, 5] [0] (s' := ⟨[(0, .sl 0 0 v5.length), (1, .v (.int .i64 (IntKind.wrap .i64 ((IntKind.wrap .i64 (v3 + 1)) + 1)))), (5, .v (.int .i64 (IntKind.wrap .i64 (v4 + 1))))], [(0, .arr 2 (((List.map enc_si v5).set (0 + v4.toNat) (enc_si (x6, (gt v5 v4).2))).set (0 + v4.toNat) (enc_si ((gt (v5.set (0 + v4.toNat) (x6, (gt v5 v4).2)) v4).1, IntKind.wrap .i64 (v3 + 1)))))]⟩) (by kernel_rfl)) ?_
      refine Wk.trans (Wk.of_eq (congrArg (fun z => (⟨[(0, .sl 0 0 v5.length), (1, .v (.int .i64 (IntKind.wrap .i64 ((IntKind.wrap .i64 (v3 + 1)) + 1)))), (5, .v (.int .i64 (IntKind.wrap .i64 (v4 + 1))))], [(0, .arr 2 (z))]⟩ : S)) (set_can (enc := enc_si) (set_can (enc := enc_si) rfl (0 + v4.toNat) (x6, (gt v5 v4).2)) (0 + v4.toNat) ((gt (v5.set (0 + v4.toNat) (x6, (gt v5 v4).2)) v4).1, IntKind.wrap .i64 (v3 + 1))))) ?_
      refine Wk.trans (Wk.of_eq (congrArg (fun z => (⟨[(0, .sl 0 0 z), (1, .v (.int .i64 (IntKind.wrap .i64 ((IntKind.wrap .i64 (v3 + 1)) + 1)))), (5, .v (.int .i64 (IntKind.wrap .i64 (v4 + 1))))], [(0, .arr 2 (List.map enc_si ((v5.set (0 + v4.toNat) (x6, (gt v5 v4).2)).set (0 + v4.toNat) ((gt (v5.set (0 + v4.toNat) (x6, (gt v5 v4).2)) v4).1, IntKind.wrap .i64 (v3 + 1)))))]⟩ : S)) (set_len ((set_len ((rfl : v5.length = v5.length)) (0 + v4.toNat) (x6, (gt v5 v4).2) : v5.length = (v5.set (0 + v4.toNat) (x6, (gt v5 v4).2)).length)) (0 + v4.toNat) ((gt (v5.set (0 + v4.toNat) (x6, (gt v5 v4).2)) v4).1, IntKind.wrap .i64 (v3 + 1))))) ?_
      exact Wk.refl _
    · replace h := cd_f b1 h
      refine AX.condF (decide (v4 < (v5.length : Int))) (by kernel_rfl) b1 ?_
      refine AX.exit ?_
      refine fin_wk (Wk.forget [1] [0] (s' := ⟨[(1, .v (.int .i64 v3))], [(0, .arr 2 (List.map enc_si v5))]⟩) (by kernel_rfl)) ?_
      have hr := Option.some.inj h
      subst hr
      exact ⟨_, Wk.refl _, ⟨rfl, rfl⟩⟩

end Go.Eng
