/- What is proved here: each function keeps to its model, whatever its arguments, wherever the model has an answer. Printed by gen.py. -/
import Derived.Test.YtomemaanjendhaaGreatDoorCShowShortWalk3
import Derived.Test.YtomemaanjendhaaGreatDoorProg
import Derived.Test.YtomemaanjendhaaGreatDoorCShowShortShelf
import Derived.KernelRfl
set_option linter.unusedVariables false
set_option linter.unusedSimpArgs false
set_option linter.unnecessarySimpa false
namespace Go.Eng
open Go Go.Proofs


theorem s_math_bits_OnesCount64 (p1 : Int) (r : Int) (h : m_math_bits_OnesCount64 p1 = some r) :
    Eng.Spec Tryz.prog 138 [.v (.int .u64 p1)] [] (.v (.int .i64 r)) [] := by
  unfold m_math_bits_OnesCount64 at h
  refine Eng.Spec.body Tryz.func138 (by kernel_rfl) rfl (by kernel_rfl) ?_
  refine AX.wkpost ?_
  refine AX.seq ?_
  refine AX.reg (its := []) [0] [] (s1 := ⟨[(0, .v (.int .u64 p1))], []⟩) (C := True) (by kernel_rfl) trivial trivial ?_
  refine AX.seq ?_
  obtain ⟨g1, h⟩ := gd_e h
  obtain ⟨v2, q2, h⟩ := nm_e h
  obtain ⟨v3, q3, h⟩ := nm_e h
  refine AX.reg (its := [.auto {}, .auto {}, .auto { y := some (.v (.int .u64 v2)) }, .auto {}, .auto {}, .auto { y := some (.v (.int .u64 v3)), raw := true }]) [0] [] (s1 := ⟨[(0, .v (.int .u64 v3))], []⟩) (C := (0 ≤ (1 : Int) ∧ (1 : Int) ≤ (IntKind.bits .u64 : Int)) ∧ ((True) ∧ ((.v (.int .u64 (Go.bits .and .u64 (p1 / 2 ^ (1 : Int).toNat) 6148914691236517205)) : AV) = (.v (.int .u64 v2) : AV))) ∧ ((True) ∧ ((.v (.int .u64 (IntKind.wrap .u64 (v2 + (Go.bits .and .u64 p1 6148914691236517205)))) : AV) = (.v (.int .u64 v3) : AV))) ∧ True) (by kernel_rfl) ⟨g1, ⟨⟨trivial, (congrArg (fun z => AV.v (.int .u64 z)) q2)⟩, ⟨⟨trivial, (congrArg (fun z => AV.v (.int .u64 z)) q3)⟩, trivial⟩⟩⟩ trivial ?_
  refine AX.seq ?_
  obtain ⟨g4, h⟩ := gd_e h
  obtain ⟨v4, q5, h⟩ := nm_e h
  obtain ⟨v5, q6, h⟩ := nm_e h
  refine AX.reg (its := [.auto {}, .auto {}, .auto { y := some (.v (.int .u64 v4)) }, .auto {}, .auto {}, .auto { y := some (.v (.int .u64 v5)), raw := true }]) [0] [] (s1 := ⟨[(0, .v (.int .u64 v5))], []⟩) (C := (0 ≤ (2 : Int) ∧ (2 : Int) ≤ (IntKind.bits .u64 : Int)) ∧ ((True) ∧ ((.v (.int .u64 (Go.bits .and .u64 (v3 / 2 ^ (2 : Int).toNat) 3689348814741910323)) : AV) = (.v (.int .u64 v4) : AV))) ∧ ((True) ∧ ((.v (.int .u64 (IntKind.wrap .u64 (v4 + (Go.bits .and .u64 v3 3689348814741910323)))) : AV) = (.v (.int .u64 v5) : AV))) ∧ True) (by kernel_rfl) ⟨g4, ⟨⟨trivial, (congrArg (fun z => AV.v (.int .u64 z)) q5)⟩, ⟨⟨trivial, (congrArg (fun z => AV.v (.int .u64 z)) q6)⟩, trivial⟩⟩⟩ trivial ?_
  refine AX.seq ?_
  obtain ⟨g7, h⟩ := gd_e h
  obtain ⟨v6, q8, h⟩ := nm_e h
  refine AX.reg (its := [.auto {}, .auto {}, .auto {}, .auto { raw := true }, .auto { y := some (.v (.int .u64 v6)) }]) [0] [] (s1 := ⟨[(0, .v (.int .u64 v6))], []⟩) (C := (0 ≤ (4 : Int) ∧ (4 : Int) ≤ (IntKind.bits .u64 : Int)) ∧ ((True) ∧ ((.v (.int .u64 (Go.bits .and .u64 (IntKind.wrap .u64 ((v5 / 2 ^ (4 : Int).toNat) + v5)) 1085102592571150095)) : AV) = (.v (.int .u64 v6) : AV))) ∧ True) (by kernel_rfl) ⟨g7, ⟨⟨trivial, (congrArg (fun z => AV.v (.int .u64 z)) q8)⟩, trivial⟩⟩ trivial ?_
  refine AX.seq ?_
  obtain ⟨g9, h⟩ := gd_e h
  refine AX.reg (its := [.auto {}, .auto {}, .auto {}, .auto { raw := true }]) [0] [] (s1 := ⟨[(0, .v (.int .u64 (IntKind.wrap .u64 (v6 + (v6 / 2 ^ (8 : Int).toNat)))))], []⟩) (C := (0 ≤ (8 : Int) ∧ (8 : Int) ≤ (IntKind.bits .u64 : Int)) ∧ True) (by kernel_rfl) ⟨g9, trivial⟩ trivial ?_
  refine AX.seq ?_
  obtain ⟨g10, h⟩ := gd_e h
  obtain ⟨v7, q11, h⟩ := nm_e h
  obtain ⟨v8, q12, h⟩ := nm_e h
  refine AX.reg (its := [.auto {}, .auto {}, .auto { y := some (.v (.int .u64 v7)) }, .auto { y := some (.v (.int .u64 v8)), raw := true }]) [0] [] (s1 := ⟨[(0, .v (.int .u64 v8))], []⟩) (C := ((0 ≤ (16 : Int) ∧ (16 : Int) ≤ (IntKind.bits .u64 : Int)) ∧ ((.v (.int .u64 ((IntKind.wrap .u64 (v6 + (v6 / 2 ^ (8 : Int).toNat))) / 2 ^ (16 : Int).toNat)) : AV) = (.v (.int .u64 v7) : AV))) ∧ ((True) ∧ ((.v (.int .u64 (IntKind.wrap .u64 ((IntKind.wrap .u64 (v6 + (v6 / 2 ^ (8 : Int).toNat))) + v7))) : AV) = (.v (.int .u64 v8) : AV))) ∧ True) (by kernel_rfl) ⟨⟨g10, (congrArg (fun z => AV.v (.int .u64 z)) q11)⟩, ⟨⟨trivial, (congrArg (fun z => AV.v (.int .u64 z)) q12)⟩, trivial⟩⟩ trivial ?_
  refine AX.seq ?_
  obtain ⟨g13, h⟩ := gd_e h
  refine AX.reg (its := [.auto {}, .auto {}, .auto {}, .auto { raw := true }]) [0] [] (s1 := ⟨[(0, .v (.int .u64 (IntKind.wrap .u64 (v8 + (v8 / 2 ^ (32 : Int).toNat)))))], []⟩) (C := (0 ≤ (32 : Int) ∧ (32 : Int) ≤ (IntKind.bits .u64 : Int)) ∧ True) (by kernel_rfl) ⟨g13, trivial⟩ trivial ?_
  refine AX.seq ?_
  obtain ⟨v9, q14, h⟩ := nm_e h
  refine AX.reg (its := [.auto {}, .auto { y := some (.v (.int .i64 v9)), raw := true }]) [2] [] (s1 := ⟨[(2, .v (.int .i64 (Go.bits .and .i64 v9 127)))], []⟩) (C := ((True) ∧ ((.v (.int .i64 (IntKind.wrap .i64 (IntKind.wrap .u64 (v8 + (v8 / 2 ^ (32 : Int).toNat))))) : AV) = (.v (.int .i64 v9) : AV))) ∧ True) (by kernel_rfl) ⟨⟨trivial, (congrArg (fun z => AV.v (.int .i64 z)) q14)⟩, trivial⟩ trivial ?_
  refine AX.ret ?_
  refine fin_wk (Wk.forget [2] [] (s' := ⟨[(2, .v (.int .i64 (Go.bits .and .i64 v9 127)))], []⟩) (by kernel_rfl)) ?_
  have hr := Option.some.inj h
  subst hr
  exact ⟨_, Wk.refl _, .inr rfl, ⟨[], by kernel_rfl, trivial, [.v (.int .i64 (Go.bits .and .i64 v9 127))], by kernel_rfl, by kernel_rfl⟩⟩

theorem s_math_bits_OnesCount (p1 : Int) (r : Int) (h : m_math_bits_OnesCount p1 = some r) :
    Eng.Spec Tryz.prog 117 [.v (.int .u64 p1)] [] (.v (.int .i64 r)) [] := by
  unfold m_math_bits_OnesCount at h
  refine Eng.Spec.body Tryz.func117 (by kernel_rfl) rfl (by kernel_rfl) ?_
  refine AX.wkpost ?_
  refine AX.seq ?_
  refine AX.reg (its := []) [0] [] (s1 := ⟨[(0, .v (.int .u64 p1))], []⟩) (C := True) (by kernel_rfl) trivial trivial ?_
  refine AX.seq ?_
  refine AX.cond_false (by kernel_rfl) ?_
  refine AX.skip ?_
  refine AX.seq ?_
  obtain ⟨x2, e1, h⟩ := bd_e h
  refine AX.reg (its := [.auto {}, .call 138 [.v (.int .u64 p1)] (handO (rho ([] ++ [])) [] [] ++ []) (callEv [] [] (.v (.int .i64 x2)) [])]) [2] [] (s1 := ⟨[(2, .v (.int .i64 x2))], []⟩) (C := ((([.v (.int .u64 p1)] : List AV) = [.v (.int .u64 p1)]) ∧ True) ∧ True) (by kernel_rfl) ⟨⟨rfl, trivial⟩, trivial⟩ ⟨call_ok (ks := []) (ns := []) (bor := []) (bobjs := []) (s_math_bits_OnesCount64 p1 x2 e1) (.cons (.c1 (.c0 (.same _ (by kernel_rfl) (by kernel_rfl)))) (.nil)) (by kernel_rfl) trivial, trivial⟩ ?_
  refine AX.ret ?_
  refine fin_wk (Wk.forget [2] [] (s' := ⟨[(2, .v (.int .i64 x2))], []⟩) (by kernel_rfl)) ?_
  have hr := Option.some.inj h
  subst hr
  exact ⟨_, Wk.refl _, .inr rfl, ⟨[], by kernel_rfl, trivial, [.v (.int .i64 x2)], by kernel_rfl, by kernel_rfl⟩⟩

theorem s_impl_single (p1 : Int) (r : Bool) (h : m_impl_single p1 = some r) :
    Eng.Spec Tryz.prog 88 [.v (.int .i64 p1)] [] (.v (.bool r)) [] := by
  unfold m_impl_single at h
  refine Eng.Spec.body Tryz.func88 (by kernel_rfl) rfl (by kernel_rfl) ?_
  refine AX.wkpost ?_
  refine AX.seq ?_
  refine AX.reg (its := []) [0] [] (s1 := ⟨[(0, .v (.int .i64 p1))], []⟩) (C := True) (by kernel_rfl) trivial trivial ?_
  refine AX.seq ?_
  obtain ⟨x2, e1, h⟩ := bd_e h
  refine AX.reg (its := [.auto {}, .auto { raw := true }, .call 117 [.v (.int .u64 (IntKind.wrap .u64 (p1)))] (handO (rho ([] ++ [])) [] [] ++ []) (callEv [] [] (.v (.int .i64 x2)) [])]) [2] [] (s1 := ⟨[(2, .v (.bool (decide (x2 = 1))))], []⟩) (C := ((([.v (.int .u64 (IntKind.wrap .u64 (p1)))] : List AV) = [.v (.int .u64 (IntKind.wrap .u64 (p1)))]) ∧ True) ∧ True) (by kernel_rfl) ⟨⟨rfl, trivial⟩, trivial⟩ ⟨call_ok (ks := []) (ns := []) (bor := []) (bobjs := []) (s_math_bits_OnesCount (IntKind.wrap .u64 (p1)) x2 e1) (.cons (.c1 (.c0 (.same _ (by kernel_rfl) (by kernel_rfl)))) (.nil)) (by kernel_rfl) trivial, trivial⟩ ?_
  refine AX.ret ?_
  refine fin_wk (Wk.forget [2] [] (s' := ⟨[(2, .v (.bool (decide (x2 = 1))))], []⟩) (by kernel_rfl)) ?_
  have hr := Option.some.inj h
  subst hr
  exact ⟨_, Wk.refl _, .inr rfl, ⟨[], by kernel_rfl, trivial, [.v (.bool (decide (x2 = 1)))], by kernel_rfl, by kernel_rfl⟩⟩

theorem s_math_bits_Len64 (p1 : Int) (r : Int) (h : m_math_bits_Len64 p1 = some r) :
    Eng.Spec Tryz.prog 148 [.v (.int .u64 p1)] [] (.v (.int .i64 r)) [] := by
  unfold m_math_bits_Len64 at h
  refine Eng.Spec.body Tryz.func148 (by kernel_rfl) rfl (by kernel_rfl) ?_
  refine AX.wkpost ?_
  refine AX.seq ?_
  refine AX.reg (its := []) [0, 2] [] (s1 := ⟨[(0, .v (.int .u64 p1)), (2, .v (.int .i64 0))], []⟩) (C := True) (by kernel_rfl) trivial trivial ?_
  refine AX.seq ?_
  refine AX.seq ?_
  refine AX.reg (its := []) [0, 2, 4] [] (s1 := ⟨[(0, .v (.int .u64 p1)), (2, .v (.int .i64 0)), (4, .v (.bool (decide (4294967296 ≤ p1))))], []⟩) (C := True) (by kernel_rfl) trivial trivial ?_
  rcases bool_cases (decide (4294967296 ≤ p1)) with b1 | b1
  · replace h := cd_t b1 h
    refine AX.condT (decide (4294967296 ≤ p1)) (by kernel_rfl) b1 ?_
    refine AX.seq ?_
    obtain ⟨g2, h⟩ := gd_e h
    refine AX.reg (its := []) [0] [] (s1 := ⟨[(0, .v (.int .u64 (p1 / 2 ^ (32 : Int).toNat)))], []⟩) (C := (0 ≤ (32 : Int) ∧ (32 : Int) ≤ (IntKind.bits .u64 : Int)) ∧ True) (by kernel_rfl) ⟨g2, trivial⟩ trivial ?_
    refine AX.reg (its := []) [0, 2] [] (s1 := ⟨[(0, .v (.int .u64 (p1 / 2 ^ (32 : Int).toNat))), (2, .v (.int .i64 32))], []⟩) (C := True) (by kernel_rfl) trivial trivial ?_
    refine AX.seq ?_
    refine AX.seq ?_
    refine AX.reg (its := []) [0, 2, 8] [] (s1 := ⟨[(0, .v (.int .u64 (p1 / 2 ^ (32 : Int).toNat))), (2, .v (.int .i64 32)), (8, .v (.bool (decide (65536 ≤ (p1 / 2 ^ (32 : Int).toNat)))))], []⟩) (C := True) (by kernel_rfl) trivial trivial ?_
    rcases bool_cases (decide (65536 ≤ (p1 / 2 ^ (32 : Int).toNat))) with b3 | b3
    · replace h := cd_t b3 h
      refine AX.condT (decide (65536 ≤ (p1 / 2 ^ (32 : Int).toNat))) (by kernel_rfl) b3 ?_
      refine AX.seq ?_
      obtain ⟨g4, h⟩ := gd_e h
      refine AX.reg (its := []) [0, 2] [] (s1 := ⟨[(0, .v (.int .u64 ((p1 / 2 ^ (32 : Int).toNat) / 2 ^ (16 : Int).toNat))), (2, .v (.int .i64 32))], []⟩) (C := (0 ≤ (16 : Int) ∧ (16 : Int) ≤ (IntKind.bits .u64 : Int)) ∧ True) (by kernel_rfl) ⟨g4, trivial⟩ trivial ?_
      refine AX.reg (its := [.auto {}, .auto { raw := true }]) [0, 2] [] (s1 := ⟨[(0, .v (.int .u64 ((p1 / 2 ^ (32 : Int).toNat) / 2 ^ (16 : Int).toNat))), (2, .v (.int .i64 (IntKind.wrap .i64 (32 + 16))))], []⟩) (C := True) (by kernel_rfl) trivial trivial ?_
      refine AX.seq ?_
      refine AX.seq ?_
      obtain ⟨v2, q5, h⟩ := nm_e h
      refine AX.reg (its := [.auto {}, .auto { y := some (.v (.bool v2)) }]) [0, 2, 14] [] (s1 := ⟨[(0, .v (.int .u64 ((p1 / 2 ^ (32 : Int).toNat) / 2 ^ (16 : Int).toNat))), (2, .v (.int .i64 (IntKind.wrap .i64 (32 + 16)))), (14, .v (.bool v2))], []⟩) (C := ((True) ∧ ((.v (.bool (decide (256 ≤ ((p1 / 2 ^ (32 : Int).toNat) / 2 ^ (16 : Int).toNat)))) : AV) = (.v (.bool v2) : AV))) ∧ True) (by kernel_rfl) ⟨⟨trivial, (congrArg (fun z => AV.v (.bool z)) q5)⟩, trivial⟩ trivial ?_
      rcases bool_cases (v2) with b6 | b6
      · replace h := cd_t b6 h
        refine AX.condT (v2) (by kernel_rfl) b6 ?_
        refine AX.seq ?_
        obtain ⟨g7, h⟩ := gd_e h
        obtain ⟨v3, q8, h⟩ := nm_e h
        refine AX.reg (its := [.auto {}, .auto { y := some (.v (.int .u64 v3)) }]) [0, 2] [] (s1 := ⟨[(0, .v (.int .u64 v3)), (2, .v (.int .i64 (IntKind.wrap .i64 (32 + 16))))], []⟩) (C := ((0 ≤ (8 : Int) ∧ (8 : Int) ≤ (IntKind.bits .u64 : Int)) ∧ ((.v (.int .u64 (((p1 / 2 ^ (32 : Int).toNat) / 2 ^ (16 : Int).toNat) / 2 ^ (8 : Int).toNat)) : AV) = (.v (.int .u64 v3) : AV))) ∧ True) (by kernel_rfl) ⟨⟨g7, (congrArg (fun z => AV.v (.int .u64 z)) q8)⟩, trivial⟩ trivial ?_
        refine AX.reg (its := [.auto {}, .auto { raw := true }]) [0, 2] [] (s1 := ⟨[(0, .v (.int .u64 v3)), (2, .v (.int .i64 (IntKind.wrap .i64 ((IntKind.wrap .i64 (32 + 16)) + 8))))], []⟩) (C := True) (by kernel_rfl) trivial trivial ?_
        refine AX.seq ?_
        obtain ⟨g9, h⟩ := gd_e h
        obtain ⟨v4, q10, h⟩ := nm_e h
        obtain ⟨v5, q11, h⟩ := nm_e h
        refine AX.reg (its := [.auto {}, .auto {}, .auto { raw := true }, .auto {}, .auto { y := some (.v (.int .i64 v4)), raw := true }, .auto { y := some (.v (.int .i64 v5)), raw := true }]) [2] [] (s1 := ⟨[(2, .v (.int .i64 v5))], []⟩) (C := (0 ≤ (IntKind.wrap .u8 (v3)) ∧ (IntKind.wrap .u8 (v3)) < (lstr_c9535661.size : Int)) ∧ ((True) ∧ ((.v (.int .i64 (IntKind.wrap .i64 (byteAt lstr_c9535661 (IntKind.wrap .u8 (v3)).toNat))) : AV) = (.v (.int .i64 v4) : AV))) ∧ ((True) ∧ ((.v (.int .i64 (IntKind.wrap .i64 ((IntKind.wrap .i64 ((IntKind.wrap .i64 (32 + 16)) + 8)) + v4))) : AV) = (.v (.int .i64 v5) : AV))) ∧ True) (by kernel_rfl) ⟨g9, ⟨⟨trivial, (congrArg (fun z => AV.v (.int .i64 z)) q10)⟩, ⟨⟨trivial, (congrArg (fun z => AV.v (.int .i64 z)) q11)⟩, trivial⟩⟩⟩ trivial ?_
        refine AX.ret ?_
        refine fin_wk (Wk.forget [2] [] (s' := ⟨[(2, .v (.int .i64 v5))], []⟩) (by kernel_rfl)) ?_
        have hr := Option.some.inj h
        subst hr
        exact ⟨_, Wk.refl _, .inr rfl, ⟨[], by kernel_rfl, trivial, [.v (.int .i64 v5)], by kernel_rfl, by kernel_rfl⟩⟩
      · replace h := cd_f b6 h
        refine AX.condF (v2) (by kernel_rfl) b6 ?_
        refine AX.skip ?_
        refine AX.seq ?_
        obtain ⟨v6, q12, h⟩ := nm_e h
        obtain ⟨g13, h⟩ := gd_e h
        obtain ⟨v7, q14, h⟩ := nm_e h
        refine AX.reg (its := [.auto {}, .auto {}, .auto { y := some (.v (.int .u8 v6)), raw := true }, .auto {}, .auto { raw := true }, .auto { y := some (.v (.int .i64 v7)), raw := true }]) [2] [] (s1 := ⟨[(2, .v (.int .i64 v7))], []⟩) (C := ((True) ∧ ((.v (.int .u8 (IntKind.wrap .u8 ((p1 / 2 ^ (32 : Int).toNat) / 2 ^ (16 : Int).toNat))) : AV) = (.v (.int .u8 v6) : AV))) ∧ (0 ≤ v6 ∧ v6 < (lstr_c9535661.size : Int)) ∧ ((True) ∧ ((.v (.int .i64 (IntKind.wrap .i64 ((IntKind.wrap .i64 (32 + 16)) + (IntKind.wrap .i64 (byteAt lstr_c9535661 v6.toNat))))) : AV) = (.v (.int .i64 v7) : AV))) ∧ True) (by kernel_rfl) ⟨⟨trivial, (congrArg (fun z => AV.v (.int .u8 z)) q12)⟩, ⟨g13, ⟨⟨trivial, (congrArg (fun z => AV.v (.int .i64 z)) q14)⟩, trivial⟩⟩⟩ trivial ?_
        refine AX.ret ?_
        refine fin_wk (Wk.forget [2] [] (s' := ⟨[(2, .v (.int .i64 v7))], []⟩) (by kernel_rfl)) ?_
        have hr := Option.some.inj h
        subst hr
        exact ⟨_, Wk.refl _, .inr rfl, ⟨[], by kernel_rfl, trivial, [.v (.int .i64 v7)], by kernel_rfl, by kernel_rfl⟩⟩
    · replace h := cd_f b3 h
      refine AX.condF (decide (65536 ≤ (p1 / 2 ^ (32 : Int).toNat))) (by kernel_rfl) b3 ?_
      refine AX.skip ?_
      refine AX.seq ?_
      refine AX.seq ?_
      refine AX.reg (its := []) [0, 2, 14] [] (s1 := ⟨[(0, .v (.int .u64 (p1 / 2 ^ (32 : Int).toNat))), (2, .v (.int .i64 32)), (14, .v (.bool (decide (256 ≤ (p1 / 2 ^ (32 : Int).toNat)))))], []⟩) (C := True) (by kernel_rfl) trivial trivial ?_
      rcases bool_cases (decide (256 ≤ (p1 / 2 ^ (32 : Int).toNat))) with b15 | b15
      · replace h := cd_t b15 h
        refine AX.condT (decide (256 ≤ (p1 / 2 ^ (32 : Int).toNat))) (by kernel_rfl) b15 ?_
        refine AX.seq ?_
        obtain ⟨g16, h⟩ := gd_e h
        refine AX.reg (its := []) [0, 2] [] (s1 := ⟨[(0, .v (.int .u64 ((p1 / 2 ^ (32 : Int).toNat) / 2 ^ (8 : Int).toNat))), (2, .v (.int .i64 32))], []⟩) (C := (0 ≤ (8 : Int) ∧ (8 : Int) ≤ (IntKind.bits .u64 : Int)) ∧ True) (by kernel_rfl) ⟨g16, trivial⟩ trivial ?_
        refine AX.reg (its := [.auto {}, .auto { raw := true }]) [0, 2] [] (s1 := ⟨[(0, .v (.int .u64 ((p1 / 2 ^ (32 : Int).toNat) / 2 ^ (8 : Int).toNat))), (2, .v (.int .i64 (IntKind.wrap .i64 (32 + 8))))], []⟩) (C := True) (by kernel_rfl) trivial trivial ?_
        refine AX.seq ?_
        obtain ⟨v8, q17, h⟩ := nm_e h
        obtain ⟨g18, h⟩ := gd_e h
        obtain ⟨v9, q19, h⟩ := nm_e h
        refine AX.reg (its := [.auto {}, .auto {}, .auto { y := some (.v (.int .u8 v8)), raw := true }, .auto {}, .auto { raw := true }, .auto { y := some (.v (.int .i64 v9)), raw := true }]) [2] [] (s1 := ⟨[(2, .v (.int .i64 v9))], []⟩) (C := ((True) ∧ ((.v (.int .u8 (IntKind.wrap .u8 ((p1 / 2 ^ (32 : Int).toNat) / 2 ^ (8 : Int).toNat))) : AV) = (.v (.int .u8 v8) : AV))) ∧ (0 ≤ v8 ∧ v8 < (lstr_c9535661.size : Int)) ∧ ((True) ∧ ((.v (.int .i64 (IntKind.wrap .i64 ((IntKind.wrap .i64 (32 + 8)) + (IntKind.wrap .i64 (byteAt lstr_c9535661 v8.toNat))))) : AV) = (.v (.int .i64 v9) : AV))) ∧ True) (by kernel_rfl) ⟨⟨trivial, (congrArg (fun z => AV.v (.int .u8 z)) q17)⟩, ⟨g18, ⟨⟨trivial, (congrArg (fun z => AV.v (.int .i64 z)) q19)⟩, trivial⟩⟩⟩ trivial ?_
        refine AX.ret ?_
        refine fin_wk (Wk.forget [2] [] (s' := ⟨[(2, .v (.int .i64 v9))], []⟩) (by kernel_rfl)) ?_
        have hr := Option.some.inj h
        subst hr
        exact ⟨_, Wk.refl _, .inr rfl, ⟨[], by kernel_rfl, trivial, [.v (.int .i64 v9)], by kernel_rfl, by kernel_rfl⟩⟩
      · replace h := cd_f b15 h
        refine AX.condF (decide (256 ≤ (p1 / 2 ^ (32 : Int).toNat))) (by kernel_rfl) b15 ?_
        refine AX.skip ?_
        refine AX.seq ?_
        obtain ⟨g20, h⟩ := gd_e h
        obtain ⟨v10, q21, h⟩ := nm_e h
        refine AX.reg (its := [.auto {}, .auto {}, .auto { raw := true }, .auto { y := some (.v (.int .u8 v10)) }, .auto { raw := true }, .auto { raw := true }]) [2] [] (s1 := ⟨[(2, .v (.int .i64 (IntKind.wrap .i64 (32 + (IntKind.wrap .i64 (v10))))))], []⟩) (C := ((0 ≤ (IntKind.wrap .u8 (p1 / 2 ^ (32 : Int).toNat)) ∧ (IntKind.wrap .u8 (p1 / 2 ^ (32 : Int).toNat)) < (lstr_c9535661.size : Int)) ∧ ((.v (.int .u8 (byteAt lstr_c9535661 (IntKind.wrap .u8 (p1 / 2 ^ (32 : Int).toNat)).toNat)) : AV) = (.v (.int .u8 v10) : AV))) ∧ True) (by kernel_rfl) ⟨⟨g20, (congrArg (fun z => AV.v (.int .u8 z)) q21)⟩, trivial⟩ trivial ?_
        refine AX.ret ?_
        refine fin_wk (Wk.forget [2] [] (s' := ⟨[(2, .v (.int .i64 (IntKind.wrap .i64 (32 + (IntKind.wrap .i64 (v10))))))], []⟩) (by kernel_rfl)) ?_
        have hr := Option.some.inj h
        subst hr
        exact ⟨_, Wk.refl _, .inr rfl, ⟨[], by kernel_rfl, trivial, [.v (.int .i64 (IntKind.wrap .i64 (32 + (IntKind.wrap .i64 (v10)))))], by kernel_rfl, by kernel_rfl⟩⟩
  · replace h := cd_f b1 h
    refine AX.condF (decide (4294967296 ≤ p1)) (by kernel_rfl) b1 ?_
    refine AX.skip ?_
    refine AX.seq ?_
    refine AX.seq ?_
    refine AX.reg (its := []) [0, 2, 8] [] (s1 := ⟨[(0, .v (.int .u64 p1)), (2, .v (.int .i64 0)), (8, .v (.bool (decide (65536 ≤ p1))))], []⟩) (C := True) (by kernel_rfl) trivial trivial ?_
    rcases bool_cases (decide (65536 ≤ p1)) with b22 | b22
    · replace h := cd_t b22 h
      refine AX.condT (decide (65536 ≤ p1)) (by kernel_rfl) b22 ?_
      refine AX.seq ?_
      obtain ⟨g23, h⟩ := gd_e h
      refine AX.reg (its := []) [0, 2] [] (s1 := ⟨[(0, .v (.int .u64 (p1 / 2 ^ (16 : Int).toNat))), (2, .v (.int .i64 0))], []⟩) (C := (0 ≤ (16 : Int) ∧ (16 : Int) ≤ (IntKind.bits .u64 : Int)) ∧ True) (by kernel_rfl) ⟨g23, trivial⟩ trivial ?_
      refine AX.reg (its := [.auto {}, .auto { raw := true }]) [0, 2] [] (s1 := ⟨[(0, .v (.int .u64 (p1 / 2 ^ (16 : Int).toNat))), (2, .v (.int .i64 (IntKind.wrap .i64 (0 + 16))))], []⟩) (C := True) (by kernel_rfl) trivial trivial ?_
      refine AX.seq ?_
      refine AX.seq ?_
      refine AX.reg (its := []) [0, 2, 14] [] (s1 := ⟨[(0, .v (.int .u64 (p1 / 2 ^ (16 : Int).toNat))), (2, .v (.int .i64 (IntKind.wrap .i64 (0 + 16)))), (14, .v (.bool (decide (256 ≤ (p1 / 2 ^ (16 : Int).toNat)))))], []⟩) (C := True) (by kernel_rfl) trivial trivial ?_
      rcases bool_cases (decide (256 ≤ (p1 / 2 ^ (16 : Int).toNat))) with b24 | b24
      · replace h := cd_t b24 h
        refine AX.condT (decide (256 ≤ (p1 / 2 ^ (16 : Int).toNat))) (by kernel_rfl) b24 ?_
        refine AX.seq ?_
        obtain ⟨g25, h⟩ := gd_e h
        refine AX.reg (its := []) [0, 2] [] (s1 := ⟨[(0, .v (.int .u64 ((p1 / 2 ^ (16 : Int).toNat) / 2 ^ (8 : Int).toNat))), (2, .v (.int .i64 (IntKind.wrap .i64 (0 + 16))))], []⟩) (C := (0 ≤ (8 : Int) ∧ (8 : Int) ≤ (IntKind.bits .u64 : Int)) ∧ True) (by kernel_rfl) ⟨g25, trivial⟩ trivial ?_
        refine AX.reg (its := [.auto {}, .auto { raw := true }]) [0, 2] [] (s1 := ⟨[(0, .v (.int .u64 ((p1 / 2 ^ (16 : Int).toNat) / 2 ^ (8 : Int).toNat))), (2, .v (.int .i64 (IntKind.wrap .i64 ((IntKind.wrap .i64 (0 + 16)) + 8))))], []⟩) (C := True) (by kernel_rfl) trivial trivial ?_
        refine AX.seq ?_
        obtain ⟨v11, q26, h⟩ := nm_e h
        obtain ⟨g27, h⟩ := gd_e h
        obtain ⟨v12, q28, h⟩ := nm_e h
        refine AX.reg (its := [.auto {}, .auto {}, .auto { y := some (.v (.int .u8 v11)), raw := true }, .auto {}, .auto { raw := true }, .auto { y := some (.v (.int .i64 v12)), raw := true }]) [2] [] (s1 := ⟨[(2, .v (.int .i64 v12))], []⟩) (C := ((True) ∧ ((.v (.int .u8 (IntKind.wrap .u8 ((p1 / 2 ^ (16 : Int).toNat) / 2 ^ (8 : Int).toNat))) : AV) = (.v (.int .u8 v11) : AV))) ∧ (0 ≤ v11 ∧ v11 < (lstr_c9535661.size : Int)) ∧ ((True) ∧ ((.v (.int .i64 (IntKind.wrap .i64 ((IntKind.wrap .i64 ((IntKind.wrap .i64 (0 + 16)) + 8)) + (IntKind.wrap .i64 (byteAt lstr_c9535661 v11.toNat))))) : AV) = (.v (.int .i64 v12) : AV))) ∧ True) (by kernel_rfl) ⟨⟨trivial, (congrArg (fun z => AV.v (.int .u8 z)) q26)⟩, ⟨g27, ⟨⟨trivial, (congrArg (fun z => AV.v (.int .i64 z)) q28)⟩, trivial⟩⟩⟩ trivial ?_
        refine AX.ret ?_
        refine fin_wk (Wk.forget [2] [] (s' := ⟨[(2, .v (.int .i64 v12))], []⟩) (by kernel_rfl)) ?_
        have hr := Option.some.inj h
        subst hr
        exact ⟨_, Wk.refl _, .inr rfl, ⟨[], by kernel_rfl, trivial, [.v (.int .i64 v12)], by kernel_rfl, by kernel_rfl⟩⟩
      · replace h := cd_f b24 h
        refine AX.condF (decide (256 ≤ (p1 / 2 ^ (16 : Int).toNat))) (by kernel_rfl) b24 ?_
        refine AX.skip ?_
        refine AX.seq ?_
        obtain ⟨g29, h⟩ := gd_e h
        obtain ⟨v13, q30, h⟩ := nm_e h
        obtain ⟨v14, q31, h⟩ := nm_e h
        refine AX.reg (its := [.auto {}, .auto {}, .auto { raw := true }, .auto { y := some (.v (.int .u8 v13)) }, .auto { raw := true }, .auto { y := some (.v (.int .i64 v14)), raw := true }]) [2] [] (s1 := ⟨[(2, .v (.int .i64 v14))], []⟩) (C := ((0 ≤ (IntKind.wrap .u8 (p1 / 2 ^ (16 : Int).toNat)) ∧ (IntKind.wrap .u8 (p1 / 2 ^ (16 : Int).toNat)) < (lstr_c9535661.size : Int)) ∧ ((.v (.int .u8 (byteAt lstr_c9535661 (IntKind.wrap .u8 (p1 / 2 ^ (16 : Int).toNat)).toNat)) : AV) = (.v (.int .u8 v13) : AV))) ∧ ((True) ∧ ((.v (.int .i64 (IntKind.wrap .i64 ((IntKind.wrap .i64 (0 + 16)) + (IntKind.wrap .i64 (v13))))) : AV) = (.v (.int .i64 v14) : AV))) ∧ True) (by kernel_rfl) ⟨⟨g29, (congrArg (fun z => AV.v (.int .u8 z)) q30)⟩, ⟨⟨trivial, (congrArg (fun z => AV.v (.int .i64 z)) q31)⟩, trivial⟩⟩ trivial ?_
        refine AX.ret ?_
        refine fin_wk (Wk.forget [2] [] (s' := ⟨[(2, .v (.int .i64 v14))], []⟩) (by kernel_rfl)) ?_
        have hr := Option.some.inj h
        subst hr
        exact ⟨_, Wk.refl _, .inr rfl, ⟨[], by kernel_rfl, trivial, [.v (.int .i64 v14)], by kernel_rfl, by kernel_rfl⟩⟩
    · replace h := cd_f b22 h
      refine AX.condF (decide (65536 ≤ p1)) (by kernel_rfl) b22 ?_
      refine AX.skip ?_
      refine AX.seq ?_
      refine AX.seq ?_
      refine AX.reg (its := []) [0, 2, 14] [] (s1 := ⟨[(0, .v (.int .u64 p1)), (2, .v (.int .i64 0)), (14, .v (.bool (decide (256 ≤ p1))))], []⟩) (C := True) (by kernel_rfl) trivial trivial ?_
      rcases bool_cases (decide (256 ≤ p1)) with b32 | b32
      · replace h := cd_t b32 h
        refine AX.condT (decide (256 ≤ p1)) (by kernel_rfl) b32 ?_
        refine AX.seq ?_
        obtain ⟨g33, h⟩ := gd_e h
        refine AX.reg (its := []) [0, 2] [] (s1 := ⟨[(0, .v (.int .u64 (p1 / 2 ^ (8 : Int).toNat))), (2, .v (.int .i64 0))], []⟩) (C := (0 ≤ (8 : Int) ∧ (8 : Int) ≤ (IntKind.bits .u64 : Int)) ∧ True) (by kernel_rfl) ⟨g33, trivial⟩ trivial ?_
        refine AX.reg (its := [.auto {}, .auto { raw := true }]) [0, 2] [] (s1 := ⟨[(0, .v (.int .u64 (p1 / 2 ^ (8 : Int).toNat))), (2, .v (.int .i64 (IntKind.wrap .i64 (0 + 8))))], []⟩) (C := True) (by kernel_rfl) trivial trivial ?_
        refine AX.seq ?_
        obtain ⟨g34, h⟩ := gd_e h
        obtain ⟨v15, q35, h⟩ := nm_e h
        obtain ⟨v16, q36, h⟩ := nm_e h
        refine AX.reg (its := [.auto {}, .auto {}, .auto { raw := true }, .auto { y := some (.v (.int .u8 v15)) }, .auto { raw := true }, .auto { y := some (.v (.int .i64 v16)), raw := true }]) [2] [] (s1 := ⟨[(2, .v (.int .i64 v16))], []⟩) (C := ((0 ≤ (IntKind.wrap .u8 (p1 / 2 ^ (8 : Int).toNat)) ∧ (IntKind.wrap .u8 (p1 / 2 ^ (8 : Int).toNat)) < (lstr_c9535661.size : Int)) ∧ ((.v (.int .u8 (byteAt lstr_c9535661 (IntKind.wrap .u8 (p1 / 2 ^ (8 : Int).toNat)).toNat)) : AV) = (.v (.int .u8 v15) : AV))) ∧ ((True) ∧ ((.v (.int .i64 (IntKind.wrap .i64 ((IntKind.wrap .i64 (0 + 8)) + (IntKind.wrap .i64 (v15))))) : AV) = (.v (.int .i64 v16) : AV))) ∧ True) (by kernel_rfl) ⟨⟨g34, (congrArg (fun z => AV.v (.int .u8 z)) q35)⟩, ⟨⟨trivial, (congrArg (fun z => AV.v (.int .i64 z)) q36)⟩, trivial⟩⟩ trivial ?_
        refine AX.ret ?_
        refine fin_wk (Wk.forget [2] [] (s' := ⟨[(2, .v (.int .i64 v16))], []⟩) (by kernel_rfl)) ?_
        have hr := Option.some.inj h
        subst hr
        exact ⟨_, Wk.refl _, .inr rfl, ⟨[], by kernel_rfl, trivial, [.v (.int .i64 v16)], by kernel_rfl, by kernel_rfl⟩⟩
      · replace h := cd_f b32 h
        refine AX.condF (decide (256 ≤ p1)) (by kernel_rfl) b32 ?_
        refine AX.skip ?_
        refine AX.seq ?_
        obtain ⟨g37, h⟩ := gd_e h
        obtain ⟨v17, q38, h⟩ := nm_e h
        refine AX.reg (its := [.auto {}, .auto {}, .auto { raw := true }, .auto {}, .auto { y := some (.v (.int .i64 v17)), raw := true }, .auto { raw := true }]) [2] [] (s1 := ⟨[(2, .v (.int .i64 (IntKind.wrap .i64 (0 + v17))))], []⟩) (C := (0 ≤ (IntKind.wrap .u8 (p1)) ∧ (IntKind.wrap .u8 (p1)) < (lstr_c9535661.size : Int)) ∧ ((True) ∧ ((.v (.int .i64 (IntKind.wrap .i64 (byteAt lstr_c9535661 (IntKind.wrap .u8 (p1)).toNat))) : AV) = (.v (.int .i64 v17) : AV))) ∧ True) (by kernel_rfl) ⟨g37, ⟨⟨trivial, (congrArg (fun z => AV.v (.int .i64 z)) q38)⟩, trivial⟩⟩ trivial ?_
        refine AX.ret ?_
        refine fin_wk (Wk.forget [2] [] (s' := ⟨[(2, .v (.int .i64 (IntKind.wrap .i64 (0 + v17))))], []⟩) (by kernel_rfl)) ?_
        have hr := Option.some.inj h
        subst hr
        exact ⟨_, Wk.refl _, .inr rfl, ⟨[], by kernel_rfl, trivial, [.v (.int .i64 (IntKind.wrap .i64 (0 + v17)))], by kernel_rfl, by kernel_rfl⟩⟩

theorem s_math_bits_Len (p1 : Int) (r : Int) (h : m_math_bits_Len p1 = some r) :
    Eng.Spec Tryz.prog 119 [.v (.int .u64 p1)] [] (.v (.int .i64 r)) [] := by
  unfold m_math_bits_Len at h
  refine Eng.Spec.body Tryz.func119 (by kernel_rfl) rfl (by kernel_rfl) ?_
  refine AX.wkpost ?_
  refine AX.seq ?_
  refine AX.reg (its := []) [0] [] (s1 := ⟨[(0, .v (.int .u64 p1))], []⟩) (C := True) (by kernel_rfl) trivial trivial ?_
  refine AX.seq ?_
  refine AX.cond_false (by kernel_rfl) ?_
  refine AX.skip ?_
  refine AX.seq ?_
  obtain ⟨x2, e1, h⟩ := bd_e h
  refine AX.reg (its := [.auto {}, .call 148 [.v (.int .u64 p1)] (handO (rho ([] ++ [])) [] [] ++ []) (callEv [] [] (.v (.int .i64 x2)) [])]) [2] [] (s1 := ⟨[(2, .v (.int .i64 x2))], []⟩) (C := ((([.v (.int .u64 p1)] : List AV) = [.v (.int .u64 p1)]) ∧ True) ∧ True) (by kernel_rfl) ⟨⟨rfl, trivial⟩, trivial⟩ ⟨call_ok (ks := []) (ns := []) (bor := []) (bobjs := []) (s_math_bits_Len64 p1 x2 e1) (.cons (.c1 (.c0 (.same _ (by kernel_rfl) (by kernel_rfl)))) (.nil)) (by kernel_rfl) trivial, trivial⟩ ?_
  refine AX.ret ?_
  refine fin_wk (Wk.forget [2] [] (s' := ⟨[(2, .v (.int .i64 x2))], []⟩) (by kernel_rfl)) ?_
  have hr := Option.some.inj h
  subst hr
  exact ⟨_, Wk.refl _, .inr rfl, ⟨[], by kernel_rfl, trivial, [.v (.int .i64 x2)], by kernel_rfl, by kernel_rfl⟩⟩

theorem s_cmp_isNaN (p1 : Int) (r : Unit) (h : m_cmp_isNaN p1 = some r) :
    Eng.Spec Tryz.prog 120 [.v (.int .i64 p1)] [] (.v (.bool (!decide (p1 = p1)))) [] := by
  unfold m_cmp_isNaN at h
  refine Eng.Spec.body Tryz.func120 (by kernel_rfl) rfl (by kernel_rfl) ?_
  refine AX.wkpost ?_
  refine AX.seq ?_
  refine AX.reg (its := []) [0] [] (s1 := ⟨[(0, .v (.int .i64 p1))], []⟩) (C := True) (by kernel_rfl) trivial trivial ?_
  refine AX.seq ?_
  refine AX.reg (its := []) [2] [] (s1 := ⟨[(2, .v (.bool (!decide (p1 = p1))))], []⟩) (C := True) (by kernel_rfl) trivial trivial ?_
  refine AX.ret ?_
  refine fin_wk (Wk.forget [2] [] (s' := ⟨[(2, .v (.bool (!decide (p1 = p1))))], []⟩) (by kernel_rfl)) ?_
  have hr := Option.some.inj h
  subst hr
  exact ⟨_, Wk.refl _, .inr rfl, ⟨[], by kernel_rfl, trivial, [.v (.bool (!decide (p1 = p1)))], by kernel_rfl, by kernel_rfl⟩⟩

theorem s_cmp_Compare (p1 : Int) (p2 : Int) (r : Int) (h : m_cmp_Compare p1 p2 = some r) :
    Eng.Spec Tryz.prog 91 [.v (.int .i64 p1), .v (.int .i64 p2)] [] (.v (.int .i64 r)) [] := by
  unfold m_cmp_Compare at h
  refine Eng.Spec.body Tryz.func91 (by kernel_rfl) rfl (by kernel_rfl) ?_
  refine AX.wkpost ?_
  refine AX.seq ?_
  refine AX.reg (its := []) [0, 1] [] (s1 := ⟨[(0, .v (.int .i64 p1)), (1, .v (.int .i64 p2))], []⟩) (C := True) (by kernel_rfl) trivial trivial ?_
  refine AX.seq ?_
  obtain ⟨x3, e1, h⟩ := bd_e h
  refine AX.reg (its := [.auto {}, .call 120 [.v (.int .i64 p1)] (handO (rho ([] ++ [])) [] [] ++ []) (callEv [] [] (.v (.bool (!decide (p1 = p1)))) [])]) [0, 1, 5] [] (s1 := ⟨[(0, .v (.int .i64 p1)), (1, .v (.int .i64 p2)), (5, .v (.bool (!decide (p1 = p1))))], []⟩) (C := ((([.v (.int .i64 p1)] : List AV) = [.v (.int .i64 p1)]) ∧ True) ∧ True) (by kernel_rfl) ⟨⟨rfl, trivial⟩, trivial⟩ ⟨call_ok (ks := []) (ns := []) (bor := []) (bobjs := []) (s_cmp_isNaN p1 x3 e1) (.cons (.c1 (.c0 (.same _ (by kernel_rfl) (by kernel_rfl)))) (.nil)) (by kernel_rfl) trivial, trivial⟩ ?_
  refine AX.seq ?_
  obtain ⟨x4, e2, h⟩ := bd_e h
  refine AX.reg (its := [.auto {}, .call 120 [.v (.int .i64 p2)] (handO (rho ([] ++ [])) [] [] ++ []) (callEv [] [] (.v (.bool (!decide (p2 = p2)))) [])]) [0, 1, 5, 6] [] (s1 := ⟨[(0, .v (.int .i64 p1)), (1, .v (.int .i64 p2)), (5, .v (.bool (!decide (p1 = p1)))), (6, .v (.bool (!decide (p2 = p2))))], []⟩) (C := ((([.v (.int .i64 p2)] : List AV) = [.v (.int .i64 p2)]) ∧ True) ∧ True) (by kernel_rfl) ⟨⟨rfl, trivial⟩, trivial⟩ ⟨call_ok (ks := []) (ns := []) (bor := []) (bobjs := []) (s_cmp_isNaN p2 x4 e2) (.cons (.c1 (.c0 (.same _ (by kernel_rfl) (by kernel_rfl)))) (.nil)) (by kernel_rfl) trivial, trivial⟩ ?_
  refine AX.seq ?_
  refine AX.seq ?_
  refine AX.reg (its := []) [0, 1, 6, 11] [] (s1 := ⟨[(0, .v (.int .i64 p1)), (1, .v (.int .i64 p2)), (6, .v (.bool (!decide (p2 = p2)))), (11, .v (.bool (!decide (p1 = p1))))], []⟩) (C := True) (by kernel_rfl) trivial trivial ?_
  rcases bool_cases ((!decide (p1 = p1))) with b3 | b3
  · replace h := cd_t b3 h
    refine AX.condT ((!decide (p1 = p1))) (by kernel_rfl) b3 ?_
    refine AX.seq ?_
    refine AX.seq ?_
    refine AX.reg (its := []) [12] [] (s1 := ⟨[(12, .v (.bool (!decide (p2 = p2))))], []⟩) (C := True) (by kernel_rfl) trivial trivial ?_
    rcases bool_cases ((!decide (p2 = p2))) with b4 | b4
    · replace h := cd_t b4 h
      refine AX.condT ((!decide (p2 = p2))) (by kernel_rfl) b4 ?_
      refine AX.seq ?_
      refine AX.reg (its := []) [4] [] (s1 := ⟨[(4, .v (.int .i64 0))], []⟩) (C := True) (by kernel_rfl) trivial trivial ?_
      refine AX.ret ?_
      refine fin_wk (Wk.forget [4] [] (s' := ⟨[(4, .v (.int .i64 0))], []⟩) (by kernel_rfl)) ?_
      have hr := Option.some.inj h
      subst hr
      exact ⟨_, Wk.refl _, .inr rfl, ⟨[], by kernel_rfl, trivial, [.v (.int .i64 0)], by kernel_rfl, by kernel_rfl⟩⟩
    · replace h := cd_f b4 h
      refine AX.condF ((!decide (p2 = p2))) (by kernel_rfl) b4 ?_
      refine AX.skip ?_
      refine AX.seq ?_
      refine AX.reg (its := []) [4] [] (s1 := ⟨[(4, .v (.int .i64 (-1)))], []⟩) (C := True) (by kernel_rfl) trivial trivial ?_
      refine AX.ret ?_
      refine fin_wk (Wk.forget [4] [] (s' := ⟨[(4, .v (.int .i64 (-1)))], []⟩) (by kernel_rfl)) ?_
      have hr := Option.some.inj h
      subst hr
      exact ⟨_, Wk.refl _, .inr rfl, ⟨[], by kernel_rfl, trivial, [.v (.int .i64 (-1))], by kernel_rfl, by kernel_rfl⟩⟩
  · replace h := cd_f b3 h
    refine AX.condF ((!decide (p1 = p1))) (by kernel_rfl) b3 ?_
    refine AX.skip ?_
    refine AX.seq ?_
    refine AX.seq ?_
    refine AX.reg (its := []) [0, 1, 13] [] (s1 := ⟨[(0, .v (.int .i64 p1)), (1, .v (.int .i64 p2)), (13, .v (.bool (!decide (p2 = p2))))], []⟩) (C := True) (by kernel_rfl) trivial trivial ?_
    rcases bool_cases ((!decide (p2 = p2))) with b5 | b5
    · replace h := cd_t b5 h
      refine AX.condT ((!decide (p2 = p2))) (by kernel_rfl) b5 ?_
      refine AX.seq ?_
      refine AX.reg (its := []) [4] [] (s1 := ⟨[(4, .v (.int .i64 1))], []⟩) (C := True) (by kernel_rfl) trivial trivial ?_
      refine AX.ret ?_
      refine fin_wk (Wk.forget [4] [] (s' := ⟨[(4, .v (.int .i64 1))], []⟩) (by kernel_rfl)) ?_
      have hr := Option.some.inj h
      subst hr
      exact ⟨_, Wk.refl _, .inr rfl, ⟨[], by kernel_rfl, trivial, [.v (.int .i64 1)], by kernel_rfl, by kernel_rfl⟩⟩
    · replace h := cd_f b5 h
      refine AX.condF ((!decide (p2 = p2))) (by kernel_rfl) b5 ?_
      refine AX.skip ?_
      refine AX.seq ?_
      refine AX.seq ?_
      refine AX.reg (its := []) [0, 1, 16] [] (s1 := ⟨[(0, .v (.int .i64 p1)), (1, .v (.int .i64 p2)), (16, .v (.bool (decide (p1 < p2))))], []⟩) (C := True) (by kernel_rfl) trivial trivial ?_
      rcases bool_cases (decide (p1 < p2)) with b6 | b6
      · replace h := cd_t b6 h
        refine AX.condT (decide (p1 < p2)) (by kernel_rfl) b6 ?_
        refine AX.seq ?_
        refine AX.reg (its := []) [4] [] (s1 := ⟨[(4, .v (.int .i64 (-1)))], []⟩) (C := True) (by kernel_rfl) trivial trivial ?_
        refine AX.ret ?_
        refine fin_wk (Wk.forget [4] [] (s' := ⟨[(4, .v (.int .i64 (-1)))], []⟩) (by kernel_rfl)) ?_
        have hr := Option.some.inj h
        subst hr
        exact ⟨_, Wk.refl _, .inr rfl, ⟨[], by kernel_rfl, trivial, [.v (.int .i64 (-1))], by kernel_rfl, by kernel_rfl⟩⟩
      · replace h := cd_f b6 h
        refine AX.condF (decide (p1 < p2)) (by kernel_rfl) b6 ?_
        refine AX.skip ?_
        refine AX.seq ?_
        refine AX.seq ?_
        refine AX.reg (its := []) [19] [] (s1 := ⟨[(19, .v (.bool (decide (p2 < p1))))], []⟩) (C := True) (by kernel_rfl) trivial trivial ?_
        rcases bool_cases (decide (p2 < p1)) with b7 | b7
        · replace h := cd_t b7 h
          refine AX.condT (decide (p2 < p1)) (by kernel_rfl) b7 ?_
          refine AX.seq ?_
          refine AX.reg (its := []) [4] [] (s1 := ⟨[(4, .v (.int .i64 1))], []⟩) (C := True) (by kernel_rfl) trivial trivial ?_
          refine AX.ret ?_
          refine fin_wk (Wk.forget [4] [] (s' := ⟨[(4, .v (.int .i64 1))], []⟩) (by kernel_rfl)) ?_
          have hr := Option.some.inj h
          subst hr
          exact ⟨_, Wk.refl _, .inr rfl, ⟨[], by kernel_rfl, trivial, [.v (.int .i64 1)], by kernel_rfl, by kernel_rfl⟩⟩
        · replace h := cd_f b7 h
          refine AX.condF (decide (p2 < p1)) (by kernel_rfl) b7 ?_
          refine AX.skip ?_
          refine AX.seq ?_
          refine AX.reg (its := []) [4] [] (s1 := ⟨[(4, .v (.int .i64 0))], []⟩) (C := True) (by kernel_rfl) trivial trivial ?_
          refine AX.ret ?_
          refine fin_wk (Wk.forget [4] [] (s' := ⟨[(4, .v (.int .i64 0))], []⟩) (by kernel_rfl)) ?_
          have hr := Option.some.inj h
          subst hr
          exact ⟨_, Wk.refl _, .inr rfl, ⟨[], by kernel_rfl, trivial, [.v (.int .i64 0)], by kernel_rfl, by kernel_rfl⟩⟩

theorem s_impl_Flag_singles_1 (p1 : ByteArray) (p2 : Int) (p3 : ByteArray) (p4 : Int) (r : Int) (h : m_impl_Flag_singles_1 p1 p2 p3 p4 = some r) :
    Eng.Spec Tryz.prog 90 [.agg [.v (.string p1), .v (.int .i64 p2)], .agg [.v (.string p3), .v (.int .i64 p4)]] [] (.v (.int .i64 r)) [] := by
  unfold m_impl_Flag_singles_1 at h
  refine Eng.Spec.body Tryz.func90 (by kernel_rfl) rfl (by kernel_rfl) ?_
  refine AX.wkpost ?_
  refine AX.seq ?_
  refine AX.reg (its := [.auto { nk := 0 }, .auto { nk := 1 }]) [2, 3] [0, 1] (s1 := ⟨[(2, .pt 0 0), (3, .pt 1 0)], [(0, .box [.v (.string p1), .v (.int .i64 p2)]), (1, .box [.v (.string p3), .v (.int .i64 p4)])]⟩) (C := True) (by kernel_rfl) trivial trivial ?_
  refine AX.seq ?_
  obtain ⟨x5, e1, h⟩ := bd_e h
  refine AX.reg (its := [.auto {}, .auto {}, .auto {}, .auto {}, .call 91 [.v (.int .i64 p2), .v (.int .i64 p4)] (handO (rho ([] ++ [])) [] [] ++ []) (callEv [] [] (.v (.int .i64 x5)) [])]) [4] [] (s1 := ⟨[(4, .v (.int .i64 x5))], []⟩) (C := ((([.v (.int .i64 p2), .v (.int .i64 p4)] : List AV) = [.v (.int .i64 p2), .v (.int .i64 p4)]) ∧ True) ∧ True) (by kernel_rfl) ⟨⟨rfl, trivial⟩, trivial⟩ ⟨call_ok (ks := []) (ns := []) (bor := []) (bobjs := []) (s_cmp_Compare p2 p4 x5 e1) (.cons (.c1 (.c0 (.same _ (by kernel_rfl) (by kernel_rfl)))) (.cons (.c1 (.c0 (.same _ (by kernel_rfl) (by kernel_rfl)))) (.nil))) (by kernel_rfl) trivial, trivial⟩ ?_
  refine AX.ret ?_
  refine fin_wk (Wk.forget [4] [] (s' := ⟨[(4, .v (.int .i64 x5))], []⟩) (by kernel_rfl)) ?_
  have hr := Option.some.inj h
  subst hr
  exact ⟨_, Wk.refl _, .inr rfl, ⟨[], by kernel_rfl, trivial, [.v (.int .i64 x5)], by kernel_rfl, by kernel_rfl⟩⟩

theorem s_slices_insertionSortCmpFunc_h_Flag_singles_1_si_L2 (p1 : Int) (p2 : Int) (v4 : Int) (n : Nat) (g : Int × (List (ByteArray × Int))) (out : List (ByteArray × Int)) (h : m_slices_insertionSortCmpFunc_h_Flag_singles_1_si_L2 p1 p2 v4 n g.1 g.2 = some out) :
    AX Tryz.prog 53 1 (codeAt [1, 1, 1, 1, 0, 1, 1, 1] (bodyOf Tryz.f139)) ((fun g : Int × (List (ByteArray × Int)) => (⟨[(0, .sl 0 0 g.2.length), (1, .v (.int .i64 p1)), (2, .v (.int .i64 p2)), (3, .fn 90 []), (8, .v (.int .i64 v4)), (9, .v (.int .i64 g.1))], [(0, .arr 2 (List.map enc_si g.2))]⟩ : S)) g) (fun ex s => ex = .exit 2 ∧ s = (fun o : List (ByteArray × Int) => (⟨[(0, .sl 0 0 o.length), (1, .v (.int .i64 p1)), (2, .v (.int .i64 p2)), (3, .fn 90 []), (8, .v (.int .i64 v4))], [(0, .arr 2 (List.map enc_si o))]⟩ : S)) out) := by
  refine AX.wkpost ?_
  refine AX.loop (G := Nat × (Int × (List (ByteArray × Int)))) (fun q => (fun g : Int × (List (ByteArray × Int)) => (⟨[(0, .sl 0 0 g.2.length), (1, .v (.int .i64 p1)), (2, .v (.int .i64 p2)), (3, .fn 90 []), (8, .v (.int .i64 v4)), (9, .v (.int .i64 g.1))], [(0, .arr 2 (List.map enc_si g.2))]⟩ : S)) q.2) (fun q => m_slices_insertionSortCmpFunc_h_Flag_singles_1_si_L2 p1 p2 v4 q.1 q.2.1 q.2.2 = some out) (fun q => q.1) (n, g) h (Wk.refl _) ?_
  clear h
  rintro ⟨fu, v6, v7⟩ h
  cases fu with
  | zero => cases h
  | succ fu =>
    rw [m_slices_insertionSortCmpFunc_h_Flag_singles_1_si_L2] at h
    refine AX.seq ?_
    refine AX.seq ?_
    rcases bool_cases (decide (p1 < v6)) with b2 | b2
    · replace h := cd_t b2 h
      obtain ⟨g3, h⟩ := gd_e h
      obtain ⟨g4, h⟩ := gd_e h
      obtain ⟨x8, e5, h⟩ := bd_e h
      refine AX.drw mixed (its := [.auto {}, .auto {}, .auto { y := some (.v (.bool true)) }, .auto {}, .auto {}, .auto {}, .auto {}, .auto {}, .auto { y := some (.agg [.v (.string ((gt v7 v6).1)), .v (.int .i64 ((gt v7 v6).2))]) }, .auto {}, .auto {}, .auto { raw := true }, .auto {}, .auto { y := some (.agg [.v (.string ((gt v7 (IntKind.wrap .i64 (v6 - 1))).1)), .v (.int .i64 ((gt v7 (IntKind.wrap .i64 (v6 - 1))).2))]) }, .call 90 [.agg [.v (.string ((gt v7 v6).1)), .v (.int .i64 ((gt v7 v6).2))], .agg [.v (.string ((gt v7 (IntKind.wrap .i64 (v6 - 1))).1)), .v (.int .i64 ((gt v7 (IntKind.wrap .i64 (v6 - 1))).2))]] (handO (rho ([] ++ [])) [] [] ++ []) (callEv [] [] (.v (.int .i64 x8)) [])]) [0, 1, 2, 3, 8, 9, 34] [0] (s1 := ⟨[(0, .sl 0 0 v7.length), (1, .v (.int .i64 p1)), (2, .v (.int .i64 p2)), (3, .fn 90 []), (8, .v (.int .i64 v4)), (9, .v (.int .i64 v6)), (34, .v (.bool (decide (x8 < 0))))], [(0, .arr 2 (List.map enc_si v7))]⟩) (C := ((True) ∧ ((.v (.bool (decide (p1 < v6))) : AV) = (.v (.bool true) : AV))) ∧ (0 ≤ v6 ∧ v6 < (v7.length : Int)) ∧ (True ∧ (AV.agg ((((List.map enc_si v7).getD (0 + v6.toNat) []).drop 0 |>.take 2).map .v) = .agg [.v (.string ((gt v7 v6).1)), .v (.int .i64 ((gt v7 v6).2))])) ∧ (0 ≤ (IntKind.wrap .i64 (v6 - 1)) ∧ (IntKind.wrap .i64 (v6 - 1)) < (v7.length : Int)) ∧ (True ∧ (AV.agg ((((List.map enc_si v7).getD (0 + (IntKind.wrap .i64 (v6 - 1)).toNat) []).drop 0 |>.take 2).map .v) = .agg [.v (.string ((gt v7 (IntKind.wrap .i64 (v6 - 1))).1)), .v (.int .i64 ((gt v7 (IntKind.wrap .i64 (v6 - 1))).2))])) ∧ ((([.agg [.v (.string ((gt v7 v6).1)), .v (.int .i64 ((gt v7 v6).2))], .agg [.v (.string ((gt v7 (IntKind.wrap .i64 (v6 - 1))).1)), .v (.int .i64 ((gt v7 (IntKind.wrap .i64 (v6 - 1))).2))]] : List AV) = [.agg [.v (.string ((gt v7 v6).1)), .v (.int .i64 ((gt v7 v6).2))], .agg [.v (.string ((gt v7 (IntKind.wrap .i64 (v6 - 1))).1)), .v (.int .i64 ((gt v7 (IntKind.wrap .i64 (v6 - 1))).2))]]) ∧ True) ∧ True) (by kernel_rfl) ⟨⟨trivial, (congrArg (fun z => AV.v (.bool z)) b2)⟩, ⟨g3, ⟨⟨trivial, (congrArg (fun z : List Value => AV.agg (((z.drop 0).take 2).map .v)) (idx_arr (enc := enc_si) rfl g3))⟩, ⟨g4, ⟨⟨trivial, (congrArg (fun z : List Value => AV.agg (((z.drop 0).take 2).map .v)) (idx_arr (enc := enc_si) rfl g4))⟩, ⟨⟨rfl, trivial⟩, trivial⟩⟩⟩⟩⟩⟩ ⟨call_ok (ks := []) (ns := []) (bor := []) (bobjs := []) (s_impl_Flag_singles_1 ((gt v7 v6).1) ((gt v7 v6).2) ((gt v7 (IntKind.wrap .i64 (v6 - 1))).1) ((gt v7 (IntKind.wrap .i64 (v6 - 1))).2) x8 e5) (.cons (.c1 (.agg (.cons (.same _ (by kernel_rfl) (by kernel_rfl)) (.cons (.same _ (by kernel_rfl) (by kernel_rfl)) (.nil))))) (.cons (.c1 (.agg (.cons (.same _ (by kernel_rfl) (by kernel_rfl)) (.cons (.same _ (by kernel_rfl) (by kernel_rfl)) (.nil))))) (.nil))) (by kernel_rfl) trivial, trivial⟩ ?_
      rcases bool_cases (decide (x8 < 0)) with b6 | b6
      · replace h := cd_t b6 h
        refine AX.condT (decide (x8 < 0)) (by kernel_rfl) b6 ?_
        refine AX.skip ?_
        refine AX.seq ?_
        refine AX.block ?_
        refine AX.drw mixed (its := [.auto {}, .auto {}, .auto {}, .auto {}, .auto { raw := true }, .auto {}, .auto {}, .auto { raw := true }, .auto {}, .auto { y := some (.agg [.v (.string ((gt v7 (IntKind.wrap .i64 (v6 - 1))).1)), .v (.int .i64 ((gt v7 (IntKind.wrap .i64 (v6 - 1))).2))]) }, .auto {}, .auto {}, .auto {}, .auto { y := some (.agg [.v (.string ((gt v7 v6).1)), .v (.int .i64 ((gt v7 v6).2))]) }]) [0, 1, 2, 3, 8, 9] [0] (s1 := ⟨[(0, .sl 0 0 v7.length), (1, .v (.int .i64 p1)), (2, .v (.int .i64 p2)), (3, .fn 90 []), (8, .v (.int .i64 v4)), (9, .v (.int .i64 v6))], [(0, .arr 2 (((List.map enc_si v7).set (0 + v6.toNat) [(.string ((gt v7 (IntKind.wrap .i64 (v6 - 1))).1)), (.int .i64 ((gt v7 (IntKind.wrap .i64 (v6 - 1))).2))]).set (0 + (IntKind.wrap .i64 (v6 - 1)).toNat) [(.string ((gt v7 v6).1)), (.int .i64 ((gt v7 v6).2))]))]⟩) (C := (0 ≤ (IntKind.wrap .i64 (v6 - 1)) ∧ (IntKind.wrap .i64 (v6 - 1)) < (v7.length : Int)) ∧ (True ∧ (AV.agg ((((List.map enc_si v7).getD (0 + (IntKind.wrap .i64 (v6 - 1)).toNat) []).drop 0 |>.take 2).map .v) = .agg [.v (.string ((gt v7 (IntKind.wrap .i64 (v6 - 1))).1)), .v (.int .i64 ((gt v7 (IntKind.wrap .i64 (v6 - 1))).2))])) ∧ (0 ≤ v6 ∧ v6 < (v7.length : Int)) ∧ (True ∧ (AV.agg ((((List.map enc_si v7).getD (0 + v6.toNat) []).drop 0 |>.take 2).map .v) = .agg [.v (.string ((gt v7 v6).1)), .v (.int .i64 ((gt v7 v6).2))])) ∧ (0 ≤ v6 ∧ v6 < (v7.length : Int)) ∧ (0 ≤ (IntKind.wrap .i64 (v6 - 1)) ∧ (IntKind.wrap .i64 (v6 - 1)) < (v7.length : Int)) ∧ True) (by kernel_rfl) ⟨g4, ⟨⟨trivial, (congrArg (fun z : List Value => AV.agg (((z.drop 0).take 2).map .v)) (idx_arr (enc := enc_si) rfl g4))⟩, ⟨g3, ⟨⟨trivial, (congrArg (fun z : List Value => AV.agg (((z.drop 0).take 2).map .v)) (idx_arr (enc := enc_si) rfl g3))⟩, ⟨g3, ⟨g4, trivial⟩⟩⟩⟩⟩⟩ trivial ?_
        refine AX.reg (its := [.auto {}, .auto { raw := true }]) [0, 1, 2, 3, 8, 9] [0] (s1 := ⟨[(0, .sl 0 0 v7.length), (1, .v (.int .i64 p1)), (2, .v (.int .i64 p2)), (3, .fn 90 []), (8, .v (.int .i64 v4)), (9, .v (.int .i64 (IntKind.wrap .i64 (v6 - 1))))], [(0, .arr 2 (((List.map enc_si v7).set (0 + v6.toNat) [(.string ((gt v7 (IntKind.wrap .i64 (v6 - 1))).1)), (.int .i64 ((gt v7 (IntKind.wrap .i64 (v6 - 1))).2))]).set (0 + (IntKind.wrap .i64 (v6 - 1)).toNat) [(.string ((gt v7 v6).1)), (.int .i64 ((gt v7 v6).2))]))]⟩) (C := True) (by kernel_rfl) trivial trivial ?_
        refine ⟨(fu, (IntKind.wrap .i64 (v6 - 1), (v7.set (0 + v6.toNat) ((gt v7 (IntKind.wrap .i64 (v6 - 1))).1, (gt v7 (IntKind.wrap .i64 (v6 - 1))).2)).set (0 + (IntKind.wrap .i64 (v6 - 1)).toNat) ((gt v7 v6).1, (gt v7 v6).2))), h, Nat.lt_succ_self _, ?_⟩
        refine Wk.trans (Wk.forget [0, 1, 2, 3, 8, 9] [0] (s' := ⟨[(0, .sl 0 0 v7.length), (1, .v (.int .i64 p1)), (2, .v (.int .i64 p2)), (3, .fn 90 []), (8, .v (.int .i64 v4)), (9, .v (.int .i64 (IntKind.wrap .i64 (v6 - 1))))], [(0, .arr 2 (((List.map enc_si v7).set (0 + v6.toNat) [(.string ((gt v7 (IntKind.wrap .i64 (v6 - 1))).1)), (.int .i64 ((gt v7 (IntKind.wrap .i64 (v6 - 1))).2))]).set (0 + (IntKind.wrap .i64 (v6 - 1)).toNat) [(.string ((gt v7 v6).1)), (.int .i64 ((gt v7 v6).2))]))]⟩) (by kernel_rfl)) ?_
        refine Wk.trans (Wk.of_eq (congrArg (fun z => (⟨[(0, .sl 0 0 v7.length), (1, .v (.int .i64 p1)), (2, .v (.int .i64 p2)), (3, .fn 90 []), (8, .v (.int .i64 v4)), (9, .v (.int .i64 (IntKind.wrap .i64 (v6 - 1))))], [(0, .arr 2 (z))]⟩ : S)) (set_can (enc := enc_si) (set_can (enc := enc_si) rfl (0 + v6.toNat) ((gt v7 (IntKind.wrap .i64 (v6 - 1))).1, (gt v7 (IntKind.wrap .i64 (v6 - 1))).2)) (0 + (IntKind.wrap .i64 (v6 - 1)).toNat) ((gt v7 v6).1, (gt v7 v6).2)))) ?_
        refine Wk.trans (Wk.of_eq (congrArg (fun z => (⟨[(0, .sl 0 0 z), (1, .v (.int .i64 p1)), (2, .v (.int .i64 p2)), (3, .fn 90 []), (8, .v (.int .i64 v4)), (9, .v (.int .i64 (IntKind.wrap .i64 (v6 - 1))))], [(0, .arr 2 (List.map enc_si ((v7.set (0 + v6.toNat) ((gt v7 (IntKind.wrap .i64 (v6 - 1))).1, (gt v7 (IntKind.wrap .i64 (v6 - 1))).2)).set (0 + (IntKind.wrap .i64 (v6 - 1)).toNat) ((gt v7 v6).1, (gt v7 v6).2))))]⟩ : S)) (set_len ((set_len ((rfl : v7.length = v7.length)) (0 + v6.toNat) ((gt v7 (IntKind.wrap .i64 (v6 - 1))).1, (gt v7 (IntKind.wrap .i64 (v6 - 1))).2) : v7.length = (v7.set (0 + v6.toNat) ((gt v7 (IntKind.wrap .i64 (v6 - 1))).1, (gt v7 (IntKind.wrap .i64 (v6 - 1))).2)).length)) (0 + (IntKind.wrap .i64 (v6 - 1)).toNat) ((gt v7 v6).1, (gt v7 v6).2)))) ?_
        exact Wk.refl _
      · replace h := cd_f b6 h
        refine AX.condF (decide (x8 < 0)) (by kernel_rfl) b6 ?_
        refine AX.exit ?_
        refine fin_wk (Wk.forget [0, 1, 2, 3, 8] [0] (s' := ⟨[(0, .sl 0 0 v7.length), (1, .v (.int .i64 p1)), (2, .v (.int .i64 p2)), (3, .fn 90 []), (8, .v (.int .i64 v4))], [(0, .arr 2 (List.map enc_si v7))]⟩) (by kernel_rfl)) ?_
        have hr := Option.some.inj h
        subst hr
        exact ⟨_, Wk.refl _, ⟨rfl, rfl⟩⟩
    · replace h := cd_f b2 h
      refine AX.drw mixed (its := [.auto {}, .auto {}, .auto { y := some (.v (.bool false)) }]) [0, 1, 2, 3, 8, 9, 34] [0] (s1 := ⟨[(0, .sl 0 0 v7.length), (1, .v (.int .i64 p1)), (2, .v (.int .i64 p2)), (3, .fn 90 []), (8, .v (.int .i64 v4)), (9, .v (.int .i64 v6)), (34, .v (.bool false))], [(0, .arr 2 (List.map enc_si v7))]⟩) (C := ((True) ∧ ((.v (.bool (decide (p1 < v6))) : AV) = (.v (.bool false) : AV))) ∧ True) (by kernel_rfl) ⟨⟨trivial, (congrArg (fun z => AV.v (.bool z)) b2)⟩, trivial⟩ trivial ?_
      refine AX.cond_false (by kernel_rfl) ?_
      refine AX.exit ?_
      refine fin_wk (Wk.forget [0, 1, 2, 3, 8] [0] (s' := ⟨[(0, .sl 0 0 v7.length), (1, .v (.int .i64 p1)), (2, .v (.int .i64 p2)), (3, .fn 90 []), (8, .v (.int .i64 v4))], [(0, .arr 2 (List.map enc_si v7))]⟩) (by kernel_rfl)) ?_
      have hr := Option.some.inj h
      subst hr
      exact ⟨_, Wk.refl _, ⟨rfl, rfl⟩⟩

theorem s_slices_insertionSortCmpFunc_h_Flag_singles_1_si_L1 (p1 : Int) (p2 : Int) (n : Nat) (g : Int × (List (ByteArray × Int))) (out : List (ByteArray × Int)) (h : m_slices_insertionSortCmpFunc_h_Flag_singles_1_si_L1 p1 p2 n g.1 g.2 = some out) :
    AX Tryz.prog 53 1 (codeAt [1, 1] (bodyOf Tryz.f139)) ((fun g : Int × (List (ByteArray × Int)) => (⟨[(0, .sl 0 0 g.2.length), (1, .v (.int .i64 p1)), (2, .v (.int .i64 p2)), (3, .fn 90 []), (8, .v (.int .i64 g.1))], [(0, .arr 2 (List.map enc_si g.2))]⟩ : S)) g) (fun ex s => ex = .exit 0 ∧ s = (fun o : List (ByteArray × Int) => (⟨[], [(0, .arr 2 (List.map enc_si o))]⟩ : S)) out) := by
  refine AX.wkpost ?_
  refine AX.loop (G := Nat × (Int × (List (ByteArray × Int)))) (fun q => (fun g : Int × (List (ByteArray × Int)) => (⟨[(0, .sl 0 0 g.2.length), (1, .v (.int .i64 p1)), (2, .v (.int .i64 p2)), (3, .fn 90 []), (8, .v (.int .i64 g.1))], [(0, .arr 2 (List.map enc_si g.2))]⟩ : S)) q.2) (fun q => m_slices_insertionSortCmpFunc_h_Flag_singles_1_si_L1 p1 p2 q.1 q.2.1 q.2.2 = some out) (fun q => q.1) (n, g) h (Wk.refl _) ?_
  clear h
  rintro ⟨fu, v4, v5⟩ h
  cases fu with
  | zero => cases h
  | succ fu =>
    rw [m_slices_insertionSortCmpFunc_h_Flag_singles_1_si_L1] at h
    refine AX.seq ?_
    refine AX.seq ?_
    refine AX.reg (its := []) [0, 1, 2, 3, 8, 14] [0] (s1 := ⟨[(0, .sl 0 0 v5.length), (1, .v (.int .i64 p1)), (2, .v (.int .i64 p2)), (3, .fn 90 []), (8, .v (.int .i64 v4)), (14, .v (.bool (decide (v4 < p2))))], [(0, .arr 2 (List.map enc_si v5))]⟩) (C := True) (by kernel_rfl) trivial trivial ?_
    rcases bool_cases (decide (v4 < p2)) with b1 | b1
    · replace h := cd_t b1 h
      refine AX.condT (decide (v4 < p2)) (by kernel_rfl) b1 ?_
      refine AX.skip ?_
      refine AX.seq ?_
      refine AX.block ?_
      refine AX.seq ?_
      refine AX.reg (its := []) [0, 1, 2, 3, 8, 9] [0] (s1 := ⟨[(0, .sl 0 0 v5.length), (1, .v (.int .i64 p1)), (2, .v (.int .i64 p2)), (3, .fn 90 []), (8, .v (.int .i64 v4)), (9, .v (.int .i64 v4))], [(0, .arr 2 (List.map enc_si v5))]⟩) (C := True) (by kernel_rfl) trivial trivial ?_
      refine AX.block ?_
      obtain ⟨x9, e7, h⟩ := bd_e h
      refine AX.wk (Wk.forget [0, 1, 2, 3, 8, 9] [0] (s' := ⟨[(0, .sl 0 0 v5.length), (1, .v (.int .i64 p1)), (2, .v (.int .i64 p2)), (3, .fn 90 []), (8, .v (.int .i64 v4)), (9, .v (.int .i64 v4))], [(0, .arr 2 (List.map enc_si v5))]⟩) (by kernel_rfl)) ?_
      refine AX.mono (s_slices_insertionSortCmpFunc_h_Flag_singles_1_si_L2 p1 p2 v4 FU (v4, v5) x9 e7) ?_
      rintro _ _ ⟨rfl, rfl⟩
      skip
      refine AX.reg (its := [.auto {}, .auto { raw := true }]) [0, 1, 2, 3, 8] [0] (s1 := ⟨[(0, .sl 0 0 x9.length), (1, .v (.int .i64 p1)), (2, .v (.int .i64 p2)), (3, .fn 90 []), (8, .v (.int .i64 (IntKind.wrap .i64 (v4 + 1))))], [(0, .arr 2 (List.map enc_si x9))]⟩) (C := True) (by kernel_rfl) trivial trivial ?_
      refine ⟨(fu, (IntKind.wrap .i64 (v4 + 1), x9)), h, Nat.lt_succ_self _, ?_⟩
      refine Wk.trans (Wk.forget [0, 1, 2, 3, 8] [0] (s' := ⟨[(0, .sl 0 0 x9.length), (1, .v (.int .i64 p1)), (2, .v (.int .i64 p2)), (3, .fn 90 []), (8, .v (.int .i64 (IntKind.wrap .i64 (v4 + 1))))], [(0, .arr 2 (List.map enc_si x9))]⟩) (by kernel_rfl)) ?_
      exact Wk.refl _
    · replace h := cd_f b1 h
      refine AX.condF (decide (v4 < p2)) (by kernel_rfl) b1 ?_
      refine AX.exit ?_
      refine fin_wk (Wk.forget [] [0] (s' := ⟨[], [(0, .arr 2 (List.map enc_si v5))]⟩) (by kernel_rfl)) ?_
      have hr := Option.some.inj h
      subst hr
      exact ⟨_, Wk.refl _, ⟨rfl, rfl⟩⟩

theorem s_slices_insertionSortCmpFunc_h_Flag_singles_1_si (p1 : Int) (p2 : Int) (p3 : List (ByteArray × Int)) (r : List (ByteArray × Int)) (h : m_slices_insertionSortCmpFunc_h_Flag_singles_1_si p1 p2 p3 = some r) :
    Eng.Spec Tryz.prog 139 [.sl 0 0 p3.length, .v (.int .i64 p1), .v (.int .i64 p2), .fn 90 []] [.arr 2 (List.map enc_si p3)] (.tup []) [.arr 2 (List.map enc_si r)] := by
  unfold m_slices_insertionSortCmpFunc_h_Flag_singles_1_si at h
  refine Eng.Spec.body Tryz.func139 (by kernel_rfl) rfl (by kernel_rfl) ?_
  refine AX.wkpost ?_
  refine AX.seq ?_
  refine AX.reg (its := [.auto {}, .auto { raw := true }]) [0, 1, 2, 3, 8] [0] (s1 := ⟨[(0, .sl 0 0 p3.length), (1, .v (.int .i64 p1)), (2, .v (.int .i64 p2)), (3, .fn 90 []), (8, .v (.int .i64 (IntKind.wrap .i64 (p1 + 1))))], [(0, .arr 2 (List.map enc_si p3))]⟩) (C := True) (by kernel_rfl) trivial trivial ?_
  refine AX.block ?_
  obtain ⟨x10, e8, h⟩ := bd_e h
  refine AX.wk (Wk.forget [0, 1, 2, 3, 8] [0] (s' := ⟨[(0, .sl 0 0 p3.length), (1, .v (.int .i64 p1)), (2, .v (.int .i64 p2)), (3, .fn 90 []), (8, .v (.int .i64 (IntKind.wrap .i64 (p1 + 1))))], [(0, .arr 2 (List.map enc_si p3))]⟩) (by kernel_rfl)) ?_
  refine AX.mono (s_slices_insertionSortCmpFunc_h_Flag_singles_1_si_L1 p1 p2 FU (IntKind.wrap .i64 (p1 + 1), p3) x10 e8) ?_
  rintro _ _ ⟨rfl, rfl⟩
  skip
  refine fin_wk (Wk.forget [] [0] (s' := ⟨[], [(0, .arr 2 (List.map enc_si x10))]⟩) (by kernel_rfl)) ?_
  have hr := Option.some.inj h
  subst hr
  exact ⟨_, Wk.refl _, .inl rfl, ⟨[], by kernel_rfl, ⟨rfl, trivial⟩, [], by kernel_rfl, by kernel_rfl⟩⟩

theorem s_slices_pdqsortCmpFunc_h_Flag_singles_1_si_L1 (p1 : Int) (p2 : Int) (p3 : Int) (p4 : List (ByteArray × Int)) (n : Nat) (g : Unit) (out : List (ByteArray × Int)) (h : m_slices_pdqsortCmpFunc_h_Flag_singles_1_si_L1 p1 p2 p3 p4 n = some out) :
    AX Tryz.prog 148 1 (codeAt [1, 1, 1] (bodyOf Tryz.f118)) ((fun g : Unit => (⟨[(0, .sl 0 0 p4.length), (1, .v (.int .i64 p1)), (2, .v (.int .i64 p2)), (3, .v (.int .i64 p3)), (4, .fn 90 []), (10, .v (.bool true)), (11, .v (.bool true))], [(0, .arr 2 (List.map enc_si p4))]⟩ : S)) g) (fun ex s => ex = .ret ∧ s = (fun o : List (ByteArray × Int) => (⟨[], [(0, .arr 2 (List.map enc_si o))]⟩ : S)) out) := by
  refine AX.wkpost ?_
  refine AX.loop (G := Nat × (Unit)) (fun q => (fun g : Unit => (⟨[(0, .sl 0 0 p4.length), (1, .v (.int .i64 p1)), (2, .v (.int .i64 p2)), (3, .v (.int .i64 p3)), (4, .fn 90 []), (10, .v (.bool true)), (11, .v (.bool true))], [(0, .arr 2 (List.map enc_si p4))]⟩ : S)) q.2) (fun q => m_slices_pdqsortCmpFunc_h_Flag_singles_1_si_L1 p1 p2 p3 p4 q.1 = some out) (fun q => q.1) (n, g) h (Wk.refl _) ?_
  clear h
  rintro ⟨fu, _⟩ h
  cases fu with
  | zero => cases h
  | succ fu =>
    rw [m_slices_pdqsortCmpFunc_h_Flag_singles_1_si_L1] at h
    refine AX.block ?_
    refine AX.seq ?_
    refine AX.reg (its := [.auto {}, .auto {}, .auto { raw := true }]) [0, 1, 2, 3, 4, 10, 11, 12] [0] (s1 := ⟨[(0, .sl 0 0 p4.length), (1, .v (.int .i64 p1)), (2, .v (.int .i64 p2)), (3, .v (.int .i64 p3)), (4, .fn 90 []), (10, .v (.bool true)), (11, .v (.bool true)), (12, .v (.int .i64 (IntKind.wrap .i64 (p2 - p1))))], [(0, .arr 2 (List.map enc_si p4))]⟩) (C := True) (by kernel_rfl) trivial trivial ?_
    refine AX.seq ?_
    refine AX.seq ?_
    refine AX.reg (its := []) [0, 1, 2, 3, 4, 10, 11, 12, 25] [0] (s1 := ⟨[(0, .sl 0 0 p4.length), (1, .v (.int .i64 p1)), (2, .v (.int .i64 p2)), (3, .v (.int .i64 p3)), (4, .fn 90 []), (10, .v (.bool true)), (11, .v (.bool true)), (12, .v (.int .i64 (IntKind.wrap .i64 (p2 - p1)))), (25, .v (.bool (decide ((IntKind.wrap .i64 (p2 - p1)) ≤ 12))))], [(0, .arr 2 (List.map enc_si p4))]⟩) (C := True) (by kernel_rfl) trivial trivial ?_
    rcases bool_cases (decide ((IntKind.wrap .i64 (p2 - p1)) ≤ 12)) with b1 | b1
    · replace h := cd_t b1 h
      refine AX.condT (decide ((IntKind.wrap .i64 (p2 - p1)) ≤ 12)) (by kernel_rfl) b1 ?_
      refine AX.seq ?_
      obtain ⟨x5, e2, h⟩ := bd_e h
      obtain ⟨g3, h⟩ := gd_e h
      refine AX.reg (its := [.auto {}, .auto {}, .auto {}, .auto {}, .call 139 [.sl 0 0 p4.length, .v (.int .i64 p1), .v (.int .i64 p2), .fn 90 []] (handO (rho ([0] ++ [])) [0] [.arr 2 (List.map enc_si p4)] ++ []) (callEv [0] [] (.tup []) [.arr 2 (List.map enc_si x5)])]) [] [0] (s1 := ⟨[], [(0, .arr 2 (List.map enc_si x5))]⟩) (C := ((([.sl 0 0 p4.length, .v (.int .i64 p1), .v (.int .i64 p2), .fn 90 []] : List AV) = [.sl 0 0 p4.length, .v (.int .i64 p1), .v (.int .i64 p2), .fn 90 []]) ∧ (AO.arr 2 (List.map enc_si p4) = AO.arr 2 (List.map enc_si p4)) ∧ True) ∧ True) (by kernel_rfl) ⟨⟨rfl, rfl, trivial⟩, trivial⟩ ⟨call_ok (ks := [0]) (ns := []) (bor := []) (bobjs := []) (s_slices_insertionSortCmpFunc_h_Flag_singles_1_si p1 p2 p4 x5 e2) (.cons (.c1 (.c0 (.same _ (by kernel_rfl) (by kernel_rfl)))) (.cons (.c1 (.c0 (.same _ (by kernel_rfl) (by kernel_rfl)))) (.cons (.c1 (.c0 (.same _ (by kernel_rfl) (by kernel_rfl)))) (.cons (.fn (.nil)) (.nil))))) (by kernel_rfl) ⟨.inr (arr_sh (enc := enc_si) g3), trivial⟩, trivial⟩ ?_
      refine AX.ret ?_
      refine fin_wk (Wk.forget [] [0] (s' := ⟨[], [(0, .arr 2 (List.map enc_si x5))]⟩) (by kernel_rfl)) ?_
      refine fin_wk (Wk.of_eq (congrArg (fun z => (⟨[], [(0, .arr 2 (List.map enc_si x5))]⟩ : S)) (((rfl : p4.length = p4.length)).trans (g3).symm))) ?_
      have hr := Option.some.inj h
      subst hr
      exact ⟨_, Wk.refl _, ⟨rfl, rfl⟩⟩
    · replace h := cd_f b1 h
      refine AX.condF (decide ((IntKind.wrap .i64 (p2 - p1)) ≤ 12)) (by kernel_rfl) b1 ?_
      refine AX.skip ?_
      refine AX.seq ?_
      refine AX.seq ?_
      refine AX.reg (its := []) [0, 1, 2, 3, 4, 10, 11, 12, 32] [0] (s1 := ⟨[(0, .sl 0 0 p4.length), (1, .v (.int .i64 p1)), (2, .v (.int .i64 p2)), (3, .v (.int .i64 p3)), (4, .fn 90 []), (10, .v (.bool true)), (11, .v (.bool true)), (12, .v (.int .i64 (IntKind.wrap .i64 (p2 - p1)))), (32, .v (.bool (decide (p3 = 0))))], [(0, .arr 2 (List.map enc_si p4))]⟩) (C := True) (by kernel_rfl) trivial trivial ?_
      rcases bool_cases (decide (p3 = 0)) with b4 | b4
      · replace h := cd_t b4 h
        refine AX.condT (decide (p3 = 0)) (by kernel_rfl) b4 ?_
        refine AX.seq ?_
        cases h
      · replace h := cd_f b4 h
        refine AX.condF (decide (p3 = 0)) (by kernel_rfl) b4 ?_
        refine AX.skip ?_
        refine AX.seq ?_
        refine AX.seq ?_
        refine AX.reg (its := []) [0, 1, 2, 3, 4, 10, 11, 12, 39] [0] (s1 := ⟨[(0, .sl 0 0 p4.length), (1, .v (.int .i64 p1)), (2, .v (.int .i64 p2)), (3, .v (.int .i64 p3)), (4, .fn 90 []), (10, .v (.bool true)), (11, .v (.bool true)), (12, .v (.int .i64 (IntKind.wrap .i64 (p2 - p1)))), (39, .v (.bool false))], [(0, .arr 2 (List.map enc_si p4))]⟩) (C := True) (by kernel_rfl) trivial trivial ?_
        refine AX.cond_false (by kernel_rfl) ?_
        refine AX.skip ?_
        refine AX.seq ?_
        cases h

theorem s_slices_pdqsortCmpFunc_h_Flag_singles_1_si (p1 : Int) (p2 : Int) (p3 : Int) (p4 : List (ByteArray × Int)) (r : List (ByteArray × Int)) (h : m_slices_pdqsortCmpFunc_h_Flag_singles_1_si p1 p2 p3 p4 = some r) :
    Eng.Spec Tryz.prog 118 [.sl 0 0 p4.length, .v (.int .i64 p1), .v (.int .i64 p2), .v (.int .i64 p3), .fn 90 []] [.arr 2 (List.map enc_si p4)] (.tup []) [.arr 2 (List.map enc_si r)] := by
  unfold m_slices_pdqsortCmpFunc_h_Flag_singles_1_si at h
  refine Eng.Spec.body Tryz.func118 (by kernel_rfl) rfl (by kernel_rfl) ?_
  refine AX.wkpost ?_
  refine AX.seq ?_
  refine AX.reg (its := []) [0, 1, 2, 3, 4, 10] [0] (s1 := ⟨[(0, .sl 0 0 p4.length), (1, .v (.int .i64 p1)), (2, .v (.int .i64 p2)), (3, .v (.int .i64 p3)), (4, .fn 90 []), (10, .v (.bool true))], [(0, .arr 2 (List.map enc_si p4))]⟩) (C := True) (by kernel_rfl) trivial trivial ?_
  refine AX.seq ?_
  refine AX.reg (its := []) [0, 1, 2, 3, 4, 10, 11] [0] (s1 := ⟨[(0, .sl 0 0 p4.length), (1, .v (.int .i64 p1)), (2, .v (.int .i64 p2)), (3, .v (.int .i64 p3)), (4, .fn 90 []), (10, .v (.bool true)), (11, .v (.bool true))], [(0, .arr 2 (List.map enc_si p4))]⟩) (C := True) (by kernel_rfl) trivial trivial ?_
  refine AX.block ?_
  obtain ⟨x6, e5, h⟩ := bd_e h
  refine AX.wk (Wk.forget [0, 1, 2, 3, 4, 10, 11] [0] (s' := ⟨[(0, .sl 0 0 p4.length), (1, .v (.int .i64 p1)), (2, .v (.int .i64 p2)), (3, .v (.int .i64 p3)), (4, .fn 90 []), (10, .v (.bool true)), (11, .v (.bool true))], [(0, .arr 2 (List.map enc_si p4))]⟩) (by kernel_rfl)) ?_
  refine AX.mono (s_slices_pdqsortCmpFunc_h_Flag_singles_1_si_L1 p1 p2 p3 p4 FU () x6 e5) ?_
  rintro _ _ ⟨rfl, rfl⟩
  skip
  refine fin_wk (Wk.forget [] [0] (s' := ⟨[], [(0, .arr 2 (List.map enc_si x6))]⟩) (by kernel_rfl)) ?_
  have hr := Option.some.inj h
  subst hr
  exact ⟨_, Wk.refl _, .inr rfl, ⟨[], by kernel_rfl, ⟨rfl, trivial⟩, [], by kernel_rfl, by kernel_rfl⟩⟩

theorem s_slices_SortFunc_h_Flag_singles_1_si (p1 : List (ByteArray × Int)) (r : List (ByteArray × Int)) (h : m_slices_SortFunc_h_Flag_singles_1_si p1 = some r) :
    Eng.Spec Tryz.prog 89 [.sl 0 0 p1.length, .fn 90 []] [.arr 2 (List.map enc_si p1)] (.tup []) [.arr 2 (List.map enc_si r)] := by
  unfold m_slices_SortFunc_h_Flag_singles_1_si at h
  refine Eng.Spec.body Tryz.func89 (by kernel_rfl) rfl (by kernel_rfl) ?_
  refine AX.wkpost ?_
  refine AX.seq ?_
  refine AX.reg (its := []) [0, 1, 4] [0] (s1 := ⟨[(0, .sl 0 0 p1.length), (1, .fn 90 []), (4, .v (.int .i64 (p1.length : Int)))], [(0, .arr 2 (List.map enc_si p1))]⟩) (C := True) (by kernel_rfl) trivial trivial ?_
  obtain ⟨x2, e1, h⟩ := bd_e h
  obtain ⟨x3, e2, h⟩ := bd_e h
  obtain ⟨g3, h⟩ := gd_e h
  refine AX.reg (its := [.auto {}, .auto {}, .auto {}, .auto { raw := true }, .call 119 [.v (.int .u64 (IntKind.wrap .u64 ((p1.length : Int))))] (handO (rho ([] ++ [])) [] [] ++ []) (callEv [] [] (.v (.int .i64 x2)) []), .auto {}, .call 118 [.sl 0 0 p1.length, .v (.int .i64 0), .v (.int .i64 (p1.length : Int)), .v (.int .i64 x2), .fn 90 []] (handO (rho ([0] ++ [])) [0] [.arr 2 (List.map enc_si p1)] ++ []) (callEv [0] [] (.tup []) [.arr 2 (List.map enc_si x3)])]) [] [0] (s1 := ⟨[], [(0, .arr 2 (List.map enc_si x3))]⟩) (C := ((([.v (.int .u64 (IntKind.wrap .u64 ((p1.length : Int))))] : List AV) = [.v (.int .u64 (IntKind.wrap .u64 ((p1.length : Int))))]) ∧ True) ∧ ((([.sl 0 0 p1.length, .v (.int .i64 0), .v (.int .i64 (p1.length : Int)), .v (.int .i64 x2), .fn 90 []] : List AV) = [.sl 0 0 p1.length, .v (.int .i64 0), .v (.int .i64 (p1.length : Int)), .v (.int .i64 x2), .fn 90 []]) ∧ (AO.arr 2 (List.map enc_si p1) = AO.arr 2 (List.map enc_si p1)) ∧ True) ∧ True) (by kernel_rfl) ⟨⟨rfl, trivial⟩, ⟨⟨rfl, rfl, trivial⟩, trivial⟩⟩ ⟨call_ok (ks := []) (ns := []) (bor := []) (bobjs := []) (s_math_bits_Len (IntKind.wrap .u64 ((p1.length : Int))) x2 e1) (.cons (.c1 (.c0 (.same _ (by kernel_rfl) (by kernel_rfl)))) (.nil)) (by kernel_rfl) trivial, ⟨call_ok (ks := [0]) (ns := []) (bor := []) (bobjs := []) (s_slices_pdqsortCmpFunc_h_Flag_singles_1_si 0 (p1.length : Int) x2 p1 x3 e2) (.cons (.c1 (.c0 (.same _ (by kernel_rfl) (by kernel_rfl)))) (.cons (.c1 (.c0 (.same _ (by kernel_rfl) (by kernel_rfl)))) (.cons (.c1 (.c0 (.same _ (by kernel_rfl) (by kernel_rfl)))) (.cons (.c1 (.c0 (.same _ (by kernel_rfl) (by kernel_rfl)))) (.cons (.fn (.nil)) (.nil)))))) (by kernel_rfl) ⟨.inr (arr_sh (enc := enc_si) g3), trivial⟩, trivial⟩⟩ ?_
  refine fin_wk (Wk.forget [] [0] (s' := ⟨[], [(0, .arr 2 (List.map enc_si x3))]⟩) (by kernel_rfl)) ?_
  refine fin_wk (Wk.of_eq (congrArg (fun z => (⟨[], [(0, .arr 2 (List.map enc_si x3))]⟩ : S)) (((rfl : p1.length = p1.length)).trans (g3).symm))) ?_
  have hr := Option.some.inj h
  subst hr
  exact ⟨_, Wk.refl _, .inl rfl, ⟨[], by kernel_rfl, ⟨rfl, trivial⟩, [], by kernel_rfl, by kernel_rfl⟩⟩

theorem s_impl_Flag_singles_L1 (p1 : List (ByteArray × Int)) (n : Nat) (g : (List (ByteArray × Int)) × Int) (out : List (ByteArray × Int)) (h : m_impl_Flag_singles_L1 p1 n g.1 g.2 = some out) :
    AX Tryz.prog 31 0 (codeAt [1, 1, 0, 1, 1] (bodyOf Tryz.f52)) ((fun g : (List (ByteArray × Int)) × Int => (⟨[(3, .sl 0 0 g.1.length), (7, .bs false 2 (List.map enc_si p1)), (8, .v (.int .i64 (p1.length : Int))), (9, .v (.int .i64 g.2))], [(0, .arr 2 (List.map enc_si g.1))]⟩ : S)) g) (fun ex s => ex = .exit 0 ∧ s = (fun o : List (ByteArray × Int) => (⟨[(3, .sl 0 0 o.length)], [(0, .arr 2 (List.map enc_si o))]⟩ : S)) out) := by
  refine AX.wkpost ?_
  refine AX.loop (G := Nat × ((List (ByteArray × Int)) × Int)) (fun q => (fun g : (List (ByteArray × Int)) × Int => (⟨[(3, .sl 0 0 g.1.length), (7, .bs false 2 (List.map enc_si p1)), (8, .v (.int .i64 (p1.length : Int))), (9, .v (.int .i64 g.2))], [(0, .arr 2 (List.map enc_si g.1))]⟩ : S)) q.2) (fun q => m_impl_Flag_singles_L1 p1 q.1 q.2.1 q.2.2 = some out) (fun q => q.1) (n, g) h (Wk.refl _) ?_
  clear h
  rintro ⟨fu, v3, v4⟩ h
  cases fu with
  | zero => cases h
  | succ fu =>
    rw [m_impl_Flag_singles_L1] at h
    refine AX.seq ?_
    refine AX.reg (its := []) [3, 7, 8, 9, 10] [0] (s1 := ⟨[(3, .sl 0 0 v3.length), (7, .bs false 2 (List.map enc_si p1)), (8, .v (.int .i64 (p1.length : Int))), (9, .v (.int .i64 v4)), (10, .v (.bool (decide (v4 < (p1.length : Int)))))], [(0, .arr 2 (List.map enc_si v3))]⟩) (C := True) (by kernel_rfl) trivial trivial ?_
    refine AX.seq ?_
    rcases bool_cases (decide (v4 < (p1.length : Int))) with b1 | b1
    · replace h := cd_t b1 h
      refine AX.condT (decide (v4 < (p1.length : Int))) (by kernel_rfl) b1 ?_
      refine AX.skip ?_
      refine AX.seq ?_
      refine AX.block ?_
      refine AX.seq ?_
      obtain ⟨g2, h⟩ := gd_e h
      refine AX.reg (its := [.auto { y := some (.be 2 (enc_si (gt p1 v4)) 0) }, .auto {}, .auto { nk := 1 }]) [3, 5, 7, 8, 9] [0, 1] (s1 := ⟨[(3, .sl 0 0 v3.length), (5, .pt 1 0), (7, .bs false 2 (List.map enc_si p1)), (8, .v (.int .i64 (p1.length : Int))), (9, .v (.int .i64 v4))], [(0, .arr 2 (List.map enc_si v3)), (1, .box [.v (.string ((gt p1 v4).1)), .v (.int .i64 ((gt p1 v4).2))])]⟩) (C := ((0 ≤ v4 ∧ v4 < ((List.map enc_si p1).length : Int)) ∧ (AV.be 2 ((List.map enc_si p1).getD v4.toNat []) 0 = AV.be 2 (enc_si (gt p1 v4)) 0)) ∧ True) (by kernel_rfl) ⟨idx_bs enc_si p1 v4 2 g2, trivial⟩ trivial ?_
      refine AX.seq ?_
      obtain ⟨x5, e3, h⟩ := bd_e h
      rcases bool_cases (x5) with b4 | b4
      · replace h := cd_t b4 h
        obtain ⟨x6, e5, h⟩ := bd_e h
        refine AX.reg (its := [.auto {}, .auto {}, .call 88 [.v (.int .i64 ((gt p1 v4).2))] (handO (rho ([] ++ [])) [] [] ++ []) (callEv [] [] (.v (.bool true)) []), .auto {}, .auto {}, .auto {}, .auto {}, .call 76 [.sl 0 0 v3.length, .v (.int .i64 ((gt p1 v4).2))] (handO (rho ([] ++ [])) [] [] ++ [(0, .arr 2 (List.map enc_si v3))]) (callEv [] [] (.v (.int .i64 x6)) [])]) [3, 5, 7, 8, 9, 22] [0, 1] (s1 := ⟨[(3, .sl 0 0 v3.length), (5, .pt 1 0), (7, .bs false 2 (List.map enc_si p1)), (8, .v (.int .i64 (p1.length : Int))), (9, .v (.int .i64 v4)), (22, .v (.bool (decide (x6 < 0))))], [(0, .arr 2 (List.map enc_si v3)), (1, .box [.v (.string ((gt p1 v4).1)), .v (.int .i64 ((gt p1 v4).2))])]⟩) (C := ((([.v (.int .i64 ((gt p1 v4).2))] : List AV) = [.v (.int .i64 ((gt p1 v4).2))]) ∧ True) ∧ ((([.sl 0 0 v3.length, .v (.int .i64 ((gt p1 v4).2))] : List AV) = [.sl 0 0 v3.length, .v (.int .i64 ((gt p1 v4).2))]) ∧ (AO.arr 2 (List.map enc_si v3) = AO.arr 2 (List.map enc_si v3)) ∧ True) ∧ True) (by kernel_rfl) ⟨⟨rfl, trivial⟩, ⟨⟨rfl, rfl, trivial⟩, trivial⟩⟩ ⟨call_ok (ks := []) (ns := []) (bor := []) (bobjs := []) (show Eng.Spec Tryz.prog 88 [.v (.int .i64 ((gt p1 v4).2))] [] (.v (.bool true)) [] from by have q := s_impl_single ((gt p1 v4).2) x5 e3; rw [b4] at q; exact q) (.cons (.c1 (.c0 (.same _ (by kernel_rfl) (by kernel_rfl)))) (.nil)) (by kernel_rfl) trivial, ⟨call_ok (ks := []) (ns := []) (bor := [0]) (bobjs := [(0, .arr 2 (List.map enc_si v3))]) (s_impl_valued v3 ((gt p1 v4).2) x6 e5) (.cons (.c1 (.c0 (.arr rfl rfl ((rfl).trans (List.length_map ..).symm)))) (.cons (.c1 (.c0 (.same _ (by kernel_rfl) (by kernel_rfl)))) (.nil))) (by kernel_rfl) trivial, trivial⟩⟩ ?_
        rcases bool_cases (decide (x6 < 0)) with b6 | b6
        · replace h := cd_t b6 h
          refine AX.condT (decide (x6 < 0)) (by kernel_rfl) b6 ?_
          obtain ⟨g7, h⟩ := gd_e h
          refine AX.reg (its := [.auto {}, .auto {}, .auto { nk := 2 }, .auto { y := some (.sl 3 0 ((v3 ++ ([((gt p1 v4).1, (gt p1 v4).2)] : List (ByteArray × Int))).length)), els := some (List.map enc_si v3), els2 := some (List.map enc_si ([((gt p1 v4).1, (gt p1 v4).2)] : List (ByteArray × Int))), nk := 3 }]) [3, 7, 8, 9] [3] (s1 := ⟨[(3, .sl 3 0 ((v3 ++ ([((gt p1 v4).1, (gt p1 v4).2)] : List (ByteArray × Int))).length)), (7, .bs false 2 (List.map enc_si p1)), (8, .v (.int .i64 (p1.length : Int))), (9, .v (.int .i64 v4))], [(3, .arr 2 (List.map enc_si v3 ++ List.map enc_si ([((gt p1 v4).1, (gt p1 v4).2)] : List (ByteArray × Int))))]⟩) (C := ((((((List.map enc_si v3).drop 0).take (v3.length) = List.map enc_si v3) ∧ (((List.map enc_si ([((gt p1 v4).1, (gt p1 v4).2)] : List (ByteArray × Int))).drop 0).take (([((gt p1 v4).1, (gt p1 v4).2)] : List (ByteArray × Int)).length) = List.map enc_si ([((gt p1 v4).1, (gt p1 v4).2)] : List (ByteArray × Int)))) ∧ (List.map enc_si v3).length + (List.map enc_si ([((gt p1 v4).1, (gt p1 v4).2)] : List (ByteArray × Int))).length ≤ 1099511627776) ∧ (AV.sl 3 0 (List.map enc_si v3 ++ List.map enc_si ([((gt p1 v4).1, (gt p1 v4).2)] : List (ByteArray × Int))).length = AV.sl 3 0 (v3 ++ ([((gt p1 v4).1, (gt p1 v4).2)] : List (ByteArray × Int))).length)) ∧ True) (by kernel_rfl) ⟨⟨⟨⟨(dt_all (enc := enc_si) rfl rfl), (dt_all (enc := enc_si) rfl rfl)⟩, (by simp only [List.length_map, List.length_nil, List.length_replicate]; simpa using g7)⟩, sl_len (enc := enc_si) (app_can (enc := enc_si) rfl (rfl))⟩, trivial⟩ trivial ?_
          refine AX.reg (its := [.auto { raw := true }]) [3, 7, 8, 9] [3] (s1 := ⟨[(3, .sl 3 0 ((v3 ++ ([((gt p1 v4).1, (gt p1 v4).2)] : List (ByteArray × Int))).length)), (7, .bs false 2 (List.map enc_si p1)), (8, .v (.int .i64 (p1.length : Int))), (9, .v (.int .i64 (IntKind.wrap .i64 (v4 + 1))))], [(3, .arr 2 (List.map enc_si v3 ++ List.map enc_si ([((gt p1 v4).1, (gt p1 v4).2)] : List (ByteArray × Int))))]⟩) (C := True) (by kernel_rfl) trivial trivial ?_
          refine ⟨(fu, (v3 ++ ([((gt p1 v4).1, (gt p1 v4).2)] : List (ByteArray × Int)), IntKind.wrap .i64 (v4 + 1))), h, Nat.lt_succ_self _, ?_⟩
          refine Wk.trans (Wk.swap 0 3 (Nat.le_of_ble_eq_true (by kernel_rfl)) (Nat.le_of_ble_eq_true (by kernel_rfl)) rfl) ?_
          refine Wk.trans (Wk.forget [3, 7, 8, 9] [0] (s' := ⟨[(3, .sl 0 0 ((v3 ++ ([((gt p1 v4).1, (gt p1 v4).2)] : List (ByteArray × Int))).length)), (7, .bs false 2 (List.map enc_si p1)), (8, .v (.int .i64 (p1.length : Int))), (9, .v (.int .i64 (IntKind.wrap .i64 (v4 + 1))))], [(0, .arr 2 (List.map enc_si v3 ++ List.map enc_si ([((gt p1 v4).1, (gt p1 v4).2)] : List (ByteArray × Int))))]⟩) (by kernel_rfl)) ?_
          refine Wk.trans (Wk.of_eq (congrArg (fun z => (⟨[(3, .sl 0 0 ((v3 ++ ([((gt p1 v4).1, (gt p1 v4).2)] : List (ByteArray × Int))).length)), (7, .bs false 2 (List.map enc_si p1)), (8, .v (.int .i64 (p1.length : Int))), (9, .v (.int .i64 (IntKind.wrap .i64 (v4 + 1))))], [(0, .arr 2 (z))]⟩ : S)) (app_can (enc := enc_si) rfl (rfl) : List.map enc_si v3 ++ List.map enc_si ([((gt p1 v4).1, (gt p1 v4).2)] : List (ByteArray × Int)) = List.map enc_si (v3 ++ ([((gt p1 v4).1, (gt p1 v4).2)] : List (ByteArray × Int)))))) ?_
          exact Wk.refl _
        · replace h := cd_f b6 h
          refine AX.condF (decide (x6 < 0)) (by kernel_rfl) b6 ?_
          refine AX.skip ?_
          refine AX.reg (its := [.auto { raw := true }]) [3, 7, 8, 9] [0] (s1 := ⟨[(3, .sl 0 0 v3.length), (7, .bs false 2 (List.map enc_si p1)), (8, .v (.int .i64 (p1.length : Int))), (9, .v (.int .i64 (IntKind.wrap .i64 (v4 + 1))))], [(0, .arr 2 (List.map enc_si v3))]⟩) (C := True) (by kernel_rfl) trivial trivial ?_
          refine ⟨(fu, (v3, IntKind.wrap .i64 (v4 + 1))), h, Nat.lt_succ_self _, ?_⟩
          refine Wk.trans (Wk.forget [3, 7, 8, 9] [0] (s' := ⟨[(3, .sl 0 0 v3.length), (7, .bs false 2 (List.map enc_si p1)), (8, .v (.int .i64 (p1.length : Int))), (9, .v (.int .i64 (IntKind.wrap .i64 (v4 + 1))))], [(0, .arr 2 (List.map enc_si v3))]⟩) (by kernel_rfl)) ?_
          exact Wk.refl _
      · replace h := cd_f b4 h
        refine AX.reg (its := [.auto {}, .auto {}, .call 88 [.v (.int .i64 ((gt p1 v4).2))] (handO (rho ([] ++ [])) [] [] ++ []) (callEv [] [] (.v (.bool false)) [])]) [3, 5, 7, 8, 9, 22] [0, 1] (s1 := ⟨[(3, .sl 0 0 v3.length), (5, .pt 1 0), (7, .bs false 2 (List.map enc_si p1)), (8, .v (.int .i64 (p1.length : Int))), (9, .v (.int .i64 v4)), (22, .v (.bool false))], [(0, .arr 2 (List.map enc_si v3)), (1, .box [.v (.string ((gt p1 v4).1)), .v (.int .i64 ((gt p1 v4).2))])]⟩) (C := ((([.v (.int .i64 ((gt p1 v4).2))] : List AV) = [.v (.int .i64 ((gt p1 v4).2))]) ∧ True) ∧ True) (by kernel_rfl) ⟨⟨rfl, trivial⟩, trivial⟩ ⟨call_ok (ks := []) (ns := []) (bor := []) (bobjs := []) (show Eng.Spec Tryz.prog 88 [.v (.int .i64 ((gt p1 v4).2))] [] (.v (.bool false)) [] from by have q := s_impl_single ((gt p1 v4).2) x5 e3; rw [b4] at q; exact q) (.cons (.c1 (.c0 (.same _ (by kernel_rfl) (by kernel_rfl)))) (.nil)) (by kernel_rfl) trivial, trivial⟩ ?_
        refine AX.cond_false (by kernel_rfl) ?_
        refine AX.skip ?_
        refine AX.reg (its := [.auto { raw := true }]) [3, 7, 8, 9] [0] (s1 := ⟨[(3, .sl 0 0 v3.length), (7, .bs false 2 (List.map enc_si p1)), (8, .v (.int .i64 (p1.length : Int))), (9, .v (.int .i64 (IntKind.wrap .i64 (v4 + 1))))], [(0, .arr 2 (List.map enc_si v3))]⟩) (C := True) (by kernel_rfl) trivial trivial ?_
        refine ⟨(fu, (v3, IntKind.wrap .i64 (v4 + 1))), h, Nat.lt_succ_self _, ?_⟩
        refine Wk.trans (Wk.forget [3, 7, 8, 9] [0] (s' := ⟨[(3, .sl 0 0 v3.length), (7, .bs false 2 (List.map enc_si p1)), (8, .v (.int .i64 (p1.length : Int))), (9, .v (.int .i64 (IntKind.wrap .i64 (v4 + 1))))], [(0, .arr 2 (List.map enc_si v3))]⟩) (by kernel_rfl)) ?_
        exact Wk.refl _
    · replace h := cd_f b1 h
      refine AX.condF (decide (v4 < (p1.length : Int))) (by kernel_rfl) b1 ?_
      refine AX.exit ?_
      refine fin_wk (Wk.forget [3] [0] (s' := ⟨[(3, .sl 0 0 v3.length)], [(0, .arr 2 (List.map enc_si v3))]⟩) (by kernel_rfl)) ?_
      have hr := Option.some.inj h
      subst hr
      exact ⟨_, Wk.refl _, ⟨rfl, rfl⟩⟩

theorem s_impl_Flag_singles (p1 : List (ByteArray × Int)) (p2 : Int) (r : List (ByteArray × Int)) (h : m_impl_Flag_singles p1 p2 = some r) :
    Eng.Spec Tryz.prog 52 [.agg [.bs false 2 (List.map enc_si p1), .v (.int .i64 p2)]] [] (.sl 0 0 r.length) [.arr 2 (List.map enc_si r)] := by
  unfold m_impl_Flag_singles at h
  refine Eng.Spec.body Tryz.func52 (by kernel_rfl) rfl (by kernel_rfl) ?_
  refine AX.wkpost ?_
  refine AX.seq ?_
  refine AX.reg (its := [.auto { nk := 0 }]) [1] [0] (s1 := ⟨[(1, .pt 0 0)], [(0, .box [.bs false 2 (List.map enc_si p1), .v (.int .i64 p2)])]⟩) (C := True) (by kernel_rfl) trivial trivial ?_
  refine AX.seq ?_
  refine AX.reg (its := []) [1, 3] [0] (s1 := ⟨[(1, .pt 0 0), (3, .v (.slice none 0 0))], [(0, .box [.bs false 2 (List.map enc_si p1), .v (.int .i64 p2)])]⟩) (C := True) (by kernel_rfl) trivial trivial ?_
  refine AX.seq ?_
  refine AX.seq ?_
  refine AX.reg (its := [.auto {}, .auto {}, .auto { y := some (.v (.int .i64 (p1.length : Int))) }]) [3, 7, 8, 9] [] (s1 := ⟨[(3, .v (.slice none 0 0)), (7, .bs false 2 (List.map enc_si p1)), (8, .v (.int .i64 (p1.length : Int))), (9, .v (.int .i64 0))], []⟩) (C := (True ∧ (AV.v (.int .i64 ((List.map enc_si p1).length : Int)) = AV.v (.int .i64 (p1.length : Int)))) ∧ True) (by kernel_rfl) ⟨⟨trivial, len_map enc_si p1⟩, trivial⟩ trivial ?_
  refine AX.block ?_
  obtain ⟨x7, e8, h⟩ := bd_e h
  refine AX.wk (Wk.mat 3 0 2 (by kernel_rfl) (Nat.le_of_ble_eq_true (by kernel_rfl)) (by kernel_rfl) rfl) ?_
  refine AX.wk (Wk.forget [3, 7, 8, 9] [0] (s' := ⟨[(3, .sl 0 0 (([] : List (ByteArray × Int)).length)), (7, .bs false 2 (List.map enc_si p1)), (8, .v (.int .i64 (p1.length : Int))), (9, .v (.int .i64 0))], [(0, .arr 2 (List.map enc_si ([] : List (ByteArray × Int))))]⟩) (by kernel_rfl)) ?_
  refine AX.mono (s_impl_Flag_singles_L1 p1 FU (([] : List (ByteArray × Int)), 0) x7 e8) ?_
  rintro _ _ ⟨rfl, rfl⟩
  skip
  refine AX.seq ?_
  obtain ⟨x8, e9, h⟩ := bd_e h
  obtain ⟨g10, h⟩ := gd_e h
  refine AX.reg (its := [.auto {}, .call 89 [.sl 0 0 x7.length, .fn 90 []] (handO (rho ([0] ++ [])) [0] [.arr 2 (List.map enc_si x7)] ++ []) (callEv [0] [] (.tup []) [.arr 2 (List.map enc_si x8)])]) [3] [0] (s1 := ⟨[(3, .sl 0 0 x7.length)], [(0, .arr 2 (List.map enc_si x8))]⟩) (C := ((([.sl 0 0 x7.length, .fn 90 []] : List AV) = [.sl 0 0 x7.length, .fn 90 []]) ∧ (AO.arr 2 (List.map enc_si x7) = AO.arr 2 (List.map enc_si x7)) ∧ True) ∧ True) (by kernel_rfl) ⟨⟨rfl, rfl, trivial⟩, trivial⟩ ⟨call_ok (ks := [0]) (ns := []) (bor := []) (bobjs := []) (s_slices_SortFunc_h_Flag_singles_1_si x7 x8 e9) (.cons (.c1 (.c0 (.same _ (by kernel_rfl) (by kernel_rfl)))) (.cons (.fn (.nil)) (.nil))) (by kernel_rfl) ⟨.inr (arr_sh (enc := enc_si) g10), trivial⟩, trivial⟩ ?_
  refine AX.seq ?_
  refine AX.reg (its := []) [2] [0] (s1 := ⟨[(2, .sl 0 0 x7.length)], [(0, .arr 2 (List.map enc_si x8))]⟩) (C := True) (by kernel_rfl) trivial trivial ?_
  refine AX.ret ?_
  refine fin_wk (Wk.forget [2] [0] (s' := ⟨[(2, .sl 0 0 x7.length)], [(0, .arr 2 (List.map enc_si x8))]⟩) (by kernel_rfl)) ?_
  refine fin_wk (Wk.of_eq (congrArg (fun z => (⟨[(2, .sl 0 0 z)], [(0, .arr 2 (List.map enc_si x8))]⟩ : S)) (((rfl : x7.length = x7.length)).trans (g10).symm))) ?_
  have hr := Option.some.inj h
  subst hr
  exact ⟨_, Wk.refl _, .inr rfl, ⟨[0], by kernel_rfl, ⟨rfl, trivial⟩, [.sl 0 0 x8.length], by kernel_rfl, by kernel_rfl⟩⟩

theorem s_impl_Flag_namesIn_1_l (p1 : ByteArray) (p2 : Int) (p3 : Int) (r : Unit) (h : m_impl_Flag_namesIn_1_l p1 p2 p3 = some r) :
    Eng.Spec Tryz.prog 77 [.agg [.v (.string p1), .v (.int .i64 p2)], .bp [.v (.int .i64 p3)] 0] [] (.v (.bool (!decide ((Go.bits .and .i64 p3 p2) = 0)))) [] := by
  unfold m_impl_Flag_namesIn_1_l at h
  refine Eng.Spec.body Tryz.func77 (by kernel_rfl) rfl (by kernel_rfl) ?_
  refine AX.wkpost ?_
  refine AX.seq ?_
  refine AX.reg (its := [.auto { nk := 0 }]) [1, 2] [0] (s1 := ⟨[(1, .bp [.v (.int .i64 p3)] 0), (2, .pt 0 0)], [(0, .box [.v (.string p1), .v (.int .i64 p2)])]⟩) (C := True) (by kernel_rfl) trivial trivial ?_
  refine AX.seq ?_
  refine AX.reg (its := []) [3] [] (s1 := ⟨[(3, .v (.bool (!decide ((Go.bits .and .i64 p3 p2) = 0))))], []⟩) (C := True) (by kernel_rfl) trivial trivial ?_
  refine AX.ret ?_
  refine fin_wk (Wk.forget [3] [] (s' := ⟨[(3, .v (.bool (!decide ((Go.bits .and .i64 p3 p2) = 0))))], []⟩) (by kernel_rfl)) ?_
  have hr := Option.some.inj h
  subst hr
  exact ⟨_, Wk.refl _, .inr rfl, ⟨[], by kernel_rfl, trivial, [.v (.bool (!decide ((Go.bits .and .i64 p3 p2) = 0)))], by kernel_rfl, by kernel_rfl⟩⟩

theorem s_impl_names_Flag_namesIn_1_l_L1 (p1 : List (ByteArray × Int)) (p2 : Int) (n : Nat) (g : List (ByteArray) × Int) (out : List (ByteArray)) (h : m_impl_names_Flag_namesIn_1_l_L1 p1 p2 n g.1 g.2 = some out) :
    AX Tryz.prog 25 0 (codeAt [1, 1, 0, 1, 1] (bodyOf Tryz.f42)) ((fun g : List (ByteArray) × Int => (⟨[(1, .fn 77 [.bp [.v (.int .i64 p2)] 0]), (5, .sl 0 0 g.1.length), (8, .bs false 2 (List.map enc_si p1)), (9, .v (.int .i64 (p1.length : Int))), (10, .v (.int .i64 g.2))], [(0, .arr 1 (List.map enc_s g.1))]⟩ : S)) g) (fun ex s => ex = .exit 0 ∧ s = (fun o : List (ByteArray) => (⟨[(5, .sl 0 0 o.length)], [(0, .arr 1 (List.map enc_s o))]⟩ : S)) out) := by
  refine AX.wkpost ?_
  refine AX.loop (G := Nat × (List (ByteArray) × Int)) (fun q => (fun g : List (ByteArray) × Int => (⟨[(1, .fn 77 [.bp [.v (.int .i64 p2)] 0]), (5, .sl 0 0 g.1.length), (8, .bs false 2 (List.map enc_si p1)), (9, .v (.int .i64 (p1.length : Int))), (10, .v (.int .i64 g.2))], [(0, .arr 1 (List.map enc_s g.1))]⟩ : S)) q.2) (fun q => m_impl_names_Flag_namesIn_1_l_L1 p1 p2 q.1 q.2.1 q.2.2 = some out) (fun q => q.1) (n, g) h (Wk.refl _) ?_
  clear h
  rintro ⟨fu, v3, v4⟩ h
  cases fu with
  | zero => cases h
  | succ fu =>
    rw [m_impl_names_Flag_namesIn_1_l_L1] at h
    refine AX.seq ?_
    refine AX.reg (its := []) [1, 5, 8, 9, 10, 11] [0] (s1 := ⟨[(1, .fn 77 [.bp [.v (.int .i64 p2)] 0]), (5, .sl 0 0 v3.length), (8, .bs false 2 (List.map enc_si p1)), (9, .v (.int .i64 (p1.length : Int))), (10, .v (.int .i64 v4)), (11, .v (.bool (decide (v4 < (p1.length : Int)))))], [(0, .arr 1 (List.map enc_s v3))]⟩) (C := True) (by kernel_rfl) trivial trivial ?_
    refine AX.seq ?_
    rcases bool_cases (decide (v4 < (p1.length : Int))) with b1 | b1
    · replace h := cd_t b1 h
      refine AX.condT (decide (v4 < (p1.length : Int))) (by kernel_rfl) b1 ?_
      refine AX.skip ?_
      refine AX.seq ?_
      refine AX.block ?_
      refine AX.seq ?_
      obtain ⟨g2, h⟩ := gd_e h
      refine AX.reg (its := [.auto { y := some (.be 2 (enc_si (gt p1 v4)) 0) }, .auto {}, .auto { nk := 1 }]) [1, 5, 7, 8, 9, 10] [0, 1] (s1 := ⟨[(1, .fn 77 [.bp [.v (.int .i64 p2)] 0]), (5, .sl 0 0 v3.length), (7, .pt 1 0), (8, .bs false 2 (List.map enc_si p1)), (9, .v (.int .i64 (p1.length : Int))), (10, .v (.int .i64 v4))], [(0, .arr 1 (List.map enc_s v3)), (1, .box [.v (.string ((gt p1 v4).1)), .v (.int .i64 ((gt p1 v4).2))])]⟩) (C := ((0 ≤ v4 ∧ v4 < ((List.map enc_si p1).length : Int)) ∧ (AV.be 2 ((List.map enc_si p1).getD v4.toNat []) 0 = AV.be 2 (enc_si (gt p1 v4)) 0)) ∧ True) (by kernel_rfl) ⟨idx_bs enc_si p1 v4 2 g2, trivial⟩ trivial ?_
      refine AX.seq ?_
      obtain ⟨x5, e3, h⟩ := bd_e h
      refine AX.reg (its := [.auto {}, .auto {}, .call 77 [.agg [.v (.string ((gt p1 v4).1)), .v (.int .i64 ((gt p1 v4).2))], .bp [.v (.int .i64 p2)] 0] (handO (rho ([] ++ [])) [] [] ++ []) (callEv [] [] (.v (.bool (!decide ((Go.bits .and .i64 p2 ((gt p1 v4).2)) = 0)))) [])]) [1, 5, 7, 8, 9, 10, 16] [0, 1] (s1 := ⟨[(1, .fn 77 [.bp [.v (.int .i64 p2)] 0]), (5, .sl 0 0 v3.length), (7, .pt 1 0), (8, .bs false 2 (List.map enc_si p1)), (9, .v (.int .i64 (p1.length : Int))), (10, .v (.int .i64 v4)), (16, .v (.bool (!decide ((Go.bits .and .i64 p2 ((gt p1 v4).2)) = 0))))], [(0, .arr 1 (List.map enc_s v3)), (1, .box [.v (.string ((gt p1 v4).1)), .v (.int .i64 ((gt p1 v4).2))])]⟩) (C := ((([.agg [.v (.string ((gt p1 v4).1)), .v (.int .i64 ((gt p1 v4).2))], .bp [.v (.int .i64 p2)] 0] : List AV) = [.agg [.v (.string ((gt p1 v4).1)), .v (.int .i64 ((gt p1 v4).2))], .bp [.v (.int .i64 p2)] 0]) ∧ True) ∧ True) (by kernel_rfl) ⟨⟨rfl, trivial⟩, trivial⟩ ⟨call_ok (ks := []) (ns := []) (bor := []) (bobjs := []) (s_impl_Flag_namesIn_1_l ((gt p1 v4).1) ((gt p1 v4).2) p2 x5 e3) (.cons (.c1 (.agg (.cons (.same _ (by kernel_rfl) (by kernel_rfl)) (.cons (.same _ (by kernel_rfl) (by kernel_rfl)) (.nil))))) (.cons (.c1 (.bp (.cons (.same _ (by kernel_rfl) (by kernel_rfl)) (.nil)))) (.nil))) (by kernel_rfl) trivial, trivial⟩ ?_
      rcases bool_cases ((!decide ((Go.bits .and .i64 p2 ((gt p1 v4).2)) = 0))) with b4 | b4
      · replace h := cd_t b4 h
        refine AX.condT ((!decide ((Go.bits .and .i64 p2 ((gt p1 v4).2)) = 0))) (by kernel_rfl) b4 ?_
        obtain ⟨g5, h⟩ := gd_e h
        refine AX.reg (its := [.auto {}, .auto {}, .auto {}, .auto { nk := 2 }, .auto { y := some (.sl 3 0 ((v3 ++ ([(gt p1 v4).1] : List (ByteArray))).length)), els := some (List.map enc_s v3), els2 := some (List.map enc_s ([(gt p1 v4).1] : List (ByteArray))), nk := 3 }]) [1, 5, 8, 9, 10] [3] (s1 := ⟨[(1, .fn 77 [.bp [.v (.int .i64 p2)] 0]), (5, .sl 3 0 ((v3 ++ ([(gt p1 v4).1] : List (ByteArray))).length)), (8, .bs false 2 (List.map enc_si p1)), (9, .v (.int .i64 (p1.length : Int))), (10, .v (.int .i64 v4))], [(3, .arr 1 (List.map enc_s v3 ++ List.map enc_s ([(gt p1 v4).1] : List (ByteArray))))]⟩) (C := ((((((List.map enc_s v3).drop 0).take (v3.length) = List.map enc_s v3) ∧ (((List.map enc_s ([(gt p1 v4).1] : List (ByteArray))).drop 0).take (([(gt p1 v4).1] : List (ByteArray)).length) = List.map enc_s ([(gt p1 v4).1] : List (ByteArray)))) ∧ (List.map enc_s v3).length + (List.map enc_s ([(gt p1 v4).1] : List (ByteArray))).length ≤ 1099511627776) ∧ (AV.sl 3 0 (List.map enc_s v3 ++ List.map enc_s ([(gt p1 v4).1] : List (ByteArray))).length = AV.sl 3 0 (v3 ++ ([(gt p1 v4).1] : List (ByteArray))).length)) ∧ True) (by kernel_rfl) ⟨⟨⟨⟨(dt_all (enc := enc_s) rfl rfl), (dt_all (enc := enc_s) rfl rfl)⟩, (by simp only [List.length_map, List.length_nil, List.length_replicate]; simpa using g5)⟩, sl_len (enc := enc_s) (app_can (enc := enc_s) rfl (rfl))⟩, trivial⟩ trivial ?_
        refine AX.reg (its := [.auto { raw := true }]) [1, 5, 8, 9, 10] [3] (s1 := ⟨[(1, .fn 77 [.bp [.v (.int .i64 p2)] 0]), (5, .sl 3 0 ((v3 ++ ([(gt p1 v4).1] : List (ByteArray))).length)), (8, .bs false 2 (List.map enc_si p1)), (9, .v (.int .i64 (p1.length : Int))), (10, .v (.int .i64 (IntKind.wrap .i64 (v4 + 1))))], [(3, .arr 1 (List.map enc_s v3 ++ List.map enc_s ([(gt p1 v4).1] : List (ByteArray))))]⟩) (C := True) (by kernel_rfl) trivial trivial ?_
        refine ⟨(fu, (v3 ++ ([(gt p1 v4).1] : List (ByteArray)), IntKind.wrap .i64 (v4 + 1))), h, Nat.lt_succ_self _, ?_⟩
        refine Wk.trans (Wk.swap 0 3 (Nat.le_of_ble_eq_true (by kernel_rfl)) (Nat.le_of_ble_eq_true (by kernel_rfl)) rfl) ?_
        refine Wk.trans (Wk.forget [1, 5, 8, 9, 10] [0] (s' := ⟨[(1, .fn 77 [.bp [.v (.int .i64 p2)] 0]), (5, .sl 0 0 ((v3 ++ ([(gt p1 v4).1] : List (ByteArray))).length)), (8, .bs false 2 (List.map enc_si p1)), (9, .v (.int .i64 (p1.length : Int))), (10, .v (.int .i64 (IntKind.wrap .i64 (v4 + 1))))], [(0, .arr 1 (List.map enc_s v3 ++ List.map enc_s ([(gt p1 v4).1] : List (ByteArray))))]⟩) (by kernel_rfl)) ?_
        refine Wk.trans (Wk.of_eq (congrArg (fun z => (⟨[(1, .fn 77 [.bp [.v (.int .i64 p2)] 0]), (5, .sl 0 0 ((v3 ++ ([(gt p1 v4).1] : List (ByteArray))).length)), (8, .bs false 2 (List.map enc_si p1)), (9, .v (.int .i64 (p1.length : Int))), (10, .v (.int .i64 (IntKind.wrap .i64 (v4 + 1))))], [(0, .arr 1 (z))]⟩ : S)) (app_can (enc := enc_s) rfl (rfl) : List.map enc_s v3 ++ List.map enc_s ([(gt p1 v4).1] : List (ByteArray)) = List.map enc_s (v3 ++ ([(gt p1 v4).1] : List (ByteArray)))))) ?_
        exact Wk.refl _
      · replace h := cd_f b4 h
        refine AX.condF ((!decide ((Go.bits .and .i64 p2 ((gt p1 v4).2)) = 0))) (by kernel_rfl) b4 ?_
        refine AX.skip ?_
        refine AX.reg (its := [.auto { raw := true }]) [1, 5, 8, 9, 10] [0] (s1 := ⟨[(1, .fn 77 [.bp [.v (.int .i64 p2)] 0]), (5, .sl 0 0 v3.length), (8, .bs false 2 (List.map enc_si p1)), (9, .v (.int .i64 (p1.length : Int))), (10, .v (.int .i64 (IntKind.wrap .i64 (v4 + 1))))], [(0, .arr 1 (List.map enc_s v3))]⟩) (C := True) (by kernel_rfl) trivial trivial ?_
        refine ⟨(fu, (v3, IntKind.wrap .i64 (v4 + 1))), h, Nat.lt_succ_self _, ?_⟩
        refine Wk.trans (Wk.forget [1, 5, 8, 9, 10] [0] (s' := ⟨[(1, .fn 77 [.bp [.v (.int .i64 p2)] 0]), (5, .sl 0 0 v3.length), (8, .bs false 2 (List.map enc_si p1)), (9, .v (.int .i64 (p1.length : Int))), (10, .v (.int .i64 (IntKind.wrap .i64 (v4 + 1))))], [(0, .arr 1 (List.map enc_s v3))]⟩) (by kernel_rfl)) ?_
        exact Wk.refl _
    · replace h := cd_f b1 h
      refine AX.condF (decide (v4 < (p1.length : Int))) (by kernel_rfl) b1 ?_
      refine AX.exit ?_
      refine fin_wk (Wk.forget [5] [0] (s' := ⟨[(5, .sl 0 0 v3.length)], [(0, .arr 1 (List.map enc_s v3))]⟩) (by kernel_rfl)) ?_
      have hr := Option.some.inj h
      subst hr
      exact ⟨_, Wk.refl _, ⟨rfl, rfl⟩⟩

theorem s_impl_names_Flag_namesIn_1_l (p1 : List (ByteArray × Int)) (p2 : Int) (r : List (ByteArray)) (h : m_impl_names_Flag_namesIn_1_l p1 p2 = some r) :
    Eng.Spec Tryz.prog 42 [.bs false 2 (List.map enc_si p1), .fn 77 [.bp [.v (.int .i64 p2)] 0]] [] (.sl 0 0 r.length) [.arr 1 (List.map enc_s r)] := by
  unfold m_impl_names_Flag_namesIn_1_l at h
  refine Eng.Spec.body Tryz.func42 (by kernel_rfl) rfl (by kernel_rfl) ?_
  refine AX.wkpost ?_
  refine AX.seq ?_
  refine AX.reg (its := []) [0, 1] [] (s1 := ⟨[(0, .bs false 2 (List.map enc_si p1)), (1, .fn 77 [.bp [.v (.int .i64 p2)] 0])], []⟩) (C := True) (by kernel_rfl) trivial trivial ?_
  refine AX.seq ?_
  refine AX.reg (its := []) [0, 1, 5] [] (s1 := ⟨[(0, .bs false 2 (List.map enc_si p1)), (1, .fn 77 [.bp [.v (.int .i64 p2)] 0]), (5, .v (.slice none 0 0))], []⟩) (C := True) (by kernel_rfl) trivial trivial ?_
  refine AX.seq ?_
  refine AX.seq ?_
  refine AX.reg (its := [.auto {}, .auto { y := some (.v (.int .i64 (p1.length : Int))) }]) [1, 5, 8, 9, 10] [] (s1 := ⟨[(1, .fn 77 [.bp [.v (.int .i64 p2)] 0]), (5, .v (.slice none 0 0)), (8, .bs false 2 (List.map enc_si p1)), (9, .v (.int .i64 (p1.length : Int))), (10, .v (.int .i64 0))], []⟩) (C := (True ∧ (AV.v (.int .i64 ((List.map enc_si p1).length : Int)) = AV.v (.int .i64 (p1.length : Int)))) ∧ True) (by kernel_rfl) ⟨⟨trivial, len_map enc_si p1⟩, trivial⟩ trivial ?_
  refine AX.block ?_
  obtain ⟨x6, e6, h⟩ := bd_e h
  refine AX.wk (Wk.mat 5 0 1 (by kernel_rfl) (Nat.le_of_ble_eq_true (by kernel_rfl)) (by kernel_rfl) rfl) ?_
  refine AX.wk (Wk.forget [1, 5, 8, 9, 10] [0] (s' := ⟨[(1, .fn 77 [.bp [.v (.int .i64 p2)] 0]), (5, .sl 0 0 (([] : List (ByteArray)).length)), (8, .bs false 2 (List.map enc_si p1)), (9, .v (.int .i64 (p1.length : Int))), (10, .v (.int .i64 0))], [(0, .arr 1 (List.map enc_s ([] : List (ByteArray))))]⟩) (by kernel_rfl)) ?_
  refine AX.mono (s_impl_names_Flag_namesIn_1_l_L1 p1 p2 FU (([] : List (ByteArray)), 0) x6 e6) ?_
  rintro _ _ ⟨rfl, rfl⟩
  skip
  refine AX.seq ?_
  obtain ⟨x7, e7, h⟩ := bd_e h
  refine AX.reg (its := [.auto {}, .call 80 [.sl 0 0 x6.length] (handO (rho ([0] ++ [])) [0] [.arr 1 (List.map enc_s x6)] ++ []) (callEv [0] [] (.sl 0 0 x6.length) [.arr 1 (List.map enc_s x6)])]) [4] [0] (s1 := ⟨[(4, .sl 0 0 x6.length)], [(0, .arr 1 (List.map enc_s x6))]⟩) (C := ((([.sl 0 0 x6.length] : List AV) = [.sl 0 0 x6.length]) ∧ (AO.arr 1 (List.map enc_s x6) = AO.arr 1 (List.map enc_s x6)) ∧ True) ∧ True) (by kernel_rfl) ⟨⟨rfl, rfl, trivial⟩, trivial⟩ ⟨call_ok (ks := [0]) (ns := []) (bor := []) (bobjs := []) (s_slices_Clip_hs x6 x7 e7) (.cons (.c1 (.c0 (.same _ (by kernel_rfl) (by kernel_rfl)))) (.nil)) (by kernel_rfl) ⟨.inr rfl, trivial⟩, trivial⟩ ?_
  refine AX.ret ?_
  refine fin_wk (Wk.forget [4] [0] (s' := ⟨[(4, .sl 0 0 x6.length)], [(0, .arr 1 (List.map enc_s x6))]⟩) (by kernel_rfl)) ?_
  have hr := Option.some.inj h
  subst hr
  exact ⟨_, Wk.refl _, .inr rfl, ⟨[0], by kernel_rfl, ⟨rfl, trivial⟩, [.sl 0 0 x6.length], by kernel_rfl, by kernel_rfl⟩⟩

theorem s_impl_Flag_namesIn_L1 (x5 : List (ByteArray)) (x6 : List (ByteArray × Int)) (n : Nat) (g : Int × Int) (out : Int) (h : m_impl_Flag_namesIn_L1 x5 x6 n g.1 g.2 = some out) :
    AX Tryz.prog 29 0 (codeAt [1, 1, 1, 0, 1, 1] (bodyOf Tryz.f39)) ((fun g : Int × Int => (⟨[(6, .v (.int .i64 g.1)), (7, .sl 0 0 x5.length), (16, .sl 1 0 x6.length), (17, .v (.int .i64 (x6.length : Int))), (18, .v (.int .i64 g.2))], [(0, .arr 1 (List.map enc_s x5)), (1, .arr 2 (List.map enc_si x6))]⟩ : S)) g) (fun ex s => ex = .exit 0 ∧ s = (fun o : Int => (⟨[(6, .v (.int .i64 o)), (7, .sl 0 0 x5.length)], [(0, .arr 1 (List.map enc_s x5))]⟩ : S)) out) := by
  refine AX.wkpost ?_
  refine AX.loop (G := Nat × (Int × Int)) (fun q => (fun g : Int × Int => (⟨[(6, .v (.int .i64 g.1)), (7, .sl 0 0 x5.length), (16, .sl 1 0 x6.length), (17, .v (.int .i64 (x6.length : Int))), (18, .v (.int .i64 g.2))], [(0, .arr 1 (List.map enc_s x5)), (1, .arr 2 (List.map enc_si x6))]⟩ : S)) q.2) (fun q => m_impl_Flag_namesIn_L1 x5 x6 q.1 q.2.1 q.2.2 = some out) (fun q => q.1) (n, g) h (Wk.refl _) ?_
  clear h
  rintro ⟨fu, v7, v8⟩ h
  cases fu with
  | zero => cases h
  | succ fu =>
    rw [m_impl_Flag_namesIn_L1] at h
    refine AX.seq ?_
    refine AX.reg (its := []) [6, 7, 16, 17, 18, 19] [0, 1] (s1 := ⟨[(6, .v (.int .i64 v7)), (7, .sl 0 0 x5.length), (16, .sl 1 0 x6.length), (17, .v (.int .i64 (x6.length : Int))), (18, .v (.int .i64 v8)), (19, .v (.bool (decide (v8 < (x6.length : Int)))))], [(0, .arr 1 (List.map enc_s x5)), (1, .arr 2 (List.map enc_si x6))]⟩) (C := True) (by kernel_rfl) trivial trivial ?_
    refine AX.seq ?_
    rcases bool_cases (decide (v8 < (x6.length : Int))) with b4 | b4
    · replace h := cd_t b4 h
      refine AX.condT (decide (v8 < (x6.length : Int))) (by kernel_rfl) b4 ?_
      refine AX.skip ?_
      refine AX.seq ?_
      refine AX.block ?_
      refine AX.seq ?_
      obtain ⟨g5, h⟩ := gd_e h
      refine AX.reg (its := [.auto {}, .auto { y := some (.agg [.v (.string ((gt x6 v8).1)), .v (.int .i64 ((gt x6 v8).2))]) }, .auto { nk := 2 }]) [6, 7, 9, 16, 17, 18] [0, 1, 2] (s1 := ⟨[(6, .v (.int .i64 v7)), (7, .sl 0 0 x5.length), (9, .pt 2 0), (16, .sl 1 0 x6.length), (17, .v (.int .i64 (x6.length : Int))), (18, .v (.int .i64 v8))], [(0, .arr 1 (List.map enc_s x5)), (1, .arr 2 (List.map enc_si x6)), (2, .box [.v (.string ((gt x6 v8).1)), .v (.int .i64 ((gt x6 v8).2))])]⟩) (C := (0 ≤ v8 ∧ v8 < (x6.length : Int)) ∧ (True ∧ (AV.agg ((((List.map enc_si x6).getD (0 + v8.toNat) []).drop 0 |>.take 2).map .v) = .agg [.v (.string ((gt x6 v8).1)), .v (.int .i64 ((gt x6 v8).2))])) ∧ True) (by kernel_rfl) ⟨g5, ⟨⟨trivial, (congrArg (fun z : List Value => AV.agg (((z.drop 0).take 2).map .v)) (idx_arr (enc := enc_si) rfl g5))⟩, trivial⟩⟩ trivial ?_
      refine AX.reg (its := []) [6, 7, 16, 17, 18] [0, 1] (s1 := ⟨[(6, .v (.int .i64 (Go.bits .andNot .i64 v7 ((gt x6 v8).2)))), (7, .sl 0 0 x5.length), (16, .sl 1 0 x6.length), (17, .v (.int .i64 (x6.length : Int))), (18, .v (.int .i64 v8))], [(0, .arr 1 (List.map enc_s x5)), (1, .arr 2 (List.map enc_si x6))]⟩) (C := True) (by kernel_rfl) trivial trivial ?_
      refine AX.reg (its := [.auto { raw := true }]) [6, 7, 16, 17, 18] [0, 1] (s1 := ⟨[(6, .v (.int .i64 (Go.bits .andNot .i64 v7 ((gt x6 v8).2)))), (7, .sl 0 0 x5.length), (16, .sl 1 0 x6.length), (17, .v (.int .i64 (x6.length : Int))), (18, .v (.int .i64 (IntKind.wrap .i64 (v8 + 1))))], [(0, .arr 1 (List.map enc_s x5)), (1, .arr 2 (List.map enc_si x6))]⟩) (C := True) (by kernel_rfl) trivial trivial ?_
      refine ⟨(fu, (Go.bits .andNot .i64 v7 ((gt x6 v8).2), IntKind.wrap .i64 (v8 + 1))), h, Nat.lt_succ_self _, ?_⟩
      refine Wk.trans (Wk.forget [6, 7, 16, 17, 18] [0, 1] (s' := ⟨[(6, .v (.int .i64 (Go.bits .andNot .i64 v7 ((gt x6 v8).2)))), (7, .sl 0 0 x5.length), (16, .sl 1 0 x6.length), (17, .v (.int .i64 (x6.length : Int))), (18, .v (.int .i64 (IntKind.wrap .i64 (v8 + 1))))], [(0, .arr 1 (List.map enc_s x5)), (1, .arr 2 (List.map enc_si x6))]⟩) (by kernel_rfl)) ?_
      exact Wk.refl _
    · replace h := cd_f b4 h
      refine AX.condF (decide (v8 < (x6.length : Int))) (by kernel_rfl) b4 ?_
      refine AX.exit ?_
      refine fin_wk (Wk.forget [6, 7] [0] (s' := ⟨[(6, .v (.int .i64 v7)), (7, .sl 0 0 x5.length)], [(0, .arr 1 (List.map enc_s x5))]⟩) (by kernel_rfl)) ?_
      have hr := Option.some.inj h
      subst hr
      exact ⟨_, Wk.refl _, ⟨rfl, rfl⟩⟩

theorem s_impl_Flag_namesIn (p1 : List (ByteArray × Int)) (p2 : Int) (p3 : Int) (r : List (ByteArray) × Int) (h : m_impl_Flag_namesIn p1 p2 p3 = some r) :
    Eng.Spec Tryz.prog 39 [.agg [.bs false 2 (List.map enc_si p1), .v (.int .i64 p2)], .v (.int .i64 p3)] [] (.tup [.sl 0 0 r.1.length, .v (.int .i64 r.2)]) [.arr 1 (List.map enc_s r.1)] := by
  unfold m_impl_Flag_namesIn at h
  refine Eng.Spec.body Tryz.func39 (by kernel_rfl) rfl (by kernel_rfl) ?_
  refine AX.wkpost ?_
  refine AX.seq ?_
  refine AX.reg (its := [.auto { nk := 0 }, .auto { nk := 1 }]) [2, 3] [0, 1] (s1 := ⟨[(2, .pt 0 0), (3, .pt 1 0)], [(0, .box [.bs false 2 (List.map enc_si p1), .v (.int .i64 p2)]), (1, .box [.v (.int .i64 p3)])]⟩) (C := True) (by kernel_rfl) trivial trivial ?_
  refine AX.seq ?_
  refine AX.reg (its := []) [2, 3, 6] [0, 1] (s1 := ⟨[(2, .pt 0 0), (3, .pt 1 0), (6, .v (.int .i64 p3))], [(0, .box [.bs false 2 (List.map enc_si p1), .v (.int .i64 p2)]), (1, .box [.v (.int .i64 p3)])]⟩) (C := True) (by kernel_rfl) trivial trivial ?_
  refine AX.seq ?_
  obtain ⟨x4, e1, h⟩ := bd_e h
  obtain ⟨x5, e2, h⟩ := bd_e h
  refine AX.reg (its := [.auto {}, .call 52 [.agg [.bs false 2 (List.map enc_si p1), .v (.int .i64 p2)]] (handO (rho ([] ++ [2])) [] [] ++ []) (callEv [] [2] (.sl 0 0 x4.length) [.arr 2 (List.map enc_si x4)]), .auto {}, .call 42 [.sl 2 0 x4.length, .fn 77 [.pt 1 0]] (handO (rho ([] ++ [3])) [] [] ++ [(2, .arr 2 (List.map enc_si x4)), (1, .box [.v (.int .i64 p3)])]) (callEv [] [3] (.sl 0 0 x5.length) [.arr 1 (List.map enc_s x5)])]) [2, 6, 7] [0, 3] (s1 := ⟨[(2, .pt 0 0), (6, .v (.int .i64 p3)), (7, .sl 3 0 x5.length)], [(0, .box [.bs false 2 (List.map enc_si p1), .v (.int .i64 p2)]), (3, .arr 1 (List.map enc_s x5))]⟩) (C := ((([.agg [.bs false 2 (List.map enc_si p1), .v (.int .i64 p2)]] : List AV) = [.agg [.bs false 2 (List.map enc_si p1), .v (.int .i64 p2)]]) ∧ True) ∧ ((([.sl 2 0 x4.length, .fn 77 [.pt 1 0]] : List AV) = [.sl 2 0 x4.length, .fn 77 [.pt 1 0]]) ∧ (AO.arr 2 (List.map enc_si x4) = AO.arr 2 (List.map enc_si x4)) ∧ (AO.box [.v (.int .i64 p3)] = AO.box [.v (.int .i64 p3)]) ∧ True) ∧ True) (by kernel_rfl) ⟨⟨rfl, trivial⟩, ⟨⟨rfl, rfl, rfl, trivial⟩, trivial⟩⟩ ⟨call_ok (ks := []) (ns := [2]) (bor := []) (bobjs := []) (s_impl_Flag_singles p1 p2 x4 e1) (.cons (.c1 (.agg (.cons (.same _ (by kernel_rfl) (by kernel_rfl)) (.cons (.same _ (by kernel_rfl) (by kernel_rfl)) (.nil))))) (.nil)) (by kernel_rfl) trivial, ⟨call_ok (ks := []) (ns := [3]) (bor := [2, 1]) (bobjs := [(2, .arr 2 (List.map enc_si x4)), (1, .box [.v (.int .i64 p3)])]) (s_impl_names_Flag_namesIn_1_l x4 p3 x5 e2) (.cons (.c1 (.c0 (.arr rfl rfl ((rfl).trans (List.length_map ..).symm)))) (.cons (.fn (.cons (.box rfl rfl (.cons (.same _ (by kernel_rfl) (by kernel_rfl)) (.nil))) (.nil))) (.nil))) (by kernel_rfl) trivial, trivial⟩⟩ ?_
  refine AX.seq ?_
  refine AX.seq ?_
  obtain ⟨x6, e3, h⟩ := bd_e h
  refine AX.reg (its := [.auto {}, .call 52 [.agg [.bs false 2 (List.map enc_si p1), .v (.int .i64 p2)]] (handO (rho ([] ++ [4])) [] [] ++ []) (callEv [] [4] (.sl 0 0 x6.length) [.arr 2 (List.map enc_si x6)])]) [6, 7, 16, 17, 18] [3, 4] (s1 := ⟨[(6, .v (.int .i64 p3)), (7, .sl 3 0 x5.length), (16, .sl 4 0 x6.length), (17, .v (.int .i64 (x6.length : Int))), (18, .v (.int .i64 0))], [(3, .arr 1 (List.map enc_s x5)), (4, .arr 2 (List.map enc_si x6))]⟩) (C := ((([.agg [.bs false 2 (List.map enc_si p1), .v (.int .i64 p2)]] : List AV) = [.agg [.bs false 2 (List.map enc_si p1), .v (.int .i64 p2)]]) ∧ True) ∧ True) (by kernel_rfl) ⟨⟨rfl, trivial⟩, trivial⟩ ⟨call_ok (ks := []) (ns := [4]) (bor := []) (bobjs := []) (s_impl_Flag_singles p1 p2 x6 e3) (.cons (.c1 (.agg (.cons (.same _ (by kernel_rfl) (by kernel_rfl)) (.cons (.same _ (by kernel_rfl) (by kernel_rfl)) (.nil))))) (.nil)) (by kernel_rfl) trivial, trivial⟩ ?_
  refine AX.block ?_
  obtain ⟨x9, e6, h⟩ := bd_e h
  refine AX.wk (Wk.swap 0 3 (Nat.le_of_ble_eq_true (by kernel_rfl)) (Nat.le_of_ble_eq_true (by kernel_rfl)) rfl) ?_
  refine AX.wk (Wk.swap 1 4 (Nat.le_of_ble_eq_true (by kernel_rfl)) (Nat.le_of_ble_eq_true (by kernel_rfl)) rfl) ?_
  refine AX.wk (Wk.forget [6, 7, 16, 17, 18] [0, 1] (s' := ⟨[(6, .v (.int .i64 p3)), (7, .sl 0 0 x5.length), (16, .sl 1 0 x6.length), (17, .v (.int .i64 (x6.length : Int))), (18, .v (.int .i64 0))], [(0, .arr 1 (List.map enc_s x5)), (1, .arr 2 (List.map enc_si x6))]⟩) (by kernel_rfl)) ?_
  refine AX.mono (s_impl_Flag_namesIn_L1 x5 x6 FU (p3, 0) x9 e6) ?_
  rintro _ _ ⟨rfl, rfl⟩
  skip
  refine AX.seq ?_
  refine AX.reg (its := []) [4, 5] [0] (s1 := ⟨[(4, .sl 0 0 x5.length), (5, .v (.int .i64 x9))], [(0, .arr 1 (List.map enc_s x5))]⟩) (C := True) (by kernel_rfl) trivial trivial ?_
  refine AX.ret ?_
  refine fin_wk (Wk.forget [4, 5] [0] (s' := ⟨[(4, .sl 0 0 x5.length), (5, .v (.int .i64 x9))], [(0, .arr 1 (List.map enc_s x5))]⟩) (by kernel_rfl)) ?_
  have hr := Option.some.inj h
  subst hr
  exact ⟨_, Wk.refl _, .inr rfl, ⟨[0], by kernel_rfl, ⟨rfl, trivial⟩, [.sl 0 0 x5.length, .v (.int .i64 x9)], by kernel_rfl, by kernel_rfl⟩⟩

theorem s_impl_RestIn (p1 : List (ByteArray × Int)) (p2 : Int) (p3 : Int) (r : Int) (h : m_impl_RestIn p1 p2 p3 = some r) :
    Eng.Spec Tryz.prog 17 [.agg [.bs false 2 (List.map enc_si p1), .v (.int .i64 p2)], .v (.int .i64 p3)] [] (.v (.int .i64 r)) [] := by
  unfold m_impl_RestIn at h
  refine Eng.Spec.body Tryz.func17 (by kernel_rfl) rfl (by kernel_rfl) ?_
  refine AX.wkpost ?_
  refine AX.seq ?_
  refine AX.reg (its := [.auto { nk := 0 }]) [1, 2] [0] (s1 := ⟨[(1, .v (.int .i64 p3)), (2, .pt 0 0)], [(0, .box [.bs false 2 (List.map enc_si p1), .v (.int .i64 p2)])]⟩) (C := True) (by kernel_rfl) trivial trivial ?_
  refine AX.seq ?_
  refine AX.seq ?_
  obtain ⟨x4, e1, h⟩ := bd_e h
  refine AX.reg (its := [.auto {}, .auto {}, .call 11 [.agg [.bs false 2 (List.map enc_si p1), .v (.int .i64 p2)], .v (.int .i64 p3)] (handO (rho ([] ++ [])) [] [] ++ []) (callEv [] [] (.v (.bool x4)) [])]) [1, 2, 10] [0] (s1 := ⟨[(1, .v (.int .i64 p3)), (2, .pt 0 0), (10, .v (.bool (!x4)))], [(0, .box [.bs false 2 (List.map enc_si p1), .v (.int .i64 p2)])]⟩) (C := ((([.agg [.bs false 2 (List.map enc_si p1), .v (.int .i64 p2)], .v (.int .i64 p3)] : List AV) = [.agg [.bs false 2 (List.map enc_si p1), .v (.int .i64 p2)], .v (.int .i64 p3)]) ∧ True) ∧ True) (by kernel_rfl) ⟨⟨rfl, trivial⟩, trivial⟩ ⟨call_ok (ks := []) (ns := []) (bor := []) (bobjs := []) (s_impl_IsValue p1 p2 p3 x4 e1) (.cons (.c1 (.agg (.cons (.same _ (by kernel_rfl) (by kernel_rfl)) (.cons (.same _ (by kernel_rfl) (by kernel_rfl)) (.nil))))) (.cons (.c1 (.c0 (.same _ (by kernel_rfl) (by kernel_rfl)))) (.nil))) (by kernel_rfl) trivial, trivial⟩ ?_
  rcases bool_cases ((!x4)) with b2 | b2
  · replace h := cd_t b2 h
    refine AX.condT ((!x4)) (by kernel_rfl) b2 ?_
    refine AX.seq ?_
    refine AX.reg (its := []) [4] [] (s1 := ⟨[(4, .v (.int .i64 (-1)))], []⟩) (C := True) (by kernel_rfl) trivial trivial ?_
    refine AX.ret ?_
    refine fin_wk (Wk.forget [4] [] (s' := ⟨[(4, .v (.int .i64 (-1)))], []⟩) (by kernel_rfl)) ?_
    have hr := Option.some.inj h
    subst hr
    exact ⟨_, Wk.refl _, .inr rfl, ⟨[], by kernel_rfl, trivial, [.v (.int .i64 (-1))], by kernel_rfl, by kernel_rfl⟩⟩
  · replace h := cd_f b2 h
    refine AX.condF ((!x4)) (by kernel_rfl) b2 ?_
    refine AX.skip ?_
    refine AX.seq ?_
    obtain ⟨x5, e3, h⟩ := bd_e h
    refine AX.reg (its := [.auto {}, .auto {}, .call 39 [.agg [.bs false 2 (List.map enc_si p1), .v (.int .i64 p2)], .v (.int .i64 p3)] (handO (rho ([] ++ [1])) [] [] ++ []) (callEv [] [1] (.tup [.sl 0 0 x5.1.length, .v (.int .i64 x5.2)]) [.arr 1 (List.map enc_s x5.1)])]) [6] [] (s1 := ⟨[(6, .v (.int .i64 x5.2))], []⟩) (C := ((([.agg [.bs false 2 (List.map enc_si p1), .v (.int .i64 p2)], .v (.int .i64 p3)] : List AV) = [.agg [.bs false 2 (List.map enc_si p1), .v (.int .i64 p2)], .v (.int .i64 p3)]) ∧ True) ∧ True) (by kernel_rfl) ⟨⟨rfl, trivial⟩, trivial⟩ ⟨call_ok (ks := []) (ns := [1]) (bor := []) (bobjs := []) (s_impl_Flag_namesIn p1 p2 p3 x5 e3) (.cons (.c1 (.agg (.cons (.same _ (by kernel_rfl) (by kernel_rfl)) (.cons (.same _ (by kernel_rfl) (by kernel_rfl)) (.nil))))) (.cons (.c1 (.c0 (.same _ (by kernel_rfl) (by kernel_rfl)))) (.nil))) (by kernel_rfl) trivial, trivial⟩ ?_
    refine AX.seq ?_
    refine AX.reg (its := []) [4] [] (s1 := ⟨[(4, .v (.int .i64 x5.2))], []⟩) (C := True) (by kernel_rfl) trivial trivial ?_
    refine AX.ret ?_
    refine fin_wk (Wk.forget [4] [] (s' := ⟨[(4, .v (.int .i64 x5.2))], []⟩) (by kernel_rfl)) ?_
    have hr := Option.some.inj h
    subst hr
    exact ⟨_, Wk.refl _, .inr rfl, ⟨[], by kernel_rfl, trivial, [.v (.int .i64 x5.2)], by kernel_rfl, by kernel_rfl⟩⟩

theorem s_impl_ShortNames (p1 : List (ByteArray × Int)) (p2 : Int) (p3 : Int) (r : List (ByteArray)) (h : m_impl_ShortNames p1 p2 p3 = some r) :
    Eng.Spec Tryz.prog 18 [.agg [.bs false 2 (List.map enc_si p1), .v (.int .i64 p2)], .v (.int .i64 p3)] [] (.sl 0 0 r.length) [.arr 1 (List.map enc_s r)] := by
  unfold m_impl_ShortNames at h
  refine Eng.Spec.body Tryz.func18 (by kernel_rfl) rfl (by kernel_rfl) ?_
  refine AX.wkpost ?_
  refine AX.seq ?_
  refine AX.reg (its := [.auto { nk := 0 }]) [1, 2] [0] (s1 := ⟨[(1, .v (.int .i64 p3)), (2, .pt 0 0)], [(0, .box [.bs false 2 (List.map enc_si p1), .v (.int .i64 p2)])]⟩) (C := True) (by kernel_rfl) trivial trivial ?_
  refine AX.seq ?_
  refine AX.seq ?_
  obtain ⟨x4, e1, h⟩ := bd_e h
  refine AX.reg (its := [.auto {}, .auto {}, .call 11 [.agg [.bs false 2 (List.map enc_si p1), .v (.int .i64 p2)], .v (.int .i64 p3)] (handO (rho ([] ++ [])) [] [] ++ []) (callEv [] [] (.v (.bool x4)) [])]) [1, 2, 8] [0] (s1 := ⟨[(1, .v (.int .i64 p3)), (2, .pt 0 0), (8, .v (.bool (!x4)))], [(0, .box [.bs false 2 (List.map enc_si p1), .v (.int .i64 p2)])]⟩) (C := ((([.agg [.bs false 2 (List.map enc_si p1), .v (.int .i64 p2)], .v (.int .i64 p3)] : List AV) = [.agg [.bs false 2 (List.map enc_si p1), .v (.int .i64 p2)], .v (.int .i64 p3)]) ∧ True) ∧ True) (by kernel_rfl) ⟨⟨rfl, trivial⟩, trivial⟩ ⟨call_ok (ks := []) (ns := []) (bor := []) (bobjs := []) (s_impl_IsValue p1 p2 p3 x4 e1) (.cons (.c1 (.agg (.cons (.same _ (by kernel_rfl) (by kernel_rfl)) (.cons (.same _ (by kernel_rfl) (by kernel_rfl)) (.nil))))) (.cons (.c1 (.c0 (.same _ (by kernel_rfl) (by kernel_rfl)))) (.nil))) (by kernel_rfl) trivial, trivial⟩ ?_
  rcases bool_cases ((!x4)) with b2 | b2
  · replace h := cd_t b2 h
    refine AX.condT ((!x4)) (by kernel_rfl) b2 ?_
    refine AX.seq ?_
    refine AX.reg (its := []) [4] [] (s1 := ⟨[(4, .v (.slice none 0 0))], []⟩) (C := True) (by kernel_rfl) trivial trivial ?_
    refine AX.ret ?_
    refine fin_wk (Wk.mat 4 0 1 (by kernel_rfl) (Nat.le_of_ble_eq_true (by kernel_rfl)) (by kernel_rfl) rfl) ?_
    refine fin_wk (Wk.forget [4] [0] (s' := ⟨[(4, .sl 0 0 (([] : List (ByteArray)).length))], [(0, .arr 1 (List.map enc_s ([] : List (ByteArray))))]⟩) (by kernel_rfl)) ?_
    have hr := Option.some.inj h
    subst hr
    exact ⟨_, Wk.refl _, .inr rfl, ⟨[0], by kernel_rfl, ⟨rfl, trivial⟩, [.sl 0 0 (([] : List (ByteArray)).length)], by kernel_rfl, by kernel_rfl⟩⟩
  · replace h := cd_f b2 h
    refine AX.condF ((!x4)) (by kernel_rfl) b2 ?_
    refine AX.skip ?_
    refine AX.seq ?_
    obtain ⟨x5, e3, h⟩ := bd_e h
    obtain ⟨x6, e4, h⟩ := bd_e h
    refine AX.reg (its := [.auto {}, .auto {}, .call 41 [.agg [.bs false 2 (List.map enc_si p1), .v (.int .i64 p2)], .v (.int .i64 p3)] (handO (rho ([] ++ [1])) [] [] ++ []) (callEv [] [1] (.sl 0 0 x5.length) [.arr 2 (List.map enc_si x5)]), .call 42 [.sl 1 0 x5.length, .fn 43 []] (handO (rho ([] ++ [2])) [] [] ++ [(1, .arr 2 (List.map enc_si x5))]) (callEv [] [2] (.sl 0 0 x6.length) [.arr 1 (List.map enc_s x6)])]) [4] [2] (s1 := ⟨[(4, .sl 2 0 x6.length)], [(2, .arr 1 (List.map enc_s x6))]⟩) (C := ((([.agg [.bs false 2 (List.map enc_si p1), .v (.int .i64 p2)], .v (.int .i64 p3)] : List AV) = [.agg [.bs false 2 (List.map enc_si p1), .v (.int .i64 p2)], .v (.int .i64 p3)]) ∧ True) ∧ ((([.sl 1 0 x5.length, .fn 43 []] : List AV) = [.sl 1 0 x5.length, .fn 43 []]) ∧ (AO.arr 2 (List.map enc_si x5) = AO.arr 2 (List.map enc_si x5)) ∧ True) ∧ True) (by kernel_rfl) ⟨⟨rfl, trivial⟩, ⟨⟨rfl, rfl, trivial⟩, trivial⟩⟩ ⟨call_ok (ks := []) (ns := [1]) (bor := []) (bobjs := []) (s_impl_Flag_short p1 p2 p3 x5 e3) (.cons (.c1 (.agg (.cons (.same _ (by kernel_rfl) (by kernel_rfl)) (.cons (.same _ (by kernel_rfl) (by kernel_rfl)) (.nil))))) (.cons (.c1 (.c0 (.same _ (by kernel_rfl) (by kernel_rfl)))) (.nil))) (by kernel_rfl) trivial, ⟨call_ok (ks := []) (ns := [2]) (bor := [1]) (bobjs := [(1, .arr 2 (List.map enc_si x5))]) (s_impl_names_anyDef x5 x6 e4) (.cons (.c1 (.c0 (.arr rfl rfl ((rfl).trans (List.length_map ..).symm)))) (.cons (.fn (.nil)) (.nil))) (by kernel_rfl) trivial, trivial⟩⟩ ?_
    refine AX.ret ?_
    refine fin_wk (Wk.swap 0 2 (Nat.le_of_ble_eq_true (by kernel_rfl)) (Nat.le_of_ble_eq_true (by kernel_rfl)) rfl) ?_
    refine fin_wk (Wk.forget [4] [0] (s' := ⟨[(4, .sl 0 0 x6.length)], [(0, .arr 1 (List.map enc_s x6))]⟩) (by kernel_rfl)) ?_
    have hr := Option.some.inj h
    subst hr
    exact ⟨_, Wk.refl _, .inr rfl, ⟨[0], by kernel_rfl, ⟨rfl, trivial⟩, [.sl 0 0 x6.length], by kernel_rfl, by kernel_rfl⟩⟩

theorem s_impl_NamesIn (p1 : List (ByteArray × Int)) (p2 : Int) (p3 : Int) (r : List (ByteArray)) (h : m_impl_NamesIn p1 p2 p3 = some r) :
    Eng.Spec Tryz.prog 19 [.agg [.bs false 2 (List.map enc_si p1), .v (.int .i64 p2)], .v (.int .i64 p3)] [] (.sl 0 0 r.length) [.arr 1 (List.map enc_s r)] := by
  unfold m_impl_NamesIn at h
  refine Eng.Spec.body Tryz.func19 (by kernel_rfl) rfl (by kernel_rfl) ?_
  refine AX.wkpost ?_
  refine AX.seq ?_
  refine AX.reg (its := [.auto { nk := 0 }]) [1, 2] [0] (s1 := ⟨[(1, .v (.int .i64 p3)), (2, .pt 0 0)], [(0, .box [.bs false 2 (List.map enc_si p1), .v (.int .i64 p2)])]⟩) (C := True) (by kernel_rfl) trivial trivial ?_
  refine AX.seq ?_
  refine AX.seq ?_
  obtain ⟨x4, e1, h⟩ := bd_e h
  refine AX.reg (its := [.auto {}, .auto {}, .call 11 [.agg [.bs false 2 (List.map enc_si p1), .v (.int .i64 p2)], .v (.int .i64 p3)] (handO (rho ([] ++ [])) [] [] ++ []) (callEv [] [] (.v (.bool x4)) [])]) [1, 2, 10] [0] (s1 := ⟨[(1, .v (.int .i64 p3)), (2, .pt 0 0), (10, .v (.bool (!x4)))], [(0, .box [.bs false 2 (List.map enc_si p1), .v (.int .i64 p2)])]⟩) (C := ((([.agg [.bs false 2 (List.map enc_si p1), .v (.int .i64 p2)], .v (.int .i64 p3)] : List AV) = [.agg [.bs false 2 (List.map enc_si p1), .v (.int .i64 p2)], .v (.int .i64 p3)]) ∧ True) ∧ True) (by kernel_rfl) ⟨⟨rfl, trivial⟩, trivial⟩ ⟨call_ok (ks := []) (ns := []) (bor := []) (bobjs := []) (s_impl_IsValue p1 p2 p3 x4 e1) (.cons (.c1 (.agg (.cons (.same _ (by kernel_rfl) (by kernel_rfl)) (.cons (.same _ (by kernel_rfl) (by kernel_rfl)) (.nil))))) (.cons (.c1 (.c0 (.same _ (by kernel_rfl) (by kernel_rfl)))) (.nil))) (by kernel_rfl) trivial, trivial⟩ ?_
  rcases bool_cases ((!x4)) with b2 | b2
  · replace h := cd_t b2 h
    refine AX.condT ((!x4)) (by kernel_rfl) b2 ?_
    refine AX.seq ?_
    refine AX.reg (its := []) [4] [] (s1 := ⟨[(4, .v (.slice none 0 0))], []⟩) (C := True) (by kernel_rfl) trivial trivial ?_
    refine AX.ret ?_
    refine fin_wk (Wk.mat 4 0 1 (by kernel_rfl) (Nat.le_of_ble_eq_true (by kernel_rfl)) (by kernel_rfl) rfl) ?_
    refine fin_wk (Wk.forget [4] [0] (s' := ⟨[(4, .sl 0 0 (([] : List (ByteArray)).length))], [(0, .arr 1 (List.map enc_s ([] : List (ByteArray))))]⟩) (by kernel_rfl)) ?_
    have hr := Option.some.inj h
    subst hr
    exact ⟨_, Wk.refl _, .inr rfl, ⟨[0], by kernel_rfl, ⟨rfl, trivial⟩, [.sl 0 0 (([] : List (ByteArray)).length)], by kernel_rfl, by kernel_rfl⟩⟩
  · replace h := cd_f b2 h
    refine AX.condF ((!x4)) (by kernel_rfl) b2 ?_
    refine AX.skip ?_
    refine AX.seq ?_
    obtain ⟨x5, e3, h⟩ := bd_e h
    refine AX.reg (its := [.auto {}, .auto {}, .call 39 [.agg [.bs false 2 (List.map enc_si p1), .v (.int .i64 p2)], .v (.int .i64 p3)] (handO (rho ([] ++ [1])) [] [] ++ []) (callEv [] [1] (.tup [.sl 0 0 x5.1.length, .v (.int .i64 x5.2)]) [.arr 1 (List.map enc_s x5.1)])]) [5] [1] (s1 := ⟨[(5, .sl 1 0 x5.1.length)], [(1, .arr 1 (List.map enc_s x5.1))]⟩) (C := ((([.agg [.bs false 2 (List.map enc_si p1), .v (.int .i64 p2)], .v (.int .i64 p3)] : List AV) = [.agg [.bs false 2 (List.map enc_si p1), .v (.int .i64 p2)], .v (.int .i64 p3)]) ∧ True) ∧ True) (by kernel_rfl) ⟨⟨rfl, trivial⟩, trivial⟩ ⟨call_ok (ks := []) (ns := [1]) (bor := []) (bobjs := []) (s_impl_Flag_namesIn p1 p2 p3 x5 e3) (.cons (.c1 (.agg (.cons (.same _ (by kernel_rfl) (by kernel_rfl)) (.cons (.same _ (by kernel_rfl) (by kernel_rfl)) (.nil))))) (.cons (.c1 (.c0 (.same _ (by kernel_rfl) (by kernel_rfl)))) (.nil))) (by kernel_rfl) trivial, trivial⟩ ?_
    refine AX.seq ?_
    refine AX.reg (its := []) [4] [1] (s1 := ⟨[(4, .sl 1 0 x5.1.length)], [(1, .arr 1 (List.map enc_s x5.1))]⟩) (C := True) (by kernel_rfl) trivial trivial ?_
    refine AX.ret ?_
    refine fin_wk (Wk.swap 0 1 (Nat.le_of_ble_eq_true (by kernel_rfl)) (Nat.le_of_ble_eq_true (by kernel_rfl)) rfl) ?_
    refine fin_wk (Wk.forget [4] [0] (s' := ⟨[(4, .sl 0 0 x5.1.length)], [(0, .arr 1 (List.map enc_s x5.1))]⟩) (by kernel_rfl)) ?_
    have hr := Option.some.inj h
    subst hr
    exact ⟨_, Wk.refl _, .inr rfl, ⟨[0], by kernel_rfl, ⟨rfl, trivial⟩, [.sl 0 0 x5.1.length], by kernel_rfl, by kernel_rfl⟩⟩

theorem s_laws_FnShowShort (p1 : List (Int)) (r : Bool) (h : m_laws_FnShowShort p1 = some r) :
    Eng.Spec Tryz.prog 5 [.bs true 1 (List.map enc_y p1)] [] (.v (.bool r)) [] := by
  unfold m_laws_FnShowShort at h
  refine Eng.Spec.body Tryz.func5 (by kernel_rfl) rfl (by kernel_rfl) ?_
  refine AX.wkpost ?_
  refine AX.seq ?_
  refine AX.reg (its := []) [0] [] (s1 := ⟨[(0, .bs true 1 (List.map enc_y p1))], []⟩) (C := True) (by kernel_rfl) trivial trivial ?_
  refine AX.seq ?_
  refine AX.seq ?_
  refine AX.reg (its := [.auto {}, .auto { y := some (.v (.int .i64 (p1.length : Int))) }]) [0, 10] [] (s1 := ⟨[(0, .bs true 1 (List.map enc_y p1)), (10, .v (.bool (decide (1048576 < (p1.length : Int)))))], []⟩) (C := (True ∧ (AV.v (.int .i64 ((List.map enc_y p1).length : Int)) = AV.v (.int .i64 (p1.length : Int)))) ∧ True) (by kernel_rfl) ⟨⟨trivial, len_map enc_y p1⟩, trivial⟩ trivial ?_
  rcases bool_cases (decide (1048576 < (p1.length : Int))) with b1 | b1
  · replace h := cd_t b1 h
    refine AX.condT (decide (1048576 < (p1.length : Int))) (by kernel_rfl) b1 ?_
    refine AX.seq ?_
    refine AX.reg (its := []) [2] [] (s1 := ⟨[(2, .v (.bool true))], []⟩) (C := True) (by kernel_rfl) trivial trivial ?_
    refine AX.ret ?_
    refine fin_wk (Wk.forget [2] [] (s' := ⟨[(2, .v (.bool true))], []⟩) (by kernel_rfl)) ?_
    have hr := Option.some.inj h
    subst hr
    exact ⟨_, Wk.refl _, .inr rfl, ⟨[], by kernel_rfl, trivial, [.v (.bool true)], by kernel_rfl, by kernel_rfl⟩⟩
  · replace h := cd_f b1 h
    refine AX.condF (decide (1048576 < (p1.length : Int))) (by kernel_rfl) b1 ?_
    refine AX.skip ?_
    refine AX.seq ?_
    obtain ⟨x2, e2, h⟩ := bd_e h
    refine AX.reg (its := [.auto {}, .call 14 [.bs true 1 (List.map enc_y p1)] (handO (rho ([] ++ [0])) [] [] ++ []) (callEv [] [0] (.tup [.agg [.sl 0 0 x2.1.length, .v (.int .i64 x2.2.1)], .v (.int .i64 x2.2.2)]) [.arr 2 (List.map enc_si x2.1)]), .auto {}, .auto {}, .auto {}, .auto { nk := 1 }]) [3, 4] [0, 1] (s1 := ⟨[(3, .pt 1 0), (4, .v (.int .i64 x2.2.2))], [(0, .arr 2 (List.map enc_si x2.1)), (1, .box [.sl 0 0 x2.1.length, .v (.int .i64 x2.2.1)])]⟩) (C := ((([.bs true 1 (List.map enc_y p1)] : List AV) = [.bs true 1 (List.map enc_y p1)]) ∧ True) ∧ True) (by kernel_rfl) ⟨⟨rfl, trivial⟩, trivial⟩ ⟨call_ok (ks := []) (ns := [0]) (bor := []) (bobjs := []) (s_spec_DrawShowShort p1 x2 e2) (.cons (.c1 (.c0 (.same _ (by kernel_rfl) (by kernel_rfl)))) (.nil)) (by kernel_rfl) trivial, trivial⟩ ?_
    refine AX.seq ?_
    obtain ⟨x3, e3, h⟩ := bd_e h
    refine AX.reg (its := [.auto {}, .auto {}, .call 15 [.agg [.sl 0 0 x2.1.length, .v (.int .i64 x2.2.1)], .v (.int .i64 x2.2.2)] (handO (rho ([] ++ [])) [] [] ++ [(0, .arr 2 (List.map enc_si x2.1))]) (callEv [] [] (.v (.string x3)) [])]) [3, 4, 5] [0, 1] (s1 := ⟨[(3, .pt 1 0), (4, .v (.int .i64 x2.2.2)), (5, .v (.string x3))], [(0, .arr 2 (List.map enc_si x2.1)), (1, .box [.sl 0 0 x2.1.length, .v (.int .i64 x2.2.1)])]⟩) (C := ((([.agg [.sl 0 0 x2.1.length, .v (.int .i64 x2.2.1)], .v (.int .i64 x2.2.2)] : List AV) = [.agg [.sl 0 0 x2.1.length, .v (.int .i64 x2.2.1)], .v (.int .i64 x2.2.2)]) ∧ (AO.arr 2 (List.map enc_si x2.1) = AO.arr 2 (List.map enc_si x2.1)) ∧ True) ∧ True) (by kernel_rfl) ⟨⟨rfl, rfl, trivial⟩, trivial⟩ ⟨call_ok (ks := []) (ns := []) (bor := [0]) (bobjs := [(0, .arr 2 (List.map enc_si x2.1))]) (s_impl_ShowShort x2.1 x2.2.1 x2.2.2 x3 e3) (.cons (.c1 (.agg (.cons (.arr rfl rfl ((rfl).trans (List.length_map ..).symm)) (.cons (.same _ (by kernel_rfl) (by kernel_rfl)) (.nil))))) (.cons (.c1 (.c0 (.same _ (by kernel_rfl) (by kernel_rfl)))) (.nil))) (by kernel_rfl) trivial, trivial⟩ ?_
    refine AX.seq ?_
    refine AX.seq ?_
    obtain ⟨x4, e4, h⟩ := bd_e h
    rcases bool_cases ((!decide (x3 = x4))) with b5 | b5
    · replace h := cd_t b5 h
      refine AX.reg (its := [.auto {}, .auto {}, .auto {}, .call 16 [.agg [.sl 0 0 x2.1.length, .v (.int .i64 x2.2.1)], .v (.int .i64 x2.2.2)] (handO (rho ([] ++ [])) [] [] ++ [(0, .arr 2 (List.map enc_si x2.1))]) (callEv [] [] (.v (.string x4)) []), .auto { y := some (.v (.bool true)) }]) [3, 4, 5, 27] [0, 1] (s1 := ⟨[(3, .pt 1 0), (4, .v (.int .i64 x2.2.2)), (5, .v (.string x3)), (27, .v (.bool true))], [(0, .arr 2 (List.map enc_si x2.1)), (1, .box [.sl 0 0 x2.1.length, .v (.int .i64 x2.2.1)])]⟩) (C := ((([.agg [.sl 0 0 x2.1.length, .v (.int .i64 x2.2.1)], .v (.int .i64 x2.2.2)] : List AV) = [.agg [.sl 0 0 x2.1.length, .v (.int .i64 x2.2.1)], .v (.int .i64 x2.2.2)]) ∧ (AO.arr 2 (List.map enc_si x2.1) = AO.arr 2 (List.map enc_si x2.1)) ∧ True) ∧ ((True) ∧ ((.v (.bool (!decide (x3 = x4))) : AV) = (.v (.bool true) : AV))) ∧ True) (by kernel_rfl) ⟨⟨rfl, rfl, trivial⟩, ⟨⟨trivial, (congrArg (fun z => AV.v (.bool z)) b5)⟩, trivial⟩⟩ ⟨call_ok (ks := []) (ns := []) (bor := [0]) (bobjs := [(0, .arr 2 (List.map enc_si x2.1))]) (s_spec_ShowShort x2.1 x2.2.1 x2.2.2 x4 e4) (.cons (.c1 (.agg (.cons (.arr rfl rfl ((rfl).trans (List.length_map ..).symm)) (.cons (.same _ (by kernel_rfl) (by kernel_rfl)) (.nil))))) (.cons (.c1 (.c0 (.same _ (by kernel_rfl) (by kernel_rfl)))) (.nil))) (by kernel_rfl) trivial, trivial⟩ ?_
      refine AX.cond_true (by kernel_rfl) ?_
      refine AX.seq ?_
      obtain ⟨x5, e6, h⟩ := bd_e h
      refine AX.reg (its := [.auto {}, .auto {}, .auto {}, .call 16 [.agg [.sl 0 0 x2.1.length, .v (.int .i64 x2.2.1)], .v (.int .i64 x2.2.2)] (handO (rho ([] ++ [])) [] [] ++ [(0, .arr 2 (List.map enc_si x2.1))]) (callEv [] [] (.v (.string x5)) [])]) [2] [] (s1 := ⟨[(2, .v (.bool (decide (x3 = x5))))], []⟩) (C := ((([.agg [.sl 0 0 x2.1.length, .v (.int .i64 x2.2.1)], .v (.int .i64 x2.2.2)] : List AV) = [.agg [.sl 0 0 x2.1.length, .v (.int .i64 x2.2.1)], .v (.int .i64 x2.2.2)]) ∧ (AO.arr 2 (List.map enc_si x2.1) = AO.arr 2 (List.map enc_si x2.1)) ∧ True) ∧ True) (by kernel_rfl) ⟨⟨rfl, rfl, trivial⟩, trivial⟩ ⟨call_ok (ks := []) (ns := []) (bor := [0]) (bobjs := [(0, .arr 2 (List.map enc_si x2.1))]) (s_spec_ShowShort x2.1 x2.2.1 x2.2.2 x5 e6) (.cons (.c1 (.agg (.cons (.arr rfl rfl ((rfl).trans (List.length_map ..).symm)) (.cons (.same _ (by kernel_rfl) (by kernel_rfl)) (.nil))))) (.cons (.c1 (.c0 (.same _ (by kernel_rfl) (by kernel_rfl)))) (.nil))) (by kernel_rfl) trivial, trivial⟩ ?_
      refine AX.ret ?_
      refine fin_wk (Wk.forget [2] [] (s' := ⟨[(2, .v (.bool (decide (x3 = x5))))], []⟩) (by kernel_rfl)) ?_
      have hr := Option.some.inj h
      subst hr
      exact ⟨_, Wk.refl _, .inr rfl, ⟨[], by kernel_rfl, trivial, [.v (.bool (decide (x3 = x5)))], by kernel_rfl, by kernel_rfl⟩⟩
    · replace h := cd_f b5 h
      refine AX.reg (its := [.auto {}, .auto {}, .auto {}, .call 16 [.agg [.sl 0 0 x2.1.length, .v (.int .i64 x2.2.1)], .v (.int .i64 x2.2.2)] (handO (rho ([] ++ [])) [] [] ++ [(0, .arr 2 (List.map enc_si x2.1))]) (callEv [] [] (.v (.string x4)) []), .auto { y := some (.v (.bool false)) }]) [3, 4, 5, 27] [0, 1] (s1 := ⟨[(3, .pt 1 0), (4, .v (.int .i64 x2.2.2)), (5, .v (.string x3)), (27, .v (.bool (decide (x3 = ByteArray.empty))))], [(0, .arr 2 (List.map enc_si x2.1)), (1, .box [.sl 0 0 x2.1.length, .v (.int .i64 x2.2.1)])]⟩) (C := ((([.agg [.sl 0 0 x2.1.length, .v (.int .i64 x2.2.1)], .v (.int .i64 x2.2.2)] : List AV) = [.agg [.sl 0 0 x2.1.length, .v (.int .i64 x2.2.1)], .v (.int .i64 x2.2.2)]) ∧ (AO.arr 2 (List.map enc_si x2.1) = AO.arr 2 (List.map enc_si x2.1)) ∧ True) ∧ ((True) ∧ ((.v (.bool (!decide (x3 = x4))) : AV) = (.v (.bool false) : AV))) ∧ True) (by kernel_rfl) ⟨⟨rfl, rfl, trivial⟩, ⟨⟨trivial, (congrArg (fun z => AV.v (.bool z)) b5)⟩, trivial⟩⟩ ⟨call_ok (ks := []) (ns := []) (bor := [0]) (bobjs := [(0, .arr 2 (List.map enc_si x2.1))]) (s_spec_ShowShort x2.1 x2.2.1 x2.2.2 x4 e4) (.cons (.c1 (.agg (.cons (.arr rfl rfl ((rfl).trans (List.length_map ..).symm)) (.cons (.same _ (by kernel_rfl) (by kernel_rfl)) (.nil))))) (.cons (.c1 (.c0 (.same _ (by kernel_rfl) (by kernel_rfl)))) (.nil))) (by kernel_rfl) trivial, trivial⟩ ?_
      rcases bool_cases (decide (x3 = ByteArray.empty)) with b7 | b7
      · replace h := cd_t b7 h
        refine AX.condT (decide (x3 = ByteArray.empty)) (by kernel_rfl) b7 ?_
        refine AX.seq ?_
        obtain ⟨x6, e8, h⟩ := bd_e h
        refine AX.reg (its := [.auto {}, .auto {}, .auto {}, .call 16 [.agg [.sl 0 0 x2.1.length, .v (.int .i64 x2.2.1)], .v (.int .i64 x2.2.2)] (handO (rho ([] ++ [])) [] [] ++ [(0, .arr 2 (List.map enc_si x2.1))]) (callEv [] [] (.v (.string x6)) [])]) [2] [] (s1 := ⟨[(2, .v (.bool (decide (x3 = x6))))], []⟩) (C := ((([.agg [.sl 0 0 x2.1.length, .v (.int .i64 x2.2.1)], .v (.int .i64 x2.2.2)] : List AV) = [.agg [.sl 0 0 x2.1.length, .v (.int .i64 x2.2.1)], .v (.int .i64 x2.2.2)]) ∧ (AO.arr 2 (List.map enc_si x2.1) = AO.arr 2 (List.map enc_si x2.1)) ∧ True) ∧ True) (by kernel_rfl) ⟨⟨rfl, rfl, trivial⟩, trivial⟩ ⟨call_ok (ks := []) (ns := []) (bor := [0]) (bobjs := [(0, .arr 2 (List.map enc_si x2.1))]) (s_spec_ShowShort x2.1 x2.2.1 x2.2.2 x6 e8) (.cons (.c1 (.agg (.cons (.arr rfl rfl ((rfl).trans (List.length_map ..).symm)) (.cons (.same _ (by kernel_rfl) (by kernel_rfl)) (.nil))))) (.cons (.c1 (.c0 (.same _ (by kernel_rfl) (by kernel_rfl)))) (.nil))) (by kernel_rfl) trivial, trivial⟩ ?_
        refine AX.ret ?_
        refine fin_wk (Wk.forget [2] [] (s' := ⟨[(2, .v (.bool (decide (x3 = x6))))], []⟩) (by kernel_rfl)) ?_
        have hr := Option.some.inj h
        subst hr
        exact ⟨_, Wk.refl _, .inr rfl, ⟨[], by kernel_rfl, trivial, [.v (.bool (decide (x3 = x6)))], by kernel_rfl, by kernel_rfl⟩⟩
      · replace h := cd_f b7 h
        refine AX.condF (decide (x3 = ByteArray.empty)) (by kernel_rfl) b7 ?_
        refine AX.skip ?_
        refine AX.seq ?_
        obtain ⟨x7, e9, h⟩ := bd_e h
        refine AX.reg (its := [.auto {}, .auto {}, .call 8 [.agg [.sl 0 0 x2.1.length, .v (.int .i64 x2.2.1)], .v (.string x3)] (handO (rho ([] ++ [])) [] [] ++ [(0, .arr 2 (List.map enc_si x2.1))]) (callEv [] [] (.tup [.v (.int .i64 x7.1), .v (.bool x7.2)]) [])]) [3, 4, 6, 7] [0, 1] (s1 := ⟨[(3, .pt 1 0), (4, .v (.int .i64 x2.2.2)), (6, .v (.int .i64 x7.1)), (7, .v (.bool x7.2))], [(0, .arr 2 (List.map enc_si x2.1)), (1, .box [.sl 0 0 x2.1.length, .v (.int .i64 x2.2.1)])]⟩) (C := ((([.agg [.sl 0 0 x2.1.length, .v (.int .i64 x2.2.1)], .v (.string x3)] : List AV) = [.agg [.sl 0 0 x2.1.length, .v (.int .i64 x2.2.1)], .v (.string x3)]) ∧ (AO.arr 2 (List.map enc_si x2.1) = AO.arr 2 (List.map enc_si x2.1)) ∧ True) ∧ True) (by kernel_rfl) ⟨⟨rfl, rfl, trivial⟩, trivial⟩ ⟨call_ok (ks := []) (ns := []) (bor := [0]) (bobjs := [(0, .arr 2 (List.map enc_si x2.1))]) (s_impl_ReadValue x2.1 x2.2.1 x3 x7 e9) (.cons (.c1 (.agg (.cons (.arr rfl rfl ((rfl).trans (List.length_map ..).symm)) (.cons (.same _ (by kernel_rfl) (by kernel_rfl)) (.nil))))) (.cons (.c1 (.c0 (.same _ (by kernel_rfl) (by kernel_rfl)))) (.nil))) (by kernel_rfl) trivial, trivial⟩ ?_
        refine AX.seq ?_
        rcases bool_cases (x7.2) with b10 | b10
        · replace h := cd_t b10 h
          rcases bool_cases (decide (x7.1 = x2.2.2)) with b11 | b11
          · replace h := cd_t b11 h
            obtain ⟨x8, e12, h⟩ := bd_e h
            rcases bool_cases (decide (0 < x8)) with b13 | b13
            · replace h := cd_t b13 h
              refine AX.drw mixed (its := [.auto { y := some (.v (.bool true)) }, .auto {}, .auto {}, .auto {}, .auto { y := some (.v (.bool true)) }, .auto {}, .auto {}, .auto {}, .auto {}, .call 17 [.agg [.sl 0 0 x2.1.length, .v (.int .i64 x2.2.1)], .v (.int .i64 x2.2.2)] (handO (rho ([] ++ [])) [] [] ++ [(0, .arr 2 (List.map enc_si x2.1))]) (callEv [] [] (.v (.int .i64 x8)) []), .auto { y := some (.v (.bool true)) }]) [2] [] (s1 := ⟨[(2, .v (.bool true))], []⟩) (C := ((True) ∧ ((.v (.bool x7.2) : AV) = (.v (.bool true) : AV))) ∧ ((True) ∧ ((.v (.bool (decide (x7.1 = x2.2.2))) : AV) = (.v (.bool true) : AV))) ∧ ((([.agg [.sl 0 0 x2.1.length, .v (.int .i64 x2.2.1)], .v (.int .i64 x2.2.2)] : List AV) = [.agg [.sl 0 0 x2.1.length, .v (.int .i64 x2.2.1)], .v (.int .i64 x2.2.2)]) ∧ (AO.arr 2 (List.map enc_si x2.1) = AO.arr 2 (List.map enc_si x2.1)) ∧ True) ∧ ((True) ∧ ((.v (.bool (decide (0 < x8))) : AV) = (.v (.bool true) : AV))) ∧ True) (by kernel_rfl) ⟨⟨trivial, (congrArg (fun z => AV.v (.bool z)) b10)⟩, ⟨⟨trivial, (congrArg (fun z => AV.v (.bool z)) b11)⟩, ⟨⟨rfl, rfl, trivial⟩, ⟨⟨trivial, (congrArg (fun z => AV.v (.bool z)) b13)⟩, trivial⟩⟩⟩⟩ ⟨call_ok (ks := []) (ns := []) (bor := [0]) (bobjs := [(0, .arr 2 (List.map enc_si x2.1))]) (s_impl_RestIn x2.1 x2.2.1 x2.2.2 x8 e12) (.cons (.c1 (.agg (.cons (.arr rfl rfl ((rfl).trans (List.length_map ..).symm)) (.cons (.same _ (by kernel_rfl) (by kernel_rfl)) (.nil))))) (.cons (.c1 (.c0 (.same _ (by kernel_rfl) (by kernel_rfl)))) (.nil))) (by kernel_rfl) trivial, trivial⟩ ?_
              refine AX.ret ?_
              refine fin_wk (Wk.forget [2] [] (s' := ⟨[(2, .v (.bool true))], []⟩) (by kernel_rfl)) ?_
              have hr := Option.some.inj h
              subst hr
              exact ⟨_, Wk.refl _, .inr rfl, ⟨[], by kernel_rfl, trivial, [.v (.bool true)], by kernel_rfl, by kernel_rfl⟩⟩
            · replace h := cd_f b13 h
              obtain ⟨x9, e14, h⟩ := bd_e h
              obtain ⟨x10, e15, h⟩ := bd_e h
              refine AX.drw mixed (its := [.auto { y := some (.v (.bool true)) }, .auto {}, .auto {}, .auto {}, .auto { y := some (.v (.bool true)) }, .auto {}, .auto {}, .auto {}, .auto {}, .call 17 [.agg [.sl 0 0 x2.1.length, .v (.int .i64 x2.2.1)], .v (.int .i64 x2.2.2)] (handO (rho ([] ++ [])) [] [] ++ [(0, .arr 2 (List.map enc_si x2.1))]) (callEv [] [] (.v (.int .i64 x8)) []), .auto { y := some (.v (.bool false)) }, .auto {}, .auto {}, .auto {}, .call 18 [.agg [.sl 0 0 x2.1.length, .v (.int .i64 x2.2.1)], .v (.int .i64 x2.2.2)] (handO (rho ([] ++ [2])) [] [] ++ [(0, .arr 2 (List.map enc_si x2.1))]) (callEv [] [2] (.sl 0 0 x9.length) [.arr 1 (List.map enc_s x9)]), .auto {}, .auto {}, .auto {}, .call 19 [.agg [.sl 0 0 x2.1.length, .v (.int .i64 x2.2.1)], .v (.int .i64 x2.2.2)] (handO (rho ([] ++ [3])) [] [] ++ [(0, .arr 2 (List.map enc_si x2.1))]) (callEv [] [3] (.sl 0 0 x10.length) [.arr 1 (List.map enc_s x10)])]) [2] [] (s1 := ⟨[(2, .v (.bool (decide ((x9.length : Int) ≤ (x10.length : Int)))))], []⟩) (C := ((True) ∧ ((.v (.bool x7.2) : AV) = (.v (.bool true) : AV))) ∧ ((True) ∧ ((.v (.bool (decide (x7.1 = x2.2.2))) : AV) = (.v (.bool true) : AV))) ∧ ((([.agg [.sl 0 0 x2.1.length, .v (.int .i64 x2.2.1)], .v (.int .i64 x2.2.2)] : List AV) = [.agg [.sl 0 0 x2.1.length, .v (.int .i64 x2.2.1)], .v (.int .i64 x2.2.2)]) ∧ (AO.arr 2 (List.map enc_si x2.1) = AO.arr 2 (List.map enc_si x2.1)) ∧ True) ∧ ((True) ∧ ((.v (.bool (decide (0 < x8))) : AV) = (.v (.bool false) : AV))) ∧ ((([.agg [.sl 0 0 x2.1.length, .v (.int .i64 x2.2.1)], .v (.int .i64 x2.2.2)] : List AV) = [.agg [.sl 0 0 x2.1.length, .v (.int .i64 x2.2.1)], .v (.int .i64 x2.2.2)]) ∧ (AO.arr 2 (List.map enc_si x2.1) = AO.arr 2 (List.map enc_si x2.1)) ∧ True) ∧ ((([.agg [.sl 0 0 x2.1.length, .v (.int .i64 x2.2.1)], .v (.int .i64 x2.2.2)] : List AV) = [.agg [.sl 0 0 x2.1.length, .v (.int .i64 x2.2.1)], .v (.int .i64 x2.2.2)]) ∧ (AO.arr 2 (List.map enc_si x2.1) = AO.arr 2 (List.map enc_si x2.1)) ∧ True) ∧ True) (by kernel_rfl) ⟨⟨trivial, (congrArg (fun z => AV.v (.bool z)) b10)⟩, ⟨⟨trivial, (congrArg (fun z => AV.v (.bool z)) b11)⟩, ⟨⟨rfl, rfl, trivial⟩, ⟨⟨trivial, (congrArg (fun z => AV.v (.bool z)) b13)⟩, ⟨⟨rfl, rfl, trivial⟩, ⟨⟨rfl, rfl, trivial⟩, trivial⟩⟩⟩⟩⟩⟩ ⟨call_ok (ks := []) (ns := []) (bor := [0]) (bobjs := [(0, .arr 2 (List.map enc_si x2.1))]) (s_impl_RestIn x2.1 x2.2.1 x2.2.2 x8 e12) (.cons (.c1 (.agg (.cons (.arr rfl rfl ((rfl).trans (List.length_map ..).symm)) (.cons (.same _ (by kernel_rfl) (by kernel_rfl)) (.nil))))) (.cons (.c1 (.c0 (.same _ (by kernel_rfl) (by kernel_rfl)))) (.nil))) (by kernel_rfl) trivial, ⟨call_ok (ks := []) (ns := [2]) (bor := [0]) (bobjs := [(0, .arr 2 (List.map enc_si x2.1))]) (s_impl_ShortNames x2.1 x2.2.1 x2.2.2 x9 e14) (.cons (.c1 (.agg (.cons (.arr rfl rfl ((rfl).trans (List.length_map ..).symm)) (.cons (.same _ (by kernel_rfl) (by kernel_rfl)) (.nil))))) (.cons (.c1 (.c0 (.same _ (by kernel_rfl) (by kernel_rfl)))) (.nil))) (by kernel_rfl) trivial, ⟨call_ok (ks := []) (ns := [3]) (bor := [0]) (bobjs := [(0, .arr 2 (List.map enc_si x2.1))]) (s_impl_NamesIn x2.1 x2.2.1 x2.2.2 x10 e15) (.cons (.c1 (.agg (.cons (.arr rfl rfl ((rfl).trans (List.length_map ..).symm)) (.cons (.same _ (by kernel_rfl) (by kernel_rfl)) (.nil))))) (.cons (.c1 (.c0 (.same _ (by kernel_rfl) (by kernel_rfl)))) (.nil))) (by kernel_rfl) trivial, trivial⟩⟩⟩ ?_
              refine AX.ret ?_
              refine fin_wk (Wk.forget [2] [] (s' := ⟨[(2, .v (.bool (decide ((x9.length : Int) ≤ (x10.length : Int)))))], []⟩) (by kernel_rfl)) ?_
              have hr := Option.some.inj h
              subst hr
              exact ⟨_, Wk.refl _, .inr rfl, ⟨[], by kernel_rfl, trivial, [.v (.bool (decide ((x9.length : Int) ≤ (x10.length : Int))))], by kernel_rfl, by kernel_rfl⟩⟩
          · replace h := cd_f b11 h
            refine AX.drw mixed (its := [.auto { y := some (.v (.bool true)) }, .auto {}, .auto {}, .auto {}, .auto { y := some (.v (.bool false)) }]) [2] [] (s1 := ⟨[(2, .v (.bool false))], []⟩) (C := ((True) ∧ ((.v (.bool x7.2) : AV) = (.v (.bool true) : AV))) ∧ ((True) ∧ ((.v (.bool (decide (x7.1 = x2.2.2))) : AV) = (.v (.bool false) : AV))) ∧ True) (by kernel_rfl) ⟨⟨trivial, (congrArg (fun z => AV.v (.bool z)) b10)⟩, ⟨⟨trivial, (congrArg (fun z => AV.v (.bool z)) b11)⟩, trivial⟩⟩ trivial ?_
            refine AX.ret ?_
            refine fin_wk (Wk.forget [2] [] (s' := ⟨[(2, .v (.bool false))], []⟩) (by kernel_rfl)) ?_
            have hr := Option.some.inj h
            subst hr
            exact ⟨_, Wk.refl _, .inr rfl, ⟨[], by kernel_rfl, trivial, [.v (.bool false)], by kernel_rfl, by kernel_rfl⟩⟩
        · replace h := cd_f b10 h
          refine AX.drw mixed (its := [.auto { y := some (.v (.bool false)) }]) [2] [] (s1 := ⟨[(2, .v (.bool false))], []⟩) (C := ((True) ∧ ((.v (.bool x7.2) : AV) = (.v (.bool false) : AV))) ∧ True) (by kernel_rfl) ⟨⟨trivial, (congrArg (fun z => AV.v (.bool z)) b10)⟩, trivial⟩ trivial ?_
          refine AX.ret ?_
          refine fin_wk (Wk.forget [2] [] (s' := ⟨[(2, .v (.bool false))], []⟩) (by kernel_rfl)) ?_
          have hr := Option.some.inj h
          subst hr
          exact ⟨_, Wk.refl _, .inr rfl, ⟨[], by kernel_rfl, trivial, [.v (.bool false)], by kernel_rfl, by kernel_rfl⟩⟩

end Go.Eng
