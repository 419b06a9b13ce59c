/- What is proved here: each function keeps to its model, whatever its arguments, wherever the model has an answer. Printed by gen.py. -/
import Derived.Test.YtlbdbciodednhaaGreatDoorCParseEnumWalk3
import Derived.Test.YtlbdbciodednhaaGreatDoorProg
import Derived.Test.YtlbdbciodednhaaGreatDoorCParseEnumShelf
import Derived.KernelRfl
set_option linter.unusedVariables false
set_option linter.unusedSimpArgs false
set_option linter.unnecessarySimpa false
namespace Go.Eng
open Go Go.Proofs


theorem s_impl_build_BuildFlag_1_L1 (p1 : List (ByteArray × Bool × Int)) (n : Nat) (g : (List (ByteArray × Int)) × Int) (out : Unit ⊕ List (ByteArray × Int)) (h : m_impl_build_BuildFlag_1_L1 p1 n g.1 g.2 = some out) :
    AX Tryz.prog 35 0 (codeAt [1, 1, 0, 1, 1] (bodyOf Tryz.f37)) ((fun g : (List (ByteArray × Int)) × Int => (⟨[(1, .fn 49 []), (6, .sl 0 0 g.1.length), (9, .bs false 3 (List.map enc_sbi p1)), (10, .v (.int .i64 (p1.length : Int))), (11, .v (.int .i64 g.2))], [(0, .arr 2 (List.map enc_si g.1))]⟩ : S)) g) (fun ex s => (∃ o : Unit, out = Sum.inl o ∧ ex = .ret ∧ s = ⟨[(4, .v (.slice none 0 0)), (5, .v (.bool false))], []⟩) ∨ (∃ o : List (ByteArray × Int), out = Sum.inr o ∧ ex = .exit 0 ∧ s = ⟨[(6, .sl 0 0 o.length)], [(0, .arr 2 (List.map enc_si o))]⟩)) := by
  refine AX.wkpost ?_
  refine AX.loop (G := Nat × ((List (ByteArray × Int)) × Int)) (fun q => (fun g : (List (ByteArray × Int)) × Int => (⟨[(1, .fn 49 []), (6, .sl 0 0 g.1.length), (9, .bs false 3 (List.map enc_sbi p1)), (10, .v (.int .i64 (p1.length : Int))), (11, .v (.int .i64 g.2))], [(0, .arr 2 (List.map enc_si g.1))]⟩ : S)) q.2) (fun q => m_impl_build_BuildFlag_1_L1 p1 q.1 q.2.1 q.2.2 = some out) (fun q => q.1) (n, g) h (Wk.refl _) ?_
  clear h
  rintro ⟨fu, v2, v3⟩ h
  cases fu with
  | zero => cases h
  | succ fu =>
    rw [m_impl_build_BuildFlag_1_L1] at h
    refine AX.seq ?_
    refine AX.reg (its := []) [1, 6, 9, 10, 11, 12] [0] (s1 := ⟨[(1, .fn 49 []), (6, .sl 0 0 v2.length), (9, .bs false 3 (List.map enc_sbi p1)), (10, .v (.int .i64 (p1.length : Int))), (11, .v (.int .i64 v3)), (12, .v (.bool (decide (v3 < (p1.length : Int)))))], [(0, .arr 2 (List.map enc_si v2))]⟩) (C := True) (by kernel_rfl) trivial trivial ?_
    refine AX.seq ?_
    rcases bool_cases (decide (v3 < (p1.length : Int))) with b1 | b1
    · replace h := cd_t b1 h
      refine AX.condT (decide (v3 < (p1.length : Int))) (by kernel_rfl) b1 ?_
      refine AX.skip ?_
      refine AX.seq ?_
      refine AX.block ?_
      refine AX.seq ?_
      obtain ⟨g2, h⟩ := gd_e h
      refine AX.reg (its := [.auto { y := some (.be 3 (enc_sbi (gt p1 v3)) 0) }, .auto {}, .auto { nk := 1 }]) [1, 6, 8, 9, 10, 11] [0, 1] (s1 := ⟨[(1, .fn 49 []), (6, .sl 0 0 v2.length), (8, .pt 1 0), (9, .bs false 3 (List.map enc_sbi p1)), (10, .v (.int .i64 (p1.length : Int))), (11, .v (.int .i64 v3))], [(0, .arr 2 (List.map enc_si v2)), (1, .box [.v (.string ((gt p1 v3).1)), .v (.bool ((gt p1 v3).2.1)), .v (.int .i64 ((gt p1 v3).2.2))])]⟩) (C := ((0 ≤ v3 ∧ v3 < ((List.map enc_sbi p1).length : Int)) ∧ (AV.be 3 ((List.map enc_sbi p1).getD v3.toNat []) 0 = AV.be 3 (enc_sbi (gt p1 v3)) 0)) ∧ True) (by kernel_rfl) ⟨idx_bs enc_sbi p1 v3 3 g2, trivial⟩ trivial ?_
      refine AX.seq ?_
      refine AX.seq ?_
      refine AX.reg (its := []) [1, 6, 8, 9, 10, 11, 16] [0, 1] (s1 := ⟨[(1, .fn 49 []), (6, .sl 0 0 v2.length), (8, .pt 1 0), (9, .bs false 3 (List.map enc_sbi p1)), (10, .v (.int .i64 (p1.length : Int))), (11, .v (.int .i64 v3)), (16, .v (.bool ((gt p1 v3).2.1)))], [(0, .arr 2 (List.map enc_si v2)), (1, .box [.v (.string ((gt p1 v3).1)), .v (.bool ((gt p1 v3).2.1)), .v (.int .i64 ((gt p1 v3).2.2))])]⟩) (C := True) (by kernel_rfl) trivial trivial ?_
      rcases bool_cases ((gt p1 v3).2.1) with b3 | b3
      · replace h := cd_t b3 h
        refine AX.condT ((gt p1 v3).2.1) (by kernel_rfl) b3 ?_
        refine AX.seq ?_
        refine AX.seq ?_
        refine AX.reg (its := []) [1, 6, 8, 9, 10, 11, 19] [0, 1] (s1 := ⟨[(1, .fn 49 []), (6, .sl 0 0 v2.length), (8, .pt 1 0), (9, .bs false 3 (List.map enc_sbi p1)), (10, .v (.int .i64 (p1.length : Int))), (11, .v (.int .i64 v3)), (19, .v (.bool (!decide (((gt p1 v3).2.2) = 0))))], [(0, .arr 2 (List.map enc_si v2)), (1, .box [.v (.string ((gt p1 v3).1)), .v (.bool ((gt p1 v3).2.1)), .v (.int .i64 ((gt p1 v3).2.2))])]⟩) (C := True) (by kernel_rfl) trivial trivial ?_
        rcases bool_cases ((!decide (((gt p1 v3).2.2) = 0))) with b4 | b4
        · replace h := cd_t b4 h
          refine AX.condT ((!decide (((gt p1 v3).2.2) = 0))) (by kernel_rfl) b4 ?_
          refine AX.seq ?_
          refine AX.reg (its := []) [4, 5] [] (s1 := ⟨[(4, .v (.slice none 0 0)), (5, .v (.bool false))], []⟩) (C := True) (by kernel_rfl) trivial trivial ?_
          refine AX.ret ?_
          refine fin_wk (Wk.forget [4, 5] [] (s' := ⟨[(4, .v (.slice none 0 0)), (5, .v (.bool false))], []⟩) (by kernel_rfl)) ?_
          have hr := Option.some.inj h
          subst hr
          exact ⟨_, Wk.refl _, .inl ⟨(), rfl, rfl, rfl⟩⟩
        · replace h := cd_f b4 h
          refine AX.condF ((!decide (((gt p1 v3).2.2) = 0))) (by kernel_rfl) b4 ?_
          refine AX.skip ?_
          obtain ⟨x4, e5, h⟩ := bd_e h
          refine AX.reg (its := [.auto {}, .auto {}, .call 49 [.sl 0 0 v2.length] (handO (rho ([] ++ [])) [] [] ++ [(0, .arr 2 (List.map enc_si v2))]) (callEv [] [] (.v (.int .i64 x4)) [])]) [1, 6, 8, 9, 10, 11] [0, 1] (s1 := ⟨[(1, .fn 49 []), (6, .sl 0 0 v2.length), (8, .pt 1 0), (9, .bs false 3 (List.map enc_sbi p1)), (10, .v (.int .i64 (p1.length : Int))), (11, .v (.int .i64 v3))], [(0, .arr 2 (List.map enc_si v2)), (1, .box [.v (.string ((gt p1 v3).1)), .v (.bool ((gt p1 v3).2.1)), .v (.int .i64 x4)])]⟩) (C := ((([.sl 0 0 v2.length] : List AV) = [.sl 0 0 v2.length]) ∧ (AO.arr 2 (List.map enc_si v2) = AO.arr 2 (List.map enc_si v2)) ∧ True) ∧ True) (by kernel_rfl) ⟨⟨rfl, rfl, trivial⟩, trivial⟩ ⟨call_ok (ks := []) (ns := []) (bor := [0]) (bobjs := [(0, .arr 2 (List.map enc_si v2))]) (s_impl_BuildFlag_1 v2 x4 e5) (.cons (.c1 (.c0 (.arr rfl rfl ((rfl).trans (List.length_map ..).symm)))) (.nil)) (by kernel_rfl) trivial, trivial⟩ ?_
          obtain ⟨g6, h⟩ := gd_e h
          refine AX.reg (its := [.auto {}, .auto {}, .auto {}, .auto {}, .auto {}, .auto {}, .auto { nk := 2 }, .auto { y := some (.sl 3 0 ((v2 ++ ([((gt p1 v3).1, x4)] : List (ByteArray × Int))).length)), els := some (List.map enc_si v2), els2 := some (List.map enc_si ([((gt p1 v3).1, x4)] : List (ByteArray × Int))), nk := 3 }]) [1, 6, 9, 10, 11] [3] (s1 := ⟨[(1, .fn 49 []), (6, .sl 3 0 ((v2 ++ ([((gt p1 v3).1, x4)] : List (ByteArray × Int))).length)), (9, .bs false 3 (List.map enc_sbi p1)), (10, .v (.int .i64 (p1.length : Int))), (11, .v (.int .i64 v3))], [(3, .arr 2 (List.map enc_si v2 ++ List.map enc_si ([((gt p1 v3).1, x4)] : List (ByteArray × Int))))]⟩) (C := ((((((List.map enc_si v2).drop 0).take (v2.length) = List.map enc_si v2) ∧ (((List.map enc_si ([((gt p1 v3).1, x4)] : List (ByteArray × Int))).drop 0).take (([((gt p1 v3).1, x4)] : List (ByteArray × Int)).length) = List.map enc_si ([((gt p1 v3).1, x4)] : List (ByteArray × Int)))) ∧ (List.map enc_si v2).length + (List.map enc_si ([((gt p1 v3).1, x4)] : List (ByteArray × Int))).length ≤ 1099511627776) ∧ (AV.sl 3 0 (List.map enc_si v2 ++ List.map enc_si ([((gt p1 v3).1, x4)] : List (ByteArray × Int))).length = AV.sl 3 0 (v2 ++ ([((gt p1 v3).1, x4)] : List (ByteArray × Int))).length)) ∧ True) (by kernel_rfl) ⟨⟨⟨⟨(dt_all (enc := enc_si) rfl rfl), (dt_all (enc := enc_si) rfl rfl)⟩, (by simp only [List.length_map, List.length_nil, List.length_replicate]; simpa using g6)⟩, sl_len (enc := enc_si) (app_can (enc := enc_si) rfl (rfl))⟩, trivial⟩ trivial ?_
          refine AX.reg (its := [.auto { raw := true }]) [1, 6, 9, 10, 11] [3] (s1 := ⟨[(1, .fn 49 []), (6, .sl 3 0 ((v2 ++ ([((gt p1 v3).1, x4)] : List (ByteArray × Int))).length)), (9, .bs false 3 (List.map enc_sbi p1)), (10, .v (.int .i64 (p1.length : Int))), (11, .v (.int .i64 (IntKind.wrap .i64 (v3 + 1))))], [(3, .arr 2 (List.map enc_si v2 ++ List.map enc_si ([((gt p1 v3).1, x4)] : List (ByteArray × Int))))]⟩) (C := True) (by kernel_rfl) trivial trivial ?_
          refine ⟨(fu, (v2 ++ ([((gt p1 v3).1, x4)] : List (ByteArray × Int)), IntKind.wrap .i64 (v3 + 1))), h, Nat.lt_succ_self _, ?_⟩
          refine Wk.trans (Wk.swap 0 3 (Nat.le_of_ble_eq_true (by kernel_rfl)) (Nat.le_of_ble_eq_true (by kernel_rfl)) rfl) ?_
          refine Wk.trans (Wk.forget [1, 6, 9, 10, 11] [0] (s' := ⟨[(1, .fn 49 []), (6, .sl 0 0 ((v2 ++ ([((gt p1 v3).1, x4)] : List (ByteArray × Int))).length)), (9, .bs false 3 (List.map enc_sbi p1)), (10, .v (.int .i64 (p1.length : Int))), (11, .v (.int .i64 (IntKind.wrap .i64 (v3 + 1))))], [(0, .arr 2 (List.map enc_si v2 ++ List.map enc_si ([((gt p1 v3).1, x4)] : List (ByteArray × Int))))]⟩) (by kernel_rfl)) ?_
          refine Wk.trans (Wk.of_eq (congrArg (fun z => (⟨[(1, .fn 49 []), (6, .sl 0 0 ((v2 ++ ([((gt p1 v3).1, x4)] : List (ByteArray × Int))).length)), (9, .bs false 3 (List.map enc_sbi p1)), (10, .v (.int .i64 (p1.length : Int))), (11, .v (.int .i64 (IntKind.wrap .i64 (v3 + 1))))], [(0, .arr 2 (z))]⟩ : S)) (app_can (enc := enc_si) rfl (rfl) : List.map enc_si v2 ++ List.map enc_si ([((gt p1 v3).1, x4)] : List (ByteArray × Int)) = List.map enc_si (v2 ++ ([((gt p1 v3).1, x4)] : List (ByteArray × Int)))))) ?_
          exact Wk.refl _
      · replace h := cd_f b3 h
        refine AX.condF ((gt p1 v3).2.1) (by kernel_rfl) b3 ?_
        refine AX.skip ?_
        obtain ⟨g7, h⟩ := gd_e h
        refine AX.reg (its := [.auto {}, .auto {}, .auto {}, .auto {}, .auto {}, .auto {}, .auto { nk := 2 }, .auto { y := some (.sl 3 0 ((v2 ++ ([((gt p1 v3).1, (gt p1 v3).2.2)] : List (ByteArray × Int))).length)), els := some (List.map enc_si v2), els2 := some (List.map enc_si ([((gt p1 v3).1, (gt p1 v3).2.2)] : List (ByteArray × Int))), nk := 3 }]) [1, 6, 9, 10, 11] [3] (s1 := ⟨[(1, .fn 49 []), (6, .sl 3 0 ((v2 ++ ([((gt p1 v3).1, (gt p1 v3).2.2)] : List (ByteArray × Int))).length)), (9, .bs false 3 (List.map enc_sbi p1)), (10, .v (.int .i64 (p1.length : Int))), (11, .v (.int .i64 v3))], [(3, .arr 2 (List.map enc_si v2 ++ List.map enc_si ([((gt p1 v3).1, (gt p1 v3).2.2)] : List (ByteArray × Int))))]⟩) (C := ((((((List.map enc_si v2).drop 0).take (v2.length) = List.map enc_si v2) ∧ (((List.map enc_si ([((gt p1 v3).1, (gt p1 v3).2.2)] : List (ByteArray × Int))).drop 0).take (([((gt p1 v3).1, (gt p1 v3).2.2)] : List (ByteArray × Int)).length) = List.map enc_si ([((gt p1 v3).1, (gt p1 v3).2.2)] : List (ByteArray × Int)))) ∧ (List.map enc_si v2).length + (List.map enc_si ([((gt p1 v3).1, (gt p1 v3).2.2)] : List (ByteArray × Int))).length ≤ 1099511627776) ∧ (AV.sl 3 0 (List.map enc_si v2 ++ List.map enc_si ([((gt p1 v3).1, (gt p1 v3).2.2)] : List (ByteArray × Int))).length = AV.sl 3 0 (v2 ++ ([((gt p1 v3).1, (gt p1 v3).2.2)] : List (ByteArray × Int))).length)) ∧ True) (by kernel_rfl) ⟨⟨⟨⟨(dt_all (enc := enc_si) rfl rfl), (dt_all (enc := enc_si) rfl rfl)⟩, (by simp only [List.length_map, List.length_nil, List.length_replicate]; simpa using g7)⟩, sl_len (enc := enc_si) (app_can (enc := enc_si) rfl (rfl))⟩, trivial⟩ trivial ?_
        refine AX.reg (its := [.auto { raw := true }]) [1, 6, 9, 10, 11] [3] (s1 := ⟨[(1, .fn 49 []), (6, .sl 3 0 ((v2 ++ ([((gt p1 v3).1, (gt p1 v3).2.2)] : List (ByteArray × Int))).length)), (9, .bs false 3 (List.map enc_sbi p1)), (10, .v (.int .i64 (p1.length : Int))), (11, .v (.int .i64 (IntKind.wrap .i64 (v3 + 1))))], [(3, .arr 2 (List.map enc_si v2 ++ List.map enc_si ([((gt p1 v3).1, (gt p1 v3).2.2)] : List (ByteArray × Int))))]⟩) (C := True) (by kernel_rfl) trivial trivial ?_
        refine ⟨(fu, (v2 ++ ([((gt p1 v3).1, (gt p1 v3).2.2)] : List (ByteArray × Int)), IntKind.wrap .i64 (v3 + 1))), h, Nat.lt_succ_self _, ?_⟩
        refine Wk.trans (Wk.swap 0 3 (Nat.le_of_ble_eq_true (by kernel_rfl)) (Nat.le_of_ble_eq_true (by kernel_rfl)) rfl) ?_
        refine Wk.trans (Wk.forget [1, 6, 9, 10, 11] [0] (s' := ⟨[(1, .fn 49 []), (6, .sl 0 0 ((v2 ++ ([((gt p1 v3).1, (gt p1 v3).2.2)] : List (ByteArray × Int))).length)), (9, .bs false 3 (List.map enc_sbi p1)), (10, .v (.int .i64 (p1.length : Int))), (11, .v (.int .i64 (IntKind.wrap .i64 (v3 + 1))))], [(0, .arr 2 (List.map enc_si v2 ++ List.map enc_si ([((gt p1 v3).1, (gt p1 v3).2.2)] : List (ByteArray × Int))))]⟩) (by kernel_rfl)) ?_
        refine Wk.trans (Wk.of_eq (congrArg (fun z => (⟨[(1, .fn 49 []), (6, .sl 0 0 ((v2 ++ ([((gt p1 v3).1, (gt p1 v3).2.2)] : List (ByteArray × Int))).length)), (9, .bs false 3 (List.map enc_sbi p1)), (10, .v (.int .i64 (p1.length : Int))), (11, .v (.int .i64 (IntKind.wrap .i64 (v3 + 1))))], [(0, .arr 2 (z))]⟩ : S)) (app_can (enc := enc_si) rfl (rfl) : List.map enc_si v2 ++ List.map enc_si ([((gt p1 v3).1, (gt p1 v3).2.2)] : List (ByteArray × Int)) = List.map enc_si (v2 ++ ([((gt p1 v3).1, (gt p1 v3).2.2)] : List (ByteArray × Int)))))) ?_
        exact Wk.refl _
    · replace h := cd_f b1 h
      refine AX.condF (decide (v3 < (p1.length : Int))) (by kernel_rfl) b1 ?_
      refine AX.exit ?_
      refine fin_wk (Wk.forget [6] [0] (s' := ⟨[(6, .sl 0 0 v2.length)], [(0, .arr 2 (List.map enc_si v2))]⟩) (by kernel_rfl)) ?_
      have hr := Option.some.inj h
      subst hr
      exact ⟨_, Wk.refl _, .inr ⟨v2, rfl, rfl, rfl⟩⟩

theorem s_impl_build_BuildFlag_1 (p1 : List (ByteArray × Bool × Int)) (r : (List (ByteArray × Int)) × Bool) (h : m_impl_build_BuildFlag_1 p1 = some r) :
    Eng.Spec Tryz.prog 37 [.bs false 3 (List.map enc_sbi p1), .fn 49 []] [] (.tup [.sl 0 0 r.1.length, .v (.bool r.2)]) [.arr 2 (List.map enc_si r.1)] := by
  unfold m_impl_build_BuildFlag_1 at h
  refine Eng.Spec.body Tryz.func37 (by kernel_rfl) rfl (by kernel_rfl) ?_
  refine AX.wkpost ?_
  refine AX.seq ?_
  refine AX.reg (its := []) [0, 1] [] (s1 := ⟨[(0, .bs false 3 (List.map enc_sbi p1)), (1, .fn 49 [])], []⟩) (C := True) (by kernel_rfl) trivial trivial ?_
  refine AX.seq ?_
  refine AX.reg (its := []) [0, 1, 6] [] (s1 := ⟨[(0, .bs false 3 (List.map enc_sbi p1)), (1, .fn 49 []), (6, .v (.slice none 0 0))], []⟩) (C := True) (by kernel_rfl) trivial trivial ?_
  refine AX.seq ?_
  refine AX.seq ?_
  refine AX.reg (its := [.auto {}, .auto { y := some (.v (.int .i64 (p1.length : Int))) }]) [1, 6, 9, 10, 11] [] (s1 := ⟨[(1, .fn 49 []), (6, .v (.slice none 0 0)), (9, .bs false 3 (List.map enc_sbi p1)), (10, .v (.int .i64 (p1.length : Int))), (11, .v (.int .i64 0))], []⟩) (C := (True ∧ (AV.v (.int .i64 ((List.map enc_sbi p1).length : Int)) = AV.v (.int .i64 (p1.length : Int)))) ∧ True) (by kernel_rfl) ⟨⟨trivial, len_map enc_sbi p1⟩, trivial⟩ trivial ?_
  refine AX.block ?_
  obtain ⟨x5, e8, h⟩ := bd_e h
  refine AX.wk (Wk.mat 6 0 2 (by kernel_rfl) (Nat.le_of_ble_eq_true (by kernel_rfl)) (by kernel_rfl) rfl) ?_
  refine AX.wk (Wk.forget [1, 6, 9, 10, 11] [0] (s' := ⟨[(1, .fn 49 []), (6, .sl 0 0 (([] : List (ByteArray × Int)).length)), (9, .bs false 3 (List.map enc_sbi p1)), (10, .v (.int .i64 (p1.length : Int))), (11, .v (.int .i64 0))], [(0, .arr 2 (List.map enc_si ([] : List (ByteArray × Int))))]⟩) (by kernel_rfl)) ?_
  refine AX.mono (s_impl_build_BuildFlag_1_L1 p1 FU (([] : List (ByteArray × Int)), 0) x5 e8) ?_
  rintro _ _ (⟨x6, rfl, rfl, rfl⟩ | ⟨x7, rfl, rfl, rfl⟩)
  · replace h := sm_l h
    refine fin_wk (Wk.mat 4 0 2 (by kernel_rfl) (Nat.le_of_ble_eq_true (by kernel_rfl)) (by kernel_rfl) rfl) ?_
    refine fin_wk (Wk.forget [4, 5] [0] (s' := ⟨[(4, .sl 0 0 (([] : List (ByteArray × Int)).length)), (5, .v (.bool false))], [(0, .arr 2 (List.map enc_si ([] : List (ByteArray × Int))))]⟩) (by kernel_rfl)) ?_
    have hr := Option.some.inj h
    subst hr
    exact ⟨_, Wk.refl _, .inr rfl, ⟨[0], by kernel_rfl, ⟨rfl, trivial⟩, [.sl 0 0 (([] : List (ByteArray × Int)).length), .v (.bool false)], by kernel_rfl, by kernel_rfl⟩⟩
  · replace h := sm_r h
    refine AX.seq ?_
    obtain ⟨x8, e9, h⟩ := bd_e h
    refine AX.reg (its := [.auto {}, .call 63 [.sl 0 0 x7.length] (handO (rho ([0] ++ [])) [0] [.arr 2 (List.map enc_si x7)] ++ []) (callEv [0] [] (.sl 0 0 x7.length) [.arr 2 (List.map enc_si x7)])]) [4, 5] [0] (s1 := ⟨[(4, .sl 0 0 x7.length), (5, .v (.bool true))], [(0, .arr 2 (List.map enc_si x7))]⟩) (C := ((([.sl 0 0 x7.length] : List AV) = [.sl 0 0 x7.length]) ∧ (AO.arr 2 (List.map enc_si x7) = AO.arr 2 (List.map enc_si x7)) ∧ True) ∧ True) (by kernel_rfl) ⟨⟨rfl, rfl, trivial⟩, trivial⟩ ⟨call_ok (ks := [0]) (ns := []) (bor := []) (bobjs := []) (s_slices_Clip_hsi x7 x8 e9) (.cons (.c1 (.c0 (.same _ (by kernel_rfl) (by kernel_rfl)))) (.nil)) (by kernel_rfl) ⟨.inr rfl, trivial⟩, trivial⟩ ?_
    refine AX.ret ?_
    refine fin_wk (Wk.forget [4, 5] [0] (s' := ⟨[(4, .sl 0 0 x7.length), (5, .v (.bool true))], [(0, .arr 2 (List.map enc_si x7))]⟩) (by kernel_rfl)) ?_
    have hr := Option.some.inj h
    subst hr
    exact ⟨_, Wk.refl _, .inr rfl, ⟨[0], by kernel_rfl, ⟨rfl, trivial⟩, [.sl 0 0 x7.length, .v (.bool true)], by kernel_rfl, by kernel_rfl⟩⟩

theorem s_impl_ValidFlag (p1 : List (ByteArray × Int)) (p2 : Int) (r : Bool) (h : m_impl_ValidFlag p1 p2 = some r) :
    Eng.Spec Tryz.prog 73 [.agg [.bs false 2 (List.map enc_si p1), .v (.int .i64 p2)]] [] (.v (.bool r)) [] := by
  unfold m_impl_ValidFlag at h
  refine Eng.Spec.body Tryz.func73 (by kernel_rfl) rfl (by kernel_rfl) ?_
  refine AX.wkpost ?_
  refine AX.seq ?_
  refine AX.reg (its := [.auto { nk := 0 }]) [1] [0] (s1 := ⟨[(1, .pt 0 0)], [(0, .box [.bs false 2 (List.map enc_si p1), .v (.int .i64 p2)])]⟩) (C := True) (by kernel_rfl) trivial trivial ?_
  refine AX.seq ?_
  obtain ⟨x3, e1, h⟩ := bd_e h
  rcases bool_cases (x3) with b2 | b2
  · replace h := cd_t b2 h
    obtain ⟨x4, e3, h⟩ := bd_e h
    refine AX.reg (its := [.auto {}, .auto {}, .call 26 [.bs false 2 (List.map enc_si p1), .v (.int .i64 0), .v (.int .i64 4095)] (handO (rho ([] ++ [])) [] [] ++ []) (callEv [] [] (.v (.bool true)) []), .auto {}, .auto {}, .auto {}, .call 53 [.v (.int .i64 p2), .v (.int .i64 0), .v (.int .i64 3)] (handO (rho ([] ++ [])) [] [] ++ []) (callEv [] [] (.v (.bool x4)) [])]) [2] [] (s1 := ⟨[(2, .v (.bool x4))], []⟩) (C := ((([.bs false 2 (List.map enc_si p1), .v (.int .i64 0), .v (.int .i64 4095)] : List AV) = [.bs false 2 (List.map enc_si p1), .v (.int .i64 0), .v (.int .i64 4095)]) ∧ True) ∧ ((([.v (.int .i64 p2), .v (.int .i64 0), .v (.int .i64 3)] : List AV) = [.v (.int .i64 p2), .v (.int .i64 0), .v (.int .i64 3)]) ∧ True) ∧ True) (by kernel_rfl) ⟨⟨rfl, trivial⟩, ⟨⟨rfl, trivial⟩, trivial⟩⟩ ⟨call_ok (ks := []) (ns := []) (bor := []) (bobjs := []) (show Eng.Spec Tryz.prog 26 [.bs false 2 (List.map enc_si p1), .v (.int .i64 0), .v (.int .i64 4095)] [] (.v (.bool true)) [] from by have q := s_impl_defsValid p1 0 4095 x3 e1; rw [b2] at q; exact q) (.cons (.c1 (.c0 (.same _ (by kernel_rfl) (by kernel_rfl)))) (.cons (.c1 (.c0 (.same _ (by kernel_rfl) (by kernel_rfl)))) (.cons (.c1 (.c0 (.same _ (by kernel_rfl) (by kernel_rfl)))) (.nil)))) (by kernel_rfl) trivial, ⟨call_ok (ks := []) (ns := []) (bor := []) (bobjs := []) (s_impl_in p2 0 3 x4 e3) (.cons (.c1 (.c0 (.same _ (by kernel_rfl) (by kernel_rfl)))) (.cons (.c1 (.c0 (.same _ (by kernel_rfl) (by kernel_rfl)))) (.cons (.c1 (.c0 (.same _ (by kernel_rfl) (by kernel_rfl)))) (.nil)))) (by kernel_rfl) trivial, trivial⟩⟩ ?_
    refine AX.ret ?_
    refine fin_wk (Wk.forget [2] [] (s' := ⟨[(2, .v (.bool x4))], []⟩) (by kernel_rfl)) ?_
    have hr := Option.some.inj h
    subst hr
    exact ⟨_, Wk.refl _, .inr rfl, ⟨[], by kernel_rfl, trivial, [.v (.bool x4)], by kernel_rfl, by kernel_rfl⟩⟩
  · replace h := cd_f b2 h
    refine AX.reg (its := [.auto {}, .auto {}, .call 26 [.bs false 2 (List.map enc_si p1), .v (.int .i64 0), .v (.int .i64 4095)] (handO (rho ([] ++ [])) [] [] ++ []) (callEv [] [] (.v (.bool false)) [])]) [2] [] (s1 := ⟨[(2, .v (.bool false))], []⟩) (C := ((([.bs false 2 (List.map enc_si p1), .v (.int .i64 0), .v (.int .i64 4095)] : List AV) = [.bs false 2 (List.map enc_si p1), .v (.int .i64 0), .v (.int .i64 4095)]) ∧ True) ∧ True) (by kernel_rfl) ⟨⟨rfl, trivial⟩, trivial⟩ ⟨call_ok (ks := []) (ns := []) (bor := []) (bobjs := []) (show Eng.Spec Tryz.prog 26 [.bs false 2 (List.map enc_si p1), .v (.int .i64 0), .v (.int .i64 4095)] [] (.v (.bool false)) [] from by have q := s_impl_defsValid p1 0 4095 x3 e1; rw [b2] at q; exact q) (.cons (.c1 (.c0 (.same _ (by kernel_rfl) (by kernel_rfl)))) (.cons (.c1 (.c0 (.same _ (by kernel_rfl) (by kernel_rfl)))) (.cons (.c1 (.c0 (.same _ (by kernel_rfl) (by kernel_rfl)))) (.nil)))) (by kernel_rfl) trivial, trivial⟩ ?_
    refine AX.ret ?_
    refine fin_wk (Wk.forget [2] [] (s' := ⟨[(2, .v (.bool false))], []⟩) (by kernel_rfl)) ?_
    have hr := Option.some.inj h
    subst hr
    exact ⟨_, Wk.refl _, .inr rfl, ⟨[], by kernel_rfl, trivial, [.v (.bool false)], by kernel_rfl, by kernel_rfl⟩⟩

theorem s_impl_flagOf (p1 : List (ByteArray × Int)) (p2 : Int) (p3 : Bool) (r : (List (ByteArray × Int)) × Int × Bool) (h : m_impl_flagOf p1 p2 p3 = some r) :
    Eng.Spec Tryz.prog 51 [.bs false 2 (List.map enc_si p1), .v (.int .i64 p2), .v (.bool p3)] [] (.tup [.agg [.sl 0 0 r.1.length, .v (.int .i64 r.2.1)], .v (.bool r.2.2)]) [.arr 2 (List.map enc_si r.1)] := by
  unfold m_impl_flagOf at h
  refine Eng.Spec.body Tryz.func51 (by kernel_rfl) rfl (by kernel_rfl) ?_
  refine AX.wkpost ?_
  refine AX.seq ?_
  refine AX.reg (its := [.auto { nk := 0 }]) [0, 1, 2, 6] [0] (s1 := ⟨[(0, .bs false 2 (List.map enc_si p1)), (1, .v (.int .i64 p2)), (2, .v (.bool p3)), (6, .pt 0 0)], [(0, .box [.v (.slice none 0 0), .v (.int .i64 0)])]⟩) (C := True) (by kernel_rfl) trivial trivial ?_
  refine AX.seq ?_
  refine AX.seq ?_
  obtain ⟨x4, e1, h⟩ := bd_e h
  refine AX.reg (its := [.auto {}, .call 62 [.bs false 2 (List.map enc_si p1)] (handO (rho ([] ++ [1])) [] [] ++ []) (callEv [] [1] (.sl 0 0 x4.length) [.arr 2 (List.map enc_si x4)]), .auto {}, .auto {}, .auto { nk := 2 }]) [2, 6, 8] [0, 1, 2] (s1 := ⟨[(2, .v (.bool p3)), (6, .pt 0 0), (8, .pt 2 0)], [(0, .box [.v (.slice none 0 0), .v (.int .i64 0)]), (1, .arr 2 (List.map enc_si x4)), (2, .box [.sl 1 0 x4.length, .v (.int .i64 p2)])]⟩) (C := ((([.bs false 2 (List.map enc_si p1)] : List AV) = [.bs false 2 (List.map enc_si p1)]) ∧ True) ∧ True) (by kernel_rfl) ⟨⟨rfl, trivial⟩, trivial⟩ ⟨call_ok (ks := []) (ns := [1]) (bor := []) (bobjs := []) (s_impl_clone_si p1 x4 e1) (.cons (.c1 (.c0 (.same _ (by kernel_rfl) (by kernel_rfl)))) (.nil)) (by kernel_rfl) trivial, trivial⟩ ?_
  refine AX.seq ?_
  rcases bool_cases (p3) with b2 | b2
  · replace h := cd_t b2 h
    obtain ⟨x5, e3, h⟩ := bd_e h
    refine AX.reg (its := [.auto { y := some (.v (.bool true)) }, .auto {}, .auto {}, .call 73 [.agg [.sl 1 0 x4.length, .v (.int .i64 p2)]] (handO (rho ([] ++ [])) [] [] ++ [(1, .arr 2 (List.map enc_si x4))]) (callEv [] [] (.v (.bool x5)) [])]) [6, 8, 17] [0, 1, 2] (s1 := ⟨[(6, .pt 0 0), (8, .pt 2 0), (17, .v (.bool x5))], [(0, .box [.v (.slice none 0 0), .v (.int .i64 0)]), (1, .arr 2 (List.map enc_si x4)), (2, .box [.sl 1 0 x4.length, .v (.int .i64 p2)])]⟩) (C := ((True) ∧ ((.v (.bool p3) : AV) = (.v (.bool true) : AV))) ∧ ((([.agg [.sl 1 0 x4.length, .v (.int .i64 p2)]] : List AV) = [.agg [.sl 1 0 x4.length, .v (.int .i64 p2)]]) ∧ (AO.arr 2 (List.map enc_si x4) = AO.arr 2 (List.map enc_si x4)) ∧ True) ∧ True) (by kernel_rfl) ⟨⟨trivial, (congrArg (fun z => AV.v (.bool z)) b2)⟩, ⟨⟨rfl, rfl, trivial⟩, trivial⟩⟩ ⟨call_ok (ks := []) (ns := []) (bor := [1]) (bobjs := [(1, .arr 2 (List.map enc_si x4))]) (s_impl_ValidFlag x4 p2 x5 e3) (.cons (.c1 (.agg (.cons (.arr rfl rfl ((rfl).trans (List.length_map ..).symm)) (.cons (.same _ (by kernel_rfl) (by kernel_rfl)) (.nil))))) (.nil)) (by kernel_rfl) trivial, trivial⟩ ?_
    rcases bool_cases (x5) with b4 | b4
    · replace h := cd_t b4 h
      refine AX.condT (x5) (by kernel_rfl) b4 ?_
      refine AX.seq ?_
      refine AX.reg (its := []) [6, 7] [0, 1] (s1 := ⟨[(6, .pt 0 0), (7, .v (.bool true))], [(0, .box [.sl 1 0 x4.length, .v (.int .i64 p2)]), (1, .arr 2 (List.map enc_si x4))]⟩) (C := True) (by kernel_rfl) trivial trivial ?_
      refine AX.ret ?_
      refine fin_wk (Wk.forget [6, 7] [0, 1] (s' := ⟨[(6, .pt 0 0), (7, .v (.bool true))], [(0, .box [.sl 1 0 x4.length, .v (.int .i64 p2)]), (1, .arr 2 (List.map enc_si x4))]⟩) (by kernel_rfl)) ?_
      have hr := Option.some.inj h
      subst hr
      exact ⟨_, Wk.refl _, .inr rfl, ⟨[1], by kernel_rfl, ⟨rfl, trivial⟩, [.agg [.sl 1 0 x4.length, .v (.int .i64 p2)], .v (.bool true)], by kernel_rfl, by kernel_rfl⟩⟩
    · replace h := cd_f b4 h
      refine AX.condF (x5) (by kernel_rfl) b4 ?_
      refine AX.skip ?_
      refine AX.seq ?_
      refine AX.reg (its := []) [6, 7] [0] (s1 := ⟨[(6, .pt 0 0), (7, .v (.bool false))], [(0, .box [.v (.slice none 0 0), .v (.int .i64 0)])]⟩) (C := True) (by kernel_rfl) trivial trivial ?_
      refine AX.ret ?_
      refine fin_wk (Wk.matB 0 0 1 2 (cs := [.v (.slice none 0 0), .v (.int .i64 0)]) (by kernel_rfl) (by kernel_rfl) (Nat.le_of_ble_eq_true (by kernel_rfl)) (by kernel_rfl) (by decide) rfl) ?_
      refine fin_wk (Wk.forget [6, 7] [0, 1] (s' := ⟨[(6, .pt 0 0), (7, .v (.bool false))], [(0, .box [.sl 1 0 (([] : List (ByteArray × Int)).length), .v (.int .i64 0)]), (1, .arr 2 (List.map enc_si ([] : List (ByteArray × Int))))]⟩) (by kernel_rfl)) ?_
      have hr := Option.some.inj h
      subst hr
      exact ⟨_, Wk.refl _, .inr rfl, ⟨[1], by kernel_rfl, ⟨rfl, trivial⟩, [.agg [.sl 1 0 (([] : List (ByteArray × Int)).length), .v (.int .i64 0)], .v (.bool false)], by kernel_rfl, by kernel_rfl⟩⟩
  · replace h := cd_f b2 h
    refine AX.reg (its := [.auto { y := some (.v (.bool false)) }]) [6, 8, 17] [0, 1, 2] (s1 := ⟨[(6, .pt 0 0), (8, .pt 2 0), (17, .v (.bool false))], [(0, .box [.v (.slice none 0 0), .v (.int .i64 0)]), (1, .arr 2 (List.map enc_si x4)), (2, .box [.sl 1 0 x4.length, .v (.int .i64 p2)])]⟩) (C := ((True) ∧ ((.v (.bool p3) : AV) = (.v (.bool false) : AV))) ∧ True) (by kernel_rfl) ⟨⟨trivial, (congrArg (fun z => AV.v (.bool z)) b2)⟩, trivial⟩ trivial ?_
    refine AX.cond_false (by kernel_rfl) ?_
    refine AX.skip ?_
    refine AX.seq ?_
    refine AX.reg (its := []) [6, 7] [0] (s1 := ⟨[(6, .pt 0 0), (7, .v (.bool false))], [(0, .box [.v (.slice none 0 0), .v (.int .i64 0)])]⟩) (C := True) (by kernel_rfl) trivial trivial ?_
    refine AX.ret ?_
    refine fin_wk (Wk.matB 0 0 1 2 (cs := [.v (.slice none 0 0), .v (.int .i64 0)]) (by kernel_rfl) (by kernel_rfl) (Nat.le_of_ble_eq_true (by kernel_rfl)) (by kernel_rfl) (by decide) rfl) ?_
    refine fin_wk (Wk.forget [6, 7] [0, 1] (s' := ⟨[(6, .pt 0 0), (7, .v (.bool false))], [(0, .box [.sl 1 0 (([] : List (ByteArray × Int)).length), .v (.int .i64 0)]), (1, .arr 2 (List.map enc_si ([] : List (ByteArray × Int))))]⟩) (by kernel_rfl)) ?_
    have hr := Option.some.inj h
    subst hr
    exact ⟨_, Wk.refl _, .inr rfl, ⟨[1], by kernel_rfl, ⟨rfl, trivial⟩, [.agg [.sl 1 0 (([] : List (ByteArray × Int)).length), .v (.int .i64 0)], .v (.bool false)], by kernel_rfl, by kernel_rfl⟩⟩

theorem s_impl_BuildFlag (p1 : List (ByteArray × Bool × Int)) (p2 : Int) (r : (List (ByteArray × Int)) × Int × Bool) (h : m_impl_BuildFlag p1 p2 = some r) :
    Eng.Spec Tryz.prog 25 [.bs false 3 (List.map enc_sbi p1), .v (.int .i64 p2)] [] (.tup [.agg [.sl 0 0 r.1.length, .v (.int .i64 r.2.1)], .v (.bool r.2.2)]) [.arr 2 (List.map enc_si r.1)] := by
  unfold m_impl_BuildFlag at h
  refine Eng.Spec.body Tryz.func25 (by kernel_rfl) rfl (by kernel_rfl) ?_
  refine AX.wkpost ?_
  refine AX.seq ?_
  refine AX.reg (its := [.auto { nk := 0 }]) [0, 1, 4] [0] (s1 := ⟨[(0, .bs false 3 (List.map enc_sbi p1)), (1, .v (.int .i64 p2)), (4, .pt 0 0)], [(0, .box [.v (.slice none 0 0), .v (.int .i64 0)])]⟩) (C := True) (by kernel_rfl) trivial trivial ?_
  refine AX.seq ?_
  refine AX.seq ?_
  refine AX.reg (its := [.auto {}, .auto { y := some (.v (.int .i64 (p1.length : Int))) }]) [0, 1, 4, 10] [0] (s1 := ⟨[(0, .bs false 3 (List.map enc_sbi p1)), (1, .v (.int .i64 p2)), (4, .pt 0 0), (10, .v (.bool (decide (12 < (p1.length : Int)))))], [(0, .box [.v (.slice none 0 0), .v (.int .i64 0)])]⟩) (C := (True ∧ (AV.v (.int .i64 ((List.map enc_sbi p1).length : Int)) = AV.v (.int .i64 (p1.length : Int)))) ∧ True) (by kernel_rfl) ⟨⟨trivial, len_map enc_sbi p1⟩, trivial⟩ trivial ?_
  rcases bool_cases (decide (12 < (p1.length : Int))) with b1 | b1
  · replace h := cd_t b1 h
    refine AX.condT (decide (12 < (p1.length : Int))) (by kernel_rfl) b1 ?_
    refine AX.seq ?_
    refine AX.reg (its := []) [4, 5] [0] (s1 := ⟨[(4, .pt 0 0), (5, .v (.bool false))], [(0, .box [.v (.slice none 0 0), .v (.int .i64 0)])]⟩) (C := True) (by kernel_rfl) trivial trivial ?_
    refine AX.ret ?_
    refine fin_wk (Wk.matB 0 0 1 2 (cs := [.v (.slice none 0 0), .v (.int .i64 0)]) (by kernel_rfl) (by kernel_rfl) (Nat.le_of_ble_eq_true (by kernel_rfl)) (by kernel_rfl) (by decide) rfl) ?_
    refine fin_wk (Wk.forget [4, 5] [0, 1] (s' := ⟨[(4, .pt 0 0), (5, .v (.bool false))], [(0, .box [.sl 1 0 (([] : List (ByteArray × Int)).length), .v (.int .i64 0)]), (1, .arr 2 (List.map enc_si ([] : List (ByteArray × Int))))]⟩) (by kernel_rfl)) ?_
    have hr := Option.some.inj h
    subst hr
    exact ⟨_, Wk.refl _, .inr rfl, ⟨[1], by kernel_rfl, ⟨rfl, trivial⟩, [.agg [.sl 1 0 (([] : List (ByteArray × Int)).length), .v (.int .i64 0)], .v (.bool false)], by kernel_rfl, by kernel_rfl⟩⟩
  · replace h := cd_f b1 h
    refine AX.condF (decide (12 < (p1.length : Int))) (by kernel_rfl) b1 ?_
    refine AX.skip ?_
    refine AX.seq ?_
    obtain ⟨x3, e2, h⟩ := bd_e h
    refine AX.reg (its := [.auto {}, .call 37 [.bs false 3 (List.map enc_sbi p1), .fn 49 []] (handO (rho ([] ++ [1])) [] [] ++ []) (callEv [] [1] (.tup [.sl 0 0 x3.1.length, .v (.bool x3.2)]) [.arr 2 (List.map enc_si x3.1)])]) [1, 4, 6, 7] [0, 1] (s1 := ⟨[(1, .v (.int .i64 p2)), (4, .pt 0 0), (6, .sl 1 0 x3.1.length), (7, .v (.bool x3.2))], [(0, .box [.v (.slice none 0 0), .v (.int .i64 0)]), (1, .arr 2 (List.map enc_si x3.1))]⟩) (C := ((([.bs false 3 (List.map enc_sbi p1), .fn 49 []] : List AV) = [.bs false 3 (List.map enc_sbi p1), .fn 49 []]) ∧ True) ∧ True) (by kernel_rfl) ⟨⟨rfl, trivial⟩, trivial⟩ ⟨call_ok (ks := []) (ns := [1]) (bor := []) (bobjs := []) (s_impl_build_BuildFlag_1 p1 x3 e2) (.cons (.c1 (.c0 (.same _ (by kernel_rfl) (by kernel_rfl)))) (.cons (.fn (.nil)) (.nil))) (by kernel_rfl) trivial, trivial⟩ ?_
    refine AX.seq ?_
    obtain ⟨x4, e3, h⟩ := bd_e h
    refine AX.reg (its := [.auto {}, .auto {}, .auto {}, .call 51 [.sl 1 0 x3.1.length, .v (.int .i64 p2), .v (.bool x3.2)] (handO (rho ([] ++ [2])) [] [] ++ [(1, .arr 2 (List.map enc_si x3.1))]) (callEv [] [2] (.tup [.agg [.sl 0 0 x4.1.length, .v (.int .i64 x4.2.1)], .v (.bool x4.2.2)]) [.arr 2 (List.map enc_si x4.1)])]) [4, 5] [0, 2] (s1 := ⟨[(4, .pt 0 0), (5, .v (.bool x4.2.2))], [(0, .box [.sl 2 0 x4.1.length, .v (.int .i64 x4.2.1)]), (2, .arr 2 (List.map enc_si x4.1))]⟩) (C := ((([.sl 1 0 x3.1.length, .v (.int .i64 p2), .v (.bool x3.2)] : List AV) = [.sl 1 0 x3.1.length, .v (.int .i64 p2), .v (.bool x3.2)]) ∧ (AO.arr 2 (List.map enc_si x3.1) = AO.arr 2 (List.map enc_si x3.1)) ∧ True) ∧ True) (by kernel_rfl) ⟨⟨rfl, rfl, trivial⟩, trivial⟩ ⟨call_ok (ks := []) (ns := [2]) (bor := [1]) (bobjs := [(1, .arr 2 (List.map enc_si x3.1))]) (s_impl_flagOf x3.1 p2 x3.2 x4 e3) (.cons (.c1 (.c0 (.arr rfl rfl ((rfl).trans (List.length_map ..).symm)))) (.cons (.c1 (.c0 (.same _ (by kernel_rfl) (by kernel_rfl)))) (.cons (.c1 (.c0 (.same _ (by kernel_rfl) (by kernel_rfl)))) (.nil)))) (by kernel_rfl) trivial, trivial⟩ ?_
    refine AX.ret ?_
    refine fin_wk (Wk.swap 1 2 (Nat.le_of_ble_eq_true (by kernel_rfl)) (Nat.le_of_ble_eq_true (by kernel_rfl)) rfl) ?_
    refine fin_wk (Wk.forget [4, 5] [0, 1] (s' := ⟨[(4, .pt 0 0), (5, .v (.bool x4.2.2))], [(0, .box [.sl 1 0 x4.1.length, .v (.int .i64 x4.2.1)]), (1, .arr 2 (List.map enc_si x4.1))]⟩) (by kernel_rfl)) ?_
    have hr := Option.some.inj h
    subst hr
    exact ⟨_, Wk.refl _, .inr rfl, ⟨[1], by kernel_rfl, ⟨rfl, trivial⟩, [.agg [.sl 1 0 x4.1.length, .v (.int .i64 x4.2.1)], .v (.bool x4.2.2)], by kernel_rfl, by kernel_rfl⟩⟩

theorem s_impl_ParseFlag (p1 : ByteArray) (r : (List (ByteArray × Int)) × Int × Bool) (h : m_impl_ParseFlag p1 = some r) :
    Eng.Spec Tryz.prog 9 [.v (.string p1)] [] (.tup [.agg [.sl 0 0 r.1.length, .v (.int .i64 r.2.1)], .v (.bool r.2.2)]) [.arr 2 (List.map enc_si r.1)] := by
  unfold m_impl_ParseFlag at h
  refine Eng.Spec.body Tryz.func9 (by kernel_rfl) rfl (by kernel_rfl) ?_
  refine AX.wkpost ?_
  refine AX.seq ?_
  refine AX.reg (its := [.auto { nk := 0 }]) [0, 2] [0] (s1 := ⟨[(0, .v (.string p1)), (2, .pt 0 0)], [(0, .box [.v (.slice none 0 0), .v (.int .i64 0)])]⟩) (C := True) (by kernel_rfl) trivial trivial ?_
  refine AX.seq ?_
  obtain ⟨x2, e1, h⟩ := bd_e h
  refine AX.reg (its := [.auto {}, .call 17 [.v (.string p1)] (handO (rho ([] ++ [1])) [] [] ++ []) (callEv [] [1] (.tup [.v (.string x2.1), .sl 0 0 x2.2.1.length, .v (.bool x2.2.2)]) [.arr 3 (List.map enc_sbi x2.2.1)])]) [2, 4, 5, 6] [0, 1] (s1 := ⟨[(2, .pt 0 0), (4, .v (.string x2.1)), (5, .sl 1 0 x2.2.1.length), (6, .v (.bool x2.2.2))], [(0, .box [.v (.slice none 0 0), .v (.int .i64 0)]), (1, .arr 3 (List.map enc_sbi x2.2.1))]⟩) (C := ((([.v (.string p1)] : List AV) = [.v (.string p1)]) ∧ True) ∧ True) (by kernel_rfl) ⟨⟨rfl, trivial⟩, trivial⟩ ⟨call_ok (ks := []) (ns := [1]) (bor := []) (bobjs := []) (s_impl_readItems p1 x2 e1) (.cons (.c1 (.c0 (.same _ (by kernel_rfl) (by kernel_rfl)))) (.nil)) (by kernel_rfl) trivial, trivial⟩ ?_
  refine AX.seq ?_
  obtain ⟨x3, e2, h⟩ := bd_e h
  refine AX.reg (its := [.auto {}, .call 23 [.v (.string x2.1), .v (.string (ByteArray.mk #[102, 108, 97, 103, 32]))] (handO (rho ([] ++ [])) [] [] ++ []) (callEv [] [] (.tup [.v (.string x3.1), .v (.bool x3.2)]) [])]) [2, 5, 6, 7, 8] [0, 1] (s1 := ⟨[(2, .pt 0 0), (5, .sl 1 0 x2.2.1.length), (6, .v (.bool x2.2.2)), (7, .v (.string x3.1)), (8, .v (.bool x3.2))], [(0, .box [.v (.slice none 0 0), .v (.int .i64 0)]), (1, .arr 3 (List.map enc_sbi x2.2.1))]⟩) (C := ((([.v (.string x2.1), .v (.string (ByteArray.mk #[102, 108, 97, 103, 32]))] : List AV) = [.v (.string x2.1), .v (.string (ByteArray.mk #[102, 108, 97, 103, 32]))]) ∧ True) ∧ True) (by kernel_rfl) ⟨⟨rfl, trivial⟩, trivial⟩ ⟨call_ok (ks := []) (ns := []) (bor := []) (bobjs := []) (s_strings_CutPrefix x2.1 (ByteArray.mk #[102, 108, 97, 103, 32]) x3 e2) (.cons (.c1 (.c0 (.same _ (by kernel_rfl) (by kernel_rfl)))) (.cons (.c1 (.c0 (.same _ (by kernel_rfl) (by kernel_rfl)))) (.nil))) (by kernel_rfl) trivial, trivial⟩ ?_
  refine AX.seq ?_
  obtain ⟨x4, e3, h⟩ := bd_e h
  refine AX.reg (its := [.auto { y := some (.bs false 1 (List.map enc_s boundWords)) }, .auto {}, .call 24 [.bs false 1 (List.map enc_s boundWords), .v (.string x3.1)] (handO (rho ([] ++ [])) [] [] ++ []) (callEv [] [] (.v (.int .i64 x4)) [])]) [2, 5, 6, 8, 9] [0, 1] (s1 := ⟨[(2, .pt 0 0), (5, .sl 1 0 x2.2.1.length), (6, .v (.bool x2.2.2)), (8, .v (.bool x3.2)), (9, .v (.int .i64 x4))], [(0, .box [.v (.slice none 0 0), .v (.int .i64 0)]), (1, .arr 3 (List.map enc_sbi x2.2.1))]⟩) (C := (True ∧ (AV.bs false 1 (List.map enc_s boundWords) = AV.bs false 1 (List.map enc_s boundWords))) ∧ ((([.bs false 1 (List.map enc_s boundWords), .v (.string x3.1)] : List AV) = [.bs false 1 (List.map enc_s boundWords), .v (.string x3.1)]) ∧ True) ∧ True) (by kernel_rfl) ⟨⟨trivial, rfl⟩, ⟨⟨rfl, trivial⟩, trivial⟩⟩ ⟨call_ok (ks := []) (ns := []) (bor := []) (bobjs := []) (s_slices_Index_s boundWords x3.1 x4 e3) (.cons (.c1 (.c0 (.same _ (by kernel_rfl) (by kernel_rfl)))) (.cons (.c1 (.c0 (.same _ (by kernel_rfl) (by kernel_rfl)))) (.nil))) (by kernel_rfl) trivial, trivial⟩ ?_
  refine AX.seq ?_
  refine AX.seq ?_
  rcases bool_cases ((!x2.2.2)) with b4 | b4
  · replace h := cd_t b4 h
    refine AX.reg (its := [.auto {}, .auto { y := some (.v (.bool true)) }]) [2, 5, 9, 33] [0, 1] (s1 := ⟨[(2, .pt 0 0), (5, .sl 1 0 x2.2.1.length), (9, .v (.int .i64 x4)), (33, .v (.bool true))], [(0, .box [.v (.slice none 0 0), .v (.int .i64 0)]), (1, .arr 3 (List.map enc_sbi x2.2.1))]⟩) (C := ((True) ∧ ((.v (.bool (!x2.2.2)) : AV) = (.v (.bool true) : AV))) ∧ True) (by kernel_rfl) ⟨⟨trivial, (congrArg (fun z => AV.v (.bool z)) b4)⟩, trivial⟩ trivial ?_
    refine AX.cond_true (by kernel_rfl) ?_
    refine AX.seq ?_
    refine AX.reg (its := []) [2, 3] [0] (s1 := ⟨[(2, .pt 0 0), (3, .v (.bool false))], [(0, .box [.v (.slice none 0 0), .v (.int .i64 0)])]⟩) (C := True) (by kernel_rfl) trivial trivial ?_
    refine AX.ret ?_
    refine fin_wk (Wk.matB 0 0 1 2 (cs := [.v (.slice none 0 0), .v (.int .i64 0)]) (by kernel_rfl) (by kernel_rfl) (Nat.le_of_ble_eq_true (by kernel_rfl)) (by kernel_rfl) (by decide) rfl) ?_
    refine fin_wk (Wk.forget [2, 3] [0, 1] (s' := ⟨[(2, .pt 0 0), (3, .v (.bool false))], [(0, .box [.sl 1 0 (([] : List (ByteArray × Int)).length), .v (.int .i64 0)]), (1, .arr 2 (List.map enc_si ([] : List (ByteArray × Int))))]⟩) (by kernel_rfl)) ?_
    have hr := Option.some.inj h
    subst hr
    exact ⟨_, Wk.refl _, .inr rfl, ⟨[1], by kernel_rfl, ⟨rfl, trivial⟩, [.agg [.sl 1 0 (([] : List (ByteArray × Int)).length), .v (.int .i64 0)], .v (.bool false)], by kernel_rfl, by kernel_rfl⟩⟩
  · replace h := cd_f b4 h
    rcases bool_cases ((!x3.2)) with b5 | b5
    · replace h := cd_t b5 h
      refine AX.reg (its := [.auto {}, .auto { y := some (.v (.bool false)) }, .auto {}, .auto {}, .auto { y := some (.v (.bool true)) }]) [2, 5, 9, 33] [0, 1] (s1 := ⟨[(2, .pt 0 0), (5, .sl 1 0 x2.2.1.length), (9, .v (.int .i64 x4)), (33, .v (.bool true))], [(0, .box [.v (.slice none 0 0), .v (.int .i64 0)]), (1, .arr 3 (List.map enc_sbi x2.2.1))]⟩) (C := ((True) ∧ ((.v (.bool (!x2.2.2)) : AV) = (.v (.bool false) : AV))) ∧ ((True) ∧ ((.v (.bool (!x3.2)) : AV) = (.v (.bool true) : AV))) ∧ True) (by kernel_rfl) ⟨⟨trivial, (congrArg (fun z => AV.v (.bool z)) b4)⟩, ⟨⟨trivial, (congrArg (fun z => AV.v (.bool z)) b5)⟩, trivial⟩⟩ trivial ?_
      refine AX.cond_true (by kernel_rfl) ?_
      refine AX.seq ?_
      refine AX.reg (its := []) [2, 3] [0] (s1 := ⟨[(2, .pt 0 0), (3, .v (.bool false))], [(0, .box [.v (.slice none 0 0), .v (.int .i64 0)])]⟩) (C := True) (by kernel_rfl) trivial trivial ?_
      refine AX.ret ?_
      refine fin_wk (Wk.matB 0 0 1 2 (cs := [.v (.slice none 0 0), .v (.int .i64 0)]) (by kernel_rfl) (by kernel_rfl) (Nat.le_of_ble_eq_true (by kernel_rfl)) (by kernel_rfl) (by decide) rfl) ?_
      refine fin_wk (Wk.forget [2, 3] [0, 1] (s' := ⟨[(2, .pt 0 0), (3, .v (.bool false))], [(0, .box [.sl 1 0 (([] : List (ByteArray × Int)).length), .v (.int .i64 0)]), (1, .arr 2 (List.map enc_si ([] : List (ByteArray × Int))))]⟩) (by kernel_rfl)) ?_
      have hr := Option.some.inj h
      subst hr
      exact ⟨_, Wk.refl _, .inr rfl, ⟨[1], by kernel_rfl, ⟨rfl, trivial⟩, [.agg [.sl 1 0 (([] : List (ByteArray × Int)).length), .v (.int .i64 0)], .v (.bool false)], by kernel_rfl, by kernel_rfl⟩⟩
    · replace h := cd_f b5 h
      refine AX.reg (its := [.auto {}, .auto { y := some (.v (.bool false)) }, .auto {}, .auto {}, .auto { y := some (.v (.bool false)) }]) [2, 5, 9, 33] [0, 1] (s1 := ⟨[(2, .pt 0 0), (5, .sl 1 0 x2.2.1.length), (9, .v (.int .i64 x4)), (33, .v (.bool (decide (x4 < 0))))], [(0, .box [.v (.slice none 0 0), .v (.int .i64 0)]), (1, .arr 3 (List.map enc_sbi x2.2.1))]⟩) (C := ((True) ∧ ((.v (.bool (!x2.2.2)) : AV) = (.v (.bool false) : AV))) ∧ ((True) ∧ ((.v (.bool (!x3.2)) : AV) = (.v (.bool false) : AV))) ∧ True) (by kernel_rfl) ⟨⟨trivial, (congrArg (fun z => AV.v (.bool z)) b4)⟩, ⟨⟨trivial, (congrArg (fun z => AV.v (.bool z)) b5)⟩, trivial⟩⟩ trivial ?_
      rcases bool_cases (decide (x4 < 0)) with b6 | b6
      · replace h := cd_t b6 h
        refine AX.condT (decide (x4 < 0)) (by kernel_rfl) b6 ?_
        refine AX.seq ?_
        refine AX.reg (its := []) [2, 3] [0] (s1 := ⟨[(2, .pt 0 0), (3, .v (.bool false))], [(0, .box [.v (.slice none 0 0), .v (.int .i64 0)])]⟩) (C := True) (by kernel_rfl) trivial trivial ?_
        refine AX.ret ?_
        refine fin_wk (Wk.matB 0 0 1 2 (cs := [.v (.slice none 0 0), .v (.int .i64 0)]) (by kernel_rfl) (by kernel_rfl) (Nat.le_of_ble_eq_true (by kernel_rfl)) (by kernel_rfl) (by decide) rfl) ?_
        refine fin_wk (Wk.forget [2, 3] [0, 1] (s' := ⟨[(2, .pt 0 0), (3, .v (.bool false))], [(0, .box [.sl 1 0 (([] : List (ByteArray × Int)).length), .v (.int .i64 0)]), (1, .arr 2 (List.map enc_si ([] : List (ByteArray × Int))))]⟩) (by kernel_rfl)) ?_
        have hr := Option.some.inj h
        subst hr
        exact ⟨_, Wk.refl _, .inr rfl, ⟨[1], by kernel_rfl, ⟨rfl, trivial⟩, [.agg [.sl 1 0 (([] : List (ByteArray × Int)).length), .v (.int .i64 0)], .v (.bool false)], by kernel_rfl, by kernel_rfl⟩⟩
      · replace h := cd_f b6 h
        refine AX.condF (decide (x4 < 0)) (by kernel_rfl) b6 ?_
        refine AX.skip ?_
        refine AX.seq ?_
        obtain ⟨x5, e7, h⟩ := bd_e h
        refine AX.reg (its := [.auto {}, .auto {}, .call 25 [.sl 1 0 x2.2.1.length, .v (.int .i64 x4)] (handO (rho ([] ++ [2])) [] [] ++ [(1, .arr 3 (List.map enc_sbi x2.2.1))]) (callEv [] [2] (.tup [.agg [.sl 0 0 x5.1.length, .v (.int .i64 x5.2.1)], .v (.bool x5.2.2)]) [.arr 2 (List.map enc_si x5.1)])]) [2, 3] [0, 2] (s1 := ⟨[(2, .pt 0 0), (3, .v (.bool x5.2.2))], [(0, .box [.sl 2 0 x5.1.length, .v (.int .i64 x5.2.1)]), (2, .arr 2 (List.map enc_si x5.1))]⟩) (C := ((([.sl 1 0 x2.2.1.length, .v (.int .i64 x4)] : List AV) = [.sl 1 0 x2.2.1.length, .v (.int .i64 x4)]) ∧ (AO.arr 3 (List.map enc_sbi x2.2.1) = AO.arr 3 (List.map enc_sbi x2.2.1)) ∧ True) ∧ True) (by kernel_rfl) ⟨⟨rfl, rfl, trivial⟩, trivial⟩ ⟨call_ok (ks := []) (ns := [2]) (bor := [1]) (bobjs := [(1, .arr 3 (List.map enc_sbi x2.2.1))]) (s_impl_BuildFlag x2.2.1 x4 x5 e7) (.cons (.c1 (.c0 (.arr rfl rfl ((rfl).trans (List.length_map ..).symm)))) (.cons (.c1 (.c0 (.same _ (by kernel_rfl) (by kernel_rfl)))) (.nil))) (by kernel_rfl) trivial, trivial⟩ ?_
        refine AX.ret ?_
        refine fin_wk (Wk.swap 1 2 (Nat.le_of_ble_eq_true (by kernel_rfl)) (Nat.le_of_ble_eq_true (by kernel_rfl)) rfl) ?_
        refine fin_wk (Wk.forget [2, 3] [0, 1] (s' := ⟨[(2, .pt 0 0), (3, .v (.bool x5.2.2))], [(0, .box [.sl 1 0 x5.1.length, .v (.int .i64 x5.2.1)]), (1, .arr 2 (List.map enc_si x5.1))]⟩) (by kernel_rfl)) ?_
        have hr := Option.some.inj h
        subst hr
        exact ⟨_, Wk.refl _, .inr rfl, ⟨[1], by kernel_rfl, ⟨rfl, trivial⟩, [.agg [.sl 1 0 x5.1.length, .v (.int .i64 x5.2.1)], .v (.bool x5.2.2)], by kernel_rfl, by kernel_rfl⟩⟩

theorem s_laws_newlines_L1 (p1 : ByteArray) (n : Nat) (g : Int × Int) (out : Int) (h : m_laws_newlines_L1 p1 n g.1 g.2 = some out) :
    AX Tryz.prog 18 0 (codeAt [1, 1, 0, 1, 1] (bodyOf Tryz.f11)) ((fun g : Int × Int => (⟨[(0, .v (.string p1)), (3, .v (.int .i64 g.1)), (4, .v (.int .i64 g.2))], []⟩ : S)) g) (fun ex s => ex = .exit 0 ∧ s = (fun o : Int => (⟨[(3, .v (.int .i64 o))], []⟩ : S)) out) := by
  refine AX.wkpost ?_
  refine AX.loop (G := Nat × (Int × Int)) (fun q => (fun g : Int × Int => (⟨[(0, .v (.string p1)), (3, .v (.int .i64 g.1)), (4, .v (.int .i64 g.2))], []⟩ : S)) q.2) (fun q => m_laws_newlines_L1 p1 q.1 q.2.1 q.2.2 = some out) (fun q => q.1) (n, g) h (Wk.refl _) ?_
  clear h
  rintro ⟨fu, v2, v3⟩ h
  cases fu with
  | zero => cases h
  | succ fu =>
    rw [m_laws_newlines_L1] at h
    refine AX.seq ?_
    refine AX.seq ?_
    refine AX.reg (its := []) [0, 3, 4, 8] [] (s1 := ⟨[(0, .v (.string p1)), (3, .v (.int .i64 v2)), (4, .v (.int .i64 v3)), (8, .v (.bool (decide (v3 < (p1.size : Int)))))], []⟩) (C := True) (by kernel_rfl) trivial trivial ?_
    rcases bool_cases (decide (v3 < (p1.size : Int))) with b1 | b1
    · replace h := cd_t b1 h
      refine AX.condT (decide (v3 < (p1.size : Int))) (by kernel_rfl) b1 ?_
      refine AX.skip ?_
      refine AX.seq ?_
      refine AX.block ?_
      refine AX.seq ?_
      obtain ⟨g2, h⟩ := gd_e h
      refine AX.reg (its := []) [0, 3, 4, 14] [] (s1 := ⟨[(0, .v (.string p1)), (3, .v (.int .i64 v2)), (4, .v (.int .i64 v3)), (14, .v (.bool (decide ((byteAt p1 v3.toNat) = 10))))], []⟩) (C := (0 ≤ v3 ∧ v3 < (p1.size : Int)) ∧ True) (by kernel_rfl) ⟨g2, trivial⟩ trivial ?_
      rcases bool_cases (decide ((byteAt p1 v3.toNat) = 10)) with b3 | b3
      · replace h := cd_t b3 h
        refine AX.condT (decide ((byteAt p1 v3.toNat) = 10)) (by kernel_rfl) b3 ?_
        refine AX.reg (its := [.auto {}, .auto { raw := true }]) [0, 3, 4] [] (s1 := ⟨[(0, .v (.string p1)), (3, .v (.int .i64 (IntKind.wrap .i64 (v2 + 1)))), (4, .v (.int .i64 v3))], []⟩) (C := True) (by kernel_rfl) trivial trivial ?_
        refine AX.reg (its := [.auto {}, .auto { raw := true }]) [0, 3, 4] [] (s1 := ⟨[(0, .v (.string p1)), (3, .v (.int .i64 (IntKind.wrap .i64 (v2 + 1)))), (4, .v (.int .i64 (IntKind.wrap .i64 (v3 + 1))))], []⟩) (C := True) (by kernel_rfl) trivial trivial ?_
        refine ⟨(fu, (IntKind.wrap .i64 (v2 + 1), IntKind.wrap .i64 (v3 + 1))), h, Nat.lt_succ_self _, ?_⟩
        refine Wk.trans (Wk.forget [0, 3, 4] [] (s' := ⟨[(0, .v (.string p1)), (3, .v (.int .i64 (IntKind.wrap .i64 (v2 + 1)))), (4, .v (.int .i64 (IntKind.wrap .i64 (v3 + 1))))], []⟩) (by kernel_rfl)) ?_
        exact Wk.refl _
      · replace h := cd_f b3 h
        refine AX.condF (decide ((byteAt p1 v3.toNat) = 10)) (by kernel_rfl) b3 ?_
        refine AX.skip ?_
        refine AX.reg (its := [.auto {}, .auto { raw := true }]) [0, 3, 4] [] (s1 := ⟨[(0, .v (.string p1)), (3, .v (.int .i64 v2)), (4, .v (.int .i64 (IntKind.wrap .i64 (v3 + 1))))], []⟩) (C := True) (by kernel_rfl) trivial trivial ?_
        refine ⟨(fu, (v2, IntKind.wrap .i64 (v3 + 1))), h, Nat.lt_succ_self _, ?_⟩
        refine Wk.trans (Wk.forget [0, 3, 4] [] (s' := ⟨[(0, .v (.string p1)), (3, .v (.int .i64 v2)), (4, .v (.int .i64 (IntKind.wrap .i64 (v3 + 1))))], []⟩) (by kernel_rfl)) ?_
        exact Wk.refl _
    · replace h := cd_f b1 h
      refine AX.condF (decide (v3 < (p1.size : Int))) (by kernel_rfl) b1 ?_
      refine AX.exit ?_
      refine fin_wk (Wk.forget [3] [] (s' := ⟨[(3, .v (.int .i64 v2))], []⟩) (by kernel_rfl)) ?_
      have hr := Option.some.inj h
      subst hr
      exact ⟨_, Wk.refl _, ⟨rfl, rfl⟩⟩

theorem s_laws_newlines (p1 : ByteArray) (r : Int) (h : m_laws_newlines p1 = some r) :
    Eng.Spec Tryz.prog 11 [.v (.string p1)] [] (.v (.int .i64 r)) [] := by
  unfold m_laws_newlines at h
  refine Eng.Spec.body Tryz.func11 (by kernel_rfl) rfl (by kernel_rfl) ?_
  refine AX.wkpost ?_
  refine AX.seq ?_
  refine AX.reg (its := []) [0] [] (s1 := ⟨[(0, .v (.string p1))], []⟩) (C := True) (by kernel_rfl) trivial trivial ?_
  refine AX.seq ?_
  refine AX.reg (its := []) [0, 3] [] (s1 := ⟨[(0, .v (.string p1)), (3, .v (.int .i64 0))], []⟩) (C := True) (by kernel_rfl) trivial trivial ?_
  refine AX.seq ?_
  refine AX.seq ?_
  refine AX.reg (its := []) [0, 3, 4] [] (s1 := ⟨[(0, .v (.string p1)), (3, .v (.int .i64 0)), (4, .v (.int .i64 0))], []⟩) (C := True) (by kernel_rfl) trivial trivial ?_
  refine AX.block ?_
  obtain ⟨x4, e4, h⟩ := bd_e h
  refine AX.wk (Wk.forget [0, 3, 4] [] (s' := ⟨[(0, .v (.string p1)), (3, .v (.int .i64 0)), (4, .v (.int .i64 0))], []⟩) (by kernel_rfl)) ?_
  refine AX.mono (s_laws_newlines_L1 p1 FU (0, 0) x4 e4) ?_
  rintro _ _ ⟨rfl, rfl⟩
  skip
  refine AX.seq ?_
  refine AX.reg (its := []) [2] [] (s1 := ⟨[(2, .v (.int .i64 x4))], []⟩) (C := True) (by kernel_rfl) trivial trivial ?_
  refine AX.ret ?_
  refine fin_wk (Wk.forget [2] [] (s' := ⟨[(2, .v (.int .i64 x4))], []⟩) (by kernel_rfl)) ?_
  have hr := Option.some.inj h
  subst hr
  exact ⟨_, Wk.refl _, .inr rfl, ⟨[], by kernel_rfl, trivial, [.v (.int .i64 x4)], by kernel_rfl, by kernel_rfl⟩⟩

theorem s_laws_FnParseEnum (p1 : List (Int)) (r : Bool) (h : m_laws_FnParseEnum p1 = some r) :
    Eng.Spec Tryz.prog 3 [.bs true 1 (List.map enc_y p1)] [] (.v (.bool r)) [] := by
  unfold m_laws_FnParseEnum at h
  refine Eng.Spec.body Tryz.func3 (by kernel_rfl) rfl (by kernel_rfl) ?_
  refine AX.wkpost ?_
  refine AX.seq ?_
  refine AX.reg (its := []) [0] [] (s1 := ⟨[(0, .bs true 1 (List.map enc_y p1))], []⟩) (C := True) (by kernel_rfl) trivial trivial ?_
  refine AX.seq ?_
  refine AX.seq ?_
  refine AX.reg (its := [.auto {}, .auto { y := some (.v (.int .i64 (p1.length : Int))) }]) [0, 14] [] (s1 := ⟨[(0, .bs true 1 (List.map enc_y p1)), (14, .v (.bool (decide (1048576 < (p1.length : Int)))))], []⟩) (C := (True ∧ (AV.v (.int .i64 ((List.map enc_y p1).length : Int)) = AV.v (.int .i64 (p1.length : Int)))) ∧ True) (by kernel_rfl) ⟨⟨trivial, len_map enc_y p1⟩, trivial⟩ trivial ?_
  rcases bool_cases (decide (1048576 < (p1.length : Int))) with b1 | b1
  · replace h := cd_t b1 h
    refine AX.condT (decide (1048576 < (p1.length : Int))) (by kernel_rfl) b1 ?_
    refine AX.seq ?_
    refine AX.reg (its := []) [2] [] (s1 := ⟨[(2, .v (.bool true))], []⟩) (C := True) (by kernel_rfl) trivial trivial ?_
    refine AX.ret ?_
    refine fin_wk (Wk.forget [2] [] (s' := ⟨[(2, .v (.bool true))], []⟩) (by kernel_rfl)) ?_
    have hr := Option.some.inj h
    subst hr
    exact ⟨_, Wk.refl _, .inr rfl, ⟨[], by kernel_rfl, trivial, [.v (.bool true)], by kernel_rfl, by kernel_rfl⟩⟩
  · replace h := cd_f b1 h
    refine AX.condF (decide (1048576 < (p1.length : Int))) (by kernel_rfl) b1 ?_
    refine AX.skip ?_
    refine AX.seq ?_
    obtain ⟨x2, e2, h⟩ := bd_e h
    refine AX.reg (its := [.auto {}, .call 4 [.bs true 1 (List.map enc_y p1)] (handO (rho ([] ++ [])) [] [] ++ []) (callEv [] [] (.v (.string x2)) [])]) [3] [] (s1 := ⟨[(3, .v (.string x2))], []⟩) (C := ((([.bs true 1 (List.map enc_y p1)] : List AV) = [.bs true 1 (List.map enc_y p1)]) ∧ True) ∧ True) (by kernel_rfl) ⟨⟨rfl, trivial⟩, trivial⟩ ⟨call_ok (ks := []) (ns := []) (bor := []) (bobjs := []) (s_spec_DrawParseEnum p1 x2 e2) (.cons (.c1 (.c0 (.same _ (by kernel_rfl) (by kernel_rfl)))) (.nil)) (by kernel_rfl) trivial, trivial⟩ ?_
    refine AX.seq ?_
    obtain ⟨x3, e3, h⟩ := bd_e h
    refine AX.reg (its := [.auto {}, .call 5 [.v (.string x2)] (handO (rho ([] ++ [0])) [] [] ++ []) (callEv [] [0] (.tup [.agg [.sl 0 0 x3.1.length], .v (.bool x3.2)]) [.arr 2 (List.map enc_si x3.1)]), .auto {}, .auto {}, .auto {}, .auto { nk := 1 }]) [3, 4, 5] [0, 1] (s1 := ⟨[(3, .v (.string x2)), (4, .pt 1 0), (5, .v (.bool x3.2))], [(0, .arr 2 (List.map enc_si x3.1)), (1, .box [.sl 0 0 x3.1.length])]⟩) (C := ((([.v (.string x2)] : List AV) = [.v (.string x2)]) ∧ True) ∧ True) (by kernel_rfl) ⟨⟨rfl, trivial⟩, trivial⟩ ⟨call_ok (ks := []) (ns := [0]) (bor := []) (bobjs := []) (s_impl_ParseEnum x2 x3 e3) (.cons (.c1 (.c0 (.same _ (by kernel_rfl) (by kernel_rfl)))) (.nil)) (by kernel_rfl) trivial, trivial⟩ ?_
    refine AX.seq ?_
    obtain ⟨x4, e4, h⟩ := bd_e h
    refine AX.reg (its := [.auto {}, .call 6 [.v (.string x2)] (handO (rho ([] ++ [2])) [] [] ++ []) (callEv [] [2] (.tup [.agg [.sl 0 0 x4.1.length], .v (.bool x4.2)]) [.arr 2 (List.map enc_si x4.1)]), .auto {}, .auto {}, .auto {}, .auto { nk := 3 }]) [3, 4, 5, 6, 7] [0, 1, 2, 3] (s1 := ⟨[(3, .v (.string x2)), (4, .pt 1 0), (5, .v (.bool x3.2)), (6, .pt 3 0), (7, .v (.bool x4.2))], [(0, .arr 2 (List.map enc_si x3.1)), (1, .box [.sl 0 0 x3.1.length]), (2, .arr 2 (List.map enc_si x4.1)), (3, .box [.sl 2 0 x4.1.length])]⟩) (C := ((([.v (.string x2)] : List AV) = [.v (.string x2)]) ∧ True) ∧ True) (by kernel_rfl) ⟨⟨rfl, trivial⟩, trivial⟩ ⟨call_ok (ks := []) (ns := [2]) (bor := []) (bobjs := []) (s_spec_ParseEnum x2 x4 e4) (.cons (.c1 (.c0 (.same _ (by kernel_rfl) (by kernel_rfl)))) (.nil)) (by kernel_rfl) trivial, trivial⟩ ?_
    refine AX.seq ?_
    refine AX.seq ?_
    obtain ⟨x5, e5, h⟩ := bd_e h
    rcases bool_cases ((!x5)) with b6 | b6
    · replace h := cd_t b6 h
      refine AX.reg (its := [.auto {}, .auto {}, .call 7 [.agg [.sl 0 0 x3.1.length], .agg [.sl 2 0 x4.1.length]] (handO (rho ([] ++ [])) [] [] ++ [(0, .arr 2 (List.map enc_si x3.1)), (2, .arr 2 (List.map enc_si x4.1))]) (callEv [] [] (.v (.bool x5)) []), .auto { y := some (.v (.bool true)) }]) [3, 4, 5, 6, 7, 39] [0, 1, 2, 3] (s1 := ⟨[(3, .v (.string x2)), (4, .pt 1 0), (5, .v (.bool x3.2)), (6, .pt 3 0), (7, .v (.bool x4.2)), (39, .v (.bool true))], [(0, .arr 2 (List.map enc_si x3.1)), (1, .box [.sl 0 0 x3.1.length]), (2, .arr 2 (List.map enc_si x4.1)), (3, .box [.sl 2 0 x4.1.length])]⟩) (C := ((([.agg [.sl 0 0 x3.1.length], .agg [.sl 2 0 x4.1.length]] : List AV) = [.agg [.sl 0 0 x3.1.length], .agg [.sl 2 0 x4.1.length]]) ∧ (AO.arr 2 (List.map enc_si x3.1) = AO.arr 2 (List.map enc_si x3.1)) ∧ (AO.arr 2 (List.map enc_si x4.1) = AO.arr 2 (List.map enc_si x4.1)) ∧ True) ∧ ((True) ∧ ((.v (.bool (!x5)) : AV) = (.v (.bool true) : AV))) ∧ True) (by kernel_rfl) ⟨⟨rfl, rfl, rfl, trivial⟩, ⟨⟨trivial, (congrArg (fun z => AV.v (.bool z)) b6)⟩, trivial⟩⟩ ⟨call_ok (ks := []) (ns := []) (bor := [0, 2]) (bobjs := [(0, .arr 2 (List.map enc_si x3.1)), (2, .arr 2 (List.map enc_si x4.1))]) (s_laws_equalEnum x3.1 x4.1 x5 e5) (.cons (.c1 (.agg (.cons (.arr rfl rfl ((rfl).trans (List.length_map ..).symm)) (.nil)))) (.cons (.c1 (.agg (.cons (.arr rfl rfl ((rfl).trans (List.length_map ..).symm)) (.nil)))) (.nil))) (by kernel_rfl) trivial, trivial⟩ ?_
      refine AX.cond_true (by kernel_rfl) ?_
      refine AX.seq ?_
      obtain ⟨x6, e7, h⟩ := bd_e h
      rcases bool_cases (x6) with b8 | b8
      · replace h := cd_t b8 h
        refine AX.reg (its := [.auto {}, .auto {}, .call 7 [.agg [.sl 0 0 x3.1.length], .agg [.sl 2 0 x4.1.length]] (handO (rho ([] ++ [])) [] [] ++ [(0, .arr 2 (List.map enc_si x3.1)), (2, .arr 2 (List.map enc_si x4.1))]) (callEv [] [] (.v (.bool true)) [])]) [2] [] (s1 := ⟨[(2, .v (.bool (x3.2 == x4.2)))], []⟩) (C := ((([.agg [.sl 0 0 x3.1.length], .agg [.sl 2 0 x4.1.length]] : List AV) = [.agg [.sl 0 0 x3.1.length], .agg [.sl 2 0 x4.1.length]]) ∧ (AO.arr 2 (List.map enc_si x3.1) = AO.arr 2 (List.map enc_si x3.1)) ∧ (AO.arr 2 (List.map enc_si x4.1) = AO.arr 2 (List.map enc_si x4.1)) ∧ True) ∧ True) (by kernel_rfl) ⟨⟨rfl, rfl, rfl, trivial⟩, trivial⟩ ⟨call_ok (ks := []) (ns := []) (bor := [0, 2]) (bobjs := [(0, .arr 2 (List.map enc_si x3.1)), (2, .arr 2 (List.map enc_si x4.1))]) (show Eng.Spec Tryz.prog 7 [.agg [.bs false 2 (List.map enc_si x3.1)], .agg [.bs false 2 (List.map enc_si x4.1)]] [] (.v (.bool true)) [] from by have q := s_laws_equalEnum x3.1 x4.1 x6 e7; rw [b8] at q; exact q) (.cons (.c1 (.agg (.cons (.arr rfl rfl ((rfl).trans (List.length_map ..).symm)) (.nil)))) (.cons (.c1 (.agg (.cons (.arr rfl rfl ((rfl).trans (List.length_map ..).symm)) (.nil)))) (.nil))) (by kernel_rfl) trivial, trivial⟩ ?_
        refine AX.ret ?_
        refine fin_wk (Wk.forget [2] [] (s' := ⟨[(2, .v (.bool (x3.2 == x4.2)))], []⟩) (by kernel_rfl)) ?_
        have hr := Option.some.inj h
        subst hr
        exact ⟨_, Wk.refl _, .inr rfl, ⟨[], by kernel_rfl, trivial, [.v (.bool (x3.2 == x4.2))], by kernel_rfl, by kernel_rfl⟩⟩
      · replace h := cd_f b8 h
        refine AX.reg (its := [.auto {}, .auto {}, .call 7 [.agg [.sl 0 0 x3.1.length], .agg [.sl 2 0 x4.1.length]] (handO (rho ([] ++ [])) [] [] ++ [(0, .arr 2 (List.map enc_si x3.1)), (2, .arr 2 (List.map enc_si x4.1))]) (callEv [] [] (.v (.bool false)) [])]) [2] [] (s1 := ⟨[(2, .v (.bool false))], []⟩) (C := ((([.agg [.sl 0 0 x3.1.length], .agg [.sl 2 0 x4.1.length]] : List AV) = [.agg [.sl 0 0 x3.1.length], .agg [.sl 2 0 x4.1.length]]) ∧ (AO.arr 2 (List.map enc_si x3.1) = AO.arr 2 (List.map enc_si x3.1)) ∧ (AO.arr 2 (List.map enc_si x4.1) = AO.arr 2 (List.map enc_si x4.1)) ∧ True) ∧ True) (by kernel_rfl) ⟨⟨rfl, rfl, rfl, trivial⟩, trivial⟩ ⟨call_ok (ks := []) (ns := []) (bor := [0, 2]) (bobjs := [(0, .arr 2 (List.map enc_si x3.1)), (2, .arr 2 (List.map enc_si x4.1))]) (show Eng.Spec Tryz.prog 7 [.agg [.bs false 2 (List.map enc_si x3.1)], .agg [.bs false 2 (List.map enc_si x4.1)]] [] (.v (.bool false)) [] from by have q := s_laws_equalEnum x3.1 x4.1 x6 e7; rw [b8] at q; exact q) (.cons (.c1 (.agg (.cons (.arr rfl rfl ((rfl).trans (List.length_map ..).symm)) (.nil)))) (.cons (.c1 (.agg (.cons (.arr rfl rfl ((rfl).trans (List.length_map ..).symm)) (.nil)))) (.nil))) (by kernel_rfl) trivial, trivial⟩ ?_
        refine AX.ret ?_
        refine fin_wk (Wk.forget [2] [] (s' := ⟨[(2, .v (.bool false))], []⟩) (by kernel_rfl)) ?_
        have hr := Option.some.inj h
        subst hr
        exact ⟨_, Wk.refl _, .inr rfl, ⟨[], by kernel_rfl, trivial, [.v (.bool false)], by kernel_rfl, by kernel_rfl⟩⟩
    · replace h := cd_f b6 h
      rcases bool_cases ((!(x3.2 == x4.2))) with b9 | b9
      · replace h := cd_t b9 h
        refine AX.reg (its := [.auto {}, .auto {}, .call 7 [.agg [.sl 0 0 x3.1.length], .agg [.sl 2 0 x4.1.length]] (handO (rho ([] ++ [])) [] [] ++ [(0, .arr 2 (List.map enc_si x3.1)), (2, .arr 2 (List.map enc_si x4.1))]) (callEv [] [] (.v (.bool x5)) []), .auto { y := some (.v (.bool false)) }, .auto {}, .auto {}, .auto {}, .auto { y := some (.v (.bool true)) }]) [3, 4, 5, 6, 7, 39] [0, 1, 2, 3] (s1 := ⟨[(3, .v (.string x2)), (4, .pt 1 0), (5, .v (.bool x3.2)), (6, .pt 3 0), (7, .v (.bool x4.2)), (39, .v (.bool true))], [(0, .arr 2 (List.map enc_si x3.1)), (1, .box [.sl 0 0 x3.1.length]), (2, .arr 2 (List.map enc_si x4.1)), (3, .box [.sl 2 0 x4.1.length])]⟩) (C := ((([.agg [.sl 0 0 x3.1.length], .agg [.sl 2 0 x4.1.length]] : List AV) = [.agg [.sl 0 0 x3.1.length], .agg [.sl 2 0 x4.1.length]]) ∧ (AO.arr 2 (List.map enc_si x3.1) = AO.arr 2 (List.map enc_si x3.1)) ∧ (AO.arr 2 (List.map enc_si x4.1) = AO.arr 2 (List.map enc_si x4.1)) ∧ True) ∧ ((True) ∧ ((.v (.bool (!x5)) : AV) = (.v (.bool false) : AV))) ∧ ((True) ∧ ((.v (.bool (!(x3.2 == x4.2))) : AV) = (.v (.bool true) : AV))) ∧ True) (by kernel_rfl) ⟨⟨rfl, rfl, rfl, trivial⟩, ⟨⟨trivial, (congrArg (fun z => AV.v (.bool z)) b6)⟩, ⟨⟨trivial, (congrArg (fun z => AV.v (.bool z)) b9)⟩, trivial⟩⟩⟩ ⟨call_ok (ks := []) (ns := []) (bor := [0, 2]) (bobjs := [(0, .arr 2 (List.map enc_si x3.1)), (2, .arr 2 (List.map enc_si x4.1))]) (s_laws_equalEnum x3.1 x4.1 x5 e5) (.cons (.c1 (.agg (.cons (.arr rfl rfl ((rfl).trans (List.length_map ..).symm)) (.nil)))) (.cons (.c1 (.agg (.cons (.arr rfl rfl ((rfl).trans (List.length_map ..).symm)) (.nil)))) (.nil))) (by kernel_rfl) trivial, trivial⟩ ?_
        refine AX.cond_true (by kernel_rfl) ?_
        refine AX.seq ?_
        obtain ⟨x7, e10, h⟩ := bd_e h
        rcases bool_cases (x7) with b11 | b11
        · replace h := cd_t b11 h
          refine AX.reg (its := [.auto {}, .auto {}, .call 7 [.agg [.sl 0 0 x3.1.length], .agg [.sl 2 0 x4.1.length]] (handO (rho ([] ++ [])) [] [] ++ [(0, .arr 2 (List.map enc_si x3.1)), (2, .arr 2 (List.map enc_si x4.1))]) (callEv [] [] (.v (.bool true)) [])]) [2] [] (s1 := ⟨[(2, .v (.bool (x3.2 == x4.2)))], []⟩) (C := ((([.agg [.sl 0 0 x3.1.length], .agg [.sl 2 0 x4.1.length]] : List AV) = [.agg [.sl 0 0 x3.1.length], .agg [.sl 2 0 x4.1.length]]) ∧ (AO.arr 2 (List.map enc_si x3.1) = AO.arr 2 (List.map enc_si x3.1)) ∧ (AO.arr 2 (List.map enc_si x4.1) = AO.arr 2 (List.map enc_si x4.1)) ∧ True) ∧ True) (by kernel_rfl) ⟨⟨rfl, rfl, rfl, trivial⟩, trivial⟩ ⟨call_ok (ks := []) (ns := []) (bor := [0, 2]) (bobjs := [(0, .arr 2 (List.map enc_si x3.1)), (2, .arr 2 (List.map enc_si x4.1))]) (show Eng.Spec Tryz.prog 7 [.agg [.bs false 2 (List.map enc_si x3.1)], .agg [.bs false 2 (List.map enc_si x4.1)]] [] (.v (.bool true)) [] from by have q := s_laws_equalEnum x3.1 x4.1 x7 e10; rw [b11] at q; exact q) (.cons (.c1 (.agg (.cons (.arr rfl rfl ((rfl).trans (List.length_map ..).symm)) (.nil)))) (.cons (.c1 (.agg (.cons (.arr rfl rfl ((rfl).trans (List.length_map ..).symm)) (.nil)))) (.nil))) (by kernel_rfl) trivial, trivial⟩ ?_
          refine AX.ret ?_
          refine fin_wk (Wk.forget [2] [] (s' := ⟨[(2, .v (.bool (x3.2 == x4.2)))], []⟩) (by kernel_rfl)) ?_
          have hr := Option.some.inj h
          subst hr
          exact ⟨_, Wk.refl _, .inr rfl, ⟨[], by kernel_rfl, trivial, [.v (.bool (x3.2 == x4.2))], by kernel_rfl, by kernel_rfl⟩⟩
        · replace h := cd_f b11 h
          refine AX.reg (its := [.auto {}, .auto {}, .call 7 [.agg [.sl 0 0 x3.1.length], .agg [.sl 2 0 x4.1.length]] (handO (rho ([] ++ [])) [] [] ++ [(0, .arr 2 (List.map enc_si x3.1)), (2, .arr 2 (List.map enc_si x4.1))]) (callEv [] [] (.v (.bool false)) [])]) [2] [] (s1 := ⟨[(2, .v (.bool false))], []⟩) (C := ((([.agg [.sl 0 0 x3.1.length], .agg [.sl 2 0 x4.1.length]] : List AV) = [.agg [.sl 0 0 x3.1.length], .agg [.sl 2 0 x4.1.length]]) ∧ (AO.arr 2 (List.map enc_si x3.1) = AO.arr 2 (List.map enc_si x3.1)) ∧ (AO.arr 2 (List.map enc_si x4.1) = AO.arr 2 (List.map enc_si x4.1)) ∧ True) ∧ True) (by kernel_rfl) ⟨⟨rfl, rfl, rfl, trivial⟩, trivial⟩ ⟨call_ok (ks := []) (ns := []) (bor := [0, 2]) (bobjs := [(0, .arr 2 (List.map enc_si x3.1)), (2, .arr 2 (List.map enc_si x4.1))]) (show Eng.Spec Tryz.prog 7 [.agg [.bs false 2 (List.map enc_si x3.1)], .agg [.bs false 2 (List.map enc_si x4.1)]] [] (.v (.bool false)) [] from by have q := s_laws_equalEnum x3.1 x4.1 x7 e10; rw [b11] at q; exact q) (.cons (.c1 (.agg (.cons (.arr rfl rfl ((rfl).trans (List.length_map ..).symm)) (.nil)))) (.cons (.c1 (.agg (.cons (.arr rfl rfl ((rfl).trans (List.length_map ..).symm)) (.nil)))) (.nil))) (by kernel_rfl) trivial, trivial⟩ ?_
          refine AX.ret ?_
          refine fin_wk (Wk.forget [2] [] (s' := ⟨[(2, .v (.bool false))], []⟩) (by kernel_rfl)) ?_
          have hr := Option.some.inj h
          subst hr
          exact ⟨_, Wk.refl _, .inr rfl, ⟨[], by kernel_rfl, trivial, [.v (.bool false)], by kernel_rfl, by kernel_rfl⟩⟩
      · replace h := cd_f b9 h
        refine AX.reg (its := [.auto {}, .auto {}, .call 7 [.agg [.sl 0 0 x3.1.length], .agg [.sl 2 0 x4.1.length]] (handO (rho ([] ++ [])) [] [] ++ [(0, .arr 2 (List.map enc_si x3.1)), (2, .arr 2 (List.map enc_si x4.1))]) (callEv [] [] (.v (.bool x5)) []), .auto { y := some (.v (.bool false)) }, .auto {}, .auto {}, .auto {}, .auto { y := some (.v (.bool false)) }]) [3, 4, 5, 6, 7, 39] [0, 1, 2, 3] (s1 := ⟨[(3, .v (.string x2)), (4, .pt 1 0), (5, .v (.bool x3.2)), (6, .pt 3 0), (7, .v (.bool x4.2)), (39, .v (.bool (!x3.2)))], [(0, .arr 2 (List.map enc_si x3.1)), (1, .box [.sl 0 0 x3.1.length]), (2, .arr 2 (List.map enc_si x4.1)), (3, .box [.sl 2 0 x4.1.length])]⟩) (C := ((([.agg [.sl 0 0 x3.1.length], .agg [.sl 2 0 x4.1.length]] : List AV) = [.agg [.sl 0 0 x3.1.length], .agg [.sl 2 0 x4.1.length]]) ∧ (AO.arr 2 (List.map enc_si x3.1) = AO.arr 2 (List.map enc_si x3.1)) ∧ (AO.arr 2 (List.map enc_si x4.1) = AO.arr 2 (List.map enc_si x4.1)) ∧ True) ∧ ((True) ∧ ((.v (.bool (!x5)) : AV) = (.v (.bool false) : AV))) ∧ ((True) ∧ ((.v (.bool (!(x3.2 == x4.2))) : AV) = (.v (.bool false) : AV))) ∧ True) (by kernel_rfl) ⟨⟨rfl, rfl, rfl, trivial⟩, ⟨⟨trivial, (congrArg (fun z => AV.v (.bool z)) b6)⟩, ⟨⟨trivial, (congrArg (fun z => AV.v (.bool z)) b9)⟩, trivial⟩⟩⟩ ⟨call_ok (ks := []) (ns := []) (bor := [0, 2]) (bobjs := [(0, .arr 2 (List.map enc_si x3.1)), (2, .arr 2 (List.map enc_si x4.1))]) (s_laws_equalEnum x3.1 x4.1 x5 e5) (.cons (.c1 (.agg (.cons (.arr rfl rfl ((rfl).trans (List.length_map ..).symm)) (.nil)))) (.cons (.c1 (.agg (.cons (.arr rfl rfl ((rfl).trans (List.length_map ..).symm)) (.nil)))) (.nil))) (by kernel_rfl) trivial, trivial⟩ ?_
        rcases bool_cases ((!x3.2)) with b12 | b12
        · replace h := cd_t b12 h
          refine AX.condT ((!x3.2)) (by kernel_rfl) b12 ?_
          refine AX.seq ?_
          obtain ⟨x8, e13, h⟩ := bd_e h
          rcases bool_cases (x8) with b14 | b14
          · replace h := cd_t b14 h
            refine AX.reg (its := [.auto {}, .auto {}, .call 7 [.agg [.sl 0 0 x3.1.length], .agg [.sl 2 0 x4.1.length]] (handO (rho ([] ++ [])) [] [] ++ [(0, .arr 2 (List.map enc_si x3.1)), (2, .arr 2 (List.map enc_si x4.1))]) (callEv [] [] (.v (.bool true)) [])]) [2] [] (s1 := ⟨[(2, .v (.bool (x3.2 == x4.2)))], []⟩) (C := ((([.agg [.sl 0 0 x3.1.length], .agg [.sl 2 0 x4.1.length]] : List AV) = [.agg [.sl 0 0 x3.1.length], .agg [.sl 2 0 x4.1.length]]) ∧ (AO.arr 2 (List.map enc_si x3.1) = AO.arr 2 (List.map enc_si x3.1)) ∧ (AO.arr 2 (List.map enc_si x4.1) = AO.arr 2 (List.map enc_si x4.1)) ∧ True) ∧ True) (by kernel_rfl) ⟨⟨rfl, rfl, rfl, trivial⟩, trivial⟩ ⟨call_ok (ks := []) (ns := []) (bor := [0, 2]) (bobjs := [(0, .arr 2 (List.map enc_si x3.1)), (2, .arr 2 (List.map enc_si x4.1))]) (show Eng.Spec Tryz.prog 7 [.agg [.bs false 2 (List.map enc_si x3.1)], .agg [.bs false 2 (List.map enc_si x4.1)]] [] (.v (.bool true)) [] from by have q := s_laws_equalEnum x3.1 x4.1 x8 e13; rw [b14] at q; exact q) (.cons (.c1 (.agg (.cons (.arr rfl rfl ((rfl).trans (List.length_map ..).symm)) (.nil)))) (.cons (.c1 (.agg (.cons (.arr rfl rfl ((rfl).trans (List.length_map ..).symm)) (.nil)))) (.nil))) (by kernel_rfl) trivial, trivial⟩ ?_
            refine AX.ret ?_
            refine fin_wk (Wk.forget [2] [] (s' := ⟨[(2, .v (.bool (x3.2 == x4.2)))], []⟩) (by kernel_rfl)) ?_
            have hr := Option.some.inj h
            subst hr
            exact ⟨_, Wk.refl _, .inr rfl, ⟨[], by kernel_rfl, trivial, [.v (.bool (x3.2 == x4.2))], by kernel_rfl, by kernel_rfl⟩⟩
          · replace h := cd_f b14 h
            refine AX.reg (its := [.auto {}, .auto {}, .call 7 [.agg [.sl 0 0 x3.1.length], .agg [.sl 2 0 x4.1.length]] (handO (rho ([] ++ [])) [] [] ++ [(0, .arr 2 (List.map enc_si x3.1)), (2, .arr 2 (List.map enc_si x4.1))]) (callEv [] [] (.v (.bool false)) [])]) [2] [] (s1 := ⟨[(2, .v (.bool false))], []⟩) (C := ((([.agg [.sl 0 0 x3.1.length], .agg [.sl 2 0 x4.1.length]] : List AV) = [.agg [.sl 0 0 x3.1.length], .agg [.sl 2 0 x4.1.length]]) ∧ (AO.arr 2 (List.map enc_si x3.1) = AO.arr 2 (List.map enc_si x3.1)) ∧ (AO.arr 2 (List.map enc_si x4.1) = AO.arr 2 (List.map enc_si x4.1)) ∧ True) ∧ True) (by kernel_rfl) ⟨⟨rfl, rfl, rfl, trivial⟩, trivial⟩ ⟨call_ok (ks := []) (ns := []) (bor := [0, 2]) (bobjs := [(0, .arr 2 (List.map enc_si x3.1)), (2, .arr 2 (List.map enc_si x4.1))]) (show Eng.Spec Tryz.prog 7 [.agg [.bs false 2 (List.map enc_si x3.1)], .agg [.bs false 2 (List.map enc_si x4.1)]] [] (.v (.bool false)) [] from by have q := s_laws_equalEnum x3.1 x4.1 x8 e13; rw [b14] at q; exact q) (.cons (.c1 (.agg (.cons (.arr rfl rfl ((rfl).trans (List.length_map ..).symm)) (.nil)))) (.cons (.c1 (.agg (.cons (.arr rfl rfl ((rfl).trans (List.length_map ..).symm)) (.nil)))) (.nil))) (by kernel_rfl) trivial, trivial⟩ ?_
            refine AX.ret ?_
            refine fin_wk (Wk.forget [2] [] (s' := ⟨[(2, .v (.bool false))], []⟩) (by kernel_rfl)) ?_
            have hr := Option.some.inj h
            subst hr
            exact ⟨_, Wk.refl _, .inr rfl, ⟨[], by kernel_rfl, trivial, [.v (.bool false)], by kernel_rfl, by kernel_rfl⟩⟩
        · replace h := cd_f b12 h
          refine AX.condF ((!x3.2)) (by kernel_rfl) b12 ?_
          refine AX.skip ?_
          refine AX.seq ?_
          obtain ⟨x9, e15, h⟩ := bd_e h
          obtain ⟨x10, e16, h⟩ := bd_e h
          refine AX.reg (its := [.auto {}, .call 8 [.agg [.sl 0 0 x3.1.length]] (handO (rho ([] ++ [])) [] [] ++ [(0, .arr 2 (List.map enc_si x3.1))]) (callEv [] [] (.v (.string x9)) []), .call 5 [.v (.string x9)] (handO (rho ([] ++ [4])) [] [] ++ []) (callEv [] [4] (.tup [.agg [.sl 0 0 x10.1.length], .v (.bool x10.2)]) [.arr 2 (List.map enc_si x10.1)]), .auto {}, .auto {}, .auto {}, .auto { nk := 5 }]) [3, 4, 8, 9] [0, 1, 4, 5] (s1 := ⟨[(3, .v (.string x2)), (4, .pt 1 0), (8, .pt 5 0), (9, .v (.bool x10.2))], [(0, .arr 2 (List.map enc_si x3.1)), (1, .box [.sl 0 0 x3.1.length]), (4, .arr 2 (List.map enc_si x10.1)), (5, .box [.sl 4 0 x10.1.length])]⟩) (C := ((([.agg [.sl 0 0 x3.1.length]] : List AV) = [.agg [.sl 0 0 x3.1.length]]) ∧ (AO.arr 2 (List.map enc_si x3.1) = AO.arr 2 (List.map enc_si x3.1)) ∧ True) ∧ ((([.v (.string x9)] : List AV) = [.v (.string x9)]) ∧ True) ∧ True) (by kernel_rfl) ⟨⟨rfl, rfl, trivial⟩, ⟨⟨rfl, trivial⟩, trivial⟩⟩ ⟨call_ok (ks := []) (ns := []) (bor := [0]) (bobjs := [(0, .arr 2 (List.map enc_si x3.1))]) (s_impl_EnumText x3.1 x9 e15) (.cons (.c1 (.agg (.cons (.arr rfl rfl ((rfl).trans (List.length_map ..).symm)) (.nil)))) (.nil)) (by kernel_rfl) trivial, ⟨call_ok (ks := []) (ns := [4]) (bor := []) (bobjs := []) (s_impl_ParseEnum x9 x10 e16) (.cons (.c1 (.c0 (.same _ (by kernel_rfl) (by kernel_rfl)))) (.nil)) (by kernel_rfl) trivial, trivial⟩⟩ ?_
          refine AX.seq ?_
          obtain ⟨x11, e17, h⟩ := bd_e h
          refine AX.reg (its := [.auto {}, .call 9 [.v (.string x2)] (handO (rho ([] ++ [6])) [] [] ++ []) (callEv [] [6] (.tup [.agg [.sl 0 0 x11.1.length, .v (.int .i64 x11.2.1)], .v (.bool x11.2.2)]) [.arr 2 (List.map enc_si x11.1)]), .auto {}, .auto {}, .auto {}, .auto { nk := 7 }]) [3, 4, 8, 9, 11] [0, 1, 4, 5] (s1 := ⟨[(3, .v (.string x2)), (4, .pt 1 0), (8, .pt 5 0), (9, .v (.bool x10.2)), (11, .v (.bool x11.2.2))], [(0, .arr 2 (List.map enc_si x3.1)), (1, .box [.sl 0 0 x3.1.length]), (4, .arr 2 (List.map enc_si x10.1)), (5, .box [.sl 4 0 x10.1.length])]⟩) (C := ((([.v (.string x2)] : List AV) = [.v (.string x2)]) ∧ True) ∧ True) (by kernel_rfl) ⟨⟨rfl, trivial⟩, trivial⟩ ⟨call_ok (ks := []) (ns := [6]) (bor := []) (bobjs := []) (s_impl_ParseFlag x2 x11 e17) (.cons (.c1 (.c0 (.same _ (by kernel_rfl) (by kernel_rfl)))) (.nil)) (by kernel_rfl) trivial, trivial⟩ ?_
          refine AX.seq ?_
          rcases bool_cases (x10.2) with b18 | b18
          · replace h := cd_t b18 h
            obtain ⟨x12, e19, h⟩ := bd_e h
            rcases bool_cases (x12) with b20 | b20
            · replace h := cd_t b20 h
              rcases bool_cases ((!x11.2.2)) with b21 | b21
              · replace h := cd_t b21 h
                obtain ⟨x13, e22, h⟩ := bd_e h
                rcases bool_cases (x13) with b23 | b23
                · replace h := cd_t b23 h
                  obtain ⟨x14, e24, h⟩ := bd_e h
                  refine AX.drw mixed (its := [.auto { y := some (.v (.bool true)) }, .auto {}, .auto {}, .auto {}, .call 7 [.agg [.sl 4 0 x10.1.length], .agg [.sl 0 0 x3.1.length]] (handO (rho ([] ++ [])) [] [] ++ [(4, .arr 2 (List.map enc_si x10.1)), (0, .arr 2 (List.map enc_si x3.1))]) (callEv [] [] (.v (.bool true)) []), .auto {}, .auto {}, .auto {}, .auto { y := some (.v (.bool true)) }, .auto {}, .auto {}, .auto {}, .call 10 [.agg [.sl 0 0 x3.1.length]] (handO (rho ([] ++ [])) [] [] ++ [(0, .arr 2 (List.map enc_si x3.1))]) (callEv [] [] (.v (.bool true)) []), .auto {}, .auto {}, .auto {}, .call 11 [.v (.string x2)] (handO (rho ([] ++ [])) [] [] ++ []) (callEv [] [] (.v (.int .i64 x14)) []), .auto {}, .auto {}, .auto {}, .auto { raw := true }]) [2] [] (s1 := ⟨[(2, .v (.bool (decide (x14 = (IntKind.wrap .i64 ((x3.1.length : Int) + 1))))))], []⟩) (C := ((True) ∧ ((.v (.bool x10.2) : AV) = (.v (.bool true) : AV))) ∧ ((([.agg [.sl 4 0 x10.1.length], .agg [.sl 0 0 x3.1.length]] : List AV) = [.agg [.sl 4 0 x10.1.length], .agg [.sl 0 0 x3.1.length]]) ∧ (AO.arr 2 (List.map enc_si x10.1) = AO.arr 2 (List.map enc_si x10.1)) ∧ (AO.arr 2 (List.map enc_si x3.1) = AO.arr 2 (List.map enc_si x3.1)) ∧ True) ∧ ((True) ∧ ((.v (.bool (!x11.2.2)) : AV) = (.v (.bool true) : AV))) ∧ ((([.agg [.sl 0 0 x3.1.length]] : List AV) = [.agg [.sl 0 0 x3.1.length]]) ∧ (AO.arr 2 (List.map enc_si x3.1) = AO.arr 2 (List.map enc_si x3.1)) ∧ True) ∧ ((([.v (.string x2)] : List AV) = [.v (.string x2)]) ∧ True) ∧ True) (by kernel_rfl) ⟨⟨trivial, (congrArg (fun z => AV.v (.bool z)) b18)⟩, ⟨⟨rfl, rfl, rfl, trivial⟩, ⟨⟨trivial, (congrArg (fun z => AV.v (.bool z)) b21)⟩, ⟨⟨rfl, rfl, trivial⟩, ⟨⟨rfl, trivial⟩, trivial⟩⟩⟩⟩⟩ ⟨call_ok (ks := []) (ns := []) (bor := [4, 0]) (bobjs := [(4, .arr 2 (List.map enc_si x10.1)), (0, .arr 2 (List.map enc_si x3.1))]) (show Eng.Spec Tryz.prog 7 [.agg [.bs false 2 (List.map enc_si x10.1)], .agg [.bs false 2 (List.map enc_si x3.1)]] [] (.v (.bool true)) [] from by have q := s_laws_equalEnum x10.1 x3.1 x12 e19; rw [b20] at q; exact q) (.cons (.c1 (.agg (.cons (.arr rfl rfl ((rfl).trans (List.length_map ..).symm)) (.nil)))) (.cons (.c1 (.agg (.cons (.arr rfl rfl ((rfl).trans (List.length_map ..).symm)) (.nil)))) (.nil))) (by kernel_rfl) trivial, ⟨call_ok (ks := []) (ns := []) (bor := [0]) (bobjs := [(0, .arr 2 (List.map enc_si x3.1))]) (show Eng.Spec Tryz.prog 10 [.agg [.bs false 2 (List.map enc_si x3.1)]] [] (.v (.bool true)) [] from by have q := s_impl_ValidEnum x3.1 x13 e22; rw [b23] at q; exact q) (.cons (.c1 (.agg (.cons (.arr rfl rfl ((rfl).trans (List.length_map ..).symm)) (.nil)))) (.nil)) (by kernel_rfl) trivial, ⟨call_ok (ks := []) (ns := []) (bor := []) (bobjs := []) (s_laws_newlines x2 x14 e24) (.cons (.c1 (.c0 (.same _ (by kernel_rfl) (by kernel_rfl)))) (.nil)) (by kernel_rfl) trivial, trivial⟩⟩⟩ ?_
                  refine AX.ret ?_
                  refine fin_wk (Wk.forget [2] [] (s' := ⟨[(2, .v (.bool (decide (x14 = (IntKind.wrap .i64 ((x3.1.length : Int) + 1))))))], []⟩) (by kernel_rfl)) ?_
                  have hr := Option.some.inj h
                  subst hr
                  exact ⟨_, Wk.refl _, .inr rfl, ⟨[], by kernel_rfl, trivial, [.v (.bool (decide (x14 = (IntKind.wrap .i64 ((x3.1.length : Int) + 1)))))], by kernel_rfl, by kernel_rfl⟩⟩
                · replace h := cd_f b23 h
                  refine AX.drw mixed (its := [.auto { y := some (.v (.bool true)) }, .auto {}, .auto {}, .auto {}, .call 7 [.agg [.sl 4 0 x10.1.length], .agg [.sl 0 0 x3.1.length]] (handO (rho ([] ++ [])) [] [] ++ [(4, .arr 2 (List.map enc_si x10.1)), (0, .arr 2 (List.map enc_si x3.1))]) (callEv [] [] (.v (.bool true)) []), .auto {}, .auto {}, .auto {}, .auto { y := some (.v (.bool true)) }, .auto {}, .auto {}, .auto {}, .call 10 [.agg [.sl 0 0 x3.1.length]] (handO (rho ([] ++ [])) [] [] ++ [(0, .arr 2 (List.map enc_si x3.1))]) (callEv [] [] (.v (.bool false)) [])]) [2] [] (s1 := ⟨[(2, .v (.bool false))], []⟩) (C := ((True) ∧ ((.v (.bool x10.2) : AV) = (.v (.bool true) : AV))) ∧ ((([.agg [.sl 4 0 x10.1.length], .agg [.sl 0 0 x3.1.length]] : List AV) = [.agg [.sl 4 0 x10.1.length], .agg [.sl 0 0 x3.1.length]]) ∧ (AO.arr 2 (List.map enc_si x10.1) = AO.arr 2 (List.map enc_si x10.1)) ∧ (AO.arr 2 (List.map enc_si x3.1) = AO.arr 2 (List.map enc_si x3.1)) ∧ True) ∧ ((True) ∧ ((.v (.bool (!x11.2.2)) : AV) = (.v (.bool true) : AV))) ∧ ((([.agg [.sl 0 0 x3.1.length]] : List AV) = [.agg [.sl 0 0 x3.1.length]]) ∧ (AO.arr 2 (List.map enc_si x3.1) = AO.arr 2 (List.map enc_si x3.1)) ∧ True) ∧ True) (by kernel_rfl) ⟨⟨trivial, (congrArg (fun z => AV.v (.bool z)) b18)⟩, ⟨⟨rfl, rfl, rfl, trivial⟩, ⟨⟨trivial, (congrArg (fun z => AV.v (.bool z)) b21)⟩, ⟨⟨rfl, rfl, trivial⟩, trivial⟩⟩⟩⟩ ⟨call_ok (ks := []) (ns := []) (bor := [4, 0]) (bobjs := [(4, .arr 2 (List.map enc_si x10.1)), (0, .arr 2 (List.map enc_si x3.1))]) (show Eng.Spec Tryz.prog 7 [.agg [.bs false 2 (List.map enc_si x10.1)], .agg [.bs false 2 (List.map enc_si x3.1)]] [] (.v (.bool true)) [] from by have q := s_laws_equalEnum x10.1 x3.1 x12 e19; rw [b20] at q; exact q) (.cons (.c1 (.agg (.cons (.arr rfl rfl ((rfl).trans (List.length_map ..).symm)) (.nil)))) (.cons (.c1 (.agg (.cons (.arr rfl rfl ((rfl).trans (List.length_map ..).symm)) (.nil)))) (.nil))) (by kernel_rfl) trivial, ⟨call_ok (ks := []) (ns := []) (bor := [0]) (bobjs := [(0, .arr 2 (List.map enc_si x3.1))]) (show Eng.Spec Tryz.prog 10 [.agg [.bs false 2 (List.map enc_si x3.1)]] [] (.v (.bool false)) [] from by have q := s_impl_ValidEnum x3.1 x13 e22; rw [b23] at q; exact q) (.cons (.c1 (.agg (.cons (.arr rfl rfl ((rfl).trans (List.length_map ..).symm)) (.nil)))) (.nil)) (by kernel_rfl) trivial, trivial⟩⟩ ?_
                  refine AX.ret ?_
                  refine fin_wk (Wk.forget [2] [] (s' := ⟨[(2, .v (.bool false))], []⟩) (by kernel_rfl)) ?_
                  have hr := Option.some.inj h
                  subst hr
                  exact ⟨_, Wk.refl _, .inr rfl, ⟨[], by kernel_rfl, trivial, [.v (.bool false)], by kernel_rfl, by kernel_rfl⟩⟩
              · replace h := cd_f b21 h
                refine AX.drw mixed (its := [.auto { y := some (.v (.bool true)) }, .auto {}, .auto {}, .auto {}, .call 7 [.agg [.sl 4 0 x10.1.length], .agg [.sl 0 0 x3.1.length]] (handO (rho ([] ++ [])) [] [] ++ [(4, .arr 2 (List.map enc_si x10.1)), (0, .arr 2 (List.map enc_si x3.1))]) (callEv [] [] (.v (.bool true)) []), .auto {}, .auto {}, .auto {}, .auto { y := some (.v (.bool false)) }]) [2] [] (s1 := ⟨[(2, .v (.bool false))], []⟩) (C := ((True) ∧ ((.v (.bool x10.2) : AV) = (.v (.bool true) : AV))) ∧ ((([.agg [.sl 4 0 x10.1.length], .agg [.sl 0 0 x3.1.length]] : List AV) = [.agg [.sl 4 0 x10.1.length], .agg [.sl 0 0 x3.1.length]]) ∧ (AO.arr 2 (List.map enc_si x10.1) = AO.arr 2 (List.map enc_si x10.1)) ∧ (AO.arr 2 (List.map enc_si x3.1) = AO.arr 2 (List.map enc_si x3.1)) ∧ True) ∧ ((True) ∧ ((.v (.bool (!x11.2.2)) : AV) = (.v (.bool false) : AV))) ∧ True) (by kernel_rfl) ⟨⟨trivial, (congrArg (fun z => AV.v (.bool z)) b18)⟩, ⟨⟨rfl, rfl, rfl, trivial⟩, ⟨⟨trivial, (congrArg (fun z => AV.v (.bool z)) b21)⟩, trivial⟩⟩⟩ ⟨call_ok (ks := []) (ns := []) (bor := [4, 0]) (bobjs := [(4, .arr 2 (List.map enc_si x10.1)), (0, .arr 2 (List.map enc_si x3.1))]) (show Eng.Spec Tryz.prog 7 [.agg [.bs false 2 (List.map enc_si x10.1)], .agg [.bs false 2 (List.map enc_si x3.1)]] [] (.v (.bool true)) [] from by have q := s_laws_equalEnum x10.1 x3.1 x12 e19; rw [b20] at q; exact q) (.cons (.c1 (.agg (.cons (.arr rfl rfl ((rfl).trans (List.length_map ..).symm)) (.nil)))) (.cons (.c1 (.agg (.cons (.arr rfl rfl ((rfl).trans (List.length_map ..).symm)) (.nil)))) (.nil))) (by kernel_rfl) trivial, trivial⟩ ?_
                refine AX.ret ?_
                refine fin_wk (Wk.forget [2] [] (s' := ⟨[(2, .v (.bool false))], []⟩) (by kernel_rfl)) ?_
                have hr := Option.some.inj h
                subst hr
                exact ⟨_, Wk.refl _, .inr rfl, ⟨[], by kernel_rfl, trivial, [.v (.bool false)], by kernel_rfl, by kernel_rfl⟩⟩
            · replace h := cd_f b20 h
              refine AX.drw mixed (its := [.auto { y := some (.v (.bool true)) }, .auto {}, .auto {}, .auto {}, .call 7 [.agg [.sl 4 0 x10.1.length], .agg [.sl 0 0 x3.1.length]] (handO (rho ([] ++ [])) [] [] ++ [(4, .arr 2 (List.map enc_si x10.1)), (0, .arr 2 (List.map enc_si x3.1))]) (callEv [] [] (.v (.bool false)) [])]) [2] [] (s1 := ⟨[(2, .v (.bool false))], []⟩) (C := ((True) ∧ ((.v (.bool x10.2) : AV) = (.v (.bool true) : AV))) ∧ ((([.agg [.sl 4 0 x10.1.length], .agg [.sl 0 0 x3.1.length]] : List AV) = [.agg [.sl 4 0 x10.1.length], .agg [.sl 0 0 x3.1.length]]) ∧ (AO.arr 2 (List.map enc_si x10.1) = AO.arr 2 (List.map enc_si x10.1)) ∧ (AO.arr 2 (List.map enc_si x3.1) = AO.arr 2 (List.map enc_si x3.1)) ∧ True) ∧ True) (by kernel_rfl) ⟨⟨trivial, (congrArg (fun z => AV.v (.bool z)) b18)⟩, ⟨⟨rfl, rfl, rfl, trivial⟩, trivial⟩⟩ ⟨call_ok (ks := []) (ns := []) (bor := [4, 0]) (bobjs := [(4, .arr 2 (List.map enc_si x10.1)), (0, .arr 2 (List.map enc_si x3.1))]) (show Eng.Spec Tryz.prog 7 [.agg [.bs false 2 (List.map enc_si x10.1)], .agg [.bs false 2 (List.map enc_si x3.1)]] [] (.v (.bool false)) [] from by have q := s_laws_equalEnum x10.1 x3.1 x12 e19; rw [b20] at q; exact q) (.cons (.c1 (.agg (.cons (.arr rfl rfl ((rfl).trans (List.length_map ..).symm)) (.nil)))) (.cons (.c1 (.agg (.cons (.arr rfl rfl ((rfl).trans (List.length_map ..).symm)) (.nil)))) (.nil))) (by kernel_rfl) trivial, trivial⟩ ?_
              refine AX.ret ?_
              refine fin_wk (Wk.forget [2] [] (s' := ⟨[(2, .v (.bool false))], []⟩) (by kernel_rfl)) ?_
              have hr := Option.some.inj h
              subst hr
              exact ⟨_, Wk.refl _, .inr rfl, ⟨[], by kernel_rfl, trivial, [.v (.bool false)], by kernel_rfl, by kernel_rfl⟩⟩
          · replace h := cd_f b18 h
            refine AX.drw mixed (its := [.auto { y := some (.v (.bool false)) }]) [2] [] (s1 := ⟨[(2, .v (.bool false))], []⟩) (C := ((True) ∧ ((.v (.bool x10.2) : AV) = (.v (.bool false) : AV))) ∧ True) (by kernel_rfl) ⟨⟨trivial, (congrArg (fun z => AV.v (.bool z)) b18)⟩, trivial⟩ trivial ?_
            refine AX.ret ?_
            refine fin_wk (Wk.forget [2] [] (s' := ⟨[(2, .v (.bool false))], []⟩) (by kernel_rfl)) ?_
            have hr := Option.some.inj h
            subst hr
            exact ⟨_, Wk.refl _, .inr rfl, ⟨[], by kernel_rfl, trivial, [.v (.bool false)], by kernel_rfl, by kernel_rfl⟩⟩

end Go.Eng
