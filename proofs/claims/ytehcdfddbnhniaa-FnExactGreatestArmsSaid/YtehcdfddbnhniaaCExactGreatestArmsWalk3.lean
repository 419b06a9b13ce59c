/- What is proved here: each function keeps to its model, whatever its arguments, wherever the model has an answer. Printed by gen.py. -/
import Derived.Test.YtehcdfddbnhniaaCExactGreatestArmsWalk2
import Derived.Test.YtehcdfddbnhniaaProg
import Derived.KernelRfl
set_option linter.unusedVariables false
namespace Go.Eng
open Go Go.Proofs


theorem s_impl_GreatestArms_L1 (p1 : List (ByteArray × Int)) (p2 : Int) (p3 : List (Int)) (x9 : List (Int)) (n : Nat) (g : (List (Int × Int)) × Int) (out : List (Int × Int)) (h : m_impl_GreatestArms_L1 p1 p2 p3 x9 n g.1 g.2 = some out) :
    AX Try.prog 85 0 (codeAt [1, 1, 1, 1, 0, 1, 1] (bodyOf Try.f14)) ((fun g : (List (Int × Int)) × Int => (⟨[(2, .pt 0 0), (3, .pt 1 0), (5, .sl 2 0 x9.length), (6, .sl 3 0 g.1.length), (38, .sl 2 0 x9.length), (39, .v (.int .i64 (x9.length : Int))), (40, .v (.int .i64 g.2))], [(0, .box [.bs false 2 (List.map enc_si p1), .v (.int .i64 p2)]), (1, .box [.bs false 1 (List.map enc_i p3)]), (2, .arr 1 (List.map enc_i x9)), (3, .arr 2 (List.map enc_ii g.1))]⟩ : S)) g) (fun ex s => ex = .exit 0 ∧ s = (fun o : List (Int × Int) => (⟨[(6, .sl 0 0 o.length)], [(0, .arr 2 (List.map enc_ii o))]⟩ : S)) out) := by
  refine AX.wkpost ?_
  refine AX.loop (G := Nat × ((List (Int × Int)) × Int)) (fun q => (fun g : (List (Int × Int)) × Int => (⟨[(2, .pt 0 0), (3, .pt 1 0), (5, .sl 2 0 x9.length), (6, .sl 3 0 g.1.length), (38, .sl 2 0 x9.length), (39, .v (.int .i64 (x9.length : Int))), (40, .v (.int .i64 g.2))], [(0, .box [.bs false 2 (List.map enc_si p1), .v (.int .i64 p2)]), (1, .box [.bs false 1 (List.map enc_i p3)]), (2, .arr 1 (List.map enc_i x9)), (3, .arr 2 (List.map enc_ii g.1))]⟩ : S)) q.2) (fun q => m_impl_GreatestArms_L1 p1 p2 p3 x9 q.1 q.2.1 q.2.2 = some out) (fun q => q.1) (n, g) h (Wk.refl _) ?_
  clear h
  rintro ⟨fu, v10, v11⟩ h
  cases fu with
  | zero => cases h
  | succ fu =>
    rw [m_impl_GreatestArms_L1] at h
    refine AX.seq ?_
    refine AX.reg (its := []) [2, 3, 5, 6, 38, 39, 40, 41] [0, 1, 2, 3] (s1 := ⟨[(2, .pt 0 0), (3, .pt 1 0), (5, .sl 2 0 x9.length), (6, .sl 3 0 v10.length), (38, .sl 2 0 x9.length), (39, .v (.int .i64 (x9.length : Int))), (40, .v (.int .i64 v11)), (41, .v (.bool (decide (v11 < (x9.length : Int)))))], [(0, .box [.bs false 2 (List.map enc_si p1), .v (.int .i64 p2)]), (1, .box [.bs false 1 (List.map enc_i p3)]), (2, .arr 1 (List.map enc_i x9)), (3, .arr 2 (List.map enc_ii v10))]⟩) (C := True) (by kernel_rfl) trivial trivial ?_
    refine AX.seq ?_
    rcases bool_cases (decide (v11 < (x9.length : Int))) with b11 | b11
    · replace h := cd_t b11 h
      refine AX.condT (decide (v11 < (x9.length : Int))) (by kernel_rfl) b11 ?_
      refine AX.skip ?_
      refine AX.seq ?_
      refine AX.block ?_
      refine AX.seq ?_
      obtain ⟨g12, h⟩ := gd_e h
      refine AX.reg (its := [.auto {}, .auto { y := some (.v (.int .i64 (gt x9 v11))) }]) [2, 3, 5, 6, 8, 38, 39, 40] [0, 1, 2, 3] (s1 := ⟨[(2, .pt 0 0), (3, .pt 1 0), (5, .sl 2 0 x9.length), (6, .sl 3 0 v10.length), (8, .v (.int .i64 (gt x9 v11))), (38, .sl 2 0 x9.length), (39, .v (.int .i64 (x9.length : Int))), (40, .v (.int .i64 v11))], [(0, .box [.bs false 2 (List.map enc_si p1), .v (.int .i64 p2)]), (1, .box [.bs false 1 (List.map enc_i p3)]), (2, .arr 1 (List.map enc_i x9)), (3, .arr 2 (List.map enc_ii v10))]⟩) (C := (0 ≤ v11 ∧ v11 < (x9.length : Int)) ∧ (True ∧ (AV.v (((List.map enc_i x9).getD (0 + v11.toNat) []).getD 0 undef) = .v (.int .i64 (gt x9 v11)))) ∧ True) (by kernel_rfl) ⟨g12, ⟨⟨trivial, (congrArg (fun z : List Value => AV.v (z.getD 0 undef)) (idx_arr (enc := enc_i) rfl g12))⟩, trivial⟩⟩ trivial ?_
      refine AX.seq ?_
      refine AX.reg (its := []) [2, 3, 5, 6, 8, 38, 39, 40, 44, 45, 46] [0, 1, 2, 3] (s1 := ⟨[(2, .pt 0 0), (3, .pt 1 0), (5, .sl 2 0 x9.length), (6, .sl 3 0 v10.length), (8, .v (.int .i64 (gt x9 v11))), (38, .sl 2 0 x9.length), (39, .v (.int .i64 (x9.length : Int))), (40, .v (.int .i64 v11)), (44, .sl 2 0 x9.length), (45, .v (.int .i64 (x9.length : Int))), (46, .v (.int .i64 0))], [(0, .box [.bs false 2 (List.map enc_si p1), .v (.int .i64 p2)]), (1, .box [.bs false 1 (List.map enc_i p3)]), (2, .arr 1 (List.map enc_i x9)), (3, .arr 2 (List.map enc_ii v10))]⟩) (C := True) (by kernel_rfl) trivial trivial ?_
      refine AX.block ?_
      obtain ⟨x16, e20, h⟩ := bd_e h
      refine AX.wk (Wk.forget [2, 3, 5, 6, 8, 38, 39, 40, 44, 45, 46] [0, 1, 2, 3] (s' := ⟨[(2, .pt 0 0), (3, .pt 1 0), (5, .sl 2 0 x9.length), (6, .sl 3 0 v10.length), (8, .v (.int .i64 (gt x9 v11))), (38, .sl 2 0 x9.length), (39, .v (.int .i64 (x9.length : Int))), (40, .v (.int .i64 v11)), (44, .sl 2 0 x9.length), (45, .v (.int .i64 (x9.length : Int))), (46, .v (.int .i64 0))], [(0, .box [.bs false 2 (List.map enc_si p1), .v (.int .i64 p2)]), (1, .box [.bs false 1 (List.map enc_i p3)]), (2, .arr 1 (List.map enc_i x9)), (3, .arr 2 (List.map enc_ii v10))]⟩) (by kernel_rfl)) ?_
      refine AX.mono (s_impl_GreatestArms_L2 p1 p2 p3 x9 v11 FU (v10, 0) x16 e20) ?_
      rintro _ _ ⟨rfl, rfl⟩
      skip
      refine AX.reg (its := [.auto { raw := true }]) [2, 3, 5, 6, 38, 39, 40] [0, 1, 2, 3] (s1 := ⟨[(2, .pt 0 0), (3, .pt 1 0), (5, .sl 2 0 x9.length), (6, .sl 3 0 x16.length), (38, .sl 2 0 x9.length), (39, .v (.int .i64 (x9.length : Int))), (40, .v (.int .i64 (IntKind.wrap .i64 (v11 + 1))))], [(0, .box [.bs false 2 (List.map enc_si p1), .v (.int .i64 p2)]), (1, .box [.bs false 1 (List.map enc_i p3)]), (2, .arr 1 (List.map enc_i x9)), (3, .arr 2 (List.map enc_ii x16))]⟩) (C := True) (by kernel_rfl) trivial trivial ?_
      refine ⟨(fu, (x16, IntKind.wrap .i64 (v11 + 1))), h, Nat.lt_succ_self _, ?_⟩
      refine Wk.trans (Wk.forget [2, 3, 5, 6, 38, 39, 40] [0, 1, 2, 3] (s' := ⟨[(2, .pt 0 0), (3, .pt 1 0), (5, .sl 2 0 x9.length), (6, .sl 3 0 x16.length), (38, .sl 2 0 x9.length), (39, .v (.int .i64 (x9.length : Int))), (40, .v (.int .i64 (IntKind.wrap .i64 (v11 + 1))))], [(0, .box [.bs false 2 (List.map enc_si p1), .v (.int .i64 p2)]), (1, .box [.bs false 1 (List.map enc_i p3)]), (2, .arr 1 (List.map enc_i x9)), (3, .arr 2 (List.map enc_ii x16))]⟩) (by kernel_rfl)) ?_
      exact Wk.refl _
    · replace h := cd_f b11 h
      refine AX.condF (decide (v11 < (x9.length : Int))) (by kernel_rfl) b11 ?_
      refine AX.exit ?_
      refine fin_wk (Wk.swap 0 3 (Nat.le_of_ble_eq_true (by kernel_rfl)) (Nat.le_of_ble_eq_true (by kernel_rfl)) rfl) ?_
      refine fin_wk (Wk.forget [6] [0] (s' := ⟨[(6, .sl 0 0 v10.length)], [(0, .arr 2 (List.map enc_ii v10))]⟩) (by kernel_rfl)) ?_
      have hr := Option.some.inj h
      subst hr
      exact ⟨_, Wk.refl _, ⟨rfl, rfl⟩⟩

theorem s_impl_GreatestArms_L3 (x17 : List (Int × Int)) (n : Nat) (g : (List (Int × Int)) × Int) (out : List (Int × Int)) (h : m_impl_GreatestArms_L3 x17 n g.1 g.2 = some out) :
    AX Try.prog 85 0 (codeAt [1, 1, 1, 1, 1, 1, 0, 1, 1] (bodyOf Try.f14)) ((fun g : (List (Int × Int)) × Int => (⟨[(6, .sl 0 0 x17.length), (12, .sl 1 0 g.1.length), (68, .sl 0 0 x17.length), (69, .v (.int .i64 (x17.length : Int))), (70, .v (.int .i64 g.2))], [(0, .arr 2 (List.map enc_ii x17)), (1, .arr 2 (List.map enc_ii g.1))]⟩ : S)) g) (fun ex s => ex = .exit 4 ∧ s = (fun o : List (Int × Int) => (⟨[(12, .sl 0 0 o.length)], [(0, .arr 2 (List.map enc_ii o))]⟩ : S)) out) := by
  refine AX.wkpost ?_
  refine AX.loop (G := Nat × ((List (Int × Int)) × Int)) (fun q => (fun g : (List (Int × Int)) × Int => (⟨[(6, .sl 0 0 x17.length), (12, .sl 1 0 g.1.length), (68, .sl 0 0 x17.length), (69, .v (.int .i64 (x17.length : Int))), (70, .v (.int .i64 g.2))], [(0, .arr 2 (List.map enc_ii x17)), (1, .arr 2 (List.map enc_ii g.1))]⟩ : S)) q.2) (fun q => m_impl_GreatestArms_L3 x17 q.1 q.2.1 q.2.2 = some out) (fun q => q.1) (n, g) h (Wk.refl _) ?_
  clear h
  rintro ⟨fu, v18, v19⟩ h
  cases fu with
  | zero => cases h
  | succ fu =>
    rw [m_impl_GreatestArms_L3] at h
    refine AX.seq ?_
    refine AX.reg (its := []) [6, 12, 68, 69, 70, 71] [0, 1] (s1 := ⟨[(6, .sl 0 0 x17.length), (12, .sl 1 0 v18.length), (68, .sl 0 0 x17.length), (69, .v (.int .i64 (x17.length : Int))), (70, .v (.int .i64 v19)), (71, .v (.bool (decide (v19 < (x17.length : Int)))))], [(0, .arr 2 (List.map enc_ii x17)), (1, .arr 2 (List.map enc_ii v18))]⟩) (C := True) (by kernel_rfl) trivial trivial ?_
    refine AX.seq ?_
    rcases bool_cases (decide (v19 < (x17.length : Int))) with b22 | b22
    · replace h := cd_t b22 h
      refine AX.condT (decide (v19 < (x17.length : Int))) (by kernel_rfl) b22 ?_
      refine AX.skip ?_
      refine AX.seq ?_
      refine AX.block ?_
      refine AX.seq ?_
      obtain ⟨g23, h⟩ := gd_e h
      refine AX.reg (its := [.auto {}, .auto { y := some (.agg [.v (.int .i64 ((gt x17 v19).1)), .v (.int .i64 ((gt x17 v19).2))]) }, .auto { nk := 2 }]) [6, 12, 14, 68, 69, 70] [0, 1, 2] (s1 := ⟨[(6, .sl 0 0 x17.length), (12, .sl 1 0 v18.length), (14, .pt 2 0), (68, .sl 0 0 x17.length), (69, .v (.int .i64 (x17.length : Int))), (70, .v (.int .i64 v19))], [(0, .arr 2 (List.map enc_ii x17)), (1, .arr 2 (List.map enc_ii v18)), (2, .box [.v (.int .i64 ((gt x17 v19).1)), .v (.int .i64 ((gt x17 v19).2))])]⟩) (C := (0 ≤ v19 ∧ v19 < (x17.length : Int)) ∧ (True ∧ (AV.agg ((((List.map enc_ii x17).getD (0 + v19.toNat) []).drop 0 |>.take 2).map .v) = .agg [.v (.int .i64 ((gt x17 v19).1)), .v (.int .i64 ((gt x17 v19).2))])) ∧ True) (by kernel_rfl) ⟨g23, ⟨⟨trivial, (congrArg (fun z : List Value => AV.agg (((z.drop 0).take 2).map .v)) (idx_arr (enc := enc_ii) rfl g23))⟩, trivial⟩⟩ trivial ?_
      refine AX.seq ?_
      obtain ⟨x20, e24, h⟩ := bd_e h
      refine AX.reg (its := [.auto {}, .auto {}, .call 89 [.sl 0 0 x17.length, .fn 90 [.pt 2 0]] (handO (rho ([] ++ [])) [] [] ++ [(0, .arr 2 (List.map enc_ii x17)), (2, .box [.v (.int .i64 ((gt x17 v19).1)), .v (.int .i64 ((gt x17 v19).2))])]) (callEv [] [] (.v (.bool x20)) [])]) [6, 12, 14, 68, 69, 70, 77] [0, 1, 2] (s1 := ⟨[(6, .sl 0 0 x17.length), (12, .sl 1 0 v18.length), (14, .pt 2 0), (68, .sl 0 0 x17.length), (69, .v (.int .i64 (x17.length : Int))), (70, .v (.int .i64 v19)), (77, .v (.bool (!x20)))], [(0, .arr 2 (List.map enc_ii x17)), (1, .arr 2 (List.map enc_ii v18)), (2, .box [.v (.int .i64 ((gt x17 v19).1)), .v (.int .i64 ((gt x17 v19).2))])]⟩) (C := ((([.sl 0 0 x17.length, .fn 90 [.pt 2 0]] : List AV) = [.sl 0 0 x17.length, .fn 90 [.pt 2 0]]) ∧ (AO.arr 2 (List.map enc_ii x17) = AO.arr 2 (List.map enc_ii x17)) ∧ (AO.box [.v (.int .i64 ((gt x17 v19).1)), .v (.int .i64 ((gt x17 v19).2))] = AO.box [.v (.int .i64 ((gt x17 v19).1)), .v (.int .i64 ((gt x17 v19).2))]) ∧ True) ∧ True) (by kernel_rfl) ⟨⟨rfl, rfl, rfl, trivial⟩, trivial⟩ ⟨call_ok (ks := []) (ns := []) (bor := [0, 2]) (bobjs := [(0, .arr 2 (List.map enc_ii x17)), (2, .box [.v (.int .i64 ((gt x17 v19).1)), .v (.int .i64 ((gt x17 v19).2))])]) (s_slices_ContainsFunc_ii_GreatestArms_3_l x17 ((gt x17 v19).1) ((gt x17 v19).2) x20 e24) (.cons (.c1 (.c0 (.arr rfl rfl ((rfl).trans (List.length_map ..).symm)))) (.cons (.fn (.cons (.box rfl rfl (.cons (.same _ (by kernel_rfl) (by kernel_rfl)) (.cons (.same _ (by kernel_rfl) (by kernel_rfl)) (.nil)))) (.nil))) (.nil))) (by kernel_rfl) trivial, trivial⟩ ?_
      rcases bool_cases ((!x20)) with b25 | b25
      · replace h := cd_t b25 h
        refine AX.condT ((!x20)) (by kernel_rfl) b25 ?_
        obtain ⟨g26, h⟩ := gd_e h
        refine AX.reg (its := [.auto {}, .auto {}, .auto { nk := 3 }, .auto { y := some (.sl 4 0 ((v18 ++ ([((gt x17 v19).1, (gt x17 v19).2)] : List (Int × Int))).length)), els := some (List.map enc_ii v18), els2 := some (List.map enc_ii ([((gt x17 v19).1, (gt x17 v19).2)] : List (Int × Int))), nk := 4 }]) [6, 12, 68, 69, 70] [0, 4] (s1 := ⟨[(6, .sl 0 0 x17.length), (12, .sl 4 0 ((v18 ++ ([((gt x17 v19).1, (gt x17 v19).2)] : List (Int × Int))).length)), (68, .sl 0 0 x17.length), (69, .v (.int .i64 (x17.length : Int))), (70, .v (.int .i64 v19))], [(0, .arr 2 (List.map enc_ii x17)), (4, .arr 2 (List.map enc_ii v18 ++ List.map enc_ii ([((gt x17 v19).1, (gt x17 v19).2)] : List (Int × Int))))]⟩) (C := ((((((List.map enc_ii v18).drop 0).take (v18.length) = List.map enc_ii v18) ∧ (((List.map enc_ii ([((gt x17 v19).1, (gt x17 v19).2)] : List (Int × Int))).drop 0).take (([((gt x17 v19).1, (gt x17 v19).2)] : List (Int × Int)).length) = List.map enc_ii ([((gt x17 v19).1, (gt x17 v19).2)] : List (Int × Int)))) ∧ (List.map enc_ii v18).length + (List.map enc_ii ([((gt x17 v19).1, (gt x17 v19).2)] : List (Int × Int))).length ≤ 1099511627776) ∧ (AV.sl 4 0 (List.map enc_ii v18 ++ List.map enc_ii ([((gt x17 v19).1, (gt x17 v19).2)] : List (Int × Int))).length = AV.sl 4 0 (v18 ++ ([((gt x17 v19).1, (gt x17 v19).2)] : List (Int × Int))).length)) ∧ True) (by kernel_rfl) ⟨⟨⟨⟨(dt_all (enc := enc_ii) rfl rfl), (dt_all (enc := enc_ii) rfl rfl)⟩, (by simp only [List.length_map, List.length_nil]; simpa using g26)⟩, sl_len (enc := enc_ii) (app_can (enc := enc_ii) rfl rfl)⟩, trivial⟩ trivial ?_
        refine AX.reg (its := [.auto { raw := true }]) [6, 12, 68, 69, 70] [0, 4] (s1 := ⟨[(6, .sl 0 0 x17.length), (12, .sl 4 0 ((v18 ++ ([((gt x17 v19).1, (gt x17 v19).2)] : List (Int × Int))).length)), (68, .sl 0 0 x17.length), (69, .v (.int .i64 (x17.length : Int))), (70, .v (.int .i64 (IntKind.wrap .i64 (v19 + 1))))], [(0, .arr 2 (List.map enc_ii x17)), (4, .arr 2 (List.map enc_ii v18 ++ List.map enc_ii ([((gt x17 v19).1, (gt x17 v19).2)] : List (Int × Int))))]⟩) (C := True) (by kernel_rfl) trivial trivial ?_
        refine ⟨(fu, (v18 ++ ([((gt x17 v19).1, (gt x17 v19).2)] : List (Int × Int)), IntKind.wrap .i64 (v19 + 1))), h, Nat.lt_succ_self _, ?_⟩
        refine Wk.trans (Wk.swap 1 4 (Nat.le_of_ble_eq_true (by kernel_rfl)) (Nat.le_of_ble_eq_true (by kernel_rfl)) rfl) ?_
        refine Wk.trans (Wk.forget [6, 12, 68, 69, 70] [0, 1] (s' := ⟨[(6, .sl 0 0 x17.length), (12, .sl 1 0 ((v18 ++ ([((gt x17 v19).1, (gt x17 v19).2)] : List (Int × Int))).length)), (68, .sl 0 0 x17.length), (69, .v (.int .i64 (x17.length : Int))), (70, .v (.int .i64 (IntKind.wrap .i64 (v19 + 1))))], [(0, .arr 2 (List.map enc_ii x17)), (1, .arr 2 (List.map enc_ii v18 ++ List.map enc_ii ([((gt x17 v19).1, (gt x17 v19).2)] : List (Int × Int))))]⟩) (by kernel_rfl)) ?_
        refine Wk.trans (Wk.of_eq (congrArg (fun z => (⟨[(6, .sl 0 0 x17.length), (12, .sl 1 0 ((v18 ++ ([((gt x17 v19).1, (gt x17 v19).2)] : List (Int × Int))).length)), (68, .sl 0 0 x17.length), (69, .v (.int .i64 (x17.length : Int))), (70, .v (.int .i64 (IntKind.wrap .i64 (v19 + 1))))], [(0, .arr 2 (List.map enc_ii x17)), (1, .arr 2 (z))]⟩ : S)) (app_can (enc := enc_ii) rfl rfl : List.map enc_ii v18 ++ List.map enc_ii ([((gt x17 v19).1, (gt x17 v19).2)] : List (Int × Int)) = List.map enc_ii (v18 ++ ([((gt x17 v19).1, (gt x17 v19).2)] : List (Int × Int)))))) ?_
        exact Wk.refl _
      · replace h := cd_f b25 h
        refine AX.condF ((!x20)) (by kernel_rfl) b25 ?_
        refine AX.skip ?_
        refine AX.reg (its := [.auto { raw := true }]) [6, 12, 68, 69, 70] [0, 1] (s1 := ⟨[(6, .sl 0 0 x17.length), (12, .sl 1 0 v18.length), (68, .sl 0 0 x17.length), (69, .v (.int .i64 (x17.length : Int))), (70, .v (.int .i64 (IntKind.wrap .i64 (v19 + 1))))], [(0, .arr 2 (List.map enc_ii x17)), (1, .arr 2 (List.map enc_ii v18))]⟩) (C := True) (by kernel_rfl) trivial trivial ?_
        refine ⟨(fu, (v18, IntKind.wrap .i64 (v19 + 1))), h, Nat.lt_succ_self _, ?_⟩
        refine Wk.trans (Wk.forget [6, 12, 68, 69, 70] [0, 1] (s' := ⟨[(6, .sl 0 0 x17.length), (12, .sl 1 0 v18.length), (68, .sl 0 0 x17.length), (69, .v (.int .i64 (x17.length : Int))), (70, .v (.int .i64 (IntKind.wrap .i64 (v19 + 1))))], [(0, .arr 2 (List.map enc_ii x17)), (1, .arr 2 (List.map enc_ii v18))]⟩) (by kernel_rfl)) ?_
        exact Wk.refl _
    · replace h := cd_f b22 h
      refine AX.condF (decide (v19 < (x17.length : Int))) (by kernel_rfl) b22 ?_
      refine AX.exit ?_
      refine fin_wk (Wk.swap 0 1 (Nat.le_of_ble_eq_true (by kernel_rfl)) (Nat.le_of_ble_eq_true (by kernel_rfl)) rfl) ?_
      refine fin_wk (Wk.forget [12] [0] (s' := ⟨[(12, .sl 0 0 v18.length)], [(0, .arr 2 (List.map enc_ii v18))]⟩) (by kernel_rfl)) ?_
      have hr := Option.some.inj h
      subst hr
      exact ⟨_, Wk.refl _, ⟨rfl, rfl⟩⟩

theorem s_impl_GreatestArms (p1 : List (ByteArray × Int)) (p2 : Int) (p3 : List (Int)) (r : List (Int × Int)) (h : m_impl_GreatestArms p1 p2 p3 = some r) :
    Eng.Spec Try.prog 14 [.agg [.bs false 2 (List.map enc_si p1), .v (.int .i64 p2)], .bs false 1 (List.map enc_i p3)] [] (.sl 0 0 r.length) [.arr 2 (List.map enc_ii r)] := by
  unfold m_impl_GreatestArms at h
  refine Eng.Spec.body Try.func14 (by kernel_rfl) rfl (by kernel_rfl) ?_
  refine AX.wkpost ?_
  refine AX.seq ?_
  refine AX.reg (its := [.auto { nk := 0 }, .auto { nk := 1 }]) [2, 3] [0, 1] (s1 := ⟨[(2, .pt 0 0), (3, .pt 1 0)], [(0, .box [.bs false 2 (List.map enc_si p1), .v (.int .i64 p2)]), (1, .box [.bs false 1 (List.map enc_i p3)])]⟩) (C := True) (by kernel_rfl) trivial trivial ?_
  refine AX.seq ?_
  refine AX.seq ?_
  obtain ⟨x4, e1, h⟩ := bd_e h
  rcases bool_cases ((!x4)) with b2 | b2
  · replace h := cd_t b2 h
    refine AX.reg (its := [.auto {}, .call 60 [.agg [.bs false 2 (List.map enc_si p1), .v (.int .i64 p2)]] (handO (rho ([] ++ [])) [] [] ++ []) (callEv [] [] (.v (.bool x4)) []), .auto { y := some (.v (.bool true)) }]) [2, 3, 34] [0, 1] (s1 := ⟨[(2, .pt 0 0), (3, .pt 1 0), (34, .v (.bool true))], [(0, .box [.bs false 2 (List.map enc_si p1), .v (.int .i64 p2)]), (1, .box [.bs false 1 (List.map enc_i p3)])]⟩) (C := ((([.agg [.bs false 2 (List.map enc_si p1), .v (.int .i64 p2)]] : List AV) = [.agg [.bs false 2 (List.map enc_si p1), .v (.int .i64 p2)]]) ∧ True) ∧ ((True) ∧ ((.v (.bool (!x4)) : AV) = (.v (.bool true) : AV))) ∧ True) (by kernel_rfl) ⟨⟨rfl, trivial⟩, ⟨⟨trivial, (congrArg (fun z => AV.v (.bool z)) b2)⟩, trivial⟩⟩ ⟨call_ok (ks := []) (ns := []) (bor := []) (bobjs := []) (s_impl_ValidFlag p1 p2 x4 e1) (.cons (.c1 (.agg (.cons (.same _ (by kernel_rfl) (by kernel_rfl)) (.cons (.same _ (by kernel_rfl) (by kernel_rfl)) (.nil))))) (.nil)) (by kernel_rfl) trivial, trivial⟩ ?_
    refine AX.cond_true (by kernel_rfl) ?_
    refine AX.seq ?_
    refine AX.reg (its := []) [4] [] (s1 := ⟨[(4, .v (.slice none 0 0))], []⟩) (C := True) (by kernel_rfl) trivial trivial ?_
    refine AX.ret ?_
    refine fin_wk (Wk.mat 4 0 2 (by kernel_rfl) (Nat.le_of_ble_eq_true (by kernel_rfl)) (by kernel_rfl) rfl) ?_
    refine fin_wk (Wk.forget [4] [0] (s' := ⟨[(4, .sl 0 0 (([] : List (Int × Int)).length))], [(0, .arr 2 (List.map enc_ii ([] : List (Int × Int))))]⟩) (by kernel_rfl)) ?_
    have hr := Option.some.inj h
    subst hr
    exact ⟨_, Wk.refl _, .inr rfl, ⟨[0], by kernel_rfl, ⟨rfl, trivial⟩, [.sl 0 0 (([] : List (Int × Int)).length)], by kernel_rfl, by kernel_rfl⟩⟩
  · replace h := cd_f b2 h
    obtain ⟨x5, e3, h⟩ := bd_e h
    obtain ⟨x6, e4, h⟩ := bd_e h
    rcases bool_cases (decide (6 < x6)) with b5 | b5
    · replace h := cd_t b5 h
      refine AX.reg (its := [.auto {}, .call 60 [.agg [.bs false 2 (List.map enc_si p1), .v (.int .i64 p2)]] (handO (rho ([] ++ [])) [] [] ++ []) (callEv [] [] (.v (.bool x4)) []), .auto { y := some (.v (.bool false)) }, .auto {}, .auto {}, .call 81 [.agg [.bs false 2 (List.map enc_si p1), .v (.int .i64 p2)]] (handO (rho ([] ++ [])) [] [] ++ []) (callEv [] [] (.v (.int .i64 x5)) []), .auto { raw := true }, .call 80 [.v (.int .u64 (IntKind.wrap .u64 (x5)))] (handO (rho ([] ++ [])) [] [] ++ []) (callEv [] [] (.v (.int .i64 x6)) []), .auto { y := some (.v (.bool true)) }]) [2, 3, 34] [0, 1] (s1 := ⟨[(2, .pt 0 0), (3, .pt 1 0), (34, .v (.bool true))], [(0, .box [.bs false 2 (List.map enc_si p1), .v (.int .i64 p2)]), (1, .box [.bs false 1 (List.map enc_i p3)])]⟩) (C := ((([.agg [.bs false 2 (List.map enc_si p1), .v (.int .i64 p2)]] : List AV) = [.agg [.bs false 2 (List.map enc_si p1), .v (.int .i64 p2)]]) ∧ True) ∧ ((True) ∧ ((.v (.bool (!x4)) : AV) = (.v (.bool false) : AV))) ∧ ((([.agg [.bs false 2 (List.map enc_si p1), .v (.int .i64 p2)]] : List AV) = [.agg [.bs false 2 (List.map enc_si p1), .v (.int .i64 p2)]]) ∧ True) ∧ ((([.v (.int .u64 (IntKind.wrap .u64 (x5)))] : List AV) = [.v (.int .u64 (IntKind.wrap .u64 (x5)))]) ∧ True) ∧ ((True) ∧ ((.v (.bool (decide (6 < x6))) : AV) = (.v (.bool true) : AV))) ∧ True) (by kernel_rfl) ⟨⟨rfl, trivial⟩, ⟨⟨trivial, (congrArg (fun z => AV.v (.bool z)) b2)⟩, ⟨⟨rfl, trivial⟩, ⟨⟨rfl, trivial⟩, ⟨⟨trivial, (congrArg (fun z => AV.v (.bool z)) b5)⟩, trivial⟩⟩⟩⟩⟩ ⟨call_ok (ks := []) (ns := []) (bor := []) (bobjs := []) (s_impl_ValidFlag p1 p2 x4 e1) (.cons (.c1 (.agg (.cons (.same _ (by kernel_rfl) (by kernel_rfl)) (.cons (.same _ (by kernel_rfl) (by kernel_rfl)) (.nil))))) (.nil)) (by kernel_rfl) trivial, ⟨call_ok (ks := []) (ns := []) (bor := []) (bobjs := []) (s_impl_Flag_mask p1 p2 x5 e3) (.cons (.c1 (.agg (.cons (.same _ (by kernel_rfl) (by kernel_rfl)) (.cons (.same _ (by kernel_rfl) (by kernel_rfl)) (.nil))))) (.nil)) (by kernel_rfl) trivial, ⟨call_ok (ks := []) (ns := []) (bor := []) (bobjs := []) (s_math_bits_OnesCount (IntKind.wrap .u64 (x5)) x6 e4) (.cons (.c1 (.c0 (.same _ (by kernel_rfl) (by kernel_rfl)))) (.nil)) (by kernel_rfl) trivial, trivial⟩⟩⟩ ?_
      refine AX.cond_true (by kernel_rfl) ?_
      refine AX.seq ?_
      refine AX.reg (its := []) [4] [] (s1 := ⟨[(4, .v (.slice none 0 0))], []⟩) (C := True) (by kernel_rfl) trivial trivial ?_
      refine AX.ret ?_
      refine fin_wk (Wk.mat 4 0 2 (by kernel_rfl) (Nat.le_of_ble_eq_true (by kernel_rfl)) (by kernel_rfl) rfl) ?_
      refine fin_wk (Wk.forget [4] [0] (s' := ⟨[(4, .sl 0 0 (([] : List (Int × Int)).length))], [(0, .arr 2 (List.map enc_ii ([] : List (Int × Int))))]⟩) (by kernel_rfl)) ?_
      have hr := Option.some.inj h
      subst hr
      exact ⟨_, Wk.refl _, .inr rfl, ⟨[0], by kernel_rfl, ⟨rfl, trivial⟩, [.sl 0 0 (([] : List (Int × Int)).length)], by kernel_rfl, by kernel_rfl⟩⟩
    · replace h := cd_f b5 h
      rcases bool_cases (decide (64 < (p3.length : Int))) with b6 | b6
      · replace h := cd_t b6 h
        refine AX.reg (its := [.auto {}, .call 60 [.agg [.bs false 2 (List.map enc_si p1), .v (.int .i64 p2)]] (handO (rho ([] ++ [])) [] [] ++ []) (callEv [] [] (.v (.bool x4)) []), .auto { y := some (.v (.bool false)) }, .auto {}, .auto {}, .call 81 [.agg [.bs false 2 (List.map enc_si p1), .v (.int .i64 p2)]] (handO (rho ([] ++ [])) [] [] ++ []) (callEv [] [] (.v (.int .i64 x5)) []), .auto { raw := true }, .call 80 [.v (.int .u64 (IntKind.wrap .u64 (x5)))] (handO (rho ([] ++ [])) [] [] ++ []) (callEv [] [] (.v (.int .i64 x6)) []), .auto { y := some (.v (.bool false)) }, .auto {}, .auto {}, .auto {}, .auto { y := some (.v (.int .i64 (p3.length : Int))) }, .auto { y := some (.v (.bool true)) }]) [2, 3, 34] [0, 1] (s1 := ⟨[(2, .pt 0 0), (3, .pt 1 0), (34, .v (.bool true))], [(0, .box [.bs false 2 (List.map enc_si p1), .v (.int .i64 p2)]), (1, .box [.bs false 1 (List.map enc_i p3)])]⟩) (C := ((([.agg [.bs false 2 (List.map enc_si p1), .v (.int .i64 p2)]] : List AV) = [.agg [.bs false 2 (List.map enc_si p1), .v (.int .i64 p2)]]) ∧ True) ∧ ((True) ∧ ((.v (.bool (!x4)) : AV) = (.v (.bool false) : AV))) ∧ ((([.agg [.bs false 2 (List.map enc_si p1), .v (.int .i64 p2)]] : List AV) = [.agg [.bs false 2 (List.map enc_si p1), .v (.int .i64 p2)]]) ∧ True) ∧ ((([.v (.int .u64 (IntKind.wrap .u64 (x5)))] : List AV) = [.v (.int .u64 (IntKind.wrap .u64 (x5)))]) ∧ True) ∧ ((True) ∧ ((.v (.bool (decide (6 < x6))) : AV) = (.v (.bool false) : AV))) ∧ (True ∧ (AV.v (.int .i64 ((List.map enc_i p3).length : Int)) = AV.v (.int .i64 (p3.length : Int)))) ∧ ((True) ∧ ((.v (.bool (decide (64 < (p3.length : Int)))) : AV) = (.v (.bool true) : AV))) ∧ True) (by kernel_rfl) ⟨⟨rfl, trivial⟩, ⟨⟨trivial, (congrArg (fun z => AV.v (.bool z)) b2)⟩, ⟨⟨rfl, trivial⟩, ⟨⟨rfl, trivial⟩, ⟨⟨trivial, (congrArg (fun z => AV.v (.bool z)) b5)⟩, ⟨⟨trivial, len_map enc_i p3⟩, ⟨⟨trivial, (congrArg (fun z => AV.v (.bool z)) b6)⟩, trivial⟩⟩⟩⟩⟩⟩⟩ ⟨call_ok (ks := []) (ns := []) (bor := []) (bobjs := []) (s_impl_ValidFlag p1 p2 x4 e1) (.cons (.c1 (.agg (.cons (.same _ (by kernel_rfl) (by kernel_rfl)) (.cons (.same _ (by kernel_rfl) (by kernel_rfl)) (.nil))))) (.nil)) (by kernel_rfl) trivial, ⟨call_ok (ks := []) (ns := []) (bor := []) (bobjs := []) (s_impl_Flag_mask p1 p2 x5 e3) (.cons (.c1 (.agg (.cons (.same _ (by kernel_rfl) (by kernel_rfl)) (.cons (.same _ (by kernel_rfl) (by kernel_rfl)) (.nil))))) (.nil)) (by kernel_rfl) trivial, ⟨call_ok (ks := []) (ns := []) (bor := []) (bobjs := []) (s_math_bits_OnesCount (IntKind.wrap .u64 (x5)) x6 e4) (.cons (.c1 (.c0 (.same _ (by kernel_rfl) (by kernel_rfl)))) (.nil)) (by kernel_rfl) trivial, trivial⟩⟩⟩ ?_
        refine AX.cond_true (by kernel_rfl) ?_
        refine AX.seq ?_
        refine AX.reg (its := []) [4] [] (s1 := ⟨[(4, .v (.slice none 0 0))], []⟩) (C := True) (by kernel_rfl) trivial trivial ?_
        refine AX.ret ?_
        refine fin_wk (Wk.mat 4 0 2 (by kernel_rfl) (Nat.le_of_ble_eq_true (by kernel_rfl)) (by kernel_rfl) rfl) ?_
        refine fin_wk (Wk.forget [4] [0] (s' := ⟨[(4, .sl 0 0 (([] : List (Int × Int)).length))], [(0, .arr 2 (List.map enc_ii ([] : List (Int × Int))))]⟩) (by kernel_rfl)) ?_
        have hr := Option.some.inj h
        subst hr
        exact ⟨_, Wk.refl _, .inr rfl, ⟨[0], by kernel_rfl, ⟨rfl, trivial⟩, [.sl 0 0 (([] : List (Int × Int)).length)], by kernel_rfl, by kernel_rfl⟩⟩
      · replace h := cd_f b6 h
        obtain ⟨x7, e7, h⟩ := bd_e h
        refine AX.reg (its := [.auto {}, .call 60 [.agg [.bs false 2 (List.map enc_si p1), .v (.int .i64 p2)]] (handO (rho ([] ++ [])) [] [] ++ []) (callEv [] [] (.v (.bool x4)) []), .auto { y := some (.v (.bool false)) }, .auto {}, .auto {}, .call 81 [.agg [.bs false 2 (List.map enc_si p1), .v (.int .i64 p2)]] (handO (rho ([] ++ [])) [] [] ++ []) (callEv [] [] (.v (.int .i64 x5)) []), .auto { raw := true }, .call 80 [.v (.int .u64 (IntKind.wrap .u64 (x5)))] (handO (rho ([] ++ [])) [] [] ++ []) (callEv [] [] (.v (.int .i64 x6)) []), .auto { y := some (.v (.bool false)) }, .auto {}, .auto {}, .auto {}, .auto { y := some (.v (.int .i64 (p3.length : Int))) }, .auto { y := some (.v (.bool false)) }, .auto {}, .auto {}, .auto {}, .auto {}, .call 82 [.bs false 1 (List.map enc_i p3), .fn 83 [.pt 0 0]] (handO (rho ([] ++ [])) [] [] ++ [(0, .box [.bs false 2 (List.map enc_si p1), .v (.int .i64 p2)])]) (callEv [] [] (.v (.bool x7)) [])]) [2, 3, 34] [0, 1] (s1 := ⟨[(2, .pt 0 0), (3, .pt 1 0), (34, .v (.bool x7))], [(0, .box [.bs false 2 (List.map enc_si p1), .v (.int .i64 p2)]), (1, .box [.bs false 1 (List.map enc_i p3)])]⟩) (C := ((([.agg [.bs false 2 (List.map enc_si p1), .v (.int .i64 p2)]] : List AV) = [.agg [.bs false 2 (List.map enc_si p1), .v (.int .i64 p2)]]) ∧ True) ∧ ((True) ∧ ((.v (.bool (!x4)) : AV) = (.v (.bool false) : AV))) ∧ ((([.agg [.bs false 2 (List.map enc_si p1), .v (.int .i64 p2)]] : List AV) = [.agg [.bs false 2 (List.map enc_si p1), .v (.int .i64 p2)]]) ∧ True) ∧ ((([.v (.int .u64 (IntKind.wrap .u64 (x5)))] : List AV) = [.v (.int .u64 (IntKind.wrap .u64 (x5)))]) ∧ True) ∧ ((True) ∧ ((.v (.bool (decide (6 < x6))) : AV) = (.v (.bool false) : AV))) ∧ (True ∧ (AV.v (.int .i64 ((List.map enc_i p3).length : Int)) = AV.v (.int .i64 (p3.length : Int)))) ∧ ((True) ∧ ((.v (.bool (decide (64 < (p3.length : Int)))) : AV) = (.v (.bool false) : AV))) ∧ ((([.bs false 1 (List.map enc_i p3), .fn 83 [.pt 0 0]] : List AV) = [.bs false 1 (List.map enc_i p3), .fn 83 [.pt 0 0]]) ∧ (AO.box [.bs false 2 (List.map enc_si p1), .v (.int .i64 p2)] = AO.box [.bs false 2 (List.map enc_si p1), .v (.int .i64 p2)]) ∧ True) ∧ True) (by kernel_rfl) ⟨⟨rfl, trivial⟩, ⟨⟨trivial, (congrArg (fun z => AV.v (.bool z)) b2)⟩, ⟨⟨rfl, trivial⟩, ⟨⟨rfl, trivial⟩, ⟨⟨trivial, (congrArg (fun z => AV.v (.bool z)) b5)⟩, ⟨⟨trivial, len_map enc_i p3⟩, ⟨⟨trivial, (congrArg (fun z => AV.v (.bool z)) b6)⟩, ⟨⟨rfl, rfl, trivial⟩, trivial⟩⟩⟩⟩⟩⟩⟩⟩ ⟨call_ok (ks := []) (ns := []) (bor := []) (bobjs := []) (s_impl_ValidFlag p1 p2 x4 e1) (.cons (.c1 (.agg (.cons (.same _ (by kernel_rfl) (by kernel_rfl)) (.cons (.same _ (by kernel_rfl) (by kernel_rfl)) (.nil))))) (.nil)) (by kernel_rfl) trivial, ⟨call_ok (ks := []) (ns := []) (bor := []) (bobjs := []) (s_impl_Flag_mask p1 p2 x5 e3) (.cons (.c1 (.agg (.cons (.same _ (by kernel_rfl) (by kernel_rfl)) (.cons (.same _ (by kernel_rfl) (by kernel_rfl)) (.nil))))) (.nil)) (by kernel_rfl) trivial, ⟨call_ok (ks := []) (ns := []) (bor := []) (bobjs := []) (s_math_bits_OnesCount (IntKind.wrap .u64 (x5)) x6 e4) (.cons (.c1 (.c0 (.same _ (by kernel_rfl) (by kernel_rfl)))) (.nil)) (by kernel_rfl) trivial, ⟨call_ok (ks := []) (ns := []) (bor := [0]) (bobjs := [(0, .box [.bs false 2 (List.map enc_si p1), .v (.int .i64 p2)])]) (s_slices_ContainsFunc_i_GreatestArms_1_lsi p3 p1 p2 x7 e7) (.cons (.c1 (.c0 (.same _ (by kernel_rfl) (by kernel_rfl)))) (.cons (.fn (.cons (.box rfl rfl (.cons (.same _ (by kernel_rfl) (by kernel_rfl)) (.cons (.same _ (by kernel_rfl) (by kernel_rfl)) (.nil)))) (.nil))) (.nil))) (by kernel_rfl) trivial, trivial⟩⟩⟩⟩ ?_
        rcases bool_cases (x7) with b8 | b8
        · replace h := cd_t b8 h
          refine AX.condT (x7) (by kernel_rfl) b8 ?_
          refine AX.seq ?_
          refine AX.reg (its := []) [4] [] (s1 := ⟨[(4, .v (.slice none 0 0))], []⟩) (C := True) (by kernel_rfl) trivial trivial ?_
          refine AX.ret ?_
          refine fin_wk (Wk.mat 4 0 2 (by kernel_rfl) (Nat.le_of_ble_eq_true (by kernel_rfl)) (by kernel_rfl) rfl) ?_
          refine fin_wk (Wk.forget [4] [0] (s' := ⟨[(4, .sl 0 0 (([] : List (Int × Int)).length))], [(0, .arr 2 (List.map enc_ii ([] : List (Int × Int))))]⟩) (by kernel_rfl)) ?_
          have hr := Option.some.inj h
          subst hr
          exact ⟨_, Wk.refl _, .inr rfl, ⟨[0], by kernel_rfl, ⟨rfl, trivial⟩, [.sl 0 0 (([] : List (Int × Int)).length)], by kernel_rfl, by kernel_rfl⟩⟩
        · replace h := cd_f b8 h
          refine AX.condF (x7) (by kernel_rfl) b8 ?_
          refine AX.skip ?_
          refine AX.seq ?_
          obtain ⟨x8, e9, h⟩ := bd_e h
          obtain ⟨x9, e10, h⟩ := bd_e h
          refine AX.reg (its := [.auto {}, .call 81 [.agg [.bs false 2 (List.map enc_si p1), .v (.int .i64 p2)]] (handO (rho ([] ++ [])) [] [] ++ []) (callEv [] [] (.v (.int .i64 x8)) []), .call 84 [.v (.int .i64 x8)] (handO (rho ([] ++ [2])) [] [] ++ []) (callEv [] [2] (.sl 0 0 x9.length) [.arr 1 (List.map enc_i x9)])]) [2, 3, 5] [0, 1, 2] (s1 := ⟨[(2, .pt 0 0), (3, .pt 1 0), (5, .sl 2 0 x9.length)], [(0, .box [.bs false 2 (List.map enc_si p1), .v (.int .i64 p2)]), (1, .box [.bs false 1 (List.map enc_i p3)]), (2, .arr 1 (List.map enc_i x9))]⟩) (C := ((([.agg [.bs false 2 (List.map enc_si p1), .v (.int .i64 p2)]] : List AV) = [.agg [.bs false 2 (List.map enc_si p1), .v (.int .i64 p2)]]) ∧ True) ∧ ((([.v (.int .i64 x8)] : List AV) = [.v (.int .i64 x8)]) ∧ True) ∧ True) (by kernel_rfl) ⟨⟨rfl, trivial⟩, ⟨⟨rfl, trivial⟩, trivial⟩⟩ ⟨call_ok (ks := []) (ns := []) (bor := []) (bobjs := []) (s_impl_Flag_mask p1 p2 x8 e9) (.cons (.c1 (.agg (.cons (.same _ (by kernel_rfl) (by kernel_rfl)) (.cons (.same _ (by kernel_rfl) (by kernel_rfl)) (.nil))))) (.nil)) (by kernel_rfl) trivial, ⟨call_ok (ks := []) (ns := [2]) (bor := []) (bobjs := []) (s_impl_inside x8 x9 e10) (.cons (.c1 (.c0 (.same _ (by kernel_rfl) (by kernel_rfl)))) (.nil)) (by kernel_rfl) trivial, trivial⟩⟩ ?_
          refine AX.seq ?_
          refine AX.reg (its := []) [2, 3, 5, 6] [0, 1, 2] (s1 := ⟨[(2, .pt 0 0), (3, .pt 1 0), (5, .sl 2 0 x9.length), (6, .v (.slice none 0 0))], [(0, .box [.bs false 2 (List.map enc_si p1), .v (.int .i64 p2)]), (1, .box [.bs false 1 (List.map enc_i p3)]), (2, .arr 1 (List.map enc_i x9))]⟩) (C := True) (by kernel_rfl) trivial trivial ?_
          refine AX.seq ?_
          refine AX.seq ?_
          refine AX.reg (its := []) [2, 3, 5, 6, 38, 39, 40] [0, 1, 2] (s1 := ⟨[(2, .pt 0 0), (3, .pt 1 0), (5, .sl 2 0 x9.length), (6, .v (.slice none 0 0)), (38, .sl 2 0 x9.length), (39, .v (.int .i64 (x9.length : Int))), (40, .v (.int .i64 0))], [(0, .box [.bs false 2 (List.map enc_si p1), .v (.int .i64 p2)]), (1, .box [.bs false 1 (List.map enc_i p3)]), (2, .arr 1 (List.map enc_i x9))]⟩) (C := True) (by kernel_rfl) trivial trivial ?_
          refine AX.block ?_
          obtain ⟨x17, e21, h⟩ := bd_e h
          refine AX.wk (Wk.mat 6 3 2 (by kernel_rfl) (Nat.le_of_ble_eq_true (by kernel_rfl)) (by kernel_rfl) rfl) ?_
          refine AX.wk (Wk.forget [2, 3, 5, 6, 38, 39, 40] [0, 1, 2, 3] (s' := ⟨[(2, .pt 0 0), (3, .pt 1 0), (5, .sl 2 0 x9.length), (6, .sl 3 0 (([] : List (Int × Int)).length)), (38, .sl 2 0 x9.length), (39, .v (.int .i64 (x9.length : Int))), (40, .v (.int .i64 0))], [(0, .box [.bs false 2 (List.map enc_si p1), .v (.int .i64 p2)]), (1, .box [.bs false 1 (List.map enc_i p3)]), (2, .arr 1 (List.map enc_i x9)), (3, .arr 2 (List.map enc_ii ([] : List (Int × Int))))]⟩) (by kernel_rfl)) ?_
          refine AX.mono (s_impl_GreatestArms_L1 p1 p2 p3 x9 FU (([] : List (Int × Int)), 0) x17 e21) ?_
          rintro _ _ ⟨rfl, rfl⟩
          skip
          refine AX.seq ?_
          refine AX.reg (its := []) [6, 12] [0] (s1 := ⟨[(6, .sl 0 0 x17.length), (12, .v (.slice none 0 0))], [(0, .arr 2 (List.map enc_ii x17))]⟩) (C := True) (by kernel_rfl) trivial trivial ?_
          refine AX.seq ?_
          refine AX.seq ?_
          refine AX.reg (its := []) [6, 12, 68, 69, 70] [0] (s1 := ⟨[(6, .sl 0 0 x17.length), (12, .v (.slice none 0 0)), (68, .sl 0 0 x17.length), (69, .v (.int .i64 (x17.length : Int))), (70, .v (.int .i64 0))], [(0, .arr 2 (List.map enc_ii x17))]⟩) (C := True) (by kernel_rfl) trivial trivial ?_
          refine AX.block ?_
          obtain ⟨x21, e27, h⟩ := bd_e h
          refine AX.wk (Wk.mat 12 1 2 (by kernel_rfl) (Nat.le_of_ble_eq_true (by kernel_rfl)) (by kernel_rfl) rfl) ?_
          refine AX.wk (Wk.forget [6, 12, 68, 69, 70] [0, 1] (s' := ⟨[(6, .sl 0 0 x17.length), (12, .sl 1 0 (([] : List (Int × Int)).length)), (68, .sl 0 0 x17.length), (69, .v (.int .i64 (x17.length : Int))), (70, .v (.int .i64 0))], [(0, .arr 2 (List.map enc_ii x17)), (1, .arr 2 (List.map enc_ii ([] : List (Int × Int))))]⟩) (by kernel_rfl)) ?_
          refine AX.mono (s_impl_GreatestArms_L3 x17 FU (([] : List (Int × Int)), 0) x21 e27) ?_
          rintro _ _ ⟨rfl, rfl⟩
          skip
          refine AX.seq ?_
          obtain ⟨x22, e28, h⟩ := bd_e h
          refine AX.reg (its := [.auto {}, .call 92 [.sl 0 0 x21.length] (handO (rho ([0] ++ [])) [0] [.arr 2 (List.map enc_ii x21)] ++ []) (callEv [0] [] (.sl 0 0 x21.length) [.arr 2 (List.map enc_ii x21)])]) [4] [0] (s1 := ⟨[(4, .sl 0 0 x21.length)], [(0, .arr 2 (List.map enc_ii x21))]⟩) (C := ((([.sl 0 0 x21.length] : List AV) = [.sl 0 0 x21.length]) ∧ (AO.arr 2 (List.map enc_ii x21) = AO.arr 2 (List.map enc_ii x21)) ∧ True) ∧ True) (by kernel_rfl) ⟨⟨rfl, rfl, trivial⟩, trivial⟩ ⟨call_ok (ks := [0]) (ns := []) (bor := []) (bobjs := []) (s_slices_Clip_hii x21 x22 e28) (.cons (.c1 (.c0 (.same _ (by kernel_rfl) (by kernel_rfl)))) (.nil)) (by kernel_rfl) ⟨.inr rfl, trivial⟩, trivial⟩ ?_
          refine AX.ret ?_
          refine fin_wk (Wk.forget [4] [0] (s' := ⟨[(4, .sl 0 0 x21.length)], [(0, .arr 2 (List.map enc_ii x21))]⟩) (by kernel_rfl)) ?_
          have hr := Option.some.inj h
          subst hr
          exact ⟨_, Wk.refl _, .inr rfl, ⟨[0], by kernel_rfl, ⟨rfl, trivial⟩, [.sl 0 0 x21.length], by kernel_rfl, by kernel_rfl⟩⟩

theorem s_laws_eqArm (p1 : Int) (p2 : Int) (p3 : Int) (p4 : Int) (r : Bool) (h : m_laws_eqArm p1 p2 p3 p4 = some r) :
    Eng.Spec Try.prog 101 [.agg [.v (.int .i64 p1), .v (.int .i64 p2)], .agg [.v (.int .i64 p3), .v (.int .i64 p4)]] [] (.v (.bool r)) [] := by
  unfold m_laws_eqArm at h
  refine Eng.Spec.body Try.func101 (by kernel_rfl) rfl (by kernel_rfl) ?_
  refine AX.wkpost ?_
  refine AX.seq ?_
  refine AX.reg (its := [.auto { nk := 0 }, .auto { nk := 1 }]) [2, 3] [0, 1] (s1 := ⟨[(2, .pt 0 0), (3, .pt 1 0)], [(0, .box [.v (.int .i64 p1), .v (.int .i64 p2)]), (1, .box [.v (.int .i64 p3), .v (.int .i64 p4)])]⟩) (C := True) (by kernel_rfl) trivial trivial ?_
  refine AX.seq ?_
  refine AX.seq ?_
  refine AX.reg (its := []) [2, 3, 9] [0, 1] (s1 := ⟨[(2, .pt 0 0), (3, .pt 1 0), (9, .v (.bool (!decide (p1 = p3))))], [(0, .box [.v (.int .i64 p1), .v (.int .i64 p2)]), (1, .box [.v (.int .i64 p3), .v (.int .i64 p4)])]⟩) (C := True) (by kernel_rfl) trivial trivial ?_
  rcases bool_cases ((!decide (p1 = p3))) with b1 | b1
  · replace h := cd_t b1 h
    refine AX.condT ((!decide (p1 = p3))) (by kernel_rfl) b1 ?_
    refine AX.seq ?_
    refine AX.reg (its := []) [4] [] (s1 := ⟨[(4, .v (.bool false))], []⟩) (C := True) (by kernel_rfl) trivial trivial ?_
    refine AX.ret ?_
    refine fin_wk (Wk.forget [4] [] (s' := ⟨[(4, .v (.bool false))], []⟩) (by kernel_rfl)) ?_
    have hr := Option.some.inj h
    subst hr
    exact ⟨_, Wk.refl _, .inr rfl, ⟨[], by kernel_rfl, trivial, [.v (.bool false)], by kernel_rfl, by kernel_rfl⟩⟩
  · replace h := cd_f b1 h
    refine AX.condF ((!decide (p1 = p3))) (by kernel_rfl) b1 ?_
    refine AX.skip ?_
    refine AX.seq ?_
    refine AX.seq ?_
    refine AX.reg (its := []) [14] [] (s1 := ⟨[(14, .v (.bool (!decide (p2 = p4))))], []⟩) (C := True) (by kernel_rfl) trivial trivial ?_
    rcases bool_cases ((!decide (p2 = p4))) with b2 | b2
    · replace h := cd_t b2 h
      refine AX.condT ((!decide (p2 = p4))) (by kernel_rfl) b2 ?_
      refine AX.seq ?_
      refine AX.reg (its := []) [4] [] (s1 := ⟨[(4, .v (.bool false))], []⟩) (C := True) (by kernel_rfl) trivial trivial ?_
      refine AX.ret ?_
      refine fin_wk (Wk.forget [4] [] (s' := ⟨[(4, .v (.bool false))], []⟩) (by kernel_rfl)) ?_
      have hr := Option.some.inj h
      subst hr
      exact ⟨_, Wk.refl _, .inr rfl, ⟨[], by kernel_rfl, trivial, [.v (.bool false)], by kernel_rfl, by kernel_rfl⟩⟩
    · replace h := cd_f b2 h
      refine AX.condF ((!decide (p2 = p4))) (by kernel_rfl) b2 ?_
      refine AX.skip ?_
      refine AX.seq ?_
      refine AX.reg (its := []) [4] [] (s1 := ⟨[(4, .v (.bool true))], []⟩) (C := True) (by kernel_rfl) trivial trivial ?_
      refine AX.ret ?_
      refine fin_wk (Wk.forget [4] [] (s' := ⟨[(4, .v (.bool true))], []⟩) (by kernel_rfl)) ?_
      have hr := Option.some.inj h
      subst hr
      exact ⟨_, Wk.refl _, .inr rfl, ⟨[], by kernel_rfl, trivial, [.v (.bool true)], by kernel_rfl, by kernel_rfl⟩⟩

theorem s_laws_eqArmS_L1 (p1 : List (Int × Int)) (p2 : List (Int × Int)) (n : Nat) (g : Int) (out : Unit ⊕ Unit) (h : m_laws_eqArmS_L1 p1 p2 n g = some out) :
    AX Try.prog 27 0 (codeAt [1, 1, 0, 1, 1] (bodyOf Try.f25)) ((fun g : Int => (⟨[(0, .bs false 2 (List.map enc_ii p1)), (1, .bs false 2 (List.map enc_ii p2)), (5, .v (.int .i64 g))], []⟩ : S)) g) (fun ex s => (∃ o : Unit, out = Sum.inl o ∧ ex = .ret ∧ s = ⟨[(4, .v (.bool false))], []⟩) ∨ (∃ o : Unit, out = Sum.inr o ∧ ex = .exit 0 ∧ s = ⟨[], []⟩)) := by
  refine AX.wkpost ?_
  refine AX.loop (G := Nat × (Int)) (fun q => (fun g : Int => (⟨[(0, .bs false 2 (List.map enc_ii p1)), (1, .bs false 2 (List.map enc_ii p2)), (5, .v (.int .i64 g))], []⟩ : S)) q.2) (fun q => m_laws_eqArmS_L1 p1 p2 q.1 q.2 = some out) (fun q => q.1) (n, g) h (Wk.refl _) ?_
  clear h
  rintro ⟨fu, v3⟩ h
  cases fu with
  | zero => cases h
  | succ fu =>
    rw [m_laws_eqArmS_L1] at h
    refine AX.seq ?_
    refine AX.seq ?_
    refine AX.reg (its := [.auto {}, .auto {}, .auto { y := some (.v (.int .i64 (p1.length : Int))) }]) [0, 1, 5, 14] [] (s1 := ⟨[(0, .bs false 2 (List.map enc_ii p1)), (1, .bs false 2 (List.map enc_ii p2)), (5, .v (.int .i64 v3)), (14, .v (.bool (decide (v3 < (p1.length : Int)))))], []⟩) (C := (True ∧ (AV.v (.int .i64 ((List.map enc_ii p1).length : Int)) = AV.v (.int .i64 (p1.length : Int)))) ∧ True) (by kernel_rfl) ⟨⟨trivial, len_map enc_ii p1⟩, trivial⟩ trivial ?_
    rcases bool_cases (decide (v3 < (p1.length : Int))) with b2 | b2
    · replace h := cd_t b2 h
      refine AX.condT (decide (v3 < (p1.length : Int))) (by kernel_rfl) b2 ?_
      refine AX.skip ?_
      refine AX.seq ?_
      refine AX.block ?_
      refine AX.seq ?_
      obtain ⟨g3, h⟩ := gd_e h
      obtain ⟨g4, h⟩ := gd_e h
      obtain ⟨x4, e5, h⟩ := bd_e h
      refine AX.drw mixed (its := [.auto {}, .auto {}, .auto { y := some (.be 2 (enc_ii (gt p1 v3)) 0) }, .auto {}, .auto {}, .auto {}, .auto { y := some (.be 2 (enc_ii (gt p2 v3)) 0) }, .auto {}, .call 101 [.agg [.v (.int .i64 ((gt p1 v3).1)), .v (.int .i64 ((gt p1 v3).2))], .agg [.v (.int .i64 ((gt p2 v3).1)), .v (.int .i64 ((gt p2 v3).2))]] (handO (rho ([] ++ [])) [] [] ++ []) (callEv [] [] (.v (.bool x4)) [])]) [0, 1, 5, 26] [] (s1 := ⟨[(0, .bs false 2 (List.map enc_ii p1)), (1, .bs false 2 (List.map enc_ii p2)), (5, .v (.int .i64 v3)), (26, .v (.bool (!x4)))], []⟩) (C := ((0 ≤ v3 ∧ v3 < ((List.map enc_ii p1).length : Int)) ∧ (AV.be 2 ((List.map enc_ii p1).getD v3.toNat []) 0 = AV.be 2 (enc_ii (gt p1 v3)) 0)) ∧ ((0 ≤ v3 ∧ v3 < ((List.map enc_ii p2).length : Int)) ∧ (AV.be 2 ((List.map enc_ii p2).getD v3.toNat []) 0 = AV.be 2 (enc_ii (gt p2 v3)) 0)) ∧ ((([.agg [.v (.int .i64 ((gt p1 v3).1)), .v (.int .i64 ((gt p1 v3).2))], .agg [.v (.int .i64 ((gt p2 v3).1)), .v (.int .i64 ((gt p2 v3).2))]] : List AV) = [.agg [.v (.int .i64 ((gt p1 v3).1)), .v (.int .i64 ((gt p1 v3).2))], .agg [.v (.int .i64 ((gt p2 v3).1)), .v (.int .i64 ((gt p2 v3).2))]]) ∧ True) ∧ True) (by kernel_rfl) ⟨idx_bs enc_ii p1 v3 2 g3, ⟨idx_bs enc_ii p2 v3 2 g4, ⟨⟨rfl, trivial⟩, trivial⟩⟩⟩ ⟨call_ok (ks := []) (ns := []) (bor := []) (bobjs := []) (s_laws_eqArm ((gt p1 v3).1) ((gt p1 v3).2) ((gt p2 v3).1) ((gt p2 v3).2) x4 e5) (.cons (.c1 (.agg (.cons (.same _ (by kernel_rfl) (by kernel_rfl)) (.cons (.same _ (by kernel_rfl) (by kernel_rfl)) (.nil))))) (.cons (.c1 (.agg (.cons (.same _ (by kernel_rfl) (by kernel_rfl)) (.cons (.same _ (by kernel_rfl) (by kernel_rfl)) (.nil))))) (.nil))) (by kernel_rfl) trivial, trivial⟩ ?_
      rcases bool_cases ((!x4)) with b6 | b6
      · replace h := cd_t b6 h
        refine AX.condT ((!x4)) (by kernel_rfl) b6 ?_
        refine AX.seq ?_
        refine AX.reg (its := []) [4] [] (s1 := ⟨[(4, .v (.bool false))], []⟩) (C := True) (by kernel_rfl) trivial trivial ?_
        refine AX.ret ?_
        refine fin_wk (Wk.forget [4] [] (s' := ⟨[(4, .v (.bool false))], []⟩) (by kernel_rfl)) ?_
        have hr := Option.some.inj h
        subst hr
        exact ⟨_, Wk.refl _, .inl ⟨(), rfl, rfl, rfl⟩⟩
      · replace h := cd_f b6 h
        refine AX.condF ((!x4)) (by kernel_rfl) b6 ?_
        refine AX.skip ?_
        refine AX.reg (its := [.auto {}, .auto { raw := true }]) [0, 1, 5] [] (s1 := ⟨[(0, .bs false 2 (List.map enc_ii p1)), (1, .bs false 2 (List.map enc_ii p2)), (5, .v (.int .i64 (IntKind.wrap .i64 (v3 + 1))))], []⟩) (C := True) (by kernel_rfl) trivial trivial ?_
        refine ⟨(fu, IntKind.wrap .i64 (v3 + 1)), h, Nat.lt_succ_self _, ?_⟩
        refine Wk.trans (Wk.forget [0, 1, 5] [] (s' := ⟨[(0, .bs false 2 (List.map enc_ii p1)), (1, .bs false 2 (List.map enc_ii p2)), (5, .v (.int .i64 (IntKind.wrap .i64 (v3 + 1))))], []⟩) (by kernel_rfl)) ?_
        exact Wk.refl _
    · replace h := cd_f b2 h
      refine AX.condF (decide (v3 < (p1.length : Int))) (by kernel_rfl) b2 ?_
      refine AX.exit ?_
      refine fin_wk (Wk.forget [] [] (s' := ⟨[], []⟩) (by kernel_rfl)) ?_
      have hr := Option.some.inj h
      subst hr
      exact ⟨_, Wk.refl _, .inr ⟨(), rfl, rfl, rfl⟩⟩

theorem s_laws_eqArmS (p1 : List (Int × Int)) (p2 : List (Int × Int)) (r : Bool) (h : m_laws_eqArmS p1 p2 = some r) :
    Eng.Spec Try.prog 25 [.bs false 2 (List.map enc_ii p1), .bs false 2 (List.map enc_ii p2)] [] (.v (.bool r)) [] := by
  unfold m_laws_eqArmS at h
  refine Eng.Spec.body Try.func25 (by kernel_rfl) rfl (by kernel_rfl) ?_
  refine AX.wkpost ?_
  refine AX.seq ?_
  refine AX.reg (its := []) [0, 1] [] (s1 := ⟨[(0, .bs false 2 (List.map enc_ii p1)), (1, .bs false 2 (List.map enc_ii p2))], []⟩) (C := True) (by kernel_rfl) trivial trivial ?_
  refine AX.seq ?_
  refine AX.seq ?_
  refine AX.reg (its := [.auto {}, .auto { y := some (.v (.int .i64 (p1.length : Int))) }, .auto {}, .auto { y := some (.v (.int .i64 (p2.length : Int))) }]) [0, 1, 10] [] (s1 := ⟨[(0, .bs false 2 (List.map enc_ii p1)), (1, .bs false 2 (List.map enc_ii p2)), (10, .v (.bool (!decide ((p1.length : Int) = (p2.length : Int)))))], []⟩) (C := (True ∧ (AV.v (.int .i64 ((List.map enc_ii p1).length : Int)) = AV.v (.int .i64 (p1.length : Int)))) ∧ (True ∧ (AV.v (.int .i64 ((List.map enc_ii p2).length : Int)) = AV.v (.int .i64 (p2.length : Int)))) ∧ True) (by kernel_rfl) ⟨⟨trivial, len_map enc_ii p1⟩, ⟨⟨trivial, len_map enc_ii p2⟩, trivial⟩⟩ trivial ?_
  rcases bool_cases ((!decide ((p1.length : Int) = (p2.length : Int)))) with b1 | b1
  · replace h := cd_t b1 h
    refine AX.condT ((!decide ((p1.length : Int) = (p2.length : Int)))) (by kernel_rfl) b1 ?_
    refine AX.seq ?_
    refine AX.reg (its := []) [4] [] (s1 := ⟨[(4, .v (.bool false))], []⟩) (C := True) (by kernel_rfl) trivial trivial ?_
    refine AX.ret ?_
    refine fin_wk (Wk.forget [4] [] (s' := ⟨[(4, .v (.bool false))], []⟩) (by kernel_rfl)) ?_
    have hr := Option.some.inj h
    subst hr
    exact ⟨_, Wk.refl _, .inr rfl, ⟨[], by kernel_rfl, trivial, [.v (.bool false)], by kernel_rfl, by kernel_rfl⟩⟩
  · replace h := cd_f b1 h
    refine AX.condF ((!decide ((p1.length : Int) = (p2.length : Int)))) (by kernel_rfl) b1 ?_
    refine AX.skip ?_
    refine AX.seq ?_
    refine AX.seq ?_
    refine AX.reg (its := []) [0, 1, 5] [] (s1 := ⟨[(0, .bs false 2 (List.map enc_ii p1)), (1, .bs false 2 (List.map enc_ii p2)), (5, .v (.int .i64 0))], []⟩) (C := True) (by kernel_rfl) trivial trivial ?_
    refine AX.block ?_
    obtain ⟨x5, e7, h⟩ := bd_e h
    refine AX.wk (Wk.forget [0, 1, 5] [] (s' := ⟨[(0, .bs false 2 (List.map enc_ii p1)), (1, .bs false 2 (List.map enc_ii p2)), (5, .v (.int .i64 0))], []⟩) (by kernel_rfl)) ?_
    refine AX.mono (s_laws_eqArmS_L1 p1 p2 FU 0 x5 e7) ?_
    rintro _ _ (⟨x6, rfl, rfl, rfl⟩ | ⟨x7, rfl, rfl, rfl⟩)
    · replace h := sm_l h
      refine fin_wk (Wk.forget [4] [] (s' := ⟨[(4, .v (.bool false))], []⟩) (by kernel_rfl)) ?_
      have hr := Option.some.inj h
      subst hr
      exact ⟨_, Wk.refl _, .inr rfl, ⟨[], by kernel_rfl, trivial, [.v (.bool false)], by kernel_rfl, by kernel_rfl⟩⟩
    · replace h := sm_r h
      refine AX.seq ?_
      refine AX.reg (its := []) [4] [] (s1 := ⟨[(4, .v (.bool true))], []⟩) (C := True) (by kernel_rfl) trivial trivial ?_
      refine AX.ret ?_
      refine fin_wk (Wk.forget [4] [] (s' := ⟨[(4, .v (.bool true))], []⟩) (by kernel_rfl)) ?_
      have hr := Option.some.inj h
      subst hr
      exact ⟨_, Wk.refl _, .inr rfl, ⟨[], by kernel_rfl, trivial, [.v (.bool true)], by kernel_rfl, by kernel_rfl⟩⟩

theorem s_laws_eqDef (p1 : ByteArray) (p2 : Int) (p3 : ByteArray) (p4 : Int) (r : Bool) (h : m_laws_eqDef p1 p2 p3 p4 = some r) :
    Eng.Spec Try.prog 151 [.agg [.v (.string p1), .v (.int .i64 p2)], .agg [.v (.string p3), .v (.int .i64 p4)]] [] (.v (.bool r)) [] := by
  unfold m_laws_eqDef at h
  refine Eng.Spec.body Try.func151 (by kernel_rfl) rfl (by kernel_rfl) ?_
  refine AX.wkpost ?_
  refine AX.seq ?_
  refine AX.reg (its := [.auto { nk := 0 }, .auto { nk := 1 }]) [2, 3] [0, 1] (s1 := ⟨[(2, .pt 0 0), (3, .pt 1 0)], [(0, .box [.v (.string p1), .v (.int .i64 p2)]), (1, .box [.v (.string p3), .v (.int .i64 p4)])]⟩) (C := True) (by kernel_rfl) trivial trivial ?_
  refine AX.seq ?_
  refine AX.seq ?_
  refine AX.reg (its := []) [2, 3, 9] [0, 1] (s1 := ⟨[(2, .pt 0 0), (3, .pt 1 0), (9, .v (.bool (!decide (p1 = p3))))], [(0, .box [.v (.string p1), .v (.int .i64 p2)]), (1, .box [.v (.string p3), .v (.int .i64 p4)])]⟩) (C := True) (by kernel_rfl) trivial trivial ?_
  rcases bool_cases ((!decide (p1 = p3))) with b1 | b1
  · replace h := cd_t b1 h
    refine AX.condT ((!decide (p1 = p3))) (by kernel_rfl) b1 ?_
    refine AX.seq ?_
    refine AX.reg (its := []) [4] [] (s1 := ⟨[(4, .v (.bool false))], []⟩) (C := True) (by kernel_rfl) trivial trivial ?_
    refine AX.ret ?_
    refine fin_wk (Wk.forget [4] [] (s' := ⟨[(4, .v (.bool false))], []⟩) (by kernel_rfl)) ?_
    have hr := Option.some.inj h
    subst hr
    exact ⟨_, Wk.refl _, .inr rfl, ⟨[], by kernel_rfl, trivial, [.v (.bool false)], by kernel_rfl, by kernel_rfl⟩⟩
  · replace h := cd_f b1 h
    refine AX.condF ((!decide (p1 = p3))) (by kernel_rfl) b1 ?_
    refine AX.skip ?_
    refine AX.seq ?_
    refine AX.seq ?_
    refine AX.reg (its := []) [14] [] (s1 := ⟨[(14, .v (.bool (!decide (p2 = p4))))], []⟩) (C := True) (by kernel_rfl) trivial trivial ?_
    rcases bool_cases ((!decide (p2 = p4))) with b2 | b2
    · replace h := cd_t b2 h
      refine AX.condT ((!decide (p2 = p4))) (by kernel_rfl) b2 ?_
      refine AX.seq ?_
      refine AX.reg (its := []) [4] [] (s1 := ⟨[(4, .v (.bool false))], []⟩) (C := True) (by kernel_rfl) trivial trivial ?_
      refine AX.ret ?_
      refine fin_wk (Wk.forget [4] [] (s' := ⟨[(4, .v (.bool false))], []⟩) (by kernel_rfl)) ?_
      have hr := Option.some.inj h
      subst hr
      exact ⟨_, Wk.refl _, .inr rfl, ⟨[], by kernel_rfl, trivial, [.v (.bool false)], by kernel_rfl, by kernel_rfl⟩⟩
    · replace h := cd_f b2 h
      refine AX.condF ((!decide (p2 = p4))) (by kernel_rfl) b2 ?_
      refine AX.skip ?_
      refine AX.seq ?_
      refine AX.reg (its := []) [4] [] (s1 := ⟨[(4, .v (.bool true))], []⟩) (C := True) (by kernel_rfl) trivial trivial ?_
      refine AX.ret ?_
      refine fin_wk (Wk.forget [4] [] (s' := ⟨[(4, .v (.bool true))], []⟩) (by kernel_rfl)) ?_
      have hr := Option.some.inj h
      subst hr
      exact ⟨_, Wk.refl _, .inr rfl, ⟨[], by kernel_rfl, trivial, [.v (.bool true)], by kernel_rfl, by kernel_rfl⟩⟩

theorem s_laws_eqDefS_L1 (p1 : List (ByteArray × Int)) (p2 : List (ByteArray × Int)) (n : Nat) (g : Int) (out : Unit ⊕ Unit) (h : m_laws_eqDefS_L1 p1 p2 n g = some out) :
    AX Try.prog 27 0 (codeAt [1, 1, 0, 1, 1] (bodyOf Try.f102)) ((fun g : Int => (⟨[(0, .bs false 2 (List.map enc_si p1)), (1, .bs false 2 (List.map enc_si p2)), (5, .v (.int .i64 g))], []⟩ : S)) g) (fun ex s => (∃ o : Unit, out = Sum.inl o ∧ ex = .ret ∧ s = ⟨[(4, .v (.bool false))], []⟩) ∨ (∃ o : Unit, out = Sum.inr o ∧ ex = .exit 0 ∧ s = ⟨[], []⟩)) := by
  refine AX.wkpost ?_
  refine AX.loop (G := Nat × (Int)) (fun q => (fun g : Int => (⟨[(0, .bs false 2 (List.map enc_si p1)), (1, .bs false 2 (List.map enc_si p2)), (5, .v (.int .i64 g))], []⟩ : S)) q.2) (fun q => m_laws_eqDefS_L1 p1 p2 q.1 q.2 = some out) (fun q => q.1) (n, g) h (Wk.refl _) ?_
  clear h
  rintro ⟨fu, v3⟩ h
  cases fu with
  | zero => cases h
  | succ fu =>
    rw [m_laws_eqDefS_L1] at h
    refine AX.seq ?_
    refine AX.seq ?_
    refine AX.reg (its := [.auto {}, .auto {}, .auto { y := some (.v (.int .i64 (p1.length : Int))) }]) [0, 1, 5, 14] [] (s1 := ⟨[(0, .bs false 2 (List.map enc_si p1)), (1, .bs false 2 (List.map enc_si p2)), (5, .v (.int .i64 v3)), (14, .v (.bool (decide (v3 < (p1.length : Int)))))], []⟩) (C := (True ∧ (AV.v (.int .i64 ((List.map enc_si p1).length : Int)) = AV.v (.int .i64 (p1.length : Int)))) ∧ True) (by kernel_rfl) ⟨⟨trivial, len_map enc_si p1⟩, trivial⟩ trivial ?_
    rcases bool_cases (decide (v3 < (p1.length : Int))) with b2 | b2
    · replace h := cd_t b2 h
      refine AX.condT (decide (v3 < (p1.length : Int))) (by kernel_rfl) b2 ?_
      refine AX.skip ?_
      refine AX.seq ?_
      refine AX.block ?_
      refine AX.seq ?_
      obtain ⟨g3, h⟩ := gd_e h
      obtain ⟨g4, h⟩ := gd_e h
      obtain ⟨x4, e5, h⟩ := bd_e h
      refine AX.drw mixed (its := [.auto {}, .auto {}, .auto { y := some (.be 2 (enc_si (gt p1 v3)) 0) }, .auto {}, .auto {}, .auto {}, .auto { y := some (.be 2 (enc_si (gt p2 v3)) 0) }, .auto {}, .call 151 [.agg [.v (.string ((gt p1 v3).1)), .v (.int .i64 ((gt p1 v3).2))], .agg [.v (.string ((gt p2 v3).1)), .v (.int .i64 ((gt p2 v3).2))]] (handO (rho ([] ++ [])) [] [] ++ []) (callEv [] [] (.v (.bool x4)) [])]) [0, 1, 5, 26] [] (s1 := ⟨[(0, .bs false 2 (List.map enc_si p1)), (1, .bs false 2 (List.map enc_si p2)), (5, .v (.int .i64 v3)), (26, .v (.bool (!x4)))], []⟩) (C := ((0 ≤ v3 ∧ v3 < ((List.map enc_si p1).length : Int)) ∧ (AV.be 2 ((List.map enc_si p1).getD v3.toNat []) 0 = AV.be 2 (enc_si (gt p1 v3)) 0)) ∧ ((0 ≤ v3 ∧ v3 < ((List.map enc_si p2).length : Int)) ∧ (AV.be 2 ((List.map enc_si p2).getD v3.toNat []) 0 = AV.be 2 (enc_si (gt p2 v3)) 0)) ∧ ((([.agg [.v (.string ((gt p1 v3).1)), .v (.int .i64 ((gt p1 v3).2))], .agg [.v (.string ((gt p2 v3).1)), .v (.int .i64 ((gt p2 v3).2))]] : List AV) = [.agg [.v (.string ((gt p1 v3).1)), .v (.int .i64 ((gt p1 v3).2))], .agg [.v (.string ((gt p2 v3).1)), .v (.int .i64 ((gt p2 v3).2))]]) ∧ True) ∧ True) (by kernel_rfl) ⟨idx_bs enc_si p1 v3 2 g3, ⟨idx_bs enc_si p2 v3 2 g4, ⟨⟨rfl, trivial⟩, trivial⟩⟩⟩ ⟨call_ok (ks := []) (ns := []) (bor := []) (bobjs := []) (s_laws_eqDef ((gt p1 v3).1) ((gt p1 v3).2) ((gt p2 v3).1) ((gt p2 v3).2) x4 e5) (.cons (.c1 (.agg (.cons (.same _ (by kernel_rfl) (by kernel_rfl)) (.cons (.same _ (by kernel_rfl) (by kernel_rfl)) (.nil))))) (.cons (.c1 (.agg (.cons (.same _ (by kernel_rfl) (by kernel_rfl)) (.cons (.same _ (by kernel_rfl) (by kernel_rfl)) (.nil))))) (.nil))) (by kernel_rfl) trivial, trivial⟩ ?_
      rcases bool_cases ((!x4)) with b6 | b6
      · replace h := cd_t b6 h
        refine AX.condT ((!x4)) (by kernel_rfl) b6 ?_
        refine AX.seq ?_
        refine AX.reg (its := []) [4] [] (s1 := ⟨[(4, .v (.bool false))], []⟩) (C := True) (by kernel_rfl) trivial trivial ?_
        refine AX.ret ?_
        refine fin_wk (Wk.forget [4] [] (s' := ⟨[(4, .v (.bool false))], []⟩) (by kernel_rfl)) ?_
        have hr := Option.some.inj h
        subst hr
        exact ⟨_, Wk.refl _, .inl ⟨(), rfl, rfl, rfl⟩⟩
      · replace h := cd_f b6 h
        refine AX.condF ((!x4)) (by kernel_rfl) b6 ?_
        refine AX.skip ?_
        refine AX.reg (its := [.auto {}, .auto { raw := true }]) [0, 1, 5] [] (s1 := ⟨[(0, .bs false 2 (List.map enc_si p1)), (1, .bs false 2 (List.map enc_si p2)), (5, .v (.int .i64 (IntKind.wrap .i64 (v3 + 1))))], []⟩) (C := True) (by kernel_rfl) trivial trivial ?_
        refine ⟨(fu, IntKind.wrap .i64 (v3 + 1)), h, Nat.lt_succ_self _, ?_⟩
        refine Wk.trans (Wk.forget [0, 1, 5] [] (s' := ⟨[(0, .bs false 2 (List.map enc_si p1)), (1, .bs false 2 (List.map enc_si p2)), (5, .v (.int .i64 (IntKind.wrap .i64 (v3 + 1))))], []⟩) (by kernel_rfl)) ?_
        exact Wk.refl _
    · replace h := cd_f b2 h
      refine AX.condF (decide (v3 < (p1.length : Int))) (by kernel_rfl) b2 ?_
      refine AX.exit ?_
      refine fin_wk (Wk.forget [] [] (s' := ⟨[], []⟩) (by kernel_rfl)) ?_
      have hr := Option.some.inj h
      subst hr
      exact ⟨_, Wk.refl _, .inr ⟨(), rfl, rfl, rfl⟩⟩

theorem s_laws_eqDefS (p1 : List (ByteArray × Int)) (p2 : List (ByteArray × Int)) (r : Bool) (h : m_laws_eqDefS p1 p2 = some r) :
    Eng.Spec Try.prog 102 [.bs false 2 (List.map enc_si p1), .bs false 2 (List.map enc_si p2)] [] (.v (.bool r)) [] := by
  unfold m_laws_eqDefS at h
  refine Eng.Spec.body Try.func102 (by kernel_rfl) rfl (by kernel_rfl) ?_
  refine AX.wkpost ?_
  refine AX.seq ?_
  refine AX.reg (its := []) [0, 1] [] (s1 := ⟨[(0, .bs false 2 (List.map enc_si p1)), (1, .bs false 2 (List.map enc_si p2))], []⟩) (C := True) (by kernel_rfl) trivial trivial ?_
  refine AX.seq ?_
  refine AX.seq ?_
  refine AX.reg (its := [.auto {}, .auto { y := some (.v (.int .i64 (p1.length : Int))) }, .auto {}, .auto { y := some (.v (.int .i64 (p2.length : Int))) }]) [0, 1, 10] [] (s1 := ⟨[(0, .bs false 2 (List.map enc_si p1)), (1, .bs false 2 (List.map enc_si p2)), (10, .v (.bool (!decide ((p1.length : Int) = (p2.length : Int)))))], []⟩) (C := (True ∧ (AV.v (.int .i64 ((List.map enc_si p1).length : Int)) = AV.v (.int .i64 (p1.length : Int)))) ∧ (True ∧ (AV.v (.int .i64 ((List.map enc_si p2).length : Int)) = AV.v (.int .i64 (p2.length : Int)))) ∧ True) (by kernel_rfl) ⟨⟨trivial, len_map enc_si p1⟩, ⟨⟨trivial, len_map enc_si p2⟩, trivial⟩⟩ trivial ?_
  rcases bool_cases ((!decide ((p1.length : Int) = (p2.length : Int)))) with b1 | b1
  · replace h := cd_t b1 h
    refine AX.condT ((!decide ((p1.length : Int) = (p2.length : Int)))) (by kernel_rfl) b1 ?_
    refine AX.seq ?_
    refine AX.reg (its := []) [4] [] (s1 := ⟨[(4, .v (.bool false))], []⟩) (C := True) (by kernel_rfl) trivial trivial ?_
    refine AX.ret ?_
    refine fin_wk (Wk.forget [4] [] (s' := ⟨[(4, .v (.bool false))], []⟩) (by kernel_rfl)) ?_
    have hr := Option.some.inj h
    subst hr
    exact ⟨_, Wk.refl _, .inr rfl, ⟨[], by kernel_rfl, trivial, [.v (.bool false)], by kernel_rfl, by kernel_rfl⟩⟩
  · replace h := cd_f b1 h
    refine AX.condF ((!decide ((p1.length : Int) = (p2.length : Int)))) (by kernel_rfl) b1 ?_
    refine AX.skip ?_
    refine AX.seq ?_
    refine AX.seq ?_
    refine AX.reg (its := []) [0, 1, 5] [] (s1 := ⟨[(0, .bs false 2 (List.map enc_si p1)), (1, .bs false 2 (List.map enc_si p2)), (5, .v (.int .i64 0))], []⟩) (C := True) (by kernel_rfl) trivial trivial ?_
    refine AX.block ?_
    obtain ⟨x5, e7, h⟩ := bd_e h
    refine AX.wk (Wk.forget [0, 1, 5] [] (s' := ⟨[(0, .bs false 2 (List.map enc_si p1)), (1, .bs false 2 (List.map enc_si p2)), (5, .v (.int .i64 0))], []⟩) (by kernel_rfl)) ?_
    refine AX.mono (s_laws_eqDefS_L1 p1 p2 FU 0 x5 e7) ?_
    rintro _ _ (⟨x6, rfl, rfl, rfl⟩ | ⟨x7, rfl, rfl, rfl⟩)
    · replace h := sm_l h
      refine fin_wk (Wk.forget [4] [] (s' := ⟨[(4, .v (.bool false))], []⟩) (by kernel_rfl)) ?_
      have hr := Option.some.inj h
      subst hr
      exact ⟨_, Wk.refl _, .inr rfl, ⟨[], by kernel_rfl, trivial, [.v (.bool false)], by kernel_rfl, by kernel_rfl⟩⟩
    · replace h := sm_r h
      refine AX.seq ?_
      refine AX.reg (its := []) [4] [] (s1 := ⟨[(4, .v (.bool true))], []⟩) (C := True) (by kernel_rfl) trivial trivial ?_
      refine AX.ret ?_
      refine fin_wk (Wk.forget [4] [] (s' := ⟨[(4, .v (.bool true))], []⟩) (by kernel_rfl)) ?_
      have hr := Option.some.inj h
      subst hr
      exact ⟨_, Wk.refl _, .inr rfl, ⟨[], by kernel_rfl, trivial, [.v (.bool true)], by kernel_rfl, by kernel_rfl⟩⟩

theorem s_laws_eqFlag (p1 : List (ByteArray × Int)) (p2 : Int) (p3 : List (ByteArray × Int)) (p4 : Int) (r : Bool) (h : m_laws_eqFlag p1 p2 p3 p4 = some r) :
    Eng.Spec Try.prog 26 [.agg [.bs false 2 (List.map enc_si p1), .v (.int .i64 p2)], .agg [.bs false 2 (List.map enc_si p3), .v (.int .i64 p4)]] [] (.v (.bool r)) [] := by
  unfold m_laws_eqFlag at h
  refine Eng.Spec.body Try.func26 (by kernel_rfl) rfl (by kernel_rfl) ?_
  refine AX.wkpost ?_
  refine AX.seq ?_
  refine AX.reg (its := [.auto { nk := 0 }, .auto { nk := 1 }]) [2, 3] [0, 1] (s1 := ⟨[(2, .pt 0 0), (3, .pt 1 0)], [(0, .box [.bs false 2 (List.map enc_si p1), .v (.int .i64 p2)]), (1, .box [.bs false 2 (List.map enc_si p3), .v (.int .i64 p4)])]⟩) (C := True) (by kernel_rfl) trivial trivial ?_
  refine AX.seq ?_
  refine AX.seq ?_
  obtain ⟨x5, e1, h⟩ := bd_e h
  refine AX.reg (its := [.auto {}, .auto {}, .auto {}, .auto {}, .call 102 [.bs false 2 (List.map enc_si p1), .bs false 2 (List.map enc_si p3)] (handO (rho ([] ++ [])) [] [] ++ []) (callEv [] [] (.v (.bool x5)) [])]) [2, 3, 10] [0, 1] (s1 := ⟨[(2, .pt 0 0), (3, .pt 1 0), (10, .v (.bool (!x5)))], [(0, .box [.bs false 2 (List.map enc_si p1), .v (.int .i64 p2)]), (1, .box [.bs false 2 (List.map enc_si p3), .v (.int .i64 p4)])]⟩) (C := ((([.bs false 2 (List.map enc_si p1), .bs false 2 (List.map enc_si p3)] : List AV) = [.bs false 2 (List.map enc_si p1), .bs false 2 (List.map enc_si p3)]) ∧ True) ∧ True) (by kernel_rfl) ⟨⟨rfl, trivial⟩, trivial⟩ ⟨call_ok (ks := []) (ns := []) (bor := []) (bobjs := []) (s_laws_eqDefS p1 p3 x5 e1) (.cons (.c1 (.c0 (.same _ (by kernel_rfl) (by kernel_rfl)))) (.cons (.c1 (.c0 (.same _ (by kernel_rfl) (by kernel_rfl)))) (.nil))) (by kernel_rfl) trivial, trivial⟩ ?_
  rcases bool_cases ((!x5)) with b2 | b2
  · replace h := cd_t b2 h
    refine AX.condT ((!x5)) (by kernel_rfl) b2 ?_
    refine AX.seq ?_
    refine AX.reg (its := []) [4] [] (s1 := ⟨[(4, .v (.bool false))], []⟩) (C := True) (by kernel_rfl) trivial trivial ?_
    refine AX.ret ?_
    refine fin_wk (Wk.forget [4] [] (s' := ⟨[(4, .v (.bool false))], []⟩) (by kernel_rfl)) ?_
    have hr := Option.some.inj h
    subst hr
    exact ⟨_, Wk.refl _, .inr rfl, ⟨[], by kernel_rfl, trivial, [.v (.bool false)], by kernel_rfl, by kernel_rfl⟩⟩
  · replace h := cd_f b2 h
    refine AX.condF ((!x5)) (by kernel_rfl) b2 ?_
    refine AX.skip ?_
    refine AX.seq ?_
    refine AX.seq ?_
    refine AX.reg (its := []) [15] [] (s1 := ⟨[(15, .v (.bool (!decide (p2 = p4))))], []⟩) (C := True) (by kernel_rfl) trivial trivial ?_
    rcases bool_cases ((!decide (p2 = p4))) with b3 | b3
    · replace h := cd_t b3 h
      refine AX.condT ((!decide (p2 = p4))) (by kernel_rfl) b3 ?_
      refine AX.seq ?_
      refine AX.reg (its := []) [4] [] (s1 := ⟨[(4, .v (.bool false))], []⟩) (C := True) (by kernel_rfl) trivial trivial ?_
      refine AX.ret ?_
      refine fin_wk (Wk.forget [4] [] (s' := ⟨[(4, .v (.bool false))], []⟩) (by kernel_rfl)) ?_
      have hr := Option.some.inj h
      subst hr
      exact ⟨_, Wk.refl _, .inr rfl, ⟨[], by kernel_rfl, trivial, [.v (.bool false)], by kernel_rfl, by kernel_rfl⟩⟩
    · replace h := cd_f b3 h
      refine AX.condF ((!decide (p2 = p4))) (by kernel_rfl) b3 ?_
      refine AX.skip ?_
      refine AX.seq ?_
      refine AX.reg (its := []) [4] [] (s1 := ⟨[(4, .v (.bool true))], []⟩) (C := True) (by kernel_rfl) trivial trivial ?_
      refine AX.ret ?_
      refine fin_wk (Wk.forget [4] [] (s' := ⟨[(4, .v (.bool true))], []⟩) (by kernel_rfl)) ?_
      have hr := Option.some.inj h
      subst hr
      exact ⟨_, Wk.refl _, .inr rfl, ⟨[], by kernel_rfl, trivial, [.v (.bool true)], by kernel_rfl, by kernel_rfl⟩⟩

theorem s_laws_eqIntS_L1 (p1 : List (Int)) (p2 : List (Int)) (n : Nat) (g : Int) (out : Unit ⊕ Unit) (h : m_laws_eqIntS_L1 p1 p2 n g = some out) :
    AX Try.prog 26 0 (codeAt [1, 1, 0, 1, 1] (bodyOf Try.f27)) ((fun g : Int => (⟨[(0, .bs false 1 (List.map enc_i p1)), (1, .bs false 1 (List.map enc_i p2)), (5, .v (.int .i64 g))], []⟩ : S)) g) (fun ex s => (∃ o : Unit, out = Sum.inl o ∧ ex = .ret ∧ s = ⟨[(4, .v (.bool false))], []⟩) ∨ (∃ o : Unit, out = Sum.inr o ∧ ex = .exit 0 ∧ s = ⟨[], []⟩)) := by
  refine AX.wkpost ?_
  refine AX.loop (G := Nat × (Int)) (fun q => (fun g : Int => (⟨[(0, .bs false 1 (List.map enc_i p1)), (1, .bs false 1 (List.map enc_i p2)), (5, .v (.int .i64 g))], []⟩ : S)) q.2) (fun q => m_laws_eqIntS_L1 p1 p2 q.1 q.2 = some out) (fun q => q.1) (n, g) h (Wk.refl _) ?_
  clear h
  rintro ⟨fu, v3⟩ h
  cases fu with
  | zero => cases h
  | succ fu =>
    rw [m_laws_eqIntS_L1] at h
    refine AX.seq ?_
    refine AX.seq ?_
    refine AX.reg (its := [.auto {}, .auto {}, .auto { y := some (.v (.int .i64 (p1.length : Int))) }]) [0, 1, 5, 14] [] (s1 := ⟨[(0, .bs false 1 (List.map enc_i p1)), (1, .bs false 1 (List.map enc_i p2)), (5, .v (.int .i64 v3)), (14, .v (.bool (decide (v3 < (p1.length : Int)))))], []⟩) (C := (True ∧ (AV.v (.int .i64 ((List.map enc_i p1).length : Int)) = AV.v (.int .i64 (p1.length : Int)))) ∧ True) (by kernel_rfl) ⟨⟨trivial, len_map enc_i p1⟩, trivial⟩ trivial ?_
    rcases bool_cases (decide (v3 < (p1.length : Int))) with b2 | b2
    · replace h := cd_t b2 h
      refine AX.condT (decide (v3 < (p1.length : Int))) (by kernel_rfl) b2 ?_
      refine AX.skip ?_
      refine AX.seq ?_
      refine AX.block ?_
      refine AX.seq ?_
      obtain ⟨g3, h⟩ := gd_e h
      obtain ⟨g4, h⟩ := gd_e h
      refine AX.drw mixed (its := [.auto {}, .auto {}, .auto { y := some (.be 1 (enc_i (gt p1 v3)) 0) }, .auto {}, .auto {}, .auto {}, .auto { y := some (.be 1 (enc_i (gt p2 v3)) 0) }]) [0, 1, 5, 25] [] (s1 := ⟨[(0, .bs false 1 (List.map enc_i p1)), (1, .bs false 1 (List.map enc_i p2)), (5, .v (.int .i64 v3)), (25, .v (.bool (!decide ((gt p1 v3) = (gt p2 v3)))))], []⟩) (C := ((0 ≤ v3 ∧ v3 < ((List.map enc_i p1).length : Int)) ∧ (AV.be 1 ((List.map enc_i p1).getD v3.toNat []) 0 = AV.be 1 (enc_i (gt p1 v3)) 0)) ∧ ((0 ≤ v3 ∧ v3 < ((List.map enc_i p2).length : Int)) ∧ (AV.be 1 ((List.map enc_i p2).getD v3.toNat []) 0 = AV.be 1 (enc_i (gt p2 v3)) 0)) ∧ True) (by kernel_rfl) ⟨idx_bs enc_i p1 v3 1 g3, ⟨idx_bs enc_i p2 v3 1 g4, trivial⟩⟩ trivial ?_
      rcases bool_cases ((!decide ((gt p1 v3) = (gt p2 v3)))) with b5 | b5
      · replace h := cd_t b5 h
        refine AX.condT ((!decide ((gt p1 v3) = (gt p2 v3)))) (by kernel_rfl) b5 ?_
        refine AX.seq ?_
        refine AX.reg (its := []) [4] [] (s1 := ⟨[(4, .v (.bool false))], []⟩) (C := True) (by kernel_rfl) trivial trivial ?_
        refine AX.ret ?_
        refine fin_wk (Wk.forget [4] [] (s' := ⟨[(4, .v (.bool false))], []⟩) (by kernel_rfl)) ?_
        have hr := Option.some.inj h
        subst hr
        exact ⟨_, Wk.refl _, .inl ⟨(), rfl, rfl, rfl⟩⟩
      · replace h := cd_f b5 h
        refine AX.condF ((!decide ((gt p1 v3) = (gt p2 v3)))) (by kernel_rfl) b5 ?_
        refine AX.skip ?_
        refine AX.reg (its := [.auto {}, .auto { raw := true }]) [0, 1, 5] [] (s1 := ⟨[(0, .bs false 1 (List.map enc_i p1)), (1, .bs false 1 (List.map enc_i p2)), (5, .v (.int .i64 (IntKind.wrap .i64 (v3 + 1))))], []⟩) (C := True) (by kernel_rfl) trivial trivial ?_
        refine ⟨(fu, IntKind.wrap .i64 (v3 + 1)), h, Nat.lt_succ_self _, ?_⟩
        refine Wk.trans (Wk.forget [0, 1, 5] [] (s' := ⟨[(0, .bs false 1 (List.map enc_i p1)), (1, .bs false 1 (List.map enc_i p2)), (5, .v (.int .i64 (IntKind.wrap .i64 (v3 + 1))))], []⟩) (by kernel_rfl)) ?_
        exact Wk.refl _
    · replace h := cd_f b2 h
      refine AX.condF (decide (v3 < (p1.length : Int))) (by kernel_rfl) b2 ?_
      refine AX.exit ?_
      refine fin_wk (Wk.forget [] [] (s' := ⟨[], []⟩) (by kernel_rfl)) ?_
      have hr := Option.some.inj h
      subst hr
      exact ⟨_, Wk.refl _, .inr ⟨(), rfl, rfl, rfl⟩⟩

theorem s_laws_eqIntS (p1 : List (Int)) (p2 : List (Int)) (r : Bool) (h : m_laws_eqIntS p1 p2 = some r) :
    Eng.Spec Try.prog 27 [.bs false 1 (List.map enc_i p1), .bs false 1 (List.map enc_i p2)] [] (.v (.bool r)) [] := by
  unfold m_laws_eqIntS at h
  refine Eng.Spec.body Try.func27 (by kernel_rfl) rfl (by kernel_rfl) ?_
  refine AX.wkpost ?_
  refine AX.seq ?_
  refine AX.reg (its := []) [0, 1] [] (s1 := ⟨[(0, .bs false 1 (List.map enc_i p1)), (1, .bs false 1 (List.map enc_i p2))], []⟩) (C := True) (by kernel_rfl) trivial trivial ?_
  refine AX.seq ?_
  refine AX.seq ?_
  refine AX.reg (its := [.auto {}, .auto { y := some (.v (.int .i64 (p1.length : Int))) }, .auto {}, .auto { y := some (.v (.int .i64 (p2.length : Int))) }]) [0, 1, 10] [] (s1 := ⟨[(0, .bs false 1 (List.map enc_i p1)), (1, .bs false 1 (List.map enc_i p2)), (10, .v (.bool (!decide ((p1.length : Int) = (p2.length : Int)))))], []⟩) (C := (True ∧ (AV.v (.int .i64 ((List.map enc_i p1).length : Int)) = AV.v (.int .i64 (p1.length : Int)))) ∧ (True ∧ (AV.v (.int .i64 ((List.map enc_i p2).length : Int)) = AV.v (.int .i64 (p2.length : Int)))) ∧ True) (by kernel_rfl) ⟨⟨trivial, len_map enc_i p1⟩, ⟨⟨trivial, len_map enc_i p2⟩, trivial⟩⟩ trivial ?_
  rcases bool_cases ((!decide ((p1.length : Int) = (p2.length : Int)))) with b1 | b1
  · replace h := cd_t b1 h
    refine AX.condT ((!decide ((p1.length : Int) = (p2.length : Int)))) (by kernel_rfl) b1 ?_
    refine AX.seq ?_
    refine AX.reg (its := []) [4] [] (s1 := ⟨[(4, .v (.bool false))], []⟩) (C := True) (by kernel_rfl) trivial trivial ?_
    refine AX.ret ?_
    refine fin_wk (Wk.forget [4] [] (s' := ⟨[(4, .v (.bool false))], []⟩) (by kernel_rfl)) ?_
    have hr := Option.some.inj h
    subst hr
    exact ⟨_, Wk.refl _, .inr rfl, ⟨[], by kernel_rfl, trivial, [.v (.bool false)], by kernel_rfl, by kernel_rfl⟩⟩
  · replace h := cd_f b1 h
    refine AX.condF ((!decide ((p1.length : Int) = (p2.length : Int)))) (by kernel_rfl) b1 ?_
    refine AX.skip ?_
    refine AX.seq ?_
    refine AX.seq ?_
    refine AX.reg (its := []) [0, 1, 5] [] (s1 := ⟨[(0, .bs false 1 (List.map enc_i p1)), (1, .bs false 1 (List.map enc_i p2)), (5, .v (.int .i64 0))], []⟩) (C := True) (by kernel_rfl) trivial trivial ?_
    refine AX.block ?_
    obtain ⟨x4, e6, h⟩ := bd_e h
    refine AX.wk (Wk.forget [0, 1, 5] [] (s' := ⟨[(0, .bs false 1 (List.map enc_i p1)), (1, .bs false 1 (List.map enc_i p2)), (5, .v (.int .i64 0))], []⟩) (by kernel_rfl)) ?_
    refine AX.mono (s_laws_eqIntS_L1 p1 p2 FU 0 x4 e6) ?_
    rintro _ _ (⟨x5, rfl, rfl, rfl⟩ | ⟨x6, rfl, rfl, rfl⟩)
    · replace h := sm_l h
      refine fin_wk (Wk.forget [4] [] (s' := ⟨[(4, .v (.bool false))], []⟩) (by kernel_rfl)) ?_
      have hr := Option.some.inj h
      subst hr
      exact ⟨_, Wk.refl _, .inr rfl, ⟨[], by kernel_rfl, trivial, [.v (.bool false)], by kernel_rfl, by kernel_rfl⟩⟩
    · replace h := sm_r h
      refine AX.seq ?_
      refine AX.reg (its := []) [4] [] (s1 := ⟨[(4, .v (.bool true))], []⟩) (C := True) (by kernel_rfl) trivial trivial ?_
      refine AX.ret ?_
      refine fin_wk (Wk.forget [4] [] (s' := ⟨[(4, .v (.bool true))], []⟩) (by kernel_rfl)) ?_
      have hr := Option.some.inj h
      subst hr
      exact ⟨_, Wk.refl _, .inr rfl, ⟨[], by kernel_rfl, trivial, [.v (.bool true)], by kernel_rfl, by kernel_rfl⟩⟩

theorem s_laws_markText_L1  (n : Nat) (g : Int × ByteArray) (out : ByteArray) (h : m_laws_markText_L1 n g.1 g.2 = some out) :
    AX Try.prog 20 0 (codeAt [1, 1, 1, 0, 1] (bodyOf Try.f126)) ((fun g : Int × ByteArray => (⟨[(0, .v (.int .i64 g.1)), (3, .v (.string g.2))], []⟩ : S)) g) (fun ex s => ex = .exit 0 ∧ s = (fun o : ByteArray => (⟨[(3, .v (.string o))], []⟩ : S)) out) := by
  refine AX.wkpost ?_
  refine AX.loop (G := Nat × (Int × ByteArray)) (fun q => (fun g : Int × ByteArray => (⟨[(0, .v (.int .i64 g.1)), (3, .v (.string g.2))], []⟩ : S)) q.2) (fun q => m_laws_markText_L1 q.1 q.2.1 q.2.2 = some out) (fun q => q.1) (n, g) h (Wk.refl _) ?_
  clear h
  rintro ⟨fu, v2, v3⟩ h
  cases fu with
  | zero => cases h
  | succ fu =>
    rw [m_laws_markText_L1] at h
    refine AX.seq ?_
    refine AX.seq ?_
    refine AX.reg (its := []) [0, 3, 7] [] (s1 := ⟨[(0, .v (.int .i64 v2)), (3, .v (.string v3)), (7, .v (.bool (decide (0 < v2))))], []⟩) (C := True) (by kernel_rfl) trivial trivial ?_
    rcases bool_cases (decide (0 < v2)) with b2 | b2
    · replace h := cd_t b2 h
      refine AX.condT (decide (0 < v2)) (by kernel_rfl) b2 ?_
      refine AX.skip ?_
      refine AX.block ?_
      refine AX.seq ?_
      obtain ⟨g3, h⟩ := gd_e h
      obtain ⟨v4, q4, h⟩ := nm_e h
      obtain ⟨g5, h⟩ := gd_e h
      refine AX.reg (its := [.auto {}, .auto {}, .auto { raw := true }, .auto { raw := true }, .auto { nk := 0 }, .auto { y := some (.v (.string v4)) }]) [0, 3] [] (s1 := ⟨[(0, .v (.int .i64 v2)), (3, .v (.string (v4 ++ v3)))], []⟩) (C := ((10 : Int) ≠ 0) ∧ ((True) ∧ ((.v (.string (bstr ([IntKind.wrap .u8 (IntKind.wrap .i64 (48 + (Int.tmod v2 10)))] : List (Int)))) : AV) = (.v (.string v4) : AV))) ∧ (v4.size + v3.size ≤ 9223372036854775807) ∧ True) (by kernel_rfl) ⟨g3, ⟨⟨trivial, (congrArg (fun z => AV.v (.string z)) q4)⟩, ⟨g5, trivial⟩⟩⟩ trivial ?_
      obtain ⟨g6, h⟩ := gd_e h
      refine AX.reg (its := []) [0, 3] [] (s1 := ⟨[(0, .v (.int .i64 (Int.tdiv v2 10))), (3, .v (.string (v4 ++ v3)))], []⟩) (C := ((10 : Int) ≠ 0 ∧ IntKind.wrap .i64 (Int.tdiv v2 10) = Int.tdiv v2 10) ∧ True) (by kernel_rfl) ⟨g6, trivial⟩ trivial ?_
      refine ⟨(fu, (Int.tdiv v2 10, v4 ++ v3)), h, Nat.lt_succ_self _, ?_⟩
      refine Wk.trans (Wk.forget [0, 3] [] (s' := ⟨[(0, .v (.int .i64 (Int.tdiv v2 10))), (3, .v (.string (v4 ++ v3)))], []⟩) (by kernel_rfl)) ?_
      exact Wk.refl _
    · replace h := cd_f b2 h
      refine AX.condF (decide (0 < v2)) (by kernel_rfl) b2 ?_
      refine AX.exit ?_
      refine fin_wk (Wk.forget [3] [] (s' := ⟨[(3, .v (.string v3))], []⟩) (by kernel_rfl)) ?_
      have hr := Option.some.inj h
      subst hr
      exact ⟨_, Wk.refl _, ⟨rfl, rfl⟩⟩

theorem s_laws_markText (p1 : Int) (r : ByteArray) (h : m_laws_markText p1 = some r) :
    Eng.Spec Try.prog 126 [.v (.int .i64 p1)] [] (.v (.string r)) [] := by
  unfold m_laws_markText at h
  refine Eng.Spec.body Try.func126 (by kernel_rfl) rfl (by kernel_rfl) ?_
  refine AX.wkpost ?_
  refine AX.seq ?_
  refine AX.reg (its := []) [0] [] (s1 := ⟨[(0, .v (.int .i64 p1))], []⟩) (C := True) (by kernel_rfl) trivial trivial ?_
  refine AX.seq ?_
  refine AX.seq ?_
  refine AX.reg (its := []) [0, 5] [] (s1 := ⟨[(0, .v (.int .i64 p1)), (5, .v (.bool (decide (p1 ≤ 0))))], []⟩) (C := True) (by kernel_rfl) trivial trivial ?_
  rcases bool_cases (decide (p1 ≤ 0)) with b1 | b1
  · replace h := cd_t b1 h
    refine AX.condT (decide (p1 ≤ 0)) (by kernel_rfl) b1 ?_
    refine AX.seq ?_
    refine AX.reg (its := []) [2] [] (s1 := ⟨[(2, .v (.string (ByteArray.mk #[109, 48])))], []⟩) (C := True) (by kernel_rfl) trivial trivial ?_
    refine AX.ret ?_
    refine fin_wk (Wk.forget [2] [] (s' := ⟨[(2, .v (.string (ByteArray.mk #[109, 48])))], []⟩) (by kernel_rfl)) ?_
    have hr := Option.some.inj h
    subst hr
    exact ⟨_, Wk.refl _, .inr rfl, ⟨[], by kernel_rfl, trivial, [.v (.string (ByteArray.mk #[109, 48]))], by kernel_rfl, by kernel_rfl⟩⟩
  · replace h := cd_f b1 h
    refine AX.condF (decide (p1 ≤ 0)) (by kernel_rfl) b1 ?_
    refine AX.skip ?_
    refine AX.seq ?_
    refine AX.reg (its := []) [0, 3] [] (s1 := ⟨[(0, .v (.int .i64 p1)), (3, .v (.string ByteArray.empty))], []⟩) (C := True) (by kernel_rfl) trivial trivial ?_
    refine AX.seq ?_
    refine AX.block ?_
    obtain ⟨x5, e7, h⟩ := bd_e h
    refine AX.wk (Wk.forget [0, 3] [] (s' := ⟨[(0, .v (.int .i64 p1)), (3, .v (.string ByteArray.empty))], []⟩) (by kernel_rfl)) ?_
    refine AX.mono (s_laws_markText_L1  FU (p1, ByteArray.empty) x5 e7) ?_
    rintro _ _ ⟨rfl, rfl⟩
    skip
    refine AX.seq ?_
    obtain ⟨g8, h⟩ := gd_e h
    refine AX.reg (its := []) [2] [] (s1 := ⟨[(2, .v (.string ((ByteArray.mk #[109]) ++ x5)))], []⟩) (C := ((ByteArray.mk #[109]).size + x5.size ≤ 9223372036854775807) ∧ True) (by kernel_rfl) ⟨g8, trivial⟩ trivial ?_
    refine AX.ret ?_
    refine fin_wk (Wk.forget [2] [] (s' := ⟨[(2, .v (.string ((ByteArray.mk #[109]) ++ x5)))], []⟩) (by kernel_rfl)) ?_
    have hr := Option.some.inj h
    subst hr
    exact ⟨_, Wk.refl _, .inr rfl, ⟨[], by kernel_rfl, trivial, [.v (.string ((ByteArray.mk #[109]) ++ x5))], by kernel_rfl, by kernel_rfl⟩⟩

theorem s_laws_markDefS_h_L1  (n : Nat) (g : Int × Int × (List (ByteArray × Int))) (out : Int × (List (ByteArray × Int))) (h : m_laws_markDefS_h_L1 n g.1 g.2.1 g.2.2 = some out) :
    AX Try.prog 28 1 (codeAt [1, 0, 1, 1] (bodyOf Try.f103)) ((fun g : Int × Int × (List (ByteArray × Int)) => (⟨[(0, .sl 0 0 g.2.2.length), (1, .v (.int .i64 g.1)), (5, .v (.int .i64 g.2.1))], [(0, .arr 2 (List.map enc_si g.2.2))]⟩ : S)) g) (fun ex s => ex = .exit 0 ∧ s = (fun o : Int × (List (ByteArray × Int)) => (⟨[(1, .v (.int .i64 o.1))], [(0, .arr 2 (List.map enc_si o.2))]⟩ : S)) out) := by
  refine AX.wkpost ?_
  refine AX.loop (G := Nat × (Int × Int × (List (ByteArray × Int)))) (fun q => (fun g : Int × Int × (List (ByteArray × Int)) => (⟨[(0, .sl 0 0 g.2.2.length), (1, .v (.int .i64 g.1)), (5, .v (.int .i64 g.2.1))], [(0, .arr 2 (List.map enc_si g.2.2))]⟩ : S)) q.2) (fun q => m_laws_markDefS_h_L1 q.1 q.2.1 q.2.2.1 q.2.2.2 = some out) (fun q => q.1) (n, g) h (Wk.refl _) ?_
  clear h
  rintro ⟨fu, v3, v4, v5⟩ h
  cases fu with
  | zero => cases h
  | succ fu =>
    rw [m_laws_markDefS_h_L1] at h
    refine AX.seq ?_
    refine AX.seq ?_
    refine AX.reg (its := []) [0, 1, 5, 9] [0] (s1 := ⟨[(0, .sl 0 0 v5.length), (1, .v (.int .i64 v3)), (5, .v (.int .i64 v4)), (9, .v (.bool (decide (v4 < (v5.length : Int)))))], [(0, .arr 2 (List.map enc_si v5))]⟩) (C := True) (by kernel_rfl) trivial trivial ?_
    rcases bool_cases (decide (v4 < (v5.length : Int))) with b1 | b1
    · replace h := cd_t b1 h
      refine AX.condT (decide (v4 < (v5.length : Int))) (by kernel_rfl) b1 ?_
      refine AX.skip ?_
      refine AX.seq ?_
      refine AX.block ?_
      refine AX.seq ?_
      obtain ⟨x6, e2, h⟩ := bd_e h
      obtain ⟨g3, h⟩ := gd_e h
      refine AX.reg (its := [.auto {}, .auto {}, .auto {}, .call 126 [.v (.int .i64 v3)] (handO (rho ([] ++ [])) [] [] ++ []) (callEv [] [] (.v (.string x6)) []), .auto {}, .auto {}, .auto { els := some ([enc_si (x6, (gt v5 v4).2)]) }]) [0, 1, 5] [0] (s1 := ⟨[(0, .sl 0 0 v5.length), (1, .v (.int .i64 v3)), (5, .v (.int .i64 v4))], [(0, .arr 2 ((List.map enc_si v5).set (0 + v4.toNat) (enc_si (x6, (gt v5 v4).2))))]⟩) (C := ((([.v (.int .i64 v3)] : List AV) = [.v (.int .i64 v3)]) ∧ True) ∧ (0 ≤ v4 ∧ v4 < (v5.length : Int)) ∧ ((((List.map enc_si v5).getD (0 + v4.toNat) []).take 0 ++ [(.string x6)] ++ ((List.map enc_si v5).getD (0 + v4.toNat) []).drop 1 = enc_si (x6, (gt v5 v4).2))) ∧ True) (by kernel_rfl) ⟨⟨rfl, trivial⟩, ⟨g3, ⟨(congrArg (fun z : List Value => z.take 0 ++ [(.string x6)] ++ z.drop 1) (idx_arr (enc := enc_si) rfl g3)), trivial⟩⟩⟩ ⟨call_ok (ks := []) (ns := []) (bor := []) (bobjs := []) (s_laws_markText v3 x6 e2) (.cons (.c1 (.c0 (.same _ (by kernel_rfl) (by kernel_rfl)))) (.nil)) (by kernel_rfl) trivial, trivial⟩ ?_
      refine AX.seq ?_
      refine AX.reg (its := [.auto {}, .auto { raw := true }]) [0, 1, 5] [0] (s1 := ⟨[(0, .sl 0 0 v5.length), (1, .v (.int .i64 (IntKind.wrap .i64 (v3 + 1)))), (5, .v (.int .i64 v4))], [(0, .arr 2 ((List.map enc_si v5).set (0 + v4.toNat) (enc_si (x6, (gt v5 v4).2))))]⟩) (C := True) (by kernel_rfl) trivial trivial ?_
      refine AX.seq ?_
      refine AX.reg (its := [.auto {}, .auto {}, .auto {}, .auto {}, .auto {}, .auto { els := some ([enc_si ((gt (v5.set (0 + v4.toNat) (x6, (gt v5 v4).2)) v4).1, IntKind.wrap .i64 (v3 + 1))]) }]) [0, 1, 5] [0] (s1 := ⟨[(0, .sl 0 0 v5.length), (1, .v (.int .i64 (IntKind.wrap .i64 (v3 + 1)))), (5, .v (.int .i64 v4))], [(0, .arr 2 (((List.map enc_si v5).set (0 + v4.toNat) (enc_si (x6, (gt v5 v4).2))).set (0 + v4.toNat) (enc_si ((gt (v5.set (0 + v4.toNat) (x6, (gt v5 v4).2)) v4).1, IntKind.wrap .i64 (v3 + 1)))))]⟩) (C := (0 ≤ v4 ∧ v4 < (v5.length : Int)) ∧ (((((List.map enc_si v5).set (0 + v4.toNat) (enc_si (x6, (gt v5 v4).2))).getD (0 + v4.toNat) []).take 1 ++ [(.int .i64 (IntKind.wrap .i64 (v3 + 1)))] ++ (((List.map enc_si v5).set (0 + v4.toNat) (enc_si (x6, (gt v5 v4).2))).getD (0 + v4.toNat) []).drop 2 = enc_si ((gt (v5.set (0 + v4.toNat) (x6, (gt v5 v4).2)) v4).1, IntKind.wrap .i64 (v3 + 1)))) ∧ True) (by kernel_rfl) ⟨g3, ⟨(congrArg (fun z : List Value => z.take 1 ++ [(.int .i64 (IntKind.wrap .i64 (v3 + 1)))] ++ z.drop 2) (idx_arr (enc := enc_si) (set_can (enc := enc_si) rfl (0 + v4.toNat) (x6, (gt v5 v4).2)) (idx_len (set_len ((rfl : v5.length = v5.length)) (0 + v4.toNat) (x6, (gt v5 v4).2)) g3))), trivial⟩⟩ trivial ?_
      refine AX.reg (its := [.auto {}, .auto { raw := true }]) [0, 1, 5] [0] (s1 := ⟨[(0, .sl 0 0 v5.length), (1, .v (.int .i64 (IntKind.wrap .i64 ((IntKind.wrap .i64 (v3 + 1)) + 1)))), (5, .v (.int .i64 v4))], [(0, .arr 2 (((List.map enc_si v5).set (0 + v4.toNat) (enc_si (x6, (gt v5 v4).2))).set (0 + v4.toNat) (enc_si ((gt (v5.set (0 + v4.toNat) (x6, (gt v5 v4).2)) v4).1, IntKind.wrap .i64 (v3 + 1)))))]⟩) (C := True) (by kernel_rfl) trivial trivial ?_
      refine AX.reg (its := [.auto {}, .auto { raw := true }]) [0, 1, 5] [0] (s1 := ⟨[(0, .sl 0 0 v5.length), (1, .v (.int .i64 (IntKind.wrap .i64 ((IntKind.wrap .i64 (v3 + 1)) + 1)))), (5, .v (.int .i64 (IntKind.wrap .i64 (v4 + 1))))], [(0, .arr 2 (((List.map enc_si v5).set (0 + v4.toNat) (enc_si (x6, (gt v5 v4).2))).set (0 + v4.toNat) (enc_si ((gt (v5.set (0 + v4.toNat) (x6, (gt v5 v4).2)) v4).1, IntKind.wrap .i64 (v3 + 1)))))]⟩) (C := True) (by kernel_rfl) trivial trivial ?_
      refine ⟨(fu, (IntKind.wrap .i64 ((IntKind.wrap .i64 (v3 + 1)) + 1), IntKind.wrap .i64 (v4 + 1), (v5.set (0 + v4.toNat) (x6, (gt v5 v4).2)).set (0 + v4.toNat) ((gt (v5.set (0 + v4.toNat) (x6, (gt v5 v4).2)) v4).1, IntKind.wrap .i64 (v3 + 1)))), h, Nat.lt_succ_self _, ?_⟩
      refine Wk.trans (Wk.forget [0, 1, 5] [0] (s' := ⟨[(0, .sl 0 0 v5.length), (1, .v (.int .i64 (IntKind.wrap .i64 ((IntKind.wrap .i64 (v3 + 1)) + 1)))), (5, .v (.int .i64 (IntKind.wrap .i64 (v4 + 1))))], [(0, .arr 2 (((List.map enc_si v5).set (0 + v4.toNat) (enc_si (x6, (gt v5 v4).2))).set (0 + v4.toNat) (enc_si ((gt (v5.set (0 + v4.toNat) (x6, (gt v5 v4).2)) v4).1, IntKind.wrap .i64 (v3 + 1)))))]⟩) (by kernel_rfl)) ?_
      refine Wk.trans (Wk.of_eq (congrArg (fun z => (⟨[(0, .sl 0 0 v5.length), (1, .v (.int .i64 (IntKind.wrap .i64 ((IntKind.wrap .i64 (v3 + 1)) + 1)))), (5, .v (.int .i64 (IntKind.wrap .i64 (v4 + 1))))], [(0, .arr 2 (z))]⟩ : S)) (set_can (enc := enc_si) (set_can (enc := enc_si) rfl (0 + v4.toNat) (x6, (gt v5 v4).2)) (0 + v4.toNat) ((gt (v5.set (0 + v4.toNat) (x6, (gt v5 v4).2)) v4).1, IntKind.wrap .i64 (v3 + 1))))) ?_
      refine Wk.trans (Wk.of_eq (congrArg (fun z => (⟨[(0, .sl 0 0 z), (1, .v (.int .i64 (IntKind.wrap .i64 ((IntKind.wrap .i64 (v3 + 1)) + 1)))), (5, .v (.int .i64 (IntKind.wrap .i64 (v4 + 1))))], [(0, .arr 2 (List.map enc_si ((v5.set (0 + v4.toNat) (x6, (gt v5 v4).2)).set (0 + v4.toNat) ((gt (v5.set (0 + v4.toNat) (x6, (gt v5 v4).2)) v4).1, IntKind.wrap .i64 (v3 + 1)))))]⟩ : S)) (set_len ((set_len ((rfl : v5.length = v5.length)) (0 + v4.toNat) (x6, (gt v5 v4).2) : v5.length = (v5.set (0 + v4.toNat) (x6, (gt v5 v4).2)).length)) (0 + v4.toNat) ((gt (v5.set (0 + v4.toNat) (x6, (gt v5 v4).2)) v4).1, IntKind.wrap .i64 (v3 + 1))))) ?_
      exact Wk.refl _
    · replace h := cd_f b1 h
      refine AX.condF (decide (v4 < (v5.length : Int))) (by kernel_rfl) b1 ?_
      refine AX.exit ?_
      refine fin_wk (Wk.forget [1] [0] (s' := ⟨[(1, .v (.int .i64 v3))], [(0, .arr 2 (List.map enc_si v5))]⟩) (by kernel_rfl)) ?_
      have hr := Option.some.inj h
      subst hr
      exact ⟨_, Wk.refl _, ⟨rfl, rfl⟩⟩

theorem s_laws_markDefS_h (p1 : Int) (p2 : List (ByteArray × Int)) (r : Int × (List (ByteArray × Int))) (h : m_laws_markDefS_h p1 p2 = some r) :
    Eng.Spec Try.prog 103 [.sl 0 0 p2.length, .v (.int .i64 p1)] [.arr 2 (List.map enc_si p2)] (.v (.int .i64 r.1)) [.arr 2 (List.map enc_si r.2)] := by
  unfold m_laws_markDefS_h at h
  refine Eng.Spec.body Try.func103 (by kernel_rfl) rfl (by kernel_rfl) ?_
  refine AX.wkpost ?_
  refine AX.seq ?_
  refine AX.reg (its := []) [0, 1] [0] (s1 := ⟨[(0, .sl 0 0 p2.length), (1, .v (.int .i64 p1))], [(0, .arr 2 (List.map enc_si p2))]⟩) (C := True) (by kernel_rfl) trivial trivial ?_
  refine AX.seq ?_
  refine AX.seq ?_
  refine AX.reg (its := []) [0, 1, 5] [0] (s1 := ⟨[(0, .sl 0 0 p2.length), (1, .v (.int .i64 p1)), (5, .v (.int .i64 0))], [(0, .arr 2 (List.map enc_si p2))]⟩) (C := True) (by kernel_rfl) trivial trivial ?_
  refine AX.block ?_
  obtain ⟨x7, e4, h⟩ := bd_e h
  refine AX.wk (Wk.forget [0, 1, 5] [0] (s' := ⟨[(0, .sl 0 0 p2.length), (1, .v (.int .i64 p1)), (5, .v (.int .i64 0))], [(0, .arr 2 (List.map enc_si p2))]⟩) (by kernel_rfl)) ?_
  refine AX.mono (s_laws_markDefS_h_L1  FU (p1, 0, p2) x7 e4) ?_
  rintro _ _ ⟨rfl, rfl⟩
  skip
  refine AX.seq ?_
  refine AX.reg (its := []) [4] [0] (s1 := ⟨[(4, .v (.int .i64 x7.1))], [(0, .arr 2 (List.map enc_si x7.2))]⟩) (C := True) (by kernel_rfl) trivial trivial ?_
  refine AX.ret ?_
  refine fin_wk (Wk.forget [4] [0] (s' := ⟨[(4, .v (.int .i64 x7.1))], [(0, .arr 2 (List.map enc_si x7.2))]⟩) (by kernel_rfl)) ?_
  have hr := Option.some.inj h
  subst hr
  exact ⟨_, Wk.refl _, .inr rfl, ⟨[], by kernel_rfl, ⟨rfl, trivial⟩, [.v (.int .i64 x7.1)], by kernel_rfl, by kernel_rfl⟩⟩

theorem s_laws_markFlag_h (p1 : Int) (p2 : Int) (p3 : List (ByteArray × Int)) (r : Int × (List (ByteArray × Int))) (h : m_laws_markFlag_h p1 p2 p3 = some r) :
    Eng.Spec Try.prog 28 [.agg [.sl 0 0 p3.length, .v (.int .i64 p1)], .v (.int .i64 p2)] [.arr 2 (List.map enc_si p3)] (.v (.int .i64 r.1)) [.arr 2 (List.map enc_si r.2)] := by
  unfold m_laws_markFlag_h at h
  refine Eng.Spec.body Try.func28 (by kernel_rfl) rfl (by kernel_rfl) ?_
  refine AX.wkpost ?_
  refine AX.seq ?_
  refine AX.reg (its := [.auto { nk := 1 }]) [1, 2] [0, 1] (s1 := ⟨[(1, .v (.int .i64 p2)), (2, .pt 1 0)], [(0, .arr 2 (List.map enc_si p3)), (1, .box [.sl 0 0 p3.length, .v (.int .i64 p1)])]⟩) (C := True) (by kernel_rfl) trivial trivial ?_
  refine AX.seq ?_
  obtain ⟨x4, e1, h⟩ := bd_e h
  obtain ⟨g2, h⟩ := gd_e h
  refine AX.reg (its := [.auto {}, .auto {}, .auto {}, .call 103 [.sl 0 0 p3.length, .v (.int .i64 p2)] (handO (rho ([0] ++ [])) [0] [.arr 2 (List.map enc_si p3)] ++ []) (callEv [0] [] (.v (.int .i64 x4.1)) [.arr 2 (List.map enc_si x4.2)])]) [1] [0] (s1 := ⟨[(1, .v (.int .i64 x4.1))], [(0, .arr 2 (List.map enc_si x4.2))]⟩) (C := ((([.sl 0 0 p3.length, .v (.int .i64 p2)] : List AV) = [.sl 0 0 p3.length, .v (.int .i64 p2)]) ∧ (AO.arr 2 (List.map enc_si p3) = AO.arr 2 (List.map enc_si p3)) ∧ True) ∧ True) (by kernel_rfl) ⟨⟨rfl, rfl, trivial⟩, trivial⟩ ⟨call_ok (ks := [0]) (ns := []) (bor := []) (bobjs := []) (s_laws_markDefS_h p2 p3 x4 e1) (.cons (.c1 (.c0 (.same _ (by kernel_rfl) (by kernel_rfl)))) (.cons (.c1 (.c0 (.same _ (by kernel_rfl) (by kernel_rfl)))) (.nil))) (by kernel_rfl) ⟨.inr (arr_sh (enc := enc_si) g2), trivial⟩, trivial⟩ ?_
  refine AX.seq ?_
  refine AX.reg (its := []) [4] [0] (s1 := ⟨[(4, .v (.int .i64 x4.1))], [(0, .arr 2 (List.map enc_si x4.2))]⟩) (C := True) (by kernel_rfl) trivial trivial ?_
  refine AX.ret ?_
  refine fin_wk (Wk.forget [4] [0] (s' := ⟨[(4, .v (.int .i64 x4.1))], [(0, .arr 2 (List.map enc_si x4.2))]⟩) (by kernel_rfl)) ?_
  refine fin_wk (Wk.of_eq (congrArg (fun z => (⟨[(4, .v (.int .i64 x4.1))], [(0, .arr 2 (List.map enc_si x4.2))]⟩ : S)) (((rfl : p3.length = p3.length)).trans (g2).symm))) ?_
  have hr := Option.some.inj h
  subst hr
  exact ⟨_, Wk.refl _, .inr rfl, ⟨[], by kernel_rfl, ⟨rfl, trivial⟩, [.v (.int .i64 x4.1)], by kernel_rfl, by kernel_rfl⟩⟩

theorem s_laws_markIntS_h_L1  (n : Nat) (g : Int × Int × List (Int)) (out : Int × List (Int)) (h : m_laws_markIntS_h_L1 n g.1 g.2.1 g.2.2 = some out) :
    AX Try.prog 19 1 (codeAt [1, 0, 1, 1] (bodyOf Try.f29)) ((fun g : Int × Int × List (Int) => (⟨[(0, .sl 0 0 g.2.2.length), (1, .v (.int .i64 g.1)), (5, .v (.int .i64 g.2.1))], [(0, .arr 1 (List.map enc_i g.2.2))]⟩ : S)) g) (fun ex s => ex = .exit 0 ∧ s = (fun o : Int × List (Int) => (⟨[(1, .v (.int .i64 o.1))], [(0, .arr 1 (List.map enc_i o.2))]⟩ : S)) out) := by
  refine AX.wkpost ?_
  refine AX.loop (G := Nat × (Int × Int × List (Int))) (fun q => (fun g : Int × Int × List (Int) => (⟨[(0, .sl 0 0 g.2.2.length), (1, .v (.int .i64 g.1)), (5, .v (.int .i64 g.2.1))], [(0, .arr 1 (List.map enc_i g.2.2))]⟩ : S)) q.2) (fun q => m_laws_markIntS_h_L1 q.1 q.2.1 q.2.2.1 q.2.2.2 = some out) (fun q => q.1) (n, g) h (Wk.refl _) ?_
  clear h
  rintro ⟨fu, v3, v4, v5⟩ h
  cases fu with
  | zero => cases h
  | succ fu =>
    rw [m_laws_markIntS_h_L1] at h
    refine AX.seq ?_
    refine AX.seq ?_
    refine AX.reg (its := []) [0, 1, 5, 9] [0] (s1 := ⟨[(0, .sl 0 0 v5.length), (1, .v (.int .i64 v3)), (5, .v (.int .i64 v4)), (9, .v (.bool (decide (v4 < (v5.length : Int)))))], [(0, .arr 1 (List.map enc_i v5))]⟩) (C := True) (by kernel_rfl) trivial trivial ?_
    rcases bool_cases (decide (v4 < (v5.length : Int))) with b1 | b1
    · replace h := cd_t b1 h
      refine AX.condT (decide (v4 < (v5.length : Int))) (by kernel_rfl) b1 ?_
      refine AX.skip ?_
      refine AX.seq ?_
      refine AX.block ?_
      refine AX.seq ?_
      obtain ⟨g2, h⟩ := gd_e h
      refine AX.reg (its := []) [0, 1, 5] [0] (s1 := ⟨[(0, .sl 0 0 v5.length), (1, .v (.int .i64 v3)), (5, .v (.int .i64 v4))], [(0, .arr 1 ((List.map enc_i v5).set (0 + v4.toNat) [(.int .i64 v3)]))]⟩) (C := (0 ≤ v4 ∧ v4 < (v5.length : Int)) ∧ True) (by kernel_rfl) ⟨g2, trivial⟩ trivial ?_
      refine AX.reg (its := [.auto {}, .auto { raw := true }]) [0, 1, 5] [0] (s1 := ⟨[(0, .sl 0 0 v5.length), (1, .v (.int .i64 (IntKind.wrap .i64 (v3 + 1)))), (5, .v (.int .i64 v4))], [(0, .arr 1 ((List.map enc_i v5).set (0 + v4.toNat) [(.int .i64 v3)]))]⟩) (C := True) (by kernel_rfl) trivial trivial ?_
      refine AX.reg (its := [.auto {}, .auto { raw := true }]) [0, 1, 5] [0] (s1 := ⟨[(0, .sl 0 0 v5.length), (1, .v (.int .i64 (IntKind.wrap .i64 (v3 + 1)))), (5, .v (.int .i64 (IntKind.wrap .i64 (v4 + 1))))], [(0, .arr 1 ((List.map enc_i v5).set (0 + v4.toNat) [(.int .i64 v3)]))]⟩) (C := True) (by kernel_rfl) trivial trivial ?_
      refine ⟨(fu, (IntKind.wrap .i64 (v3 + 1), IntKind.wrap .i64 (v4 + 1), v5.set (0 + v4.toNat) v3)), h, Nat.lt_succ_self _, ?_⟩
      refine Wk.trans (Wk.forget [0, 1, 5] [0] (s' := ⟨[(0, .sl 0 0 v5.length), (1, .v (.int .i64 (IntKind.wrap .i64 (v3 + 1)))), (5, .v (.int .i64 (IntKind.wrap .i64 (v4 + 1))))], [(0, .arr 1 ((List.map enc_i v5).set (0 + v4.toNat) [(.int .i64 v3)]))]⟩) (by kernel_rfl)) ?_
      refine Wk.trans (Wk.of_eq (congrArg (fun z => (⟨[(0, .sl 0 0 v5.length), (1, .v (.int .i64 (IntKind.wrap .i64 (v3 + 1)))), (5, .v (.int .i64 (IntKind.wrap .i64 (v4 + 1))))], [(0, .arr 1 (z))]⟩ : S)) (set_can (enc := enc_i) rfl (0 + v4.toNat) v3))) ?_
      refine Wk.trans (Wk.of_eq (congrArg (fun z => (⟨[(0, .sl 0 0 z), (1, .v (.int .i64 (IntKind.wrap .i64 (v3 + 1)))), (5, .v (.int .i64 (IntKind.wrap .i64 (v4 + 1))))], [(0, .arr 1 (List.map enc_i (v5.set (0 + v4.toNat) v3)))]⟩ : S)) (set_len ((rfl : v5.length = v5.length)) (0 + v4.toNat) v3))) ?_
      exact Wk.refl _
    · replace h := cd_f b1 h
      refine AX.condF (decide (v4 < (v5.length : Int))) (by kernel_rfl) b1 ?_
      refine AX.exit ?_
      refine fin_wk (Wk.forget [1] [0] (s' := ⟨[(1, .v (.int .i64 v3))], [(0, .arr 1 (List.map enc_i v5))]⟩) (by kernel_rfl)) ?_
      have hr := Option.some.inj h
      subst hr
      exact ⟨_, Wk.refl _, ⟨rfl, rfl⟩⟩

theorem s_laws_markIntS_h (p1 : Int) (p2 : List (Int)) (r : Int × List (Int)) (h : m_laws_markIntS_h p1 p2 = some r) :
    Eng.Spec Try.prog 29 [.sl 0 0 p2.length, .v (.int .i64 p1)] [.arr 1 (List.map enc_i p2)] (.v (.int .i64 r.1)) [.arr 1 (List.map enc_i r.2)] := by
  unfold m_laws_markIntS_h at h
  refine Eng.Spec.body Try.func29 (by kernel_rfl) rfl (by kernel_rfl) ?_
  refine AX.wkpost ?_
  refine AX.seq ?_
  refine AX.reg (its := []) [0, 1] [0] (s1 := ⟨[(0, .sl 0 0 p2.length), (1, .v (.int .i64 p1))], [(0, .arr 1 (List.map enc_i p2))]⟩) (C := True) (by kernel_rfl) trivial trivial ?_
  refine AX.seq ?_
  refine AX.seq ?_
  refine AX.reg (its := []) [0, 1, 5] [0] (s1 := ⟨[(0, .sl 0 0 p2.length), (1, .v (.int .i64 p1)), (5, .v (.int .i64 0))], [(0, .arr 1 (List.map enc_i p2))]⟩) (C := True) (by kernel_rfl) trivial trivial ?_
  refine AX.block ?_
  obtain ⟨x6, e3, h⟩ := bd_e h
  refine AX.wk (Wk.forget [0, 1, 5] [0] (s' := ⟨[(0, .sl 0 0 p2.length), (1, .v (.int .i64 p1)), (5, .v (.int .i64 0))], [(0, .arr 1 (List.map enc_i p2))]⟩) (by kernel_rfl)) ?_
  refine AX.mono (s_laws_markIntS_h_L1  FU (p1, 0, p2) x6 e3) ?_
  rintro _ _ ⟨rfl, rfl⟩
  skip
  refine AX.seq ?_
  refine AX.reg (its := []) [4] [0] (s1 := ⟨[(4, .v (.int .i64 x6.1))], [(0, .arr 1 (List.map enc_i x6.2))]⟩) (C := True) (by kernel_rfl) trivial trivial ?_
  refine AX.ret ?_
  refine fin_wk (Wk.forget [4] [0] (s' := ⟨[(4, .v (.int .i64 x6.1))], [(0, .arr 1 (List.map enc_i x6.2))]⟩) (by kernel_rfl)) ?_
  have hr := Option.some.inj h
  subst hr
  exact ⟨_, Wk.refl _, .inr rfl, ⟨[], by kernel_rfl, ⟨rfl, trivial⟩, [.v (.int .i64 x6.1)], by kernel_rfl, by kernel_rfl⟩⟩

theorem s_laws_markArmS_h_L1  (n : Nat) (g : Int × Int × (List (Int × Int))) (out : Int × (List (Int × Int))) (h : m_laws_markArmS_h_L1 n g.1 g.2.1 g.2.2 = some out) :
    AX Try.prog 27 1 (codeAt [1, 0, 1, 1] (bodyOf Try.f30)) ((fun g : Int × Int × (List (Int × Int)) => (⟨[(0, .sl 0 0 g.2.2.length), (1, .v (.int .i64 g.1)), (5, .v (.int .i64 g.2.1))], [(0, .arr 2 (List.map enc_ii g.2.2))]⟩ : S)) g) (fun ex s => ex = .exit 0 ∧ s = (fun o : Int × (List (Int × Int)) => (⟨[(1, .v (.int .i64 o.1))], [(0, .arr 2 (List.map enc_ii o.2))]⟩ : S)) out) := by
  refine AX.wkpost ?_
  refine AX.loop (G := Nat × (Int × Int × (List (Int × Int)))) (fun q => (fun g : Int × Int × (List (Int × Int)) => (⟨[(0, .sl 0 0 g.2.2.length), (1, .v (.int .i64 g.1)), (5, .v (.int .i64 g.2.1))], [(0, .arr 2 (List.map enc_ii g.2.2))]⟩ : S)) q.2) (fun q => m_laws_markArmS_h_L1 q.1 q.2.1 q.2.2.1 q.2.2.2 = some out) (fun q => q.1) (n, g) h (Wk.refl _) ?_
  clear h
  rintro ⟨fu, v3, v4, v5⟩ h
  cases fu with
  | zero => cases h
  | succ fu =>
    rw [m_laws_markArmS_h_L1] at h
    refine AX.seq ?_
    refine AX.seq ?_
    refine AX.reg (its := []) [0, 1, 5, 9] [0] (s1 := ⟨[(0, .sl 0 0 v5.length), (1, .v (.int .i64 v3)), (5, .v (.int .i64 v4)), (9, .v (.bool (decide (v4 < (v5.length : Int)))))], [(0, .arr 2 (List.map enc_ii v5))]⟩) (C := True) (by kernel_rfl) trivial trivial ?_
    rcases bool_cases (decide (v4 < (v5.length : Int))) with b1 | b1
    · replace h := cd_t b1 h
      refine AX.condT (decide (v4 < (v5.length : Int))) (by kernel_rfl) b1 ?_
      refine AX.skip ?_
      refine AX.seq ?_
      refine AX.block ?_
      refine AX.seq ?_
      obtain ⟨g2, h⟩ := gd_e h
      refine AX.reg (its := [.auto {}, .auto {}, .auto {}, .auto {}, .auto {}, .auto { els := some ([enc_ii (v3, (gt v5 v4).2)]) }]) [0, 1, 5] [0] (s1 := ⟨[(0, .sl 0 0 v5.length), (1, .v (.int .i64 v3)), (5, .v (.int .i64 v4))], [(0, .arr 2 ((List.map enc_ii v5).set (0 + v4.toNat) (enc_ii (v3, (gt v5 v4).2))))]⟩) (C := (0 ≤ v4 ∧ v4 < (v5.length : Int)) ∧ ((((List.map enc_ii v5).getD (0 + v4.toNat) []).take 0 ++ [(.int .i64 v3)] ++ ((List.map enc_ii v5).getD (0 + v4.toNat) []).drop 1 = enc_ii (v3, (gt v5 v4).2))) ∧ True) (by kernel_rfl) ⟨g2, ⟨(congrArg (fun z : List Value => z.take 0 ++ [(.int .i64 v3)] ++ z.drop 1) (idx_arr (enc := enc_ii) rfl g2)), trivial⟩⟩ trivial ?_
      refine AX.seq ?_
      refine AX.reg (its := [.auto {}, .auto { raw := true }]) [0, 1, 5] [0] (s1 := ⟨[(0, .sl 0 0 v5.length), (1, .v (.int .i64 (IntKind.wrap .i64 (v3 + 1)))), (5, .v (.int .i64 v4))], [(0, .arr 2 ((List.map enc_ii v5).set (0 + v4.toNat) (enc_ii (v3, (gt v5 v4).2))))]⟩) (C := True) (by kernel_rfl) trivial trivial ?_
      refine AX.seq ?_
      refine AX.reg (its := [.auto {}, .auto {}, .auto {}, .auto {}, .auto {}, .auto { els := some ([enc_ii ((gt (v5.set (0 + v4.toNat) (v3, (gt v5 v4).2)) v4).1, IntKind.wrap .i64 (v3 + 1))]) }]) [0, 1, 5] [0] (s1 := ⟨[(0, .sl 0 0 v5.length), (1, .v (.int .i64 (IntKind.wrap .i64 (v3 + 1)))), (5, .v (.int .i64 v4))], [(0, .arr 2 (((List.map enc_ii v5).set (0 + v4.toNat) (enc_ii (v3, (gt v5 v4).2))).set (0 + v4.toNat) (enc_ii ((gt (v5.set (0 + v4.toNat) (v3, (gt v5 v4).2)) v4).1, IntKind.wrap .i64 (v3 + 1)))))]⟩) (C := (0 ≤ v4 ∧ v4 < (v5.length : Int)) ∧ (((((List.map enc_ii v5).set (0 + v4.toNat) (enc_ii (v3, (gt v5 v4).2))).getD (0 + v4.toNat) []).take 1 ++ [(.int .i64 (IntKind.wrap .i64 (v3 + 1)))] ++ (((List.map enc_ii v5).set (0 + v4.toNat) (enc_ii (v3, (gt v5 v4).2))).getD (0 + v4.toNat) []).drop 2 = enc_ii ((gt (v5.set (0 + v4.toNat) (v3, (gt v5 v4).2)) v4).1, IntKind.wrap .i64 (v3 + 1)))) ∧ True) (by kernel_rfl) ⟨g2, ⟨(congrArg (fun z : List Value => z.take 1 ++ [(.int .i64 (IntKind.wrap .i64 (v3 + 1)))] ++ z.drop 2) (idx_arr (enc := enc_ii) (set_can (enc := enc_ii) rfl (0 + v4.toNat) (v3, (gt v5 v4).2)) (idx_len (set_len ((rfl : v5.length = v5.length)) (0 + v4.toNat) (v3, (gt v5 v4).2)) g2))), trivial⟩⟩ trivial ?_
      refine AX.reg (its := [.auto {}, .auto { raw := true }]) [0, 1, 5] [0] (s1 := ⟨[(0, .sl 0 0 v5.length), (1, .v (.int .i64 (IntKind.wrap .i64 ((IntKind.wrap .i64 (v3 + 1)) + 1)))), (5, .v (.int .i64 v4))], [(0, .arr 2 (((List.map enc_ii v5).set (0 + v4.toNat) (enc_ii (v3, (gt v5 v4).2))).set (0 + v4.toNat) (enc_ii ((gt (v5.set (0 + v4.toNat) (v3, (gt v5 v4).2)) v4).1, IntKind.wrap .i64 (v3 + 1)))))]⟩) (C := True) (by kernel_rfl) trivial trivial ?_
      refine AX.reg (its := [.auto {}, .auto { raw := true }]) [0, 1, 5] [0] (s1 := ⟨[(0, .sl 0 0 v5.length), (1, .v (.int .i64 (IntKind.wrap .i64 ((IntKind.wrap .i64 (v3 + 1)) + 1)))), (5, .v (.int .i64 (IntKind.wrap .i64 (v4 + 1))))], [(0, .arr 2 (((List.map enc_ii v5).set (0 + v4.toNat) (enc_ii (v3, (gt v5 v4).2))).set (0 + v4.toNat) (enc_ii ((gt (v5.set (0 + v4.toNat) (v3, (gt v5 v4).2)) v4).1, IntKind.wrap .i64 (v3 + 1)))))]⟩) (C := True) (by kernel_rfl) trivial trivial ?_
      refine ⟨(fu, (IntKind.wrap .i64 ((IntKind.wrap .i64 (v3 + 1)) + 1), IntKind.wrap .i64 (v4 + 1), (v5.set (0 + v4.toNat) (v3, (gt v5 v4).2)).set (0 + v4.toNat) ((gt (v5.set (0 + v4.toNat) (v3, (gt v5 v4).2)) v4).1, IntKind.wrap .i64 (v3 + 1)))), h, Nat.lt_succ_self _, ?_⟩
      refine Wk.trans (Wk.forget [0, 1, 5] [0] (s' := ⟨[(0, .sl 0 0 v5.length), (1, .v (.int .i64 (IntKind.wrap .i64 ((IntKind.wrap .i64 (v3 + 1)) + 1)))), (5, .v (.int .i64 (IntKind.wrap .i64 (v4 + 1))))], [(0, .arr 2 (((List.map enc_ii v5).set (0 + v4.toNat) (enc_ii (v3, (gt v5 v4).2))).set (0 + v4.toNat) (enc_ii ((gt (v5.set (0 + v4.toNat) (v3, (gt v5 v4).2)) v4).1, IntKind.wrap .i64 (v3 + 1)))))]⟩) (by kernel_rfl)) ?_
      refine Wk.trans (Wk.of_eq (congrArg (fun z => (⟨[(0, .sl 0 0 v5.length), (1, .v (.int .i64 (IntKind.wrap .i64 ((IntKind.wrap .i64 (v3 + 1)) + 1)))), (5, .v (.int .i64 (IntKind.wrap .i64 (v4 + 1))))], [(0, .arr 2 (z))]⟩ : S)) (set_can (enc := enc_ii) (set_can (enc := enc_ii) rfl (0 + v4.toNat) (v3, (gt v5 v4).2)) (0 + v4.toNat) ((gt (v5.set (0 + v4.toNat) (v3, (gt v5 v4).2)) v4).1, IntKind.wrap .i64 (v3 + 1))))) ?_
      refine Wk.trans (Wk.of_eq (congrArg (fun z => (⟨[(0, .sl 0 0 z), (1, .v (.int .i64 (IntKind.wrap .i64 ((IntKind.wrap .i64 (v3 + 1)) + 1)))), (5, .v (.int .i64 (IntKind.wrap .i64 (v4 + 1))))], [(0, .arr 2 (List.map enc_ii ((v5.set (0 + v4.toNat) (v3, (gt v5 v4).2)).set (0 + v4.toNat) ((gt (v5.set (0 + v4.toNat) (v3, (gt v5 v4).2)) v4).1, IntKind.wrap .i64 (v3 + 1)))))]⟩ : S)) (set_len ((set_len ((rfl : v5.length = v5.length)) (0 + v4.toNat) (v3, (gt v5 v4).2) : v5.length = (v5.set (0 + v4.toNat) (v3, (gt v5 v4).2)).length)) (0 + v4.toNat) ((gt (v5.set (0 + v4.toNat) (v3, (gt v5 v4).2)) v4).1, IntKind.wrap .i64 (v3 + 1))))) ?_
      exact Wk.refl _
    · replace h := cd_f b1 h
      refine AX.condF (decide (v4 < (v5.length : Int))) (by kernel_rfl) b1 ?_
      refine AX.exit ?_
      refine fin_wk (Wk.forget [1] [0] (s' := ⟨[(1, .v (.int .i64 v3))], [(0, .arr 2 (List.map enc_ii v5))]⟩) (by kernel_rfl)) ?_
      have hr := Option.some.inj h
      subst hr
      exact ⟨_, Wk.refl _, ⟨rfl, rfl⟩⟩

theorem s_laws_markArmS_h (p1 : Int) (p2 : List (Int × Int)) (r : Int × (List (Int × Int))) (h : m_laws_markArmS_h p1 p2 = some r) :
    Eng.Spec Try.prog 30 [.sl 0 0 p2.length, .v (.int .i64 p1)] [.arr 2 (List.map enc_ii p2)] (.v (.int .i64 r.1)) [.arr 2 (List.map enc_ii r.2)] := by
  unfold m_laws_markArmS_h at h
  refine Eng.Spec.body Try.func30 (by kernel_rfl) rfl (by kernel_rfl) ?_
  refine AX.wkpost ?_
  refine AX.seq ?_
  refine AX.reg (its := []) [0, 1] [0] (s1 := ⟨[(0, .sl 0 0 p2.length), (1, .v (.int .i64 p1))], [(0, .arr 2 (List.map enc_ii p2))]⟩) (C := True) (by kernel_rfl) trivial trivial ?_
  refine AX.seq ?_
  refine AX.seq ?_
  refine AX.reg (its := []) [0, 1, 5] [0] (s1 := ⟨[(0, .sl 0 0 p2.length), (1, .v (.int .i64 p1)), (5, .v (.int .i64 0))], [(0, .arr 2 (List.map enc_ii p2))]⟩) (C := True) (by kernel_rfl) trivial trivial ?_
  refine AX.block ?_
  obtain ⟨x6, e3, h⟩ := bd_e h
  refine AX.wk (Wk.forget [0, 1, 5] [0] (s' := ⟨[(0, .sl 0 0 p2.length), (1, .v (.int .i64 p1)), (5, .v (.int .i64 0))], [(0, .arr 2 (List.map enc_ii p2))]⟩) (by kernel_rfl)) ?_
  refine AX.mono (s_laws_markArmS_h_L1  FU (p1, 0, p2) x6 e3) ?_
  rintro _ _ ⟨rfl, rfl⟩
  skip
  refine AX.seq ?_
  refine AX.reg (its := []) [4] [0] (s1 := ⟨[(4, .v (.int .i64 x6.1))], [(0, .arr 2 (List.map enc_ii x6.2))]⟩) (C := True) (by kernel_rfl) trivial trivial ?_
  refine AX.ret ?_
  refine fin_wk (Wk.forget [4] [0] (s' := ⟨[(4, .v (.int .i64 x6.1))], [(0, .arr 2 (List.map enc_ii x6.2))]⟩) (by kernel_rfl)) ?_
  have hr := Option.some.inj h
  subst hr
  exact ⟨_, Wk.refl _, .inr rfl, ⟨[], by kernel_rfl, ⟨rfl, trivial⟩, [.v (.int .i64 x6.1)], by kernel_rfl, by kernel_rfl⟩⟩

theorem s_laws_heldArmS_L1 (p1 : List (Int × Int)) (n : Nat) (g : Int × Int) (out : Unit ⊕ Int) (h : m_laws_heldArmS_L1 p1 n g.1 g.2 = some out) :
    AX Try.prog 31 0 (codeAt [1, 0, 1, 1] (bodyOf Try.f31)) ((fun g : Int × Int => (⟨[(0, .bs false 2 (List.map enc_ii p1)), (1, .v (.int .i64 g.1)), (5, .v (.int .i64 g.2))], []⟩ : S)) g) (fun ex s => (∃ o : Unit, out = Sum.inl o ∧ ex = .ret ∧ s = ⟨[(4, .v (.int .i64 (-1)))], []⟩) ∨ (∃ o : Int, out = Sum.inr o ∧ ex = .exit 0 ∧ s = ⟨[(1, .v (.int .i64 o))], []⟩)) := by
  refine AX.wkpost ?_
  refine AX.loop (G := Nat × (Int × Int)) (fun q => (fun g : Int × Int => (⟨[(0, .bs false 2 (List.map enc_ii p1)), (1, .v (.int .i64 g.1)), (5, .v (.int .i64 g.2))], []⟩ : S)) q.2) (fun q => m_laws_heldArmS_L1 p1 q.1 q.2.1 q.2.2 = some out) (fun q => q.1) (n, g) h (Wk.refl _) ?_
  clear h
  rintro ⟨fu, v3, v4⟩ h
  cases fu with
  | zero => cases h
  | succ fu =>
    rw [m_laws_heldArmS_L1] at h
    refine AX.seq ?_
    refine AX.seq ?_
    refine AX.reg (its := [.auto {}, .auto {}, .auto { y := some (.v (.int .i64 (p1.length : Int))) }]) [0, 1, 5, 9] [] (s1 := ⟨[(0, .bs false 2 (List.map enc_ii p1)), (1, .v (.int .i64 v3)), (5, .v (.int .i64 v4)), (9, .v (.bool (decide (v4 < (p1.length : Int)))))], []⟩) (C := (True ∧ (AV.v (.int .i64 ((List.map enc_ii p1).length : Int)) = AV.v (.int .i64 (p1.length : Int)))) ∧ True) (by kernel_rfl) ⟨⟨trivial, len_map enc_ii p1⟩, trivial⟩ trivial ?_
    rcases bool_cases (decide (v4 < (p1.length : Int))) with b1 | b1
    · replace h := cd_t b1 h
      refine AX.condT (decide (v4 < (p1.length : Int))) (by kernel_rfl) b1 ?_
      refine AX.skip ?_
      refine AX.seq ?_
      refine AX.block ?_
      refine AX.seq ?_
      refine AX.seq ?_
      obtain ⟨g2, h⟩ := gd_e h
      refine AX.reg (its := [.auto {}, .auto {}, .auto { y := some (.be 2 (enc_ii (gt p1 v4)) 0) }]) [0, 1, 5, 18] [] (s1 := ⟨[(0, .bs false 2 (List.map enc_ii p1)), (1, .v (.int .i64 v3)), (5, .v (.int .i64 v4)), (18, .v (.bool (!decide (((gt p1 v4).1) = v3))))], []⟩) (C := ((0 ≤ v4 ∧ v4 < ((List.map enc_ii p1).length : Int)) ∧ (AV.be 2 ((List.map enc_ii p1).getD v4.toNat []) 0 = AV.be 2 (enc_ii (gt p1 v4)) 0)) ∧ True) (by kernel_rfl) ⟨idx_bs enc_ii p1 v4 2 g2, trivial⟩ trivial ?_
      rcases bool_cases ((!decide (((gt p1 v4).1) = v3))) with b3 | b3
      · replace h := cd_t b3 h
        refine AX.condT ((!decide (((gt p1 v4).1) = v3))) (by kernel_rfl) b3 ?_
        refine AX.seq ?_
        refine AX.reg (its := []) [4] [] (s1 := ⟨[(4, .v (.int .i64 (-1)))], []⟩) (C := True) (by kernel_rfl) trivial trivial ?_
        refine AX.ret ?_
        refine fin_wk (Wk.forget [4] [] (s' := ⟨[(4, .v (.int .i64 (-1)))], []⟩) (by kernel_rfl)) ?_
        have hr := Option.some.inj h
        subst hr
        exact ⟨_, Wk.refl _, .inl ⟨(), rfl, rfl, rfl⟩⟩
      · replace h := cd_f b3 h
        refine AX.condF ((!decide (((gt p1 v4).1) = v3))) (by kernel_rfl) b3 ?_
        refine AX.skip ?_
        refine AX.seq ?_
        refine AX.reg (its := [.auto {}, .auto { raw := true }]) [0, 1, 5] [] (s1 := ⟨[(0, .bs false 2 (List.map enc_ii p1)), (1, .v (.int .i64 (IntKind.wrap .i64 (v3 + 1)))), (5, .v (.int .i64 v4))], []⟩) (C := True) (by kernel_rfl) trivial trivial ?_
        refine AX.seq ?_
        refine AX.seq ?_
        refine AX.reg (its := [.auto {}, .auto {}, .auto { y := some (.be 2 (enc_ii (gt p1 v4)) 0) }]) [0, 1, 5, 27] [] (s1 := ⟨[(0, .bs false 2 (List.map enc_ii p1)), (1, .v (.int .i64 (IntKind.wrap .i64 (v3 + 1)))), (5, .v (.int .i64 v4)), (27, .v (.bool (!decide (((gt p1 v4).2) = (IntKind.wrap .i64 (v3 + 1))))))], []⟩) (C := ((0 ≤ v4 ∧ v4 < ((List.map enc_ii p1).length : Int)) ∧ (AV.be 2 ((List.map enc_ii p1).getD v4.toNat []) 0 = AV.be 2 (enc_ii (gt p1 v4)) 0)) ∧ True) (by kernel_rfl) ⟨idx_bs enc_ii p1 v4 2 g2, trivial⟩ trivial ?_
        rcases bool_cases ((!decide (((gt p1 v4).2) = (IntKind.wrap .i64 (v3 + 1))))) with b4 | b4
        · replace h := cd_t b4 h
          refine AX.condT ((!decide (((gt p1 v4).2) = (IntKind.wrap .i64 (v3 + 1))))) (by kernel_rfl) b4 ?_
          refine AX.seq ?_
          refine AX.reg (its := []) [4] [] (s1 := ⟨[(4, .v (.int .i64 (-1)))], []⟩) (C := True) (by kernel_rfl) trivial trivial ?_
          refine AX.ret ?_
          refine fin_wk (Wk.forget [4] [] (s' := ⟨[(4, .v (.int .i64 (-1)))], []⟩) (by kernel_rfl)) ?_
          have hr := Option.some.inj h
          subst hr
          exact ⟨_, Wk.refl _, .inl ⟨(), rfl, rfl, rfl⟩⟩
        · replace h := cd_f b4 h
          refine AX.condF ((!decide (((gt p1 v4).2) = (IntKind.wrap .i64 (v3 + 1))))) (by kernel_rfl) b4 ?_
          refine AX.skip ?_
          refine AX.reg (its := [.auto {}, .auto { raw := true }]) [0, 1, 5] [] (s1 := ⟨[(0, .bs false 2 (List.map enc_ii p1)), (1, .v (.int .i64 (IntKind.wrap .i64 ((IntKind.wrap .i64 (v3 + 1)) + 1)))), (5, .v (.int .i64 v4))], []⟩) (C := True) (by kernel_rfl) trivial trivial ?_
          refine AX.reg (its := [.auto {}, .auto { raw := true }]) [0, 1, 5] [] (s1 := ⟨[(0, .bs false 2 (List.map enc_ii p1)), (1, .v (.int .i64 (IntKind.wrap .i64 ((IntKind.wrap .i64 (v3 + 1)) + 1)))), (5, .v (.int .i64 (IntKind.wrap .i64 (v4 + 1))))], []⟩) (C := True) (by kernel_rfl) trivial trivial ?_
          refine ⟨(fu, (IntKind.wrap .i64 ((IntKind.wrap .i64 (v3 + 1)) + 1), IntKind.wrap .i64 (v4 + 1))), h, Nat.lt_succ_self _, ?_⟩
          refine Wk.trans (Wk.forget [0, 1, 5] [] (s' := ⟨[(0, .bs false 2 (List.map enc_ii p1)), (1, .v (.int .i64 (IntKind.wrap .i64 ((IntKind.wrap .i64 (v3 + 1)) + 1)))), (5, .v (.int .i64 (IntKind.wrap .i64 (v4 + 1))))], []⟩) (by kernel_rfl)) ?_
          exact Wk.refl _
    · replace h := cd_f b1 h
      refine AX.condF (decide (v4 < (p1.length : Int))) (by kernel_rfl) b1 ?_
      refine AX.exit ?_
      refine fin_wk (Wk.forget [1] [] (s' := ⟨[(1, .v (.int .i64 v3))], []⟩) (by kernel_rfl)) ?_
      have hr := Option.some.inj h
      subst hr
      exact ⟨_, Wk.refl _, .inr ⟨v3, rfl, rfl, rfl⟩⟩

theorem s_laws_heldArmS (p1 : List (Int × Int)) (p2 : Int) (r : Int) (h : m_laws_heldArmS p1 p2 = some r) :
    Eng.Spec Try.prog 31 [.bs false 2 (List.map enc_ii p1), .v (.int .i64 p2)] [] (.v (.int .i64 r)) [] := by
  unfold m_laws_heldArmS at h
  refine Eng.Spec.body Try.func31 (by kernel_rfl) rfl (by kernel_rfl) ?_
  refine AX.wkpost ?_
  refine AX.seq ?_
  refine AX.reg (its := []) [0, 1] [] (s1 := ⟨[(0, .bs false 2 (List.map enc_ii p1)), (1, .v (.int .i64 p2))], []⟩) (C := True) (by kernel_rfl) trivial trivial ?_
  refine AX.seq ?_
  refine AX.seq ?_
  refine AX.reg (its := []) [0, 1, 5] [] (s1 := ⟨[(0, .bs false 2 (List.map enc_ii p1)), (1, .v (.int .i64 p2)), (5, .v (.int .i64 0))], []⟩) (C := True) (by kernel_rfl) trivial trivial ?_
  refine AX.block ?_
  obtain ⟨x5, e5, h⟩ := bd_e h
  refine AX.wk (Wk.forget [0, 1, 5] [] (s' := ⟨[(0, .bs false 2 (List.map enc_ii p1)), (1, .v (.int .i64 p2)), (5, .v (.int .i64 0))], []⟩) (by kernel_rfl)) ?_
  refine AX.mono (s_laws_heldArmS_L1 p1 FU (p2, 0) x5 e5) ?_
  rintro _ _ (⟨x6, rfl, rfl, rfl⟩ | ⟨x7, rfl, rfl, rfl⟩)
  · replace h := sm_l h
    refine fin_wk (Wk.forget [4] [] (s' := ⟨[(4, .v (.int .i64 (-1)))], []⟩) (by kernel_rfl)) ?_
    have hr := Option.some.inj h
    subst hr
    exact ⟨_, Wk.refl _, .inr rfl, ⟨[], by kernel_rfl, trivial, [.v (.int .i64 (-1))], by kernel_rfl, by kernel_rfl⟩⟩
  · replace h := sm_r h
    refine AX.seq ?_
    refine AX.reg (its := []) [4] [] (s1 := ⟨[(4, .v (.int .i64 x7))], []⟩) (C := True) (by kernel_rfl) trivial trivial ?_
    refine AX.ret ?_
    refine fin_wk (Wk.forget [4] [] (s' := ⟨[(4, .v (.int .i64 x7))], []⟩) (by kernel_rfl)) ?_
    have hr := Option.some.inj h
    subst hr
    exact ⟨_, Wk.refl _, .inr rfl, ⟨[], by kernel_rfl, trivial, [.v (.int .i64 x7)], by kernel_rfl, by kernel_rfl⟩⟩

theorem s_laws_FnExactGreatestArms (p1 : List (ByteArray × Int)) (p2 : Int) (p3 : List (Int)) (r : Bool) (h : m_laws_FnExactGreatestArms p1 p2 p3 = some r) :
    Eng.Spec Try.prog 4 [.agg [.bs true 2 (List.map enc_si p1), .v (.int .i64 p2)], .bs true 1 (List.map enc_i p3)] [] (.v (.bool r)) [] := by
  unfold m_laws_FnExactGreatestArms at h
  refine Eng.Spec.body Try.func4 (by kernel_rfl) rfl (by kernel_rfl) ?_
  refine AX.wkpost ?_
  refine AX.seq ?_
  refine AX.reg (its := [.auto { nk := 0 }]) [1, 2] [0] (s1 := ⟨[(1, .bs true 1 (List.map enc_i p3)), (2, .pt 0 0)], [(0, .box [.bs true 2 (List.map enc_si p1), .v (.int .i64 p2)])]⟩) (C := True) (by kernel_rfl) trivial trivial ?_
  refine AX.seq ?_
  refine AX.seq ?_
  refine AX.reg (its := [.auto {}, .auto { y := some (.v (.int .i64 (p3.length : Int))) }]) [1, 2, 16] [0] (s1 := ⟨[(1, .bs true 1 (List.map enc_i p3)), (2, .pt 0 0), (16, .v (.bool (decide (1048576 < (p3.length : Int)))))], [(0, .box [.bs true 2 (List.map enc_si p1), .v (.int .i64 p2)])]⟩) (C := (True ∧ (AV.v (.int .i64 ((List.map enc_i p3).length : Int)) = AV.v (.int .i64 (p3.length : Int)))) ∧ True) (by kernel_rfl) ⟨⟨trivial, len_map enc_i p3⟩, trivial⟩ trivial ?_
  rcases bool_cases (decide (1048576 < (p3.length : Int))) with b1 | b1
  · replace h := cd_t b1 h
    refine AX.condT (decide (1048576 < (p3.length : Int))) (by kernel_rfl) b1 ?_
    refine AX.seq ?_
    refine AX.reg (its := []) [4] [] (s1 := ⟨[(4, .v (.bool true))], []⟩) (C := True) (by kernel_rfl) trivial trivial ?_
    refine AX.ret ?_
    refine fin_wk (Wk.forget [4] [] (s' := ⟨[(4, .v (.bool true))], []⟩) (by kernel_rfl)) ?_
    have hr := Option.some.inj h
    subst hr
    exact ⟨_, Wk.refl _, .inr rfl, ⟨[], by kernel_rfl, trivial, [.v (.bool true)], by kernel_rfl, by kernel_rfl⟩⟩
  · replace h := cd_f b1 h
    refine AX.condF (decide (1048576 < (p3.length : Int))) (by kernel_rfl) b1 ?_
    refine AX.skip ?_
    refine AX.seq ?_
    refine AX.reg (its := []) [1, 2, 5] [0] (s1 := ⟨[(1, .bs true 1 (List.map enc_i p3)), (2, .pt 0 0), (5, .v (.int .i64 1048576))], [(0, .box [.bs true 2 (List.map enc_si p1), .v (.int .i64 p2)])]⟩) (C := True) (by kernel_rfl) trivial trivial ?_
    refine AX.seq ?_
    obtain ⟨x4, e2, h⟩ := bd_e h
    refine AX.reg (its := [.auto {}, .auto {}, .call 22 [.agg [.bs true 2 (List.map enc_si p1), .v (.int .i64 p2)], .v (.int .i64 1048576)] (handO (rho ([] ++ [])) [] [] ++ []) (callEv [] [] (.v (.int .i64 x4)) [])]) [1, 2, 5] [0] (s1 := ⟨[(1, .bs true 1 (List.map enc_i p3)), (2, .pt 0 0), (5, .v (.int .i64 x4))], [(0, .box [.bs true 2 (List.map enc_si p1), .v (.int .i64 p2)])]⟩) (C := ((([.agg [.bs true 2 (List.map enc_si p1), .v (.int .i64 p2)], .v (.int .i64 1048576)] : List AV) = [.agg [.bs true 2 (List.map enc_si p1), .v (.int .i64 p2)], .v (.int .i64 1048576)]) ∧ True) ∧ True) (by kernel_rfl) ⟨⟨rfl, trivial⟩, trivial⟩ ⟨call_ok (ks := []) (ns := []) (bor := []) (bobjs := []) (s_laws_szFlag p1 p2 1048576 x4 e2) (.cons (.c1 (.agg (.cons (.same _ (by kernel_rfl) (by kernel_rfl)) (.cons (.same _ (by kernel_rfl) (by kernel_rfl)) (.nil))))) (.cons (.c1 (.c0 (.same _ (by kernel_rfl) (by kernel_rfl)))) (.nil))) (by kernel_rfl) trivial, trivial⟩ ?_
    refine AX.seq ?_
    refine AX.seq ?_
    refine AX.reg (its := []) [1, 2, 21] [0] (s1 := ⟨[(1, .bs true 1 (List.map enc_i p3)), (2, .pt 0 0), (21, .v (.bool (decide (x4 < 0))))], [(0, .box [.bs true 2 (List.map enc_si p1), .v (.int .i64 p2)])]⟩) (C := True) (by kernel_rfl) trivial trivial ?_
    rcases bool_cases (decide (x4 < 0)) with b3 | b3
    · replace h := cd_t b3 h
      refine AX.condT (decide (x4 < 0)) (by kernel_rfl) b3 ?_
      refine AX.seq ?_
      refine AX.reg (its := []) [4] [] (s1 := ⟨[(4, .v (.bool true))], []⟩) (C := True) (by kernel_rfl) trivial trivial ?_
      refine AX.ret ?_
      refine fin_wk (Wk.forget [4] [] (s' := ⟨[(4, .v (.bool true))], []⟩) (by kernel_rfl)) ?_
      have hr := Option.some.inj h
      subst hr
      exact ⟨_, Wk.refl _, .inr rfl, ⟨[], by kernel_rfl, trivial, [.v (.bool true)], by kernel_rfl, by kernel_rfl⟩⟩
    · replace h := cd_f b3 h
      refine AX.condF (decide (x4 < 0)) (by kernel_rfl) b3 ?_
      refine AX.skip ?_
      refine AX.seq ?_
      obtain ⟨x5, e4, h⟩ := bd_e h
      obtain ⟨x6, e5, h⟩ := bd_e h
      obtain ⟨x7, e6, h⟩ := bd_e h
      refine AX.reg (its := [.auto {}, .call 23 [.agg [.bs true 2 (List.map enc_si p1), .v (.int .i64 p2)]] (handO (rho ([] ++ [1])) [] [] ++ []) (callEv [] [1] (.agg [.sl 0 0 x5.length, .v (.int .i64 p2)]) [.arr 2 (List.map enc_si x5)]), .auto {}, .call 24 [.bs true 1 (List.map enc_i p3)] (handO (rho ([] ++ [2])) [] [] ++ []) (callEv [] [2] (.sl 0 0 x6.length) [.arr 1 (List.map enc_i x6)]), .call 16 [.agg [.sl 1 0 x5.length, .v (.int .i64 p2)], .sl 2 0 x6.length] (handO (rho ([] ++ [3])) [] [] ++ [(1, .arr 2 (List.map enc_si x5)), (2, .arr 1 (List.map enc_i x6))]) (callEv [] [3] (.sl 0 0 x7.length) [.arr 2 (List.map enc_ii x7)])]) [1, 2, 6] [0, 3] (s1 := ⟨[(1, .bs true 1 (List.map enc_i p3)), (2, .pt 0 0), (6, .sl 3 0 x7.length)], [(0, .box [.bs true 2 (List.map enc_si p1), .v (.int .i64 p2)]), (3, .arr 2 (List.map enc_ii x7))]⟩) (C := ((([.agg [.bs true 2 (List.map enc_si p1), .v (.int .i64 p2)]] : List AV) = [.agg [.bs true 2 (List.map enc_si p1), .v (.int .i64 p2)]]) ∧ True) ∧ ((([.bs true 1 (List.map enc_i p3)] : List AV) = [.bs true 1 (List.map enc_i p3)]) ∧ True) ∧ ((([.agg [.sl 1 0 x5.length, .v (.int .i64 p2)], .sl 2 0 x6.length] : List AV) = [.agg [.sl 1 0 x5.length, .v (.int .i64 p2)], .sl 2 0 x6.length]) ∧ (AO.arr 2 (List.map enc_si x5) = AO.arr 2 (List.map enc_si x5)) ∧ (AO.arr 1 (List.map enc_i x6) = AO.arr 1 (List.map enc_i x6)) ∧ True) ∧ True) (by kernel_rfl) ⟨⟨rfl, trivial⟩, ⟨⟨rfl, trivial⟩, ⟨⟨rfl, rfl, rfl, trivial⟩, trivial⟩⟩⟩ ⟨call_ok (ks := []) (ns := [1]) (bor := []) (bobjs := []) (s_laws_toFlag p1 p2 x5 e4) (.cons (.c1 (.agg (.cons (.same _ (by kernel_rfl) (by kernel_rfl)) (.cons (.same _ (by kernel_rfl) (by kernel_rfl)) (.nil))))) (.nil)) (by kernel_rfl) trivial, ⟨call_ok (ks := []) (ns := [2]) (bor := []) (bobjs := []) (s_laws_toIntS p3 x6 e5) (.cons (.c1 (.c0 (.same _ (by kernel_rfl) (by kernel_rfl)))) (.nil)) (by kernel_rfl) trivial, ⟨call_ok (ks := []) (ns := [3]) (bor := [1, 2]) (bobjs := [(1, .arr 2 (List.map enc_si x5)), (2, .arr 1 (List.map enc_i x6))]) (s_spec_GreatestArms x5 p2 x6 x7 e6) (.cons (.c1 (.agg (.cons (.arr rfl rfl ((rfl).trans (List.length_map ..).symm)) (.cons (.same _ (by kernel_rfl) (by kernel_rfl)) (.nil))))) (.cons (.c1 (.c0 (.arr rfl rfl ((rfl).trans (List.length_map ..).symm)))) (.nil))) (by kernel_rfl) trivial, trivial⟩⟩⟩ ?_
      refine AX.seq ?_
      obtain ⟨x8, e7, h⟩ := bd_e h
      refine AX.reg (its := [.auto {}, .call 23 [.agg [.bs true 2 (List.map enc_si p1), .v (.int .i64 p2)]] (handO (rho ([] ++ [4])) [] [] ++ []) (callEv [] [4] (.agg [.sl 0 0 x8.length, .v (.int .i64 p2)]) [.arr 2 (List.map enc_si x8)]), .auto { nk := 5 }]) [1, 2, 6, 7] [0, 3, 4, 5] (s1 := ⟨[(1, .bs true 1 (List.map enc_i p3)), (2, .pt 0 0), (6, .sl 3 0 x7.length), (7, .pt 5 0)], [(0, .box [.bs true 2 (List.map enc_si p1), .v (.int .i64 p2)]), (3, .arr 2 (List.map enc_ii x7)), (4, .arr 2 (List.map enc_si x8)), (5, .box [.sl 4 0 x8.length, .v (.int .i64 p2)])]⟩) (C := ((([.agg [.bs true 2 (List.map enc_si p1), .v (.int .i64 p2)]] : List AV) = [.agg [.bs true 2 (List.map enc_si p1), .v (.int .i64 p2)]]) ∧ True) ∧ True) (by kernel_rfl) ⟨⟨rfl, trivial⟩, trivial⟩ ⟨call_ok (ks := []) (ns := [4]) (bor := []) (bobjs := []) (s_laws_toFlag p1 p2 x8 e7) (.cons (.c1 (.agg (.cons (.same _ (by kernel_rfl) (by kernel_rfl)) (.cons (.same _ (by kernel_rfl) (by kernel_rfl)) (.nil))))) (.nil)) (by kernel_rfl) trivial, trivial⟩ ?_
      refine AX.seq ?_
      obtain ⟨x9, e8, h⟩ := bd_e h
      refine AX.reg (its := [.auto {}, .call 24 [.bs true 1 (List.map enc_i p3)] (handO (rho ([] ++ [6])) [] [] ++ []) (callEv [] [6] (.sl 0 0 x9.length) [.arr 1 (List.map enc_i x9)])]) [1, 2, 6, 7, 8] [0, 3, 4, 5, 6] (s1 := ⟨[(1, .bs true 1 (List.map enc_i p3)), (2, .pt 0 0), (6, .sl 3 0 x7.length), (7, .pt 5 0), (8, .sl 6 0 x9.length)], [(0, .box [.bs true 2 (List.map enc_si p1), .v (.int .i64 p2)]), (3, .arr 2 (List.map enc_ii x7)), (4, .arr 2 (List.map enc_si x8)), (5, .box [.sl 4 0 x8.length, .v (.int .i64 p2)]), (6, .arr 1 (List.map enc_i x9))]⟩) (C := ((([.bs true 1 (List.map enc_i p3)] : List AV) = [.bs true 1 (List.map enc_i p3)]) ∧ True) ∧ True) (by kernel_rfl) ⟨⟨rfl, trivial⟩, trivial⟩ ⟨call_ok (ks := []) (ns := [6]) (bor := []) (bobjs := []) (s_laws_toIntS p3 x9 e8) (.cons (.c1 (.c0 (.same _ (by kernel_rfl) (by kernel_rfl)))) (.nil)) (by kernel_rfl) trivial, trivial⟩ ?_
      refine AX.seq ?_
      obtain ⟨x10, e9, h⟩ := bd_e h
      refine AX.reg (its := [.auto {}, .auto {}, .call 14 [.agg [.sl 4 0 x8.length, .v (.int .i64 p2)], .sl 6 0 x9.length] (handO (rho ([] ++ [7])) [] [] ++ [(4, .arr 2 (List.map enc_si x8)), (6, .arr 1 (List.map enc_i x9))]) (callEv [] [7] (.sl 0 0 x10.length) [.arr 2 (List.map enc_ii x10)])]) [1, 2, 6, 7, 8, 9] [0, 3, 4, 5, 6, 7] (s1 := ⟨[(1, .bs true 1 (List.map enc_i p3)), (2, .pt 0 0), (6, .sl 3 0 x7.length), (7, .pt 5 0), (8, .sl 6 0 x9.length), (9, .sl 7 0 x10.length)], [(0, .box [.bs true 2 (List.map enc_si p1), .v (.int .i64 p2)]), (3, .arr 2 (List.map enc_ii x7)), (4, .arr 2 (List.map enc_si x8)), (5, .box [.sl 4 0 x8.length, .v (.int .i64 p2)]), (6, .arr 1 (List.map enc_i x9)), (7, .arr 2 (List.map enc_ii x10))]⟩) (C := ((([.agg [.sl 4 0 x8.length, .v (.int .i64 p2)], .sl 6 0 x9.length] : List AV) = [.agg [.sl 4 0 x8.length, .v (.int .i64 p2)], .sl 6 0 x9.length]) ∧ (AO.arr 2 (List.map enc_si x8) = AO.arr 2 (List.map enc_si x8)) ∧ (AO.arr 1 (List.map enc_i x9) = AO.arr 1 (List.map enc_i x9)) ∧ True) ∧ True) (by kernel_rfl) ⟨⟨rfl, rfl, rfl, trivial⟩, trivial⟩ ⟨call_ok (ks := []) (ns := [7]) (bor := [4, 6]) (bobjs := [(4, .arr 2 (List.map enc_si x8)), (6, .arr 1 (List.map enc_i x9))]) (s_impl_GreatestArms x8 p2 x9 x10 e9) (.cons (.c1 (.agg (.cons (.arr rfl rfl ((rfl).trans (List.length_map ..).symm)) (.cons (.same _ (by kernel_rfl) (by kernel_rfl)) (.nil))))) (.cons (.c1 (.c0 (.arr rfl rfl ((rfl).trans (List.length_map ..).symm)))) (.nil))) (by kernel_rfl) trivial, trivial⟩ ?_
      refine AX.seq ?_
      refine AX.seq ?_
      obtain ⟨x11, e10, h⟩ := bd_e h
      refine AX.reg (its := [.auto {}, .auto {}, .call 25 [.sl 7 0 x10.length, .sl 3 0 x7.length] (handO (rho ([] ++ [])) [] [] ++ [(7, .arr 2 (List.map enc_ii x10)), (3, .arr 2 (List.map enc_ii x7))]) (callEv [] [] (.v (.bool x11)) [])]) [1, 2, 6, 7, 8, 9, 37] [0, 3, 4, 5, 6, 7] (s1 := ⟨[(1, .bs true 1 (List.map enc_i p3)), (2, .pt 0 0), (6, .sl 3 0 x7.length), (7, .pt 5 0), (8, .sl 6 0 x9.length), (9, .sl 7 0 x10.length), (37, .v (.bool (!x11)))], [(0, .box [.bs true 2 (List.map enc_si p1), .v (.int .i64 p2)]), (3, .arr 2 (List.map enc_ii x7)), (4, .arr 2 (List.map enc_si x8)), (5, .box [.sl 4 0 x8.length, .v (.int .i64 p2)]), (6, .arr 1 (List.map enc_i x9)), (7, .arr 2 (List.map enc_ii x10))]⟩) (C := ((([.sl 7 0 x10.length, .sl 3 0 x7.length] : List AV) = [.sl 7 0 x10.length, .sl 3 0 x7.length]) ∧ (AO.arr 2 (List.map enc_ii x10) = AO.arr 2 (List.map enc_ii x10)) ∧ (AO.arr 2 (List.map enc_ii x7) = AO.arr 2 (List.map enc_ii x7)) ∧ True) ∧ True) (by kernel_rfl) ⟨⟨rfl, rfl, rfl, trivial⟩, trivial⟩ ⟨call_ok (ks := []) (ns := []) (bor := [7, 3]) (bobjs := [(7, .arr 2 (List.map enc_ii x10)), (3, .arr 2 (List.map enc_ii x7))]) (s_laws_eqArmS x10 x7 x11 e10) (.cons (.c1 (.c0 (.arr rfl rfl ((rfl).trans (List.length_map ..).symm)))) (.cons (.c1 (.c0 (.arr rfl rfl ((rfl).trans (List.length_map ..).symm)))) (.nil))) (by kernel_rfl) trivial, trivial⟩ ?_
      rcases bool_cases ((!x11)) with b11 | b11
      · replace h := cd_t b11 h
        refine AX.condT ((!x11)) (by kernel_rfl) b11 ?_
        refine AX.seq ?_
        refine AX.reg (its := []) [4] [] (s1 := ⟨[(4, .v (.bool false))], []⟩) (C := True) (by kernel_rfl) trivial trivial ?_
        refine AX.ret ?_
        refine fin_wk (Wk.forget [4] [] (s' := ⟨[(4, .v (.bool false))], []⟩) (by kernel_rfl)) ?_
        have hr := Option.some.inj h
        subst hr
        exact ⟨_, Wk.refl _, .inr rfl, ⟨[], by kernel_rfl, trivial, [.v (.bool false)], by kernel_rfl, by kernel_rfl⟩⟩
      · replace h := cd_f b11 h
        refine AX.condF ((!x11)) (by kernel_rfl) b11 ?_
        refine AX.skip ?_
        refine AX.seq ?_
        refine AX.seq ?_
        obtain ⟨x12, e12, h⟩ := bd_e h
        obtain ⟨x13, e13, h⟩ := bd_e h
        refine AX.drw mixed (its := [.auto {}, .auto {}, .call 23 [.agg [.bs true 2 (List.map enc_si p1), .v (.int .i64 p2)]] (handO (rho ([] ++ [8])) [] [] ++ []) (callEv [] [8] (.agg [.sl 0 0 x12.length, .v (.int .i64 p2)]) [.arr 2 (List.map enc_si x12)]), .call 26 [.agg [.sl 4 0 x8.length, .v (.int .i64 p2)], .agg [.sl 8 0 x12.length, .v (.int .i64 p2)]] (handO (rho ([] ++ [])) [] [] ++ [(4, .arr 2 (List.map enc_si x8)), (8, .arr 2 (List.map enc_si x12))]) (callEv [] [] (.v (.bool x13)) [])]) [1, 2, 6, 7, 8, 9, 42] [0, 3, 4, 5, 6, 7] (s1 := ⟨[(1, .bs true 1 (List.map enc_i p3)), (2, .pt 0 0), (6, .sl 3 0 x7.length), (7, .pt 5 0), (8, .sl 6 0 x9.length), (9, .sl 7 0 x10.length), (42, .v (.bool (!x13)))], [(0, .box [.bs true 2 (List.map enc_si p1), .v (.int .i64 p2)]), (3, .arr 2 (List.map enc_ii x7)), (4, .arr 2 (List.map enc_si x8)), (5, .box [.sl 4 0 x8.length, .v (.int .i64 p2)]), (6, .arr 1 (List.map enc_i x9)), (7, .arr 2 (List.map enc_ii x10))]⟩) (C := ((([.agg [.bs true 2 (List.map enc_si p1), .v (.int .i64 p2)]] : List AV) = [.agg [.bs true 2 (List.map enc_si p1), .v (.int .i64 p2)]]) ∧ True) ∧ ((([.agg [.sl 4 0 x8.length, .v (.int .i64 p2)], .agg [.sl 8 0 x12.length, .v (.int .i64 p2)]] : List AV) = [.agg [.sl 4 0 x8.length, .v (.int .i64 p2)], .agg [.sl 8 0 x12.length, .v (.int .i64 p2)]]) ∧ (AO.arr 2 (List.map enc_si x8) = AO.arr 2 (List.map enc_si x8)) ∧ (AO.arr 2 (List.map enc_si x12) = AO.arr 2 (List.map enc_si x12)) ∧ True) ∧ True) (by kernel_rfl) ⟨⟨rfl, trivial⟩, ⟨⟨rfl, rfl, rfl, trivial⟩, trivial⟩⟩ ⟨call_ok (ks := []) (ns := [8]) (bor := []) (bobjs := []) (s_laws_toFlag p1 p2 x12 e12) (.cons (.c1 (.agg (.cons (.same _ (by kernel_rfl) (by kernel_rfl)) (.cons (.same _ (by kernel_rfl) (by kernel_rfl)) (.nil))))) (.nil)) (by kernel_rfl) trivial, ⟨call_ok (ks := []) (ns := []) (bor := [4, 8]) (bobjs := [(4, .arr 2 (List.map enc_si x8)), (8, .arr 2 (List.map enc_si x12))]) (s_laws_eqFlag x8 p2 x12 p2 x13 e13) (.cons (.c1 (.agg (.cons (.arr rfl rfl ((rfl).trans (List.length_map ..).symm)) (.cons (.same _ (by kernel_rfl) (by kernel_rfl)) (.nil))))) (.cons (.c1 (.agg (.cons (.arr rfl rfl ((rfl).trans (List.length_map ..).symm)) (.cons (.same _ (by kernel_rfl) (by kernel_rfl)) (.nil))))) (.nil))) (by kernel_rfl) trivial, trivial⟩⟩ ?_
        rcases bool_cases ((!x13)) with b14 | b14
        · replace h := cd_t b14 h
          refine AX.condT ((!x13)) (by kernel_rfl) b14 ?_
          refine AX.seq ?_
          refine AX.reg (its := []) [4] [] (s1 := ⟨[(4, .v (.bool false))], []⟩) (C := True) (by kernel_rfl) trivial trivial ?_
          refine AX.ret ?_
          refine fin_wk (Wk.forget [4] [] (s' := ⟨[(4, .v (.bool false))], []⟩) (by kernel_rfl)) ?_
          have hr := Option.some.inj h
          subst hr
          exact ⟨_, Wk.refl _, .inr rfl, ⟨[], by kernel_rfl, trivial, [.v (.bool false)], by kernel_rfl, by kernel_rfl⟩⟩
        · replace h := cd_f b14 h
          refine AX.condF ((!x13)) (by kernel_rfl) b14 ?_
          refine AX.skip ?_
          refine AX.seq ?_
          refine AX.seq ?_
          obtain ⟨x14, e15, h⟩ := bd_e h
          obtain ⟨x15, e16, h⟩ := bd_e h
          refine AX.reg (its := [.auto {}, .auto {}, .call 24 [.bs true 1 (List.map enc_i p3)] (handO (rho ([] ++ [8])) [] [] ++ []) (callEv [] [8] (.sl 0 0 x14.length) [.arr 1 (List.map enc_i x14)]), .call 27 [.sl 6 0 x9.length, .sl 8 0 x14.length] (handO (rho ([] ++ [])) [] [] ++ [(6, .arr 1 (List.map enc_i x9)), (8, .arr 1 (List.map enc_i x14))]) (callEv [] [] (.v (.bool x15)) [])]) [1, 2, 6, 7, 8, 9, 47] [0, 3, 4, 5, 6, 7] (s1 := ⟨[(1, .bs true 1 (List.map enc_i p3)), (2, .pt 0 0), (6, .sl 3 0 x7.length), (7, .pt 5 0), (8, .sl 6 0 x9.length), (9, .sl 7 0 x10.length), (47, .v (.bool (!x15)))], [(0, .box [.bs true 2 (List.map enc_si p1), .v (.int .i64 p2)]), (3, .arr 2 (List.map enc_ii x7)), (4, .arr 2 (List.map enc_si x8)), (5, .box [.sl 4 0 x8.length, .v (.int .i64 p2)]), (6, .arr 1 (List.map enc_i x9)), (7, .arr 2 (List.map enc_ii x10))]⟩) (C := ((([.bs true 1 (List.map enc_i p3)] : List AV) = [.bs true 1 (List.map enc_i p3)]) ∧ True) ∧ ((([.sl 6 0 x9.length, .sl 8 0 x14.length] : List AV) = [.sl 6 0 x9.length, .sl 8 0 x14.length]) ∧ (AO.arr 1 (List.map enc_i x9) = AO.arr 1 (List.map enc_i x9)) ∧ (AO.arr 1 (List.map enc_i x14) = AO.arr 1 (List.map enc_i x14)) ∧ True) ∧ True) (by kernel_rfl) ⟨⟨rfl, trivial⟩, ⟨⟨rfl, rfl, rfl, trivial⟩, trivial⟩⟩ ⟨call_ok (ks := []) (ns := [8]) (bor := []) (bobjs := []) (s_laws_toIntS p3 x14 e15) (.cons (.c1 (.c0 (.same _ (by kernel_rfl) (by kernel_rfl)))) (.nil)) (by kernel_rfl) trivial, ⟨call_ok (ks := []) (ns := []) (bor := [6, 8]) (bobjs := [(6, .arr 1 (List.map enc_i x9)), (8, .arr 1 (List.map enc_i x14))]) (s_laws_eqIntS x9 x14 x15 e16) (.cons (.c1 (.c0 (.arr rfl rfl ((rfl).trans (List.length_map ..).symm)))) (.cons (.c1 (.c0 (.arr rfl rfl ((rfl).trans (List.length_map ..).symm)))) (.nil))) (by kernel_rfl) trivial, trivial⟩⟩ ?_
          rcases bool_cases ((!x15)) with b17 | b17
          · replace h := cd_t b17 h
            refine AX.condT ((!x15)) (by kernel_rfl) b17 ?_
            refine AX.seq ?_
            refine AX.reg (its := []) [4] [] (s1 := ⟨[(4, .v (.bool false))], []⟩) (C := True) (by kernel_rfl) trivial trivial ?_
            refine AX.ret ?_
            refine fin_wk (Wk.forget [4] [] (s' := ⟨[(4, .v (.bool false))], []⟩) (by kernel_rfl)) ?_
            have hr := Option.some.inj h
            subst hr
            exact ⟨_, Wk.refl _, .inr rfl, ⟨[], by kernel_rfl, trivial, [.v (.bool false)], by kernel_rfl, by kernel_rfl⟩⟩
          · replace h := cd_f b17 h
            refine AX.condF ((!x15)) (by kernel_rfl) b17 ?_
            refine AX.skip ?_
            refine AX.seq ?_
            refine AX.reg (its := []) [1, 2, 6, 7, 8, 9, 10] [0, 3, 4, 5, 6, 7] (s1 := ⟨[(1, .bs true 1 (List.map enc_i p3)), (2, .pt 0 0), (6, .sl 3 0 x7.length), (7, .pt 5 0), (8, .sl 6 0 x9.length), (9, .sl 7 0 x10.length), (10, .v (.int .i64 1))], [(0, .box [.bs true 2 (List.map enc_si p1), .v (.int .i64 p2)]), (3, .arr 2 (List.map enc_ii x7)), (4, .arr 2 (List.map enc_si x8)), (5, .box [.sl 4 0 x8.length, .v (.int .i64 p2)]), (6, .arr 1 (List.map enc_i x9)), (7, .arr 2 (List.map enc_ii x10))]⟩) (C := True) (by kernel_rfl) trivial trivial ?_
            refine AX.seq ?_
            obtain ⟨x16, e18, h⟩ := bd_e h
            obtain ⟨g19, h⟩ := gd_e h
            refine AX.reg (its := [.auto {}, .auto {}, .call 28 [.agg [.sl 4 0 x8.length, .v (.int .i64 p2)], .v (.int .i64 1)] (handO (rho ([4] ++ [])) [4] [.arr 2 (List.map enc_si x8)] ++ []) (callEv [4] [] (.v (.int .i64 x16.1)) [.arr 2 (List.map enc_si x16.2)])]) [1, 2, 6, 8, 9, 10] [0, 3, 6, 7] (s1 := ⟨[(1, .bs true 1 (List.map enc_i p3)), (2, .pt 0 0), (6, .sl 3 0 x7.length), (8, .sl 6 0 x9.length), (9, .sl 7 0 x10.length), (10, .v (.int .i64 x16.1))], [(0, .box [.bs true 2 (List.map enc_si p1), .v (.int .i64 p2)]), (3, .arr 2 (List.map enc_ii x7)), (6, .arr 1 (List.map enc_i x9)), (7, .arr 2 (List.map enc_ii x10))]⟩) (C := ((([.agg [.sl 4 0 x8.length, .v (.int .i64 p2)], .v (.int .i64 1)] : List AV) = [.agg [.sl 4 0 x8.length, .v (.int .i64 p2)], .v (.int .i64 1)]) ∧ (AO.arr 2 (List.map enc_si x8) = AO.arr 2 (List.map enc_si x8)) ∧ True) ∧ True) (by kernel_rfl) ⟨⟨rfl, rfl, trivial⟩, trivial⟩ ⟨call_ok (ks := [4]) (ns := []) (bor := []) (bobjs := []) (s_laws_markFlag_h p2 1 x8 x16 e18) (.cons (.c1 (.agg (.cons (.same _ (by kernel_rfl) (by kernel_rfl)) (.cons (.same _ (by kernel_rfl) (by kernel_rfl)) (.nil))))) (.cons (.c1 (.c0 (.same _ (by kernel_rfl) (by kernel_rfl)))) (.nil))) (by kernel_rfl) ⟨.inr (arr_sh (enc := enc_si) g19), trivial⟩, trivial⟩ ?_
            refine AX.seq ?_
            obtain ⟨x17, e20, h⟩ := bd_e h
            obtain ⟨g21, h⟩ := gd_e h
            refine AX.reg (its := [.auto {}, .auto {}, .call 29 [.sl 6 0 x9.length, .v (.int .i64 x16.1)] (handO (rho ([6] ++ [])) [6] [.arr 1 (List.map enc_i x9)] ++ []) (callEv [6] [] (.v (.int .i64 x17.1)) [.arr 1 (List.map enc_i x17.2)])]) [1, 2, 6, 9, 10] [0, 3, 7] (s1 := ⟨[(1, .bs true 1 (List.map enc_i p3)), (2, .pt 0 0), (6, .sl 3 0 x7.length), (9, .sl 7 0 x10.length), (10, .v (.int .i64 x17.1))], [(0, .box [.bs true 2 (List.map enc_si p1), .v (.int .i64 p2)]), (3, .arr 2 (List.map enc_ii x7)), (7, .arr 2 (List.map enc_ii x10))]⟩) (C := ((([.sl 6 0 x9.length, .v (.int .i64 x16.1)] : List AV) = [.sl 6 0 x9.length, .v (.int .i64 x16.1)]) ∧ (AO.arr 1 (List.map enc_i x9) = AO.arr 1 (List.map enc_i x9)) ∧ True) ∧ True) (by kernel_rfl) ⟨⟨rfl, rfl, trivial⟩, trivial⟩ ⟨call_ok (ks := [6]) (ns := []) (bor := []) (bobjs := []) (s_laws_markIntS_h x16.1 x9 x17 e20) (.cons (.c1 (.c0 (.same _ (by kernel_rfl) (by kernel_rfl)))) (.cons (.c1 (.c0 (.same _ (by kernel_rfl) (by kernel_rfl)))) (.nil))) (by kernel_rfl) ⟨.inr (arr_sh (enc := enc_i) g21), trivial⟩, trivial⟩ ?_
            refine AX.seq ?_
            refine AX.seq ?_
            rcases bool_cases (decide (x17.1 < 0)) with b22 | b22
            · replace h := cd_t b22 h
              refine AX.reg (its := [.auto {}, .auto { y := some (.v (.bool true)) }]) [1, 2, 6, 9, 61] [0, 3, 7] (s1 := ⟨[(1, .bs true 1 (List.map enc_i p3)), (2, .pt 0 0), (6, .sl 3 0 x7.length), (9, .sl 7 0 x10.length), (61, .v (.bool true))], [(0, .box [.bs true 2 (List.map enc_si p1), .v (.int .i64 p2)]), (3, .arr 2 (List.map enc_ii x7)), (7, .arr 2 (List.map enc_ii x10))]⟩) (C := ((True) ∧ ((.v (.bool (decide (x17.1 < 0))) : AV) = (.v (.bool true) : AV))) ∧ True) (by kernel_rfl) ⟨⟨trivial, (congrArg (fun z => AV.v (.bool z)) b22)⟩, trivial⟩ trivial ?_
              refine AX.cond_true (by kernel_rfl) ?_
              refine AX.seq ?_
              refine AX.reg (its := []) [4] [] (s1 := ⟨[(4, .v (.bool false))], []⟩) (C := True) (by kernel_rfl) trivial trivial ?_
              refine AX.ret ?_
              refine fin_wk (Wk.forget [4] [] (s' := ⟨[(4, .v (.bool false))], []⟩) (by kernel_rfl)) ?_
              have hr := Option.some.inj h
              subst hr
              exact ⟨_, Wk.refl _, .inr rfl, ⟨[], by kernel_rfl, trivial, [.v (.bool false)], by kernel_rfl, by kernel_rfl⟩⟩
            · replace h := cd_f b22 h
              obtain ⟨x18, e23, h⟩ := bd_e h
              refine AX.reg (its := [.auto {}, .auto { y := some (.v (.bool false)) }, .auto {}, .auto {}, .auto {}, .call 25 [.sl 7 0 x10.length, .sl 3 0 x7.length] (handO (rho ([] ++ [])) [] [] ++ [(7, .arr 2 (List.map enc_ii x10)), (3, .arr 2 (List.map enc_ii x7))]) (callEv [] [] (.v (.bool x18)) [])]) [1, 2, 6, 9, 61] [0, 3, 7] (s1 := ⟨[(1, .bs true 1 (List.map enc_i p3)), (2, .pt 0 0), (6, .sl 3 0 x7.length), (9, .sl 7 0 x10.length), (61, .v (.bool (!x18)))], [(0, .box [.bs true 2 (List.map enc_si p1), .v (.int .i64 p2)]), (3, .arr 2 (List.map enc_ii x7)), (7, .arr 2 (List.map enc_ii x10))]⟩) (C := ((True) ∧ ((.v (.bool (decide (x17.1 < 0))) : AV) = (.v (.bool false) : AV))) ∧ ((([.sl 7 0 x10.length, .sl 3 0 x7.length] : List AV) = [.sl 7 0 x10.length, .sl 3 0 x7.length]) ∧ (AO.arr 2 (List.map enc_ii x10) = AO.arr 2 (List.map enc_ii x10)) ∧ (AO.arr 2 (List.map enc_ii x7) = AO.arr 2 (List.map enc_ii x7)) ∧ True) ∧ True) (by kernel_rfl) ⟨⟨trivial, (congrArg (fun z => AV.v (.bool z)) b22)⟩, ⟨⟨rfl, rfl, rfl, trivial⟩, trivial⟩⟩ ⟨call_ok (ks := []) (ns := []) (bor := [7, 3]) (bobjs := [(7, .arr 2 (List.map enc_ii x10)), (3, .arr 2 (List.map enc_ii x7))]) (s_laws_eqArmS x10 x7 x18 e23) (.cons (.c1 (.c0 (.arr rfl rfl ((rfl).trans (List.length_map ..).symm)))) (.cons (.c1 (.c0 (.arr rfl rfl ((rfl).trans (List.length_map ..).symm)))) (.nil))) (by kernel_rfl) trivial, trivial⟩ ?_
              rcases bool_cases ((!x18)) with b24 | b24
              · replace h := cd_t b24 h
                refine AX.condT ((!x18)) (by kernel_rfl) b24 ?_
                refine AX.seq ?_
                refine AX.reg (its := []) [4] [] (s1 := ⟨[(4, .v (.bool false))], []⟩) (C := True) (by kernel_rfl) trivial trivial ?_
                refine AX.ret ?_
                refine fin_wk (Wk.forget [4] [] (s' := ⟨[(4, .v (.bool false))], []⟩) (by kernel_rfl)) ?_
                have hr := Option.some.inj h
                subst hr
                exact ⟨_, Wk.refl _, .inr rfl, ⟨[], by kernel_rfl, trivial, [.v (.bool false)], by kernel_rfl, by kernel_rfl⟩⟩
              · replace h := cd_f b24 h
                refine AX.condF ((!x18)) (by kernel_rfl) b24 ?_
                refine AX.skip ?_
                refine AX.seq ?_
                refine AX.reg (its := []) [1, 2, 6, 9, 11] [0, 3, 7] (s1 := ⟨[(1, .bs true 1 (List.map enc_i p3)), (2, .pt 0 0), (6, .sl 3 0 x7.length), (9, .sl 7 0 x10.length), (11, .v (.int .i64 1))], [(0, .box [.bs true 2 (List.map enc_si p1), .v (.int .i64 p2)]), (3, .arr 2 (List.map enc_ii x7)), (7, .arr 2 (List.map enc_ii x10))]⟩) (C := True) (by kernel_rfl) trivial trivial ?_
                refine AX.seq ?_
                obtain ⟨x19, e25, h⟩ := bd_e h
                obtain ⟨g26, h⟩ := gd_e h
                refine AX.reg (its := [.auto {}, .auto {}, .call 30 [.sl 7 0 x10.length, .v (.int .i64 1)] (handO (rho ([7] ++ [])) [7] [.arr 2 (List.map enc_ii x10)] ++ []) (callEv [7] [] (.v (.int .i64 x19.1)) [.arr 2 (List.map enc_ii x19.2)])]) [1, 2, 6, 9, 11] [0, 3, 7] (s1 := ⟨[(1, .bs true 1 (List.map enc_i p3)), (2, .pt 0 0), (6, .sl 3 0 x7.length), (9, .sl 7 0 x10.length), (11, .v (.int .i64 x19.1))], [(0, .box [.bs true 2 (List.map enc_si p1), .v (.int .i64 p2)]), (3, .arr 2 (List.map enc_ii x7)), (7, .arr 2 (List.map enc_ii x19.2))]⟩) (C := ((([.sl 7 0 x10.length, .v (.int .i64 1)] : List AV) = [.sl 7 0 x10.length, .v (.int .i64 1)]) ∧ (AO.arr 2 (List.map enc_ii x10) = AO.arr 2 (List.map enc_ii x10)) ∧ True) ∧ True) (by kernel_rfl) ⟨⟨rfl, rfl, trivial⟩, trivial⟩ ⟨call_ok (ks := [7]) (ns := []) (bor := []) (bobjs := []) (s_laws_markArmS_h 1 x10 x19 e25) (.cons (.c1 (.c0 (.same _ (by kernel_rfl) (by kernel_rfl)))) (.cons (.c1 (.c0 (.same _ (by kernel_rfl) (by kernel_rfl)))) (.nil))) (by kernel_rfl) ⟨.inr (arr_sh (enc := enc_ii) g26), trivial⟩, trivial⟩ ?_
                refine AX.seq ?_
                refine AX.reg (its := []) [1, 2, 6, 9, 11, 12] [0, 3, 7] (s1 := ⟨[(1, .bs true 1 (List.map enc_i p3)), (2, .pt 0 0), (6, .sl 3 0 x7.length), (9, .sl 7 0 x10.length), (11, .v (.int .i64 x19.1)), (12, .v (.int .i64 1))], [(0, .box [.bs true 2 (List.map enc_si p1), .v (.int .i64 p2)]), (3, .arr 2 (List.map enc_ii x7)), (7, .arr 2 (List.map enc_ii x19.2))]⟩) (C := True) (by kernel_rfl) trivial trivial ?_
                refine AX.seq ?_
                obtain ⟨x20, e27, h⟩ := bd_e h
                refine AX.reg (its := [.auto {}, .auto {}, .call 31 [.sl 7 0 x10.length, .v (.int .i64 1)] (handO (rho ([] ++ [])) [] [] ++ [(7, .arr 2 (List.map enc_ii x19.2))]) (callEv [] [] (.v (.int .i64 x20)) [])]) [1, 2, 6, 9, 11, 12] [0, 3, 7] (s1 := ⟨[(1, .bs true 1 (List.map enc_i p3)), (2, .pt 0 0), (6, .sl 3 0 x7.length), (9, .sl 7 0 x10.length), (11, .v (.int .i64 x19.1)), (12, .v (.int .i64 x20))], [(0, .box [.bs true 2 (List.map enc_si p1), .v (.int .i64 p2)]), (3, .arr 2 (List.map enc_ii x7)), (7, .arr 2 (List.map enc_ii x19.2))]⟩) (C := ((([.sl 7 0 x10.length, .v (.int .i64 1)] : List AV) = [.sl 7 0 x10.length, .v (.int .i64 1)]) ∧ (AO.arr 2 (List.map enc_ii x19.2) = AO.arr 2 (List.map enc_ii x19.2)) ∧ True) ∧ True) (by kernel_rfl) ⟨⟨rfl, rfl, trivial⟩, trivial⟩ ⟨call_ok (ks := []) (ns := []) (bor := [7]) (bobjs := [(7, .arr 2 (List.map enc_ii x19.2))]) (s_laws_heldArmS x19.2 1 x20 e27) (.cons (.c1 (.c0 (.arr rfl rfl ((((rfl : x10.length = x10.length)).trans (g26).symm).trans (List.length_map ..).symm)))) (.cons (.c1 (.c0 (.same _ (by kernel_rfl) (by kernel_rfl)))) (.nil))) (by kernel_rfl) trivial, trivial⟩ ?_
                refine AX.seq ?_
                refine AX.seq ?_
                refine AX.reg (its := []) [1, 2, 6, 9, 11, 12, 69] [0, 3, 7] (s1 := ⟨[(1, .bs true 1 (List.map enc_i p3)), (2, .pt 0 0), (6, .sl 3 0 x7.length), (9, .sl 7 0 x10.length), (11, .v (.int .i64 x19.1)), (12, .v (.int .i64 x20)), (69, .v (.bool (decide (x20 < 0))))], [(0, .box [.bs true 2 (List.map enc_si p1), .v (.int .i64 p2)]), (3, .arr 2 (List.map enc_ii x7)), (7, .arr 2 (List.map enc_ii x19.2))]⟩) (C := True) (by kernel_rfl) trivial trivial ?_
                rcases bool_cases (decide (x20 < 0)) with b28 | b28
                · replace h := cd_t b28 h
                  refine AX.condT (decide (x20 < 0)) (by kernel_rfl) b28 ?_
                  refine AX.seq ?_
                  refine AX.reg (its := []) [4] [] (s1 := ⟨[(4, .v (.bool false))], []⟩) (C := True) (by kernel_rfl) trivial trivial ?_
                  refine AX.ret ?_
                  refine fin_wk (Wk.forget [4] [] (s' := ⟨[(4, .v (.bool false))], []⟩) (by kernel_rfl)) ?_
                  have hr := Option.some.inj h
                  subst hr
                  exact ⟨_, Wk.refl _, .inr rfl, ⟨[], by kernel_rfl, trivial, [.v (.bool false)], by kernel_rfl, by kernel_rfl⟩⟩
                · replace h := cd_f b28 h
                  refine AX.condF (decide (x20 < 0)) (by kernel_rfl) b28 ?_
                  refine AX.skip ?_
                  refine AX.seq ?_
                  refine AX.seq ?_
                  refine AX.reg (its := []) [1, 2, 6, 9, 11, 72] [0, 3, 7] (s1 := ⟨[(1, .bs true 1 (List.map enc_i p3)), (2, .pt 0 0), (6, .sl 3 0 x7.length), (9, .sl 7 0 x10.length), (11, .v (.int .i64 x19.1)), (72, .v (.bool (!decide (x20 = x19.1))))], [(0, .box [.bs true 2 (List.map enc_si p1), .v (.int .i64 p2)]), (3, .arr 2 (List.map enc_ii x7)), (7, .arr 2 (List.map enc_ii x19.2))]⟩) (C := True) (by kernel_rfl) trivial trivial ?_
                  rcases bool_cases ((!decide (x20 = x19.1))) with b29 | b29
                  · replace h := cd_t b29 h
                    refine AX.condT ((!decide (x20 = x19.1))) (by kernel_rfl) b29 ?_
                    refine AX.seq ?_
                    refine AX.reg (its := []) [4] [] (s1 := ⟨[(4, .v (.bool false))], []⟩) (C := True) (by kernel_rfl) trivial trivial ?_
                    refine AX.ret ?_
                    refine fin_wk (Wk.forget [4] [] (s' := ⟨[(4, .v (.bool false))], []⟩) (by kernel_rfl)) ?_
                    have hr := Option.some.inj h
                    subst hr
                    exact ⟨_, Wk.refl _, .inr rfl, ⟨[], by kernel_rfl, trivial, [.v (.bool false)], by kernel_rfl, by kernel_rfl⟩⟩
                  · replace h := cd_f b29 h
                    refine AX.condF ((!decide (x20 = x19.1))) (by kernel_rfl) b29 ?_
                    refine AX.skip ?_
                    refine AX.seq ?_
                    obtain ⟨x21, e30, h⟩ := bd_e h
                    obtain ⟨x22, e31, h⟩ := bd_e h
                    obtain ⟨x23, e32, h⟩ := bd_e h
                    refine AX.reg (its := [.auto {}, .call 23 [.agg [.bs true 2 (List.map enc_si p1), .v (.int .i64 p2)]] (handO (rho ([] ++ [8])) [] [] ++ []) (callEv [] [8] (.agg [.sl 0 0 x21.length, .v (.int .i64 p2)]) [.arr 2 (List.map enc_si x21)]), .auto {}, .call 24 [.bs true 1 (List.map enc_i p3)] (handO (rho ([] ++ [9])) [] [] ++ []) (callEv [] [9] (.sl 0 0 x22.length) [.arr 1 (List.map enc_i x22)]), .call 14 [.agg [.sl 8 0 x21.length, .v (.int .i64 p2)], .sl 9 0 x22.length] (handO (rho ([] ++ [10])) [] [] ++ [(8, .arr 2 (List.map enc_si x21)), (9, .arr 1 (List.map enc_i x22))]) (callEv [] [10] (.sl 0 0 x23.length) [.arr 2 (List.map enc_ii x23)])]) [6, 9, 11, 13] [3, 7, 10] (s1 := ⟨[(6, .sl 3 0 x7.length), (9, .sl 7 0 x10.length), (11, .v (.int .i64 x19.1)), (13, .sl 10 0 x23.length)], [(3, .arr 2 (List.map enc_ii x7)), (7, .arr 2 (List.map enc_ii x19.2)), (10, .arr 2 (List.map enc_ii x23))]⟩) (C := ((([.agg [.bs true 2 (List.map enc_si p1), .v (.int .i64 p2)]] : List AV) = [.agg [.bs true 2 (List.map enc_si p1), .v (.int .i64 p2)]]) ∧ True) ∧ ((([.bs true 1 (List.map enc_i p3)] : List AV) = [.bs true 1 (List.map enc_i p3)]) ∧ True) ∧ ((([.agg [.sl 8 0 x21.length, .v (.int .i64 p2)], .sl 9 0 x22.length] : List AV) = [.agg [.sl 8 0 x21.length, .v (.int .i64 p2)], .sl 9 0 x22.length]) ∧ (AO.arr 2 (List.map enc_si x21) = AO.arr 2 (List.map enc_si x21)) ∧ (AO.arr 1 (List.map enc_i x22) = AO.arr 1 (List.map enc_i x22)) ∧ True) ∧ True) (by kernel_rfl) ⟨⟨rfl, trivial⟩, ⟨⟨rfl, trivial⟩, ⟨⟨rfl, rfl, rfl, trivial⟩, trivial⟩⟩⟩ ⟨call_ok (ks := []) (ns := [8]) (bor := []) (bobjs := []) (s_laws_toFlag p1 p2 x21 e30) (.cons (.c1 (.agg (.cons (.same _ (by kernel_rfl) (by kernel_rfl)) (.cons (.same _ (by kernel_rfl) (by kernel_rfl)) (.nil))))) (.nil)) (by kernel_rfl) trivial, ⟨call_ok (ks := []) (ns := [9]) (bor := []) (bobjs := []) (s_laws_toIntS p3 x22 e31) (.cons (.c1 (.c0 (.same _ (by kernel_rfl) (by kernel_rfl)))) (.nil)) (by kernel_rfl) trivial, ⟨call_ok (ks := []) (ns := [10]) (bor := [8, 9]) (bobjs := [(8, .arr 2 (List.map enc_si x21)), (9, .arr 1 (List.map enc_i x22))]) (s_impl_GreatestArms x21 p2 x22 x23 e32) (.cons (.c1 (.agg (.cons (.arr rfl rfl ((rfl).trans (List.length_map ..).symm)) (.cons (.same _ (by kernel_rfl) (by kernel_rfl)) (.nil))))) (.cons (.c1 (.c0 (.arr rfl rfl ((rfl).trans (List.length_map ..).symm)))) (.nil))) (by kernel_rfl) trivial, trivial⟩⟩⟩ ?_
                    refine AX.seq ?_
                    refine AX.seq ?_
                    obtain ⟨x24, e33, h⟩ := bd_e h
                    refine AX.reg (its := [.auto {}, .auto {}, .call 25 [.sl 10 0 x23.length, .sl 3 0 x7.length] (handO (rho ([] ++ [])) [] [] ++ [(10, .arr 2 (List.map enc_ii x23)), (3, .arr 2 (List.map enc_ii x7))]) (callEv [] [] (.v (.bool x24)) [])]) [9, 11, 81] [7] (s1 := ⟨[(9, .sl 7 0 x10.length), (11, .v (.int .i64 x19.1)), (81, .v (.bool (!x24)))], [(7, .arr 2 (List.map enc_ii x19.2))]⟩) (C := ((([.sl 10 0 x23.length, .sl 3 0 x7.length] : List AV) = [.sl 10 0 x23.length, .sl 3 0 x7.length]) ∧ (AO.arr 2 (List.map enc_ii x23) = AO.arr 2 (List.map enc_ii x23)) ∧ (AO.arr 2 (List.map enc_ii x7) = AO.arr 2 (List.map enc_ii x7)) ∧ True) ∧ True) (by kernel_rfl) ⟨⟨rfl, rfl, rfl, trivial⟩, trivial⟩ ⟨call_ok (ks := []) (ns := []) (bor := [10, 3]) (bobjs := [(10, .arr 2 (List.map enc_ii x23)), (3, .arr 2 (List.map enc_ii x7))]) (s_laws_eqArmS x23 x7 x24 e33) (.cons (.c1 (.c0 (.arr rfl rfl ((rfl).trans (List.length_map ..).symm)))) (.cons (.c1 (.c0 (.arr rfl rfl ((rfl).trans (List.length_map ..).symm)))) (.nil))) (by kernel_rfl) trivial, trivial⟩ ?_
                    rcases bool_cases ((!x24)) with b34 | b34
                    · replace h := cd_t b34 h
                      refine AX.condT ((!x24)) (by kernel_rfl) b34 ?_
                      refine AX.seq ?_
                      refine AX.reg (its := []) [4] [] (s1 := ⟨[(4, .v (.bool false))], []⟩) (C := True) (by kernel_rfl) trivial trivial ?_
                      refine AX.ret ?_
                      refine fin_wk (Wk.forget [4] [] (s' := ⟨[(4, .v (.bool false))], []⟩) (by kernel_rfl)) ?_
                      have hr := Option.some.inj h
                      subst hr
                      exact ⟨_, Wk.refl _, .inr rfl, ⟨[], by kernel_rfl, trivial, [.v (.bool false)], by kernel_rfl, by kernel_rfl⟩⟩
                    · replace h := cd_f b34 h
                      refine AX.condF ((!x24)) (by kernel_rfl) b34 ?_
                      refine AX.skip ?_
                      refine AX.seq ?_
                      refine AX.reg (its := []) [9, 11, 12] [7] (s1 := ⟨[(9, .sl 7 0 x10.length), (11, .v (.int .i64 x19.1)), (12, .v (.int .i64 1))], [(7, .arr 2 (List.map enc_ii x19.2))]⟩) (C := True) (by kernel_rfl) trivial trivial ?_
                      refine AX.seq ?_
                      obtain ⟨x25, e35, h⟩ := bd_e h
                      refine AX.reg (its := [.auto {}, .auto {}, .call 31 [.sl 7 0 x10.length, .v (.int .i64 1)] (handO (rho ([] ++ [])) [] [] ++ [(7, .arr 2 (List.map enc_ii x19.2))]) (callEv [] [] (.v (.int .i64 x25)) [])]) [11, 12] [] (s1 := ⟨[(11, .v (.int .i64 x19.1)), (12, .v (.int .i64 x25))], []⟩) (C := ((([.sl 7 0 x10.length, .v (.int .i64 1)] : List AV) = [.sl 7 0 x10.length, .v (.int .i64 1)]) ∧ (AO.arr 2 (List.map enc_ii x19.2) = AO.arr 2 (List.map enc_ii x19.2)) ∧ True) ∧ True) (by kernel_rfl) ⟨⟨rfl, rfl, trivial⟩, trivial⟩ ⟨call_ok (ks := []) (ns := []) (bor := [7]) (bobjs := [(7, .arr 2 (List.map enc_ii x19.2))]) (s_laws_heldArmS x19.2 1 x25 e35) (.cons (.c1 (.c0 (.arr rfl rfl ((((rfl : x10.length = x10.length)).trans (g26).symm).trans (List.length_map ..).symm)))) (.cons (.c1 (.c0 (.same _ (by kernel_rfl) (by kernel_rfl)))) (.nil))) (by kernel_rfl) trivial, trivial⟩ ?_
                      refine AX.seq ?_
                      refine AX.seq ?_
                      refine AX.reg (its := []) [11, 12, 86] [] (s1 := ⟨[(11, .v (.int .i64 x19.1)), (12, .v (.int .i64 x25)), (86, .v (.bool (decide (x25 < 0))))], []⟩) (C := True) (by kernel_rfl) trivial trivial ?_
                      rcases bool_cases (decide (x25 < 0)) with b36 | b36
                      · replace h := cd_t b36 h
                        refine AX.condT (decide (x25 < 0)) (by kernel_rfl) b36 ?_
                        refine AX.seq ?_
                        refine AX.reg (its := []) [4] [] (s1 := ⟨[(4, .v (.bool false))], []⟩) (C := True) (by kernel_rfl) trivial trivial ?_
                        refine AX.ret ?_
                        refine fin_wk (Wk.forget [4] [] (s' := ⟨[(4, .v (.bool false))], []⟩) (by kernel_rfl)) ?_
                        have hr := Option.some.inj h
                        subst hr
                        exact ⟨_, Wk.refl _, .inr rfl, ⟨[], by kernel_rfl, trivial, [.v (.bool false)], by kernel_rfl, by kernel_rfl⟩⟩
                      · replace h := cd_f b36 h
                        refine AX.condF (decide (x25 < 0)) (by kernel_rfl) b36 ?_
                        refine AX.skip ?_
                        refine AX.seq ?_
                        refine AX.seq ?_
                        refine AX.reg (its := []) [89] [] (s1 := ⟨[(89, .v (.bool (!decide (x25 = x19.1))))], []⟩) (C := True) (by kernel_rfl) trivial trivial ?_
                        rcases bool_cases ((!decide (x25 = x19.1))) with b37 | b37
                        · replace h := cd_t b37 h
                          refine AX.condT ((!decide (x25 = x19.1))) (by kernel_rfl) b37 ?_
                          refine AX.seq ?_
                          refine AX.reg (its := []) [4] [] (s1 := ⟨[(4, .v (.bool false))], []⟩) (C := True) (by kernel_rfl) trivial trivial ?_
                          refine AX.ret ?_
                          refine fin_wk (Wk.forget [4] [] (s' := ⟨[(4, .v (.bool false))], []⟩) (by kernel_rfl)) ?_
                          have hr := Option.some.inj h
                          subst hr
                          exact ⟨_, Wk.refl _, .inr rfl, ⟨[], by kernel_rfl, trivial, [.v (.bool false)], by kernel_rfl, by kernel_rfl⟩⟩
                        · replace h := cd_f b37 h
                          refine AX.condF ((!decide (x25 = x19.1))) (by kernel_rfl) b37 ?_
                          refine AX.skip ?_
                          refine AX.seq ?_
                          refine AX.reg (its := []) [4] [] (s1 := ⟨[(4, .v (.bool true))], []⟩) (C := True) (by kernel_rfl) trivial trivial ?_
                          refine AX.ret ?_
                          refine fin_wk (Wk.forget [4] [] (s' := ⟨[(4, .v (.bool true))], []⟩) (by kernel_rfl)) ?_
                          have hr := Option.some.inj h
                          subst hr
                          exact ⟨_, Wk.refl _, .inr rfl, ⟨[], by kernel_rfl, trivial, [.v (.bool true)], by kernel_rfl, by kernel_rfl⟩⟩

end Go.Eng
