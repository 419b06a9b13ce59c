/- What is proved here: each function keeps to its model, whatever its arguments, wherever the model has an answer. Printed by gen.py. -/
import Derived.Test.YtehcdfddbnhniaaCGreatestArmsWalk1
import Derived.Test.YtehcdfddbnhniaaProg
import Derived.KernelRfl
set_option linter.unusedVariables false
namespace Go.Eng
open Go Go.Proofs


theorem s_spec_DrawGreatestArms_L1 (x2 : List (Int)) (n : Nat) (g : Int × List (Int) × Int) (out : List (Int)) (h : m_spec_DrawGreatestArms_L1 x2 n g.1 g.2.1 g.2.2 = some out) :
    AX Try.prog 47 0 (codeAt [1, 1, 1, 1, 1, 0, 1, 1] (bodyOf Try.f13)) ((fun g : Int × List (Int) × Int => (⟨[(2, .pt 0 0), (4, .pt 1 0), (5, .pt 2 0), (6, .sl 4 0 g.2.1.length), (7, .v (.int .i64 g.2.2))], [(0, .box [.v (.slice none 0 0), .v (.int .i64 0)]), (1, .box [.bs true 1 (List.map enc_y x2), .v (.int .i64 g.1)]), (2, .box [.sl 3 0 (([((ByteArray.mk #[97]), 1), ((ByteArray.mk #[98]), 2), ((ByteArray.mk #[99]), 4)] : List (ByteArray × Int)).length), .v (.int .i64 0)]), (3, .arr 2 (List.map enc_si ([((ByteArray.mk #[97]), 1), ((ByteArray.mk #[98]), 2), ((ByteArray.mk #[99]), 4)] : List (ByteArray × Int)))), (4, .arr 1 (List.map enc_i g.2.1))]⟩ : S)) g) (fun ex s => ex = .exit 0 ∧ s = (fun o : List (Int) => (⟨[(2, .pt 0 0), (5, .pt 1 0), (6, .sl 3 0 o.length)], [(0, .box [.v (.slice none 0 0), .v (.int .i64 0)]), (1, .box [.sl 2 0 (([((ByteArray.mk #[97]), 1), ((ByteArray.mk #[98]), 2), ((ByteArray.mk #[99]), 4)] : List (ByteArray × Int)).length), .v (.int .i64 0)]), (2, .arr 2 (List.map enc_si ([((ByteArray.mk #[97]), 1), ((ByteArray.mk #[98]), 2), ((ByteArray.mk #[99]), 4)] : List (ByteArray × Int)))), (3, .arr 1 (List.map enc_i o))]⟩ : S)) out) := by
  refine AX.wkpost ?_
  refine AX.loop (G := Nat × (Int × List (Int) × Int)) (fun q => (fun g : Int × List (Int) × Int => (⟨[(2, .pt 0 0), (4, .pt 1 0), (5, .pt 2 0), (6, .sl 4 0 g.2.1.length), (7, .v (.int .i64 g.2.2))], [(0, .box [.v (.slice none 0 0), .v (.int .i64 0)]), (1, .box [.bs true 1 (List.map enc_y x2), .v (.int .i64 g.1)]), (2, .box [.sl 3 0 (([((ByteArray.mk #[97]), 1), ((ByteArray.mk #[98]), 2), ((ByteArray.mk #[99]), 4)] : List (ByteArray × Int)).length), .v (.int .i64 0)]), (3, .arr 2 (List.map enc_si ([((ByteArray.mk #[97]), 1), ((ByteArray.mk #[98]), 2), ((ByteArray.mk #[99]), 4)] : List (ByteArray × Int)))), (4, .arr 1 (List.map enc_i g.2.1))]⟩ : S)) q.2) (fun q => m_spec_DrawGreatestArms_L1 x2 q.1 q.2.1 q.2.2.1 q.2.2.2 = some out) (fun q => q.1) (n, g) h (Wk.refl _) ?_
  clear h
  rintro ⟨fu, v9, v10, v11⟩ h
  cases fu with
  | zero => cases h
  | succ fu =>
    rw [m_spec_DrawGreatestArms_L1] at h
    refine AX.seq ?_
    refine AX.seq ?_
    refine AX.reg (its := []) [2, 4, 5, 6, 7, 36] [0, 1, 2, 3, 4] (s1 := ⟨[(2, .pt 0 0), (4, .pt 1 0), (5, .pt 2 0), (6, .sl 4 0 v10.length), (7, .v (.int .i64 v11)), (36, .v (.bool (decide (0 < v11))))], [(0, .box [.v (.slice none 0 0), .v (.int .i64 0)]), (1, .box [.bs true 1 (List.map enc_y x2), .v (.int .i64 v9)]), (2, .box [.sl 3 0 (([((ByteArray.mk #[97]), 1), ((ByteArray.mk #[98]), 2), ((ByteArray.mk #[99]), 4)] : List (ByteArray × Int)).length), .v (.int .i64 0)]), (3, .arr 2 (List.map enc_si ([((ByteArray.mk #[97]), 1), ((ByteArray.mk #[98]), 2), ((ByteArray.mk #[99]), 4)] : List (ByteArray × Int)))), (4, .arr 1 (List.map enc_i v10))]⟩) (C := True) (by kernel_rfl) trivial trivial ?_
    rcases bool_cases (decide (0 < v11)) with b11 | b11
    · replace h := cd_t b11 h
      refine AX.condT (decide (0 < v11)) (by kernel_rfl) b11 ?_
      refine AX.skip ?_
      refine AX.seq ?_
      refine AX.block ?_
      obtain ⟨x12, e12, h⟩ := bd_e h
      obtain ⟨g13, h⟩ := gd_e h
      refine AX.reg (its := [.auto {}, .auto {}, .auto {}, .call 79 [.pt 1 0, .agg [.sl 3 0 (([((ByteArray.mk #[97]), 1), ((ByteArray.mk #[98]), 2), ((ByteArray.mk #[99]), 4)] : List (ByteArray × Int)).length), .v (.int .i64 0)]] (handO (rho ([1] ++ [])) [1] [.box [.bs true 1 (List.map enc_y x2), .v (.int .i64 v9)]] ++ [(3, .arr 2 (List.map enc_si ([((ByteArray.mk #[97]), 1), ((ByteArray.mk #[98]), 2), ((ByteArray.mk #[99]), 4)] : List (ByteArray × Int))))]) (callEv [1] [] (.v (.int .i64 x12.1)) [.box [.bs true 1 (List.map enc_y x2), .v (.int .i64 x12.2)]]), .auto { nk := 5 }, .auto { y := some (.sl 6 0 ((v10 ++ ([x12.1] : List (Int))).length)), els := some (List.map enc_i v10), els2 := some (List.map enc_i ([x12.1] : List (Int))), nk := 6 }]) [2, 4, 5, 6, 7] [0, 1, 2, 3, 6] (s1 := ⟨[(2, .pt 0 0), (4, .pt 1 0), (5, .pt 2 0), (6, .sl 6 0 ((v10 ++ ([x12.1] : List (Int))).length)), (7, .v (.int .i64 v11))], [(0, .box [.v (.slice none 0 0), .v (.int .i64 0)]), (1, .box [.bs true 1 (List.map enc_y x2), .v (.int .i64 x12.2)]), (2, .box [.sl 3 0 (([((ByteArray.mk #[97]), 1), ((ByteArray.mk #[98]), 2), ((ByteArray.mk #[99]), 4)] : List (ByteArray × Int)).length), .v (.int .i64 0)]), (3, .arr 2 (List.map enc_si ([((ByteArray.mk #[97]), 1), ((ByteArray.mk #[98]), 2), ((ByteArray.mk #[99]), 4)] : List (ByteArray × Int)))), (6, .arr 1 (List.map enc_i v10 ++ List.map enc_i ([x12.1] : List (Int))))]⟩) (C := ((([.pt 1 0, .agg [.sl 3 0 (([((ByteArray.mk #[97]), 1), ((ByteArray.mk #[98]), 2), ((ByteArray.mk #[99]), 4)] : List (ByteArray × Int)).length), .v (.int .i64 0)]] : List AV) = [.pt 1 0, .agg [.sl 3 0 (([((ByteArray.mk #[97]), 1), ((ByteArray.mk #[98]), 2), ((ByteArray.mk #[99]), 4)] : List (ByteArray × Int)).length), .v (.int .i64 0)]]) ∧ (AO.box [.bs true 1 (List.map enc_y x2), .v (.int .i64 v9)] = AO.box [.bs true 1 (List.map enc_y x2), .v (.int .i64 v9)]) ∧ (AO.arr 2 (List.map enc_si ([((ByteArray.mk #[97]), 1), ((ByteArray.mk #[98]), 2), ((ByteArray.mk #[99]), 4)] : List (ByteArray × Int))) = AO.arr 2 (List.map enc_si ([((ByteArray.mk #[97]), 1), ((ByteArray.mk #[98]), 2), ((ByteArray.mk #[99]), 4)] : List (ByteArray × Int)))) ∧ True) ∧ ((((((List.map enc_i v10).drop 0).take (v10.length) = List.map enc_i v10) ∧ (((List.map enc_i ([x12.1] : List (Int))).drop 0).take (([x12.1] : List (Int)).length) = List.map enc_i ([x12.1] : List (Int)))) ∧ (List.map enc_i v10).length + (List.map enc_i ([x12.1] : List (Int))).length ≤ 1099511627776) ∧ (AV.sl 6 0 (List.map enc_i v10 ++ List.map enc_i ([x12.1] : List (Int))).length = AV.sl 6 0 (v10 ++ ([x12.1] : List (Int))).length)) ∧ True) (by kernel_rfl) ⟨⟨rfl, rfl, rfl, trivial⟩, ⟨⟨⟨⟨(dt_all (enc := enc_i) rfl rfl), (dt_all (enc := enc_i) rfl rfl)⟩, (by simp only [List.length_map, List.length_nil]; simpa using g13)⟩, sl_len (enc := enc_i) (app_can (enc := enc_i) rfl rfl)⟩, trivial⟩⟩ ⟨call_ok (ks := [1]) (ns := []) (bor := [3]) (bobjs := [(3, .arr 2 (List.map enc_si ([((ByteArray.mk #[97]), 1), ((ByteArray.mk #[98]), 2), ((ByteArray.mk #[99]), 4)] : List (ByteArray × Int))))]) (s_spec_aValue ([((ByteArray.mk #[97]), 1), ((ByteArray.mk #[98]), 2), ((ByteArray.mk #[99]), 4)] : List (ByteArray × Int)) 0 x2 v9 x12 e12) (.cons (.c1 (.c0 (.same _ (by kernel_rfl) (by kernel_rfl)))) (.cons (.c1 (.agg (.cons (.arr rfl rfl ((rfl).trans (List.length_map ..).symm)) (.cons (.same _ (by kernel_rfl) (by kernel_rfl)) (.nil))))) (.nil))) (by kernel_rfl) ⟨.inr rfl, trivial⟩, trivial⟩ ?_
      refine AX.reg (its := [.auto {}, .auto { raw := true }]) [2, 4, 5, 6, 7] [0, 1, 2, 3, 6] (s1 := ⟨[(2, .pt 0 0), (4, .pt 1 0), (5, .pt 2 0), (6, .sl 6 0 ((v10 ++ ([x12.1] : List (Int))).length)), (7, .v (.int .i64 (IntKind.wrap .i64 (v11 - 1))))], [(0, .box [.v (.slice none 0 0), .v (.int .i64 0)]), (1, .box [.bs true 1 (List.map enc_y x2), .v (.int .i64 x12.2)]), (2, .box [.sl 3 0 (([((ByteArray.mk #[97]), 1), ((ByteArray.mk #[98]), 2), ((ByteArray.mk #[99]), 4)] : List (ByteArray × Int)).length), .v (.int .i64 0)]), (3, .arr 2 (List.map enc_si ([((ByteArray.mk #[97]), 1), ((ByteArray.mk #[98]), 2), ((ByteArray.mk #[99]), 4)] : List (ByteArray × Int)))), (6, .arr 1 (List.map enc_i v10 ++ List.map enc_i ([x12.1] : List (Int))))]⟩) (C := True) (by kernel_rfl) trivial trivial ?_
      refine ⟨(fu, (x12.2, v10 ++ ([x12.1] : List (Int)), IntKind.wrap .i64 (v11 - 1))), h, Nat.lt_succ_self _, ?_⟩
      refine Wk.trans (Wk.swap 4 6 (Nat.le_of_ble_eq_true (by kernel_rfl)) (Nat.le_of_ble_eq_true (by kernel_rfl)) rfl) ?_
      refine Wk.trans (Wk.forget [2, 4, 5, 6, 7] [0, 1, 2, 3, 4] (s' := ⟨[(2, .pt 0 0), (4, .pt 1 0), (5, .pt 2 0), (6, .sl 4 0 ((v10 ++ ([x12.1] : List (Int))).length)), (7, .v (.int .i64 (IntKind.wrap .i64 (v11 - 1))))], [(0, .box [.v (.slice none 0 0), .v (.int .i64 0)]), (1, .box [.bs true 1 (List.map enc_y x2), .v (.int .i64 x12.2)]), (2, .box [.sl 3 0 (([((ByteArray.mk #[97]), 1), ((ByteArray.mk #[98]), 2), ((ByteArray.mk #[99]), 4)] : List (ByteArray × Int)).length), .v (.int .i64 0)]), (3, .arr 2 (List.map enc_si ([((ByteArray.mk #[97]), 1), ((ByteArray.mk #[98]), 2), ((ByteArray.mk #[99]), 4)] : List (ByteArray × Int)))), (4, .arr 1 (List.map enc_i v10 ++ List.map enc_i ([x12.1] : List (Int))))]⟩) (by kernel_rfl)) ?_
      refine Wk.trans (Wk.of_eq (congrArg (fun z => (⟨[(2, .pt 0 0), (4, .pt 1 0), (5, .pt 2 0), (6, .sl 4 0 ((v10 ++ ([x12.1] : List (Int))).length)), (7, .v (.int .i64 (IntKind.wrap .i64 (v11 - 1))))], [(0, .box [.v (.slice none 0 0), .v (.int .i64 0)]), (1, .box [.bs true 1 (List.map enc_y x2), .v (.int .i64 x12.2)]), (2, .box [.sl 3 0 (([((ByteArray.mk #[97]), 1), ((ByteArray.mk #[98]), 2), ((ByteArray.mk #[99]), 4)] : List (ByteArray × Int)).length), .v (.int .i64 0)]), (3, .arr 2 (List.map enc_si ([((ByteArray.mk #[97]), 1), ((ByteArray.mk #[98]), 2), ((ByteArray.mk #[99]), 4)] : List (ByteArray × Int)))), (4, .arr 1 (z))]⟩ : S)) (app_can (enc := enc_i) rfl rfl : List.map enc_i v10 ++ List.map enc_i ([x12.1] : List (Int)) = List.map enc_i (v10 ++ ([x12.1] : List (Int)))))) ?_
      exact Wk.refl _
    · replace h := cd_f b11 h
      refine AX.condF (decide (0 < v11)) (by kernel_rfl) b11 ?_
      refine AX.exit ?_
      refine fin_wk (Wk.swap 1 2 (Nat.le_of_ble_eq_true (by kernel_rfl)) (Nat.le_of_ble_eq_true (by kernel_rfl)) rfl) ?_
      refine fin_wk (Wk.swap 2 3 (Nat.le_of_ble_eq_true (by kernel_rfl)) (Nat.le_of_ble_eq_true (by kernel_rfl)) rfl) ?_
      refine fin_wk (Wk.swap 3 4 (Nat.le_of_ble_eq_true (by kernel_rfl)) (Nat.le_of_ble_eq_true (by kernel_rfl)) rfl) ?_
      refine fin_wk (Wk.forget [2, 5, 6] [0, 1, 2, 3] (s' := ⟨[(2, .pt 0 0), (5, .pt 1 0), (6, .sl 3 0 v10.length)], [(0, .box [.v (.slice none 0 0), .v (.int .i64 0)]), (1, .box [.sl 2 0 (([((ByteArray.mk #[97]), 1), ((ByteArray.mk #[98]), 2), ((ByteArray.mk #[99]), 4)] : List (ByteArray × Int)).length), .v (.int .i64 0)]), (2, .arr 2 (List.map enc_si ([((ByteArray.mk #[97]), 1), ((ByteArray.mk #[98]), 2), ((ByteArray.mk #[99]), 4)] : List (ByteArray × Int)))), (3, .arr 1 (List.map enc_i v10))]⟩) (by kernel_rfl)) ?_
      have hr := Option.some.inj h
      subst hr
      exact ⟨_, Wk.refl _, ⟨rfl, rfl⟩⟩

theorem s_spec_DrawGreatestArms_L2 (x2 : List (Int)) (x3 : (List (ByteArray × Int)) × Int × Int) (n : Nat) (g : Int × List (Int) × Int) (out : List (Int)) (h : m_spec_DrawGreatestArms_L2 x2 x3 n g.1 g.2.1 g.2.2 = some out) :
    AX Try.prog 47 0 (codeAt [1, 1, 1, 1, 1, 0, 1, 1] (bodyOf Try.f13)) ((fun g : Int × List (Int) × Int => (⟨[(2, .pt 0 0), (4, .pt 1 0), (5, .pt 2 0), (6, .sl 4 0 g.2.1.length), (7, .v (.int .i64 g.2.2))], [(0, .box [.v (.slice none 0 0), .v (.int .i64 0)]), (1, .box [.bs true 1 (List.map enc_y x2), .v (.int .i64 g.1)]), (2, .box [.sl 3 0 x3.1.length, .v (.int .i64 x3.2.1)]), (3, .arr 2 (List.map enc_si x3.1)), (4, .arr 1 (List.map enc_i g.2.1))]⟩ : S)) g) (fun ex s => ex = .exit 0 ∧ s = (fun o : List (Int) => (⟨[(2, .pt 0 0), (5, .pt 1 0), (6, .sl 3 0 o.length)], [(0, .box [.v (.slice none 0 0), .v (.int .i64 0)]), (1, .box [.sl 2 0 x3.1.length, .v (.int .i64 x3.2.1)]), (2, .arr 2 (List.map enc_si x3.1)), (3, .arr 1 (List.map enc_i o))]⟩ : S)) out) := by
  refine AX.wkpost ?_
  refine AX.loop (G := Nat × (Int × List (Int) × Int)) (fun q => (fun g : Int × List (Int) × Int => (⟨[(2, .pt 0 0), (4, .pt 1 0), (5, .pt 2 0), (6, .sl 4 0 g.2.1.length), (7, .v (.int .i64 g.2.2))], [(0, .box [.v (.slice none 0 0), .v (.int .i64 0)]), (1, .box [.bs true 1 (List.map enc_y x2), .v (.int .i64 g.1)]), (2, .box [.sl 3 0 x3.1.length, .v (.int .i64 x3.2.1)]), (3, .arr 2 (List.map enc_si x3.1)), (4, .arr 1 (List.map enc_i g.2.1))]⟩ : S)) q.2) (fun q => m_spec_DrawGreatestArms_L2 x2 x3 q.1 q.2.1 q.2.2.1 q.2.2.2 = some out) (fun q => q.1) (n, g) h (Wk.refl _) ?_
  clear h
  rintro ⟨fu, v15, v16, v17⟩ h
  cases fu with
  | zero => cases h
  | succ fu =>
    rw [m_spec_DrawGreatestArms_L2] at h
    refine AX.seq ?_
    refine AX.seq ?_
    refine AX.reg (its := []) [2, 4, 5, 6, 7, 36] [0, 1, 2, 3, 4] (s1 := ⟨[(2, .pt 0 0), (4, .pt 1 0), (5, .pt 2 0), (6, .sl 4 0 v16.length), (7, .v (.int .i64 v17)), (36, .v (.bool (decide (0 < v17))))], [(0, .box [.v (.slice none 0 0), .v (.int .i64 0)]), (1, .box [.bs true 1 (List.map enc_y x2), .v (.int .i64 v15)]), (2, .box [.sl 3 0 x3.1.length, .v (.int .i64 x3.2.1)]), (3, .arr 2 (List.map enc_si x3.1)), (4, .arr 1 (List.map enc_i v16))]⟩) (C := True) (by kernel_rfl) trivial trivial ?_
    rcases bool_cases (decide (0 < v17)) with b16 | b16
    · replace h := cd_t b16 h
      refine AX.condT (decide (0 < v17)) (by kernel_rfl) b16 ?_
      refine AX.skip ?_
      refine AX.seq ?_
      refine AX.block ?_
      obtain ⟨x18, e17, h⟩ := bd_e h
      obtain ⟨g18, h⟩ := gd_e h
      refine AX.reg (its := [.auto {}, .auto {}, .auto {}, .call 79 [.pt 1 0, .agg [.sl 3 0 x3.1.length, .v (.int .i64 x3.2.1)]] (handO (rho ([1] ++ [])) [1] [.box [.bs true 1 (List.map enc_y x2), .v (.int .i64 v15)]] ++ [(3, .arr 2 (List.map enc_si x3.1))]) (callEv [1] [] (.v (.int .i64 x18.1)) [.box [.bs true 1 (List.map enc_y x2), .v (.int .i64 x18.2)]]), .auto { nk := 5 }, .auto { y := some (.sl 6 0 ((v16 ++ ([x18.1] : List (Int))).length)), els := some (List.map enc_i v16), els2 := some (List.map enc_i ([x18.1] : List (Int))), nk := 6 }]) [2, 4, 5, 6, 7] [0, 1, 2, 3, 6] (s1 := ⟨[(2, .pt 0 0), (4, .pt 1 0), (5, .pt 2 0), (6, .sl 6 0 ((v16 ++ ([x18.1] : List (Int))).length)), (7, .v (.int .i64 v17))], [(0, .box [.v (.slice none 0 0), .v (.int .i64 0)]), (1, .box [.bs true 1 (List.map enc_y x2), .v (.int .i64 x18.2)]), (2, .box [.sl 3 0 x3.1.length, .v (.int .i64 x3.2.1)]), (3, .arr 2 (List.map enc_si x3.1)), (6, .arr 1 (List.map enc_i v16 ++ List.map enc_i ([x18.1] : List (Int))))]⟩) (C := ((([.pt 1 0, .agg [.sl 3 0 x3.1.length, .v (.int .i64 x3.2.1)]] : List AV) = [.pt 1 0, .agg [.sl 3 0 x3.1.length, .v (.int .i64 x3.2.1)]]) ∧ (AO.box [.bs true 1 (List.map enc_y x2), .v (.int .i64 v15)] = AO.box [.bs true 1 (List.map enc_y x2), .v (.int .i64 v15)]) ∧ (AO.arr 2 (List.map enc_si x3.1) = AO.arr 2 (List.map enc_si x3.1)) ∧ True) ∧ ((((((List.map enc_i v16).drop 0).take (v16.length) = List.map enc_i v16) ∧ (((List.map enc_i ([x18.1] : List (Int))).drop 0).take (([x18.1] : List (Int)).length) = List.map enc_i ([x18.1] : List (Int)))) ∧ (List.map enc_i v16).length + (List.map enc_i ([x18.1] : List (Int))).length ≤ 1099511627776) ∧ (AV.sl 6 0 (List.map enc_i v16 ++ List.map enc_i ([x18.1] : List (Int))).length = AV.sl 6 0 (v16 ++ ([x18.1] : List (Int))).length)) ∧ True) (by kernel_rfl) ⟨⟨rfl, rfl, rfl, trivial⟩, ⟨⟨⟨⟨(dt_all (enc := enc_i) rfl rfl), (dt_all (enc := enc_i) rfl rfl)⟩, (by simp only [List.length_map, List.length_nil]; simpa using g18)⟩, sl_len (enc := enc_i) (app_can (enc := enc_i) rfl rfl)⟩, trivial⟩⟩ ⟨call_ok (ks := [1]) (ns := []) (bor := [3]) (bobjs := [(3, .arr 2 (List.map enc_si x3.1))]) (s_spec_aValue x3.1 x3.2.1 x2 v15 x18 e17) (.cons (.c1 (.c0 (.same _ (by kernel_rfl) (by kernel_rfl)))) (.cons (.c1 (.agg (.cons (.arr rfl rfl ((rfl).trans (List.length_map ..).symm)) (.cons (.same _ (by kernel_rfl) (by kernel_rfl)) (.nil))))) (.nil))) (by kernel_rfl) ⟨.inr rfl, trivial⟩, trivial⟩ ?_
      refine AX.reg (its := [.auto {}, .auto { raw := true }]) [2, 4, 5, 6, 7] [0, 1, 2, 3, 6] (s1 := ⟨[(2, .pt 0 0), (4, .pt 1 0), (5, .pt 2 0), (6, .sl 6 0 ((v16 ++ ([x18.1] : List (Int))).length)), (7, .v (.int .i64 (IntKind.wrap .i64 (v17 - 1))))], [(0, .box [.v (.slice none 0 0), .v (.int .i64 0)]), (1, .box [.bs true 1 (List.map enc_y x2), .v (.int .i64 x18.2)]), (2, .box [.sl 3 0 x3.1.length, .v (.int .i64 x3.2.1)]), (3, .arr 2 (List.map enc_si x3.1)), (6, .arr 1 (List.map enc_i v16 ++ List.map enc_i ([x18.1] : List (Int))))]⟩) (C := True) (by kernel_rfl) trivial trivial ?_
      refine ⟨(fu, (x18.2, v16 ++ ([x18.1] : List (Int)), IntKind.wrap .i64 (v17 - 1))), h, Nat.lt_succ_self _, ?_⟩
      refine Wk.trans (Wk.swap 4 6 (Nat.le_of_ble_eq_true (by kernel_rfl)) (Nat.le_of_ble_eq_true (by kernel_rfl)) rfl) ?_
      refine Wk.trans (Wk.forget [2, 4, 5, 6, 7] [0, 1, 2, 3, 4] (s' := ⟨[(2, .pt 0 0), (4, .pt 1 0), (5, .pt 2 0), (6, .sl 4 0 ((v16 ++ ([x18.1] : List (Int))).length)), (7, .v (.int .i64 (IntKind.wrap .i64 (v17 - 1))))], [(0, .box [.v (.slice none 0 0), .v (.int .i64 0)]), (1, .box [.bs true 1 (List.map enc_y x2), .v (.int .i64 x18.2)]), (2, .box [.sl 3 0 x3.1.length, .v (.int .i64 x3.2.1)]), (3, .arr 2 (List.map enc_si x3.1)), (4, .arr 1 (List.map enc_i v16 ++ List.map enc_i ([x18.1] : List (Int))))]⟩) (by kernel_rfl)) ?_
      refine Wk.trans (Wk.of_eq (congrArg (fun z => (⟨[(2, .pt 0 0), (4, .pt 1 0), (5, .pt 2 0), (6, .sl 4 0 ((v16 ++ ([x18.1] : List (Int))).length)), (7, .v (.int .i64 (IntKind.wrap .i64 (v17 - 1))))], [(0, .box [.v (.slice none 0 0), .v (.int .i64 0)]), (1, .box [.bs true 1 (List.map enc_y x2), .v (.int .i64 x18.2)]), (2, .box [.sl 3 0 x3.1.length, .v (.int .i64 x3.2.1)]), (3, .arr 2 (List.map enc_si x3.1)), (4, .arr 1 (z))]⟩ : S)) (app_can (enc := enc_i) rfl rfl : List.map enc_i v16 ++ List.map enc_i ([x18.1] : List (Int)) = List.map enc_i (v16 ++ ([x18.1] : List (Int)))))) ?_
      exact Wk.refl _
    · replace h := cd_f b16 h
      refine AX.condF (decide (0 < v17)) (by kernel_rfl) b16 ?_
      refine AX.exit ?_
      refine fin_wk (Wk.swap 1 2 (Nat.le_of_ble_eq_true (by kernel_rfl)) (Nat.le_of_ble_eq_true (by kernel_rfl)) rfl) ?_
      refine fin_wk (Wk.swap 2 3 (Nat.le_of_ble_eq_true (by kernel_rfl)) (Nat.le_of_ble_eq_true (by kernel_rfl)) rfl) ?_
      refine fin_wk (Wk.swap 3 4 (Nat.le_of_ble_eq_true (by kernel_rfl)) (Nat.le_of_ble_eq_true (by kernel_rfl)) rfl) ?_
      refine fin_wk (Wk.forget [2, 5, 6] [0, 1, 2, 3] (s' := ⟨[(2, .pt 0 0), (5, .pt 1 0), (6, .sl 3 0 v16.length)], [(0, .box [.v (.slice none 0 0), .v (.int .i64 0)]), (1, .box [.sl 2 0 x3.1.length, .v (.int .i64 x3.2.1)]), (2, .arr 2 (List.map enc_si x3.1)), (3, .arr 1 (List.map enc_i v16))]⟩) (by kernel_rfl)) ?_
      have hr := Option.some.inj h
      subst hr
      exact ⟨_, Wk.refl _, ⟨rfl, rfl⟩⟩

theorem s_spec_DrawGreatestArms_L3 (x2 : List (Int)) (x3 : (List (ByteArray × Int)) × Int × Int) (n : Nat) (g : Int × List (Int) × Int) (out : List (Int)) (h : m_spec_DrawGreatestArms_L3 x2 x3 n g.1 g.2.1 g.2.2 = some out) :
    AX Try.prog 47 0 (codeAt [1, 1, 1, 1, 1, 0, 1, 1] (bodyOf Try.f13)) ((fun g : Int × List (Int) × Int => (⟨[(2, .pt 0 0), (4, .pt 1 0), (5, .pt 2 0), (6, .sl 4 0 g.2.1.length), (7, .v (.int .i64 g.2.2))], [(0, .box [.v (.slice none 0 0), .v (.int .i64 0)]), (1, .box [.bs true 1 (List.map enc_y x2), .v (.int .i64 g.1)]), (2, .box [.sl 3 0 x3.1.length, .v (.int .i64 x3.2.1)]), (3, .arr 2 (List.map enc_si x3.1)), (4, .arr 1 (List.map enc_i g.2.1))]⟩ : S)) g) (fun ex s => ex = .exit 0 ∧ s = (fun o : List (Int) => (⟨[(2, .pt 0 0), (5, .pt 1 0), (6, .sl 3 0 o.length)], [(0, .box [.v (.slice none 0 0), .v (.int .i64 0)]), (1, .box [.sl 2 0 x3.1.length, .v (.int .i64 x3.2.1)]), (2, .arr 2 (List.map enc_si x3.1)), (3, .arr 1 (List.map enc_i o))]⟩ : S)) out) := by
  refine AX.wkpost ?_
  refine AX.loop (G := Nat × (Int × List (Int) × Int)) (fun q => (fun g : Int × List (Int) × Int => (⟨[(2, .pt 0 0), (4, .pt 1 0), (5, .pt 2 0), (6, .sl 4 0 g.2.1.length), (7, .v (.int .i64 g.2.2))], [(0, .box [.v (.slice none 0 0), .v (.int .i64 0)]), (1, .box [.bs true 1 (List.map enc_y x2), .v (.int .i64 g.1)]), (2, .box [.sl 3 0 x3.1.length, .v (.int .i64 x3.2.1)]), (3, .arr 2 (List.map enc_si x3.1)), (4, .arr 1 (List.map enc_i g.2.1))]⟩ : S)) q.2) (fun q => m_spec_DrawGreatestArms_L3 x2 x3 q.1 q.2.1 q.2.2.1 q.2.2.2 = some out) (fun q => q.1) (n, g) h (Wk.refl _) ?_
  clear h
  rintro ⟨fu, v21, v22, v23⟩ h
  cases fu with
  | zero => cases h
  | succ fu =>
    rw [m_spec_DrawGreatestArms_L3] at h
    refine AX.seq ?_
    refine AX.seq ?_
    refine AX.reg (its := []) [2, 4, 5, 6, 7, 36] [0, 1, 2, 3, 4] (s1 := ⟨[(2, .pt 0 0), (4, .pt 1 0), (5, .pt 2 0), (6, .sl 4 0 v22.length), (7, .v (.int .i64 v23)), (36, .v (.bool (decide (0 < v23))))], [(0, .box [.v (.slice none 0 0), .v (.int .i64 0)]), (1, .box [.bs true 1 (List.map enc_y x2), .v (.int .i64 v21)]), (2, .box [.sl 3 0 x3.1.length, .v (.int .i64 x3.2.1)]), (3, .arr 2 (List.map enc_si x3.1)), (4, .arr 1 (List.map enc_i v22))]⟩) (C := True) (by kernel_rfl) trivial trivial ?_
    rcases bool_cases (decide (0 < v23)) with b21 | b21
    · replace h := cd_t b21 h
      refine AX.condT (decide (0 < v23)) (by kernel_rfl) b21 ?_
      refine AX.skip ?_
      refine AX.seq ?_
      refine AX.block ?_
      obtain ⟨x24, e22, h⟩ := bd_e h
      obtain ⟨g23, h⟩ := gd_e h
      refine AX.reg (its := [.auto {}, .auto {}, .auto {}, .call 79 [.pt 1 0, .agg [.sl 3 0 x3.1.length, .v (.int .i64 x3.2.1)]] (handO (rho ([1] ++ [])) [1] [.box [.bs true 1 (List.map enc_y x2), .v (.int .i64 v21)]] ++ [(3, .arr 2 (List.map enc_si x3.1))]) (callEv [1] [] (.v (.int .i64 x24.1)) [.box [.bs true 1 (List.map enc_y x2), .v (.int .i64 x24.2)]]), .auto { nk := 5 }, .auto { y := some (.sl 6 0 ((v22 ++ ([x24.1] : List (Int))).length)), els := some (List.map enc_i v22), els2 := some (List.map enc_i ([x24.1] : List (Int))), nk := 6 }]) [2, 4, 5, 6, 7] [0, 1, 2, 3, 6] (s1 := ⟨[(2, .pt 0 0), (4, .pt 1 0), (5, .pt 2 0), (6, .sl 6 0 ((v22 ++ ([x24.1] : List (Int))).length)), (7, .v (.int .i64 v23))], [(0, .box [.v (.slice none 0 0), .v (.int .i64 0)]), (1, .box [.bs true 1 (List.map enc_y x2), .v (.int .i64 x24.2)]), (2, .box [.sl 3 0 x3.1.length, .v (.int .i64 x3.2.1)]), (3, .arr 2 (List.map enc_si x3.1)), (6, .arr 1 (List.map enc_i v22 ++ List.map enc_i ([x24.1] : List (Int))))]⟩) (C := ((([.pt 1 0, .agg [.sl 3 0 x3.1.length, .v (.int .i64 x3.2.1)]] : List AV) = [.pt 1 0, .agg [.sl 3 0 x3.1.length, .v (.int .i64 x3.2.1)]]) ∧ (AO.box [.bs true 1 (List.map enc_y x2), .v (.int .i64 v21)] = AO.box [.bs true 1 (List.map enc_y x2), .v (.int .i64 v21)]) ∧ (AO.arr 2 (List.map enc_si x3.1) = AO.arr 2 (List.map enc_si x3.1)) ∧ True) ∧ ((((((List.map enc_i v22).drop 0).take (v22.length) = List.map enc_i v22) ∧ (((List.map enc_i ([x24.1] : List (Int))).drop 0).take (([x24.1] : List (Int)).length) = List.map enc_i ([x24.1] : List (Int)))) ∧ (List.map enc_i v22).length + (List.map enc_i ([x24.1] : List (Int))).length ≤ 1099511627776) ∧ (AV.sl 6 0 (List.map enc_i v22 ++ List.map enc_i ([x24.1] : List (Int))).length = AV.sl 6 0 (v22 ++ ([x24.1] : List (Int))).length)) ∧ True) (by kernel_rfl) ⟨⟨rfl, rfl, rfl, trivial⟩, ⟨⟨⟨⟨(dt_all (enc := enc_i) rfl rfl), (dt_all (enc := enc_i) rfl rfl)⟩, (by simp only [List.length_map, List.length_nil]; simpa using g23)⟩, sl_len (enc := enc_i) (app_can (enc := enc_i) rfl rfl)⟩, trivial⟩⟩ ⟨call_ok (ks := [1]) (ns := []) (bor := [3]) (bobjs := [(3, .arr 2 (List.map enc_si x3.1))]) (s_spec_aValue x3.1 x3.2.1 x2 v21 x24 e22) (.cons (.c1 (.c0 (.same _ (by kernel_rfl) (by kernel_rfl)))) (.cons (.c1 (.agg (.cons (.arr rfl rfl ((rfl).trans (List.length_map ..).symm)) (.cons (.same _ (by kernel_rfl) (by kernel_rfl)) (.nil))))) (.nil))) (by kernel_rfl) ⟨.inr rfl, trivial⟩, trivial⟩ ?_
      refine AX.reg (its := [.auto {}, .auto { raw := true }]) [2, 4, 5, 6, 7] [0, 1, 2, 3, 6] (s1 := ⟨[(2, .pt 0 0), (4, .pt 1 0), (5, .pt 2 0), (6, .sl 6 0 ((v22 ++ ([x24.1] : List (Int))).length)), (7, .v (.int .i64 (IntKind.wrap .i64 (v23 - 1))))], [(0, .box [.v (.slice none 0 0), .v (.int .i64 0)]), (1, .box [.bs true 1 (List.map enc_y x2), .v (.int .i64 x24.2)]), (2, .box [.sl 3 0 x3.1.length, .v (.int .i64 x3.2.1)]), (3, .arr 2 (List.map enc_si x3.1)), (6, .arr 1 (List.map enc_i v22 ++ List.map enc_i ([x24.1] : List (Int))))]⟩) (C := True) (by kernel_rfl) trivial trivial ?_
      refine ⟨(fu, (x24.2, v22 ++ ([x24.1] : List (Int)), IntKind.wrap .i64 (v23 - 1))), h, Nat.lt_succ_self _, ?_⟩
      refine Wk.trans (Wk.swap 4 6 (Nat.le_of_ble_eq_true (by kernel_rfl)) (Nat.le_of_ble_eq_true (by kernel_rfl)) rfl) ?_
      refine Wk.trans (Wk.forget [2, 4, 5, 6, 7] [0, 1, 2, 3, 4] (s' := ⟨[(2, .pt 0 0), (4, .pt 1 0), (5, .pt 2 0), (6, .sl 4 0 ((v22 ++ ([x24.1] : List (Int))).length)), (7, .v (.int .i64 (IntKind.wrap .i64 (v23 - 1))))], [(0, .box [.v (.slice none 0 0), .v (.int .i64 0)]), (1, .box [.bs true 1 (List.map enc_y x2), .v (.int .i64 x24.2)]), (2, .box [.sl 3 0 x3.1.length, .v (.int .i64 x3.2.1)]), (3, .arr 2 (List.map enc_si x3.1)), (4, .arr 1 (List.map enc_i v22 ++ List.map enc_i ([x24.1] : List (Int))))]⟩) (by kernel_rfl)) ?_
      refine Wk.trans (Wk.of_eq (congrArg (fun z => (⟨[(2, .pt 0 0), (4, .pt 1 0), (5, .pt 2 0), (6, .sl 4 0 ((v22 ++ ([x24.1] : List (Int))).length)), (7, .v (.int .i64 (IntKind.wrap .i64 (v23 - 1))))], [(0, .box [.v (.slice none 0 0), .v (.int .i64 0)]), (1, .box [.bs true 1 (List.map enc_y x2), .v (.int .i64 x24.2)]), (2, .box [.sl 3 0 x3.1.length, .v (.int .i64 x3.2.1)]), (3, .arr 2 (List.map enc_si x3.1)), (4, .arr 1 (z))]⟩ : S)) (app_can (enc := enc_i) rfl rfl : List.map enc_i v22 ++ List.map enc_i ([x24.1] : List (Int)) = List.map enc_i (v22 ++ ([x24.1] : List (Int)))))) ?_
      exact Wk.refl _
    · replace h := cd_f b21 h
      refine AX.condF (decide (0 < v23)) (by kernel_rfl) b21 ?_
      refine AX.exit ?_
      refine fin_wk (Wk.swap 1 2 (Nat.le_of_ble_eq_true (by kernel_rfl)) (Nat.le_of_ble_eq_true (by kernel_rfl)) rfl) ?_
      refine fin_wk (Wk.swap 2 3 (Nat.le_of_ble_eq_true (by kernel_rfl)) (Nat.le_of_ble_eq_true (by kernel_rfl)) rfl) ?_
      refine fin_wk (Wk.swap 3 4 (Nat.le_of_ble_eq_true (by kernel_rfl)) (Nat.le_of_ble_eq_true (by kernel_rfl)) rfl) ?_
      refine fin_wk (Wk.forget [2, 5, 6] [0, 1, 2, 3] (s' := ⟨[(2, .pt 0 0), (5, .pt 1 0), (6, .sl 3 0 v22.length)], [(0, .box [.v (.slice none 0 0), .v (.int .i64 0)]), (1, .box [.sl 2 0 x3.1.length, .v (.int .i64 x3.2.1)]), (2, .arr 2 (List.map enc_si x3.1)), (3, .arr 1 (List.map enc_i v22))]⟩) (by kernel_rfl)) ?_
      have hr := Option.some.inj h
      subst hr
      exact ⟨_, Wk.refl _, ⟨rfl, rfl⟩⟩

theorem s_spec_DrawGreatestArms_L4 (x2 : List (Int)) (x3 : (List (ByteArray × Int)) × Int × Int) (n : Nat) (g : Int × List (Int) × Int) (out : List (Int)) (h : m_spec_DrawGreatestArms_L4 x2 x3 n g.1 g.2.1 g.2.2 = some out) :
    AX Try.prog 47 0 (codeAt [1, 1, 1, 1, 1, 0, 1, 1] (bodyOf Try.f13)) ((fun g : Int × List (Int) × Int => (⟨[(2, .pt 0 0), (4, .pt 1 0), (5, .pt 2 0), (6, .sl 4 0 g.2.1.length), (7, .v (.int .i64 g.2.2))], [(0, .box [.v (.slice none 0 0), .v (.int .i64 0)]), (1, .box [.bs true 1 (List.map enc_y x2), .v (.int .i64 g.1)]), (2, .box [.sl 3 0 x3.1.length, .v (.int .i64 x3.2.1)]), (3, .arr 2 (List.map enc_si x3.1)), (4, .arr 1 (List.map enc_i g.2.1))]⟩ : S)) g) (fun ex s => ex = .exit 0 ∧ s = (fun o : List (Int) => (⟨[(2, .pt 0 0), (5, .pt 1 0), (6, .sl 3 0 o.length)], [(0, .box [.v (.slice none 0 0), .v (.int .i64 0)]), (1, .box [.sl 2 0 x3.1.length, .v (.int .i64 x3.2.1)]), (2, .arr 2 (List.map enc_si x3.1)), (3, .arr 1 (List.map enc_i o))]⟩ : S)) out) := by
  refine AX.wkpost ?_
  refine AX.loop (G := Nat × (Int × List (Int) × Int)) (fun q => (fun g : Int × List (Int) × Int => (⟨[(2, .pt 0 0), (4, .pt 1 0), (5, .pt 2 0), (6, .sl 4 0 g.2.1.length), (7, .v (.int .i64 g.2.2))], [(0, .box [.v (.slice none 0 0), .v (.int .i64 0)]), (1, .box [.bs true 1 (List.map enc_y x2), .v (.int .i64 g.1)]), (2, .box [.sl 3 0 x3.1.length, .v (.int .i64 x3.2.1)]), (3, .arr 2 (List.map enc_si x3.1)), (4, .arr 1 (List.map enc_i g.2.1))]⟩ : S)) q.2) (fun q => m_spec_DrawGreatestArms_L4 x2 x3 q.1 q.2.1 q.2.2.1 q.2.2.2 = some out) (fun q => q.1) (n, g) h (Wk.refl _) ?_
  clear h
  rintro ⟨fu, v27, v28, v29⟩ h
  cases fu with
  | zero => cases h
  | succ fu =>
    rw [m_spec_DrawGreatestArms_L4] at h
    refine AX.seq ?_
    refine AX.seq ?_
    refine AX.reg (its := []) [2, 4, 5, 6, 7, 36] [0, 1, 2, 3, 4] (s1 := ⟨[(2, .pt 0 0), (4, .pt 1 0), (5, .pt 2 0), (6, .sl 4 0 v28.length), (7, .v (.int .i64 v29)), (36, .v (.bool (decide (0 < v29))))], [(0, .box [.v (.slice none 0 0), .v (.int .i64 0)]), (1, .box [.bs true 1 (List.map enc_y x2), .v (.int .i64 v27)]), (2, .box [.sl 3 0 x3.1.length, .v (.int .i64 x3.2.1)]), (3, .arr 2 (List.map enc_si x3.1)), (4, .arr 1 (List.map enc_i v28))]⟩) (C := True) (by kernel_rfl) trivial trivial ?_
    rcases bool_cases (decide (0 < v29)) with b26 | b26
    · replace h := cd_t b26 h
      refine AX.condT (decide (0 < v29)) (by kernel_rfl) b26 ?_
      refine AX.skip ?_
      refine AX.seq ?_
      refine AX.block ?_
      obtain ⟨x30, e27, h⟩ := bd_e h
      obtain ⟨g28, h⟩ := gd_e h
      refine AX.reg (its := [.auto {}, .auto {}, .auto {}, .call 79 [.pt 1 0, .agg [.sl 3 0 x3.1.length, .v (.int .i64 x3.2.1)]] (handO (rho ([1] ++ [])) [1] [.box [.bs true 1 (List.map enc_y x2), .v (.int .i64 v27)]] ++ [(3, .arr 2 (List.map enc_si x3.1))]) (callEv [1] [] (.v (.int .i64 x30.1)) [.box [.bs true 1 (List.map enc_y x2), .v (.int .i64 x30.2)]]), .auto { nk := 5 }, .auto { y := some (.sl 6 0 ((v28 ++ ([x30.1] : List (Int))).length)), els := some (List.map enc_i v28), els2 := some (List.map enc_i ([x30.1] : List (Int))), nk := 6 }]) [2, 4, 5, 6, 7] [0, 1, 2, 3, 6] (s1 := ⟨[(2, .pt 0 0), (4, .pt 1 0), (5, .pt 2 0), (6, .sl 6 0 ((v28 ++ ([x30.1] : List (Int))).length)), (7, .v (.int .i64 v29))], [(0, .box [.v (.slice none 0 0), .v (.int .i64 0)]), (1, .box [.bs true 1 (List.map enc_y x2), .v (.int .i64 x30.2)]), (2, .box [.sl 3 0 x3.1.length, .v (.int .i64 x3.2.1)]), (3, .arr 2 (List.map enc_si x3.1)), (6, .arr 1 (List.map enc_i v28 ++ List.map enc_i ([x30.1] : List (Int))))]⟩) (C := ((([.pt 1 0, .agg [.sl 3 0 x3.1.length, .v (.int .i64 x3.2.1)]] : List AV) = [.pt 1 0, .agg [.sl 3 0 x3.1.length, .v (.int .i64 x3.2.1)]]) ∧ (AO.box [.bs true 1 (List.map enc_y x2), .v (.int .i64 v27)] = AO.box [.bs true 1 (List.map enc_y x2), .v (.int .i64 v27)]) ∧ (AO.arr 2 (List.map enc_si x3.1) = AO.arr 2 (List.map enc_si x3.1)) ∧ True) ∧ ((((((List.map enc_i v28).drop 0).take (v28.length) = List.map enc_i v28) ∧ (((List.map enc_i ([x30.1] : List (Int))).drop 0).take (([x30.1] : List (Int)).length) = List.map enc_i ([x30.1] : List (Int)))) ∧ (List.map enc_i v28).length + (List.map enc_i ([x30.1] : List (Int))).length ≤ 1099511627776) ∧ (AV.sl 6 0 (List.map enc_i v28 ++ List.map enc_i ([x30.1] : List (Int))).length = AV.sl 6 0 (v28 ++ ([x30.1] : List (Int))).length)) ∧ True) (by kernel_rfl) ⟨⟨rfl, rfl, rfl, trivial⟩, ⟨⟨⟨⟨(dt_all (enc := enc_i) rfl rfl), (dt_all (enc := enc_i) rfl rfl)⟩, (by simp only [List.length_map, List.length_nil]; simpa using g28)⟩, sl_len (enc := enc_i) (app_can (enc := enc_i) rfl rfl)⟩, trivial⟩⟩ ⟨call_ok (ks := [1]) (ns := []) (bor := [3]) (bobjs := [(3, .arr 2 (List.map enc_si x3.1))]) (s_spec_aValue x3.1 x3.2.1 x2 v27 x30 e27) (.cons (.c1 (.c0 (.same _ (by kernel_rfl) (by kernel_rfl)))) (.cons (.c1 (.agg (.cons (.arr rfl rfl ((rfl).trans (List.length_map ..).symm)) (.cons (.same _ (by kernel_rfl) (by kernel_rfl)) (.nil))))) (.nil))) (by kernel_rfl) ⟨.inr rfl, trivial⟩, trivial⟩ ?_
      refine AX.reg (its := [.auto {}, .auto { raw := true }]) [2, 4, 5, 6, 7] [0, 1, 2, 3, 6] (s1 := ⟨[(2, .pt 0 0), (4, .pt 1 0), (5, .pt 2 0), (6, .sl 6 0 ((v28 ++ ([x30.1] : List (Int))).length)), (7, .v (.int .i64 (IntKind.wrap .i64 (v29 - 1))))], [(0, .box [.v (.slice none 0 0), .v (.int .i64 0)]), (1, .box [.bs true 1 (List.map enc_y x2), .v (.int .i64 x30.2)]), (2, .box [.sl 3 0 x3.1.length, .v (.int .i64 x3.2.1)]), (3, .arr 2 (List.map enc_si x3.1)), (6, .arr 1 (List.map enc_i v28 ++ List.map enc_i ([x30.1] : List (Int))))]⟩) (C := True) (by kernel_rfl) trivial trivial ?_
      refine ⟨(fu, (x30.2, v28 ++ ([x30.1] : List (Int)), IntKind.wrap .i64 (v29 - 1))), h, Nat.lt_succ_self _, ?_⟩
      refine Wk.trans (Wk.swap 4 6 (Nat.le_of_ble_eq_true (by kernel_rfl)) (Nat.le_of_ble_eq_true (by kernel_rfl)) rfl) ?_
      refine Wk.trans (Wk.forget [2, 4, 5, 6, 7] [0, 1, 2, 3, 4] (s' := ⟨[(2, .pt 0 0), (4, .pt 1 0), (5, .pt 2 0), (6, .sl 4 0 ((v28 ++ ([x30.1] : List (Int))).length)), (7, .v (.int .i64 (IntKind.wrap .i64 (v29 - 1))))], [(0, .box [.v (.slice none 0 0), .v (.int .i64 0)]), (1, .box [.bs true 1 (List.map enc_y x2), .v (.int .i64 x30.2)]), (2, .box [.sl 3 0 x3.1.length, .v (.int .i64 x3.2.1)]), (3, .arr 2 (List.map enc_si x3.1)), (4, .arr 1 (List.map enc_i v28 ++ List.map enc_i ([x30.1] : List (Int))))]⟩) (by kernel_rfl)) ?_
      refine Wk.trans (Wk.of_eq (congrArg (fun z => (⟨[(2, .pt 0 0), (4, .pt 1 0), (5, .pt 2 0), (6, .sl 4 0 ((v28 ++ ([x30.1] : List (Int))).length)), (7, .v (.int .i64 (IntKind.wrap .i64 (v29 - 1))))], [(0, .box [.v (.slice none 0 0), .v (.int .i64 0)]), (1, .box [.bs true 1 (List.map enc_y x2), .v (.int .i64 x30.2)]), (2, .box [.sl 3 0 x3.1.length, .v (.int .i64 x3.2.1)]), (3, .arr 2 (List.map enc_si x3.1)), (4, .arr 1 (z))]⟩ : S)) (app_can (enc := enc_i) rfl rfl : List.map enc_i v28 ++ List.map enc_i ([x30.1] : List (Int)) = List.map enc_i (v28 ++ ([x30.1] : List (Int)))))) ?_
      exact Wk.refl _
    · replace h := cd_f b26 h
      refine AX.condF (decide (0 < v29)) (by kernel_rfl) b26 ?_
      refine AX.exit ?_
      refine fin_wk (Wk.swap 1 2 (Nat.le_of_ble_eq_true (by kernel_rfl)) (Nat.le_of_ble_eq_true (by kernel_rfl)) rfl) ?_
      refine fin_wk (Wk.swap 2 3 (Nat.le_of_ble_eq_true (by kernel_rfl)) (Nat.le_of_ble_eq_true (by kernel_rfl)) rfl) ?_
      refine fin_wk (Wk.swap 3 4 (Nat.le_of_ble_eq_true (by kernel_rfl)) (Nat.le_of_ble_eq_true (by kernel_rfl)) rfl) ?_
      refine fin_wk (Wk.forget [2, 5, 6] [0, 1, 2, 3] (s' := ⟨[(2, .pt 0 0), (5, .pt 1 0), (6, .sl 3 0 v28.length)], [(0, .box [.v (.slice none 0 0), .v (.int .i64 0)]), (1, .box [.sl 2 0 x3.1.length, .v (.int .i64 x3.2.1)]), (2, .arr 2 (List.map enc_si x3.1)), (3, .arr 1 (List.map enc_i v28))]⟩) (by kernel_rfl)) ?_
      have hr := Option.some.inj h
      subst hr
      exact ⟨_, Wk.refl _, ⟨rfl, rfl⟩⟩

theorem s_spec_DrawGreatestArms (p1 : List (Int)) (r : (List (ByteArray × Int)) × Int × List (Int)) (h : m_spec_DrawGreatestArms p1 = some r) :
    Eng.Spec Try.prog 13 [.bs true 1 (List.map enc_y p1)] [] (.tup [.agg [.sl 0 0 r.1.length, .v (.int .i64 r.2.1)], .sl 1 0 r.2.2.length]) [.arr 2 (List.map enc_si r.1), .arr 1 (List.map enc_i r.2.2)] := by
  unfold m_spec_DrawGreatestArms at h
  refine Eng.Spec.body Try.func13 (by kernel_rfl) rfl (by kernel_rfl) ?_
  refine AX.wkpost ?_
  refine AX.seq ?_
  refine AX.reg (its := [.auto { nk := 0 }]) [0, 2] [0] (s1 := ⟨[(0, .bs true 1 (List.map enc_y p1)), (2, .pt 0 0)], [(0, .box [.v (.slice none 0 0), .v (.int .i64 0)])]⟩) (C := True) (by kernel_rfl) trivial trivial ?_
  refine AX.seq ?_
  obtain ⟨x2, e1, h⟩ := bd_e h
  refine AX.reg (its := [.auto {}, .call 72 [.bs true 1 (List.map enc_y p1)] (handO (rho ([] ++ [1])) [] [] ++ []) (callEv [] [1] (.pt 0 0) [.box [.bs true 1 (List.map enc_y x2), .v (.int .i64 0)]])]) [2, 4] [0, 1] (s1 := ⟨[(2, .pt 0 0), (4, .pt 1 0)], [(0, .box [.v (.slice none 0 0), .v (.int .i64 0)]), (1, .box [.bs true 1 (List.map enc_y x2), .v (.int .i64 0)])]⟩) (C := ((([.bs true 1 (List.map enc_y p1)] : List AV) = [.bs true 1 (List.map enc_y p1)]) ∧ True) ∧ True) (by kernel_rfl) ⟨⟨rfl, trivial⟩, trivial⟩ ⟨call_ok (ks := []) (ns := [1]) (bor := []) (bobjs := []) (s_spec_newReader p1 x2 e1) (.cons (.c1 (.c0 (.same _ (by kernel_rfl) (by kernel_rfl)))) (.nil)) (by kernel_rfl) trivial, trivial⟩ ?_
  refine AX.seq ?_
  obtain ⟨x3, e2, h⟩ := bd_e h
  refine AX.reg (its := [.auto {}, .call 73 [.pt 1 0] (handO (rho ([1] ++ [2])) [1] [.box [.bs true 1 (List.map enc_y x2), .v (.int .i64 0)]] ++ []) (callEv [1] [2] (.agg [.sl 1 0 x3.1.length, .v (.int .i64 x3.2.1)]) [.box [.bs true 1 (List.map enc_y x2), .v (.int .i64 x3.2.2)], .arr 2 (List.map enc_si x3.1)]), .auto { nk := 3 }]) [2, 4, 5] [0, 1, 2, 3] (s1 := ⟨[(2, .pt 0 0), (4, .pt 1 0), (5, .pt 3 0)], [(0, .box [.v (.slice none 0 0), .v (.int .i64 0)]), (1, .box [.bs true 1 (List.map enc_y x2), .v (.int .i64 x3.2.2)]), (2, .arr 2 (List.map enc_si x3.1)), (3, .box [.sl 2 0 x3.1.length, .v (.int .i64 x3.2.1)])]⟩) (C := ((([.pt 1 0] : List AV) = [.pt 1 0]) ∧ (AO.box [.bs true 1 (List.map enc_y x2), .v (.int .i64 0)] = AO.box [.bs true 1 (List.map enc_y x2), .v (.int .i64 0)]) ∧ True) ∧ True) (by kernel_rfl) ⟨⟨rfl, rfl, trivial⟩, trivial⟩ ⟨call_ok (ks := [1]) (ns := [2]) (bor := []) (bobjs := []) (s_spec_someFlag x2 0 x3 e2) (.cons (.c1 (.c0 (.same _ (by kernel_rfl) (by kernel_rfl)))) (.nil)) (by kernel_rfl) ⟨.inr rfl, trivial⟩, trivial⟩ ?_
  refine AX.seq ?_
  refine AX.seq ?_
  obtain ⟨x4, e3, h⟩ := bd_e h
  rcases bool_cases (x4) with b4 | b4
  · replace h := cd_t b4 h
    obtain ⟨x5, e5, h⟩ := bd_e h
    obtain ⟨x6, e6, h⟩ := bd_e h
    rcases bool_cases (decide (4 < x6)) with b7 | b7
    · replace h := cd_t b7 h
      obtain ⟨x7, e8, h⟩ := bd_e h
      refine AX.reg (its := [.auto {}, .call 74 [.agg [.sl 2 0 x3.1.length, .v (.int .i64 x3.2.1)]] (handO (rho ([] ++ [])) [] [] ++ [(2, .arr 2 (List.map enc_si x3.1))]) (callEv [] [] (.v (.bool true)) []), .auto {}, .auto {}, .auto {}, .call 76 [.sl 2 0 x3.1.length] (handO (rho ([] ++ [])) [] [] ++ [(2, .arr 2 (List.map enc_si x3.1))]) (callEv [] [] (.v (.int .i64 x5)) []), .call 75 [.v (.int .i64 x5)] (handO (rho ([] ++ [])) [] [] ++ []) (callEv [] [] (.v (.int .i64 x6)) []), .auto { y := some (.v (.bool true)) }, .auto {}, .auto {}, .auto {}, .call 77 [.pt 1 0, .v (.int .i64 4)] (handO (rho ([1] ++ [])) [1] [.box [.bs true 1 (List.map enc_y x2), .v (.int .i64 x3.2.2)]] ++ []) (callEv [1] [] (.v (.int .i64 x7)) [.box [.bs true 1 (List.map enc_y x2), .v (.int .i64 (IntKind.wrap .i64 (x3.2.2 + 1)))]])]) [2, 4, 5, 25] [0, 1, 2, 3] (s1 := ⟨[(2, .pt 0 0), (4, .pt 1 0), (5, .pt 3 0), (25, .v (.bool (decide (0 < x7))))], [(0, .box [.v (.slice none 0 0), .v (.int .i64 0)]), (1, .box [.bs true 1 (List.map enc_y x2), .v (.int .i64 (IntKind.wrap .i64 (x3.2.2 + 1)))]), (2, .arr 2 (List.map enc_si x3.1)), (3, .box [.sl 2 0 x3.1.length, .v (.int .i64 x3.2.1)])]⟩) (C := ((([.agg [.sl 2 0 x3.1.length, .v (.int .i64 x3.2.1)]] : List AV) = [.agg [.sl 2 0 x3.1.length, .v (.int .i64 x3.2.1)]]) ∧ (AO.arr 2 (List.map enc_si x3.1) = AO.arr 2 (List.map enc_si x3.1)) ∧ True) ∧ ((([.sl 2 0 x3.1.length] : List AV) = [.sl 2 0 x3.1.length]) ∧ (AO.arr 2 (List.map enc_si x3.1) = AO.arr 2 (List.map enc_si x3.1)) ∧ True) ∧ ((([.v (.int .i64 x5)] : List AV) = [.v (.int .i64 x5)]) ∧ True) ∧ ((True) ∧ ((.v (.bool (decide (4 < x6))) : AV) = (.v (.bool true) : AV))) ∧ ((([.pt 1 0, .v (.int .i64 4)] : List AV) = [.pt 1 0, .v (.int .i64 4)]) ∧ (AO.box [.bs true 1 (List.map enc_y x2), .v (.int .i64 x3.2.2)] = AO.box [.bs true 1 (List.map enc_y x2), .v (.int .i64 x3.2.2)]) ∧ True) ∧ True) (by kernel_rfl) ⟨⟨rfl, rfl, trivial⟩, ⟨⟨rfl, rfl, trivial⟩, ⟨⟨rfl, trivial⟩, ⟨⟨trivial, (congrArg (fun z => AV.v (.bool z)) b7)⟩, ⟨⟨rfl, rfl, trivial⟩, trivial⟩⟩⟩⟩⟩ ⟨call_ok (ks := []) (ns := []) (bor := [2]) (bobjs := [(2, .arr 2 (List.map enc_si x3.1))]) (show Eng.Spec Try.prog 74 [.agg [.bs false 2 (List.map enc_si x3.1), .v (.int .i64 x3.2.1)]] [] (.v (.bool true)) [] from by have q := s_spec_validFlag x3.1 x3.2.1 x4 e3; rw [b4] at q; exact q) (.cons (.c1 (.agg (.cons (.arr rfl rfl ((rfl).trans (List.length_map ..).symm)) (.cons (.same _ (by kernel_rfl) (by kernel_rfl)) (.nil))))) (.nil)) (by kernel_rfl) trivial, ⟨call_ok (ks := []) (ns := []) (bor := [2]) (bobjs := [(2, .arr 2 (List.map enc_si x3.1))]) (s_spec_mask x3.1 x5 e5) (.cons (.c1 (.c0 (.arr rfl rfl ((rfl).trans (List.length_map ..).symm)))) (.nil)) (by kernel_rfl) trivial, ⟨call_ok (ks := []) (ns := []) (bor := []) (bobjs := []) (s_spec_bitCount x5 x6 e6) (.cons (.c1 (.c0 (.same _ (by kernel_rfl) (by kernel_rfl)))) (.nil)) (by kernel_rfl) trivial, ⟨call_ok (ks := [1]) (ns := []) (bor := []) (bobjs := []) (s_spec_reader_pick 4 x2 x3.2.2 x7 e8) (.cons (.c1 (.c0 (.same _ (by kernel_rfl) (by kernel_rfl)))) (.cons (.c1 (.c0 (.same _ (by kernel_rfl) (by kernel_rfl)))) (.nil))) (by kernel_rfl) ⟨.inr rfl, trivial⟩, trivial⟩⟩⟩⟩ ?_
      rcases bool_cases (decide (0 < x7)) with b9 | b9
      · replace h := cd_t b9 h
        refine AX.condT (decide (0 < x7)) (by kernel_rfl) b9 ?_
        refine AX.reg (its := [.auto {}, .auto {}, .auto {}, .auto { nk := 4 }]) [2, 4, 5] [0, 1, 3, 4] (s1 := ⟨[(2, .pt 0 0), (4, .pt 1 0), (5, .pt 3 0)], [(0, .box [.v (.slice none 0 0), .v (.int .i64 0)]), (1, .box [.bs true 1 (List.map enc_y x2), .v (.int .i64 (IntKind.wrap .i64 (x3.2.2 + 1)))]), (3, .box [.sl 4 0 (([((ByteArray.mk #[97]), 1), ((ByteArray.mk #[98]), 2), ((ByteArray.mk #[99]), 4)] : List (ByteArray × Int)).length), .v (.int .i64 0)]), (4, .arr 2 (List.map enc_si ([((ByteArray.mk #[97]), 1), ((ByteArray.mk #[98]), 2), ((ByteArray.mk #[99]), 4)] : List (ByteArray × Int))))]⟩) (C := True) (by kernel_rfl) trivial trivial ?_
        refine AX.seq ?_
        refine AX.reg (its := [.auto { nk := 5 }]) [2, 4, 5, 6] [0, 1, 3, 4, 5] (s1 := ⟨[(2, .pt 0 0), (4, .pt 1 0), (5, .pt 3 0), (6, .sl 5 0 (([] : List (Int)).length))], [(0, .box [.v (.slice none 0 0), .v (.int .i64 0)]), (1, .box [.bs true 1 (List.map enc_y x2), .v (.int .i64 (IntKind.wrap .i64 (x3.2.2 + 1)))]), (3, .box [.sl 4 0 (([((ByteArray.mk #[97]), 1), ((ByteArray.mk #[98]), 2), ((ByteArray.mk #[99]), 4)] : List (ByteArray × Int)).length), .v (.int .i64 0)]), (4, .arr 2 (List.map enc_si ([((ByteArray.mk #[97]), 1), ((ByteArray.mk #[98]), 2), ((ByteArray.mk #[99]), 4)] : List (ByteArray × Int)))), (5, .arr 1 (List.map enc_i ([] : List (Int))))]⟩) (C := True) (by kernel_rfl) trivial trivial ?_
        refine AX.seq ?_
        refine AX.seq ?_
        obtain ⟨x8, e10, h⟩ := bd_e h
        refine AX.reg (its := [.auto {}, .auto { nk := 6 }, .call 78 [.pt 1 0, .sl 6 0 (([4, 3, 6, 2, 0, 8] : List (Int)).length)] (handO (rho ([1] ++ [])) [1] [.box [.bs true 1 (List.map enc_y x2), .v (.int .i64 (IntKind.wrap .i64 (x3.2.2 + 1)))]] ++ [(6, .arr 1 (List.map enc_i ([4, 3, 6, 2, 0, 8] : List (Int))))]) (callEv [1] [] (.v (.int .i64 x8)) [.box [.bs true 1 (List.map enc_y x2), .v (.int .i64 (IntKind.wrap .i64 ((IntKind.wrap .i64 (x3.2.2 + 1)) + 1)))]])]) [2, 4, 5, 6, 7] [0, 1, 3, 4, 5] (s1 := ⟨[(2, .pt 0 0), (4, .pt 1 0), (5, .pt 3 0), (6, .sl 5 0 (([] : List (Int)).length)), (7, .v (.int .i64 x8))], [(0, .box [.v (.slice none 0 0), .v (.int .i64 0)]), (1, .box [.bs true 1 (List.map enc_y x2), .v (.int .i64 (IntKind.wrap .i64 ((IntKind.wrap .i64 (x3.2.2 + 1)) + 1)))]), (3, .box [.sl 4 0 (([((ByteArray.mk #[97]), 1), ((ByteArray.mk #[98]), 2), ((ByteArray.mk #[99]), 4)] : List (ByteArray × Int)).length), .v (.int .i64 0)]), (4, .arr 2 (List.map enc_si ([((ByteArray.mk #[97]), 1), ((ByteArray.mk #[98]), 2), ((ByteArray.mk #[99]), 4)] : List (ByteArray × Int)))), (5, .arr 1 (List.map enc_i ([] : List (Int))))]⟩) (C := ((([.pt 1 0, .sl 6 0 (([4, 3, 6, 2, 0, 8] : List (Int)).length)] : List AV) = [.pt 1 0, .sl 6 0 (([4, 3, 6, 2, 0, 8] : List (Int)).length)]) ∧ (AO.box [.bs true 1 (List.map enc_y x2), .v (.int .i64 (IntKind.wrap .i64 (x3.2.2 + 1)))] = AO.box [.bs true 1 (List.map enc_y x2), .v (.int .i64 (IntKind.wrap .i64 (x3.2.2 + 1)))]) ∧ (AO.arr 1 (List.map enc_i ([4, 3, 6, 2, 0, 8] : List (Int))) = AO.arr 1 (List.map enc_i ([4, 3, 6, 2, 0, 8] : List (Int)))) ∧ True) ∧ True) (by kernel_rfl) ⟨⟨rfl, rfl, rfl, trivial⟩, trivial⟩ ⟨call_ok (ks := [1]) (ns := []) (bor := [6]) (bobjs := [(6, .arr 1 (List.map enc_i ([4, 3, 6, 2, 0, 8] : List (Int))))]) (s_spec_reader_one ([4, 3, 6, 2, 0, 8] : List (Int)) x2 (IntKind.wrap .i64 (x3.2.2 + 1)) x8 e10) (.cons (.c1 (.c0 (.same _ (by kernel_rfl) (by kernel_rfl)))) (.cons (.c1 (.c0 (.arr rfl rfl ((rfl).trans (List.length_map ..).symm)))) (.nil))) (by kernel_rfl) ⟨.inr rfl, trivial⟩, trivial⟩ ?_
        refine AX.block ?_
        obtain ⟨x13, e14, h⟩ := bd_e h
        refine AX.wk (Wk.swap 2 3 (Nat.le_of_ble_eq_true (by kernel_rfl)) (Nat.le_of_ble_eq_true (by kernel_rfl)) rfl) ?_
        refine AX.wk (Wk.swap 3 4 (Nat.le_of_ble_eq_true (by kernel_rfl)) (Nat.le_of_ble_eq_true (by kernel_rfl)) rfl) ?_
        refine AX.wk (Wk.swap 4 5 (Nat.le_of_ble_eq_true (by kernel_rfl)) (Nat.le_of_ble_eq_true (by kernel_rfl)) rfl) ?_
        refine AX.wk (Wk.forget [2, 4, 5, 6, 7] [0, 1, 2, 3, 4] (s' := ⟨[(2, .pt 0 0), (4, .pt 1 0), (5, .pt 2 0), (6, .sl 4 0 (([] : List (Int)).length)), (7, .v (.int .i64 x8))], [(0, .box [.v (.slice none 0 0), .v (.int .i64 0)]), (1, .box [.bs true 1 (List.map enc_y x2), .v (.int .i64 (IntKind.wrap .i64 ((IntKind.wrap .i64 (x3.2.2 + 1)) + 1)))]), (2, .box [.sl 3 0 (([((ByteArray.mk #[97]), 1), ((ByteArray.mk #[98]), 2), ((ByteArray.mk #[99]), 4)] : List (ByteArray × Int)).length), .v (.int .i64 0)]), (3, .arr 2 (List.map enc_si ([((ByteArray.mk #[97]), 1), ((ByteArray.mk #[98]), 2), ((ByteArray.mk #[99]), 4)] : List (ByteArray × Int)))), (4, .arr 1 (List.map enc_i ([] : List (Int))))]⟩) (by kernel_rfl)) ?_
        refine AX.mono (s_spec_DrawGreatestArms_L1 x2 FU (IntKind.wrap .i64 ((IntKind.wrap .i64 (x3.2.2 + 1)) + 1), ([] : List (Int)), x8) x13 e14) ?_
        rintro _ _ ⟨rfl, rfl⟩
        skip
        refine AX.seq ?_
        refine AX.reg (its := []) [2, 3] [0, 2, 3] (s1 := ⟨[(2, .pt 0 0), (3, .sl 3 0 x13.length)], [(0, .box [.sl 2 0 (([((ByteArray.mk #[97]), 1), ((ByteArray.mk #[98]), 2), ((ByteArray.mk #[99]), 4)] : List (ByteArray × Int)).length), .v (.int .i64 0)]), (2, .arr 2 (List.map enc_si ([((ByteArray.mk #[97]), 1), ((ByteArray.mk #[98]), 2), ((ByteArray.mk #[99]), 4)] : List (ByteArray × Int)))), (3, .arr 1 (List.map enc_i x13))]⟩) (C := True) (by kernel_rfl) trivial trivial ?_
        refine AX.ret ?_
        refine fin_wk (Wk.swap 1 2 (Nat.le_of_ble_eq_true (by kernel_rfl)) (Nat.le_of_ble_eq_true (by kernel_rfl)) rfl) ?_
        refine fin_wk (Wk.swap 2 3 (Nat.le_of_ble_eq_true (by kernel_rfl)) (Nat.le_of_ble_eq_true (by kernel_rfl)) rfl) ?_
        refine fin_wk (Wk.forget [2, 3] [0, 1, 2] (s' := ⟨[(2, .pt 0 0), (3, .sl 2 0 x13.length)], [(0, .box [.sl 1 0 (([((ByteArray.mk #[97]), 1), ((ByteArray.mk #[98]), 2), ((ByteArray.mk #[99]), 4)] : List (ByteArray × Int)).length), .v (.int .i64 0)]), (1, .arr 2 (List.map enc_si ([((ByteArray.mk #[97]), 1), ((ByteArray.mk #[98]), 2), ((ByteArray.mk #[99]), 4)] : List (ByteArray × Int)))), (2, .arr 1 (List.map enc_i x13))]⟩) (by kernel_rfl)) ?_
        have hr := Option.some.inj h
        subst hr
        exact ⟨_, Wk.refl _, .inr rfl, ⟨[1, 2], by kernel_rfl, ⟨rfl, rfl, trivial⟩, [.agg [.sl 1 0 (([((ByteArray.mk #[97]), 1), ((ByteArray.mk #[98]), 2), ((ByteArray.mk #[99]), 4)] : List (ByteArray × Int)).length), .v (.int .i64 0)], .sl 2 0 x13.length], by kernel_rfl, by kernel_rfl⟩⟩
      · replace h := cd_f b9 h
        refine AX.condF (decide (0 < x7)) (by kernel_rfl) b9 ?_
        refine AX.skip ?_
        refine AX.seq ?_
        refine AX.reg (its := [.auto { nk := 4 }]) [2, 4, 5, 6] [0, 1, 2, 3, 4] (s1 := ⟨[(2, .pt 0 0), (4, .pt 1 0), (5, .pt 3 0), (6, .sl 4 0 (([] : List (Int)).length))], [(0, .box [.v (.slice none 0 0), .v (.int .i64 0)]), (1, .box [.bs true 1 (List.map enc_y x2), .v (.int .i64 (IntKind.wrap .i64 (x3.2.2 + 1)))]), (2, .arr 2 (List.map enc_si x3.1)), (3, .box [.sl 2 0 x3.1.length, .v (.int .i64 x3.2.1)]), (4, .arr 1 (List.map enc_i ([] : List (Int))))]⟩) (C := True) (by kernel_rfl) trivial trivial ?_
        refine AX.seq ?_
        refine AX.seq ?_
        obtain ⟨x14, e15, h⟩ := bd_e h
        refine AX.reg (its := [.auto {}, .auto { nk := 5 }, .call 78 [.pt 1 0, .sl 5 0 (([4, 3, 6, 2, 0, 8] : List (Int)).length)] (handO (rho ([1] ++ [])) [1] [.box [.bs true 1 (List.map enc_y x2), .v (.int .i64 (IntKind.wrap .i64 (x3.2.2 + 1)))]] ++ [(5, .arr 1 (List.map enc_i ([4, 3, 6, 2, 0, 8] : List (Int))))]) (callEv [1] [] (.v (.int .i64 x14)) [.box [.bs true 1 (List.map enc_y x2), .v (.int .i64 (IntKind.wrap .i64 ((IntKind.wrap .i64 (x3.2.2 + 1)) + 1)))]])]) [2, 4, 5, 6, 7] [0, 1, 2, 3, 4] (s1 := ⟨[(2, .pt 0 0), (4, .pt 1 0), (5, .pt 3 0), (6, .sl 4 0 (([] : List (Int)).length)), (7, .v (.int .i64 x14))], [(0, .box [.v (.slice none 0 0), .v (.int .i64 0)]), (1, .box [.bs true 1 (List.map enc_y x2), .v (.int .i64 (IntKind.wrap .i64 ((IntKind.wrap .i64 (x3.2.2 + 1)) + 1)))]), (2, .arr 2 (List.map enc_si x3.1)), (3, .box [.sl 2 0 x3.1.length, .v (.int .i64 x3.2.1)]), (4, .arr 1 (List.map enc_i ([] : List (Int))))]⟩) (C := ((([.pt 1 0, .sl 5 0 (([4, 3, 6, 2, 0, 8] : List (Int)).length)] : List AV) = [.pt 1 0, .sl 5 0 (([4, 3, 6, 2, 0, 8] : List (Int)).length)]) ∧ (AO.box [.bs true 1 (List.map enc_y x2), .v (.int .i64 (IntKind.wrap .i64 (x3.2.2 + 1)))] = AO.box [.bs true 1 (List.map enc_y x2), .v (.int .i64 (IntKind.wrap .i64 (x3.2.2 + 1)))]) ∧ (AO.arr 1 (List.map enc_i ([4, 3, 6, 2, 0, 8] : List (Int))) = AO.arr 1 (List.map enc_i ([4, 3, 6, 2, 0, 8] : List (Int)))) ∧ True) ∧ True) (by kernel_rfl) ⟨⟨rfl, rfl, rfl, trivial⟩, trivial⟩ ⟨call_ok (ks := [1]) (ns := []) (bor := [5]) (bobjs := [(5, .arr 1 (List.map enc_i ([4, 3, 6, 2, 0, 8] : List (Int))))]) (s_spec_reader_one ([4, 3, 6, 2, 0, 8] : List (Int)) x2 (IntKind.wrap .i64 (x3.2.2 + 1)) x14 e15) (.cons (.c1 (.c0 (.same _ (by kernel_rfl) (by kernel_rfl)))) (.cons (.c1 (.c0 (.arr rfl rfl ((rfl).trans (List.length_map ..).symm)))) (.nil))) (by kernel_rfl) ⟨.inr rfl, trivial⟩, trivial⟩ ?_
        refine AX.block ?_
        obtain ⟨x19, e19, h⟩ := bd_e h
        refine AX.wk (Wk.swap 2 3 (Nat.le_of_ble_eq_true (by kernel_rfl)) (Nat.le_of_ble_eq_true (by kernel_rfl)) rfl) ?_
        refine AX.wk (Wk.forget [2, 4, 5, 6, 7] [0, 1, 2, 3, 4] (s' := ⟨[(2, .pt 0 0), (4, .pt 1 0), (5, .pt 2 0), (6, .sl 4 0 (([] : List (Int)).length)), (7, .v (.int .i64 x14))], [(0, .box [.v (.slice none 0 0), .v (.int .i64 0)]), (1, .box [.bs true 1 (List.map enc_y x2), .v (.int .i64 (IntKind.wrap .i64 ((IntKind.wrap .i64 (x3.2.2 + 1)) + 1)))]), (2, .box [.sl 3 0 x3.1.length, .v (.int .i64 x3.2.1)]), (3, .arr 2 (List.map enc_si x3.1)), (4, .arr 1 (List.map enc_i ([] : List (Int))))]⟩) (by kernel_rfl)) ?_
        refine AX.mono (s_spec_DrawGreatestArms_L2 x2 x3 FU (IntKind.wrap .i64 ((IntKind.wrap .i64 (x3.2.2 + 1)) + 1), ([] : List (Int)), x14) x19 e19) ?_
        rintro _ _ ⟨rfl, rfl⟩
        skip
        refine AX.seq ?_
        refine AX.reg (its := []) [2, 3] [0, 2, 3] (s1 := ⟨[(2, .pt 0 0), (3, .sl 3 0 x19.length)], [(0, .box [.sl 2 0 x3.1.length, .v (.int .i64 x3.2.1)]), (2, .arr 2 (List.map enc_si x3.1)), (3, .arr 1 (List.map enc_i x19))]⟩) (C := True) (by kernel_rfl) trivial trivial ?_
        refine AX.ret ?_
        refine fin_wk (Wk.swap 1 2 (Nat.le_of_ble_eq_true (by kernel_rfl)) (Nat.le_of_ble_eq_true (by kernel_rfl)) rfl) ?_
        refine fin_wk (Wk.swap 2 3 (Nat.le_of_ble_eq_true (by kernel_rfl)) (Nat.le_of_ble_eq_true (by kernel_rfl)) rfl) ?_
        refine fin_wk (Wk.forget [2, 3] [0, 1, 2] (s' := ⟨[(2, .pt 0 0), (3, .sl 2 0 x19.length)], [(0, .box [.sl 1 0 x3.1.length, .v (.int .i64 x3.2.1)]), (1, .arr 2 (List.map enc_si x3.1)), (2, .arr 1 (List.map enc_i x19))]⟩) (by kernel_rfl)) ?_
        have hr := Option.some.inj h
        subst hr
        exact ⟨_, Wk.refl _, .inr rfl, ⟨[1, 2], by kernel_rfl, ⟨rfl, rfl, trivial⟩, [.agg [.sl 1 0 x3.1.length, .v (.int .i64 x3.2.1)], .sl 2 0 x19.length], by kernel_rfl, by kernel_rfl⟩⟩
    · replace h := cd_f b7 h
      refine AX.reg (its := [.auto {}, .call 74 [.agg [.sl 2 0 x3.1.length, .v (.int .i64 x3.2.1)]] (handO (rho ([] ++ [])) [] [] ++ [(2, .arr 2 (List.map enc_si x3.1))]) (callEv [] [] (.v (.bool true)) []), .auto {}, .auto {}, .auto {}, .call 76 [.sl 2 0 x3.1.length] (handO (rho ([] ++ [])) [] [] ++ [(2, .arr 2 (List.map enc_si x3.1))]) (callEv [] [] (.v (.int .i64 x5)) []), .call 75 [.v (.int .i64 x5)] (handO (rho ([] ++ [])) [] [] ++ []) (callEv [] [] (.v (.int .i64 x6)) []), .auto { y := some (.v (.bool false)) }]) [2, 4, 5, 25] [0, 1, 2, 3] (s1 := ⟨[(2, .pt 0 0), (4, .pt 1 0), (5, .pt 3 0), (25, .v (.bool false))], [(0, .box [.v (.slice none 0 0), .v (.int .i64 0)]), (1, .box [.bs true 1 (List.map enc_y x2), .v (.int .i64 x3.2.2)]), (2, .arr 2 (List.map enc_si x3.1)), (3, .box [.sl 2 0 x3.1.length, .v (.int .i64 x3.2.1)])]⟩) (C := ((([.agg [.sl 2 0 x3.1.length, .v (.int .i64 x3.2.1)]] : List AV) = [.agg [.sl 2 0 x3.1.length, .v (.int .i64 x3.2.1)]]) ∧ (AO.arr 2 (List.map enc_si x3.1) = AO.arr 2 (List.map enc_si x3.1)) ∧ True) ∧ ((([.sl 2 0 x3.1.length] : List AV) = [.sl 2 0 x3.1.length]) ∧ (AO.arr 2 (List.map enc_si x3.1) = AO.arr 2 (List.map enc_si x3.1)) ∧ True) ∧ ((([.v (.int .i64 x5)] : List AV) = [.v (.int .i64 x5)]) ∧ True) ∧ ((True) ∧ ((.v (.bool (decide (4 < x6))) : AV) = (.v (.bool false) : AV))) ∧ True) (by kernel_rfl) ⟨⟨rfl, rfl, trivial⟩, ⟨⟨rfl, rfl, trivial⟩, ⟨⟨rfl, trivial⟩, ⟨⟨trivial, (congrArg (fun z => AV.v (.bool z)) b7)⟩, trivial⟩⟩⟩⟩ ⟨call_ok (ks := []) (ns := []) (bor := [2]) (bobjs := [(2, .arr 2 (List.map enc_si x3.1))]) (show Eng.Spec Try.prog 74 [.agg [.bs false 2 (List.map enc_si x3.1), .v (.int .i64 x3.2.1)]] [] (.v (.bool true)) [] from by have q := s_spec_validFlag x3.1 x3.2.1 x4 e3; rw [b4] at q; exact q) (.cons (.c1 (.agg (.cons (.arr rfl rfl ((rfl).trans (List.length_map ..).symm)) (.cons (.same _ (by kernel_rfl) (by kernel_rfl)) (.nil))))) (.nil)) (by kernel_rfl) trivial, ⟨call_ok (ks := []) (ns := []) (bor := [2]) (bobjs := [(2, .arr 2 (List.map enc_si x3.1))]) (s_spec_mask x3.1 x5 e5) (.cons (.c1 (.c0 (.arr rfl rfl ((rfl).trans (List.length_map ..).symm)))) (.nil)) (by kernel_rfl) trivial, ⟨call_ok (ks := []) (ns := []) (bor := []) (bobjs := []) (s_spec_bitCount x5 x6 e6) (.cons (.c1 (.c0 (.same _ (by kernel_rfl) (by kernel_rfl)))) (.nil)) (by kernel_rfl) trivial, trivial⟩⟩⟩ ?_
      refine AX.cond_false (by kernel_rfl) ?_
      refine AX.skip ?_
      refine AX.seq ?_
      refine AX.reg (its := [.auto { nk := 4 }]) [2, 4, 5, 6] [0, 1, 2, 3, 4] (s1 := ⟨[(2, .pt 0 0), (4, .pt 1 0), (5, .pt 3 0), (6, .sl 4 0 (([] : List (Int)).length))], [(0, .box [.v (.slice none 0 0), .v (.int .i64 0)]), (1, .box [.bs true 1 (List.map enc_y x2), .v (.int .i64 x3.2.2)]), (2, .arr 2 (List.map enc_si x3.1)), (3, .box [.sl 2 0 x3.1.length, .v (.int .i64 x3.2.1)]), (4, .arr 1 (List.map enc_i ([] : List (Int))))]⟩) (C := True) (by kernel_rfl) trivial trivial ?_
      refine AX.seq ?_
      refine AX.seq ?_
      obtain ⟨x20, e20, h⟩ := bd_e h
      refine AX.reg (its := [.auto {}, .auto { nk := 5 }, .call 78 [.pt 1 0, .sl 5 0 (([4, 3, 6, 2, 0, 8] : List (Int)).length)] (handO (rho ([1] ++ [])) [1] [.box [.bs true 1 (List.map enc_y x2), .v (.int .i64 x3.2.2)]] ++ [(5, .arr 1 (List.map enc_i ([4, 3, 6, 2, 0, 8] : List (Int))))]) (callEv [1] [] (.v (.int .i64 x20)) [.box [.bs true 1 (List.map enc_y x2), .v (.int .i64 (IntKind.wrap .i64 (x3.2.2 + 1)))]])]) [2, 4, 5, 6, 7] [0, 1, 2, 3, 4] (s1 := ⟨[(2, .pt 0 0), (4, .pt 1 0), (5, .pt 3 0), (6, .sl 4 0 (([] : List (Int)).length)), (7, .v (.int .i64 x20))], [(0, .box [.v (.slice none 0 0), .v (.int .i64 0)]), (1, .box [.bs true 1 (List.map enc_y x2), .v (.int .i64 (IntKind.wrap .i64 (x3.2.2 + 1)))]), (2, .arr 2 (List.map enc_si x3.1)), (3, .box [.sl 2 0 x3.1.length, .v (.int .i64 x3.2.1)]), (4, .arr 1 (List.map enc_i ([] : List (Int))))]⟩) (C := ((([.pt 1 0, .sl 5 0 (([4, 3, 6, 2, 0, 8] : List (Int)).length)] : List AV) = [.pt 1 0, .sl 5 0 (([4, 3, 6, 2, 0, 8] : List (Int)).length)]) ∧ (AO.box [.bs true 1 (List.map enc_y x2), .v (.int .i64 x3.2.2)] = AO.box [.bs true 1 (List.map enc_y x2), .v (.int .i64 x3.2.2)]) ∧ (AO.arr 1 (List.map enc_i ([4, 3, 6, 2, 0, 8] : List (Int))) = AO.arr 1 (List.map enc_i ([4, 3, 6, 2, 0, 8] : List (Int)))) ∧ True) ∧ True) (by kernel_rfl) ⟨⟨rfl, rfl, rfl, trivial⟩, trivial⟩ ⟨call_ok (ks := [1]) (ns := []) (bor := [5]) (bobjs := [(5, .arr 1 (List.map enc_i ([4, 3, 6, 2, 0, 8] : List (Int))))]) (s_spec_reader_one ([4, 3, 6, 2, 0, 8] : List (Int)) x2 x3.2.2 x20 e20) (.cons (.c1 (.c0 (.same _ (by kernel_rfl) (by kernel_rfl)))) (.cons (.c1 (.c0 (.arr rfl rfl ((rfl).trans (List.length_map ..).symm)))) (.nil))) (by kernel_rfl) ⟨.inr rfl, trivial⟩, trivial⟩ ?_
      refine AX.block ?_
      obtain ⟨x25, e24, h⟩ := bd_e h
      refine AX.wk (Wk.swap 2 3 (Nat.le_of_ble_eq_true (by kernel_rfl)) (Nat.le_of_ble_eq_true (by kernel_rfl)) rfl) ?_
      refine AX.wk (Wk.forget [2, 4, 5, 6, 7] [0, 1, 2, 3, 4] (s' := ⟨[(2, .pt 0 0), (4, .pt 1 0), (5, .pt 2 0), (6, .sl 4 0 (([] : List (Int)).length)), (7, .v (.int .i64 x20))], [(0, .box [.v (.slice none 0 0), .v (.int .i64 0)]), (1, .box [.bs true 1 (List.map enc_y x2), .v (.int .i64 (IntKind.wrap .i64 (x3.2.2 + 1)))]), (2, .box [.sl 3 0 x3.1.length, .v (.int .i64 x3.2.1)]), (3, .arr 2 (List.map enc_si x3.1)), (4, .arr 1 (List.map enc_i ([] : List (Int))))]⟩) (by kernel_rfl)) ?_
      refine AX.mono (s_spec_DrawGreatestArms_L3 x2 x3 FU (IntKind.wrap .i64 (x3.2.2 + 1), ([] : List (Int)), x20) x25 e24) ?_
      rintro _ _ ⟨rfl, rfl⟩
      skip
      refine AX.seq ?_
      refine AX.reg (its := []) [2, 3] [0, 2, 3] (s1 := ⟨[(2, .pt 0 0), (3, .sl 3 0 x25.length)], [(0, .box [.sl 2 0 x3.1.length, .v (.int .i64 x3.2.1)]), (2, .arr 2 (List.map enc_si x3.1)), (3, .arr 1 (List.map enc_i x25))]⟩) (C := True) (by kernel_rfl) trivial trivial ?_
      refine AX.ret ?_
      refine fin_wk (Wk.swap 1 2 (Nat.le_of_ble_eq_true (by kernel_rfl)) (Nat.le_of_ble_eq_true (by kernel_rfl)) rfl) ?_
      refine fin_wk (Wk.swap 2 3 (Nat.le_of_ble_eq_true (by kernel_rfl)) (Nat.le_of_ble_eq_true (by kernel_rfl)) rfl) ?_
      refine fin_wk (Wk.forget [2, 3] [0, 1, 2] (s' := ⟨[(2, .pt 0 0), (3, .sl 2 0 x25.length)], [(0, .box [.sl 1 0 x3.1.length, .v (.int .i64 x3.2.1)]), (1, .arr 2 (List.map enc_si x3.1)), (2, .arr 1 (List.map enc_i x25))]⟩) (by kernel_rfl)) ?_
      have hr := Option.some.inj h
      subst hr
      exact ⟨_, Wk.refl _, .inr rfl, ⟨[1, 2], by kernel_rfl, ⟨rfl, rfl, trivial⟩, [.agg [.sl 1 0 x3.1.length, .v (.int .i64 x3.2.1)], .sl 2 0 x25.length], by kernel_rfl, by kernel_rfl⟩⟩
  · replace h := cd_f b4 h
    refine AX.reg (its := [.auto {}, .call 74 [.agg [.sl 2 0 x3.1.length, .v (.int .i64 x3.2.1)]] (handO (rho ([] ++ [])) [] [] ++ [(2, .arr 2 (List.map enc_si x3.1))]) (callEv [] [] (.v (.bool false)) [])]) [2, 4, 5, 25] [0, 1, 2, 3] (s1 := ⟨[(2, .pt 0 0), (4, .pt 1 0), (5, .pt 3 0), (25, .v (.bool false))], [(0, .box [.v (.slice none 0 0), .v (.int .i64 0)]), (1, .box [.bs true 1 (List.map enc_y x2), .v (.int .i64 x3.2.2)]), (2, .arr 2 (List.map enc_si x3.1)), (3, .box [.sl 2 0 x3.1.length, .v (.int .i64 x3.2.1)])]⟩) (C := ((([.agg [.sl 2 0 x3.1.length, .v (.int .i64 x3.2.1)]] : List AV) = [.agg [.sl 2 0 x3.1.length, .v (.int .i64 x3.2.1)]]) ∧ (AO.arr 2 (List.map enc_si x3.1) = AO.arr 2 (List.map enc_si x3.1)) ∧ True) ∧ True) (by kernel_rfl) ⟨⟨rfl, rfl, trivial⟩, trivial⟩ ⟨call_ok (ks := []) (ns := []) (bor := [2]) (bobjs := [(2, .arr 2 (List.map enc_si x3.1))]) (show Eng.Spec Try.prog 74 [.agg [.bs false 2 (List.map enc_si x3.1), .v (.int .i64 x3.2.1)]] [] (.v (.bool false)) [] from by have q := s_spec_validFlag x3.1 x3.2.1 x4 e3; rw [b4] at q; exact q) (.cons (.c1 (.agg (.cons (.arr rfl rfl ((rfl).trans (List.length_map ..).symm)) (.cons (.same _ (by kernel_rfl) (by kernel_rfl)) (.nil))))) (.nil)) (by kernel_rfl) trivial, trivial⟩ ?_
    refine AX.cond_false (by kernel_rfl) ?_
    refine AX.skip ?_
    refine AX.seq ?_
    refine AX.reg (its := [.auto { nk := 4 }]) [2, 4, 5, 6] [0, 1, 2, 3, 4] (s1 := ⟨[(2, .pt 0 0), (4, .pt 1 0), (5, .pt 3 0), (6, .sl 4 0 (([] : List (Int)).length))], [(0, .box [.v (.slice none 0 0), .v (.int .i64 0)]), (1, .box [.bs true 1 (List.map enc_y x2), .v (.int .i64 x3.2.2)]), (2, .arr 2 (List.map enc_si x3.1)), (3, .box [.sl 2 0 x3.1.length, .v (.int .i64 x3.2.1)]), (4, .arr 1 (List.map enc_i ([] : List (Int))))]⟩) (C := True) (by kernel_rfl) trivial trivial ?_
    refine AX.seq ?_
    refine AX.seq ?_
    obtain ⟨x26, e25, h⟩ := bd_e h
    refine AX.reg (its := [.auto {}, .auto { nk := 5 }, .call 78 [.pt 1 0, .sl 5 0 (([4, 3, 6, 2, 0, 8] : List (Int)).length)] (handO (rho ([1] ++ [])) [1] [.box [.bs true 1 (List.map enc_y x2), .v (.int .i64 x3.2.2)]] ++ [(5, .arr 1 (List.map enc_i ([4, 3, 6, 2, 0, 8] : List (Int))))]) (callEv [1] [] (.v (.int .i64 x26)) [.box [.bs true 1 (List.map enc_y x2), .v (.int .i64 (IntKind.wrap .i64 (x3.2.2 + 1)))]])]) [2, 4, 5, 6, 7] [0, 1, 2, 3, 4] (s1 := ⟨[(2, .pt 0 0), (4, .pt 1 0), (5, .pt 3 0), (6, .sl 4 0 (([] : List (Int)).length)), (7, .v (.int .i64 x26))], [(0, .box [.v (.slice none 0 0), .v (.int .i64 0)]), (1, .box [.bs true 1 (List.map enc_y x2), .v (.int .i64 (IntKind.wrap .i64 (x3.2.2 + 1)))]), (2, .arr 2 (List.map enc_si x3.1)), (3, .box [.sl 2 0 x3.1.length, .v (.int .i64 x3.2.1)]), (4, .arr 1 (List.map enc_i ([] : List (Int))))]⟩) (C := ((([.pt 1 0, .sl 5 0 (([4, 3, 6, 2, 0, 8] : List (Int)).length)] : List AV) = [.pt 1 0, .sl 5 0 (([4, 3, 6, 2, 0, 8] : List (Int)).length)]) ∧ (AO.box [.bs true 1 (List.map enc_y x2), .v (.int .i64 x3.2.2)] = AO.box [.bs true 1 (List.map enc_y x2), .v (.int .i64 x3.2.2)]) ∧ (AO.arr 1 (List.map enc_i ([4, 3, 6, 2, 0, 8] : List (Int))) = AO.arr 1 (List.map enc_i ([4, 3, 6, 2, 0, 8] : List (Int)))) ∧ True) ∧ True) (by kernel_rfl) ⟨⟨rfl, rfl, rfl, trivial⟩, trivial⟩ ⟨call_ok (ks := [1]) (ns := []) (bor := [5]) (bobjs := [(5, .arr 1 (List.map enc_i ([4, 3, 6, 2, 0, 8] : List (Int))))]) (s_spec_reader_one ([4, 3, 6, 2, 0, 8] : List (Int)) x2 x3.2.2 x26 e25) (.cons (.c1 (.c0 (.same _ (by kernel_rfl) (by kernel_rfl)))) (.cons (.c1 (.c0 (.arr rfl rfl ((rfl).trans (List.length_map ..).symm)))) (.nil))) (by kernel_rfl) ⟨.inr rfl, trivial⟩, trivial⟩ ?_
    refine AX.block ?_
    obtain ⟨x31, e29, h⟩ := bd_e h
    refine AX.wk (Wk.swap 2 3 (Nat.le_of_ble_eq_true (by kernel_rfl)) (Nat.le_of_ble_eq_true (by kernel_rfl)) rfl) ?_
    refine AX.wk (Wk.forget [2, 4, 5, 6, 7] [0, 1, 2, 3, 4] (s' := ⟨[(2, .pt 0 0), (4, .pt 1 0), (5, .pt 2 0), (6, .sl 4 0 (([] : List (Int)).length)), (7, .v (.int .i64 x26))], [(0, .box [.v (.slice none 0 0), .v (.int .i64 0)]), (1, .box [.bs true 1 (List.map enc_y x2), .v (.int .i64 (IntKind.wrap .i64 (x3.2.2 + 1)))]), (2, .box [.sl 3 0 x3.1.length, .v (.int .i64 x3.2.1)]), (3, .arr 2 (List.map enc_si x3.1)), (4, .arr 1 (List.map enc_i ([] : List (Int))))]⟩) (by kernel_rfl)) ?_
    refine AX.mono (s_spec_DrawGreatestArms_L4 x2 x3 FU (IntKind.wrap .i64 (x3.2.2 + 1), ([] : List (Int)), x26) x31 e29) ?_
    rintro _ _ ⟨rfl, rfl⟩
    skip
    refine AX.seq ?_
    refine AX.reg (its := []) [2, 3] [0, 2, 3] (s1 := ⟨[(2, .pt 0 0), (3, .sl 3 0 x31.length)], [(0, .box [.sl 2 0 x3.1.length, .v (.int .i64 x3.2.1)]), (2, .arr 2 (List.map enc_si x3.1)), (3, .arr 1 (List.map enc_i x31))]⟩) (C := True) (by kernel_rfl) trivial trivial ?_
    refine AX.ret ?_
    refine fin_wk (Wk.swap 1 2 (Nat.le_of_ble_eq_true (by kernel_rfl)) (Nat.le_of_ble_eq_true (by kernel_rfl)) rfl) ?_
    refine fin_wk (Wk.swap 2 3 (Nat.le_of_ble_eq_true (by kernel_rfl)) (Nat.le_of_ble_eq_true (by kernel_rfl)) rfl) ?_
    refine fin_wk (Wk.forget [2, 3] [0, 1, 2] (s' := ⟨[(2, .pt 0 0), (3, .sl 2 0 x31.length)], [(0, .box [.sl 1 0 x3.1.length, .v (.int .i64 x3.2.1)]), (1, .arr 2 (List.map enc_si x3.1)), (2, .arr 1 (List.map enc_i x31))]⟩) (by kernel_rfl)) ?_
    have hr := Option.some.inj h
    subst hr
    exact ⟨_, Wk.refl _, .inr rfl, ⟨[1, 2], by kernel_rfl, ⟨rfl, rfl, trivial⟩, [.agg [.sl 1 0 x3.1.length, .v (.int .i64 x3.2.1)], .sl 2 0 x31.length], by kernel_rfl, by kernel_rfl⟩⟩

theorem s_impl_in (p1 : Int) (p2 : Int) (p3 : Int) (r : Bool) (h : m_impl_in p1 p2 p3 = some r) :
    Eng.Spec Try.prog 130 [.v (.int .i64 p1), .v (.int .i64 p2), .v (.int .i64 p3)] [] (.v (.bool r)) [] := by
  unfold m_impl_in at h
  refine Eng.Spec.body Try.func130 (by kernel_rfl) rfl (by kernel_rfl) ?_
  refine AX.wkpost ?_
  refine AX.seq ?_
  refine AX.reg (its := []) [0, 1, 2] [] (s1 := ⟨[(0, .v (.int .i64 p1)), (1, .v (.int .i64 p2)), (2, .v (.int .i64 p3))], []⟩) (C := True) (by kernel_rfl) trivial trivial ?_
  refine AX.seq ?_
  rcases bool_cases (decide (p2 ≤ p1)) with b1 | b1
  · replace h := cd_t b1 h
    refine AX.reg (its := [.auto {}, .auto {}, .auto { y := some (.v (.bool true)) }]) [6] [] (s1 := ⟨[(6, .v (.bool (decide (p1 ≤ p3))))], []⟩) (C := ((True) ∧ ((.v (.bool (decide (p2 ≤ p1))) : AV) = (.v (.bool true) : AV))) ∧ True) (by kernel_rfl) ⟨⟨trivial, (congrArg (fun z => AV.v (.bool z)) b1)⟩, trivial⟩ trivial ?_
    refine AX.ret ?_
    refine fin_wk (Wk.forget [6] [] (s' := ⟨[(6, .v (.bool (decide (p1 ≤ p3))))], []⟩) (by kernel_rfl)) ?_
    have hr := Option.some.inj h
    subst hr
    exact ⟨_, Wk.refl _, .inr rfl, ⟨[], by kernel_rfl, trivial, [.v (.bool (decide (p1 ≤ p3)))], by kernel_rfl, by kernel_rfl⟩⟩
  · replace h := cd_f b1 h
    refine AX.reg (its := [.auto {}, .auto {}, .auto { y := some (.v (.bool false)) }]) [6] [] (s1 := ⟨[(6, .v (.bool false))], []⟩) (C := ((True) ∧ ((.v (.bool (decide (p2 ≤ p1))) : AV) = (.v (.bool false) : AV))) ∧ True) (by kernel_rfl) ⟨⟨trivial, (congrArg (fun z => AV.v (.bool z)) b1)⟩, trivial⟩ trivial ?_
    refine AX.ret ?_
    refine fin_wk (Wk.forget [6] [] (s' := ⟨[(6, .v (.bool false))], []⟩) (by kernel_rfl)) ?_
    have hr := Option.some.inj h
    subst hr
    exact ⟨_, Wk.refl _, .inr rfl, ⟨[], by kernel_rfl, trivial, [.v (.bool false)], by kernel_rfl, by kernel_rfl⟩⟩

theorem s_impl_ValidName_L1 (p1 : ByteArray) (n : Nat) (g : Int) (out : Unit ⊕ Unit) (h : m_impl_ValidName_L1 p1 n g = some out) :
    AX Try.prog 23 0 (codeAt [1, 0, 1, 1] (bodyOf Try.f169)) ((fun g : Int => (⟨[(0, .v (.string p1)), (3, .v (.int .i64 g))], []⟩ : S)) g) (fun ex s => (∃ o : Unit, out = Sum.inl o ∧ ex = .ret ∧ s = ⟨[(2, .v (.bool false))], []⟩) ∨ (∃ o : Unit, out = Sum.inr o ∧ ex = .exit 0 ∧ s = ⟨[(0, .v (.string p1))], []⟩)) := by
  refine AX.wkpost ?_
  refine AX.loop (G := Nat × (Int)) (fun q => (fun g : Int => (⟨[(0, .v (.string p1)), (3, .v (.int .i64 g))], []⟩ : S)) q.2) (fun q => m_impl_ValidName_L1 p1 q.1 q.2 = some out) (fun q => q.1) (n, g) h (Wk.refl _) ?_
  clear h
  rintro ⟨fu, v2⟩ h
  cases fu with
  | zero => cases h
  | succ fu =>
    rw [m_impl_ValidName_L1] at h
    refine AX.seq ?_
    refine AX.seq ?_
    refine AX.reg (its := []) [0, 3, 7] [] (s1 := ⟨[(0, .v (.string p1)), (3, .v (.int .i64 v2)), (7, .v (.bool (decide (v2 < (p1.size : Int)))))], []⟩) (C := True) (by kernel_rfl) trivial trivial ?_
    rcases bool_cases (decide (v2 < (p1.size : Int))) with b1 | b1
    · replace h := cd_t b1 h
      refine AX.condT (decide (v2 < (p1.size : Int))) (by kernel_rfl) b1 ?_
      refine AX.skip ?_
      refine AX.seq ?_
      refine AX.block ?_
      refine AX.seq ?_
      obtain ⟨g2, h⟩ := gd_e h
      rcases bool_cases (decide ((byteAt p1 v2.toNat) < 97)) with b3 | b3
      · replace h := cd_t b3 h
        refine AX.reg (its := [.auto {}, .auto {}, .auto {}, .auto { y := some (.v (.bool true)) }]) [0, 3, 19] [] (s1 := ⟨[(0, .v (.string p1)), (3, .v (.int .i64 v2)), (19, .v (.bool true))], []⟩) (C := (0 ≤ v2 ∧ v2 < (p1.size : Int)) ∧ ((True) ∧ ((.v (.bool (decide ((byteAt p1 v2.toNat) < 97))) : AV) = (.v (.bool true) : AV))) ∧ True) (by kernel_rfl) ⟨g2, ⟨⟨trivial, (congrArg (fun z => AV.v (.bool z)) b3)⟩, trivial⟩⟩ trivial ?_
        refine AX.cond_true (by kernel_rfl) ?_
        refine AX.seq ?_
        refine AX.reg (its := []) [2] [] (s1 := ⟨[(2, .v (.bool false))], []⟩) (C := True) (by kernel_rfl) trivial trivial ?_
        refine AX.ret ?_
        refine fin_wk (Wk.forget [2] [] (s' := ⟨[(2, .v (.bool false))], []⟩) (by kernel_rfl)) ?_
        have hr := Option.some.inj h
        subst hr
        exact ⟨_, Wk.refl _, .inl ⟨(), rfl, rfl, rfl⟩⟩
      · replace h := cd_f b3 h
        refine AX.reg (its := [.auto {}, .auto {}, .auto {}, .auto { y := some (.v (.bool false)) }]) [0, 3, 19] [] (s1 := ⟨[(0, .v (.string p1)), (3, .v (.int .i64 v2)), (19, .v (.bool (decide (122 < (byteAt p1 v2.toNat)))))], []⟩) (C := (0 ≤ v2 ∧ v2 < (p1.size : Int)) ∧ ((True) ∧ ((.v (.bool (decide ((byteAt p1 v2.toNat) < 97))) : AV) = (.v (.bool false) : AV))) ∧ (0 ≤ v2 ∧ v2 < (p1.size : Int)) ∧ True) (by kernel_rfl) ⟨g2, ⟨⟨trivial, (congrArg (fun z => AV.v (.bool z)) b3)⟩, ⟨g2, trivial⟩⟩⟩ trivial ?_
        rcases bool_cases (decide (122 < (byteAt p1 v2.toNat))) with b4 | b4
        · replace h := cd_t b4 h
          refine AX.condT (decide (122 < (byteAt p1 v2.toNat))) (by kernel_rfl) b4 ?_
          refine AX.seq ?_
          refine AX.reg (its := []) [2] [] (s1 := ⟨[(2, .v (.bool false))], []⟩) (C := True) (by kernel_rfl) trivial trivial ?_
          refine AX.ret ?_
          refine fin_wk (Wk.forget [2] [] (s' := ⟨[(2, .v (.bool false))], []⟩) (by kernel_rfl)) ?_
          have hr := Option.some.inj h
          subst hr
          exact ⟨_, Wk.refl _, .inl ⟨(), rfl, rfl, rfl⟩⟩
        · replace h := cd_f b4 h
          refine AX.condF (decide (122 < (byteAt p1 v2.toNat))) (by kernel_rfl) b4 ?_
          refine AX.skip ?_
          refine AX.reg (its := [.auto {}, .auto { raw := true }]) [0, 3] [] (s1 := ⟨[(0, .v (.string p1)), (3, .v (.int .i64 (IntKind.wrap .i64 (v2 + 1))))], []⟩) (C := True) (by kernel_rfl) trivial trivial ?_
          refine ⟨(fu, IntKind.wrap .i64 (v2 + 1)), h, Nat.lt_succ_self _, ?_⟩
          refine Wk.trans (Wk.forget [0, 3] [] (s' := ⟨[(0, .v (.string p1)), (3, .v (.int .i64 (IntKind.wrap .i64 (v2 + 1))))], []⟩) (by kernel_rfl)) ?_
          exact Wk.refl _
    · replace h := cd_f b1 h
      refine AX.condF (decide (v2 < (p1.size : Int))) (by kernel_rfl) b1 ?_
      refine AX.exit ?_
      refine fin_wk (Wk.forget [0] [] (s' := ⟨[(0, .v (.string p1))], []⟩) (by kernel_rfl)) ?_
      have hr := Option.some.inj h
      subst hr
      exact ⟨_, Wk.refl _, .inr ⟨(), rfl, rfl, rfl⟩⟩

theorem s_impl_ValidName (p1 : ByteArray) (r : Bool) (h : m_impl_ValidName p1 = some r) :
    Eng.Spec Try.prog 169 [.v (.string p1)] [] (.v (.bool r)) [] := by
  unfold m_impl_ValidName at h
  refine Eng.Spec.body Try.func169 (by kernel_rfl) rfl (by kernel_rfl) ?_
  refine AX.wkpost ?_
  refine AX.seq ?_
  refine AX.reg (its := []) [0] [] (s1 := ⟨[(0, .v (.string p1))], []⟩) (C := True) (by kernel_rfl) trivial trivial ?_
  refine AX.seq ?_
  refine AX.seq ?_
  refine AX.reg (its := []) [0, 3] [] (s1 := ⟨[(0, .v (.string p1)), (3, .v (.int .i64 0))], []⟩) (C := True) (by kernel_rfl) trivial trivial ?_
  refine AX.block ?_
  obtain ⟨x3, e5, h⟩ := bd_e h
  refine AX.wk (Wk.forget [0, 3] [] (s' := ⟨[(0, .v (.string p1)), (3, .v (.int .i64 0))], []⟩) (by kernel_rfl)) ?_
  refine AX.mono (s_impl_ValidName_L1 p1 FU 0 x3 e5) ?_
  rintro _ _ (⟨x4, rfl, rfl, rfl⟩ | ⟨x5, rfl, rfl, rfl⟩)
  · replace h := sm_l h
    refine fin_wk (Wk.forget [2] [] (s' := ⟨[(2, .v (.bool false))], []⟩) (by kernel_rfl)) ?_
    have hr := Option.some.inj h
    subst hr
    exact ⟨_, Wk.refl _, .inr rfl, ⟨[], by kernel_rfl, trivial, [.v (.bool false)], by kernel_rfl, by kernel_rfl⟩⟩
  · replace h := sm_r h
    refine AX.seq ?_
    obtain ⟨x6, e6, h⟩ := bd_e h
    refine AX.reg (its := [.auto {}, .auto {}, .call 130 [.v (.int .i64 (p1.size : Int)), .v (.int .i64 1), .v (.int .i64 6)] (handO (rho ([] ++ [])) [] [] ++ []) (callEv [] [] (.v (.bool x6)) [])]) [2] [] (s1 := ⟨[(2, .v (.bool x6))], []⟩) (C := ((([.v (.int .i64 (p1.size : Int)), .v (.int .i64 1), .v (.int .i64 6)] : List AV) = [.v (.int .i64 (p1.size : Int)), .v (.int .i64 1), .v (.int .i64 6)]) ∧ True) ∧ True) (by kernel_rfl) ⟨⟨rfl, trivial⟩, trivial⟩ ⟨call_ok (ks := []) (ns := []) (bor := []) (bobjs := []) (s_impl_in (p1.size : Int) 1 6 x6 e6) (.cons (.c1 (.c0 (.same _ (by kernel_rfl) (by kernel_rfl)))) (.cons (.c1 (.c0 (.same _ (by kernel_rfl) (by kernel_rfl)))) (.cons (.c1 (.c0 (.same _ (by kernel_rfl) (by kernel_rfl)))) (.nil)))) (by kernel_rfl) trivial, trivial⟩ ?_
    refine AX.ret ?_
    refine fin_wk (Wk.forget [2] [] (s' := ⟨[(2, .v (.bool x6))], []⟩) (by kernel_rfl)) ?_
    have hr := Option.some.inj h
    subst hr
    exact ⟨_, Wk.refl _, .inr rfl, ⟨[], by kernel_rfl, trivial, [.v (.bool x6)], by kernel_rfl, by kernel_rfl⟩⟩

theorem s_impl_named_1_l (p1 : ByteArray) (p2 : Int) (p3 : ByteArray) (r : Unit) (h : m_impl_named_1_l p1 p2 p3 = some r) :
    Eng.Spec Try.prog 171 [.agg [.v (.string p1), .v (.int .i64 p2)], .bp [.v (.string p3)] 0] [] (.v (.bool (decide (p1 = p3)))) [] := by
  unfold m_impl_named_1_l at h
  refine Eng.Spec.body Try.func171 (by kernel_rfl) rfl (by kernel_rfl) ?_
  refine AX.wkpost ?_
  refine AX.seq ?_
  refine AX.reg (its := [.auto { nk := 0 }]) [1, 2] [0] (s1 := ⟨[(1, .bp [.v (.string p3)] 0), (2, .pt 0 0)], [(0, .box [.v (.string p1), .v (.int .i64 p2)])]⟩) (C := True) (by kernel_rfl) trivial trivial ?_
  refine AX.seq ?_
  refine AX.reg (its := []) [3] [] (s1 := ⟨[(3, .v (.bool (decide (p1 = p3))))], []⟩) (C := True) (by kernel_rfl) trivial trivial ?_
  refine AX.ret ?_
  refine fin_wk (Wk.forget [3] [] (s' := ⟨[(3, .v (.bool (decide (p1 = p3))))], []⟩) (by kernel_rfl)) ?_
  have hr := Option.some.inj h
  subst hr
  exact ⟨_, Wk.refl _, .inr rfl, ⟨[], by kernel_rfl, trivial, [.v (.bool (decide (p1 = p3)))], by kernel_rfl, by kernel_rfl⟩⟩

theorem s_slices_IndexFunc_si_named_1_l_L1 (p1 : List (ByteArray × Int)) (p2 : ByteArray) (n : Nat) (g : Int) (out : Int ⊕ Unit) (h : m_slices_IndexFunc_si_named_1_l_L1 p1 p2 n g = some out) :
    AX Try.prog 19 0 (codeAt [1, 0, 1, 1] (bodyOf Try.f170)) ((fun g : Int => (⟨[(0, .bs false 2 (List.map enc_si p1)), (1, .fn 171 [.bp [.v (.string p2)] 0]), (7, .v (.int .i64 (p1.length : Int))), (8, .v (.int .i64 g))], []⟩ : S)) g) (fun ex s => (∃ o : Int, out = Sum.inl o ∧ ex = .ret ∧ s = ⟨[(4, .v (.int .i64 o))], []⟩) ∨ (∃ o : Unit, out = Sum.inr o ∧ ex = .exit 0 ∧ s = ⟨[], []⟩)) := by
  refine AX.wkpost ?_
  refine AX.loop (G := Nat × (Int)) (fun q => (fun g : Int => (⟨[(0, .bs false 2 (List.map enc_si p1)), (1, .fn 171 [.bp [.v (.string p2)] 0]), (7, .v (.int .i64 (p1.length : Int))), (8, .v (.int .i64 g))], []⟩ : S)) q.2) (fun q => m_slices_IndexFunc_si_named_1_l_L1 p1 p2 q.1 q.2 = some out) (fun q => q.1) (n, g) h (Wk.refl _) ?_
  clear h
  rintro ⟨fu, v3⟩ h
  cases fu with
  | zero => cases h
  | succ fu =>
    rw [m_slices_IndexFunc_si_named_1_l_L1] at h
    refine AX.seq ?_
    refine AX.reg (its := []) [0, 1, 7, 8, 9] [] (s1 := ⟨[(0, .bs false 2 (List.map enc_si p1)), (1, .fn 171 [.bp [.v (.string p2)] 0]), (7, .v (.int .i64 (p1.length : Int))), (8, .v (.int .i64 v3)), (9, .v (.bool (decide (v3 < (p1.length : Int)))))], []⟩) (C := True) (by kernel_rfl) trivial trivial ?_
    refine AX.seq ?_
    rcases bool_cases (decide (v3 < (p1.length : Int))) with b1 | b1
    · replace h := cd_t b1 h
      refine AX.condT (decide (v3 < (p1.length : Int))) (by kernel_rfl) b1 ?_
      refine AX.skip ?_
      refine AX.seq ?_
      refine AX.block ?_
      refine AX.seq ?_
      refine AX.reg (its := []) [0, 1, 5, 7, 8] [] (s1 := ⟨[(0, .bs false 2 (List.map enc_si p1)), (1, .fn 171 [.bp [.v (.string p2)] 0]), (5, .v (.int .i64 v3)), (7, .v (.int .i64 (p1.length : Int))), (8, .v (.int .i64 v3))], []⟩) (C := True) (by kernel_rfl) trivial trivial ?_
      refine AX.seq ?_
      obtain ⟨g2, h⟩ := gd_e h
      obtain ⟨x4, e3, h⟩ := bd_e h
      refine AX.reg (its := [.auto {}, .auto {}, .auto {}, .auto { y := some (.be 2 (enc_si (gt p1 v3)) 0) }, .auto {}, .call 171 [.agg [.v (.string ((gt p1 v3).1)), .v (.int .i64 ((gt p1 v3).2))], .bp [.v (.string p2)] 0] (handO (rho ([] ++ [])) [] [] ++ []) (callEv [] [] (.v (.bool (decide (((gt p1 v3).1) = p2)))) [])]) [0, 1, 5, 7, 8, 16] [] (s1 := ⟨[(0, .bs false 2 (List.map enc_si p1)), (1, .fn 171 [.bp [.v (.string p2)] 0]), (5, .v (.int .i64 v3)), (7, .v (.int .i64 (p1.length : Int))), (8, .v (.int .i64 v3)), (16, .v (.bool (decide (((gt p1 v3).1) = p2))))], []⟩) (C := ((0 ≤ v3 ∧ v3 < ((List.map enc_si p1).length : Int)) ∧ (AV.be 2 ((List.map enc_si p1).getD v3.toNat []) 0 = AV.be 2 (enc_si (gt p1 v3)) 0)) ∧ ((([.agg [.v (.string ((gt p1 v3).1)), .v (.int .i64 ((gt p1 v3).2))], .bp [.v (.string p2)] 0] : List AV) = [.agg [.v (.string ((gt p1 v3).1)), .v (.int .i64 ((gt p1 v3).2))], .bp [.v (.string p2)] 0]) ∧ True) ∧ True) (by kernel_rfl) ⟨idx_bs enc_si p1 v3 2 g2, ⟨⟨rfl, trivial⟩, trivial⟩⟩ ⟨call_ok (ks := []) (ns := []) (bor := []) (bobjs := []) (s_impl_named_1_l ((gt p1 v3).1) ((gt p1 v3).2) p2 x4 e3) (.cons (.c1 (.agg (.cons (.same _ (by kernel_rfl) (by kernel_rfl)) (.cons (.same _ (by kernel_rfl) (by kernel_rfl)) (.nil))))) (.cons (.c1 (.bp (.cons (.same _ (by kernel_rfl) (by kernel_rfl)) (.nil)))) (.nil))) (by kernel_rfl) trivial, trivial⟩ ?_
      rcases bool_cases (decide (((gt p1 v3).1) = p2)) with b4 | b4
      · replace h := cd_t b4 h
        refine AX.condT (decide (((gt p1 v3).1) = p2)) (by kernel_rfl) b4 ?_
        refine AX.seq ?_
        refine AX.reg (its := []) [4] [] (s1 := ⟨[(4, .v (.int .i64 v3))], []⟩) (C := True) (by kernel_rfl) trivial trivial ?_
        refine AX.ret ?_
        refine fin_wk (Wk.forget [4] [] (s' := ⟨[(4, .v (.int .i64 v3))], []⟩) (by kernel_rfl)) ?_
        have hr := Option.some.inj h
        subst hr
        exact ⟨_, Wk.refl _, .inl ⟨v3, rfl, rfl, rfl⟩⟩
      · replace h := cd_f b4 h
        refine AX.condF (decide (((gt p1 v3).1) = p2)) (by kernel_rfl) b4 ?_
        refine AX.skip ?_
        refine AX.reg (its := [.auto { raw := true }]) [0, 1, 7, 8] [] (s1 := ⟨[(0, .bs false 2 (List.map enc_si p1)), (1, .fn 171 [.bp [.v (.string p2)] 0]), (7, .v (.int .i64 (p1.length : Int))), (8, .v (.int .i64 (IntKind.wrap .i64 (v3 + 1))))], []⟩) (C := True) (by kernel_rfl) trivial trivial ?_
        refine ⟨(fu, IntKind.wrap .i64 (v3 + 1)), h, Nat.lt_succ_self _, ?_⟩
        refine Wk.trans (Wk.forget [0, 1, 7, 8] [] (s' := ⟨[(0, .bs false 2 (List.map enc_si p1)), (1, .fn 171 [.bp [.v (.string p2)] 0]), (7, .v (.int .i64 (p1.length : Int))), (8, .v (.int .i64 (IntKind.wrap .i64 (v3 + 1))))], []⟩) (by kernel_rfl)) ?_
        exact Wk.refl _
    · replace h := cd_f b1 h
      refine AX.condF (decide (v3 < (p1.length : Int))) (by kernel_rfl) b1 ?_
      refine AX.exit ?_
      refine fin_wk (Wk.forget [] [] (s' := ⟨[], []⟩) (by kernel_rfl)) ?_
      have hr := Option.some.inj h
      subst hr
      exact ⟨_, Wk.refl _, .inr ⟨(), rfl, rfl, rfl⟩⟩

theorem s_slices_IndexFunc_si_named_1_l (p1 : List (ByteArray × Int)) (p2 : ByteArray) (r : Int) (h : m_slices_IndexFunc_si_named_1_l p1 p2 = some r) :
    Eng.Spec Try.prog 170 [.bs false 2 (List.map enc_si p1), .fn 171 [.bp [.v (.string p2)] 0]] [] (.v (.int .i64 r)) [] := by
  unfold m_slices_IndexFunc_si_named_1_l at h
  refine Eng.Spec.body Try.func170 (by kernel_rfl) rfl (by kernel_rfl) ?_
  refine AX.wkpost ?_
  refine AX.seq ?_
  refine AX.reg (its := []) [0, 1] [] (s1 := ⟨[(0, .bs false 2 (List.map enc_si p1)), (1, .fn 171 [.bp [.v (.string p2)] 0])], []⟩) (C := True) (by kernel_rfl) trivial trivial ?_
  refine AX.seq ?_
  refine AX.seq ?_
  refine AX.reg (its := [.auto {}, .auto { y := some (.v (.int .i64 (p1.length : Int))) }]) [0, 1, 7, 8] [] (s1 := ⟨[(0, .bs false 2 (List.map enc_si p1)), (1, .fn 171 [.bp [.v (.string p2)] 0]), (7, .v (.int .i64 (p1.length : Int))), (8, .v (.int .i64 0))], []⟩) (C := (True ∧ (AV.v (.int .i64 ((List.map enc_si p1).length : Int)) = AV.v (.int .i64 (p1.length : Int)))) ∧ True) (by kernel_rfl) ⟨⟨trivial, len_map enc_si p1⟩, trivial⟩ trivial ?_
  refine AX.block ?_
  obtain ⟨x5, e5, h⟩ := bd_e h
  refine AX.wk (Wk.forget [0, 1, 7, 8] [] (s' := ⟨[(0, .bs false 2 (List.map enc_si p1)), (1, .fn 171 [.bp [.v (.string p2)] 0]), (7, .v (.int .i64 (p1.length : Int))), (8, .v (.int .i64 0))], []⟩) (by kernel_rfl)) ?_
  refine AX.mono (s_slices_IndexFunc_si_named_1_l_L1 p1 p2 FU 0 x5 e5) ?_
  rintro _ _ (⟨x6, rfl, rfl, rfl⟩ | ⟨x7, rfl, rfl, rfl⟩)
  · replace h := sm_l h
    refine fin_wk (Wk.forget [4] [] (s' := ⟨[(4, .v (.int .i64 x6))], []⟩) (by kernel_rfl)) ?_
    have hr := Option.some.inj h
    subst hr
    exact ⟨_, Wk.refl _, .inr rfl, ⟨[], by kernel_rfl, trivial, [.v (.int .i64 x6)], by kernel_rfl, by kernel_rfl⟩⟩
  · replace h := sm_r h
    refine AX.seq ?_
    refine AX.reg (its := []) [4] [] (s1 := ⟨[(4, .v (.int .i64 (-1)))], []⟩) (C := True) (by kernel_rfl) trivial trivial ?_
    refine AX.ret ?_
    refine fin_wk (Wk.forget [4] [] (s' := ⟨[(4, .v (.int .i64 (-1)))], []⟩) (by kernel_rfl)) ?_
    have hr := Option.some.inj h
    subst hr
    exact ⟨_, Wk.refl _, .inr rfl, ⟨[], by kernel_rfl, trivial, [.v (.int .i64 (-1))], by kernel_rfl, by kernel_rfl⟩⟩

theorem s_impl_named (p1 : List (ByteArray × Int)) (p2 : ByteArray) (r : Int) (h : m_impl_named p1 p2 = some r) :
    Eng.Spec Try.prog 131 [.bs false 2 (List.map enc_si p1), .v (.string p2)] [] (.v (.int .i64 r)) [] := by
  unfold m_impl_named at h
  refine Eng.Spec.body Try.func131 (by kernel_rfl) rfl (by kernel_rfl) ?_
  refine AX.wkpost ?_
  refine AX.seq ?_
  refine AX.reg (its := [.auto { nk := 0 }]) [0, 3] [0] (s1 := ⟨[(0, .bs false 2 (List.map enc_si p1)), (3, .pt 0 0)], [(0, .box [.v (.string p2)])]⟩) (C := True) (by kernel_rfl) trivial trivial ?_
  refine AX.seq ?_
  obtain ⟨x3, e1, h⟩ := bd_e h
  refine AX.reg (its := [.auto {}, .auto {}, .call 170 [.bs false 2 (List.map enc_si p1), .fn 171 [.pt 0 0]] (handO (rho ([] ++ [])) [] [] ++ [(0, .box [.v (.string p2)])]) (callEv [] [] (.v (.int .i64 x3)) [])]) [4] [] (s1 := ⟨[(4, .v (.int .i64 x3))], []⟩) (C := ((([.bs false 2 (List.map enc_si p1), .fn 171 [.pt 0 0]] : List AV) = [.bs false 2 (List.map enc_si p1), .fn 171 [.pt 0 0]]) ∧ (AO.box [.v (.string p2)] = AO.box [.v (.string p2)]) ∧ True) ∧ True) (by kernel_rfl) ⟨⟨rfl, rfl, trivial⟩, trivial⟩ ⟨call_ok (ks := []) (ns := []) (bor := [0]) (bobjs := [(0, .box [.v (.string p2)])]) (s_slices_IndexFunc_si_named_1_l p1 p2 x3 e1) (.cons (.c1 (.c0 (.same _ (by kernel_rfl) (by kernel_rfl)))) (.cons (.fn (.cons (.box rfl rfl (.cons (.same _ (by kernel_rfl) (by kernel_rfl)) (.nil))) (.nil))) (.nil))) (by kernel_rfl) trivial, trivial⟩ ?_
  refine AX.ret ?_
  refine fin_wk (Wk.forget [4] [] (s' := ⟨[(4, .v (.int .i64 x3))], []⟩) (by kernel_rfl)) ?_
  have hr := Option.some.inj h
  subst hr
  exact ⟨_, Wk.refl _, .inr rfl, ⟨[], by kernel_rfl, trivial, [.v (.int .i64 x3)], by kernel_rfl, by kernel_rfl⟩⟩

theorem s_impl_defsValid_L1 (p1 : List (ByteArray × Int)) (p2 : Int) (p3 : Int) (n : Nat) (g : Int) (out : Unit ⊕ Unit) (h : m_impl_defsValid_L1 p1 p2 p3 n g = some out) :
    AX Try.prog 41 0 (codeAt [1, 0, 1, 1] (bodyOf Try.f129)) ((fun g : Int => (⟨[(0, .bs false 2 (List.map enc_si p1)), (1, .v (.int .i64 p2)), (2, .v (.int .i64 p3)), (9, .bs false 2 (List.map enc_si p1)), (10, .v (.int .i64 (p1.length : Int))), (11, .v (.int .i64 g))], []⟩ : S)) g) (fun ex s => (∃ o : Unit, out = Sum.inl o ∧ ex = .ret ∧ s = ⟨[(6, .v (.bool false))], []⟩) ∨ (∃ o : Unit, out = Sum.inr o ∧ ex = .exit 0 ∧ s = ⟨[(0, .bs false 2 (List.map enc_si p1))], []⟩)) := by
  refine AX.wkpost ?_
  refine AX.loop (G := Nat × (Int)) (fun q => (fun g : Int => (⟨[(0, .bs false 2 (List.map enc_si p1)), (1, .v (.int .i64 p2)), (2, .v (.int .i64 p3)), (9, .bs false 2 (List.map enc_si p1)), (10, .v (.int .i64 (p1.length : Int))), (11, .v (.int .i64 g))], []⟩ : S)) q.2) (fun q => m_impl_defsValid_L1 p1 p2 p3 q.1 q.2 = some out) (fun q => q.1) (n, g) h (Wk.refl _) ?_
  clear h
  rintro ⟨fu, v4⟩ h
  cases fu with
  | zero => cases h
  | succ fu =>
    rw [m_impl_defsValid_L1] at h
    refine AX.seq ?_
    refine AX.reg (its := []) [0, 1, 2, 9, 10, 11, 12] [] (s1 := ⟨[(0, .bs false 2 (List.map enc_si p1)), (1, .v (.int .i64 p2)), (2, .v (.int .i64 p3)), (9, .bs false 2 (List.map enc_si p1)), (10, .v (.int .i64 (p1.length : Int))), (11, .v (.int .i64 v4)), (12, .v (.bool (decide (v4 < (p1.length : Int)))))], []⟩) (C := True) (by kernel_rfl) trivial trivial ?_
    refine AX.seq ?_
    rcases bool_cases (decide (v4 < (p1.length : Int))) with b1 | b1
    · replace h := cd_t b1 h
      refine AX.condT (decide (v4 < (p1.length : Int))) (by kernel_rfl) b1 ?_
      refine AX.skip ?_
      refine AX.seq ?_
      refine AX.block ?_
      refine AX.seq ?_
      obtain ⟨g2, h⟩ := gd_e h
      refine AX.reg (its := [.auto {}, .auto { y := some (.be 2 (enc_si (gt p1 v4)) 0) }, .auto {}, .auto { nk := 0 }]) [0, 1, 2, 7, 8, 9, 10, 11] [0] (s1 := ⟨[(0, .bs false 2 (List.map enc_si p1)), (1, .v (.int .i64 p2)), (2, .v (.int .i64 p3)), (7, .v (.int .i64 v4)), (8, .pt 0 0), (9, .bs false 2 (List.map enc_si p1)), (10, .v (.int .i64 (p1.length : Int))), (11, .v (.int .i64 v4))], [(0, .box [.v (.string ((gt p1 v4).1)), .v (.int .i64 ((gt p1 v4).2))])]⟩) (C := ((0 ≤ v4 ∧ v4 < ((List.map enc_si p1).length : Int)) ∧ (AV.be 2 ((List.map enc_si p1).getD v4.toNat []) 0 = AV.be 2 (enc_si (gt p1 v4)) 0)) ∧ True) (by kernel_rfl) ⟨idx_bs enc_si p1 v4 2 g2, trivial⟩ trivial ?_
      refine AX.seq ?_
      obtain ⟨x5, e3, h⟩ := bd_e h
      rcases bool_cases ((!x5)) with b4 | b4
      · replace h := cd_t b4 h
        refine AX.drw mixed (its := [.auto {}, .auto {}, .call 169 [.v (.string ((gt p1 v4).1))] (handO (rho ([] ++ [])) [] [] ++ []) (callEv [] [] (.v (.bool x5)) []), .auto { y := some (.v (.bool true)) }]) [0, 1, 2, 9, 10, 11, 36] [] (s1 := ⟨[(0, .bs false 2 (List.map enc_si p1)), (1, .v (.int .i64 p2)), (2, .v (.int .i64 p3)), (9, .bs false 2 (List.map enc_si p1)), (10, .v (.int .i64 (p1.length : Int))), (11, .v (.int .i64 v4)), (36, .v (.bool true))], []⟩) (C := ((([.v (.string ((gt p1 v4).1))] : List AV) = [.v (.string ((gt p1 v4).1))]) ∧ True) ∧ ((True) ∧ ((.v (.bool (!x5)) : AV) = (.v (.bool true) : AV))) ∧ True) (by kernel_rfl) ⟨⟨rfl, trivial⟩, ⟨⟨trivial, (congrArg (fun z => AV.v (.bool z)) b4)⟩, trivial⟩⟩ ⟨call_ok (ks := []) (ns := []) (bor := []) (bobjs := []) (s_impl_ValidName ((gt p1 v4).1) x5 e3) (.cons (.c1 (.c0 (.same _ (by kernel_rfl) (by kernel_rfl)))) (.nil)) (by kernel_rfl) trivial, trivial⟩ ?_
        refine AX.cond_true (by kernel_rfl) ?_
        refine AX.seq ?_
        refine AX.reg (its := []) [6] [] (s1 := ⟨[(6, .v (.bool false))], []⟩) (C := True) (by kernel_rfl) trivial trivial ?_
        refine AX.ret ?_
        refine fin_wk (Wk.forget [6] [] (s' := ⟨[(6, .v (.bool false))], []⟩) (by kernel_rfl)) ?_
        have hr := Option.some.inj h
        subst hr
        exact ⟨_, Wk.refl _, .inl ⟨(), rfl, rfl, rfl⟩⟩
      · replace h := cd_f b4 h
        obtain ⟨x6, e5, h⟩ := bd_e h
        rcases bool_cases ((!x6)) with b6 | b6
        · replace h := cd_t b6 h
          refine AX.drw mixed (its := [.auto {}, .auto {}, .call 169 [.v (.string ((gt p1 v4).1))] (handO (rho ([] ++ [])) [] [] ++ []) (callEv [] [] (.v (.bool x5)) []), .auto { y := some (.v (.bool false)) }, .auto {}, .auto {}, .auto {}, .auto {}, .auto {}, .call 130 [.v (.int .i64 ((gt p1 v4).2)), .v (.int .i64 p2), .v (.int .i64 p3)] (handO (rho ([] ++ [])) [] [] ++ []) (callEv [] [] (.v (.bool x6)) []), .auto { y := some (.v (.bool true)) }]) [0, 1, 2, 9, 10, 11, 36] [] (s1 := ⟨[(0, .bs false 2 (List.map enc_si p1)), (1, .v (.int .i64 p2)), (2, .v (.int .i64 p3)), (9, .bs false 2 (List.map enc_si p1)), (10, .v (.int .i64 (p1.length : Int))), (11, .v (.int .i64 v4)), (36, .v (.bool true))], []⟩) (C := ((([.v (.string ((gt p1 v4).1))] : List AV) = [.v (.string ((gt p1 v4).1))]) ∧ True) ∧ ((True) ∧ ((.v (.bool (!x5)) : AV) = (.v (.bool false) : AV))) ∧ ((([.v (.int .i64 ((gt p1 v4).2)), .v (.int .i64 p2), .v (.int .i64 p3)] : List AV) = [.v (.int .i64 ((gt p1 v4).2)), .v (.int .i64 p2), .v (.int .i64 p3)]) ∧ True) ∧ ((True) ∧ ((.v (.bool (!x6)) : AV) = (.v (.bool true) : AV))) ∧ True) (by kernel_rfl) ⟨⟨rfl, trivial⟩, ⟨⟨trivial, (congrArg (fun z => AV.v (.bool z)) b4)⟩, ⟨⟨rfl, trivial⟩, ⟨⟨trivial, (congrArg (fun z => AV.v (.bool z)) b6)⟩, trivial⟩⟩⟩⟩ ⟨call_ok (ks := []) (ns := []) (bor := []) (bobjs := []) (s_impl_ValidName ((gt p1 v4).1) x5 e3) (.cons (.c1 (.c0 (.same _ (by kernel_rfl) (by kernel_rfl)))) (.nil)) (by kernel_rfl) trivial, ⟨call_ok (ks := []) (ns := []) (bor := []) (bobjs := []) (s_impl_in ((gt p1 v4).2) p2 p3 x6 e5) (.cons (.c1 (.c0 (.same _ (by kernel_rfl) (by kernel_rfl)))) (.cons (.c1 (.c0 (.same _ (by kernel_rfl) (by kernel_rfl)))) (.cons (.c1 (.c0 (.same _ (by kernel_rfl) (by kernel_rfl)))) (.nil)))) (by kernel_rfl) trivial, trivial⟩⟩ ?_
          refine AX.cond_true (by kernel_rfl) ?_
          refine AX.seq ?_
          refine AX.reg (its := []) [6] [] (s1 := ⟨[(6, .v (.bool false))], []⟩) (C := True) (by kernel_rfl) trivial trivial ?_
          refine AX.ret ?_
          refine fin_wk (Wk.forget [6] [] (s' := ⟨[(6, .v (.bool false))], []⟩) (by kernel_rfl)) ?_
          have hr := Option.some.inj h
          subst hr
          exact ⟨_, Wk.refl _, .inl ⟨(), rfl, rfl, rfl⟩⟩
        · replace h := cd_f b6 h
          obtain ⟨g7, h⟩ := gd_e h
          obtain ⟨x7, e8, h⟩ := bd_e h
          refine AX.drw mixed (its := [.auto {}, .auto {}, .call 169 [.v (.string ((gt p1 v4).1))] (handO (rho ([] ++ [])) [] [] ++ []) (callEv [] [] (.v (.bool x5)) []), .auto { y := some (.v (.bool false)) }, .auto {}, .auto {}, .auto {}, .auto {}, .auto {}, .call 130 [.v (.int .i64 ((gt p1 v4).2)), .v (.int .i64 p2), .v (.int .i64 p3)] (handO (rho ([] ++ [])) [] [] ++ []) (callEv [] [] (.v (.bool x6)) []), .auto { y := some (.v (.bool false)) }, .auto {}, .auto {}, .auto {}, .auto {}, .auto { y := some (.bs false 2 (List.map enc_si (sub p1 (0 : Int) v4))) }, .auto {}, .auto {}, .call 131 [.bs false 2 (List.map enc_si (sub p1 (0 : Int) v4)), .v (.string ((gt p1 v4).1))] (handO (rho ([] ++ [])) [] [] ++ []) (callEv [] [] (.v (.int .i64 x7)) [])]) [0, 1, 2, 9, 10, 11, 36] [] (s1 := ⟨[(0, .bs false 2 (List.map enc_si p1)), (1, .v (.int .i64 p2)), (2, .v (.int .i64 p3)), (9, .bs false 2 (List.map enc_si p1)), (10, .v (.int .i64 (p1.length : Int))), (11, .v (.int .i64 v4)), (36, .v (.bool (decide (0 ≤ x7))))], []⟩) (C := ((([.v (.string ((gt p1 v4).1))] : List AV) = [.v (.string ((gt p1 v4).1))]) ∧ True) ∧ ((True) ∧ ((.v (.bool (!x5)) : AV) = (.v (.bool false) : AV))) ∧ ((([.v (.int .i64 ((gt p1 v4).2)), .v (.int .i64 p2), .v (.int .i64 p3)] : List AV) = [.v (.int .i64 ((gt p1 v4).2)), .v (.int .i64 p2), .v (.int .i64 p3)]) ∧ True) ∧ ((True) ∧ ((.v (.bool (!x6)) : AV) = (.v (.bool false) : AV))) ∧ ((0 ≤ (0 : Int) ∧ (0 : Int) ≤ v4 ∧ v4 ≤ ((List.map enc_si p1).length : Int) ∧ ((List.map enc_si p1).length : Int) ≤ ((List.map enc_si p1).length : Int)) ∧ (AV.bs false 2 (((List.map enc_si p1).drop (0 : Int).toNat).take (v4.toNat - (0 : Int).toNat)) = (.bs false 2 (List.map enc_si (sub p1 (0 : Int) v4)) : AV))) ∧ ((([.bs false 2 (List.map enc_si (sub p1 (0 : Int) v4)), .v (.string ((gt p1 v4).1))] : List AV) = [.bs false 2 (List.map enc_si (sub p1 (0 : Int) v4)), .v (.string ((gt p1 v4).1))]) ∧ True) ∧ True) (by kernel_rfl) ⟨⟨rfl, trivial⟩, ⟨⟨trivial, (congrArg (fun z => AV.v (.bool z)) b4)⟩, ⟨⟨rfl, trivial⟩, ⟨⟨trivial, (congrArg (fun z => AV.v (.bool z)) b6)⟩, ⟨⟨by first | exact g7 | simpa only [List.length_map] using g7, by first | exact sub_can enc_si p1 (0 : Int) v4 false 2 | (simp only [List.length_map]; exact sub_can enc_si p1 (0 : Int) v4 false 2)⟩, ⟨⟨rfl, trivial⟩, trivial⟩⟩⟩⟩⟩⟩ ⟨call_ok (ks := []) (ns := []) (bor := []) (bobjs := []) (s_impl_ValidName ((gt p1 v4).1) x5 e3) (.cons (.c1 (.c0 (.same _ (by kernel_rfl) (by kernel_rfl)))) (.nil)) (by kernel_rfl) trivial, ⟨call_ok (ks := []) (ns := []) (bor := []) (bobjs := []) (s_impl_in ((gt p1 v4).2) p2 p3 x6 e5) (.cons (.c1 (.c0 (.same _ (by kernel_rfl) (by kernel_rfl)))) (.cons (.c1 (.c0 (.same _ (by kernel_rfl) (by kernel_rfl)))) (.cons (.c1 (.c0 (.same _ (by kernel_rfl) (by kernel_rfl)))) (.nil)))) (by kernel_rfl) trivial, ⟨call_ok (ks := []) (ns := []) (bor := []) (bobjs := []) (s_impl_named (sub p1 (0 : Int) v4) ((gt p1 v4).1) x7 e8) (.cons (.c1 (.c0 (.same _ (by kernel_rfl) (by kernel_rfl)))) (.cons (.c1 (.c0 (.same _ (by kernel_rfl) (by kernel_rfl)))) (.nil))) (by kernel_rfl) trivial, trivial⟩⟩⟩ ?_
          rcases bool_cases (decide (0 ≤ x7)) with b9 | b9
          · replace h := cd_t b9 h
            refine AX.condT (decide (0 ≤ x7)) (by kernel_rfl) b9 ?_
            refine AX.seq ?_
            refine AX.reg (its := []) [6] [] (s1 := ⟨[(6, .v (.bool false))], []⟩) (C := True) (by kernel_rfl) trivial trivial ?_
            refine AX.ret ?_
            refine fin_wk (Wk.forget [6] [] (s' := ⟨[(6, .v (.bool false))], []⟩) (by kernel_rfl)) ?_
            have hr := Option.some.inj h
            subst hr
            exact ⟨_, Wk.refl _, .inl ⟨(), rfl, rfl, rfl⟩⟩
          · replace h := cd_f b9 h
            refine AX.condF (decide (0 ≤ x7)) (by kernel_rfl) b9 ?_
            refine AX.skip ?_
            refine AX.reg (its := [.auto { raw := true }]) [0, 1, 2, 9, 10, 11] [] (s1 := ⟨[(0, .bs false 2 (List.map enc_si p1)), (1, .v (.int .i64 p2)), (2, .v (.int .i64 p3)), (9, .bs false 2 (List.map enc_si p1)), (10, .v (.int .i64 (p1.length : Int))), (11, .v (.int .i64 (IntKind.wrap .i64 (v4 + 1))))], []⟩) (C := True) (by kernel_rfl) trivial trivial ?_
            refine ⟨(fu, IntKind.wrap .i64 (v4 + 1)), h, Nat.lt_succ_self _, ?_⟩
            refine Wk.trans (Wk.forget [0, 1, 2, 9, 10, 11] [] (s' := ⟨[(0, .bs false 2 (List.map enc_si p1)), (1, .v (.int .i64 p2)), (2, .v (.int .i64 p3)), (9, .bs false 2 (List.map enc_si p1)), (10, .v (.int .i64 (p1.length : Int))), (11, .v (.int .i64 (IntKind.wrap .i64 (v4 + 1))))], []⟩) (by kernel_rfl)) ?_
            exact Wk.refl _
    · replace h := cd_f b1 h
      refine AX.condF (decide (v4 < (p1.length : Int))) (by kernel_rfl) b1 ?_
      refine AX.exit ?_
      refine fin_wk (Wk.forget [0] [] (s' := ⟨[(0, .bs false 2 (List.map enc_si p1))], []⟩) (by kernel_rfl)) ?_
      have hr := Option.some.inj h
      subst hr
      exact ⟨_, Wk.refl _, .inr ⟨(), rfl, rfl, rfl⟩⟩

theorem s_impl_defsValid (p1 : List (ByteArray × Int)) (p2 : Int) (p3 : Int) (r : Bool) (h : m_impl_defsValid p1 p2 p3 = some r) :
    Eng.Spec Try.prog 129 [.bs false 2 (List.map enc_si p1), .v (.int .i64 p2), .v (.int .i64 p3)] [] (.v (.bool r)) [] := by
  unfold m_impl_defsValid at h
  refine Eng.Spec.body Try.func129 (by kernel_rfl) rfl (by kernel_rfl) ?_
  refine AX.wkpost ?_
  refine AX.seq ?_
  refine AX.reg (its := []) [0, 1, 2] [] (s1 := ⟨[(0, .bs false 2 (List.map enc_si p1)), (1, .v (.int .i64 p2)), (2, .v (.int .i64 p3))], []⟩) (C := True) (by kernel_rfl) trivial trivial ?_
  refine AX.seq ?_
  refine AX.seq ?_
  refine AX.reg (its := [.auto {}, .auto { y := some (.v (.int .i64 (p1.length : Int))) }]) [0, 1, 2, 9, 10, 11] [] (s1 := ⟨[(0, .bs false 2 (List.map enc_si p1)), (1, .v (.int .i64 p2)), (2, .v (.int .i64 p3)), (9, .bs false 2 (List.map enc_si p1)), (10, .v (.int .i64 (p1.length : Int))), (11, .v (.int .i64 0))], []⟩) (C := (True ∧ (AV.v (.int .i64 ((List.map enc_si p1).length : Int)) = AV.v (.int .i64 (p1.length : Int)))) ∧ True) (by kernel_rfl) ⟨⟨trivial, len_map enc_si p1⟩, trivial⟩ trivial ?_
  refine AX.block ?_
  obtain ⟨x8, e10, h⟩ := bd_e h
  refine AX.wk (Wk.forget [0, 1, 2, 9, 10, 11] [] (s' := ⟨[(0, .bs false 2 (List.map enc_si p1)), (1, .v (.int .i64 p2)), (2, .v (.int .i64 p3)), (9, .bs false 2 (List.map enc_si p1)), (10, .v (.int .i64 (p1.length : Int))), (11, .v (.int .i64 0))], []⟩) (by kernel_rfl)) ?_
  refine AX.mono (s_impl_defsValid_L1 p1 p2 p3 FU 0 x8 e10) ?_
  rintro _ _ (⟨x9, rfl, rfl, rfl⟩ | ⟨x10, rfl, rfl, rfl⟩)
  · replace h := sm_l h
    refine fin_wk (Wk.forget [6] [] (s' := ⟨[(6, .v (.bool false))], []⟩) (by kernel_rfl)) ?_
    have hr := Option.some.inj h
    subst hr
    exact ⟨_, Wk.refl _, .inr rfl, ⟨[], by kernel_rfl, trivial, [.v (.bool false)], by kernel_rfl, by kernel_rfl⟩⟩
  · replace h := sm_r h
    refine AX.seq ?_
    refine AX.reg (its := [.auto {}, .auto { y := some (.v (.int .i64 (p1.length : Int))) }]) [6] [] (s1 := ⟨[(6, .v (.bool (decide ((p1.length : Int) ≤ 12))))], []⟩) (C := (True ∧ (AV.v (.int .i64 ((List.map enc_si p1).length : Int)) = AV.v (.int .i64 (p1.length : Int)))) ∧ True) (by kernel_rfl) ⟨⟨trivial, len_map enc_si p1⟩, trivial⟩ trivial ?_
    refine AX.ret ?_
    refine fin_wk (Wk.forget [6] [] (s' := ⟨[(6, .v (.bool (decide ((p1.length : Int) ≤ 12))))], []⟩) (by kernel_rfl)) ?_
    have hr := Option.some.inj h
    subst hr
    exact ⟨_, Wk.refl _, .inr rfl, ⟨[], by kernel_rfl, trivial, [.v (.bool (decide ((p1.length : Int) ≤ 12)))], by kernel_rfl, by kernel_rfl⟩⟩

theorem s_impl_ValidFlag (p1 : List (ByteArray × Int)) (p2 : Int) (r : Bool) (h : m_impl_ValidFlag p1 p2 = some r) :
    Eng.Spec Try.prog 60 [.agg [.bs false 2 (List.map enc_si p1), .v (.int .i64 p2)]] [] (.v (.bool r)) [] := by
  unfold m_impl_ValidFlag at h
  refine Eng.Spec.body Try.func60 (by kernel_rfl) rfl (by kernel_rfl) ?_
  refine AX.wkpost ?_
  refine AX.seq ?_
  refine AX.reg (its := [.auto { nk := 0 }]) [1] [0] (s1 := ⟨[(1, .pt 0 0)], [(0, .box [.bs false 2 (List.map enc_si p1), .v (.int .i64 p2)])]⟩) (C := True) (by kernel_rfl) trivial trivial ?_
  refine AX.seq ?_
  obtain ⟨x3, e1, h⟩ := bd_e h
  rcases bool_cases (x3) with b2 | b2
  · replace h := cd_t b2 h
    obtain ⟨x4, e3, h⟩ := bd_e h
    refine AX.reg (its := [.auto {}, .auto {}, .call 129 [.bs false 2 (List.map enc_si p1), .v (.int .i64 0), .v (.int .i64 4095)] (handO (rho ([] ++ [])) [] [] ++ []) (callEv [] [] (.v (.bool true)) []), .auto {}, .auto {}, .auto {}, .call 130 [.v (.int .i64 p2), .v (.int .i64 0), .v (.int .i64 3)] (handO (rho ([] ++ [])) [] [] ++ []) (callEv [] [] (.v (.bool x4)) [])]) [2] [] (s1 := ⟨[(2, .v (.bool x4))], []⟩) (C := ((([.bs false 2 (List.map enc_si p1), .v (.int .i64 0), .v (.int .i64 4095)] : List AV) = [.bs false 2 (List.map enc_si p1), .v (.int .i64 0), .v (.int .i64 4095)]) ∧ True) ∧ ((([.v (.int .i64 p2), .v (.int .i64 0), .v (.int .i64 3)] : List AV) = [.v (.int .i64 p2), .v (.int .i64 0), .v (.int .i64 3)]) ∧ True) ∧ True) (by kernel_rfl) ⟨⟨rfl, trivial⟩, ⟨⟨rfl, trivial⟩, trivial⟩⟩ ⟨call_ok (ks := []) (ns := []) (bor := []) (bobjs := []) (show Eng.Spec Try.prog 129 [.bs false 2 (List.map enc_si p1), .v (.int .i64 0), .v (.int .i64 4095)] [] (.v (.bool true)) [] from by have q := s_impl_defsValid p1 0 4095 x3 e1; rw [b2] at q; exact q) (.cons (.c1 (.c0 (.same _ (by kernel_rfl) (by kernel_rfl)))) (.cons (.c1 (.c0 (.same _ (by kernel_rfl) (by kernel_rfl)))) (.cons (.c1 (.c0 (.same _ (by kernel_rfl) (by kernel_rfl)))) (.nil)))) (by kernel_rfl) trivial, ⟨call_ok (ks := []) (ns := []) (bor := []) (bobjs := []) (s_impl_in p2 0 3 x4 e3) (.cons (.c1 (.c0 (.same _ (by kernel_rfl) (by kernel_rfl)))) (.cons (.c1 (.c0 (.same _ (by kernel_rfl) (by kernel_rfl)))) (.cons (.c1 (.c0 (.same _ (by kernel_rfl) (by kernel_rfl)))) (.nil)))) (by kernel_rfl) trivial, trivial⟩⟩ ?_
    refine AX.ret ?_
    refine fin_wk (Wk.forget [2] [] (s' := ⟨[(2, .v (.bool x4))], []⟩) (by kernel_rfl)) ?_
    have hr := Option.some.inj h
    subst hr
    exact ⟨_, Wk.refl _, .inr rfl, ⟨[], by kernel_rfl, trivial, [.v (.bool x4)], by kernel_rfl, by kernel_rfl⟩⟩
  · replace h := cd_f b2 h
    refine AX.reg (its := [.auto {}, .auto {}, .call 129 [.bs false 2 (List.map enc_si p1), .v (.int .i64 0), .v (.int .i64 4095)] (handO (rho ([] ++ [])) [] [] ++ []) (callEv [] [] (.v (.bool false)) [])]) [2] [] (s1 := ⟨[(2, .v (.bool false))], []⟩) (C := ((([.bs false 2 (List.map enc_si p1), .v (.int .i64 0), .v (.int .i64 4095)] : List AV) = [.bs false 2 (List.map enc_si p1), .v (.int .i64 0), .v (.int .i64 4095)]) ∧ True) ∧ True) (by kernel_rfl) ⟨⟨rfl, trivial⟩, trivial⟩ ⟨call_ok (ks := []) (ns := []) (bor := []) (bobjs := []) (show Eng.Spec Try.prog 129 [.bs false 2 (List.map enc_si p1), .v (.int .i64 0), .v (.int .i64 4095)] [] (.v (.bool false)) [] from by have q := s_impl_defsValid p1 0 4095 x3 e1; rw [b2] at q; exact q) (.cons (.c1 (.c0 (.same _ (by kernel_rfl) (by kernel_rfl)))) (.cons (.c1 (.c0 (.same _ (by kernel_rfl) (by kernel_rfl)))) (.cons (.c1 (.c0 (.same _ (by kernel_rfl) (by kernel_rfl)))) (.nil)))) (by kernel_rfl) trivial, trivial⟩ ?_
    refine AX.ret ?_
    refine fin_wk (Wk.forget [2] [] (s' := ⟨[(2, .v (.bool false))], []⟩) (by kernel_rfl)) ?_
    have hr := Option.some.inj h
    subst hr
    exact ⟨_, Wk.refl _, .inr rfl, ⟨[], by kernel_rfl, trivial, [.v (.bool false)], by kernel_rfl, by kernel_rfl⟩⟩

theorem s_impl_Flag_mask_L1 (p1 : List (ByteArray × Int)) (n : Nat) (g : Int × Int) (out : Int) (h : m_impl_Flag_mask_L1 p1 n g.1 g.2 = some out) :
    AX Try.prog 19 0 (codeAt [1, 1, 0, 1, 1] (bodyOf Try.f81)) ((fun g : Int × Int => (⟨[(3, .v (.int .i64 g.1)), (7, .bs false 2 (List.map enc_si p1)), (8, .v (.int .i64 (p1.length : Int))), (9, .v (.int .i64 g.2))], []⟩ : S)) g) (fun ex s => ex = .exit 0 ∧ s = (fun o : Int => (⟨[(3, .v (.int .i64 o))], []⟩ : S)) out) := by
  refine AX.wkpost ?_
  refine AX.loop (G := Nat × (Int × Int)) (fun q => (fun g : Int × Int => (⟨[(3, .v (.int .i64 g.1)), (7, .bs false 2 (List.map enc_si p1)), (8, .v (.int .i64 (p1.length : Int))), (9, .v (.int .i64 g.2))], []⟩ : S)) q.2) (fun q => m_impl_Flag_mask_L1 p1 q.1 q.2.1 q.2.2 = some out) (fun q => q.1) (n, g) h (Wk.refl _) ?_
  clear h
  rintro ⟨fu, v3, v4⟩ h
  cases fu with
  | zero => cases h
  | succ fu =>
    rw [m_impl_Flag_mask_L1] at h
    refine AX.seq ?_
    refine AX.reg (its := []) [3, 7, 8, 9, 10] [] (s1 := ⟨[(3, .v (.int .i64 v3)), (7, .bs false 2 (List.map enc_si p1)), (8, .v (.int .i64 (p1.length : Int))), (9, .v (.int .i64 v4)), (10, .v (.bool (decide (v4 < (p1.length : Int)))))], []⟩) (C := True) (by kernel_rfl) trivial trivial ?_
    refine AX.seq ?_
    rcases bool_cases (decide (v4 < (p1.length : Int))) with b1 | b1
    · replace h := cd_t b1 h
      refine AX.condT (decide (v4 < (p1.length : Int))) (by kernel_rfl) b1 ?_
      refine AX.skip ?_
      refine AX.seq ?_
      refine AX.block ?_
      refine AX.seq ?_
      obtain ⟨g2, h⟩ := gd_e h
      refine AX.reg (its := [.auto { y := some (.be 2 (enc_si (gt p1 v4)) 0) }, .auto {}, .auto { nk := 0 }]) [3, 5, 7, 8, 9] [0] (s1 := ⟨[(3, .v (.int .i64 v3)), (5, .pt 0 0), (7, .bs false 2 (List.map enc_si p1)), (8, .v (.int .i64 (p1.length : Int))), (9, .v (.int .i64 v4))], [(0, .box [.v (.string ((gt p1 v4).1)), .v (.int .i64 ((gt p1 v4).2))])]⟩) (C := ((0 ≤ v4 ∧ v4 < ((List.map enc_si p1).length : Int)) ∧ (AV.be 2 ((List.map enc_si p1).getD v4.toNat []) 0 = AV.be 2 (enc_si (gt p1 v4)) 0)) ∧ True) (by kernel_rfl) ⟨idx_bs enc_si p1 v4 2 g2, trivial⟩ trivial ?_
      refine AX.reg (its := []) [3, 7, 8, 9] [] (s1 := ⟨[(3, .v (.int .i64 (Go.bits .or .i64 v3 ((gt p1 v4).2)))), (7, .bs false 2 (List.map enc_si p1)), (8, .v (.int .i64 (p1.length : Int))), (9, .v (.int .i64 v4))], []⟩) (C := True) (by kernel_rfl) trivial trivial ?_
      refine AX.reg (its := [.auto { raw := true }]) [3, 7, 8, 9] [] (s1 := ⟨[(3, .v (.int .i64 (Go.bits .or .i64 v3 ((gt p1 v4).2)))), (7, .bs false 2 (List.map enc_si p1)), (8, .v (.int .i64 (p1.length : Int))), (9, .v (.int .i64 (IntKind.wrap .i64 (v4 + 1))))], []⟩) (C := True) (by kernel_rfl) trivial trivial ?_
      refine ⟨(fu, (Go.bits .or .i64 v3 ((gt p1 v4).2), IntKind.wrap .i64 (v4 + 1))), h, Nat.lt_succ_self _, ?_⟩
      refine Wk.trans (Wk.forget [3, 7, 8, 9] [] (s' := ⟨[(3, .v (.int .i64 (Go.bits .or .i64 v3 ((gt p1 v4).2)))), (7, .bs false 2 (List.map enc_si p1)), (8, .v (.int .i64 (p1.length : Int))), (9, .v (.int .i64 (IntKind.wrap .i64 (v4 + 1))))], []⟩) (by kernel_rfl)) ?_
      exact Wk.refl _
    · replace h := cd_f b1 h
      refine AX.condF (decide (v4 < (p1.length : Int))) (by kernel_rfl) b1 ?_
      refine AX.exit ?_
      refine fin_wk (Wk.forget [3] [] (s' := ⟨[(3, .v (.int .i64 v3))], []⟩) (by kernel_rfl)) ?_
      have hr := Option.some.inj h
      subst hr
      exact ⟨_, Wk.refl _, ⟨rfl, rfl⟩⟩

theorem s_impl_Flag_mask (p1 : List (ByteArray × Int)) (p2 : Int) (r : Int) (h : m_impl_Flag_mask p1 p2 = some r) :
    Eng.Spec Try.prog 81 [.agg [.bs false 2 (List.map enc_si p1), .v (.int .i64 p2)]] [] (.v (.int .i64 r)) [] := by
  unfold m_impl_Flag_mask at h
  refine Eng.Spec.body Try.func81 (by kernel_rfl) rfl (by kernel_rfl) ?_
  refine AX.wkpost ?_
  refine AX.seq ?_
  refine AX.reg (its := [.auto { nk := 0 }]) [1] [0] (s1 := ⟨[(1, .pt 0 0)], [(0, .box [.bs false 2 (List.map enc_si p1), .v (.int .i64 p2)])]⟩) (C := True) (by kernel_rfl) trivial trivial ?_
  refine AX.seq ?_
  refine AX.reg (its := []) [1, 3] [0] (s1 := ⟨[(1, .pt 0 0), (3, .v (.int .i64 0))], [(0, .box [.bs false 2 (List.map enc_si p1), .v (.int .i64 p2)])]⟩) (C := True) (by kernel_rfl) trivial trivial ?_
  refine AX.seq ?_
  refine AX.seq ?_
  refine AX.reg (its := [.auto {}, .auto {}, .auto { y := some (.v (.int .i64 (p1.length : Int))) }]) [3, 7, 8, 9] [] (s1 := ⟨[(3, .v (.int .i64 0)), (7, .bs false 2 (List.map enc_si p1)), (8, .v (.int .i64 (p1.length : Int))), (9, .v (.int .i64 0))], []⟩) (C := (True ∧ (AV.v (.int .i64 ((List.map enc_si p1).length : Int)) = AV.v (.int .i64 (p1.length : Int)))) ∧ True) (by kernel_rfl) ⟨⟨trivial, len_map enc_si p1⟩, trivial⟩ trivial ?_
  refine AX.block ?_
  obtain ⟨x5, e3, h⟩ := bd_e h
  refine AX.wk (Wk.forget [3, 7, 8, 9] [] (s' := ⟨[(3, .v (.int .i64 0)), (7, .bs false 2 (List.map enc_si p1)), (8, .v (.int .i64 (p1.length : Int))), (9, .v (.int .i64 0))], []⟩) (by kernel_rfl)) ?_
  refine AX.mono (s_impl_Flag_mask_L1 p1 FU (0, 0) x5 e3) ?_
  rintro _ _ ⟨rfl, rfl⟩
  skip
  refine AX.seq ?_
  refine AX.reg (its := []) [2] [] (s1 := ⟨[(2, .v (.int .i64 x5))], []⟩) (C := True) (by kernel_rfl) trivial trivial ?_
  refine AX.ret ?_
  refine fin_wk (Wk.forget [2] [] (s' := ⟨[(2, .v (.int .i64 x5))], []⟩) (by kernel_rfl)) ?_
  have hr := Option.some.inj h
  subst hr
  exact ⟨_, Wk.refl _, .inr rfl, ⟨[], by kernel_rfl, trivial, [.v (.int .i64 x5)], by kernel_rfl, by kernel_rfl⟩⟩

theorem s_math_bits_OnesCount64 (p1 : Int) (r : Int) (h : m_math_bits_OnesCount64 p1 = some r) :
    Eng.Spec Try.prog 144 [.v (.int .u64 p1)] [] (.v (.int .i64 r)) [] := by
  unfold m_math_bits_OnesCount64 at h
  refine Eng.Spec.body Try.func144 (by kernel_rfl) rfl (by kernel_rfl) ?_
  refine AX.wkpost ?_
  refine AX.seq ?_
  refine AX.reg (its := []) [0] [] (s1 := ⟨[(0, .v (.int .u64 p1))], []⟩) (C := True) (by kernel_rfl) trivial trivial ?_
  refine AX.seq ?_
  obtain ⟨g1, h⟩ := gd_e h
  obtain ⟨v2, q2, h⟩ := nm_e h
  obtain ⟨v3, q3, h⟩ := nm_e h
  refine AX.reg (its := [.auto {}, .auto {}, .auto { y := some (.v (.int .u64 v2)) }, .auto {}, .auto {}, .auto { y := some (.v (.int .u64 v3)), raw := true }]) [0] [] (s1 := ⟨[(0, .v (.int .u64 v3))], []⟩) (C := (0 ≤ (1 : Int) ∧ (1 : Int) ≤ (IntKind.bits .u64 : Int)) ∧ ((True) ∧ ((.v (.int .u64 (Go.bits .and .u64 (p1 / 2 ^ (1 : Int).toNat) 6148914691236517205)) : AV) = (.v (.int .u64 v2) : AV))) ∧ ((True) ∧ ((.v (.int .u64 (IntKind.wrap .u64 (v2 + (Go.bits .and .u64 p1 6148914691236517205)))) : AV) = (.v (.int .u64 v3) : AV))) ∧ True) (by kernel_rfl) ⟨g1, ⟨⟨trivial, (congrArg (fun z => AV.v (.int .u64 z)) q2)⟩, ⟨⟨trivial, (congrArg (fun z => AV.v (.int .u64 z)) q3)⟩, trivial⟩⟩⟩ trivial ?_
  refine AX.seq ?_
  obtain ⟨g4, h⟩ := gd_e h
  obtain ⟨v4, q5, h⟩ := nm_e h
  obtain ⟨v5, q6, h⟩ := nm_e h
  refine AX.reg (its := [.auto {}, .auto {}, .auto { y := some (.v (.int .u64 v4)) }, .auto {}, .auto {}, .auto { y := some (.v (.int .u64 v5)), raw := true }]) [0] [] (s1 := ⟨[(0, .v (.int .u64 v5))], []⟩) (C := (0 ≤ (2 : Int) ∧ (2 : Int) ≤ (IntKind.bits .u64 : Int)) ∧ ((True) ∧ ((.v (.int .u64 (Go.bits .and .u64 (v3 / 2 ^ (2 : Int).toNat) 3689348814741910323)) : AV) = (.v (.int .u64 v4) : AV))) ∧ ((True) ∧ ((.v (.int .u64 (IntKind.wrap .u64 (v4 + (Go.bits .and .u64 v3 3689348814741910323)))) : AV) = (.v (.int .u64 v5) : AV))) ∧ True) (by kernel_rfl) ⟨g4, ⟨⟨trivial, (congrArg (fun z => AV.v (.int .u64 z)) q5)⟩, ⟨⟨trivial, (congrArg (fun z => AV.v (.int .u64 z)) q6)⟩, trivial⟩⟩⟩ trivial ?_
  refine AX.seq ?_
  obtain ⟨g7, h⟩ := gd_e h
  obtain ⟨v6, q8, h⟩ := nm_e h
  refine AX.reg (its := [.auto {}, .auto {}, .auto {}, .auto { raw := true }, .auto { y := some (.v (.int .u64 v6)) }]) [0] [] (s1 := ⟨[(0, .v (.int .u64 v6))], []⟩) (C := (0 ≤ (4 : Int) ∧ (4 : Int) ≤ (IntKind.bits .u64 : Int)) ∧ ((True) ∧ ((.v (.int .u64 (Go.bits .and .u64 (IntKind.wrap .u64 ((v5 / 2 ^ (4 : Int).toNat) + v5)) 1085102592571150095)) : AV) = (.v (.int .u64 v6) : AV))) ∧ True) (by kernel_rfl) ⟨g7, ⟨⟨trivial, (congrArg (fun z => AV.v (.int .u64 z)) q8)⟩, trivial⟩⟩ trivial ?_
  refine AX.seq ?_
  obtain ⟨g9, h⟩ := gd_e h
  refine AX.reg (its := [.auto {}, .auto {}, .auto {}, .auto { raw := true }]) [0] [] (s1 := ⟨[(0, .v (.int .u64 (IntKind.wrap .u64 (v6 + (v6 / 2 ^ (8 : Int).toNat)))))], []⟩) (C := (0 ≤ (8 : Int) ∧ (8 : Int) ≤ (IntKind.bits .u64 : Int)) ∧ True) (by kernel_rfl) ⟨g9, trivial⟩ trivial ?_
  refine AX.seq ?_
  obtain ⟨g10, h⟩ := gd_e h
  obtain ⟨v7, q11, h⟩ := nm_e h
  obtain ⟨v8, q12, h⟩ := nm_e h
  refine AX.reg (its := [.auto {}, .auto {}, .auto { y := some (.v (.int .u64 v7)) }, .auto { y := some (.v (.int .u64 v8)), raw := true }]) [0] [] (s1 := ⟨[(0, .v (.int .u64 v8))], []⟩) (C := ((0 ≤ (16 : Int) ∧ (16 : Int) ≤ (IntKind.bits .u64 : Int)) ∧ ((.v (.int .u64 ((IntKind.wrap .u64 (v6 + (v6 / 2 ^ (8 : Int).toNat))) / 2 ^ (16 : Int).toNat)) : AV) = (.v (.int .u64 v7) : AV))) ∧ ((True) ∧ ((.v (.int .u64 (IntKind.wrap .u64 ((IntKind.wrap .u64 (v6 + (v6 / 2 ^ (8 : Int).toNat))) + v7))) : AV) = (.v (.int .u64 v8) : AV))) ∧ True) (by kernel_rfl) ⟨⟨g10, (congrArg (fun z => AV.v (.int .u64 z)) q11)⟩, ⟨⟨trivial, (congrArg (fun z => AV.v (.int .u64 z)) q12)⟩, trivial⟩⟩ trivial ?_
  refine AX.seq ?_
  obtain ⟨g13, h⟩ := gd_e h
  refine AX.reg (its := [.auto {}, .auto {}, .auto {}, .auto { raw := true }]) [0] [] (s1 := ⟨[(0, .v (.int .u64 (IntKind.wrap .u64 (v8 + (v8 / 2 ^ (32 : Int).toNat)))))], []⟩) (C := (0 ≤ (32 : Int) ∧ (32 : Int) ≤ (IntKind.bits .u64 : Int)) ∧ True) (by kernel_rfl) ⟨g13, trivial⟩ trivial ?_
  refine AX.seq ?_
  obtain ⟨v9, q14, h⟩ := nm_e h
  refine AX.reg (its := [.auto {}, .auto { y := some (.v (.int .i64 v9)), raw := true }]) [2] [] (s1 := ⟨[(2, .v (.int .i64 (Go.bits .and .i64 v9 127)))], []⟩) (C := ((True) ∧ ((.v (.int .i64 (IntKind.wrap .i64 (IntKind.wrap .u64 (v8 + (v8 / 2 ^ (32 : Int).toNat))))) : AV) = (.v (.int .i64 v9) : AV))) ∧ True) (by kernel_rfl) ⟨⟨trivial, (congrArg (fun z => AV.v (.int .i64 z)) q14)⟩, trivial⟩ trivial ?_
  refine AX.ret ?_
  refine fin_wk (Wk.forget [2] [] (s' := ⟨[(2, .v (.int .i64 (Go.bits .and .i64 v9 127)))], []⟩) (by kernel_rfl)) ?_
  have hr := Option.some.inj h
  subst hr
  exact ⟨_, Wk.refl _, .inr rfl, ⟨[], by kernel_rfl, trivial, [.v (.int .i64 (Go.bits .and .i64 v9 127))], by kernel_rfl, by kernel_rfl⟩⟩

theorem s_math_bits_OnesCount (p1 : Int) (r : Int) (h : m_math_bits_OnesCount p1 = some r) :
    Eng.Spec Try.prog 80 [.v (.int .u64 p1)] [] (.v (.int .i64 r)) [] := by
  unfold m_math_bits_OnesCount at h
  refine Eng.Spec.body Try.func80 (by kernel_rfl) rfl (by kernel_rfl) ?_
  refine AX.wkpost ?_
  refine AX.seq ?_
  refine AX.reg (its := []) [0] [] (s1 := ⟨[(0, .v (.int .u64 p1))], []⟩) (C := True) (by kernel_rfl) trivial trivial ?_
  refine AX.seq ?_
  refine AX.cond_false (by kernel_rfl) ?_
  refine AX.skip ?_
  refine AX.seq ?_
  obtain ⟨x2, e1, h⟩ := bd_e h
  refine AX.reg (its := [.auto {}, .call 144 [.v (.int .u64 p1)] (handO (rho ([] ++ [])) [] [] ++ []) (callEv [] [] (.v (.int .i64 x2)) [])]) [2] [] (s1 := ⟨[(2, .v (.int .i64 x2))], []⟩) (C := ((([.v (.int .u64 p1)] : List AV) = [.v (.int .u64 p1)]) ∧ True) ∧ True) (by kernel_rfl) ⟨⟨rfl, trivial⟩, trivial⟩ ⟨call_ok (ks := []) (ns := []) (bor := []) (bobjs := []) (s_math_bits_OnesCount64 p1 x2 e1) (.cons (.c1 (.c0 (.same _ (by kernel_rfl) (by kernel_rfl)))) (.nil)) (by kernel_rfl) trivial, trivial⟩ ?_
  refine AX.ret ?_
  refine fin_wk (Wk.forget [2] [] (s' := ⟨[(2, .v (.int .i64 x2))], []⟩) (by kernel_rfl)) ?_
  have hr := Option.some.inj h
  subst hr
  exact ⟨_, Wk.refl _, .inr rfl, ⟨[], by kernel_rfl, trivial, [.v (.int .i64 x2)], by kernel_rfl, by kernel_rfl⟩⟩

theorem s_impl_GreatestArms_1_l (p1 : Int) (p2 : List (ByteArray × Int)) (p3 : Int) (r : Bool) (h : m_impl_GreatestArms_1_l p1 p2 p3 = some r) :
    Eng.Spec Try.prog 83 [.v (.int .i64 p1), .bp [.bs false 2 (List.map enc_si p2), .v (.int .i64 p3)] 0] [] (.v (.bool r)) [] := by
  unfold m_impl_GreatestArms_1_l at h
  refine Eng.Spec.body Try.func83 (by kernel_rfl) rfl (by kernel_rfl) ?_
  refine AX.wkpost ?_
  refine AX.seq ?_
  refine AX.reg (its := []) [0, 1] [] (s1 := ⟨[(0, .v (.int .i64 p1)), (1, .bp [.bs false 2 (List.map enc_si p2), .v (.int .i64 p3)] 0)], []⟩) (C := True) (by kernel_rfl) trivial trivial ?_
  refine AX.seq ?_
  rcases bool_cases (decide (p1 < 0)) with b1 | b1
  · replace h := cd_t b1 h
    refine AX.reg (its := [.auto {}, .auto { y := some (.v (.bool true)) }]) [3] [] (s1 := ⟨[(3, .v (.bool true))], []⟩) (C := ((True) ∧ ((.v (.bool (decide (p1 < 0))) : AV) = (.v (.bool true) : AV))) ∧ True) (by kernel_rfl) ⟨⟨trivial, (congrArg (fun z => AV.v (.bool z)) b1)⟩, trivial⟩ trivial ?_
    refine AX.ret ?_
    refine fin_wk (Wk.forget [3] [] (s' := ⟨[(3, .v (.bool true))], []⟩) (by kernel_rfl)) ?_
    have hr := Option.some.inj h
    subst hr
    exact ⟨_, Wk.refl _, .inr rfl, ⟨[], by kernel_rfl, trivial, [.v (.bool true)], by kernel_rfl, by kernel_rfl⟩⟩
  · replace h := cd_f b1 h
    obtain ⟨x4, e2, h⟩ := bd_e h
    refine AX.reg (its := [.auto {}, .auto { y := some (.v (.bool false)) }, .auto {}, .auto {}, .auto {}, .call 81 [.agg [.bs false 2 (List.map enc_si p2), .v (.int .i64 p3)]] (handO (rho ([] ++ [])) [] [] ++ []) (callEv [] [] (.v (.int .i64 x4)) [])]) [3] [] (s1 := ⟨[(3, .v (.bool (!decide ((Go.bits .andNot .i64 p1 x4) = 0))))], []⟩) (C := ((True) ∧ ((.v (.bool (decide (p1 < 0))) : AV) = (.v (.bool false) : AV))) ∧ ((([.agg [.bs false 2 (List.map enc_si p2), .v (.int .i64 p3)]] : List AV) = [.agg [.bs false 2 (List.map enc_si p2), .v (.int .i64 p3)]]) ∧ True) ∧ True) (by kernel_rfl) ⟨⟨trivial, (congrArg (fun z => AV.v (.bool z)) b1)⟩, ⟨⟨rfl, trivial⟩, trivial⟩⟩ ⟨call_ok (ks := []) (ns := []) (bor := []) (bobjs := []) (s_impl_Flag_mask p2 p3 x4 e2) (.cons (.c1 (.agg (.cons (.same _ (by kernel_rfl) (by kernel_rfl)) (.cons (.same _ (by kernel_rfl) (by kernel_rfl)) (.nil))))) (.nil)) (by kernel_rfl) trivial, trivial⟩ ?_
    refine AX.ret ?_
    refine fin_wk (Wk.forget [3] [] (s' := ⟨[(3, .v (.bool (!decide ((Go.bits .andNot .i64 p1 x4) = 0))))], []⟩) (by kernel_rfl)) ?_
    have hr := Option.some.inj h
    subst hr
    exact ⟨_, Wk.refl _, .inr rfl, ⟨[], by kernel_rfl, trivial, [.v (.bool (!decide ((Go.bits .andNot .i64 p1 x4) = 0)))], by kernel_rfl, by kernel_rfl⟩⟩

theorem s_slices_IndexFunc_i_GreatestArms_1_lsi_L1 (p1 : List (Int)) (p2 : List (ByteArray × Int)) (p3 : Int) (n : Nat) (g : Int) (out : Int ⊕ Unit) (h : m_slices_IndexFunc_i_GreatestArms_1_lsi_L1 p1 p2 p3 n g = some out) :
    AX Try.prog 19 0 (codeAt [1, 0, 1, 1] (bodyOf Try.f145)) ((fun g : Int => (⟨[(0, .bs false 1 (List.map enc_i p1)), (1, .fn 83 [.bp [.bs false 2 (List.map enc_si p2), .v (.int .i64 p3)] 0]), (7, .v (.int .i64 (p1.length : Int))), (8, .v (.int .i64 g))], []⟩ : S)) g) (fun ex s => (∃ o : Int, out = Sum.inl o ∧ ex = .ret ∧ s = ⟨[(4, .v (.int .i64 o))], []⟩) ∨ (∃ o : Unit, out = Sum.inr o ∧ ex = .exit 0 ∧ s = ⟨[], []⟩)) := by
  refine AX.wkpost ?_
  refine AX.loop (G := Nat × (Int)) (fun q => (fun g : Int => (⟨[(0, .bs false 1 (List.map enc_i p1)), (1, .fn 83 [.bp [.bs false 2 (List.map enc_si p2), .v (.int .i64 p3)] 0]), (7, .v (.int .i64 (p1.length : Int))), (8, .v (.int .i64 g))], []⟩ : S)) q.2) (fun q => m_slices_IndexFunc_i_GreatestArms_1_lsi_L1 p1 p2 p3 q.1 q.2 = some out) (fun q => q.1) (n, g) h (Wk.refl _) ?_
  clear h
  rintro ⟨fu, v4⟩ h
  cases fu with
  | zero => cases h
  | succ fu =>
    rw [m_slices_IndexFunc_i_GreatestArms_1_lsi_L1] at h
    refine AX.seq ?_
    refine AX.reg (its := []) [0, 1, 7, 8, 9] [] (s1 := ⟨[(0, .bs false 1 (List.map enc_i p1)), (1, .fn 83 [.bp [.bs false 2 (List.map enc_si p2), .v (.int .i64 p3)] 0]), (7, .v (.int .i64 (p1.length : Int))), (8, .v (.int .i64 v4)), (9, .v (.bool (decide (v4 < (p1.length : Int)))))], []⟩) (C := True) (by kernel_rfl) trivial trivial ?_
    refine AX.seq ?_
    rcases bool_cases (decide (v4 < (p1.length : Int))) with b1 | b1
    · replace h := cd_t b1 h
      refine AX.condT (decide (v4 < (p1.length : Int))) (by kernel_rfl) b1 ?_
      refine AX.skip ?_
      refine AX.seq ?_
      refine AX.block ?_
      refine AX.seq ?_
      refine AX.reg (its := []) [0, 1, 5, 7, 8] [] (s1 := ⟨[(0, .bs false 1 (List.map enc_i p1)), (1, .fn 83 [.bp [.bs false 2 (List.map enc_si p2), .v (.int .i64 p3)] 0]), (5, .v (.int .i64 v4)), (7, .v (.int .i64 (p1.length : Int))), (8, .v (.int .i64 v4))], []⟩) (C := True) (by kernel_rfl) trivial trivial ?_
      refine AX.seq ?_
      obtain ⟨g2, h⟩ := gd_e h
      obtain ⟨x5, e3, h⟩ := bd_e h
      refine AX.reg (its := [.auto {}, .auto {}, .auto {}, .auto { y := some (.be 1 (enc_i (gt p1 v4)) 0) }, .auto {}, .call 83 [.v (.int .i64 (gt p1 v4)), .bp [.bs false 2 (List.map enc_si p2), .v (.int .i64 p3)] 0] (handO (rho ([] ++ [])) [] [] ++ []) (callEv [] [] (.v (.bool x5)) [])]) [0, 1, 5, 7, 8, 16] [] (s1 := ⟨[(0, .bs false 1 (List.map enc_i p1)), (1, .fn 83 [.bp [.bs false 2 (List.map enc_si p2), .v (.int .i64 p3)] 0]), (5, .v (.int .i64 v4)), (7, .v (.int .i64 (p1.length : Int))), (8, .v (.int .i64 v4)), (16, .v (.bool x5))], []⟩) (C := ((0 ≤ v4 ∧ v4 < ((List.map enc_i p1).length : Int)) ∧ (AV.be 1 ((List.map enc_i p1).getD v4.toNat []) 0 = AV.be 1 (enc_i (gt p1 v4)) 0)) ∧ ((([.v (.int .i64 (gt p1 v4)), .bp [.bs false 2 (List.map enc_si p2), .v (.int .i64 p3)] 0] : List AV) = [.v (.int .i64 (gt p1 v4)), .bp [.bs false 2 (List.map enc_si p2), .v (.int .i64 p3)] 0]) ∧ True) ∧ True) (by kernel_rfl) ⟨idx_bs enc_i p1 v4 1 g2, ⟨⟨rfl, trivial⟩, trivial⟩⟩ ⟨call_ok (ks := []) (ns := []) (bor := []) (bobjs := []) (s_impl_GreatestArms_1_l (gt p1 v4) p2 p3 x5 e3) (.cons (.c1 (.c0 (.same _ (by kernel_rfl) (by kernel_rfl)))) (.cons (.c1 (.bp (.cons (.same _ (by kernel_rfl) (by kernel_rfl)) (.cons (.same _ (by kernel_rfl) (by kernel_rfl)) (.nil))))) (.nil))) (by kernel_rfl) trivial, trivial⟩ ?_
      rcases bool_cases (x5) with b4 | b4
      · replace h := cd_t b4 h
        refine AX.condT (x5) (by kernel_rfl) b4 ?_
        refine AX.seq ?_
        refine AX.reg (its := []) [4] [] (s1 := ⟨[(4, .v (.int .i64 v4))], []⟩) (C := True) (by kernel_rfl) trivial trivial ?_
        refine AX.ret ?_
        refine fin_wk (Wk.forget [4] [] (s' := ⟨[(4, .v (.int .i64 v4))], []⟩) (by kernel_rfl)) ?_
        have hr := Option.some.inj h
        subst hr
        exact ⟨_, Wk.refl _, .inl ⟨v4, rfl, rfl, rfl⟩⟩
      · replace h := cd_f b4 h
        refine AX.condF (x5) (by kernel_rfl) b4 ?_
        refine AX.skip ?_
        refine AX.reg (its := [.auto { raw := true }]) [0, 1, 7, 8] [] (s1 := ⟨[(0, .bs false 1 (List.map enc_i p1)), (1, .fn 83 [.bp [.bs false 2 (List.map enc_si p2), .v (.int .i64 p3)] 0]), (7, .v (.int .i64 (p1.length : Int))), (8, .v (.int .i64 (IntKind.wrap .i64 (v4 + 1))))], []⟩) (C := True) (by kernel_rfl) trivial trivial ?_
        refine ⟨(fu, IntKind.wrap .i64 (v4 + 1)), h, Nat.lt_succ_self _, ?_⟩
        refine Wk.trans (Wk.forget [0, 1, 7, 8] [] (s' := ⟨[(0, .bs false 1 (List.map enc_i p1)), (1, .fn 83 [.bp [.bs false 2 (List.map enc_si p2), .v (.int .i64 p3)] 0]), (7, .v (.int .i64 (p1.length : Int))), (8, .v (.int .i64 (IntKind.wrap .i64 (v4 + 1))))], []⟩) (by kernel_rfl)) ?_
        exact Wk.refl _
    · replace h := cd_f b1 h
      refine AX.condF (decide (v4 < (p1.length : Int))) (by kernel_rfl) b1 ?_
      refine AX.exit ?_
      refine fin_wk (Wk.forget [] [] (s' := ⟨[], []⟩) (by kernel_rfl)) ?_
      have hr := Option.some.inj h
      subst hr
      exact ⟨_, Wk.refl _, .inr ⟨(), rfl, rfl, rfl⟩⟩

theorem s_slices_IndexFunc_i_GreatestArms_1_lsi (p1 : List (Int)) (p2 : List (ByteArray × Int)) (p3 : Int) (r : Int) (h : m_slices_IndexFunc_i_GreatestArms_1_lsi p1 p2 p3 = some r) :
    Eng.Spec Try.prog 145 [.bs false 1 (List.map enc_i p1), .fn 83 [.bp [.bs false 2 (List.map enc_si p2), .v (.int .i64 p3)] 0]] [] (.v (.int .i64 r)) [] := by
  unfold m_slices_IndexFunc_i_GreatestArms_1_lsi at h
  refine Eng.Spec.body Try.func145 (by kernel_rfl) rfl (by kernel_rfl) ?_
  refine AX.wkpost ?_
  refine AX.seq ?_
  refine AX.reg (its := []) [0, 1] [] (s1 := ⟨[(0, .bs false 1 (List.map enc_i p1)), (1, .fn 83 [.bp [.bs false 2 (List.map enc_si p2), .v (.int .i64 p3)] 0])], []⟩) (C := True) (by kernel_rfl) trivial trivial ?_
  refine AX.seq ?_
  refine AX.seq ?_
  refine AX.reg (its := [.auto {}, .auto { y := some (.v (.int .i64 (p1.length : Int))) }]) [0, 1, 7, 8] [] (s1 := ⟨[(0, .bs false 1 (List.map enc_i p1)), (1, .fn 83 [.bp [.bs false 2 (List.map enc_si p2), .v (.int .i64 p3)] 0]), (7, .v (.int .i64 (p1.length : Int))), (8, .v (.int .i64 0))], []⟩) (C := (True ∧ (AV.v (.int .i64 ((List.map enc_i p1).length : Int)) = AV.v (.int .i64 (p1.length : Int)))) ∧ True) (by kernel_rfl) ⟨⟨trivial, len_map enc_i p1⟩, trivial⟩ trivial ?_
  refine AX.block ?_
  obtain ⟨x6, e5, h⟩ := bd_e h
  refine AX.wk (Wk.forget [0, 1, 7, 8] [] (s' := ⟨[(0, .bs false 1 (List.map enc_i p1)), (1, .fn 83 [.bp [.bs false 2 (List.map enc_si p2), .v (.int .i64 p3)] 0]), (7, .v (.int .i64 (p1.length : Int))), (8, .v (.int .i64 0))], []⟩) (by kernel_rfl)) ?_
  refine AX.mono (s_slices_IndexFunc_i_GreatestArms_1_lsi_L1 p1 p2 p3 FU 0 x6 e5) ?_
  rintro _ _ (⟨x7, rfl, rfl, rfl⟩ | ⟨x8, rfl, rfl, rfl⟩)
  · replace h := sm_l h
    refine fin_wk (Wk.forget [4] [] (s' := ⟨[(4, .v (.int .i64 x7))], []⟩) (by kernel_rfl)) ?_
    have hr := Option.some.inj h
    subst hr
    exact ⟨_, Wk.refl _, .inr rfl, ⟨[], by kernel_rfl, trivial, [.v (.int .i64 x7)], by kernel_rfl, by kernel_rfl⟩⟩
  · replace h := sm_r h
    refine AX.seq ?_
    refine AX.reg (its := []) [4] [] (s1 := ⟨[(4, .v (.int .i64 (-1)))], []⟩) (C := True) (by kernel_rfl) trivial trivial ?_
    refine AX.ret ?_
    refine fin_wk (Wk.forget [4] [] (s' := ⟨[(4, .v (.int .i64 (-1)))], []⟩) (by kernel_rfl)) ?_
    have hr := Option.some.inj h
    subst hr
    exact ⟨_, Wk.refl _, .inr rfl, ⟨[], by kernel_rfl, trivial, [.v (.int .i64 (-1))], by kernel_rfl, by kernel_rfl⟩⟩

theorem s_slices_ContainsFunc_i_GreatestArms_1_lsi (p1 : List (Int)) (p2 : List (ByteArray × Int)) (p3 : Int) (r : Bool) (h : m_slices_ContainsFunc_i_GreatestArms_1_lsi p1 p2 p3 = some r) :
    Eng.Spec Try.prog 82 [.bs false 1 (List.map enc_i p1), .fn 83 [.bp [.bs false 2 (List.map enc_si p2), .v (.int .i64 p3)] 0]] [] (.v (.bool r)) [] := by
  unfold m_slices_ContainsFunc_i_GreatestArms_1_lsi at h
  refine Eng.Spec.body Try.func82 (by kernel_rfl) rfl (by kernel_rfl) ?_
  refine AX.wkpost ?_
  refine AX.seq ?_
  refine AX.reg (its := []) [0, 1] [] (s1 := ⟨[(0, .bs false 1 (List.map enc_i p1)), (1, .fn 83 [.bp [.bs false 2 (List.map enc_si p2), .v (.int .i64 p3)] 0])], []⟩) (C := True) (by kernel_rfl) trivial trivial ?_
  refine AX.seq ?_
  obtain ⟨x4, e1, h⟩ := bd_e h
  refine AX.reg (its := [.auto {}, .auto {}, .call 145 [.bs false 1 (List.map enc_i p1), .fn 83 [.bp [.bs false 2 (List.map enc_si p2), .v (.int .i64 p3)] 0]] (handO (rho ([] ++ [])) [] [] ++ []) (callEv [] [] (.v (.int .i64 x4)) [])]) [4] [] (s1 := ⟨[(4, .v (.bool (decide (0 ≤ x4))))], []⟩) (C := ((([.bs false 1 (List.map enc_i p1), .fn 83 [.bp [.bs false 2 (List.map enc_si p2), .v (.int .i64 p3)] 0]] : List AV) = [.bs false 1 (List.map enc_i p1), .fn 83 [.bp [.bs false 2 (List.map enc_si p2), .v (.int .i64 p3)] 0]]) ∧ True) ∧ True) (by kernel_rfl) ⟨⟨rfl, trivial⟩, trivial⟩ ⟨call_ok (ks := []) (ns := []) (bor := []) (bobjs := []) (s_slices_IndexFunc_i_GreatestArms_1_lsi p1 p2 p3 x4 e1) (.cons (.c1 (.c0 (.same _ (by kernel_rfl) (by kernel_rfl)))) (.cons (.fn (.cons (.bp (.cons (.same _ (by kernel_rfl) (by kernel_rfl)) (.cons (.same _ (by kernel_rfl) (by kernel_rfl)) (.nil)))) (.nil))) (.nil))) (by kernel_rfl) trivial, trivial⟩ ?_
  refine AX.ret ?_
  refine fin_wk (Wk.forget [4] [] (s' := ⟨[(4, .v (.bool (decide (0 ≤ x4))))], []⟩) (by kernel_rfl)) ?_
  have hr := Option.some.inj h
  subst hr
  exact ⟨_, Wk.refl _, .inr rfl, ⟨[], by kernel_rfl, trivial, [.v (.bool (decide (0 ≤ x4)))], by kernel_rfl, by kernel_rfl⟩⟩

theorem s_impl_inside_L1 (p1 : Int) (n : Nat) (g : List (Int) × Int) (out : List (Int)) (h : m_impl_inside_L1 p1 n g.1 g.2 = some out) :
    AX Try.prog 19 0 (codeAt [1, 1, 0, 1, 1] (bodyOf Try.f84)) ((fun g : List (Int) × Int => (⟨[(0, .v (.int .i64 p1)), (3, .sl 0 0 g.1.length), (4, .v (.int .i64 g.2))], [(0, .arr 1 (List.map enc_i g.1))]⟩ : S)) g) (fun ex s => ex = .exit 0 ∧ s = (fun o : List (Int) => (⟨[(3, .sl 0 0 o.length)], [(0, .arr 1 (List.map enc_i o))]⟩ : S)) out) := by
  refine AX.wkpost ?_
  refine AX.loop (G := Nat × (List (Int) × Int)) (fun q => (fun g : List (Int) × Int => (⟨[(0, .v (.int .i64 p1)), (3, .sl 0 0 g.1.length), (4, .v (.int .i64 g.2))], [(0, .arr 1 (List.map enc_i g.1))]⟩ : S)) q.2) (fun q => m_impl_inside_L1 p1 q.1 q.2.1 q.2.2 = some out) (fun q => q.1) (n, g) h (Wk.refl _) ?_
  clear h
  rintro ⟨fu, v2, v3⟩ h
  cases fu with
  | zero => cases h
  | succ fu =>
    rw [m_impl_inside_L1] at h
    refine AX.seq ?_
    refine AX.seq ?_
    refine AX.reg (its := []) [0, 3, 4, 7] [0] (s1 := ⟨[(0, .v (.int .i64 p1)), (3, .sl 0 0 v2.length), (4, .v (.int .i64 v3)), (7, .v (.bool (decide (v3 ≤ p1))))], [(0, .arr 1 (List.map enc_i v2))]⟩) (C := True) (by kernel_rfl) trivial trivial ?_
    rcases bool_cases (decide (v3 ≤ p1)) with b1 | b1
    · replace h := cd_t b1 h
      refine AX.condT (decide (v3 ≤ p1)) (by kernel_rfl) b1 ?_
      refine AX.skip ?_
      refine AX.seq ?_
      refine AX.block ?_
      refine AX.seq ?_
      refine AX.reg (its := []) [0, 3, 4, 13] [0] (s1 := ⟨[(0, .v (.int .i64 p1)), (3, .sl 0 0 v2.length), (4, .v (.int .i64 v3)), (13, .v (.bool (decide ((Go.bits .andNot .i64 v3 p1) = 0))))], [(0, .arr 1 (List.map enc_i v2))]⟩) (C := True) (by kernel_rfl) trivial trivial ?_
      rcases bool_cases (decide ((Go.bits .andNot .i64 v3 p1) = 0)) with b2 | b2
      · replace h := cd_t b2 h
        refine AX.condT (decide ((Go.bits .andNot .i64 v3 p1) = 0)) (by kernel_rfl) b2 ?_
        obtain ⟨g3, h⟩ := gd_e h
        refine AX.reg (its := [.auto {}, .auto {}, .auto { nk := 1 }, .auto { y := some (.sl 2 0 ((v2 ++ ([v3] : List (Int))).length)), els := some (List.map enc_i v2), els2 := some (List.map enc_i ([v3] : List (Int))), nk := 2 }]) [0, 3, 4] [2] (s1 := ⟨[(0, .v (.int .i64 p1)), (3, .sl 2 0 ((v2 ++ ([v3] : List (Int))).length)), (4, .v (.int .i64 v3))], [(2, .arr 1 (List.map enc_i v2 ++ List.map enc_i ([v3] : List (Int))))]⟩) (C := ((((((List.map enc_i v2).drop 0).take (v2.length) = List.map enc_i v2) ∧ (((List.map enc_i ([v3] : List (Int))).drop 0).take (([v3] : List (Int)).length) = List.map enc_i ([v3] : List (Int)))) ∧ (List.map enc_i v2).length + (List.map enc_i ([v3] : List (Int))).length ≤ 1099511627776) ∧ (AV.sl 2 0 (List.map enc_i v2 ++ List.map enc_i ([v3] : List (Int))).length = AV.sl 2 0 (v2 ++ ([v3] : List (Int))).length)) ∧ True) (by kernel_rfl) ⟨⟨⟨⟨(dt_all (enc := enc_i) rfl rfl), (dt_all (enc := enc_i) rfl rfl)⟩, (by simp only [List.length_map, List.length_nil]; simpa using g3)⟩, sl_len (enc := enc_i) (app_can (enc := enc_i) rfl rfl)⟩, trivial⟩ trivial ?_
        refine AX.reg (its := [.auto {}, .auto { raw := true }]) [0, 3, 4] [2] (s1 := ⟨[(0, .v (.int .i64 p1)), (3, .sl 2 0 ((v2 ++ ([v3] : List (Int))).length)), (4, .v (.int .i64 (IntKind.wrap .i64 (v3 + 1))))], [(2, .arr 1 (List.map enc_i v2 ++ List.map enc_i ([v3] : List (Int))))]⟩) (C := True) (by kernel_rfl) trivial trivial ?_
        refine ⟨(fu, (v2 ++ ([v3] : List (Int)), IntKind.wrap .i64 (v3 + 1))), h, Nat.lt_succ_self _, ?_⟩
        refine Wk.trans (Wk.swap 0 2 (Nat.le_of_ble_eq_true (by kernel_rfl)) (Nat.le_of_ble_eq_true (by kernel_rfl)) rfl) ?_
        refine Wk.trans (Wk.forget [0, 3, 4] [0] (s' := ⟨[(0, .v (.int .i64 p1)), (3, .sl 0 0 ((v2 ++ ([v3] : List (Int))).length)), (4, .v (.int .i64 (IntKind.wrap .i64 (v3 + 1))))], [(0, .arr 1 (List.map enc_i v2 ++ List.map enc_i ([v3] : List (Int))))]⟩) (by kernel_rfl)) ?_
        refine Wk.trans (Wk.of_eq (congrArg (fun z => (⟨[(0, .v (.int .i64 p1)), (3, .sl 0 0 ((v2 ++ ([v3] : List (Int))).length)), (4, .v (.int .i64 (IntKind.wrap .i64 (v3 + 1))))], [(0, .arr 1 (z))]⟩ : S)) (app_can (enc := enc_i) rfl rfl : List.map enc_i v2 ++ List.map enc_i ([v3] : List (Int)) = List.map enc_i (v2 ++ ([v3] : List (Int)))))) ?_
        exact Wk.refl _
      · replace h := cd_f b2 h
        refine AX.condF (decide ((Go.bits .andNot .i64 v3 p1) = 0)) (by kernel_rfl) b2 ?_
        refine AX.skip ?_
        refine AX.reg (its := [.auto {}, .auto { raw := true }]) [0, 3, 4] [0] (s1 := ⟨[(0, .v (.int .i64 p1)), (3, .sl 0 0 v2.length), (4, .v (.int .i64 (IntKind.wrap .i64 (v3 + 1))))], [(0, .arr 1 (List.map enc_i v2))]⟩) (C := True) (by kernel_rfl) trivial trivial ?_
        refine ⟨(fu, (v2, IntKind.wrap .i64 (v3 + 1))), h, Nat.lt_succ_self _, ?_⟩
        refine Wk.trans (Wk.forget [0, 3, 4] [0] (s' := ⟨[(0, .v (.int .i64 p1)), (3, .sl 0 0 v2.length), (4, .v (.int .i64 (IntKind.wrap .i64 (v3 + 1))))], [(0, .arr 1 (List.map enc_i v2))]⟩) (by kernel_rfl)) ?_
        exact Wk.refl _
    · replace h := cd_f b1 h
      refine AX.condF (decide (v3 ≤ p1)) (by kernel_rfl) b1 ?_
      refine AX.exit ?_
      refine fin_wk (Wk.forget [3] [0] (s' := ⟨[(3, .sl 0 0 v2.length)], [(0, .arr 1 (List.map enc_i v2))]⟩) (by kernel_rfl)) ?_
      have hr := Option.some.inj h
      subst hr
      exact ⟨_, Wk.refl _, ⟨rfl, rfl⟩⟩

theorem s_impl_inside (p1 : Int) (r : List (Int)) (h : m_impl_inside p1 = some r) :
    Eng.Spec Try.prog 84 [.v (.int .i64 p1)] [] (.sl 0 0 r.length) [.arr 1 (List.map enc_i r)] := by
  unfold m_impl_inside at h
  refine Eng.Spec.body Try.func84 (by kernel_rfl) rfl (by kernel_rfl) ?_
  refine AX.wkpost ?_
  refine AX.seq ?_
  refine AX.reg (its := []) [0] [] (s1 := ⟨[(0, .v (.int .i64 p1))], []⟩) (C := True) (by kernel_rfl) trivial trivial ?_
  refine AX.seq ?_
  refine AX.reg (its := []) [0, 3] [] (s1 := ⟨[(0, .v (.int .i64 p1)), (3, .v (.slice none 0 0))], []⟩) (C := True) (by kernel_rfl) trivial trivial ?_
  refine AX.seq ?_
  refine AX.seq ?_
  refine AX.reg (its := []) [0, 3, 4] [] (s1 := ⟨[(0, .v (.int .i64 p1)), (3, .v (.slice none 0 0)), (4, .v (.int .i64 0))], []⟩) (C := True) (by kernel_rfl) trivial trivial ?_
  refine AX.block ?_
  obtain ⟨x4, e4, h⟩ := bd_e h
  refine AX.wk (Wk.mat 3 0 1 (by kernel_rfl) (Nat.le_of_ble_eq_true (by kernel_rfl)) (by kernel_rfl) rfl) ?_
  refine AX.wk (Wk.forget [0, 3, 4] [0] (s' := ⟨[(0, .v (.int .i64 p1)), (3, .sl 0 0 (([] : List (Int)).length)), (4, .v (.int .i64 0))], [(0, .arr 1 (List.map enc_i ([] : List (Int))))]⟩) (by kernel_rfl)) ?_
  refine AX.mono (s_impl_inside_L1 p1 FU (([] : List (Int)), 0) x4 e4) ?_
  rintro _ _ ⟨rfl, rfl⟩
  skip
  refine AX.seq ?_
  refine AX.reg (its := []) [2] [0] (s1 := ⟨[(2, .sl 0 0 x4.length)], [(0, .arr 1 (List.map enc_i x4))]⟩) (C := True) (by kernel_rfl) trivial trivial ?_
  refine AX.ret ?_
  refine fin_wk (Wk.forget [2] [0] (s' := ⟨[(2, .sl 0 0 x4.length)], [(0, .arr 1 (List.map enc_i x4))]⟩) (by kernel_rfl)) ?_
  have hr := Option.some.inj h
  subst hr
  exact ⟨_, Wk.refl _, .inr rfl, ⟨[0], by kernel_rfl, ⟨rfl, trivial⟩, [.sl 0 0 x4.length], by kernel_rfl, by kernel_rfl⟩⟩

theorem s_impl_Arm_ok (p1 : Int) (p2 : Int) (p3 : List (ByteArray × Int)) (p4 : Int) (r : Bool) (h : m_impl_Arm_ok p1 p2 p3 p4 = some r) :
    Eng.Spec Try.prog 85 [.agg [.v (.int .i64 p1), .v (.int .i64 p2)], .agg [.bs false 2 (List.map enc_si p3), .v (.int .i64 p4)]] [] (.v (.bool r)) [] := by
  unfold m_impl_Arm_ok at h
  refine Eng.Spec.body Try.func85 (by kernel_rfl) rfl (by kernel_rfl) ?_
  refine AX.wkpost ?_
  refine AX.seq ?_
  refine AX.reg (its := [.auto { nk := 0 }, .auto { nk := 1 }]) [2, 3] [0, 1] (s1 := ⟨[(2, .pt 0 0), (3, .pt 1 0)], [(0, .box [.v (.int .i64 p1), .v (.int .i64 p2)]), (1, .box [.bs false 2 (List.map enc_si p3), .v (.int .i64 p4)])]⟩) (C := True) (by kernel_rfl) trivial trivial ?_
  refine AX.seq ?_
  obtain ⟨x5, e1, h⟩ := bd_e h
  obtain ⟨v6, q2, h⟩ := nm_e h
  rcases bool_cases (v6) with b3 | b3
  · replace h := cd_t b3 h
    refine AX.drw mixed (its := [.auto {}, .auto {}, .auto {}, .auto {}, .auto {}, .auto {}, .call 81 [.agg [.bs false 2 (List.map enc_si p3), .v (.int .i64 p4)]] (handO (rho ([] ++ [])) [] [] ++ []) (callEv [] [] (.v (.int .i64 x5)) []), .auto {}, .auto { y := some (.v (.bool v6)) }, .auto { y := some (.v (.bool true)) }]) [4] [] (s1 := ⟨[(4, .v (.bool (decide ((Go.bits .and .i64 p1 p2) = 0))))], []⟩) (C := ((([.agg [.bs false 2 (List.map enc_si p3), .v (.int .i64 p4)]] : List AV) = [.agg [.bs false 2 (List.map enc_si p3), .v (.int .i64 p4)]]) ∧ True) ∧ ((True) ∧ ((.v (.bool (decide ((Go.bits .andNot .i64 (Go.bits .or .i64 p1 p2) x5) = 0))) : AV) = (.v (.bool v6) : AV))) ∧ ((True) ∧ ((.v (.bool v6) : AV) = (.v (.bool true) : AV))) ∧ True) (by kernel_rfl) ⟨⟨rfl, trivial⟩, ⟨⟨trivial, (congrArg (fun z => AV.v (.bool z)) q2)⟩, ⟨⟨trivial, (congrArg (fun z => AV.v (.bool z)) b3)⟩, trivial⟩⟩⟩ ⟨call_ok (ks := []) (ns := []) (bor := []) (bobjs := []) (s_impl_Flag_mask p3 p4 x5 e1) (.cons (.c1 (.agg (.cons (.same _ (by kernel_rfl) (by kernel_rfl)) (.cons (.same _ (by kernel_rfl) (by kernel_rfl)) (.nil))))) (.nil)) (by kernel_rfl) trivial, trivial⟩ ?_
    refine AX.ret ?_
    refine fin_wk (Wk.forget [4] [] (s' := ⟨[(4, .v (.bool (decide ((Go.bits .and .i64 p1 p2) = 0))))], []⟩) (by kernel_rfl)) ?_
    have hr := Option.some.inj h
    subst hr
    exact ⟨_, Wk.refl _, .inr rfl, ⟨[], by kernel_rfl, trivial, [.v (.bool (decide ((Go.bits .and .i64 p1 p2) = 0)))], by kernel_rfl, by kernel_rfl⟩⟩
  · replace h := cd_f b3 h
    refine AX.drw mixed (its := [.auto {}, .auto {}, .auto {}, .auto {}, .auto {}, .auto {}, .call 81 [.agg [.bs false 2 (List.map enc_si p3), .v (.int .i64 p4)]] (handO (rho ([] ++ [])) [] [] ++ []) (callEv [] [] (.v (.int .i64 x5)) []), .auto {}, .auto { y := some (.v (.bool v6)) }, .auto { y := some (.v (.bool false)) }]) [4] [] (s1 := ⟨[(4, .v (.bool false))], []⟩) (C := ((([.agg [.bs false 2 (List.map enc_si p3), .v (.int .i64 p4)]] : List AV) = [.agg [.bs false 2 (List.map enc_si p3), .v (.int .i64 p4)]]) ∧ True) ∧ ((True) ∧ ((.v (.bool (decide ((Go.bits .andNot .i64 (Go.bits .or .i64 p1 p2) x5) = 0))) : AV) = (.v (.bool v6) : AV))) ∧ ((True) ∧ ((.v (.bool v6) : AV) = (.v (.bool false) : AV))) ∧ True) (by kernel_rfl) ⟨⟨rfl, trivial⟩, ⟨⟨trivial, (congrArg (fun z => AV.v (.bool z)) q2)⟩, ⟨⟨trivial, (congrArg (fun z => AV.v (.bool z)) b3)⟩, trivial⟩⟩⟩ ⟨call_ok (ks := []) (ns := []) (bor := []) (bobjs := []) (s_impl_Flag_mask p3 p4 x5 e1) (.cons (.c1 (.agg (.cons (.same _ (by kernel_rfl) (by kernel_rfl)) (.cons (.same _ (by kernel_rfl) (by kernel_rfl)) (.nil))))) (.nil)) (by kernel_rfl) trivial, trivial⟩ ?_
    refine AX.ret ?_
    refine fin_wk (Wk.forget [4] [] (s' := ⟨[(4, .v (.bool false))], []⟩) (by kernel_rfl)) ?_
    have hr := Option.some.inj h
    subst hr
    exact ⟨_, Wk.refl _, .inr rfl, ⟨[], by kernel_rfl, trivial, [.v (.bool false)], by kernel_rfl, by kernel_rfl⟩⟩

theorem s_impl_Arm_matches (p1 : Int) (p2 : Int) (p3 : Int) (r : Bool) (h : m_impl_Arm_matches p1 p2 p3 = some r) :
    Eng.Spec Try.prog 87 [.agg [.v (.int .i64 p1), .v (.int .i64 p2)], .v (.int .i64 p3)] [] (.v (.bool r)) [] := by
  unfold m_impl_Arm_matches at h
  refine Eng.Spec.body Try.func87 (by kernel_rfl) rfl (by kernel_rfl) ?_
  refine AX.wkpost ?_
  refine AX.seq ?_
  refine AX.reg (its := [.auto { nk := 0 }]) [1, 2] [0] (s1 := ⟨[(1, .v (.int .i64 p3)), (2, .pt 0 0)], [(0, .box [.v (.int .i64 p1), .v (.int .i64 p2)])]⟩) (C := True) (by kernel_rfl) trivial trivial ?_
  refine AX.seq ?_
  rcases bool_cases (decide ((Go.bits .andNot .i64 p1 p3) = 0)) with b1 | b1
  · replace h := cd_t b1 h
    refine AX.reg (its := [.auto {}, .auto {}, .auto {}, .auto {}, .auto { y := some (.v (.bool true)) }]) [4] [] (s1 := ⟨[(4, .v (.bool (decide ((Go.bits .and .i64 p2 p3) = 0))))], []⟩) (C := ((True) ∧ ((.v (.bool (decide ((Go.bits .andNot .i64 p1 p3) = 0))) : AV) = (.v (.bool true) : AV))) ∧ True) (by kernel_rfl) ⟨⟨trivial, (congrArg (fun z => AV.v (.bool z)) b1)⟩, trivial⟩ trivial ?_
    refine AX.ret ?_
    refine fin_wk (Wk.forget [4] [] (s' := ⟨[(4, .v (.bool (decide ((Go.bits .and .i64 p2 p3) = 0))))], []⟩) (by kernel_rfl)) ?_
    have hr := Option.some.inj h
    subst hr
    exact ⟨_, Wk.refl _, .inr rfl, ⟨[], by kernel_rfl, trivial, [.v (.bool (decide ((Go.bits .and .i64 p2 p3) = 0)))], by kernel_rfl, by kernel_rfl⟩⟩
  · replace h := cd_f b1 h
    refine AX.reg (its := [.auto {}, .auto {}, .auto {}, .auto {}, .auto { y := some (.v (.bool false)) }]) [4] [] (s1 := ⟨[(4, .v (.bool false))], []⟩) (C := ((True) ∧ ((.v (.bool (decide ((Go.bits .andNot .i64 p1 p3) = 0))) : AV) = (.v (.bool false) : AV))) ∧ True) (by kernel_rfl) ⟨⟨trivial, (congrArg (fun z => AV.v (.bool z)) b1)⟩, trivial⟩ trivial ?_
    refine AX.ret ?_
    refine fin_wk (Wk.forget [4] [] (s' := ⟨[(4, .v (.bool false))], []⟩) (by kernel_rfl)) ?_
    have hr := Option.some.inj h
    subst hr
    exact ⟨_, Wk.refl _, .inr rfl, ⟨[], by kernel_rfl, trivial, [.v (.bool false)], by kernel_rfl, by kernel_rfl⟩⟩

theorem s_slices_Index_i_L1 (p1 : List (Int)) (p2 : Int) (n : Nat) (g : Int) (out : Int ⊕ Unit) (h : m_slices_Index_i_L1 p1 p2 n g = some out) :
    AX Try.prog 19 0 (codeAt [1, 0, 1, 1] (bodyOf Try.f146)) ((fun g : Int => (⟨[(0, .bs false 1 (List.map enc_i p1)), (1, .v (.int .i64 p2)), (7, .v (.int .i64 (p1.length : Int))), (8, .v (.int .i64 g))], []⟩ : S)) g) (fun ex s => (∃ o : Int, out = Sum.inl o ∧ ex = .ret ∧ s = ⟨[(4, .v (.int .i64 o))], []⟩) ∨ (∃ o : Unit, out = Sum.inr o ∧ ex = .exit 0 ∧ s = ⟨[], []⟩)) := by
  refine AX.wkpost ?_
  refine AX.loop (G := Nat × (Int)) (fun q => (fun g : Int => (⟨[(0, .bs false 1 (List.map enc_i p1)), (1, .v (.int .i64 p2)), (7, .v (.int .i64 (p1.length : Int))), (8, .v (.int .i64 g))], []⟩ : S)) q.2) (fun q => m_slices_Index_i_L1 p1 p2 q.1 q.2 = some out) (fun q => q.1) (n, g) h (Wk.refl _) ?_
  clear h
  rintro ⟨fu, v3⟩ h
  cases fu with
  | zero => cases h
  | succ fu =>
    rw [m_slices_Index_i_L1] at h
    refine AX.seq ?_
    refine AX.reg (its := []) [0, 1, 7, 8, 9] [] (s1 := ⟨[(0, .bs false 1 (List.map enc_i p1)), (1, .v (.int .i64 p2)), (7, .v (.int .i64 (p1.length : Int))), (8, .v (.int .i64 v3)), (9, .v (.bool (decide (v3 < (p1.length : Int)))))], []⟩) (C := True) (by kernel_rfl) trivial trivial ?_
    refine AX.seq ?_
    rcases bool_cases (decide (v3 < (p1.length : Int))) with b1 | b1
    · replace h := cd_t b1 h
      refine AX.condT (decide (v3 < (p1.length : Int))) (by kernel_rfl) b1 ?_
      refine AX.skip ?_
      refine AX.seq ?_
      refine AX.block ?_
      refine AX.seq ?_
      refine AX.reg (its := []) [0, 1, 5, 7, 8] [] (s1 := ⟨[(0, .bs false 1 (List.map enc_i p1)), (1, .v (.int .i64 p2)), (5, .v (.int .i64 v3)), (7, .v (.int .i64 (p1.length : Int))), (8, .v (.int .i64 v3))], []⟩) (C := True) (by kernel_rfl) trivial trivial ?_
      refine AX.seq ?_
      obtain ⟨g2, h⟩ := gd_e h
      refine AX.reg (its := [.auto {}, .auto {}, .auto {}, .auto { y := some (.be 1 (enc_i (gt p1 v3)) 0) }]) [0, 1, 5, 7, 8, 16] [] (s1 := ⟨[(0, .bs false 1 (List.map enc_i p1)), (1, .v (.int .i64 p2)), (5, .v (.int .i64 v3)), (7, .v (.int .i64 (p1.length : Int))), (8, .v (.int .i64 v3)), (16, .v (.bool (decide (p2 = (gt p1 v3)))))], []⟩) (C := ((0 ≤ v3 ∧ v3 < ((List.map enc_i p1).length : Int)) ∧ (AV.be 1 ((List.map enc_i p1).getD v3.toNat []) 0 = AV.be 1 (enc_i (gt p1 v3)) 0)) ∧ True) (by kernel_rfl) ⟨idx_bs enc_i p1 v3 1 g2, trivial⟩ trivial ?_
      rcases bool_cases (decide (p2 = (gt p1 v3))) with b3 | b3
      · replace h := cd_t b3 h
        refine AX.condT (decide (p2 = (gt p1 v3))) (by kernel_rfl) b3 ?_
        refine AX.seq ?_
        refine AX.reg (its := []) [4] [] (s1 := ⟨[(4, .v (.int .i64 v3))], []⟩) (C := True) (by kernel_rfl) trivial trivial ?_
        refine AX.ret ?_
        refine fin_wk (Wk.forget [4] [] (s' := ⟨[(4, .v (.int .i64 v3))], []⟩) (by kernel_rfl)) ?_
        have hr := Option.some.inj h
        subst hr
        exact ⟨_, Wk.refl _, .inl ⟨v3, rfl, rfl, rfl⟩⟩
      · replace h := cd_f b3 h
        refine AX.condF (decide (p2 = (gt p1 v3))) (by kernel_rfl) b3 ?_
        refine AX.skip ?_
        refine AX.reg (its := [.auto { raw := true }]) [0, 1, 7, 8] [] (s1 := ⟨[(0, .bs false 1 (List.map enc_i p1)), (1, .v (.int .i64 p2)), (7, .v (.int .i64 (p1.length : Int))), (8, .v (.int .i64 (IntKind.wrap .i64 (v3 + 1))))], []⟩) (C := True) (by kernel_rfl) trivial trivial ?_
        refine ⟨(fu, IntKind.wrap .i64 (v3 + 1)), h, Nat.lt_succ_self _, ?_⟩
        refine Wk.trans (Wk.forget [0, 1, 7, 8] [] (s' := ⟨[(0, .bs false 1 (List.map enc_i p1)), (1, .v (.int .i64 p2)), (7, .v (.int .i64 (p1.length : Int))), (8, .v (.int .i64 (IntKind.wrap .i64 (v3 + 1))))], []⟩) (by kernel_rfl)) ?_
        exact Wk.refl _
    · replace h := cd_f b1 h
      refine AX.condF (decide (v3 < (p1.length : Int))) (by kernel_rfl) b1 ?_
      refine AX.exit ?_
      refine fin_wk (Wk.forget [] [] (s' := ⟨[], []⟩) (by kernel_rfl)) ?_
      have hr := Option.some.inj h
      subst hr
      exact ⟨_, Wk.refl _, .inr ⟨(), rfl, rfl, rfl⟩⟩

theorem s_slices_Index_i (p1 : List (Int)) (p2 : Int) (r : Int) (h : m_slices_Index_i p1 p2 = some r) :
    Eng.Spec Try.prog 146 [.bs false 1 (List.map enc_i p1), .v (.int .i64 p2)] [] (.v (.int .i64 r)) [] := by
  unfold m_slices_Index_i at h
  refine Eng.Spec.body Try.func146 (by kernel_rfl) rfl (by kernel_rfl) ?_
  refine AX.wkpost ?_
  refine AX.seq ?_
  refine AX.reg (its := []) [0, 1] [] (s1 := ⟨[(0, .bs false 1 (List.map enc_i p1)), (1, .v (.int .i64 p2))], []⟩) (C := True) (by kernel_rfl) trivial trivial ?_
  refine AX.seq ?_
  refine AX.seq ?_
  refine AX.reg (its := [.auto {}, .auto { y := some (.v (.int .i64 (p1.length : Int))) }]) [0, 1, 7, 8] [] (s1 := ⟨[(0, .bs false 1 (List.map enc_i p1)), (1, .v (.int .i64 p2)), (7, .v (.int .i64 (p1.length : Int))), (8, .v (.int .i64 0))], []⟩) (C := (True ∧ (AV.v (.int .i64 ((List.map enc_i p1).length : Int)) = AV.v (.int .i64 (p1.length : Int)))) ∧ True) (by kernel_rfl) ⟨⟨trivial, len_map enc_i p1⟩, trivial⟩ trivial ?_
  refine AX.block ?_
  obtain ⟨x4, e4, h⟩ := bd_e h
  refine AX.wk (Wk.forget [0, 1, 7, 8] [] (s' := ⟨[(0, .bs false 1 (List.map enc_i p1)), (1, .v (.int .i64 p2)), (7, .v (.int .i64 (p1.length : Int))), (8, .v (.int .i64 0))], []⟩) (by kernel_rfl)) ?_
  refine AX.mono (s_slices_Index_i_L1 p1 p2 FU 0 x4 e4) ?_
  rintro _ _ (⟨x5, rfl, rfl, rfl⟩ | ⟨x6, rfl, rfl, rfl⟩)
  · replace h := sm_l h
    refine fin_wk (Wk.forget [4] [] (s' := ⟨[(4, .v (.int .i64 x5))], []⟩) (by kernel_rfl)) ?_
    have hr := Option.some.inj h
    subst hr
    exact ⟨_, Wk.refl _, .inr rfl, ⟨[], by kernel_rfl, trivial, [.v (.int .i64 x5)], by kernel_rfl, by kernel_rfl⟩⟩
  · replace h := sm_r h
    refine AX.seq ?_
    refine AX.reg (its := []) [4] [] (s1 := ⟨[(4, .v (.int .i64 (-1)))], []⟩) (C := True) (by kernel_rfl) trivial trivial ?_
    refine AX.ret ?_
    refine fin_wk (Wk.forget [4] [] (s' := ⟨[(4, .v (.int .i64 (-1)))], []⟩) (by kernel_rfl)) ?_
    have hr := Option.some.inj h
    subst hr
    exact ⟨_, Wk.refl _, .inr rfl, ⟨[], by kernel_rfl, trivial, [.v (.int .i64 (-1))], by kernel_rfl, by kernel_rfl⟩⟩

theorem s_slices_Contains_i (p1 : List (Int)) (p2 : Int) (r : Bool) (h : m_slices_Contains_i p1 p2 = some r) :
    Eng.Spec Try.prog 88 [.bs false 1 (List.map enc_i p1), .v (.int .i64 p2)] [] (.v (.bool r)) [] := by
  unfold m_slices_Contains_i at h
  refine Eng.Spec.body Try.func88 (by kernel_rfl) rfl (by kernel_rfl) ?_
  refine AX.wkpost ?_
  refine AX.seq ?_
  refine AX.reg (its := []) [0, 1] [] (s1 := ⟨[(0, .bs false 1 (List.map enc_i p1)), (1, .v (.int .i64 p2))], []⟩) (C := True) (by kernel_rfl) trivial trivial ?_
  refine AX.seq ?_
  obtain ⟨x3, e1, h⟩ := bd_e h
  refine AX.reg (its := [.auto {}, .auto {}, .call 146 [.bs false 1 (List.map enc_i p1), .v (.int .i64 p2)] (handO (rho ([] ++ [])) [] [] ++ []) (callEv [] [] (.v (.int .i64 x3)) [])]) [4] [] (s1 := ⟨[(4, .v (.bool (decide (0 ≤ x3))))], []⟩) (C := ((([.bs false 1 (List.map enc_i p1), .v (.int .i64 p2)] : List AV) = [.bs false 1 (List.map enc_i p1), .v (.int .i64 p2)]) ∧ True) ∧ True) (by kernel_rfl) ⟨⟨rfl, trivial⟩, trivial⟩ ⟨call_ok (ks := []) (ns := []) (bor := []) (bobjs := []) (s_slices_Index_i p1 p2 x3 e1) (.cons (.c1 (.c0 (.same _ (by kernel_rfl) (by kernel_rfl)))) (.cons (.c1 (.c0 (.same _ (by kernel_rfl) (by kernel_rfl)))) (.nil))) (by kernel_rfl) trivial, trivial⟩ ?_
  refine AX.ret ?_
  refine fin_wk (Wk.forget [4] [] (s' := ⟨[(4, .v (.bool (decide (0 ≤ x3))))], []⟩) (by kernel_rfl)) ?_
  have hr := Option.some.inj h
  subst hr
  exact ⟨_, Wk.refl _, .inr rfl, ⟨[], by kernel_rfl, trivial, [.v (.bool (decide (0 ≤ x3)))], by kernel_rfl, by kernel_rfl⟩⟩

theorem s_impl_GreatestArms_2_ll (p1 : Int) (p2 : Int) (p3 : Int) (p4 : List (Int)) (r : Bool) (h : m_impl_GreatestArms_2_ll p1 p2 p3 p4 = some r) :
    Eng.Spec Try.prog 86 [.v (.int .i64 p1), .bp [.v (.int .i64 p2), .v (.int .i64 p3)] 0, .bp [.bs false 1 (List.map enc_i p4)] 0] [] (.v (.bool r)) [] := by
  unfold m_impl_GreatestArms_2_ll at h
  refine Eng.Spec.body Try.func86 (by kernel_rfl) rfl (by kernel_rfl) ?_
  refine AX.wkpost ?_
  refine AX.seq ?_
  refine AX.reg (its := []) [0, 1, 2] [] (s1 := ⟨[(0, .v (.int .i64 p1)), (1, .bp [.v (.int .i64 p2), .v (.int .i64 p3)] 0), (2, .bp [.bs false 1 (List.map enc_i p4)] 0)], []⟩) (C := True) (by kernel_rfl) trivial trivial ?_
  refine AX.seq ?_
  obtain ⟨x5, e1, h⟩ := bd_e h
  rcases bool_cases (x5) with b2 | b2
  · replace h := cd_t b2 h
    obtain ⟨x6, e3, h⟩ := bd_e h
    refine AX.reg (its := [.auto {}, .auto {}, .call 87 [.agg [.v (.int .i64 p2), .v (.int .i64 p3)], .v (.int .i64 p1)] (handO (rho ([] ++ [])) [] [] ++ []) (callEv [] [] (.v (.bool true)) []), .auto {}, .auto {}, .auto {}, .call 88 [.bs false 1 (List.map enc_i p4), .v (.int .i64 p1)] (handO (rho ([] ++ [])) [] [] ++ []) (callEv [] [] (.v (.bool x6)) [])]) [4] [] (s1 := ⟨[(4, .v (.bool (!x6)))], []⟩) (C := ((([.agg [.v (.int .i64 p2), .v (.int .i64 p3)], .v (.int .i64 p1)] : List AV) = [.agg [.v (.int .i64 p2), .v (.int .i64 p3)], .v (.int .i64 p1)]) ∧ True) ∧ ((([.bs false 1 (List.map enc_i p4), .v (.int .i64 p1)] : List AV) = [.bs false 1 (List.map enc_i p4), .v (.int .i64 p1)]) ∧ True) ∧ True) (by kernel_rfl) ⟨⟨rfl, trivial⟩, ⟨⟨rfl, trivial⟩, trivial⟩⟩ ⟨call_ok (ks := []) (ns := []) (bor := []) (bobjs := []) (show Eng.Spec Try.prog 87 [.agg [.v (.int .i64 p2), .v (.int .i64 p3)], .v (.int .i64 p1)] [] (.v (.bool true)) [] from by have q := s_impl_Arm_matches p2 p3 p1 x5 e1; rw [b2] at q; exact q) (.cons (.c1 (.agg (.cons (.same _ (by kernel_rfl) (by kernel_rfl)) (.cons (.same _ (by kernel_rfl) (by kernel_rfl)) (.nil))))) (.cons (.c1 (.c0 (.same _ (by kernel_rfl) (by kernel_rfl)))) (.nil))) (by kernel_rfl) trivial, ⟨call_ok (ks := []) (ns := []) (bor := []) (bobjs := []) (s_slices_Contains_i p4 p1 x6 e3) (.cons (.c1 (.c0 (.same _ (by kernel_rfl) (by kernel_rfl)))) (.cons (.c1 (.c0 (.same _ (by kernel_rfl) (by kernel_rfl)))) (.nil))) (by kernel_rfl) trivial, trivial⟩⟩ ?_
    refine AX.ret ?_
    refine fin_wk (Wk.forget [4] [] (s' := ⟨[(4, .v (.bool (!x6)))], []⟩) (by kernel_rfl)) ?_
    have hr := Option.some.inj h
    subst hr
    exact ⟨_, Wk.refl _, .inr rfl, ⟨[], by kernel_rfl, trivial, [.v (.bool (!x6))], by kernel_rfl, by kernel_rfl⟩⟩
  · replace h := cd_f b2 h
    refine AX.reg (its := [.auto {}, .auto {}, .call 87 [.agg [.v (.int .i64 p2), .v (.int .i64 p3)], .v (.int .i64 p1)] (handO (rho ([] ++ [])) [] [] ++ []) (callEv [] [] (.v (.bool false)) [])]) [4] [] (s1 := ⟨[(4, .v (.bool false))], []⟩) (C := ((([.agg [.v (.int .i64 p2), .v (.int .i64 p3)], .v (.int .i64 p1)] : List AV) = [.agg [.v (.int .i64 p2), .v (.int .i64 p3)], .v (.int .i64 p1)]) ∧ True) ∧ True) (by kernel_rfl) ⟨⟨rfl, trivial⟩, trivial⟩ ⟨call_ok (ks := []) (ns := []) (bor := []) (bobjs := []) (show Eng.Spec Try.prog 87 [.agg [.v (.int .i64 p2), .v (.int .i64 p3)], .v (.int .i64 p1)] [] (.v (.bool false)) [] from by have q := s_impl_Arm_matches p2 p3 p1 x5 e1; rw [b2] at q; exact q) (.cons (.c1 (.agg (.cons (.same _ (by kernel_rfl) (by kernel_rfl)) (.cons (.same _ (by kernel_rfl) (by kernel_rfl)) (.nil))))) (.cons (.c1 (.c0 (.same _ (by kernel_rfl) (by kernel_rfl)))) (.nil))) (by kernel_rfl) trivial, trivial⟩ ?_
    refine AX.ret ?_
    refine fin_wk (Wk.forget [4] [] (s' := ⟨[(4, .v (.bool false))], []⟩) (by kernel_rfl)) ?_
    have hr := Option.some.inj h
    subst hr
    exact ⟨_, Wk.refl _, .inr rfl, ⟨[], by kernel_rfl, trivial, [.v (.bool false)], by kernel_rfl, by kernel_rfl⟩⟩

theorem s_slices_IndexFunc_i_GreatestArms_2_lli_L1 (p1 : List (Int)) (p2 : Int) (p3 : Int) (p4 : List (Int)) (n : Nat) (g : Int) (out : Int ⊕ Unit) (h : m_slices_IndexFunc_i_GreatestArms_2_lli_L1 p1 p2 p3 p4 n g = some out) :
    AX Try.prog 19 0 (codeAt [1, 0, 1, 1] (bodyOf Try.f145)) ((fun g : Int => (⟨[(0, .bs false 1 (List.map enc_i p1)), (1, .fn 86 [.bp [.v (.int .i64 p2), .v (.int .i64 p3)] 0, .bp [.bs false 1 (List.map enc_i p4)] 0]), (7, .v (.int .i64 (p1.length : Int))), (8, .v (.int .i64 g))], []⟩ : S)) g) (fun ex s => (∃ o : Int, out = Sum.inl o ∧ ex = .ret ∧ s = ⟨[(4, .v (.int .i64 o))], []⟩) ∨ (∃ o : Unit, out = Sum.inr o ∧ ex = .exit 0 ∧ s = ⟨[], []⟩)) := by
  refine AX.wkpost ?_
  refine AX.loop (G := Nat × (Int)) (fun q => (fun g : Int => (⟨[(0, .bs false 1 (List.map enc_i p1)), (1, .fn 86 [.bp [.v (.int .i64 p2), .v (.int .i64 p3)] 0, .bp [.bs false 1 (List.map enc_i p4)] 0]), (7, .v (.int .i64 (p1.length : Int))), (8, .v (.int .i64 g))], []⟩ : S)) q.2) (fun q => m_slices_IndexFunc_i_GreatestArms_2_lli_L1 p1 p2 p3 p4 q.1 q.2 = some out) (fun q => q.1) (n, g) h (Wk.refl _) ?_
  clear h
  rintro ⟨fu, v5⟩ h
  cases fu with
  | zero => cases h
  | succ fu =>
    rw [m_slices_IndexFunc_i_GreatestArms_2_lli_L1] at h
    refine AX.seq ?_
    refine AX.reg (its := []) [0, 1, 7, 8, 9] [] (s1 := ⟨[(0, .bs false 1 (List.map enc_i p1)), (1, .fn 86 [.bp [.v (.int .i64 p2), .v (.int .i64 p3)] 0, .bp [.bs false 1 (List.map enc_i p4)] 0]), (7, .v (.int .i64 (p1.length : Int))), (8, .v (.int .i64 v5)), (9, .v (.bool (decide (v5 < (p1.length : Int)))))], []⟩) (C := True) (by kernel_rfl) trivial trivial ?_
    refine AX.seq ?_
    rcases bool_cases (decide (v5 < (p1.length : Int))) with b1 | b1
    · replace h := cd_t b1 h
      refine AX.condT (decide (v5 < (p1.length : Int))) (by kernel_rfl) b1 ?_
      refine AX.skip ?_
      refine AX.seq ?_
      refine AX.block ?_
      refine AX.seq ?_
      refine AX.reg (its := []) [0, 1, 5, 7, 8] [] (s1 := ⟨[(0, .bs false 1 (List.map enc_i p1)), (1, .fn 86 [.bp [.v (.int .i64 p2), .v (.int .i64 p3)] 0, .bp [.bs false 1 (List.map enc_i p4)] 0]), (5, .v (.int .i64 v5)), (7, .v (.int .i64 (p1.length : Int))), (8, .v (.int .i64 v5))], []⟩) (C := True) (by kernel_rfl) trivial trivial ?_
      refine AX.seq ?_
      obtain ⟨g2, h⟩ := gd_e h
      obtain ⟨x6, e3, h⟩ := bd_e h
      refine AX.reg (its := [.auto {}, .auto {}, .auto {}, .auto { y := some (.be 1 (enc_i (gt p1 v5)) 0) }, .auto {}, .call 86 [.v (.int .i64 (gt p1 v5)), .bp [.v (.int .i64 p2), .v (.int .i64 p3)] 0, .bp [.bs false 1 (List.map enc_i p4)] 0] (handO (rho ([] ++ [])) [] [] ++ []) (callEv [] [] (.v (.bool x6)) [])]) [0, 1, 5, 7, 8, 16] [] (s1 := ⟨[(0, .bs false 1 (List.map enc_i p1)), (1, .fn 86 [.bp [.v (.int .i64 p2), .v (.int .i64 p3)] 0, .bp [.bs false 1 (List.map enc_i p4)] 0]), (5, .v (.int .i64 v5)), (7, .v (.int .i64 (p1.length : Int))), (8, .v (.int .i64 v5)), (16, .v (.bool x6))], []⟩) (C := ((0 ≤ v5 ∧ v5 < ((List.map enc_i p1).length : Int)) ∧ (AV.be 1 ((List.map enc_i p1).getD v5.toNat []) 0 = AV.be 1 (enc_i (gt p1 v5)) 0)) ∧ ((([.v (.int .i64 (gt p1 v5)), .bp [.v (.int .i64 p2), .v (.int .i64 p3)] 0, .bp [.bs false 1 (List.map enc_i p4)] 0] : List AV) = [.v (.int .i64 (gt p1 v5)), .bp [.v (.int .i64 p2), .v (.int .i64 p3)] 0, .bp [.bs false 1 (List.map enc_i p4)] 0]) ∧ True) ∧ True) (by kernel_rfl) ⟨idx_bs enc_i p1 v5 1 g2, ⟨⟨rfl, trivial⟩, trivial⟩⟩ ⟨call_ok (ks := []) (ns := []) (bor := []) (bobjs := []) (s_impl_GreatestArms_2_ll (gt p1 v5) p2 p3 p4 x6 e3) (.cons (.c1 (.c0 (.same _ (by kernel_rfl) (by kernel_rfl)))) (.cons (.c1 (.bp (.cons (.same _ (by kernel_rfl) (by kernel_rfl)) (.cons (.same _ (by kernel_rfl) (by kernel_rfl)) (.nil))))) (.cons (.c1 (.bp (.cons (.same _ (by kernel_rfl) (by kernel_rfl)) (.nil)))) (.nil)))) (by kernel_rfl) trivial, trivial⟩ ?_
      rcases bool_cases (x6) with b4 | b4
      · replace h := cd_t b4 h
        refine AX.condT (x6) (by kernel_rfl) b4 ?_
        refine AX.seq ?_
        refine AX.reg (its := []) [4] [] (s1 := ⟨[(4, .v (.int .i64 v5))], []⟩) (C := True) (by kernel_rfl) trivial trivial ?_
        refine AX.ret ?_
        refine fin_wk (Wk.forget [4] [] (s' := ⟨[(4, .v (.int .i64 v5))], []⟩) (by kernel_rfl)) ?_
        have hr := Option.some.inj h
        subst hr
        exact ⟨_, Wk.refl _, .inl ⟨v5, rfl, rfl, rfl⟩⟩
      · replace h := cd_f b4 h
        refine AX.condF (x6) (by kernel_rfl) b4 ?_
        refine AX.skip ?_
        refine AX.reg (its := [.auto { raw := true }]) [0, 1, 7, 8] [] (s1 := ⟨[(0, .bs false 1 (List.map enc_i p1)), (1, .fn 86 [.bp [.v (.int .i64 p2), .v (.int .i64 p3)] 0, .bp [.bs false 1 (List.map enc_i p4)] 0]), (7, .v (.int .i64 (p1.length : Int))), (8, .v (.int .i64 (IntKind.wrap .i64 (v5 + 1))))], []⟩) (C := True) (by kernel_rfl) trivial trivial ?_
        refine ⟨(fu, IntKind.wrap .i64 (v5 + 1)), h, Nat.lt_succ_self _, ?_⟩
        refine Wk.trans (Wk.forget [0, 1, 7, 8] [] (s' := ⟨[(0, .bs false 1 (List.map enc_i p1)), (1, .fn 86 [.bp [.v (.int .i64 p2), .v (.int .i64 p3)] 0, .bp [.bs false 1 (List.map enc_i p4)] 0]), (7, .v (.int .i64 (p1.length : Int))), (8, .v (.int .i64 (IntKind.wrap .i64 (v5 + 1))))], []⟩) (by kernel_rfl)) ?_
        exact Wk.refl _
    · replace h := cd_f b1 h
      refine AX.condF (decide (v5 < (p1.length : Int))) (by kernel_rfl) b1 ?_
      refine AX.exit ?_
      refine fin_wk (Wk.forget [] [] (s' := ⟨[], []⟩) (by kernel_rfl)) ?_
      have hr := Option.some.inj h
      subst hr
      exact ⟨_, Wk.refl _, .inr ⟨(), rfl, rfl, rfl⟩⟩

end Go.Eng
