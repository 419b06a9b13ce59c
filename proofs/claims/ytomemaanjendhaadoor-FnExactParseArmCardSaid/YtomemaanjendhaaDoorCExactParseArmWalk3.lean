/- What is proved here: each function keeps to its model, whatever its arguments, wherever the model has an answer. Printed by gen.py. -/
import Derived.Test.YtomemaanjendhaaDoorCExactParseArmWalk2
import Derived.Test.YtomemaanjendhaaDoorProg
import Derived.Test.YtomemaanjendhaaDoorCExactParseArmShelf
import Derived.KernelRfl
set_option linter.unusedVariables false
set_option linter.unusedSimpArgs false
set_option linter.unnecessarySimpa false
namespace Go.Eng
open Go Go.Proofs


theorem s_slices_insertionSortCmpFunc_h_Flag_singles_1_si_L2 (p1 : Int) (p2 : Int) (v4 : Int) (n : Nat) (g : Int × (List (ByteArray × Int))) (out : List (ByteArray × Int)) (h : m_slices_insertionSortCmpFunc_h_Flag_singles_1_si_L2 p1 p2 v4 n g.1 g.2 = some out) :
    AX Tryd.prog 53 1 (codeAt [1, 1, 1, 1, 0, 1, 1, 1] (bodyOf Tryd.f185)) ((fun g : Int × (List (ByteArray × Int)) => (⟨[(0, .sl 0 0 g.2.length), (1, .v (.int .i64 p1)), (2, .v (.int .i64 p2)), (3, .fn 142 []), (8, .v (.int .i64 v4)), (9, .v (.int .i64 g.1))], [(0, .arr 2 (List.map enc_si g.2))]⟩ : S)) g) (fun ex s => ex = .exit 2 ∧ s = (fun o : List (ByteArray × Int) => (⟨[(0, .sl 0 0 o.length), (1, .v (.int .i64 p1)), (2, .v (.int .i64 p2)), (3, .fn 142 []), (8, .v (.int .i64 v4))], [(0, .arr 2 (List.map enc_si o))]⟩ : S)) out) := by
  refine AX.wkpost ?_
  refine AX.loop (G := Nat × (Int × (List (ByteArray × Int)))) (fun q => (fun g : Int × (List (ByteArray × Int)) => (⟨[(0, .sl 0 0 g.2.length), (1, .v (.int .i64 p1)), (2, .v (.int .i64 p2)), (3, .fn 142 []), (8, .v (.int .i64 v4)), (9, .v (.int .i64 g.1))], [(0, .arr 2 (List.map enc_si g.2))]⟩ : S)) q.2) (fun q => m_slices_insertionSortCmpFunc_h_Flag_singles_1_si_L2 p1 p2 v4 q.1 q.2.1 q.2.2 = some out) (fun q => q.1) (n, g) h (Wk.refl _) ?_
  clear h
  rintro ⟨fu, v6, v7⟩ h
  cases fu with
  | zero => cases h
  | succ fu =>
    rw [m_slices_insertionSortCmpFunc_h_Flag_singles_1_si_L2] at h
    refine AX.seq ?_
    refine AX.seq ?_
    rcases bool_cases (decide (p1 < v6)) with b2 | b2
    · replace h := cd_t b2 h
      obtain ⟨g3, h⟩ := gd_e h
      obtain ⟨g4, h⟩ := gd_e h
      obtain ⟨x8, e5, h⟩ := bd_e h
      refine AX.drw mixed (its := [.auto {}, .auto {}, .auto { y := some (.v (.bool true)) }, .auto {}, .auto {}, .auto {}, .auto {}, .auto {}, .auto { y := some (.agg [.v (.string ((gt v7 v6).1)), .v (.int .i64 ((gt v7 v6).2))]) }, .auto {}, .auto {}, .auto { raw := true }, .auto {}, .auto { y := some (.agg [.v (.string ((gt v7 (IntKind.wrap .i64 (v6 - 1))).1)), .v (.int .i64 ((gt v7 (IntKind.wrap .i64 (v6 - 1))).2))]) }, .call 142 [.agg [.v (.string ((gt v7 v6).1)), .v (.int .i64 ((gt v7 v6).2))], .agg [.v (.string ((gt v7 (IntKind.wrap .i64 (v6 - 1))).1)), .v (.int .i64 ((gt v7 (IntKind.wrap .i64 (v6 - 1))).2))]] (handO (rho ([] ++ [])) [] [] ++ []) (callEv [] [] (.v (.int .i64 x8)) [])]) [0, 1, 2, 3, 8, 9, 34] [0] (s1 := ⟨[(0, .sl 0 0 v7.length), (1, .v (.int .i64 p1)), (2, .v (.int .i64 p2)), (3, .fn 142 []), (8, .v (.int .i64 v4)), (9, .v (.int .i64 v6)), (34, .v (.bool (decide (x8 < 0))))], [(0, .arr 2 (List.map enc_si v7))]⟩) (C := ((True) ∧ ((.v (.bool (decide (p1 < v6))) : AV) = (.v (.bool true) : AV))) ∧ (0 ≤ v6 ∧ v6 < (v7.length : Int)) ∧ (True ∧ (AV.agg ((((List.map enc_si v7).getD (0 + v6.toNat) []).drop 0 |>.take 2).map .v) = .agg [.v (.string ((gt v7 v6).1)), .v (.int .i64 ((gt v7 v6).2))])) ∧ (0 ≤ (IntKind.wrap .i64 (v6 - 1)) ∧ (IntKind.wrap .i64 (v6 - 1)) < (v7.length : Int)) ∧ (True ∧ (AV.agg ((((List.map enc_si v7).getD (0 + (IntKind.wrap .i64 (v6 - 1)).toNat) []).drop 0 |>.take 2).map .v) = .agg [.v (.string ((gt v7 (IntKind.wrap .i64 (v6 - 1))).1)), .v (.int .i64 ((gt v7 (IntKind.wrap .i64 (v6 - 1))).2))])) ∧ ((([.agg [.v (.string ((gt v7 v6).1)), .v (.int .i64 ((gt v7 v6).2))], .agg [.v (.string ((gt v7 (IntKind.wrap .i64 (v6 - 1))).1)), .v (.int .i64 ((gt v7 (IntKind.wrap .i64 (v6 - 1))).2))]] : List AV) = [.agg [.v (.string ((gt v7 v6).1)), .v (.int .i64 ((gt v7 v6).2))], .agg [.v (.string ((gt v7 (IntKind.wrap .i64 (v6 - 1))).1)), .v (.int .i64 ((gt v7 (IntKind.wrap .i64 (v6 - 1))).2))]]) ∧ True) ∧ True) (by kernel_rfl) ⟨⟨trivial, (congrArg (fun z => AV.v (.bool z)) b2)⟩, ⟨g3, ⟨⟨trivial, (congrArg (fun z : List Value => AV.agg (((z.drop 0).take 2).map .v)) (idx_arr (enc := enc_si) rfl g3))⟩, ⟨g4, ⟨⟨trivial, (congrArg (fun z : List Value => AV.agg (((z.drop 0).take 2).map .v)) (idx_arr (enc := enc_si) rfl g4))⟩, ⟨⟨rfl, trivial⟩, trivial⟩⟩⟩⟩⟩⟩ ⟨call_ok (ks := []) (ns := []) (bor := []) (bobjs := []) (s_impl_Flag_singles_1 ((gt v7 v6).1) ((gt v7 v6).2) ((gt v7 (IntKind.wrap .i64 (v6 - 1))).1) ((gt v7 (IntKind.wrap .i64 (v6 - 1))).2) x8 e5) (.cons (.c1 (.agg (.cons (.same _ (by kernel_rfl) (by kernel_rfl)) (.cons (.same _ (by kernel_rfl) (by kernel_rfl)) (.nil))))) (.cons (.c1 (.agg (.cons (.same _ (by kernel_rfl) (by kernel_rfl)) (.cons (.same _ (by kernel_rfl) (by kernel_rfl)) (.nil))))) (.nil))) (by kernel_rfl) trivial, trivial⟩ ?_
      rcases bool_cases (decide (x8 < 0)) with b6 | b6
      · replace h := cd_t b6 h
        refine AX.condT (decide (x8 < 0)) (by kernel_rfl) b6 ?_
        refine AX.skip ?_
        refine AX.seq ?_
        refine AX.block ?_
        refine AX.drw mixed (its := [.auto {}, .auto {}, .auto {}, .auto {}, .auto { raw := true }, .auto {}, .auto {}, .auto { raw := true }, .auto {}, .auto { y := some (.agg [.v (.string ((gt v7 (IntKind.wrap .i64 (v6 - 1))).1)), .v (.int .i64 ((gt v7 (IntKind.wrap .i64 (v6 - 1))).2))]) }, .auto {}, .auto {}, .auto {}, .auto { y := some (.agg [.v (.string ((gt v7 v6).1)), .v (.int .i64 ((gt v7 v6).2))]) }]) [0, 1, 2, 3, 8, 9] [0] (s1 := ⟨[(0, .sl 0 0 v7.length), (1, .v (.int .i64 p1)), (2, .v (.int .i64 p2)), (3, .fn 142 []), (8, .v (.int .i64 v4)), (9, .v (.int .i64 v6))], [(0, .arr 2 (((List.map enc_si v7).set (0 + v6.toNat) [(.string ((gt v7 (IntKind.wrap .i64 (v6 - 1))).1)), (.int .i64 ((gt v7 (IntKind.wrap .i64 (v6 - 1))).2))]).set (0 + (IntKind.wrap .i64 (v6 - 1)).toNat) [(.string ((gt v7 v6).1)), (.int .i64 ((gt v7 v6).2))]))]⟩) (C := (0 ≤ (IntKind.wrap .i64 (v6 - 1)) ∧ (IntKind.wrap .i64 (v6 - 1)) < (v7.length : Int)) ∧ (True ∧ (AV.agg ((((List.map enc_si v7).getD (0 + (IntKind.wrap .i64 (v6 - 1)).toNat) []).drop 0 |>.take 2).map .v) = .agg [.v (.string ((gt v7 (IntKind.wrap .i64 (v6 - 1))).1)), .v (.int .i64 ((gt v7 (IntKind.wrap .i64 (v6 - 1))).2))])) ∧ (0 ≤ v6 ∧ v6 < (v7.length : Int)) ∧ (True ∧ (AV.agg ((((List.map enc_si v7).getD (0 + v6.toNat) []).drop 0 |>.take 2).map .v) = .agg [.v (.string ((gt v7 v6).1)), .v (.int .i64 ((gt v7 v6).2))])) ∧ (0 ≤ v6 ∧ v6 < (v7.length : Int)) ∧ (0 ≤ (IntKind.wrap .i64 (v6 - 1)) ∧ (IntKind.wrap .i64 (v6 - 1)) < (v7.length : Int)) ∧ True) (by kernel_rfl) ⟨g4, ⟨⟨trivial, (congrArg (fun z : List Value => AV.agg (((z.drop 0).take 2).map .v)) (idx_arr (enc := enc_si) rfl g4))⟩, ⟨g3, ⟨⟨trivial, (congrArg (fun z : List Value => AV.agg (((z.drop 0).take 2).map .v)) (idx_arr (enc := enc_si) rfl g3))⟩, ⟨g3, ⟨g4, trivial⟩⟩⟩⟩⟩⟩ trivial ?_
        refine AX.reg (its := [.auto {}, .auto { raw := true }]) [0, 1, 2, 3, 8, 9] [0] (s1 := ⟨[(0, .sl 0 0 v7.length), (1, .v (.int .i64 p1)), (2, .v (.int .i64 p2)), (3, .fn 142 []), (8, .v (.int .i64 v4)), (9, .v (.int .i64 (IntKind.wrap .i64 (v6 - 1))))], [(0, .arr 2 (((List.map enc_si v7).set (0 + v6.toNat) [(.string ((gt v7 (IntKind.wrap .i64 (v6 - 1))).1)), (.int .i64 ((gt v7 (IntKind.wrap .i64 (v6 - 1))).2))]).set (0 + (IntKind.wrap .i64 (v6 - 1)).toNat) [(.string ((gt v7 v6).1)), (.int .i64 ((gt v7 v6).2))]))]⟩) (C := True) (by kernel_rfl) trivial trivial ?_
        refine ⟨(fu, (IntKind.wrap .i64 (v6 - 1), (v7.set (0 + v6.toNat) ((gt v7 (IntKind.wrap .i64 (v6 - 1))).1, (gt v7 (IntKind.wrap .i64 (v6 - 1))).2)).set (0 + (IntKind.wrap .i64 (v6 - 1)).toNat) ((gt v7 v6).1, (gt v7 v6).2))), h, Nat.lt_succ_self _, ?_⟩
        refine Wk.trans (Wk.forget [0, 1, 2, 3, 8, 9] [0] (s' := ⟨[(0, .sl 0 0 v7.length), (1, .v (.int .i64 p1)), (2, .v (.int .i64 p2)), (3, .fn 142 []), (8, .v (.int .i64 v4)), (9, .v (.int .i64 (IntKind.wrap .i64 (v6 - 1))))], [(0, .arr 2 (((List.map enc_si v7).set (0 + v6.toNat) [(.string ((gt v7 (IntKind.wrap .i64 (v6 - 1))).1)), (.int .i64 ((gt v7 (IntKind.wrap .i64 (v6 - 1))).2))]).set (0 + (IntKind.wrap .i64 (v6 - 1)).toNat) [(.string ((gt v7 v6).1)), (.int .i64 ((gt v7 v6).2))]))]⟩) (by kernel_rfl)) ?_
        refine Wk.trans (Wk.of_eq (congrArg (fun z => (⟨[(0, .sl 0 0 v7.length), (1, .v (.int .i64 p1)), (2, .v (.int .i64 p2)), (3, .fn 142 []), (8, .v (.int .i64 v4)), (9, .v (.int .i64 (IntKind.wrap .i64 (v6 - 1))))], [(0, .arr 2 (z))]⟩ : S)) (set_can (enc := enc_si) (set_can (enc := enc_si) rfl (0 + v6.toNat) ((gt v7 (IntKind.wrap .i64 (v6 - 1))).1, (gt v7 (IntKind.wrap .i64 (v6 - 1))).2)) (0 + (IntKind.wrap .i64 (v6 - 1)).toNat) ((gt v7 v6).1, (gt v7 v6).2)))) ?_
        refine Wk.trans (Wk.of_eq (congrArg (fun z => (⟨[(0, .sl 0 0 z), (1, .v (.int .i64 p1)), (2, .v (.int .i64 p2)), (3, .fn 142 []), (8, .v (.int .i64 v4)), (9, .v (.int .i64 (IntKind.wrap .i64 (v6 - 1))))], [(0, .arr 2 (List.map enc_si ((v7.set (0 + v6.toNat) ((gt v7 (IntKind.wrap .i64 (v6 - 1))).1, (gt v7 (IntKind.wrap .i64 (v6 - 1))).2)).set (0 + (IntKind.wrap .i64 (v6 - 1)).toNat) ((gt v7 v6).1, (gt v7 v6).2))))]⟩ : S)) (set_len ((set_len ((rfl : v7.length = v7.length)) (0 + v6.toNat) ((gt v7 (IntKind.wrap .i64 (v6 - 1))).1, (gt v7 (IntKind.wrap .i64 (v6 - 1))).2) : v7.length = (v7.set (0 + v6.toNat) ((gt v7 (IntKind.wrap .i64 (v6 - 1))).1, (gt v7 (IntKind.wrap .i64 (v6 - 1))).2)).length)) (0 + (IntKind.wrap .i64 (v6 - 1)).toNat) ((gt v7 v6).1, (gt v7 v6).2)))) ?_
        exact Wk.refl _
      · replace h := cd_f b6 h
        refine AX.condF (decide (x8 < 0)) (by kernel_rfl) b6 ?_
        refine AX.exit ?_
        refine fin_wk (Wk.forget [0, 1, 2, 3, 8] [0] (s' := ⟨[(0, .sl 0 0 v7.length), (1, .v (.int .i64 p1)), (2, .v (.int .i64 p2)), (3, .fn 142 []), (8, .v (.int .i64 v4))], [(0, .arr 2 (List.map enc_si v7))]⟩) (by kernel_rfl)) ?_
        have hr := Option.some.inj h
        subst hr
        exact ⟨_, Wk.refl _, ⟨rfl, rfl⟩⟩
    · replace h := cd_f b2 h
      refine AX.drw mixed (its := [.auto {}, .auto {}, .auto { y := some (.v (.bool false)) }]) [0, 1, 2, 3, 8, 9, 34] [0] (s1 := ⟨[(0, .sl 0 0 v7.length), (1, .v (.int .i64 p1)), (2, .v (.int .i64 p2)), (3, .fn 142 []), (8, .v (.int .i64 v4)), (9, .v (.int .i64 v6)), (34, .v (.bool false))], [(0, .arr 2 (List.map enc_si v7))]⟩) (C := ((True) ∧ ((.v (.bool (decide (p1 < v6))) : AV) = (.v (.bool false) : AV))) ∧ True) (by kernel_rfl) ⟨⟨trivial, (congrArg (fun z => AV.v (.bool z)) b2)⟩, trivial⟩ trivial ?_
      refine AX.cond_false (by kernel_rfl) ?_
      refine AX.exit ?_
      refine fin_wk (Wk.forget [0, 1, 2, 3, 8] [0] (s' := ⟨[(0, .sl 0 0 v7.length), (1, .v (.int .i64 p1)), (2, .v (.int .i64 p2)), (3, .fn 142 []), (8, .v (.int .i64 v4))], [(0, .arr 2 (List.map enc_si v7))]⟩) (by kernel_rfl)) ?_
      have hr := Option.some.inj h
      subst hr
      exact ⟨_, Wk.refl _, ⟨rfl, rfl⟩⟩

theorem s_slices_insertionSortCmpFunc_h_Flag_singles_1_si_L1 (p1 : Int) (p2 : Int) (n : Nat) (g : Int × (List (ByteArray × Int))) (out : List (ByteArray × Int)) (h : m_slices_insertionSortCmpFunc_h_Flag_singles_1_si_L1 p1 p2 n g.1 g.2 = some out) :
    AX Tryd.prog 53 1 (codeAt [1, 1] (bodyOf Tryd.f185)) ((fun g : Int × (List (ByteArray × Int)) => (⟨[(0, .sl 0 0 g.2.length), (1, .v (.int .i64 p1)), (2, .v (.int .i64 p2)), (3, .fn 142 []), (8, .v (.int .i64 g.1))], [(0, .arr 2 (List.map enc_si g.2))]⟩ : S)) g) (fun ex s => ex = .exit 0 ∧ s = (fun o : List (ByteArray × Int) => (⟨[], [(0, .arr 2 (List.map enc_si o))]⟩ : S)) out) := by
  refine AX.wkpost ?_
  refine AX.loop (G := Nat × (Int × (List (ByteArray × Int)))) (fun q => (fun g : Int × (List (ByteArray × Int)) => (⟨[(0, .sl 0 0 g.2.length), (1, .v (.int .i64 p1)), (2, .v (.int .i64 p2)), (3, .fn 142 []), (8, .v (.int .i64 g.1))], [(0, .arr 2 (List.map enc_si g.2))]⟩ : S)) q.2) (fun q => m_slices_insertionSortCmpFunc_h_Flag_singles_1_si_L1 p1 p2 q.1 q.2.1 q.2.2 = some out) (fun q => q.1) (n, g) h (Wk.refl _) ?_
  clear h
  rintro ⟨fu, v4, v5⟩ h
  cases fu with
  | zero => cases h
  | succ fu =>
    rw [m_slices_insertionSortCmpFunc_h_Flag_singles_1_si_L1] at h
    refine AX.seq ?_
    refine AX.seq ?_
    refine AX.reg (its := []) [0, 1, 2, 3, 8, 14] [0] (s1 := ⟨[(0, .sl 0 0 v5.length), (1, .v (.int .i64 p1)), (2, .v (.int .i64 p2)), (3, .fn 142 []), (8, .v (.int .i64 v4)), (14, .v (.bool (decide (v4 < p2))))], [(0, .arr 2 (List.map enc_si v5))]⟩) (C := True) (by kernel_rfl) trivial trivial ?_
    rcases bool_cases (decide (v4 < p2)) with b1 | b1
    · replace h := cd_t b1 h
      refine AX.condT (decide (v4 < p2)) (by kernel_rfl) b1 ?_
      refine AX.skip ?_
      refine AX.seq ?_
      refine AX.block ?_
      refine AX.seq ?_
      refine AX.reg (its := []) [0, 1, 2, 3, 8, 9] [0] (s1 := ⟨[(0, .sl 0 0 v5.length), (1, .v (.int .i64 p1)), (2, .v (.int .i64 p2)), (3, .fn 142 []), (8, .v (.int .i64 v4)), (9, .v (.int .i64 v4))], [(0, .arr 2 (List.map enc_si v5))]⟩) (C := True) (by kernel_rfl) trivial trivial ?_
      refine AX.block ?_
      obtain ⟨x9, e7, h⟩ := bd_e h
      refine AX.wk (Wk.forget [0, 1, 2, 3, 8, 9] [0] (s' := ⟨[(0, .sl 0 0 v5.length), (1, .v (.int .i64 p1)), (2, .v (.int .i64 p2)), (3, .fn 142 []), (8, .v (.int .i64 v4)), (9, .v (.int .i64 v4))], [(0, .arr 2 (List.map enc_si v5))]⟩) (by kernel_rfl)) ?_
      refine AX.mono (s_slices_insertionSortCmpFunc_h_Flag_singles_1_si_L2 p1 p2 v4 FU (v4, v5) x9 e7) ?_
      rintro _ _ ⟨rfl, rfl⟩
      skip
      refine AX.reg (its := [.auto {}, .auto { raw := true }]) [0, 1, 2, 3, 8] [0] (s1 := ⟨[(0, .sl 0 0 x9.length), (1, .v (.int .i64 p1)), (2, .v (.int .i64 p2)), (3, .fn 142 []), (8, .v (.int .i64 (IntKind.wrap .i64 (v4 + 1))))], [(0, .arr 2 (List.map enc_si x9))]⟩) (C := True) (by kernel_rfl) trivial trivial ?_
      refine ⟨(fu, (IntKind.wrap .i64 (v4 + 1), x9)), h, Nat.lt_succ_self _, ?_⟩
      refine Wk.trans (Wk.forget [0, 1, 2, 3, 8] [0] (s' := ⟨[(0, .sl 0 0 x9.length), (1, .v (.int .i64 p1)), (2, .v (.int .i64 p2)), (3, .fn 142 []), (8, .v (.int .i64 (IntKind.wrap .i64 (v4 + 1))))], [(0, .arr 2 (List.map enc_si x9))]⟩) (by kernel_rfl)) ?_
      exact Wk.refl _
    · replace h := cd_f b1 h
      refine AX.condF (decide (v4 < p2)) (by kernel_rfl) b1 ?_
      refine AX.exit ?_
      refine fin_wk (Wk.forget [] [0] (s' := ⟨[], [(0, .arr 2 (List.map enc_si v5))]⟩) (by kernel_rfl)) ?_
      have hr := Option.some.inj h
      subst hr
      exact ⟨_, Wk.refl _, ⟨rfl, rfl⟩⟩

theorem s_slices_insertionSortCmpFunc_h_Flag_singles_1_si (p1 : Int) (p2 : Int) (p3 : List (ByteArray × Int)) (r : List (ByteArray × Int)) (h : m_slices_insertionSortCmpFunc_h_Flag_singles_1_si p1 p2 p3 = some r) :
    Eng.Spec Tryd.prog 185 [.sl 0 0 p3.length, .v (.int .i64 p1), .v (.int .i64 p2), .fn 142 []] [.arr 2 (List.map enc_si p3)] (.tup []) [.arr 2 (List.map enc_si r)] := by
  unfold m_slices_insertionSortCmpFunc_h_Flag_singles_1_si at h
  refine Eng.Spec.body Tryd.func185 (by kernel_rfl) rfl (by kernel_rfl) ?_
  refine AX.wkpost ?_
  refine AX.seq ?_
  refine AX.reg (its := [.auto {}, .auto { raw := true }]) [0, 1, 2, 3, 8] [0] (s1 := ⟨[(0, .sl 0 0 p3.length), (1, .v (.int .i64 p1)), (2, .v (.int .i64 p2)), (3, .fn 142 []), (8, .v (.int .i64 (IntKind.wrap .i64 (p1 + 1))))], [(0, .arr 2 (List.map enc_si p3))]⟩) (C := True) (by kernel_rfl) trivial trivial ?_
  refine AX.block ?_
  obtain ⟨x10, e8, h⟩ := bd_e h
  refine AX.wk (Wk.forget [0, 1, 2, 3, 8] [0] (s' := ⟨[(0, .sl 0 0 p3.length), (1, .v (.int .i64 p1)), (2, .v (.int .i64 p2)), (3, .fn 142 []), (8, .v (.int .i64 (IntKind.wrap .i64 (p1 + 1))))], [(0, .arr 2 (List.map enc_si p3))]⟩) (by kernel_rfl)) ?_
  refine AX.mono (s_slices_insertionSortCmpFunc_h_Flag_singles_1_si_L1 p1 p2 FU (IntKind.wrap .i64 (p1 + 1), p3) x10 e8) ?_
  rintro _ _ ⟨rfl, rfl⟩
  skip
  refine fin_wk (Wk.forget [] [0] (s' := ⟨[], [(0, .arr 2 (List.map enc_si x10))]⟩) (by kernel_rfl)) ?_
  have hr := Option.some.inj h
  subst hr
  exact ⟨_, Wk.refl _, .inl rfl, ⟨[], by kernel_rfl, ⟨rfl, trivial⟩, [], by kernel_rfl, by kernel_rfl⟩⟩

theorem s_slices_pdqsortCmpFunc_h_Flag_singles_1_si_L1 (p1 : Int) (p2 : Int) (p3 : Int) (p4 : List (ByteArray × Int)) (n : Nat) (g : Unit) (out : List (ByteArray × Int)) (h : m_slices_pdqsortCmpFunc_h_Flag_singles_1_si_L1 p1 p2 p3 p4 n = some out) :
    AX Tryd.prog 148 1 (codeAt [1, 1, 1] (bodyOf Tryd.f164)) ((fun g : Unit => (⟨[(0, .sl 0 0 p4.length), (1, .v (.int .i64 p1)), (2, .v (.int .i64 p2)), (3, .v (.int .i64 p3)), (4, .fn 142 []), (10, .v (.bool true)), (11, .v (.bool true))], [(0, .arr 2 (List.map enc_si p4))]⟩ : S)) g) (fun ex s => ex = .ret ∧ s = (fun o : List (ByteArray × Int) => (⟨[], [(0, .arr 2 (List.map enc_si o))]⟩ : S)) out) := by
  refine AX.wkpost ?_
  refine AX.loop (G := Nat × (Unit)) (fun q => (fun g : Unit => (⟨[(0, .sl 0 0 p4.length), (1, .v (.int .i64 p1)), (2, .v (.int .i64 p2)), (3, .v (.int .i64 p3)), (4, .fn 142 []), (10, .v (.bool true)), (11, .v (.bool true))], [(0, .arr 2 (List.map enc_si p4))]⟩ : S)) q.2) (fun q => m_slices_pdqsortCmpFunc_h_Flag_singles_1_si_L1 p1 p2 p3 p4 q.1 = some out) (fun q => q.1) (n, g) h (Wk.refl _) ?_
  clear h
  rintro ⟨fu, _⟩ h
  cases fu with
  | zero => cases h
  | succ fu =>
    rw [m_slices_pdqsortCmpFunc_h_Flag_singles_1_si_L1] at h
    refine AX.block ?_
    refine AX.seq ?_
    refine AX.reg (its := [.auto {}, .auto {}, .auto { raw := true }]) [0, 1, 2, 3, 4, 10, 11, 12] [0] (s1 := ⟨[(0, .sl 0 0 p4.length), (1, .v (.int .i64 p1)), (2, .v (.int .i64 p2)), (3, .v (.int .i64 p3)), (4, .fn 142 []), (10, .v (.bool true)), (11, .v (.bool true)), (12, .v (.int .i64 (IntKind.wrap .i64 (p2 - p1))))], [(0, .arr 2 (List.map enc_si p4))]⟩) (C := True) (by kernel_rfl) trivial trivial ?_
    refine AX.seq ?_
    refine AX.seq ?_
    refine AX.reg (its := []) [0, 1, 2, 3, 4, 10, 11, 12, 25] [0] (s1 := ⟨[(0, .sl 0 0 p4.length), (1, .v (.int .i64 p1)), (2, .v (.int .i64 p2)), (3, .v (.int .i64 p3)), (4, .fn 142 []), (10, .v (.bool true)), (11, .v (.bool true)), (12, .v (.int .i64 (IntKind.wrap .i64 (p2 - p1)))), (25, .v (.bool (decide ((IntKind.wrap .i64 (p2 - p1)) ≤ 12))))], [(0, .arr 2 (List.map enc_si p4))]⟩) (C := True) (by kernel_rfl) trivial trivial ?_
    rcases bool_cases (decide ((IntKind.wrap .i64 (p2 - p1)) ≤ 12)) with b1 | b1
    · replace h := cd_t b1 h
      refine AX.condT (decide ((IntKind.wrap .i64 (p2 - p1)) ≤ 12)) (by kernel_rfl) b1 ?_
      refine AX.seq ?_
      obtain ⟨x5, e2, h⟩ := bd_e h
      obtain ⟨g3, h⟩ := gd_e h
      refine AX.reg (its := [.auto {}, .auto {}, .auto {}, .auto {}, .call 185 [.sl 0 0 p4.length, .v (.int .i64 p1), .v (.int .i64 p2), .fn 142 []] (handO (rho ([0] ++ [])) [0] [.arr 2 (List.map enc_si p4)] ++ []) (callEv [0] [] (.tup []) [.arr 2 (List.map enc_si x5)])]) [] [0] (s1 := ⟨[], [(0, .arr 2 (List.map enc_si x5))]⟩) (C := ((([.sl 0 0 p4.length, .v (.int .i64 p1), .v (.int .i64 p2), .fn 142 []] : List AV) = [.sl 0 0 p4.length, .v (.int .i64 p1), .v (.int .i64 p2), .fn 142 []]) ∧ (AO.arr 2 (List.map enc_si p4) = AO.arr 2 (List.map enc_si p4)) ∧ True) ∧ True) (by kernel_rfl) ⟨⟨rfl, rfl, trivial⟩, trivial⟩ ⟨call_ok (ks := [0]) (ns := []) (bor := []) (bobjs := []) (s_slices_insertionSortCmpFunc_h_Flag_singles_1_si p1 p2 p4 x5 e2) (.cons (.c1 (.c0 (.same _ (by kernel_rfl) (by kernel_rfl)))) (.cons (.c1 (.c0 (.same _ (by kernel_rfl) (by kernel_rfl)))) (.cons (.c1 (.c0 (.same _ (by kernel_rfl) (by kernel_rfl)))) (.cons (.fn (.nil)) (.nil))))) (by kernel_rfl) ⟨.inr (arr_sh (enc := enc_si) g3), trivial⟩, trivial⟩ ?_
      refine AX.ret ?_
      refine fin_wk (Wk.forget [] [0] (s' := ⟨[], [(0, .arr 2 (List.map enc_si x5))]⟩) (by kernel_rfl)) ?_
      refine fin_wk (Wk.of_eq (congrArg (fun z => (⟨[], [(0, .arr 2 (List.map enc_si x5))]⟩ : S)) (((rfl : p4.length = p4.length)).trans (g3).symm))) ?_
      have hr := Option.some.inj h
      subst hr
      exact ⟨_, Wk.refl _, ⟨rfl, rfl⟩⟩
    · replace h := cd_f b1 h
      refine AX.condF (decide ((IntKind.wrap .i64 (p2 - p1)) ≤ 12)) (by kernel_rfl) b1 ?_
      refine AX.skip ?_
      refine AX.seq ?_
      refine AX.seq ?_
      refine AX.reg (its := []) [0, 1, 2, 3, 4, 10, 11, 12, 32] [0] (s1 := ⟨[(0, .sl 0 0 p4.length), (1, .v (.int .i64 p1)), (2, .v (.int .i64 p2)), (3, .v (.int .i64 p3)), (4, .fn 142 []), (10, .v (.bool true)), (11, .v (.bool true)), (12, .v (.int .i64 (IntKind.wrap .i64 (p2 - p1)))), (32, .v (.bool (decide (p3 = 0))))], [(0, .arr 2 (List.map enc_si p4))]⟩) (C := True) (by kernel_rfl) trivial trivial ?_
      rcases bool_cases (decide (p3 = 0)) with b4 | b4
      · replace h := cd_t b4 h
        refine AX.condT (decide (p3 = 0)) (by kernel_rfl) b4 ?_
        refine AX.seq ?_
        cases h
      · replace h := cd_f b4 h
        refine AX.condF (decide (p3 = 0)) (by kernel_rfl) b4 ?_
        refine AX.skip ?_
        refine AX.seq ?_
        refine AX.seq ?_
        refine AX.reg (its := []) [0, 1, 2, 3, 4, 10, 11, 12, 39] [0] (s1 := ⟨[(0, .sl 0 0 p4.length), (1, .v (.int .i64 p1)), (2, .v (.int .i64 p2)), (3, .v (.int .i64 p3)), (4, .fn 142 []), (10, .v (.bool true)), (11, .v (.bool true)), (12, .v (.int .i64 (IntKind.wrap .i64 (p2 - p1)))), (39, .v (.bool false))], [(0, .arr 2 (List.map enc_si p4))]⟩) (C := True) (by kernel_rfl) trivial trivial ?_
        refine AX.cond_false (by kernel_rfl) ?_
        refine AX.skip ?_
        refine AX.seq ?_
        cases h

theorem s_slices_pdqsortCmpFunc_h_Flag_singles_1_si (p1 : Int) (p2 : Int) (p3 : Int) (p4 : List (ByteArray × Int)) (r : List (ByteArray × Int)) (h : m_slices_pdqsortCmpFunc_h_Flag_singles_1_si p1 p2 p3 p4 = some r) :
    Eng.Spec Tryd.prog 164 [.sl 0 0 p4.length, .v (.int .i64 p1), .v (.int .i64 p2), .v (.int .i64 p3), .fn 142 []] [.arr 2 (List.map enc_si p4)] (.tup []) [.arr 2 (List.map enc_si r)] := by
  unfold m_slices_pdqsortCmpFunc_h_Flag_singles_1_si at h
  refine Eng.Spec.body Tryd.func164 (by kernel_rfl) rfl (by kernel_rfl) ?_
  refine AX.wkpost ?_
  refine AX.seq ?_
  refine AX.reg (its := []) [0, 1, 2, 3, 4, 10] [0] (s1 := ⟨[(0, .sl 0 0 p4.length), (1, .v (.int .i64 p1)), (2, .v (.int .i64 p2)), (3, .v (.int .i64 p3)), (4, .fn 142 []), (10, .v (.bool true))], [(0, .arr 2 (List.map enc_si p4))]⟩) (C := True) (by kernel_rfl) trivial trivial ?_
  refine AX.seq ?_
  refine AX.reg (its := []) [0, 1, 2, 3, 4, 10, 11] [0] (s1 := ⟨[(0, .sl 0 0 p4.length), (1, .v (.int .i64 p1)), (2, .v (.int .i64 p2)), (3, .v (.int .i64 p3)), (4, .fn 142 []), (10, .v (.bool true)), (11, .v (.bool true))], [(0, .arr 2 (List.map enc_si p4))]⟩) (C := True) (by kernel_rfl) trivial trivial ?_
  refine AX.block ?_
  obtain ⟨x6, e5, h⟩ := bd_e h
  refine AX.wk (Wk.forget [0, 1, 2, 3, 4, 10, 11] [0] (s' := ⟨[(0, .sl 0 0 p4.length), (1, .v (.int .i64 p1)), (2, .v (.int .i64 p2)), (3, .v (.int .i64 p3)), (4, .fn 142 []), (10, .v (.bool true)), (11, .v (.bool true))], [(0, .arr 2 (List.map enc_si p4))]⟩) (by kernel_rfl)) ?_
  refine AX.mono (s_slices_pdqsortCmpFunc_h_Flag_singles_1_si_L1 p1 p2 p3 p4 FU () x6 e5) ?_
  rintro _ _ ⟨rfl, rfl⟩
  skip
  refine fin_wk (Wk.forget [] [0] (s' := ⟨[], [(0, .arr 2 (List.map enc_si x6))]⟩) (by kernel_rfl)) ?_
  have hr := Option.some.inj h
  subst hr
  exact ⟨_, Wk.refl _, .inr rfl, ⟨[], by kernel_rfl, ⟨rfl, trivial⟩, [], by kernel_rfl, by kernel_rfl⟩⟩

theorem s_slices_SortFunc_h_Flag_singles_1_si (p1 : List (ByteArray × Int)) (r : List (ByteArray × Int)) (h : m_slices_SortFunc_h_Flag_singles_1_si p1 = some r) :
    Eng.Spec Tryd.prog 141 [.sl 0 0 p1.length, .fn 142 []] [.arr 2 (List.map enc_si p1)] (.tup []) [.arr 2 (List.map enc_si r)] := by
  unfold m_slices_SortFunc_h_Flag_singles_1_si at h
  refine Eng.Spec.body Tryd.func141 (by kernel_rfl) rfl (by kernel_rfl) ?_
  refine AX.wkpost ?_
  refine AX.seq ?_
  refine AX.reg (its := []) [0, 1, 4] [0] (s1 := ⟨[(0, .sl 0 0 p1.length), (1, .fn 142 []), (4, .v (.int .i64 (p1.length : Int)))], [(0, .arr 2 (List.map enc_si p1))]⟩) (C := True) (by kernel_rfl) trivial trivial ?_
  obtain ⟨x2, e1, h⟩ := bd_e h
  obtain ⟨x3, e2, h⟩ := bd_e h
  obtain ⟨g3, h⟩ := gd_e h
  refine AX.reg (its := [.auto {}, .auto {}, .auto {}, .auto { raw := true }, .call 165 [.v (.int .u64 (IntKind.wrap .u64 ((p1.length : Int))))] (handO (rho ([] ++ [])) [] [] ++ []) (callEv [] [] (.v (.int .i64 x2)) []), .auto {}, .call 164 [.sl 0 0 p1.length, .v (.int .i64 0), .v (.int .i64 (p1.length : Int)), .v (.int .i64 x2), .fn 142 []] (handO (rho ([0] ++ [])) [0] [.arr 2 (List.map enc_si p1)] ++ []) (callEv [0] [] (.tup []) [.arr 2 (List.map enc_si x3)])]) [] [0] (s1 := ⟨[], [(0, .arr 2 (List.map enc_si x3))]⟩) (C := ((([.v (.int .u64 (IntKind.wrap .u64 ((p1.length : Int))))] : List AV) = [.v (.int .u64 (IntKind.wrap .u64 ((p1.length : Int))))]) ∧ True) ∧ ((([.sl 0 0 p1.length, .v (.int .i64 0), .v (.int .i64 (p1.length : Int)), .v (.int .i64 x2), .fn 142 []] : List AV) = [.sl 0 0 p1.length, .v (.int .i64 0), .v (.int .i64 (p1.length : Int)), .v (.int .i64 x2), .fn 142 []]) ∧ (AO.arr 2 (List.map enc_si p1) = AO.arr 2 (List.map enc_si p1)) ∧ True) ∧ True) (by kernel_rfl) ⟨⟨rfl, trivial⟩, ⟨⟨rfl, rfl, trivial⟩, trivial⟩⟩ ⟨call_ok (ks := []) (ns := []) (bor := []) (bobjs := []) (s_math_bits_Len (IntKind.wrap .u64 ((p1.length : Int))) x2 e1) (.cons (.c1 (.c0 (.same _ (by kernel_rfl) (by kernel_rfl)))) (.nil)) (by kernel_rfl) trivial, ⟨call_ok (ks := [0]) (ns := []) (bor := []) (bobjs := []) (s_slices_pdqsortCmpFunc_h_Flag_singles_1_si 0 (p1.length : Int) x2 p1 x3 e2) (.cons (.c1 (.c0 (.same _ (by kernel_rfl) (by kernel_rfl)))) (.cons (.c1 (.c0 (.same _ (by kernel_rfl) (by kernel_rfl)))) (.cons (.c1 (.c0 (.same _ (by kernel_rfl) (by kernel_rfl)))) (.cons (.c1 (.c0 (.same _ (by kernel_rfl) (by kernel_rfl)))) (.cons (.fn (.nil)) (.nil)))))) (by kernel_rfl) ⟨.inr (arr_sh (enc := enc_si) g3), trivial⟩, trivial⟩⟩ ?_
  refine fin_wk (Wk.forget [] [0] (s' := ⟨[], [(0, .arr 2 (List.map enc_si x3))]⟩) (by kernel_rfl)) ?_
  refine fin_wk (Wk.of_eq (congrArg (fun z => (⟨[], [(0, .arr 2 (List.map enc_si x3))]⟩ : S)) (((rfl : p1.length = p1.length)).trans (g3).symm))) ?_
  have hr := Option.some.inj h
  subst hr
  exact ⟨_, Wk.refl _, .inl rfl, ⟨[], by kernel_rfl, ⟨rfl, trivial⟩, [], by kernel_rfl, by kernel_rfl⟩⟩

theorem s_impl_Flag_singles_L1 (p1 : List (ByteArray × Int)) (n : Nat) (g : (List (ByteArray × Int)) × Int) (out : List (ByteArray × Int)) (h : m_impl_Flag_singles_L1 p1 n g.1 g.2 = some out) :
    AX Tryd.prog 31 0 (codeAt [1, 1, 0, 1, 1] (bodyOf Tryd.f107)) ((fun g : (List (ByteArray × Int)) × Int => (⟨[(3, .sl 0 0 g.1.length), (7, .bs false 2 (List.map enc_si p1)), (8, .v (.int .i64 (p1.length : Int))), (9, .v (.int .i64 g.2))], [(0, .arr 2 (List.map enc_si g.1))]⟩ : S)) g) (fun ex s => ex = .exit 0 ∧ s = (fun o : List (ByteArray × Int) => (⟨[(3, .sl 0 0 o.length)], [(0, .arr 2 (List.map enc_si o))]⟩ : S)) out) := by
  refine AX.wkpost ?_
  refine AX.loop (G := Nat × ((List (ByteArray × Int)) × Int)) (fun q => (fun g : (List (ByteArray × Int)) × Int => (⟨[(3, .sl 0 0 g.1.length), (7, .bs false 2 (List.map enc_si p1)), (8, .v (.int .i64 (p1.length : Int))), (9, .v (.int .i64 g.2))], [(0, .arr 2 (List.map enc_si g.1))]⟩ : S)) q.2) (fun q => m_impl_Flag_singles_L1 p1 q.1 q.2.1 q.2.2 = some out) (fun q => q.1) (n, g) h (Wk.refl _) ?_
  clear h
  rintro ⟨fu, v3, v4⟩ h
  cases fu with
  | zero => cases h
  | succ fu =>
    rw [m_impl_Flag_singles_L1] at h
    refine AX.seq ?_
    refine AX.reg (its := []) [3, 7, 8, 9, 10] [0] (s1 := ⟨[(3, .sl 0 0 v3.length), (7, .bs false 2 (List.map enc_si p1)), (8, .v (.int .i64 (p1.length : Int))), (9, .v (.int .i64 v4)), (10, .v (.bool (decide (v4 < (p1.length : Int)))))], [(0, .arr 2 (List.map enc_si v3))]⟩) (C := True) (by kernel_rfl) trivial trivial ?_
    refine AX.seq ?_
    rcases bool_cases (decide (v4 < (p1.length : Int))) with b1 | b1
    · replace h := cd_t b1 h
      refine AX.condT (decide (v4 < (p1.length : Int))) (by kernel_rfl) b1 ?_
      refine AX.skip ?_
      refine AX.seq ?_
      refine AX.block ?_
      refine AX.seq ?_
      obtain ⟨g2, h⟩ := gd_e h
      refine AX.reg (its := [.auto { y := some (.be 2 (enc_si (gt p1 v4)) 0) }, .auto {}, .auto { nk := 1 }]) [3, 5, 7, 8, 9] [0, 1] (s1 := ⟨[(3, .sl 0 0 v3.length), (5, .pt 1 0), (7, .bs false 2 (List.map enc_si p1)), (8, .v (.int .i64 (p1.length : Int))), (9, .v (.int .i64 v4))], [(0, .arr 2 (List.map enc_si v3)), (1, .box [.v (.string ((gt p1 v4).1)), .v (.int .i64 ((gt p1 v4).2))])]⟩) (C := ((0 ≤ v4 ∧ v4 < ((List.map enc_si p1).length : Int)) ∧ (AV.be 2 ((List.map enc_si p1).getD v4.toNat []) 0 = AV.be 2 (enc_si (gt p1 v4)) 0)) ∧ True) (by kernel_rfl) ⟨idx_bs enc_si p1 v4 2 g2, trivial⟩ trivial ?_
      refine AX.seq ?_
      obtain ⟨x5, e3, h⟩ := bd_e h
      rcases bool_cases (x5) with b4 | b4
      · replace h := cd_t b4 h
        obtain ⟨x6, e5, h⟩ := bd_e h
        refine AX.reg (its := [.auto {}, .auto {}, .call 140 [.v (.int .i64 ((gt p1 v4).2))] (handO (rho ([] ++ [])) [] [] ++ []) (callEv [] [] (.v (.bool true)) []), .auto {}, .auto {}, .auto {}, .auto {}, .call 68 [.sl 0 0 v3.length, .v (.int .i64 ((gt p1 v4).2))] (handO (rho ([] ++ [])) [] [] ++ [(0, .arr 2 (List.map enc_si v3))]) (callEv [] [] (.v (.int .i64 x6)) [])]) [3, 5, 7, 8, 9, 22] [0, 1] (s1 := ⟨[(3, .sl 0 0 v3.length), (5, .pt 1 0), (7, .bs false 2 (List.map enc_si p1)), (8, .v (.int .i64 (p1.length : Int))), (9, .v (.int .i64 v4)), (22, .v (.bool (decide (x6 < 0))))], [(0, .arr 2 (List.map enc_si v3)), (1, .box [.v (.string ((gt p1 v4).1)), .v (.int .i64 ((gt p1 v4).2))])]⟩) (C := ((([.v (.int .i64 ((gt p1 v4).2))] : List AV) = [.v (.int .i64 ((gt p1 v4).2))]) ∧ True) ∧ ((([.sl 0 0 v3.length, .v (.int .i64 ((gt p1 v4).2))] : List AV) = [.sl 0 0 v3.length, .v (.int .i64 ((gt p1 v4).2))]) ∧ (AO.arr 2 (List.map enc_si v3) = AO.arr 2 (List.map enc_si v3)) ∧ True) ∧ True) (by kernel_rfl) ⟨⟨rfl, trivial⟩, ⟨⟨rfl, rfl, trivial⟩, trivial⟩⟩ ⟨call_ok (ks := []) (ns := []) (bor := []) (bobjs := []) (show Eng.Spec Tryd.prog 140 [.v (.int .i64 ((gt p1 v4).2))] [] (.v (.bool true)) [] from by have q := s_impl_single ((gt p1 v4).2) x5 e3; rw [b4] at q; exact q) (.cons (.c1 (.c0 (.same _ (by kernel_rfl) (by kernel_rfl)))) (.nil)) (by kernel_rfl) trivial, ⟨call_ok (ks := []) (ns := []) (bor := [0]) (bobjs := [(0, .arr 2 (List.map enc_si v3))]) (s_impl_valued v3 ((gt p1 v4).2) x6 e5) (.cons (.c1 (.c0 (.arr rfl rfl ((rfl).trans (List.length_map ..).symm)))) (.cons (.c1 (.c0 (.same _ (by kernel_rfl) (by kernel_rfl)))) (.nil))) (by kernel_rfl) trivial, trivial⟩⟩ ?_
        rcases bool_cases (decide (x6 < 0)) with b6 | b6
        · replace h := cd_t b6 h
          refine AX.condT (decide (x6 < 0)) (by kernel_rfl) b6 ?_
          obtain ⟨g7, h⟩ := gd_e h
          refine AX.reg (its := [.auto {}, .auto {}, .auto { nk := 2 }, .auto { y := some (.sl 3 0 ((v3 ++ ([((gt p1 v4).1, (gt p1 v4).2)] : List (ByteArray × Int))).length)), els := some (List.map enc_si v3), els2 := some (List.map enc_si ([((gt p1 v4).1, (gt p1 v4).2)] : List (ByteArray × Int))), nk := 3 }]) [3, 7, 8, 9] [3] (s1 := ⟨[(3, .sl 3 0 ((v3 ++ ([((gt p1 v4).1, (gt p1 v4).2)] : List (ByteArray × Int))).length)), (7, .bs false 2 (List.map enc_si p1)), (8, .v (.int .i64 (p1.length : Int))), (9, .v (.int .i64 v4))], [(3, .arr 2 (List.map enc_si v3 ++ List.map enc_si ([((gt p1 v4).1, (gt p1 v4).2)] : List (ByteArray × Int))))]⟩) (C := ((((((List.map enc_si v3).drop 0).take (v3.length) = List.map enc_si v3) ∧ (((List.map enc_si ([((gt p1 v4).1, (gt p1 v4).2)] : List (ByteArray × Int))).drop 0).take (([((gt p1 v4).1, (gt p1 v4).2)] : List (ByteArray × Int)).length) = List.map enc_si ([((gt p1 v4).1, (gt p1 v4).2)] : List (ByteArray × Int)))) ∧ (List.map enc_si v3).length + (List.map enc_si ([((gt p1 v4).1, (gt p1 v4).2)] : List (ByteArray × Int))).length ≤ 1099511627776) ∧ (AV.sl 3 0 (List.map enc_si v3 ++ List.map enc_si ([((gt p1 v4).1, (gt p1 v4).2)] : List (ByteArray × Int))).length = AV.sl 3 0 (v3 ++ ([((gt p1 v4).1, (gt p1 v4).2)] : List (ByteArray × Int))).length)) ∧ True) (by kernel_rfl) ⟨⟨⟨⟨(dt_all (enc := enc_si) rfl rfl), (dt_all (enc := enc_si) rfl rfl)⟩, (by simp only [List.length_map, List.length_nil, List.length_replicate]; simpa using g7)⟩, sl_len (enc := enc_si) (app_can (enc := enc_si) rfl (rfl))⟩, trivial⟩ trivial ?_
          refine AX.reg (its := [.auto { raw := true }]) [3, 7, 8, 9] [3] (s1 := ⟨[(3, .sl 3 0 ((v3 ++ ([((gt p1 v4).1, (gt p1 v4).2)] : List (ByteArray × Int))).length)), (7, .bs false 2 (List.map enc_si p1)), (8, .v (.int .i64 (p1.length : Int))), (9, .v (.int .i64 (IntKind.wrap .i64 (v4 + 1))))], [(3, .arr 2 (List.map enc_si v3 ++ List.map enc_si ([((gt p1 v4).1, (gt p1 v4).2)] : List (ByteArray × Int))))]⟩) (C := True) (by kernel_rfl) trivial trivial ?_
          refine ⟨(fu, (v3 ++ ([((gt p1 v4).1, (gt p1 v4).2)] : List (ByteArray × Int)), IntKind.wrap .i64 (v4 + 1))), h, Nat.lt_succ_self _, ?_⟩
          refine Wk.trans (Wk.swap 0 3 (Nat.le_of_ble_eq_true (by kernel_rfl)) (Nat.le_of_ble_eq_true (by kernel_rfl)) rfl) ?_
          refine Wk.trans (Wk.forget [3, 7, 8, 9] [0] (s' := ⟨[(3, .sl 0 0 ((v3 ++ ([((gt p1 v4).1, (gt p1 v4).2)] : List (ByteArray × Int))).length)), (7, .bs false 2 (List.map enc_si p1)), (8, .v (.int .i64 (p1.length : Int))), (9, .v (.int .i64 (IntKind.wrap .i64 (v4 + 1))))], [(0, .arr 2 (List.map enc_si v3 ++ List.map enc_si ([((gt p1 v4).1, (gt p1 v4).2)] : List (ByteArray × Int))))]⟩) (by kernel_rfl)) ?_
          refine Wk.trans (Wk.of_eq (congrArg (fun z => (⟨[(3, .sl 0 0 ((v3 ++ ([((gt p1 v4).1, (gt p1 v4).2)] : List (ByteArray × Int))).length)), (7, .bs false 2 (List.map enc_si p1)), (8, .v (.int .i64 (p1.length : Int))), (9, .v (.int .i64 (IntKind.wrap .i64 (v4 + 1))))], [(0, .arr 2 (z))]⟩ : S)) (app_can (enc := enc_si) rfl (rfl) : List.map enc_si v3 ++ List.map enc_si ([((gt p1 v4).1, (gt p1 v4).2)] : List (ByteArray × Int)) = List.map enc_si (v3 ++ ([((gt p1 v4).1, (gt p1 v4).2)] : List (ByteArray × Int)))))) ?_
          exact Wk.refl _
        · replace h := cd_f b6 h
          refine AX.condF (decide (x6 < 0)) (by kernel_rfl) b6 ?_
          refine AX.skip ?_
          refine AX.reg (its := [.auto { raw := true }]) [3, 7, 8, 9] [0] (s1 := ⟨[(3, .sl 0 0 v3.length), (7, .bs false 2 (List.map enc_si p1)), (8, .v (.int .i64 (p1.length : Int))), (9, .v (.int .i64 (IntKind.wrap .i64 (v4 + 1))))], [(0, .arr 2 (List.map enc_si v3))]⟩) (C := True) (by kernel_rfl) trivial trivial ?_
          refine ⟨(fu, (v3, IntKind.wrap .i64 (v4 + 1))), h, Nat.lt_succ_self _, ?_⟩
          refine Wk.trans (Wk.forget [3, 7, 8, 9] [0] (s' := ⟨[(3, .sl 0 0 v3.length), (7, .bs false 2 (List.map enc_si p1)), (8, .v (.int .i64 (p1.length : Int))), (9, .v (.int .i64 (IntKind.wrap .i64 (v4 + 1))))], [(0, .arr 2 (List.map enc_si v3))]⟩) (by kernel_rfl)) ?_
          exact Wk.refl _
      · replace h := cd_f b4 h
        refine AX.reg (its := [.auto {}, .auto {}, .call 140 [.v (.int .i64 ((gt p1 v4).2))] (handO (rho ([] ++ [])) [] [] ++ []) (callEv [] [] (.v (.bool false)) [])]) [3, 5, 7, 8, 9, 22] [0, 1] (s1 := ⟨[(3, .sl 0 0 v3.length), (5, .pt 1 0), (7, .bs false 2 (List.map enc_si p1)), (8, .v (.int .i64 (p1.length : Int))), (9, .v (.int .i64 v4)), (22, .v (.bool false))], [(0, .arr 2 (List.map enc_si v3)), (1, .box [.v (.string ((gt p1 v4).1)), .v (.int .i64 ((gt p1 v4).2))])]⟩) (C := ((([.v (.int .i64 ((gt p1 v4).2))] : List AV) = [.v (.int .i64 ((gt p1 v4).2))]) ∧ True) ∧ True) (by kernel_rfl) ⟨⟨rfl, trivial⟩, trivial⟩ ⟨call_ok (ks := []) (ns := []) (bor := []) (bobjs := []) (show Eng.Spec Tryd.prog 140 [.v (.int .i64 ((gt p1 v4).2))] [] (.v (.bool false)) [] from by have q := s_impl_single ((gt p1 v4).2) x5 e3; rw [b4] at q; exact q) (.cons (.c1 (.c0 (.same _ (by kernel_rfl) (by kernel_rfl)))) (.nil)) (by kernel_rfl) trivial, trivial⟩ ?_
        refine AX.cond_false (by kernel_rfl) ?_
        refine AX.skip ?_
        refine AX.reg (its := [.auto { raw := true }]) [3, 7, 8, 9] [0] (s1 := ⟨[(3, .sl 0 0 v3.length), (7, .bs false 2 (List.map enc_si p1)), (8, .v (.int .i64 (p1.length : Int))), (9, .v (.int .i64 (IntKind.wrap .i64 (v4 + 1))))], [(0, .arr 2 (List.map enc_si v3))]⟩) (C := True) (by kernel_rfl) trivial trivial ?_
        refine ⟨(fu, (v3, IntKind.wrap .i64 (v4 + 1))), h, Nat.lt_succ_self _, ?_⟩
        refine Wk.trans (Wk.forget [3, 7, 8, 9] [0] (s' := ⟨[(3, .sl 0 0 v3.length), (7, .bs false 2 (List.map enc_si p1)), (8, .v (.int .i64 (p1.length : Int))), (9, .v (.int .i64 (IntKind.wrap .i64 (v4 + 1))))], [(0, .arr 2 (List.map enc_si v3))]⟩) (by kernel_rfl)) ?_
        exact Wk.refl _
    · replace h := cd_f b1 h
      refine AX.condF (decide (v4 < (p1.length : Int))) (by kernel_rfl) b1 ?_
      refine AX.exit ?_
      refine fin_wk (Wk.forget [3] [0] (s' := ⟨[(3, .sl 0 0 v3.length)], [(0, .arr 2 (List.map enc_si v3))]⟩) (by kernel_rfl)) ?_
      have hr := Option.some.inj h
      subst hr
      exact ⟨_, Wk.refl _, ⟨rfl, rfl⟩⟩

theorem s_impl_Flag_singles (p1 : List (ByteArray × Int)) (p2 : Int) (r : List (ByteArray × Int)) (h : m_impl_Flag_singles p1 p2 = some r) :
    Eng.Spec Tryd.prog 107 [.agg [.bs false 2 (List.map enc_si p1), .v (.int .i64 p2)]] [] (.sl 0 0 r.length) [.arr 2 (List.map enc_si r)] := by
  unfold m_impl_Flag_singles at h
  refine Eng.Spec.body Tryd.func107 (by kernel_rfl) rfl (by kernel_rfl) ?_
  refine AX.wkpost ?_
  refine AX.seq ?_
  refine AX.reg (its := [.auto { nk := 0 }]) [1] [0] (s1 := ⟨[(1, .pt 0 0)], [(0, .box [.bs false 2 (List.map enc_si p1), .v (.int .i64 p2)])]⟩) (C := True) (by kernel_rfl) trivial trivial ?_
  refine AX.seq ?_
  refine AX.reg (its := []) [1, 3] [0] (s1 := ⟨[(1, .pt 0 0), (3, .v (.slice none 0 0))], [(0, .box [.bs false 2 (List.map enc_si p1), .v (.int .i64 p2)])]⟩) (C := True) (by kernel_rfl) trivial trivial ?_
  refine AX.seq ?_
  refine AX.seq ?_
  refine AX.reg (its := [.auto {}, .auto {}, .auto { y := some (.v (.int .i64 (p1.length : Int))) }]) [3, 7, 8, 9] [] (s1 := ⟨[(3, .v (.slice none 0 0)), (7, .bs false 2 (List.map enc_si p1)), (8, .v (.int .i64 (p1.length : Int))), (9, .v (.int .i64 0))], []⟩) (C := (True ∧ (AV.v (.int .i64 ((List.map enc_si p1).length : Int)) = AV.v (.int .i64 (p1.length : Int)))) ∧ True) (by kernel_rfl) ⟨⟨trivial, len_map enc_si p1⟩, trivial⟩ trivial ?_
  refine AX.block ?_
  obtain ⟨x7, e8, h⟩ := bd_e h
  refine AX.wk (Wk.mat 3 0 2 (by kernel_rfl) (Nat.le_of_ble_eq_true (by kernel_rfl)) (by kernel_rfl) rfl) ?_
  refine AX.wk (Wk.forget [3, 7, 8, 9] [0] (s' := ⟨[(3, .sl 0 0 (([] : List (ByteArray × Int)).length)), (7, .bs false 2 (List.map enc_si p1)), (8, .v (.int .i64 (p1.length : Int))), (9, .v (.int .i64 0))], [(0, .arr 2 (List.map enc_si ([] : List (ByteArray × Int))))]⟩) (by kernel_rfl)) ?_
  refine AX.mono (s_impl_Flag_singles_L1 p1 FU (([] : List (ByteArray × Int)), 0) x7 e8) ?_
  rintro _ _ ⟨rfl, rfl⟩
  skip
  refine AX.seq ?_
  obtain ⟨x8, e9, h⟩ := bd_e h
  obtain ⟨g10, h⟩ := gd_e h
  refine AX.reg (its := [.auto {}, .call 141 [.sl 0 0 x7.length, .fn 142 []] (handO (rho ([0] ++ [])) [0] [.arr 2 (List.map enc_si x7)] ++ []) (callEv [0] [] (.tup []) [.arr 2 (List.map enc_si x8)])]) [3] [0] (s1 := ⟨[(3, .sl 0 0 x7.length)], [(0, .arr 2 (List.map enc_si x8))]⟩) (C := ((([.sl 0 0 x7.length, .fn 142 []] : List AV) = [.sl 0 0 x7.length, .fn 142 []]) ∧ (AO.arr 2 (List.map enc_si x7) = AO.arr 2 (List.map enc_si x7)) ∧ True) ∧ True) (by kernel_rfl) ⟨⟨rfl, rfl, trivial⟩, trivial⟩ ⟨call_ok (ks := [0]) (ns := []) (bor := []) (bobjs := []) (s_slices_SortFunc_h_Flag_singles_1_si x7 x8 e9) (.cons (.c1 (.c0 (.same _ (by kernel_rfl) (by kernel_rfl)))) (.cons (.fn (.nil)) (.nil))) (by kernel_rfl) ⟨.inr (arr_sh (enc := enc_si) g10), trivial⟩, trivial⟩ ?_
  refine AX.seq ?_
  refine AX.reg (its := []) [2] [0] (s1 := ⟨[(2, .sl 0 0 x7.length)], [(0, .arr 2 (List.map enc_si x8))]⟩) (C := True) (by kernel_rfl) trivial trivial ?_
  refine AX.ret ?_
  refine fin_wk (Wk.forget [2] [0] (s' := ⟨[(2, .sl 0 0 x7.length)], [(0, .arr 2 (List.map enc_si x8))]⟩) (by kernel_rfl)) ?_
  refine fin_wk (Wk.of_eq (congrArg (fun z => (⟨[(2, .sl 0 0 z)], [(0, .arr 2 (List.map enc_si x8))]⟩ : S)) (((rfl : x7.length = x7.length)).trans (g10).symm))) ?_
  have hr := Option.some.inj h
  subst hr
  exact ⟨_, Wk.refl _, .inr rfl, ⟨[0], by kernel_rfl, ⟨rfl, trivial⟩, [.sl 0 0 x8.length], by kernel_rfl, by kernel_rfl⟩⟩

theorem s_strings_Join (p1 : List (ByteArray)) (p2 : ByteArray) (r : ByteArray) (h : m_strings_Join p1 p2 = some r) :
    Eng.Spec Tryd.prog 108 [.bs false 1 (List.map enc_s p1), .v (.string p2)] [] (.v (.string r)) [] := by
  unfold m_strings_Join at h
  obtain ⟨g1, h⟩ := gd_e h
  obtain ⟨g2, h⟩ := gd_e h
  have hr := Option.some.inj h
  subst hr
  refine spec_pure (r := .string ⟨(Lib.join (p1.map (·.data.toList)) p2.data.toList).toArray⟩) ⟨_, Tryd.func108, by kernel_rfl, by kernel_rfl⟩ (fun X m sh => by simp only [VR]) ?_
  intro X m vs hv
  simp only [VRs] at hv
  obtain ⟨v, _, rfl, hb, y, _, rfl, hy, rfl⟩ := hv
  simp only [VR] at hy
  subst hy
  rcases bs_strings hb with ⟨h0, a, c, rfl⟩ | ⟨b, off, c, rfl, hc, hlt, hcells⟩
  · subst h0
    refine (Tryd.strings_Join_none a c p2 X.w0).mono ?_
    rintro e w' ⟨rfl, rfl⟩
    exact ⟨by simp [Lib.join_nil], RowKit.Below.refl _ _⟩
  · refine (Tryd.strings_Join b off c p1 p2 X.w0 hcells hlt g1 hc g2).mono ?_
    rintro e w' ⟨rfl, hw⟩
    exact ⟨rfl, hw⟩

theorem s_impl_ArmText_L1 (p3 : Int) (p4 : Int) (x6 : List (ByteArray × Int)) (n : Nat) (g : List (ByteArray) × Int × Int) (out : List (ByteArray) × Int) (h : m_impl_ArmText_L1 p3 p4 x6 n g.1 g.2.1 g.2.2 = some out) :
    AX Tryd.prog 64 0 (codeAt [1, 1, 1, 1, 0, 1, 1] (bodyOf Tryd.f53)) ((fun g : List (ByteArray) × Int × Int => (⟨[(3, .pt 0 0), (5, .sl 1 0 g.1.length), (6, .v (.int .i64 g.2.1)), (19, .sl 2 0 x6.length), (20, .v (.int .i64 (x6.length : Int))), (21, .v (.int .i64 g.2.2))], [(0, .box [.v (.int .i64 p3), .v (.int .i64 p4)]), (1, .arr 1 (List.map enc_s g.1)), (2, .arr 2 (List.map enc_si x6))]⟩ : S)) g) (fun ex s => ex = .exit 0 ∧ s = (fun o : List (ByteArray) × Int => (⟨[(5, .sl 0 0 o.1.length), (6, .v (.int .i64 o.2))], [(0, .arr 1 (List.map enc_s o.1))]⟩ : S)) out) := by
  refine AX.wkpost ?_
  refine AX.loop (G := Nat × (List (ByteArray) × Int × Int)) (fun q => (fun g : List (ByteArray) × Int × Int => (⟨[(3, .pt 0 0), (5, .sl 1 0 g.1.length), (6, .v (.int .i64 g.2.1)), (19, .sl 2 0 x6.length), (20, .v (.int .i64 (x6.length : Int))), (21, .v (.int .i64 g.2.2))], [(0, .box [.v (.int .i64 p3), .v (.int .i64 p4)]), (1, .arr 1 (List.map enc_s g.1)), (2, .arr 2 (List.map enc_si x6))]⟩ : S)) q.2) (fun q => m_impl_ArmText_L1 p3 p4 x6 q.1 q.2.1 q.2.2.1 q.2.2.2 = some out) (fun q => q.1) (n, g) h (Wk.refl _) ?_
  clear h
  rintro ⟨fu, v7, v8, v9⟩ h
  cases fu with
  | zero => cases h
  | succ fu =>
    rw [m_impl_ArmText_L1] at h
    refine AX.seq ?_
    refine AX.reg (its := []) [3, 5, 6, 19, 20, 21, 22] [0, 1, 2] (s1 := ⟨[(3, .pt 0 0), (5, .sl 1 0 v7.length), (6, .v (.int .i64 v8)), (19, .sl 2 0 x6.length), (20, .v (.int .i64 (x6.length : Int))), (21, .v (.int .i64 v9)), (22, .v (.bool (decide (v9 < (x6.length : Int)))))], [(0, .box [.v (.int .i64 p3), .v (.int .i64 p4)]), (1, .arr 1 (List.map enc_s v7)), (2, .arr 2 (List.map enc_si x6))]⟩) (C := True) (by kernel_rfl) trivial trivial ?_
    refine AX.seq ?_
    rcases bool_cases (decide (v9 < (x6.length : Int))) with b4 | b4
    · replace h := cd_t b4 h
      refine AX.condT (decide (v9 < (x6.length : Int))) (by kernel_rfl) b4 ?_
      refine AX.skip ?_
      refine AX.seq ?_
      refine AX.block ?_
      refine AX.seq ?_
      obtain ⟨g5, h⟩ := gd_e h
      refine AX.reg (its := [.auto {}, .auto { y := some (.agg [.v (.string ((gt x6 v9).1)), .v (.int .i64 ((gt x6 v9).2))]) }, .auto { nk := 3 }]) [3, 5, 6, 8, 19, 20, 21] [0, 1, 2, 3] (s1 := ⟨[(3, .pt 0 0), (5, .sl 1 0 v7.length), (6, .v (.int .i64 v8)), (8, .pt 3 0), (19, .sl 2 0 x6.length), (20, .v (.int .i64 (x6.length : Int))), (21, .v (.int .i64 v9))], [(0, .box [.v (.int .i64 p3), .v (.int .i64 p4)]), (1, .arr 1 (List.map enc_s v7)), (2, .arr 2 (List.map enc_si x6)), (3, .box [.v (.string ((gt x6 v9).1)), .v (.int .i64 ((gt x6 v9).2))])]⟩) (C := (0 ≤ v9 ∧ v9 < (x6.length : Int)) ∧ (True ∧ (AV.agg ((((List.map enc_si x6).getD (0 + v9.toNat) []).drop 0 |>.take 2).map .v) = .agg [.v (.string ((gt x6 v9).1)), .v (.int .i64 ((gt x6 v9).2))])) ∧ True) (by kernel_rfl) ⟨g5, ⟨⟨trivial, (congrArg (fun z : List Value => AV.agg (((z.drop 0).take 2).map .v)) (idx_arr (enc := enc_si) rfl g5))⟩, trivial⟩⟩ trivial ?_
      refine AX.seq ?_
      refine AX.reg (its := []) [3, 5, 6, 8, 19, 20, 21] [0, 1, 2, 3] (s1 := ⟨[(3, .pt 0 0), (5, .sl 1 0 v7.length), (6, .v (.int .i64 (Go.bits .andNot .i64 v8 ((gt x6 v9).2)))), (8, .pt 3 0), (19, .sl 2 0 x6.length), (20, .v (.int .i64 (x6.length : Int))), (21, .v (.int .i64 v9))], [(0, .box [.v (.int .i64 p3), .v (.int .i64 p4)]), (1, .arr 1 (List.map enc_s v7)), (2, .arr 2 (List.map enc_si x6)), (3, .box [.v (.string ((gt x6 v9).1)), .v (.int .i64 ((gt x6 v9).2))])]⟩) (C := True) (by kernel_rfl) trivial trivial ?_
      refine AX.block ?_
      refine AX.seq ?_
      refine AX.reg (its := []) [3, 5, 6, 8, 19, 20, 21, 29] [0, 1, 2, 3] (s1 := ⟨[(3, .pt 0 0), (5, .sl 1 0 v7.length), (6, .v (.int .i64 (Go.bits .andNot .i64 v8 ((gt x6 v9).2)))), (8, .pt 3 0), (19, .sl 2 0 x6.length), (20, .v (.int .i64 (x6.length : Int))), (21, .v (.int .i64 v9)), (29, .v (.bool (!decide ((Go.bits .and .i64 p3 ((gt x6 v9).2)) = 0))))], [(0, .box [.v (.int .i64 p3), .v (.int .i64 p4)]), (1, .arr 1 (List.map enc_s v7)), (2, .arr 2 (List.map enc_si x6)), (3, .box [.v (.string ((gt x6 v9).1)), .v (.int .i64 ((gt x6 v9).2))])]⟩) (C := True) (by kernel_rfl) trivial trivial ?_
      rcases bool_cases ((!decide ((Go.bits .and .i64 p3 ((gt x6 v9).2)) = 0))) with b6 | b6
      · replace h := cd_t b6 h
        refine AX.condT ((!decide ((Go.bits .and .i64 p3 ((gt x6 v9).2)) = 0))) (by kernel_rfl) b6 ?_
        obtain ⟨g7, h⟩ := gd_e h
        refine AX.reg (its := [.auto {}, .auto {}, .auto {}, .auto { nk := 4 }, .auto { y := some (.sl 5 0 ((v7 ++ ([(gt x6 v9).1] : List (ByteArray))).length)), els := some (List.map enc_s v7), els2 := some (List.map enc_s ([(gt x6 v9).1] : List (ByteArray))), nk := 5 }]) [3, 5, 6, 19, 20, 21] [0, 2, 5] (s1 := ⟨[(3, .pt 0 0), (5, .sl 5 0 ((v7 ++ ([(gt x6 v9).1] : List (ByteArray))).length)), (6, .v (.int .i64 (Go.bits .andNot .i64 v8 ((gt x6 v9).2)))), (19, .sl 2 0 x6.length), (20, .v (.int .i64 (x6.length : Int))), (21, .v (.int .i64 v9))], [(0, .box [.v (.int .i64 p3), .v (.int .i64 p4)]), (2, .arr 2 (List.map enc_si x6)), (5, .arr 1 (List.map enc_s v7 ++ List.map enc_s ([(gt x6 v9).1] : List (ByteArray))))]⟩) (C := ((((((List.map enc_s v7).drop 0).take (v7.length) = List.map enc_s v7) ∧ (((List.map enc_s ([(gt x6 v9).1] : List (ByteArray))).drop 0).take (([(gt x6 v9).1] : List (ByteArray)).length) = List.map enc_s ([(gt x6 v9).1] : List (ByteArray)))) ∧ (List.map enc_s v7).length + (List.map enc_s ([(gt x6 v9).1] : List (ByteArray))).length ≤ 1099511627776) ∧ (AV.sl 5 0 (List.map enc_s v7 ++ List.map enc_s ([(gt x6 v9).1] : List (ByteArray))).length = AV.sl 5 0 (v7 ++ ([(gt x6 v9).1] : List (ByteArray))).length)) ∧ True) (by kernel_rfl) ⟨⟨⟨⟨(dt_all (enc := enc_s) rfl rfl), (dt_all (enc := enc_s) rfl rfl)⟩, (by simp only [List.length_map, List.length_nil, List.length_replicate]; simpa using g7)⟩, sl_len (enc := enc_s) (app_can (enc := enc_s) rfl (rfl))⟩, trivial⟩ trivial ?_
        refine AX.reg (its := [.auto { raw := true }]) [3, 5, 6, 19, 20, 21] [0, 2, 5] (s1 := ⟨[(3, .pt 0 0), (5, .sl 5 0 ((v7 ++ ([(gt x6 v9).1] : List (ByteArray))).length)), (6, .v (.int .i64 (Go.bits .andNot .i64 v8 ((gt x6 v9).2)))), (19, .sl 2 0 x6.length), (20, .v (.int .i64 (x6.length : Int))), (21, .v (.int .i64 (IntKind.wrap .i64 (v9 + 1))))], [(0, .box [.v (.int .i64 p3), .v (.int .i64 p4)]), (2, .arr 2 (List.map enc_si x6)), (5, .arr 1 (List.map enc_s v7 ++ List.map enc_s ([(gt x6 v9).1] : List (ByteArray))))]⟩) (C := True) (by kernel_rfl) trivial trivial ?_
        refine ⟨(fu, (v7 ++ ([(gt x6 v9).1] : List (ByteArray)), Go.bits .andNot .i64 v8 ((gt x6 v9).2), IntKind.wrap .i64 (v9 + 1))), h, Nat.lt_succ_self _, ?_⟩
        refine Wk.trans (Wk.swap 1 5 (Nat.le_of_ble_eq_true (by kernel_rfl)) (Nat.le_of_ble_eq_true (by kernel_rfl)) rfl) ?_
        refine Wk.trans (Wk.forget [3, 5, 6, 19, 20, 21] [0, 1, 2] (s' := ⟨[(3, .pt 0 0), (5, .sl 1 0 ((v7 ++ ([(gt x6 v9).1] : List (ByteArray))).length)), (6, .v (.int .i64 (Go.bits .andNot .i64 v8 ((gt x6 v9).2)))), (19, .sl 2 0 x6.length), (20, .v (.int .i64 (x6.length : Int))), (21, .v (.int .i64 (IntKind.wrap .i64 (v9 + 1))))], [(0, .box [.v (.int .i64 p3), .v (.int .i64 p4)]), (1, .arr 1 (List.map enc_s v7 ++ List.map enc_s ([(gt x6 v9).1] : List (ByteArray)))), (2, .arr 2 (List.map enc_si x6))]⟩) (by kernel_rfl)) ?_
        refine Wk.trans (Wk.of_eq (congrArg (fun z => (⟨[(3, .pt 0 0), (5, .sl 1 0 ((v7 ++ ([(gt x6 v9).1] : List (ByteArray))).length)), (6, .v (.int .i64 (Go.bits .andNot .i64 v8 ((gt x6 v9).2)))), (19, .sl 2 0 x6.length), (20, .v (.int .i64 (x6.length : Int))), (21, .v (.int .i64 (IntKind.wrap .i64 (v9 + 1))))], [(0, .box [.v (.int .i64 p3), .v (.int .i64 p4)]), (1, .arr 1 (z)), (2, .arr 2 (List.map enc_si x6))]⟩ : S)) (app_can (enc := enc_s) rfl (rfl) : List.map enc_s v7 ++ List.map enc_s ([(gt x6 v9).1] : List (ByteArray)) = List.map enc_s (v7 ++ ([(gt x6 v9).1] : List (ByteArray)))))) ?_
        exact Wk.refl _
      · replace h := cd_f b6 h
        refine AX.condF ((!decide ((Go.bits .and .i64 p3 ((gt x6 v9).2)) = 0))) (by kernel_rfl) b6 ?_
        refine AX.seq ?_
        refine AX.reg (its := []) [3, 5, 6, 8, 19, 20, 21, 41] [0, 1, 2, 3] (s1 := ⟨[(3, .pt 0 0), (5, .sl 1 0 v7.length), (6, .v (.int .i64 (Go.bits .andNot .i64 v8 ((gt x6 v9).2)))), (8, .pt 3 0), (19, .sl 2 0 x6.length), (20, .v (.int .i64 (x6.length : Int))), (21, .v (.int .i64 v9)), (41, .v (.bool (!decide ((Go.bits .and .i64 p4 ((gt x6 v9).2)) = 0))))], [(0, .box [.v (.int .i64 p3), .v (.int .i64 p4)]), (1, .arr 1 (List.map enc_s v7)), (2, .arr 2 (List.map enc_si x6)), (3, .box [.v (.string ((gt x6 v9).1)), .v (.int .i64 ((gt x6 v9).2))])]⟩) (C := True) (by kernel_rfl) trivial trivial ?_
        rcases bool_cases ((!decide ((Go.bits .and .i64 p4 ((gt x6 v9).2)) = 0))) with b8 | b8
        · replace h := cd_t b8 h
          refine AX.condT ((!decide ((Go.bits .and .i64 p4 ((gt x6 v9).2)) = 0))) (by kernel_rfl) b8 ?_
          obtain ⟨g9, h⟩ := gd_e h
          obtain ⟨g10, h⟩ := gd_e h
          refine AX.reg (its := [.auto {}, .auto {}, .auto {}, .auto {}, .auto { nk := 4 }, .auto { y := some (.sl 5 0 ((v7 ++ ([(ByteArray.mk #[33]) ++ ((gt x6 v9).1)] : List (ByteArray))).length)), els := some (List.map enc_s v7), els2 := some (List.map enc_s ([(ByteArray.mk #[33]) ++ ((gt x6 v9).1)] : List (ByteArray))), nk := 5 }]) [3, 5, 6, 19, 20, 21] [0, 2, 5] (s1 := ⟨[(3, .pt 0 0), (5, .sl 5 0 ((v7 ++ ([(ByteArray.mk #[33]) ++ ((gt x6 v9).1)] : List (ByteArray))).length)), (6, .v (.int .i64 (Go.bits .andNot .i64 v8 ((gt x6 v9).2)))), (19, .sl 2 0 x6.length), (20, .v (.int .i64 (x6.length : Int))), (21, .v (.int .i64 v9))], [(0, .box [.v (.int .i64 p3), .v (.int .i64 p4)]), (2, .arr 2 (List.map enc_si x6)), (5, .arr 1 (List.map enc_s v7 ++ List.map enc_s ([(ByteArray.mk #[33]) ++ ((gt x6 v9).1)] : List (ByteArray))))]⟩) (C := ((ByteArray.mk #[33]).size + ((gt x6 v9).1).size ≤ 9223372036854775807) ∧ ((((((List.map enc_s v7).drop 0).take (v7.length) = List.map enc_s v7) ∧ (((List.map enc_s ([(ByteArray.mk #[33]) ++ ((gt x6 v9).1)] : List (ByteArray))).drop 0).take (([(ByteArray.mk #[33]) ++ ((gt x6 v9).1)] : List (ByteArray)).length) = List.map enc_s ([(ByteArray.mk #[33]) ++ ((gt x6 v9).1)] : List (ByteArray)))) ∧ (List.map enc_s v7).length + (List.map enc_s ([(ByteArray.mk #[33]) ++ ((gt x6 v9).1)] : List (ByteArray))).length ≤ 1099511627776) ∧ (AV.sl 5 0 (List.map enc_s v7 ++ List.map enc_s ([(ByteArray.mk #[33]) ++ ((gt x6 v9).1)] : List (ByteArray))).length = AV.sl 5 0 (v7 ++ ([(ByteArray.mk #[33]) ++ ((gt x6 v9).1)] : List (ByteArray))).length)) ∧ True) (by kernel_rfl) ⟨g9, ⟨⟨⟨⟨(dt_all (enc := enc_s) rfl rfl), (dt_all (enc := enc_s) rfl rfl)⟩, (by simp only [List.length_map, List.length_nil, List.length_replicate]; simpa using g10)⟩, sl_len (enc := enc_s) (app_can (enc := enc_s) rfl (rfl))⟩, trivial⟩⟩ trivial ?_
          refine AX.reg (its := [.auto { raw := true }]) [3, 5, 6, 19, 20, 21] [0, 2, 5] (s1 := ⟨[(3, .pt 0 0), (5, .sl 5 0 ((v7 ++ ([(ByteArray.mk #[33]) ++ ((gt x6 v9).1)] : List (ByteArray))).length)), (6, .v (.int .i64 (Go.bits .andNot .i64 v8 ((gt x6 v9).2)))), (19, .sl 2 0 x6.length), (20, .v (.int .i64 (x6.length : Int))), (21, .v (.int .i64 (IntKind.wrap .i64 (v9 + 1))))], [(0, .box [.v (.int .i64 p3), .v (.int .i64 p4)]), (2, .arr 2 (List.map enc_si x6)), (5, .arr 1 (List.map enc_s v7 ++ List.map enc_s ([(ByteArray.mk #[33]) ++ ((gt x6 v9).1)] : List (ByteArray))))]⟩) (C := True) (by kernel_rfl) trivial trivial ?_
          refine ⟨(fu, (v7 ++ ([(ByteArray.mk #[33]) ++ ((gt x6 v9).1)] : List (ByteArray)), Go.bits .andNot .i64 v8 ((gt x6 v9).2), IntKind.wrap .i64 (v9 + 1))), h, Nat.lt_succ_self _, ?_⟩
          refine Wk.trans (Wk.swap 1 5 (Nat.le_of_ble_eq_true (by kernel_rfl)) (Nat.le_of_ble_eq_true (by kernel_rfl)) rfl) ?_
          refine Wk.trans (Wk.forget [3, 5, 6, 19, 20, 21] [0, 1, 2] (s' := ⟨[(3, .pt 0 0), (5, .sl 1 0 ((v7 ++ ([(ByteArray.mk #[33]) ++ ((gt x6 v9).1)] : List (ByteArray))).length)), (6, .v (.int .i64 (Go.bits .andNot .i64 v8 ((gt x6 v9).2)))), (19, .sl 2 0 x6.length), (20, .v (.int .i64 (x6.length : Int))), (21, .v (.int .i64 (IntKind.wrap .i64 (v9 + 1))))], [(0, .box [.v (.int .i64 p3), .v (.int .i64 p4)]), (1, .arr 1 (List.map enc_s v7 ++ List.map enc_s ([(ByteArray.mk #[33]) ++ ((gt x6 v9).1)] : List (ByteArray)))), (2, .arr 2 (List.map enc_si x6))]⟩) (by kernel_rfl)) ?_
          refine Wk.trans (Wk.of_eq (congrArg (fun z => (⟨[(3, .pt 0 0), (5, .sl 1 0 ((v7 ++ ([(ByteArray.mk #[33]) ++ ((gt x6 v9).1)] : List (ByteArray))).length)), (6, .v (.int .i64 (Go.bits .andNot .i64 v8 ((gt x6 v9).2)))), (19, .sl 2 0 x6.length), (20, .v (.int .i64 (x6.length : Int))), (21, .v (.int .i64 (IntKind.wrap .i64 (v9 + 1))))], [(0, .box [.v (.int .i64 p3), .v (.int .i64 p4)]), (1, .arr 1 (z)), (2, .arr 2 (List.map enc_si x6))]⟩ : S)) (app_can (enc := enc_s) rfl (rfl) : List.map enc_s v7 ++ List.map enc_s ([(ByteArray.mk #[33]) ++ ((gt x6 v9).1)] : List (ByteArray)) = List.map enc_s (v7 ++ ([(ByteArray.mk #[33]) ++ ((gt x6 v9).1)] : List (ByteArray)))))) ?_
          exact Wk.refl _
        · replace h := cd_f b8 h
          refine AX.condF ((!decide ((Go.bits .and .i64 p4 ((gt x6 v9).2)) = 0))) (by kernel_rfl) b8 ?_
          refine AX.skip ?_
          refine AX.reg (its := [.auto { raw := true }]) [3, 5, 6, 19, 20, 21] [0, 1, 2] (s1 := ⟨[(3, .pt 0 0), (5, .sl 1 0 v7.length), (6, .v (.int .i64 (Go.bits .andNot .i64 v8 ((gt x6 v9).2)))), (19, .sl 2 0 x6.length), (20, .v (.int .i64 (x6.length : Int))), (21, .v (.int .i64 (IntKind.wrap .i64 (v9 + 1))))], [(0, .box [.v (.int .i64 p3), .v (.int .i64 p4)]), (1, .arr 1 (List.map enc_s v7)), (2, .arr 2 (List.map enc_si x6))]⟩) (C := True) (by kernel_rfl) trivial trivial ?_
          refine ⟨(fu, (v7, Go.bits .andNot .i64 v8 ((gt x6 v9).2), IntKind.wrap .i64 (v9 + 1))), h, Nat.lt_succ_self _, ?_⟩
          refine Wk.trans (Wk.forget [3, 5, 6, 19, 20, 21] [0, 1, 2] (s' := ⟨[(3, .pt 0 0), (5, .sl 1 0 v7.length), (6, .v (.int .i64 (Go.bits .andNot .i64 v8 ((gt x6 v9).2)))), (19, .sl 2 0 x6.length), (20, .v (.int .i64 (x6.length : Int))), (21, .v (.int .i64 (IntKind.wrap .i64 (v9 + 1))))], [(0, .box [.v (.int .i64 p3), .v (.int .i64 p4)]), (1, .arr 1 (List.map enc_s v7)), (2, .arr 2 (List.map enc_si x6))]⟩) (by kernel_rfl)) ?_
          exact Wk.refl _
    · replace h := cd_f b4 h
      refine AX.condF (decide (v9 < (x6.length : Int))) (by kernel_rfl) b4 ?_
      refine AX.exit ?_
      refine fin_wk (Wk.swap 0 1 (Nat.le_of_ble_eq_true (by kernel_rfl)) (Nat.le_of_ble_eq_true (by kernel_rfl)) rfl) ?_
      refine fin_wk (Wk.forget [5, 6] [0] (s' := ⟨[(5, .sl 0 0 v7.length), (6, .v (.int .i64 v8))], [(0, .arr 1 (List.map enc_s v7))]⟩) (by kernel_rfl)) ?_
      have hr := Option.some.inj h
      subst hr
      exact ⟨_, Wk.refl _, ⟨rfl, rfl⟩⟩

theorem s_impl_ArmText (p1 : List (ByteArray × Int)) (p2 : Int) (p3 : Int) (p4 : Int) (r : ByteArray) (h : m_impl_ArmText p1 p2 p3 p4 = some r) :
    Eng.Spec Tryd.prog 53 [.agg [.bs false 2 (List.map enc_si p1), .v (.int .i64 p2)], .agg [.v (.int .i64 p3), .v (.int .i64 p4)]] [] (.v (.string r)) [] := by
  unfold m_impl_ArmText at h
  refine Eng.Spec.body Tryd.func53 (by kernel_rfl) rfl (by kernel_rfl) ?_
  refine AX.wkpost ?_
  refine AX.seq ?_
  refine AX.reg (its := [.auto { nk := 0 }, .auto { nk := 1 }]) [2, 3] [0, 1] (s1 := ⟨[(2, .pt 0 0), (3, .pt 1 0)], [(0, .box [.bs false 2 (List.map enc_si p1), .v (.int .i64 p2)]), (1, .box [.v (.int .i64 p3), .v (.int .i64 p4)])]⟩) (C := True) (by kernel_rfl) trivial trivial ?_
  refine AX.seq ?_
  refine AX.seq ?_
  obtain ⟨x5, e1, h⟩ := bd_e h
  refine AX.reg (its := [.auto {}, .auto {}, .call 106 [.agg [.bs false 2 (List.map enc_si p1), .v (.int .i64 p2)], .agg [.v (.int .i64 p3), .v (.int .i64 p4)]] (handO (rho ([] ++ [])) [] [] ++ []) (callEv [] [] (.v (.bool x5)) [])]) [2, 3, 12] [0, 1] (s1 := ⟨[(2, .pt 0 0), (3, .pt 1 0), (12, .v (.bool (!x5)))], [(0, .box [.bs false 2 (List.map enc_si p1), .v (.int .i64 p2)]), (1, .box [.v (.int .i64 p3), .v (.int .i64 p4)])]⟩) (C := ((([.agg [.bs false 2 (List.map enc_si p1), .v (.int .i64 p2)], .agg [.v (.int .i64 p3), .v (.int .i64 p4)]] : List AV) = [.agg [.bs false 2 (List.map enc_si p1), .v (.int .i64 p2)], .agg [.v (.int .i64 p3), .v (.int .i64 p4)]]) ∧ True) ∧ True) (by kernel_rfl) ⟨⟨rfl, trivial⟩, trivial⟩ ⟨call_ok (ks := []) (ns := []) (bor := []) (bobjs := []) (s_impl_ValidArm p1 p2 p3 p4 x5 e1) (.cons (.c1 (.agg (.cons (.same _ (by kernel_rfl) (by kernel_rfl)) (.cons (.same _ (by kernel_rfl) (by kernel_rfl)) (.nil))))) (.cons (.c1 (.agg (.cons (.same _ (by kernel_rfl) (by kernel_rfl)) (.cons (.same _ (by kernel_rfl) (by kernel_rfl)) (.nil))))) (.nil))) (by kernel_rfl) trivial, trivial⟩ ?_
  rcases bool_cases ((!x5)) with b2 | b2
  · replace h := cd_t b2 h
    refine AX.condT ((!x5)) (by kernel_rfl) b2 ?_
    refine AX.seq ?_
    refine AX.reg (its := []) [4] [] (s1 := ⟨[(4, .v (.string ByteArray.empty))], []⟩) (C := True) (by kernel_rfl) trivial trivial ?_
    refine AX.ret ?_
    refine fin_wk (Wk.forget [4] [] (s' := ⟨[(4, .v (.string ByteArray.empty))], []⟩) (by kernel_rfl)) ?_
    have hr := Option.some.inj h
    subst hr
    exact ⟨_, Wk.refl _, .inr rfl, ⟨[], by kernel_rfl, trivial, [.v (.string ByteArray.empty)], by kernel_rfl, by kernel_rfl⟩⟩
  · replace h := cd_f b2 h
    refine AX.condF ((!x5)) (by kernel_rfl) b2 ?_
    refine AX.skip ?_
    refine AX.seq ?_
    refine AX.reg (its := []) [2, 3, 5] [0, 1] (s1 := ⟨[(2, .pt 0 0), (3, .pt 1 0), (5, .v (.slice none 0 0))], [(0, .box [.bs false 2 (List.map enc_si p1), .v (.int .i64 p2)]), (1, .box [.v (.int .i64 p3), .v (.int .i64 p4)])]⟩) (C := True) (by kernel_rfl) trivial trivial ?_
    refine AX.seq ?_
    refine AX.reg (its := []) [2, 3, 5, 6] [0, 1] (s1 := ⟨[(2, .pt 0 0), (3, .pt 1 0), (5, .v (.slice none 0 0)), (6, .v (.int .i64 (Go.bits .or .i64 p3 p4)))], [(0, .box [.bs false 2 (List.map enc_si p1), .v (.int .i64 p2)]), (1, .box [.v (.int .i64 p3), .v (.int .i64 p4)])]⟩) (C := True) (by kernel_rfl) trivial trivial ?_
    refine AX.seq ?_
    refine AX.seq ?_
    obtain ⟨x6, e3, h⟩ := bd_e h
    refine AX.reg (its := [.auto {}, .call 107 [.agg [.bs false 2 (List.map enc_si p1), .v (.int .i64 p2)]] (handO (rho ([] ++ [2])) [] [] ++ []) (callEv [] [2] (.sl 0 0 x6.length) [.arr 2 (List.map enc_si x6)])]) [3, 5, 6, 19, 20, 21] [1, 2] (s1 := ⟨[(3, .pt 1 0), (5, .v (.slice none 0 0)), (6, .v (.int .i64 (Go.bits .or .i64 p3 p4))), (19, .sl 2 0 x6.length), (20, .v (.int .i64 (x6.length : Int))), (21, .v (.int .i64 0))], [(1, .box [.v (.int .i64 p3), .v (.int .i64 p4)]), (2, .arr 2 (List.map enc_si x6))]⟩) (C := ((([.agg [.bs false 2 (List.map enc_si p1), .v (.int .i64 p2)]] : List AV) = [.agg [.bs false 2 (List.map enc_si p1), .v (.int .i64 p2)]]) ∧ True) ∧ True) (by kernel_rfl) ⟨⟨rfl, trivial⟩, trivial⟩ ⟨call_ok (ks := []) (ns := [2]) (bor := []) (bobjs := []) (s_impl_Flag_singles p1 p2 x6 e3) (.cons (.c1 (.agg (.cons (.same _ (by kernel_rfl) (by kernel_rfl)) (.cons (.same _ (by kernel_rfl) (by kernel_rfl)) (.nil))))) (.nil)) (by kernel_rfl) trivial, trivial⟩ ?_
    refine AX.block ?_
    obtain ⟨x10, e11, h⟩ := bd_e h
    refine AX.wk (Wk.mat 5 3 1 (by kernel_rfl) (Nat.le_of_ble_eq_true (by kernel_rfl)) (by kernel_rfl) rfl) ?_
    refine AX.wk (Wk.swap 0 1 (Nat.le_of_ble_eq_true (by kernel_rfl)) (Nat.le_of_ble_eq_true (by kernel_rfl)) rfl) ?_
    refine AX.wk (Wk.swap 1 3 (Nat.le_of_ble_eq_true (by kernel_rfl)) (Nat.le_of_ble_eq_true (by kernel_rfl)) rfl) ?_
    refine AX.wk (Wk.forget [3, 5, 6, 19, 20, 21] [0, 1, 2] (s' := ⟨[(3, .pt 0 0), (5, .sl 1 0 (([] : List (ByteArray)).length)), (6, .v (.int .i64 (Go.bits .or .i64 p3 p4))), (19, .sl 2 0 x6.length), (20, .v (.int .i64 (x6.length : Int))), (21, .v (.int .i64 0))], [(0, .box [.v (.int .i64 p3), .v (.int .i64 p4)]), (1, .arr 1 (List.map enc_s ([] : List (ByteArray)))), (2, .arr 2 (List.map enc_si x6))]⟩) (by kernel_rfl)) ?_
    refine AX.mono (s_impl_ArmText_L1 p3 p4 x6 FU (([] : List (ByteArray)), Go.bits .or .i64 p3 p4, 0) x10 e11) ?_
    rintro _ _ ⟨rfl, rfl⟩
    skip
    refine AX.seq ?_
    refine AX.block ?_
    refine AX.seq ?_
    refine AX.reg (its := []) [5, 55] [0] (s1 := ⟨[(5, .sl 0 0 x10.1.length), (55, .v (.bool (!decide (x10.2 = 0))))], [(0, .arr 1 (List.map enc_s x10.1))]⟩) (C := True) (by kernel_rfl) trivial trivial ?_
    rcases bool_cases ((!decide (x10.2 = 0))) with b12 | b12
    · replace h := cd_t b12 h
      refine AX.condT ((!decide (x10.2 = 0))) (by kernel_rfl) b12 ?_
      refine AX.seq ?_
      refine AX.reg (its := []) [4] [] (s1 := ⟨[(4, .v (.string ByteArray.empty))], []⟩) (C := True) (by kernel_rfl) trivial trivial ?_
      refine AX.ret ?_
      refine fin_wk (Wk.forget [4] [] (s' := ⟨[(4, .v (.string ByteArray.empty))], []⟩) (by kernel_rfl)) ?_
      have hr := Option.some.inj h
      subst hr
      exact ⟨_, Wk.refl _, .inr rfl, ⟨[], by kernel_rfl, trivial, [.v (.string ByteArray.empty)], by kernel_rfl, by kernel_rfl⟩⟩
    · replace h := cd_f b12 h
      refine AX.condF ((!decide (x10.2 = 0))) (by kernel_rfl) b12 ?_
      refine AX.seq ?_
      refine AX.reg (its := []) [5, 58] [0] (s1 := ⟨[(5, .sl 0 0 x10.1.length), (58, .v (.bool (decide ((x10.1.length : Int) = 0))))], [(0, .arr 1 (List.map enc_s x10.1))]⟩) (C := True) (by kernel_rfl) trivial trivial ?_
      rcases bool_cases (decide ((x10.1.length : Int) = 0)) with b13 | b13
      · replace h := cd_t b13 h
        refine AX.condT (decide ((x10.1.length : Int) = 0)) (by kernel_rfl) b13 ?_
        refine AX.seq ?_
        refine AX.reg (its := []) [4] [] (s1 := ⟨[(4, .v (.string (ByteArray.mk #[42])))], []⟩) (C := True) (by kernel_rfl) trivial trivial ?_
        refine AX.ret ?_
        refine fin_wk (Wk.forget [4] [] (s' := ⟨[(4, .v (.string (ByteArray.mk #[42])))], []⟩) (by kernel_rfl)) ?_
        have hr := Option.some.inj h
        subst hr
        exact ⟨_, Wk.refl _, .inr rfl, ⟨[], by kernel_rfl, trivial, [.v (.string (ByteArray.mk #[42]))], by kernel_rfl, by kernel_rfl⟩⟩
      · replace h := cd_f b13 h
        refine AX.condF (decide ((x10.1.length : Int) = 0)) (by kernel_rfl) b13 ?_
        refine AX.skip ?_
        refine AX.seq ?_
        obtain ⟨x11, e14, h⟩ := bd_e h
        refine AX.reg (its := [.auto {}, .call 108 [.sl 0 0 x10.1.length, .v (.string (ByteArray.mk #[32]))] (handO (rho ([] ++ [])) [] [] ++ [(0, .arr 1 (List.map enc_s x10.1))]) (callEv [] [] (.v (.string x11)) [])]) [4] [] (s1 := ⟨[(4, .v (.string x11))], []⟩) (C := ((([.sl 0 0 x10.1.length, .v (.string (ByteArray.mk #[32]))] : List AV) = [.sl 0 0 x10.1.length, .v (.string (ByteArray.mk #[32]))]) ∧ (AO.arr 1 (List.map enc_s x10.1) = AO.arr 1 (List.map enc_s x10.1)) ∧ True) ∧ True) (by kernel_rfl) ⟨⟨rfl, rfl, trivial⟩, trivial⟩ ⟨call_ok (ks := []) (ns := []) (bor := [0]) (bobjs := [(0, .arr 1 (List.map enc_s x10.1))]) (s_strings_Join x10.1 (ByteArray.mk #[32]) x11 e14) (.cons (.c1 (.c0 (.arr rfl rfl ((rfl).trans (List.length_map ..).symm)))) (.cons (.c1 (.c0 (.same _ (by kernel_rfl) (by kernel_rfl)))) (.nil))) (by kernel_rfl) trivial, trivial⟩ ?_
        refine AX.ret ?_
        refine fin_wk (Wk.forget [4] [] (s' := ⟨[(4, .v (.string x11))], []⟩) (by kernel_rfl)) ?_
        have hr := Option.some.inj h
        subst hr
        exact ⟨_, Wk.refl _, .inr rfl, ⟨[], by kernel_rfl, trivial, [.v (.string x11)], by kernel_rfl, by kernel_rfl⟩⟩

theorem s_impl_ParseArm_L1 (p1 : List (ByteArray × Int)) (p2 : Int) (p3 : ByteArray) (x4 : List (ByteArray)) (n : Nat) (g : Int × Int × Int) (out : Unit ⊕ Int × Int) (h : m_impl_ParseArm_L1 p1 p2 p3 x4 n g.1 g.2.1 g.2.2 = some out) :
    AX Tryd.prog 68 0 (codeAt [1, 1, 0, 1, 0, 1, 1] (bodyOf Tryd.f21)) ((fun g : Int × Int × Int => (⟨[(1, .v (.string p3)), (2, .pt 0 0), (4, .pt 1 0), (6, .pt 2 0), (15, .sl 3 0 x4.length), (16, .v (.int .i64 (x4.length : Int))), (17, .v (.int .i64 g.2.2))], [(0, .box [.bs false 2 (List.map enc_si p1), .v (.int .i64 p2)]), (1, .box [.v (.int .i64 0), .v (.int .i64 0)]), (2, .box [.v (.int .i64 g.1), .v (.int .i64 g.2.1)]), (3, .arr 1 (List.map enc_s x4))]⟩ : S)) g) (fun ex s => (∃ o : Unit, out = Sum.inl o ∧ ex = .ret ∧ s = ⟨[(4, .pt 0 0), (5, .v (.bool false))], [(0, .box [.v (.int .i64 0), .v (.int .i64 0)])]⟩) ∨ (∃ o : Int × Int, out = Sum.inr o ∧ ex = .exit 0 ∧ s = ⟨[(1, .v (.string p3)), (2, .pt 0 0), (4, .pt 1 0), (6, .pt 2 0)], [(0, .box [.bs false 2 (List.map enc_si p1), .v (.int .i64 p2)]), (1, .box [.v (.int .i64 0), .v (.int .i64 0)]), (2, .box [.v (.int .i64 o.1), .v (.int .i64 o.2)])]⟩)) := by
  refine AX.wkpost ?_
  refine AX.loop (G := Nat × (Int × Int × Int)) (fun q => (fun g : Int × Int × Int => (⟨[(1, .v (.string p3)), (2, .pt 0 0), (4, .pt 1 0), (6, .pt 2 0), (15, .sl 3 0 x4.length), (16, .v (.int .i64 (x4.length : Int))), (17, .v (.int .i64 g.2.2))], [(0, .box [.bs false 2 (List.map enc_si p1), .v (.int .i64 p2)]), (1, .box [.v (.int .i64 0), .v (.int .i64 0)]), (2, .box [.v (.int .i64 g.1), .v (.int .i64 g.2.1)]), (3, .arr 1 (List.map enc_s x4))]⟩ : S)) q.2) (fun q => m_impl_ParseArm_L1 p1 p2 p3 x4 q.1 q.2.1 q.2.2.1 q.2.2.2 = some out) (fun q => q.1) (n, g) h (Wk.refl _) ?_
  clear h
  rintro ⟨fu, v5, v6, v7⟩ h
  cases fu with
  | zero => cases h
  | succ fu =>
    rw [m_impl_ParseArm_L1] at h
    refine AX.seq ?_
    refine AX.reg (its := []) [1, 2, 4, 6, 15, 16, 17, 18] [0, 1, 2, 3] (s1 := ⟨[(1, .v (.string p3)), (2, .pt 0 0), (4, .pt 1 0), (6, .pt 2 0), (15, .sl 3 0 x4.length), (16, .v (.int .i64 (x4.length : Int))), (17, .v (.int .i64 v7)), (18, .v (.bool (decide (v7 < (x4.length : Int)))))], [(0, .box [.bs false 2 (List.map enc_si p1), .v (.int .i64 p2)]), (1, .box [.v (.int .i64 0), .v (.int .i64 0)]), (2, .box [.v (.int .i64 v5), .v (.int .i64 v6)]), (3, .arr 1 (List.map enc_s x4))]⟩) (C := True) (by kernel_rfl) trivial trivial ?_
    refine AX.seq ?_
    rcases bool_cases (decide (v7 < (x4.length : Int))) with b3 | b3
    · replace h := cd_t b3 h
      refine AX.condT (decide (v7 < (x4.length : Int))) (by kernel_rfl) b3 ?_
      refine AX.skip ?_
      refine AX.seq ?_
      refine AX.block ?_
      refine AX.seq ?_
      obtain ⟨g4, h⟩ := gd_e h
      refine AX.reg (its := [.auto {}, .auto { y := some (.v (.string (gt x4 v7))) }]) [1, 2, 4, 6, 8, 15, 16, 17] [0, 1, 2, 3] (s1 := ⟨[(1, .v (.string p3)), (2, .pt 0 0), (4, .pt 1 0), (6, .pt 2 0), (8, .v (.string (gt x4 v7))), (15, .sl 3 0 x4.length), (16, .v (.int .i64 (x4.length : Int))), (17, .v (.int .i64 v7))], [(0, .box [.bs false 2 (List.map enc_si p1), .v (.int .i64 p2)]), (1, .box [.v (.int .i64 0), .v (.int .i64 0)]), (2, .box [.v (.int .i64 v5), .v (.int .i64 v6)]), (3, .arr 1 (List.map enc_s x4))]⟩) (C := (0 ≤ v7 ∧ v7 < (x4.length : Int)) ∧ (True ∧ (AV.v (((List.map enc_s x4).getD (0 + v7.toNat) []).getD 0 undef) = .v (.string (gt x4 v7)))) ∧ True) (by kernel_rfl) ⟨g4, ⟨⟨trivial, (congrArg (fun z : List Value => AV.v (z.getD 0 undef)) (idx_arr (enc := enc_s) rfl g4))⟩, trivial⟩⟩ trivial ?_
      refine AX.seq ?_
      obtain ⟨x8, e5, h⟩ := bd_e h
      refine AX.reg (its := [.auto {}, .call 52 [.v (.string (gt x4 v7)), .v (.string (ByteArray.mk #[33]))] (handO (rho ([] ++ [])) [] [] ++ []) (callEv [] [] (.tup [.v (.string x8.1), .v (.bool x8.2)]) [])]) [1, 2, 4, 6, 9, 10, 15, 16, 17] [0, 1, 2, 3] (s1 := ⟨[(1, .v (.string p3)), (2, .pt 0 0), (4, .pt 1 0), (6, .pt 2 0), (9, .v (.string x8.1)), (10, .v (.bool x8.2)), (15, .sl 3 0 x4.length), (16, .v (.int .i64 (x4.length : Int))), (17, .v (.int .i64 v7))], [(0, .box [.bs false 2 (List.map enc_si p1), .v (.int .i64 p2)]), (1, .box [.v (.int .i64 0), .v (.int .i64 0)]), (2, .box [.v (.int .i64 v5), .v (.int .i64 v6)]), (3, .arr 1 (List.map enc_s x4))]⟩) (C := ((([.v (.string (gt x4 v7)), .v (.string (ByteArray.mk #[33]))] : List AV) = [.v (.string (gt x4 v7)), .v (.string (ByteArray.mk #[33]))]) ∧ True) ∧ True) (by kernel_rfl) ⟨⟨rfl, trivial⟩, trivial⟩ ⟨call_ok (ks := []) (ns := []) (bor := []) (bobjs := []) (s_strings_CutPrefix (gt x4 v7) (ByteArray.mk #[33]) x8 e5) (.cons (.c1 (.c0 (.same _ (by kernel_rfl) (by kernel_rfl)))) (.cons (.c1 (.c0 (.same _ (by kernel_rfl) (by kernel_rfl)))) (.nil))) (by kernel_rfl) trivial, trivial⟩ ?_
      refine AX.seq ?_
      obtain ⟨x9, e6, h⟩ := bd_e h
      refine AX.reg (its := [.auto {}, .auto {}, .auto {}, .call 40 [.bs false 2 (List.map enc_si p1), .v (.string x8.1)] (handO (rho ([] ++ [])) [] [] ++ []) (callEv [] [] (.v (.int .i64 x9)) [])]) [1, 2, 4, 6, 10, 11, 15, 16, 17] [0, 1, 2, 3] (s1 := ⟨[(1, .v (.string p3)), (2, .pt 0 0), (4, .pt 1 0), (6, .pt 2 0), (10, .v (.bool x8.2)), (11, .v (.int .i64 x9)), (15, .sl 3 0 x4.length), (16, .v (.int .i64 (x4.length : Int))), (17, .v (.int .i64 v7))], [(0, .box [.bs false 2 (List.map enc_si p1), .v (.int .i64 p2)]), (1, .box [.v (.int .i64 0), .v (.int .i64 0)]), (2, .box [.v (.int .i64 v5), .v (.int .i64 v6)]), (3, .arr 1 (List.map enc_s x4))]⟩) (C := ((([.bs false 2 (List.map enc_si p1), .v (.string x8.1)] : List AV) = [.bs false 2 (List.map enc_si p1), .v (.string x8.1)]) ∧ True) ∧ True) (by kernel_rfl) ⟨⟨rfl, trivial⟩, trivial⟩ ⟨call_ok (ks := []) (ns := []) (bor := []) (bobjs := []) (s_impl_named p1 x8.1 x9 e6) (.cons (.c1 (.c0 (.same _ (by kernel_rfl) (by kernel_rfl)))) (.cons (.c1 (.c0 (.same _ (by kernel_rfl) (by kernel_rfl)))) (.nil))) (by kernel_rfl) trivial, trivial⟩ ?_
      refine AX.block ?_
      refine AX.seq ?_
      refine AX.reg (its := []) [1, 2, 4, 6, 10, 11, 15, 16, 17, 40] [0, 1, 2, 3] (s1 := ⟨[(1, .v (.string p3)), (2, .pt 0 0), (4, .pt 1 0), (6, .pt 2 0), (10, .v (.bool x8.2)), (11, .v (.int .i64 x9)), (15, .sl 3 0 x4.length), (16, .v (.int .i64 (x4.length : Int))), (17, .v (.int .i64 v7)), (40, .v (.bool (decide (x9 < 0))))], [(0, .box [.bs false 2 (List.map enc_si p1), .v (.int .i64 p2)]), (1, .box [.v (.int .i64 0), .v (.int .i64 0)]), (2, .box [.v (.int .i64 v5), .v (.int .i64 v6)]), (3, .arr 1 (List.map enc_s x4))]⟩) (C := True) (by kernel_rfl) trivial trivial ?_
      rcases bool_cases (decide (x9 < 0)) with b7 | b7
      · replace h := cd_t b7 h
        refine AX.condT (decide (x9 < 0)) (by kernel_rfl) b7 ?_
        refine AX.seq ?_
        refine AX.reg (its := []) [4, 5] [1] (s1 := ⟨[(4, .pt 1 0), (5, .v (.bool false))], [(1, .box [.v (.int .i64 0), .v (.int .i64 0)])]⟩) (C := True) (by kernel_rfl) trivial trivial ?_
        refine AX.ret ?_
        refine fin_wk (Wk.swap 0 1 (Nat.le_of_ble_eq_true (by kernel_rfl)) (Nat.le_of_ble_eq_true (by kernel_rfl)) rfl) ?_
        refine fin_wk (Wk.forget [4, 5] [0] (s' := ⟨[(4, .pt 0 0), (5, .v (.bool false))], [(0, .box [.v (.int .i64 0), .v (.int .i64 0)])]⟩) (by kernel_rfl)) ?_
        have hr := Option.some.inj h
        subst hr
        exact ⟨_, Wk.refl _, .inl ⟨(), rfl, rfl, rfl⟩⟩
      · replace h := cd_f b7 h
        refine AX.condF (decide (x9 < 0)) (by kernel_rfl) b7 ?_
        refine AX.seq ?_
        refine AX.reg (its := []) [1, 2, 4, 6, 11, 15, 16, 17, 44] [0, 1, 2, 3] (s1 := ⟨[(1, .v (.string p3)), (2, .pt 0 0), (4, .pt 1 0), (6, .pt 2 0), (11, .v (.int .i64 x9)), (15, .sl 3 0 x4.length), (16, .v (.int .i64 (x4.length : Int))), (17, .v (.int .i64 v7)), (44, .v (.bool x8.2))], [(0, .box [.bs false 2 (List.map enc_si p1), .v (.int .i64 p2)]), (1, .box [.v (.int .i64 0), .v (.int .i64 0)]), (2, .box [.v (.int .i64 v5), .v (.int .i64 v6)]), (3, .arr 1 (List.map enc_s x4))]⟩) (C := True) (by kernel_rfl) trivial trivial ?_
        rcases bool_cases (x8.2) with b8 | b8
        · replace h := cd_t b8 h
          refine AX.condT (x8.2) (by kernel_rfl) b8 ?_
          obtain ⟨g9, h⟩ := gd_e h
          refine AX.drw mixed (its := [.auto {}, .auto {}, .auto {}, .auto {}, .auto {}, .auto { y := some (.be 2 (enc_si (gt p1 x9)) 0) }]) [1, 2, 4, 6, 15, 16, 17] [0, 1, 2, 3] (s1 := ⟨[(1, .v (.string p3)), (2, .pt 0 0), (4, .pt 1 0), (6, .pt 2 0), (15, .sl 3 0 x4.length), (16, .v (.int .i64 (x4.length : Int))), (17, .v (.int .i64 v7))], [(0, .box [.bs false 2 (List.map enc_si p1), .v (.int .i64 p2)]), (1, .box [.v (.int .i64 0), .v (.int .i64 0)]), (2, .box [.v (.int .i64 v5), .v (.int .i64 (Go.bits .or .i64 v6 ((gt p1 x9).2)))]), (3, .arr 1 (List.map enc_s x4))]⟩) (C := ((0 ≤ x9 ∧ x9 < ((List.map enc_si p1).length : Int)) ∧ (AV.be 2 ((List.map enc_si p1).getD x9.toNat []) 0 = AV.be 2 (enc_si (gt p1 x9)) 0)) ∧ True) (by kernel_rfl) ⟨idx_bs enc_si p1 x9 2 g9, trivial⟩ trivial ?_
          refine AX.reg (its := [.auto { raw := true }]) [1, 2, 4, 6, 15, 16, 17] [0, 1, 2, 3] (s1 := ⟨[(1, .v (.string p3)), (2, .pt 0 0), (4, .pt 1 0), (6, .pt 2 0), (15, .sl 3 0 x4.length), (16, .v (.int .i64 (x4.length : Int))), (17, .v (.int .i64 (IntKind.wrap .i64 (v7 + 1))))], [(0, .box [.bs false 2 (List.map enc_si p1), .v (.int .i64 p2)]), (1, .box [.v (.int .i64 0), .v (.int .i64 0)]), (2, .box [.v (.int .i64 v5), .v (.int .i64 (Go.bits .or .i64 v6 ((gt p1 x9).2)))]), (3, .arr 1 (List.map enc_s x4))]⟩) (C := True) (by kernel_rfl) trivial trivial ?_
          refine ⟨(fu, (v5, Go.bits .or .i64 v6 ((gt p1 x9).2), IntKind.wrap .i64 (v7 + 1))), h, Nat.lt_succ_self _, ?_⟩
          refine Wk.trans (Wk.forget [1, 2, 4, 6, 15, 16, 17] [0, 1, 2, 3] (s' := ⟨[(1, .v (.string p3)), (2, .pt 0 0), (4, .pt 1 0), (6, .pt 2 0), (15, .sl 3 0 x4.length), (16, .v (.int .i64 (x4.length : Int))), (17, .v (.int .i64 (IntKind.wrap .i64 (v7 + 1))))], [(0, .box [.bs false 2 (List.map enc_si p1), .v (.int .i64 p2)]), (1, .box [.v (.int .i64 0), .v (.int .i64 0)]), (2, .box [.v (.int .i64 v5), .v (.int .i64 (Go.bits .or .i64 v6 ((gt p1 x9).2)))]), (3, .arr 1 (List.map enc_s x4))]⟩) (by kernel_rfl)) ?_
          exact Wk.refl _
        · replace h := cd_f b8 h
          refine AX.condF (x8.2) (by kernel_rfl) b8 ?_
          obtain ⟨g10, h⟩ := gd_e h
          refine AX.drw mixed (its := [.auto {}, .auto {}, .auto {}, .auto {}, .auto {}, .auto { y := some (.be 2 (enc_si (gt p1 x9)) 0) }]) [1, 2, 4, 6, 15, 16, 17] [0, 1, 2, 3] (s1 := ⟨[(1, .v (.string p3)), (2, .pt 0 0), (4, .pt 1 0), (6, .pt 2 0), (15, .sl 3 0 x4.length), (16, .v (.int .i64 (x4.length : Int))), (17, .v (.int .i64 v7))], [(0, .box [.bs false 2 (List.map enc_si p1), .v (.int .i64 p2)]), (1, .box [.v (.int .i64 0), .v (.int .i64 0)]), (2, .box [.v (.int .i64 (Go.bits .or .i64 v5 ((gt p1 x9).2))), .v (.int .i64 v6)]), (3, .arr 1 (List.map enc_s x4))]⟩) (C := ((0 ≤ x9 ∧ x9 < ((List.map enc_si p1).length : Int)) ∧ (AV.be 2 ((List.map enc_si p1).getD x9.toNat []) 0 = AV.be 2 (enc_si (gt p1 x9)) 0)) ∧ True) (by kernel_rfl) ⟨idx_bs enc_si p1 x9 2 g10, trivial⟩ trivial ?_
          refine AX.reg (its := [.auto { raw := true }]) [1, 2, 4, 6, 15, 16, 17] [0, 1, 2, 3] (s1 := ⟨[(1, .v (.string p3)), (2, .pt 0 0), (4, .pt 1 0), (6, .pt 2 0), (15, .sl 3 0 x4.length), (16, .v (.int .i64 (x4.length : Int))), (17, .v (.int .i64 (IntKind.wrap .i64 (v7 + 1))))], [(0, .box [.bs false 2 (List.map enc_si p1), .v (.int .i64 p2)]), (1, .box [.v (.int .i64 0), .v (.int .i64 0)]), (2, .box [.v (.int .i64 (Go.bits .or .i64 v5 ((gt p1 x9).2))), .v (.int .i64 v6)]), (3, .arr 1 (List.map enc_s x4))]⟩) (C := True) (by kernel_rfl) trivial trivial ?_
          refine ⟨(fu, (Go.bits .or .i64 v5 ((gt p1 x9).2), v6, IntKind.wrap .i64 (v7 + 1))), h, Nat.lt_succ_self _, ?_⟩
          refine Wk.trans (Wk.forget [1, 2, 4, 6, 15, 16, 17] [0, 1, 2, 3] (s' := ⟨[(1, .v (.string p3)), (2, .pt 0 0), (4, .pt 1 0), (6, .pt 2 0), (15, .sl 3 0 x4.length), (16, .v (.int .i64 (x4.length : Int))), (17, .v (.int .i64 (IntKind.wrap .i64 (v7 + 1))))], [(0, .box [.bs false 2 (List.map enc_si p1), .v (.int .i64 p2)]), (1, .box [.v (.int .i64 0), .v (.int .i64 0)]), (2, .box [.v (.int .i64 (Go.bits .or .i64 v5 ((gt p1 x9).2))), .v (.int .i64 v6)]), (3, .arr 1 (List.map enc_s x4))]⟩) (by kernel_rfl)) ?_
          exact Wk.refl _
    · replace h := cd_f b3 h
      refine AX.condF (decide (v7 < (x4.length : Int))) (by kernel_rfl) b3 ?_
      refine AX.exit ?_
      refine fin_wk (Wk.forget [1, 2, 4, 6] [0, 1, 2] (s' := ⟨[(1, .v (.string p3)), (2, .pt 0 0), (4, .pt 1 0), (6, .pt 2 0)], [(0, .box [.bs false 2 (List.map enc_si p1), .v (.int .i64 p2)]), (1, .box [.v (.int .i64 0), .v (.int .i64 0)]), (2, .box [.v (.int .i64 v5), .v (.int .i64 v6)])]⟩) (by kernel_rfl)) ?_
      have hr := Option.some.inj h
      subst hr
      exact ⟨_, Wk.refl _, .inr ⟨(v5, v6), rfl, rfl, rfl⟩⟩

theorem s_impl_ParseArm (p1 : List (ByteArray × Int)) (p2 : Int) (p3 : ByteArray) (r : Int × Int × Bool) (h : m_impl_ParseArm p1 p2 p3 = some r) :
    Eng.Spec Tryd.prog 21 [.agg [.bs false 2 (List.map enc_si p1), .v (.int .i64 p2)], .v (.string p3)] [] (.tup [.agg [.v (.int .i64 r.1), .v (.int .i64 r.2.1)], .v (.bool r.2.2)]) [] := by
  unfold m_impl_ParseArm at h
  refine Eng.Spec.body Tryd.func21 (by kernel_rfl) rfl (by kernel_rfl) ?_
  refine AX.wkpost ?_
  refine AX.seq ?_
  refine AX.reg (its := [.auto { nk := 0 }, .auto { nk := 1 }]) [1, 2, 4] [0, 1] (s1 := ⟨[(1, .v (.string p3)), (2, .pt 0 0), (4, .pt 1 0)], [(0, .box [.bs false 2 (List.map enc_si p1), .v (.int .i64 p2)]), (1, .box [.v (.int .i64 0), .v (.int .i64 0)])]⟩) (C := True) (by kernel_rfl) trivial trivial ?_
  refine AX.seq ?_
  refine AX.reg (its := [.auto { nk := 2 }]) [1, 2, 4, 6] [0, 1, 2] (s1 := ⟨[(1, .v (.string p3)), (2, .pt 0 0), (4, .pt 1 0), (6, .pt 2 0)], [(0, .box [.bs false 2 (List.map enc_si p1), .v (.int .i64 p2)]), (1, .box [.v (.int .i64 0), .v (.int .i64 0)]), (2, .box [.v (.int .i64 0), .v (.int .i64 0)])]⟩) (C := True) (by kernel_rfl) trivial trivial ?_
  refine AX.seq ?_
  refine AX.seq ?_
  refine AX.reg (its := []) [1, 2, 4, 6, 13] [0, 1, 2] (s1 := ⟨[(1, .v (.string p3)), (2, .pt 0 0), (4, .pt 1 0), (6, .pt 2 0), (13, .v (.bool (!decide (p3 = (ByteArray.mk #[42])))))], [(0, .box [.bs false 2 (List.map enc_si p1), .v (.int .i64 p2)]), (1, .box [.v (.int .i64 0), .v (.int .i64 0)]), (2, .box [.v (.int .i64 0), .v (.int .i64 0)])]⟩) (C := True) (by kernel_rfl) trivial trivial ?_
  rcases bool_cases ((!decide (p3 = (ByteArray.mk #[42])))) with b1 | b1
  · replace h := cd_t b1 h
    refine AX.condT ((!decide (p3 = (ByteArray.mk #[42])))) (by kernel_rfl) b1 ?_
    refine AX.seq ?_
    obtain ⟨x4, e2, h⟩ := bd_e h
    refine AX.reg (its := [.auto {}, .call 39 [.v (.string p3), .v (.string (ByteArray.mk #[32]))] (handO (rho ([] ++ [3])) [] [] ++ []) (callEv [] [3] (.sl 0 0 x4.length) [.arr 1 (List.map enc_s x4)])]) [1, 2, 4, 6, 15, 16, 17] [0, 1, 2, 3] (s1 := ⟨[(1, .v (.string p3)), (2, .pt 0 0), (4, .pt 1 0), (6, .pt 2 0), (15, .sl 3 0 x4.length), (16, .v (.int .i64 (x4.length : Int))), (17, .v (.int .i64 0))], [(0, .box [.bs false 2 (List.map enc_si p1), .v (.int .i64 p2)]), (1, .box [.v (.int .i64 0), .v (.int .i64 0)]), (2, .box [.v (.int .i64 0), .v (.int .i64 0)]), (3, .arr 1 (List.map enc_s x4))]⟩) (C := ((([.v (.string p3), .v (.string (ByteArray.mk #[32]))] : List AV) = [.v (.string p3), .v (.string (ByteArray.mk #[32]))]) ∧ True) ∧ True) (by kernel_rfl) ⟨⟨rfl, trivial⟩, trivial⟩ ⟨call_ok (ks := []) (ns := [3]) (bor := []) (bobjs := []) (s_strings_Split p3 (ByteArray.mk #[32]) x4 e2) (.cons (.c1 (.c0 (.same _ (by kernel_rfl) (by kernel_rfl)))) (.cons (.c1 (.c0 (.same _ (by kernel_rfl) (by kernel_rfl)))) (.nil))) (by kernel_rfl) trivial, trivial⟩ ?_
    refine AX.block ?_
    obtain ⟨x10, e11, h⟩ := bd_e h
    refine AX.wk (Wk.forget [1, 2, 4, 6, 15, 16, 17] [0, 1, 2, 3] (s' := ⟨[(1, .v (.string p3)), (2, .pt 0 0), (4, .pt 1 0), (6, .pt 2 0), (15, .sl 3 0 x4.length), (16, .v (.int .i64 (x4.length : Int))), (17, .v (.int .i64 0))], [(0, .box [.bs false 2 (List.map enc_si p1), .v (.int .i64 p2)]), (1, .box [.v (.int .i64 0), .v (.int .i64 0)]), (2, .box [.v (.int .i64 0), .v (.int .i64 0)]), (3, .arr 1 (List.map enc_s x4))]⟩) (by kernel_rfl)) ?_
    refine AX.mono (s_impl_ParseArm_L1 p1 p2 p3 x4 FU (0, 0, 0) x10 e11) ?_
    rintro _ _ (⟨x11, rfl, rfl, rfl⟩ | ⟨x12, rfl, rfl, rfl⟩)
    · replace h := sm_l h
      refine fin_wk (Wk.forget [4, 5] [0] (s' := ⟨[(4, .pt 0 0), (5, .v (.bool false))], [(0, .box [.v (.int .i64 0), .v (.int .i64 0)])]⟩) (by kernel_rfl)) ?_
      have hr := Option.some.inj h
      subst hr
      exact ⟨_, Wk.refl _, .inr rfl, ⟨[], by kernel_rfl, trivial, [.agg [.v (.int .i64 0), .v (.int .i64 0)], .v (.bool false)], by kernel_rfl, by kernel_rfl⟩⟩
    · replace h := sm_r h
      refine AX.seq ?_
      refine AX.seq ?_
      rcases bool_cases (decide (p3 = ByteArray.empty)) with b12 | b12
      · replace h := cd_t b12 h
        refine AX.reg (its := [.auto {}, .auto { y := some (.v (.bool true)) }]) [4, 6, 65] [1, 2] (s1 := ⟨[(4, .pt 1 0), (6, .pt 2 0), (65, .v (.bool true))], [(1, .box [.v (.int .i64 0), .v (.int .i64 0)]), (2, .box [.v (.int .i64 x12.1), .v (.int .i64 x12.2)])]⟩) (C := ((True) ∧ ((.v (.bool (decide (p3 = ByteArray.empty))) : AV) = (.v (.bool true) : AV))) ∧ True) (by kernel_rfl) ⟨⟨trivial, (congrArg (fun z => AV.v (.bool z)) b12)⟩, trivial⟩ trivial ?_
        refine AX.cond_true (by kernel_rfl) ?_
        refine AX.seq ?_
        refine AX.reg (its := []) [4, 5] [1] (s1 := ⟨[(4, .pt 1 0), (5, .v (.bool false))], [(1, .box [.v (.int .i64 0), .v (.int .i64 0)])]⟩) (C := True) (by kernel_rfl) trivial trivial ?_
        refine AX.ret ?_
        refine fin_wk (Wk.swap 0 1 (Nat.le_of_ble_eq_true (by kernel_rfl)) (Nat.le_of_ble_eq_true (by kernel_rfl)) rfl) ?_
        refine fin_wk (Wk.forget [4, 5] [0] (s' := ⟨[(4, .pt 0 0), (5, .v (.bool false))], [(0, .box [.v (.int .i64 0), .v (.int .i64 0)])]⟩) (by kernel_rfl)) ?_
        have hr := Option.some.inj h
        subst hr
        exact ⟨_, Wk.refl _, .inr rfl, ⟨[], by kernel_rfl, trivial, [.agg [.v (.int .i64 0), .v (.int .i64 0)], .v (.bool false)], by kernel_rfl, by kernel_rfl⟩⟩
      · replace h := cd_f b12 h
        obtain ⟨x13, e13, h⟩ := bd_e h
        refine AX.reg (its := [.auto {}, .auto { y := some (.v (.bool false)) }, .auto {}, .auto {}, .auto {}, .call 53 [.agg [.bs false 2 (List.map enc_si p1), .v (.int .i64 p2)], .agg [.v (.int .i64 x12.1), .v (.int .i64 x12.2)]] (handO (rho ([] ++ [])) [] [] ++ []) (callEv [] [] (.v (.string x13)) [])]) [4, 6, 65] [1, 2] (s1 := ⟨[(4, .pt 1 0), (6, .pt 2 0), (65, .v (.bool (!decide (x13 = p3))))], [(1, .box [.v (.int .i64 0), .v (.int .i64 0)]), (2, .box [.v (.int .i64 x12.1), .v (.int .i64 x12.2)])]⟩) (C := ((True) ∧ ((.v (.bool (decide (p3 = ByteArray.empty))) : AV) = (.v (.bool false) : AV))) ∧ ((([.agg [.bs false 2 (List.map enc_si p1), .v (.int .i64 p2)], .agg [.v (.int .i64 x12.1), .v (.int .i64 x12.2)]] : List AV) = [.agg [.bs false 2 (List.map enc_si p1), .v (.int .i64 p2)], .agg [.v (.int .i64 x12.1), .v (.int .i64 x12.2)]]) ∧ True) ∧ True) (by kernel_rfl) ⟨⟨trivial, (congrArg (fun z => AV.v (.bool z)) b12)⟩, ⟨⟨rfl, trivial⟩, trivial⟩⟩ ⟨call_ok (ks := []) (ns := []) (bor := []) (bobjs := []) (s_impl_ArmText p1 p2 x12.1 x12.2 x13 e13) (.cons (.c1 (.agg (.cons (.same _ (by kernel_rfl) (by kernel_rfl)) (.cons (.same _ (by kernel_rfl) (by kernel_rfl)) (.nil))))) (.cons (.c1 (.agg (.cons (.same _ (by kernel_rfl) (by kernel_rfl)) (.cons (.same _ (by kernel_rfl) (by kernel_rfl)) (.nil))))) (.nil))) (by kernel_rfl) trivial, trivial⟩ ?_
        rcases bool_cases ((!decide (x13 = p3))) with b14 | b14
        · replace h := cd_t b14 h
          refine AX.condT ((!decide (x13 = p3))) (by kernel_rfl) b14 ?_
          refine AX.seq ?_
          refine AX.reg (its := []) [4, 5] [1] (s1 := ⟨[(4, .pt 1 0), (5, .v (.bool false))], [(1, .box [.v (.int .i64 0), .v (.int .i64 0)])]⟩) (C := True) (by kernel_rfl) trivial trivial ?_
          refine AX.ret ?_
          refine fin_wk (Wk.swap 0 1 (Nat.le_of_ble_eq_true (by kernel_rfl)) (Nat.le_of_ble_eq_true (by kernel_rfl)) rfl) ?_
          refine fin_wk (Wk.forget [4, 5] [0] (s' := ⟨[(4, .pt 0 0), (5, .v (.bool false))], [(0, .box [.v (.int .i64 0), .v (.int .i64 0)])]⟩) (by kernel_rfl)) ?_
          have hr := Option.some.inj h
          subst hr
          exact ⟨_, Wk.refl _, .inr rfl, ⟨[], by kernel_rfl, trivial, [.agg [.v (.int .i64 0), .v (.int .i64 0)], .v (.bool false)], by kernel_rfl, by kernel_rfl⟩⟩
        · replace h := cd_f b14 h
          refine AX.condF ((!decide (x13 = p3))) (by kernel_rfl) b14 ?_
          refine AX.skip ?_
          refine AX.seq ?_
          refine AX.reg (its := []) [4, 5] [1] (s1 := ⟨[(4, .pt 1 0), (5, .v (.bool true))], [(1, .box [.v (.int .i64 x12.1), .v (.int .i64 x12.2)])]⟩) (C := True) (by kernel_rfl) trivial trivial ?_
          refine AX.ret ?_
          refine fin_wk (Wk.swap 0 1 (Nat.le_of_ble_eq_true (by kernel_rfl)) (Nat.le_of_ble_eq_true (by kernel_rfl)) rfl) ?_
          refine fin_wk (Wk.forget [4, 5] [0] (s' := ⟨[(4, .pt 0 0), (5, .v (.bool true))], [(0, .box [.v (.int .i64 x12.1), .v (.int .i64 x12.2)])]⟩) (by kernel_rfl)) ?_
          have hr := Option.some.inj h
          subst hr
          exact ⟨_, Wk.refl _, .inr rfl, ⟨[], by kernel_rfl, trivial, [.agg [.v (.int .i64 x12.1), .v (.int .i64 x12.2)], .v (.bool true)], by kernel_rfl, by kernel_rfl⟩⟩
  · replace h := cd_f b1 h
    refine AX.condF ((!decide (p3 = (ByteArray.mk #[42])))) (by kernel_rfl) b1 ?_
    refine AX.skip ?_
    refine AX.seq ?_
    refine AX.seq ?_
    rcases bool_cases (decide (p3 = ByteArray.empty)) with b15 | b15
    · replace h := cd_t b15 h
      refine AX.reg (its := [.auto {}, .auto { y := some (.v (.bool true)) }]) [4, 6, 65] [1, 2] (s1 := ⟨[(4, .pt 1 0), (6, .pt 2 0), (65, .v (.bool true))], [(1, .box [.v (.int .i64 0), .v (.int .i64 0)]), (2, .box [.v (.int .i64 0), .v (.int .i64 0)])]⟩) (C := ((True) ∧ ((.v (.bool (decide (p3 = ByteArray.empty))) : AV) = (.v (.bool true) : AV))) ∧ True) (by kernel_rfl) ⟨⟨trivial, (congrArg (fun z => AV.v (.bool z)) b15)⟩, trivial⟩ trivial ?_
      refine AX.cond_true (by kernel_rfl) ?_
      refine AX.seq ?_
      refine AX.reg (its := []) [4, 5] [1] (s1 := ⟨[(4, .pt 1 0), (5, .v (.bool false))], [(1, .box [.v (.int .i64 0), .v (.int .i64 0)])]⟩) (C := True) (by kernel_rfl) trivial trivial ?_
      refine AX.ret ?_
      refine fin_wk (Wk.swap 0 1 (Nat.le_of_ble_eq_true (by kernel_rfl)) (Nat.le_of_ble_eq_true (by kernel_rfl)) rfl) ?_
      refine fin_wk (Wk.forget [4, 5] [0] (s' := ⟨[(4, .pt 0 0), (5, .v (.bool false))], [(0, .box [.v (.int .i64 0), .v (.int .i64 0)])]⟩) (by kernel_rfl)) ?_
      have hr := Option.some.inj h
      subst hr
      exact ⟨_, Wk.refl _, .inr rfl, ⟨[], by kernel_rfl, trivial, [.agg [.v (.int .i64 0), .v (.int .i64 0)], .v (.bool false)], by kernel_rfl, by kernel_rfl⟩⟩
    · replace h := cd_f b15 h
      obtain ⟨x14, e16, h⟩ := bd_e h
      refine AX.reg (its := [.auto {}, .auto { y := some (.v (.bool false)) }, .auto {}, .auto {}, .auto {}, .call 53 [.agg [.bs false 2 (List.map enc_si p1), .v (.int .i64 p2)], .agg [.v (.int .i64 0), .v (.int .i64 0)]] (handO (rho ([] ++ [])) [] [] ++ []) (callEv [] [] (.v (.string x14)) [])]) [4, 6, 65] [1, 2] (s1 := ⟨[(4, .pt 1 0), (6, .pt 2 0), (65, .v (.bool (!decide (x14 = p3))))], [(1, .box [.v (.int .i64 0), .v (.int .i64 0)]), (2, .box [.v (.int .i64 0), .v (.int .i64 0)])]⟩) (C := ((True) ∧ ((.v (.bool (decide (p3 = ByteArray.empty))) : AV) = (.v (.bool false) : AV))) ∧ ((([.agg [.bs false 2 (List.map enc_si p1), .v (.int .i64 p2)], .agg [.v (.int .i64 0), .v (.int .i64 0)]] : List AV) = [.agg [.bs false 2 (List.map enc_si p1), .v (.int .i64 p2)], .agg [.v (.int .i64 0), .v (.int .i64 0)]]) ∧ True) ∧ True) (by kernel_rfl) ⟨⟨trivial, (congrArg (fun z => AV.v (.bool z)) b15)⟩, ⟨⟨rfl, trivial⟩, trivial⟩⟩ ⟨call_ok (ks := []) (ns := []) (bor := []) (bobjs := []) (s_impl_ArmText p1 p2 0 0 x14 e16) (.cons (.c1 (.agg (.cons (.same _ (by kernel_rfl) (by kernel_rfl)) (.cons (.same _ (by kernel_rfl) (by kernel_rfl)) (.nil))))) (.cons (.c1 (.agg (.cons (.same _ (by kernel_rfl) (by kernel_rfl)) (.cons (.same _ (by kernel_rfl) (by kernel_rfl)) (.nil))))) (.nil))) (by kernel_rfl) trivial, trivial⟩ ?_
      rcases bool_cases ((!decide (x14 = p3))) with b17 | b17
      · replace h := cd_t b17 h
        refine AX.condT ((!decide (x14 = p3))) (by kernel_rfl) b17 ?_
        refine AX.seq ?_
        refine AX.reg (its := []) [4, 5] [1] (s1 := ⟨[(4, .pt 1 0), (5, .v (.bool false))], [(1, .box [.v (.int .i64 0), .v (.int .i64 0)])]⟩) (C := True) (by kernel_rfl) trivial trivial ?_
        refine AX.ret ?_
        refine fin_wk (Wk.swap 0 1 (Nat.le_of_ble_eq_true (by kernel_rfl)) (Nat.le_of_ble_eq_true (by kernel_rfl)) rfl) ?_
        refine fin_wk (Wk.forget [4, 5] [0] (s' := ⟨[(4, .pt 0 0), (5, .v (.bool false))], [(0, .box [.v (.int .i64 0), .v (.int .i64 0)])]⟩) (by kernel_rfl)) ?_
        have hr := Option.some.inj h
        subst hr
        exact ⟨_, Wk.refl _, .inr rfl, ⟨[], by kernel_rfl, trivial, [.agg [.v (.int .i64 0), .v (.int .i64 0)], .v (.bool false)], by kernel_rfl, by kernel_rfl⟩⟩
      · replace h := cd_f b17 h
        refine AX.condF ((!decide (x14 = p3))) (by kernel_rfl) b17 ?_
        refine AX.skip ?_
        refine AX.seq ?_
        refine AX.reg (its := []) [4, 5] [1] (s1 := ⟨[(4, .pt 1 0), (5, .v (.bool true))], [(1, .box [.v (.int .i64 0), .v (.int .i64 0)])]⟩) (C := True) (by kernel_rfl) trivial trivial ?_
        refine AX.ret ?_
        refine fin_wk (Wk.swap 0 1 (Nat.le_of_ble_eq_true (by kernel_rfl)) (Nat.le_of_ble_eq_true (by kernel_rfl)) rfl) ?_
        refine fin_wk (Wk.forget [4, 5] [0] (s' := ⟨[(4, .pt 0 0), (5, .v (.bool true))], [(0, .box [.v (.int .i64 0), .v (.int .i64 0)])]⟩) (by kernel_rfl)) ?_
        have hr := Option.some.inj h
        subst hr
        exact ⟨_, Wk.refl _, .inr rfl, ⟨[], by kernel_rfl, trivial, [.agg [.v (.int .i64 0), .v (.int .i64 0)], .v (.bool true)], by kernel_rfl, by kernel_rfl⟩⟩

theorem s_laws_eqArm (p1 : Int) (p2 : Int) (p3 : Int) (p4 : Int) (r : Bool) (h : m_laws_eqArm p1 p2 p3 p4 = some r) :
    Eng.Spec Tryd.prog 22 [.agg [.v (.int .i64 p1), .v (.int .i64 p2)], .agg [.v (.int .i64 p3), .v (.int .i64 p4)]] [] (.v (.bool r)) [] := by
  unfold m_laws_eqArm at h
  refine Eng.Spec.body Tryd.func22 (by kernel_rfl) rfl (by kernel_rfl) ?_
  refine AX.wkpost ?_
  refine AX.seq ?_
  refine AX.reg (its := [.auto { nk := 0 }, .auto { nk := 1 }]) [2, 3] [0, 1] (s1 := ⟨[(2, .pt 0 0), (3, .pt 1 0)], [(0, .box [.v (.int .i64 p1), .v (.int .i64 p2)]), (1, .box [.v (.int .i64 p3), .v (.int .i64 p4)])]⟩) (C := True) (by kernel_rfl) trivial trivial ?_
  refine AX.seq ?_
  refine AX.seq ?_
  refine AX.reg (its := []) [2, 3, 9] [0, 1] (s1 := ⟨[(2, .pt 0 0), (3, .pt 1 0), (9, .v (.bool (!decide (p1 = p3))))], [(0, .box [.v (.int .i64 p1), .v (.int .i64 p2)]), (1, .box [.v (.int .i64 p3), .v (.int .i64 p4)])]⟩) (C := True) (by kernel_rfl) trivial trivial ?_
  rcases bool_cases ((!decide (p1 = p3))) with b1 | b1
  · replace h := cd_t b1 h
    refine AX.condT ((!decide (p1 = p3))) (by kernel_rfl) b1 ?_
    refine AX.seq ?_
    refine AX.reg (its := []) [4] [] (s1 := ⟨[(4, .v (.bool false))], []⟩) (C := True) (by kernel_rfl) trivial trivial ?_
    refine AX.ret ?_
    refine fin_wk (Wk.forget [4] [] (s' := ⟨[(4, .v (.bool false))], []⟩) (by kernel_rfl)) ?_
    have hr := Option.some.inj h
    subst hr
    exact ⟨_, Wk.refl _, .inr rfl, ⟨[], by kernel_rfl, trivial, [.v (.bool false)], by kernel_rfl, by kernel_rfl⟩⟩
  · replace h := cd_f b1 h
    refine AX.condF ((!decide (p1 = p3))) (by kernel_rfl) b1 ?_
    refine AX.skip ?_
    refine AX.seq ?_
    refine AX.seq ?_
    refine AX.reg (its := []) [14] [] (s1 := ⟨[(14, .v (.bool (!decide (p2 = p4))))], []⟩) (C := True) (by kernel_rfl) trivial trivial ?_
    rcases bool_cases ((!decide (p2 = p4))) with b2 | b2
    · replace h := cd_t b2 h
      refine AX.condT ((!decide (p2 = p4))) (by kernel_rfl) b2 ?_
      refine AX.seq ?_
      refine AX.reg (its := []) [4] [] (s1 := ⟨[(4, .v (.bool false))], []⟩) (C := True) (by kernel_rfl) trivial trivial ?_
      refine AX.ret ?_
      refine fin_wk (Wk.forget [4] [] (s' := ⟨[(4, .v (.bool false))], []⟩) (by kernel_rfl)) ?_
      have hr := Option.some.inj h
      subst hr
      exact ⟨_, Wk.refl _, .inr rfl, ⟨[], by kernel_rfl, trivial, [.v (.bool false)], by kernel_rfl, by kernel_rfl⟩⟩
    · replace h := cd_f b2 h
      refine AX.condF ((!decide (p2 = p4))) (by kernel_rfl) b2 ?_
      refine AX.skip ?_
      refine AX.seq ?_
      refine AX.reg (its := []) [4] [] (s1 := ⟨[(4, .v (.bool true))], []⟩) (C := True) (by kernel_rfl) trivial trivial ?_
      refine AX.ret ?_
      refine fin_wk (Wk.forget [4] [] (s' := ⟨[(4, .v (.bool true))], []⟩) (by kernel_rfl)) ?_
      have hr := Option.some.inj h
      subst hr
      exact ⟨_, Wk.refl _, .inr rfl, ⟨[], by kernel_rfl, trivial, [.v (.bool true)], by kernel_rfl, by kernel_rfl⟩⟩

theorem s_laws_eqDef (p1 : ByteArray) (p2 : Int) (p3 : ByteArray) (p4 : Int) (r : Bool) (h : m_laws_eqDef p1 p2 p3 p4 = some r) :
    Eng.Spec Tryd.prog 90 [.agg [.v (.string p1), .v (.int .i64 p2)], .agg [.v (.string p3), .v (.int .i64 p4)]] [] (.v (.bool r)) [] := by
  unfold m_laws_eqDef at h
  refine Eng.Spec.body Tryd.func90 (by kernel_rfl) rfl (by kernel_rfl) ?_
  refine AX.wkpost ?_
  refine AX.seq ?_
  refine AX.reg (its := [.auto { nk := 0 }, .auto { nk := 1 }]) [2, 3] [0, 1] (s1 := ⟨[(2, .pt 0 0), (3, .pt 1 0)], [(0, .box [.v (.string p1), .v (.int .i64 p2)]), (1, .box [.v (.string p3), .v (.int .i64 p4)])]⟩) (C := True) (by kernel_rfl) trivial trivial ?_
  refine AX.seq ?_
  refine AX.seq ?_
  refine AX.reg (its := []) [2, 3, 9] [0, 1] (s1 := ⟨[(2, .pt 0 0), (3, .pt 1 0), (9, .v (.bool (!decide (p1 = p3))))], [(0, .box [.v (.string p1), .v (.int .i64 p2)]), (1, .box [.v (.string p3), .v (.int .i64 p4)])]⟩) (C := True) (by kernel_rfl) trivial trivial ?_
  rcases bool_cases ((!decide (p1 = p3))) with b1 | b1
  · replace h := cd_t b1 h
    refine AX.condT ((!decide (p1 = p3))) (by kernel_rfl) b1 ?_
    refine AX.seq ?_
    refine AX.reg (its := []) [4] [] (s1 := ⟨[(4, .v (.bool false))], []⟩) (C := True) (by kernel_rfl) trivial trivial ?_
    refine AX.ret ?_
    refine fin_wk (Wk.forget [4] [] (s' := ⟨[(4, .v (.bool false))], []⟩) (by kernel_rfl)) ?_
    have hr := Option.some.inj h
    subst hr
    exact ⟨_, Wk.refl _, .inr rfl, ⟨[], by kernel_rfl, trivial, [.v (.bool false)], by kernel_rfl, by kernel_rfl⟩⟩
  · replace h := cd_f b1 h
    refine AX.condF ((!decide (p1 = p3))) (by kernel_rfl) b1 ?_
    refine AX.skip ?_
    refine AX.seq ?_
    refine AX.seq ?_
    refine AX.reg (its := []) [14] [] (s1 := ⟨[(14, .v (.bool (!decide (p2 = p4))))], []⟩) (C := True) (by kernel_rfl) trivial trivial ?_
    rcases bool_cases ((!decide (p2 = p4))) with b2 | b2
    · replace h := cd_t b2 h
      refine AX.condT ((!decide (p2 = p4))) (by kernel_rfl) b2 ?_
      refine AX.seq ?_
      refine AX.reg (its := []) [4] [] (s1 := ⟨[(4, .v (.bool false))], []⟩) (C := True) (by kernel_rfl) trivial trivial ?_
      refine AX.ret ?_
      refine fin_wk (Wk.forget [4] [] (s' := ⟨[(4, .v (.bool false))], []⟩) (by kernel_rfl)) ?_
      have hr := Option.some.inj h
      subst hr
      exact ⟨_, Wk.refl _, .inr rfl, ⟨[], by kernel_rfl, trivial, [.v (.bool false)], by kernel_rfl, by kernel_rfl⟩⟩
    · replace h := cd_f b2 h
      refine AX.condF ((!decide (p2 = p4))) (by kernel_rfl) b2 ?_
      refine AX.skip ?_
      refine AX.seq ?_
      refine AX.reg (its := []) [4] [] (s1 := ⟨[(4, .v (.bool true))], []⟩) (C := True) (by kernel_rfl) trivial trivial ?_
      refine AX.ret ?_
      refine fin_wk (Wk.forget [4] [] (s' := ⟨[(4, .v (.bool true))], []⟩) (by kernel_rfl)) ?_
      have hr := Option.some.inj h
      subst hr
      exact ⟨_, Wk.refl _, .inr rfl, ⟨[], by kernel_rfl, trivial, [.v (.bool true)], by kernel_rfl, by kernel_rfl⟩⟩

theorem s_laws_eqDefS_L1 (p1 : List (ByteArray × Int)) (p2 : List (ByteArray × Int)) (n : Nat) (g : Int) (out : Unit ⊕ Unit) (h : m_laws_eqDefS_L1 p1 p2 n g = some out) :
    AX Tryd.prog 27 0 (codeAt [1, 1, 0, 1, 1] (bodyOf Tryd.f44)) ((fun g : Int => (⟨[(0, .bs false 2 (List.map enc_si p1)), (1, .bs false 2 (List.map enc_si p2)), (5, .v (.int .i64 g))], []⟩ : S)) g) (fun ex s => (∃ o : Unit, out = Sum.inl o ∧ ex = .ret ∧ s = ⟨[(4, .v (.bool false))], []⟩) ∨ (∃ o : Unit, out = Sum.inr o ∧ ex = .exit 0 ∧ s = ⟨[], []⟩)) := by
  refine AX.wkpost ?_
  refine AX.loop (G := Nat × (Int)) (fun q => (fun g : Int => (⟨[(0, .bs false 2 (List.map enc_si p1)), (1, .bs false 2 (List.map enc_si p2)), (5, .v (.int .i64 g))], []⟩ : S)) q.2) (fun q => m_laws_eqDefS_L1 p1 p2 q.1 q.2 = some out) (fun q => q.1) (n, g) h (Wk.refl _) ?_
  clear h
  rintro ⟨fu, v3⟩ h
  cases fu with
  | zero => cases h
  | succ fu =>
    rw [m_laws_eqDefS_L1] at h
    refine AX.seq ?_
    refine AX.seq ?_
    refine AX.reg (its := [.auto {}, .auto {}, .auto { y := some (.v (.int .i64 (p1.length : Int))) }]) [0, 1, 5, 14] [] (s1 := ⟨[(0, .bs false 2 (List.map enc_si p1)), (1, .bs false 2 (List.map enc_si p2)), (5, .v (.int .i64 v3)), (14, .v (.bool (decide (v3 < (p1.length : Int)))))], []⟩) (C := (True ∧ (AV.v (.int .i64 ((List.map enc_si p1).length : Int)) = AV.v (.int .i64 (p1.length : Int)))) ∧ True) (by kernel_rfl) ⟨⟨trivial, len_map enc_si p1⟩, trivial⟩ trivial ?_
    rcases bool_cases (decide (v3 < (p1.length : Int))) with b2 | b2
    · replace h := cd_t b2 h
      refine AX.condT (decide (v3 < (p1.length : Int))) (by kernel_rfl) b2 ?_
      refine AX.skip ?_
      refine AX.seq ?_
      refine AX.block ?_
      refine AX.seq ?_
      obtain ⟨g3, h⟩ := gd_e h
      obtain ⟨g4, h⟩ := gd_e h
      obtain ⟨x4, e5, h⟩ := bd_e h
      refine AX.drw mixed (its := [.auto {}, .auto {}, .auto { y := some (.be 2 (enc_si (gt p1 v3)) 0) }, .auto {}, .auto {}, .auto {}, .auto { y := some (.be 2 (enc_si (gt p2 v3)) 0) }, .auto {}, .call 90 [.agg [.v (.string ((gt p1 v3).1)), .v (.int .i64 ((gt p1 v3).2))], .agg [.v (.string ((gt p2 v3).1)), .v (.int .i64 ((gt p2 v3).2))]] (handO (rho ([] ++ [])) [] [] ++ []) (callEv [] [] (.v (.bool x4)) [])]) [0, 1, 5, 26] [] (s1 := ⟨[(0, .bs false 2 (List.map enc_si p1)), (1, .bs false 2 (List.map enc_si p2)), (5, .v (.int .i64 v3)), (26, .v (.bool (!x4)))], []⟩) (C := ((0 ≤ v3 ∧ v3 < ((List.map enc_si p1).length : Int)) ∧ (AV.be 2 ((List.map enc_si p1).getD v3.toNat []) 0 = AV.be 2 (enc_si (gt p1 v3)) 0)) ∧ ((0 ≤ v3 ∧ v3 < ((List.map enc_si p2).length : Int)) ∧ (AV.be 2 ((List.map enc_si p2).getD v3.toNat []) 0 = AV.be 2 (enc_si (gt p2 v3)) 0)) ∧ ((([.agg [.v (.string ((gt p1 v3).1)), .v (.int .i64 ((gt p1 v3).2))], .agg [.v (.string ((gt p2 v3).1)), .v (.int .i64 ((gt p2 v3).2))]] : List AV) = [.agg [.v (.string ((gt p1 v3).1)), .v (.int .i64 ((gt p1 v3).2))], .agg [.v (.string ((gt p2 v3).1)), .v (.int .i64 ((gt p2 v3).2))]]) ∧ True) ∧ True) (by kernel_rfl) ⟨idx_bs enc_si p1 v3 2 g3, ⟨idx_bs enc_si p2 v3 2 g4, ⟨⟨rfl, trivial⟩, trivial⟩⟩⟩ ⟨call_ok (ks := []) (ns := []) (bor := []) (bobjs := []) (s_laws_eqDef ((gt p1 v3).1) ((gt p1 v3).2) ((gt p2 v3).1) ((gt p2 v3).2) x4 e5) (.cons (.c1 (.agg (.cons (.same _ (by kernel_rfl) (by kernel_rfl)) (.cons (.same _ (by kernel_rfl) (by kernel_rfl)) (.nil))))) (.cons (.c1 (.agg (.cons (.same _ (by kernel_rfl) (by kernel_rfl)) (.cons (.same _ (by kernel_rfl) (by kernel_rfl)) (.nil))))) (.nil))) (by kernel_rfl) trivial, trivial⟩ ?_
      rcases bool_cases ((!x4)) with b6 | b6
      · replace h := cd_t b6 h
        refine AX.condT ((!x4)) (by kernel_rfl) b6 ?_
        refine AX.seq ?_
        refine AX.reg (its := []) [4] [] (s1 := ⟨[(4, .v (.bool false))], []⟩) (C := True) (by kernel_rfl) trivial trivial ?_
        refine AX.ret ?_
        refine fin_wk (Wk.forget [4] [] (s' := ⟨[(4, .v (.bool false))], []⟩) (by kernel_rfl)) ?_
        have hr := Option.some.inj h
        subst hr
        exact ⟨_, Wk.refl _, .inl ⟨(), rfl, rfl, rfl⟩⟩
      · replace h := cd_f b6 h
        refine AX.condF ((!x4)) (by kernel_rfl) b6 ?_
        refine AX.skip ?_
        refine AX.reg (its := [.auto {}, .auto { raw := true }]) [0, 1, 5] [] (s1 := ⟨[(0, .bs false 2 (List.map enc_si p1)), (1, .bs false 2 (List.map enc_si p2)), (5, .v (.int .i64 (IntKind.wrap .i64 (v3 + 1))))], []⟩) (C := True) (by kernel_rfl) trivial trivial ?_
        refine ⟨(fu, IntKind.wrap .i64 (v3 + 1)), h, Nat.lt_succ_self _, ?_⟩
        refine Wk.trans (Wk.forget [0, 1, 5] [] (s' := ⟨[(0, .bs false 2 (List.map enc_si p1)), (1, .bs false 2 (List.map enc_si p2)), (5, .v (.int .i64 (IntKind.wrap .i64 (v3 + 1))))], []⟩) (by kernel_rfl)) ?_
        exact Wk.refl _
    · replace h := cd_f b2 h
      refine AX.condF (decide (v3 < (p1.length : Int))) (by kernel_rfl) b2 ?_
      refine AX.exit ?_
      refine fin_wk (Wk.forget [] [] (s' := ⟨[], []⟩) (by kernel_rfl)) ?_
      have hr := Option.some.inj h
      subst hr
      exact ⟨_, Wk.refl _, .inr ⟨(), rfl, rfl, rfl⟩⟩

theorem s_laws_eqDefS (p1 : List (ByteArray × Int)) (p2 : List (ByteArray × Int)) (r : Bool) (h : m_laws_eqDefS p1 p2 = some r) :
    Eng.Spec Tryd.prog 44 [.bs false 2 (List.map enc_si p1), .bs false 2 (List.map enc_si p2)] [] (.v (.bool r)) [] := by
  unfold m_laws_eqDefS at h
  refine Eng.Spec.body Tryd.func44 (by kernel_rfl) rfl (by kernel_rfl) ?_
  refine AX.wkpost ?_
  refine AX.seq ?_
  refine AX.reg (its := []) [0, 1] [] (s1 := ⟨[(0, .bs false 2 (List.map enc_si p1)), (1, .bs false 2 (List.map enc_si p2))], []⟩) (C := True) (by kernel_rfl) trivial trivial ?_
  refine AX.seq ?_
  refine AX.seq ?_
  refine AX.reg (its := [.auto {}, .auto { y := some (.v (.int .i64 (p1.length : Int))) }, .auto {}, .auto { y := some (.v (.int .i64 (p2.length : Int))) }]) [0, 1, 10] [] (s1 := ⟨[(0, .bs false 2 (List.map enc_si p1)), (1, .bs false 2 (List.map enc_si p2)), (10, .v (.bool (!decide ((p1.length : Int) = (p2.length : Int)))))], []⟩) (C := (True ∧ (AV.v (.int .i64 ((List.map enc_si p1).length : Int)) = AV.v (.int .i64 (p1.length : Int)))) ∧ (True ∧ (AV.v (.int .i64 ((List.map enc_si p2).length : Int)) = AV.v (.int .i64 (p2.length : Int)))) ∧ True) (by kernel_rfl) ⟨⟨trivial, len_map enc_si p1⟩, ⟨⟨trivial, len_map enc_si p2⟩, trivial⟩⟩ trivial ?_
  rcases bool_cases ((!decide ((p1.length : Int) = (p2.length : Int)))) with b1 | b1
  · replace h := cd_t b1 h
    refine AX.condT ((!decide ((p1.length : Int) = (p2.length : Int)))) (by kernel_rfl) b1 ?_
    refine AX.seq ?_
    refine AX.reg (its := []) [4] [] (s1 := ⟨[(4, .v (.bool false))], []⟩) (C := True) (by kernel_rfl) trivial trivial ?_
    refine AX.ret ?_
    refine fin_wk (Wk.forget [4] [] (s' := ⟨[(4, .v (.bool false))], []⟩) (by kernel_rfl)) ?_
    have hr := Option.some.inj h
    subst hr
    exact ⟨_, Wk.refl _, .inr rfl, ⟨[], by kernel_rfl, trivial, [.v (.bool false)], by kernel_rfl, by kernel_rfl⟩⟩
  · replace h := cd_f b1 h
    refine AX.condF ((!decide ((p1.length : Int) = (p2.length : Int)))) (by kernel_rfl) b1 ?_
    refine AX.skip ?_
    refine AX.seq ?_
    refine AX.seq ?_
    refine AX.reg (its := []) [0, 1, 5] [] (s1 := ⟨[(0, .bs false 2 (List.map enc_si p1)), (1, .bs false 2 (List.map enc_si p2)), (5, .v (.int .i64 0))], []⟩) (C := True) (by kernel_rfl) trivial trivial ?_
    refine AX.block ?_
    obtain ⟨x5, e7, h⟩ := bd_e h
    refine AX.wk (Wk.forget [0, 1, 5] [] (s' := ⟨[(0, .bs false 2 (List.map enc_si p1)), (1, .bs false 2 (List.map enc_si p2)), (5, .v (.int .i64 0))], []⟩) (by kernel_rfl)) ?_
    refine AX.mono (s_laws_eqDefS_L1 p1 p2 FU 0 x5 e7) ?_
    rintro _ _ (⟨x6, rfl, rfl, rfl⟩ | ⟨x7, rfl, rfl, rfl⟩)
    · replace h := sm_l h
      refine fin_wk (Wk.forget [4] [] (s' := ⟨[(4, .v (.bool false))], []⟩) (by kernel_rfl)) ?_
      have hr := Option.some.inj h
      subst hr
      exact ⟨_, Wk.refl _, .inr rfl, ⟨[], by kernel_rfl, trivial, [.v (.bool false)], by kernel_rfl, by kernel_rfl⟩⟩
    · replace h := sm_r h
      refine AX.seq ?_
      refine AX.reg (its := []) [4] [] (s1 := ⟨[(4, .v (.bool true))], []⟩) (C := True) (by kernel_rfl) trivial trivial ?_
      refine AX.ret ?_
      refine fin_wk (Wk.forget [4] [] (s' := ⟨[(4, .v (.bool true))], []⟩) (by kernel_rfl)) ?_
      have hr := Option.some.inj h
      subst hr
      exact ⟨_, Wk.refl _, .inr rfl, ⟨[], by kernel_rfl, trivial, [.v (.bool true)], by kernel_rfl, by kernel_rfl⟩⟩

theorem s_laws_eqFlag (p1 : List (ByteArray × Int)) (p2 : Int) (p3 : List (ByteArray × Int)) (p4 : Int) (r : Bool) (h : m_laws_eqFlag p1 p2 p3 p4 = some r) :
    Eng.Spec Tryd.prog 14 [.agg [.bs false 2 (List.map enc_si p1), .v (.int .i64 p2)], .agg [.bs false 2 (List.map enc_si p3), .v (.int .i64 p4)]] [] (.v (.bool r)) [] := by
  unfold m_laws_eqFlag at h
  refine Eng.Spec.body Tryd.func14 (by kernel_rfl) rfl (by kernel_rfl) ?_
  refine AX.wkpost ?_
  refine AX.seq ?_
  refine AX.reg (its := [.auto { nk := 0 }, .auto { nk := 1 }]) [2, 3] [0, 1] (s1 := ⟨[(2, .pt 0 0), (3, .pt 1 0)], [(0, .box [.bs false 2 (List.map enc_si p1), .v (.int .i64 p2)]), (1, .box [.bs false 2 (List.map enc_si p3), .v (.int .i64 p4)])]⟩) (C := True) (by kernel_rfl) trivial trivial ?_
  refine AX.seq ?_
  refine AX.seq ?_
  obtain ⟨x5, e1, h⟩ := bd_e h
  refine AX.reg (its := [.auto {}, .auto {}, .auto {}, .auto {}, .call 44 [.bs false 2 (List.map enc_si p1), .bs false 2 (List.map enc_si p3)] (handO (rho ([] ++ [])) [] [] ++ []) (callEv [] [] (.v (.bool x5)) [])]) [2, 3, 10] [0, 1] (s1 := ⟨[(2, .pt 0 0), (3, .pt 1 0), (10, .v (.bool (!x5)))], [(0, .box [.bs false 2 (List.map enc_si p1), .v (.int .i64 p2)]), (1, .box [.bs false 2 (List.map enc_si p3), .v (.int .i64 p4)])]⟩) (C := ((([.bs false 2 (List.map enc_si p1), .bs false 2 (List.map enc_si p3)] : List AV) = [.bs false 2 (List.map enc_si p1), .bs false 2 (List.map enc_si p3)]) ∧ True) ∧ True) (by kernel_rfl) ⟨⟨rfl, trivial⟩, trivial⟩ ⟨call_ok (ks := []) (ns := []) (bor := []) (bobjs := []) (s_laws_eqDefS p1 p3 x5 e1) (.cons (.c1 (.c0 (.same _ (by kernel_rfl) (by kernel_rfl)))) (.cons (.c1 (.c0 (.same _ (by kernel_rfl) (by kernel_rfl)))) (.nil))) (by kernel_rfl) trivial, trivial⟩ ?_
  rcases bool_cases ((!x5)) with b2 | b2
  · replace h := cd_t b2 h
    refine AX.condT ((!x5)) (by kernel_rfl) b2 ?_
    refine AX.seq ?_
    refine AX.reg (its := []) [4] [] (s1 := ⟨[(4, .v (.bool false))], []⟩) (C := True) (by kernel_rfl) trivial trivial ?_
    refine AX.ret ?_
    refine fin_wk (Wk.forget [4] [] (s' := ⟨[(4, .v (.bool false))], []⟩) (by kernel_rfl)) ?_
    have hr := Option.some.inj h
    subst hr
    exact ⟨_, Wk.refl _, .inr rfl, ⟨[], by kernel_rfl, trivial, [.v (.bool false)], by kernel_rfl, by kernel_rfl⟩⟩
  · replace h := cd_f b2 h
    refine AX.condF ((!x5)) (by kernel_rfl) b2 ?_
    refine AX.skip ?_
    refine AX.seq ?_
    refine AX.seq ?_
    refine AX.reg (its := []) [15] [] (s1 := ⟨[(15, .v (.bool (!decide (p2 = p4))))], []⟩) (C := True) (by kernel_rfl) trivial trivial ?_
    rcases bool_cases ((!decide (p2 = p4))) with b3 | b3
    · replace h := cd_t b3 h
      refine AX.condT ((!decide (p2 = p4))) (by kernel_rfl) b3 ?_
      refine AX.seq ?_
      refine AX.reg (its := []) [4] [] (s1 := ⟨[(4, .v (.bool false))], []⟩) (C := True) (by kernel_rfl) trivial trivial ?_
      refine AX.ret ?_
      refine fin_wk (Wk.forget [4] [] (s' := ⟨[(4, .v (.bool false))], []⟩) (by kernel_rfl)) ?_
      have hr := Option.some.inj h
      subst hr
      exact ⟨_, Wk.refl _, .inr rfl, ⟨[], by kernel_rfl, trivial, [.v (.bool false)], by kernel_rfl, by kernel_rfl⟩⟩
    · replace h := cd_f b3 h
      refine AX.condF ((!decide (p2 = p4))) (by kernel_rfl) b3 ?_
      refine AX.skip ?_
      refine AX.seq ?_
      refine AX.reg (its := []) [4] [] (s1 := ⟨[(4, .v (.bool true))], []⟩) (C := True) (by kernel_rfl) trivial trivial ?_
      refine AX.ret ?_
      refine fin_wk (Wk.forget [4] [] (s' := ⟨[(4, .v (.bool true))], []⟩) (by kernel_rfl)) ?_
      have hr := Option.some.inj h
      subst hr
      exact ⟨_, Wk.refl _, .inr rfl, ⟨[], by kernel_rfl, trivial, [.v (.bool true)], by kernel_rfl, by kernel_rfl⟩⟩

theorem s_laws_FnExactParseArm (p1 : List (ByteArray × Int)) (p2 : Int) (p3 : ByteArray) (r : Bool) (h : m_laws_FnExactParseArm p1 p2 p3 = some r) :
    Eng.Spec Tryd.prog 5 [.agg [.bs true 2 (List.map enc_si p1), .v (.int .i64 p2)], .v (.string p3)] [] (.v (.bool r)) [] := by
  unfold m_laws_FnExactParseArm at h
  refine Eng.Spec.body Tryd.func5 (by kernel_rfl) rfl (by kernel_rfl) ?_
  refine AX.wkpost ?_
  refine AX.seq ?_
  refine AX.reg (its := [.auto { nk := 0 }]) [1, 2] [0] (s1 := ⟨[(1, .v (.string p3)), (2, .pt 0 0)], [(0, .box [.bs true 2 (List.map enc_si p1), .v (.int .i64 p2)])]⟩) (C := True) (by kernel_rfl) trivial trivial ?_
  refine AX.seq ?_
  refine AX.seq ?_
  refine AX.reg (its := []) [1, 2, 13] [0] (s1 := ⟨[(1, .v (.string p3)), (2, .pt 0 0), (13, .v (.bool (decide (1048576 < (p3.size : Int)))))], [(0, .box [.bs true 2 (List.map enc_si p1), .v (.int .i64 p2)])]⟩) (C := True) (by kernel_rfl) trivial trivial ?_
  rcases bool_cases (decide (1048576 < (p3.size : Int))) with b1 | b1
  · replace h := cd_t b1 h
    refine AX.condT (decide (1048576 < (p3.size : Int))) (by kernel_rfl) b1 ?_
    refine AX.seq ?_
    refine AX.reg (its := []) [4] [] (s1 := ⟨[(4, .v (.bool true))], []⟩) (C := True) (by kernel_rfl) trivial trivial ?_
    refine AX.ret ?_
    refine fin_wk (Wk.forget [4] [] (s' := ⟨[(4, .v (.bool true))], []⟩) (by kernel_rfl)) ?_
    have hr := Option.some.inj h
    subst hr
    exact ⟨_, Wk.refl _, .inr rfl, ⟨[], by kernel_rfl, trivial, [.v (.bool true)], by kernel_rfl, by kernel_rfl⟩⟩
  · replace h := cd_f b1 h
    refine AX.condF (decide (1048576 < (p3.size : Int))) (by kernel_rfl) b1 ?_
    refine AX.skip ?_
    refine AX.seq ?_
    refine AX.reg (its := []) [1, 2, 5] [0] (s1 := ⟨[(1, .v (.string p3)), (2, .pt 0 0), (5, .v (.int .i64 1048576))], [(0, .box [.bs true 2 (List.map enc_si p1), .v (.int .i64 p2)])]⟩) (C := True) (by kernel_rfl) trivial trivial ?_
    refine AX.seq ?_
    obtain ⟨x4, e2, h⟩ := bd_e h
    refine AX.reg (its := [.auto {}, .auto {}, .call 10 [.agg [.bs true 2 (List.map enc_si p1), .v (.int .i64 p2)], .v (.int .i64 1048576)] (handO (rho ([] ++ [])) [] [] ++ []) (callEv [] [] (.v (.int .i64 x4)) [])]) [1, 2, 5] [0] (s1 := ⟨[(1, .v (.string p3)), (2, .pt 0 0), (5, .v (.int .i64 x4))], [(0, .box [.bs true 2 (List.map enc_si p1), .v (.int .i64 p2)])]⟩) (C := ((([.agg [.bs true 2 (List.map enc_si p1), .v (.int .i64 p2)], .v (.int .i64 1048576)] : List AV) = [.agg [.bs true 2 (List.map enc_si p1), .v (.int .i64 p2)], .v (.int .i64 1048576)]) ∧ True) ∧ True) (by kernel_rfl) ⟨⟨rfl, trivial⟩, trivial⟩ ⟨call_ok (ks := []) (ns := []) (bor := []) (bobjs := []) (s_laws_szFlag p1 p2 1048576 x4 e2) (.cons (.c1 (.agg (.cons (.same _ (by kernel_rfl) (by kernel_rfl)) (.cons (.same _ (by kernel_rfl) (by kernel_rfl)) (.nil))))) (.cons (.c1 (.c0 (.same _ (by kernel_rfl) (by kernel_rfl)))) (.nil))) (by kernel_rfl) trivial, trivial⟩ ?_
    refine AX.seq ?_
    refine AX.seq ?_
    refine AX.reg (its := []) [1, 2, 18] [0] (s1 := ⟨[(1, .v (.string p3)), (2, .pt 0 0), (18, .v (.bool (decide (x4 < 0))))], [(0, .box [.bs true 2 (List.map enc_si p1), .v (.int .i64 p2)])]⟩) (C := True) (by kernel_rfl) trivial trivial ?_
    rcases bool_cases (decide (x4 < 0)) with b3 | b3
    · replace h := cd_t b3 h
      refine AX.condT (decide (x4 < 0)) (by kernel_rfl) b3 ?_
      refine AX.seq ?_
      refine AX.reg (its := []) [4] [] (s1 := ⟨[(4, .v (.bool true))], []⟩) (C := True) (by kernel_rfl) trivial trivial ?_
      refine AX.ret ?_
      refine fin_wk (Wk.forget [4] [] (s' := ⟨[(4, .v (.bool true))], []⟩) (by kernel_rfl)) ?_
      have hr := Option.some.inj h
      subst hr
      exact ⟨_, Wk.refl _, .inr rfl, ⟨[], by kernel_rfl, trivial, [.v (.bool true)], by kernel_rfl, by kernel_rfl⟩⟩
    · replace h := cd_f b3 h
      refine AX.condF (decide (x4 < 0)) (by kernel_rfl) b3 ?_
      refine AX.skip ?_
      refine AX.seq ?_
      obtain ⟨x5, e4, h⟩ := bd_e h
      obtain ⟨x6, e5, h⟩ := bd_e h
      refine AX.reg (its := [.auto {}, .call 12 [.agg [.bs true 2 (List.map enc_si p1), .v (.int .i64 p2)]] (handO (rho ([] ++ [1])) [] [] ++ []) (callEv [] [1] (.agg [.sl 0 0 x5.length, .v (.int .i64 p2)]) [.arr 2 (List.map enc_si x5)]), .auto {}, .call 20 [.agg [.sl 1 0 x5.length, .v (.int .i64 p2)], .v (.string p3)] (handO (rho ([] ++ [])) [] [] ++ [(1, .arr 2 (List.map enc_si x5))]) (callEv [] [] (.tup [.agg [.v (.int .i64 x6.1), .v (.int .i64 x6.2.1)], .v (.bool x6.2.2)]) []), .auto {}, .auto {}, .auto {}, .auto { nk := 2 }]) [1, 2, 6, 7] [0, 2] (s1 := ⟨[(1, .v (.string p3)), (2, .pt 0 0), (6, .pt 2 0), (7, .v (.bool x6.2.2))], [(0, .box [.bs true 2 (List.map enc_si p1), .v (.int .i64 p2)]), (2, .box [.v (.int .i64 x6.1), .v (.int .i64 x6.2.1)])]⟩) (C := ((([.agg [.bs true 2 (List.map enc_si p1), .v (.int .i64 p2)]] : List AV) = [.agg [.bs true 2 (List.map enc_si p1), .v (.int .i64 p2)]]) ∧ True) ∧ ((([.agg [.sl 1 0 x5.length, .v (.int .i64 p2)], .v (.string p3)] : List AV) = [.agg [.sl 1 0 x5.length, .v (.int .i64 p2)], .v (.string p3)]) ∧ (AO.arr 2 (List.map enc_si x5) = AO.arr 2 (List.map enc_si x5)) ∧ True) ∧ True) (by kernel_rfl) ⟨⟨rfl, trivial⟩, ⟨⟨rfl, rfl, trivial⟩, trivial⟩⟩ ⟨call_ok (ks := []) (ns := [1]) (bor := []) (bobjs := []) (s_laws_toFlag p1 p2 x5 e4) (.cons (.c1 (.agg (.cons (.same _ (by kernel_rfl) (by kernel_rfl)) (.cons (.same _ (by kernel_rfl) (by kernel_rfl)) (.nil))))) (.nil)) (by kernel_rfl) trivial, ⟨call_ok (ks := []) (ns := []) (bor := [1]) (bobjs := [(1, .arr 2 (List.map enc_si x5))]) (s_spec_ParseArm x5 p2 p3 x6 e5) (.cons (.c1 (.agg (.cons (.arr rfl rfl ((rfl).trans (List.length_map ..).symm)) (.cons (.same _ (by kernel_rfl) (by kernel_rfl)) (.nil))))) (.cons (.c1 (.c0 (.same _ (by kernel_rfl) (by kernel_rfl)))) (.nil))) (by kernel_rfl) trivial, trivial⟩⟩ ?_
      refine AX.seq ?_
      obtain ⟨x7, e6, h⟩ := bd_e h
      refine AX.reg (its := [.auto {}, .call 12 [.agg [.bs true 2 (List.map enc_si p1), .v (.int .i64 p2)]] (handO (rho ([] ++ [3])) [] [] ++ []) (callEv [] [3] (.agg [.sl 0 0 x7.length, .v (.int .i64 p2)]) [.arr 2 (List.map enc_si x7)]), .auto { nk := 4 }]) [1, 2, 6, 7, 8] [0, 2, 3, 4] (s1 := ⟨[(1, .v (.string p3)), (2, .pt 0 0), (6, .pt 2 0), (7, .v (.bool x6.2.2)), (8, .pt 4 0)], [(0, .box [.bs true 2 (List.map enc_si p1), .v (.int .i64 p2)]), (2, .box [.v (.int .i64 x6.1), .v (.int .i64 x6.2.1)]), (3, .arr 2 (List.map enc_si x7)), (4, .box [.sl 3 0 x7.length, .v (.int .i64 p2)])]⟩) (C := ((([.agg [.bs true 2 (List.map enc_si p1), .v (.int .i64 p2)]] : List AV) = [.agg [.bs true 2 (List.map enc_si p1), .v (.int .i64 p2)]]) ∧ True) ∧ True) (by kernel_rfl) ⟨⟨rfl, trivial⟩, trivial⟩ ⟨call_ok (ks := []) (ns := [3]) (bor := []) (bobjs := []) (s_laws_toFlag p1 p2 x7 e6) (.cons (.c1 (.agg (.cons (.same _ (by kernel_rfl) (by kernel_rfl)) (.cons (.same _ (by kernel_rfl) (by kernel_rfl)) (.nil))))) (.nil)) (by kernel_rfl) trivial, trivial⟩ ?_
      refine AX.seq ?_
      obtain ⟨x8, e7, h⟩ := bd_e h
      refine AX.reg (its := [.auto {}, .auto {}, .call 21 [.agg [.sl 3 0 x7.length, .v (.int .i64 p2)], .v (.string p3)] (handO (rho ([] ++ [])) [] [] ++ [(3, .arr 2 (List.map enc_si x7))]) (callEv [] [] (.tup [.agg [.v (.int .i64 x8.1), .v (.int .i64 x8.2.1)], .v (.bool x8.2.2)]) []), .auto {}, .auto {}, .auto {}, .auto { nk := 5 }]) [2, 6, 7, 8, 9, 10] [0, 2, 3, 4, 5] (s1 := ⟨[(2, .pt 0 0), (6, .pt 2 0), (7, .v (.bool x6.2.2)), (8, .pt 4 0), (9, .pt 5 0), (10, .v (.bool x8.2.2))], [(0, .box [.bs true 2 (List.map enc_si p1), .v (.int .i64 p2)]), (2, .box [.v (.int .i64 x6.1), .v (.int .i64 x6.2.1)]), (3, .arr 2 (List.map enc_si x7)), (4, .box [.sl 3 0 x7.length, .v (.int .i64 p2)]), (5, .box [.v (.int .i64 x8.1), .v (.int .i64 x8.2.1)])]⟩) (C := ((([.agg [.sl 3 0 x7.length, .v (.int .i64 p2)], .v (.string p3)] : List AV) = [.agg [.sl 3 0 x7.length, .v (.int .i64 p2)], .v (.string p3)]) ∧ (AO.arr 2 (List.map enc_si x7) = AO.arr 2 (List.map enc_si x7)) ∧ True) ∧ True) (by kernel_rfl) ⟨⟨rfl, rfl, trivial⟩, trivial⟩ ⟨call_ok (ks := []) (ns := []) (bor := [3]) (bobjs := [(3, .arr 2 (List.map enc_si x7))]) (s_impl_ParseArm x7 p2 p3 x8 e7) (.cons (.c1 (.agg (.cons (.arr rfl rfl ((rfl).trans (List.length_map ..).symm)) (.cons (.same _ (by kernel_rfl) (by kernel_rfl)) (.nil))))) (.cons (.c1 (.c0 (.same _ (by kernel_rfl) (by kernel_rfl)))) (.nil))) (by kernel_rfl) trivial, trivial⟩ ?_
      refine AX.seq ?_
      refine AX.seq ?_
      obtain ⟨x9, e8, h⟩ := bd_e h
      rcases bool_cases ((!x9)) with b9 | b9
      · replace h := cd_t b9 h
        refine AX.reg (its := [.auto {}, .auto {}, .call 22 [.agg [.v (.int .i64 x8.1), .v (.int .i64 x8.2.1)], .agg [.v (.int .i64 x6.1), .v (.int .i64 x6.2.1)]] (handO (rho ([] ++ [])) [] [] ++ []) (callEv [] [] (.v (.bool x9)) []), .auto { y := some (.v (.bool true)) }]) [2, 8, 42] [0, 3, 4] (s1 := ⟨[(2, .pt 0 0), (8, .pt 4 0), (42, .v (.bool true))], [(0, .box [.bs true 2 (List.map enc_si p1), .v (.int .i64 p2)]), (3, .arr 2 (List.map enc_si x7)), (4, .box [.sl 3 0 x7.length, .v (.int .i64 p2)])]⟩) (C := ((([.agg [.v (.int .i64 x8.1), .v (.int .i64 x8.2.1)], .agg [.v (.int .i64 x6.1), .v (.int .i64 x6.2.1)]] : List AV) = [.agg [.v (.int .i64 x8.1), .v (.int .i64 x8.2.1)], .agg [.v (.int .i64 x6.1), .v (.int .i64 x6.2.1)]]) ∧ True) ∧ ((True) ∧ ((.v (.bool (!x9)) : AV) = (.v (.bool true) : AV))) ∧ True) (by kernel_rfl) ⟨⟨rfl, trivial⟩, ⟨⟨trivial, (congrArg (fun z => AV.v (.bool z)) b9)⟩, trivial⟩⟩ ⟨call_ok (ks := []) (ns := []) (bor := []) (bobjs := []) (s_laws_eqArm x8.1 x8.2.1 x6.1 x6.2.1 x9 e8) (.cons (.c1 (.agg (.cons (.same _ (by kernel_rfl) (by kernel_rfl)) (.cons (.same _ (by kernel_rfl) (by kernel_rfl)) (.nil))))) (.cons (.c1 (.agg (.cons (.same _ (by kernel_rfl) (by kernel_rfl)) (.cons (.same _ (by kernel_rfl) (by kernel_rfl)) (.nil))))) (.nil))) (by kernel_rfl) trivial, trivial⟩ ?_
        refine AX.cond_true (by kernel_rfl) ?_
        refine AX.seq ?_
        refine AX.reg (its := []) [4] [] (s1 := ⟨[(4, .v (.bool false))], []⟩) (C := True) (by kernel_rfl) trivial trivial ?_
        refine AX.ret ?_
        refine fin_wk (Wk.forget [4] [] (s' := ⟨[(4, .v (.bool false))], []⟩) (by kernel_rfl)) ?_
        have hr := Option.some.inj h
        subst hr
        exact ⟨_, Wk.refl _, .inr rfl, ⟨[], by kernel_rfl, trivial, [.v (.bool false)], by kernel_rfl, by kernel_rfl⟩⟩
      · replace h := cd_f b9 h
        refine AX.reg (its := [.auto {}, .auto {}, .call 22 [.agg [.v (.int .i64 x8.1), .v (.int .i64 x8.2.1)], .agg [.v (.int .i64 x6.1), .v (.int .i64 x6.2.1)]] (handO (rho ([] ++ [])) [] [] ++ []) (callEv [] [] (.v (.bool x9)) []), .auto { y := some (.v (.bool false)) }]) [2, 8, 42] [0, 3, 4] (s1 := ⟨[(2, .pt 0 0), (8, .pt 4 0), (42, .v (.bool (!(x8.2.2 == x6.2.2))))], [(0, .box [.bs true 2 (List.map enc_si p1), .v (.int .i64 p2)]), (3, .arr 2 (List.map enc_si x7)), (4, .box [.sl 3 0 x7.length, .v (.int .i64 p2)])]⟩) (C := ((([.agg [.v (.int .i64 x8.1), .v (.int .i64 x8.2.1)], .agg [.v (.int .i64 x6.1), .v (.int .i64 x6.2.1)]] : List AV) = [.agg [.v (.int .i64 x8.1), .v (.int .i64 x8.2.1)], .agg [.v (.int .i64 x6.1), .v (.int .i64 x6.2.1)]]) ∧ True) ∧ ((True) ∧ ((.v (.bool (!x9)) : AV) = (.v (.bool false) : AV))) ∧ True) (by kernel_rfl) ⟨⟨rfl, trivial⟩, ⟨⟨trivial, (congrArg (fun z => AV.v (.bool z)) b9)⟩, trivial⟩⟩ ⟨call_ok (ks := []) (ns := []) (bor := []) (bobjs := []) (s_laws_eqArm x8.1 x8.2.1 x6.1 x6.2.1 x9 e8) (.cons (.c1 (.agg (.cons (.same _ (by kernel_rfl) (by kernel_rfl)) (.cons (.same _ (by kernel_rfl) (by kernel_rfl)) (.nil))))) (.cons (.c1 (.agg (.cons (.same _ (by kernel_rfl) (by kernel_rfl)) (.cons (.same _ (by kernel_rfl) (by kernel_rfl)) (.nil))))) (.nil))) (by kernel_rfl) trivial, trivial⟩ ?_
        rcases bool_cases ((!(x8.2.2 == x6.2.2))) with b10 | b10
        · replace h := cd_t b10 h
          refine AX.condT ((!(x8.2.2 == x6.2.2))) (by kernel_rfl) b10 ?_
          refine AX.seq ?_
          refine AX.reg (its := []) [4] [] (s1 := ⟨[(4, .v (.bool false))], []⟩) (C := True) (by kernel_rfl) trivial trivial ?_
          refine AX.ret ?_
          refine fin_wk (Wk.forget [4] [] (s' := ⟨[(4, .v (.bool false))], []⟩) (by kernel_rfl)) ?_
          have hr := Option.some.inj h
          subst hr
          exact ⟨_, Wk.refl _, .inr rfl, ⟨[], by kernel_rfl, trivial, [.v (.bool false)], by kernel_rfl, by kernel_rfl⟩⟩
        · replace h := cd_f b10 h
          refine AX.condF ((!(x8.2.2 == x6.2.2))) (by kernel_rfl) b10 ?_
          refine AX.skip ?_
          refine AX.seq ?_
          refine AX.seq ?_
          obtain ⟨x10, e11, h⟩ := bd_e h
          obtain ⟨x11, e12, h⟩ := bd_e h
          refine AX.drw mixed (its := [.auto {}, .auto {}, .call 12 [.agg [.bs true 2 (List.map enc_si p1), .v (.int .i64 p2)]] (handO (rho ([] ++ [5])) [] [] ++ []) (callEv [] [5] (.agg [.sl 0 0 x10.length, .v (.int .i64 p2)]) [.arr 2 (List.map enc_si x10)]), .call 14 [.agg [.sl 3 0 x7.length, .v (.int .i64 p2)], .agg [.sl 5 0 x10.length, .v (.int .i64 p2)]] (handO (rho ([] ++ [])) [] [] ++ [(3, .arr 2 (List.map enc_si x7)), (5, .arr 2 (List.map enc_si x10))]) (callEv [] [] (.v (.bool x11)) [])]) [47] [] (s1 := ⟨[(47, .v (.bool (!x11)))], []⟩) (C := ((([.agg [.bs true 2 (List.map enc_si p1), .v (.int .i64 p2)]] : List AV) = [.agg [.bs true 2 (List.map enc_si p1), .v (.int .i64 p2)]]) ∧ True) ∧ ((([.agg [.sl 3 0 x7.length, .v (.int .i64 p2)], .agg [.sl 5 0 x10.length, .v (.int .i64 p2)]] : List AV) = [.agg [.sl 3 0 x7.length, .v (.int .i64 p2)], .agg [.sl 5 0 x10.length, .v (.int .i64 p2)]]) ∧ (AO.arr 2 (List.map enc_si x7) = AO.arr 2 (List.map enc_si x7)) ∧ (AO.arr 2 (List.map enc_si x10) = AO.arr 2 (List.map enc_si x10)) ∧ True) ∧ True) (by kernel_rfl) ⟨⟨rfl, trivial⟩, ⟨⟨rfl, rfl, rfl, trivial⟩, trivial⟩⟩ ⟨call_ok (ks := []) (ns := [5]) (bor := []) (bobjs := []) (s_laws_toFlag p1 p2 x10 e11) (.cons (.c1 (.agg (.cons (.same _ (by kernel_rfl) (by kernel_rfl)) (.cons (.same _ (by kernel_rfl) (by kernel_rfl)) (.nil))))) (.nil)) (by kernel_rfl) trivial, ⟨call_ok (ks := []) (ns := []) (bor := [3, 5]) (bobjs := [(3, .arr 2 (List.map enc_si x7)), (5, .arr 2 (List.map enc_si x10))]) (s_laws_eqFlag x7 p2 x10 p2 x11 e12) (.cons (.c1 (.agg (.cons (.arr rfl rfl ((rfl).trans (List.length_map ..).symm)) (.cons (.same _ (by kernel_rfl) (by kernel_rfl)) (.nil))))) (.cons (.c1 (.agg (.cons (.arr rfl rfl ((rfl).trans (List.length_map ..).symm)) (.cons (.same _ (by kernel_rfl) (by kernel_rfl)) (.nil))))) (.nil))) (by kernel_rfl) trivial, trivial⟩⟩ ?_
          rcases bool_cases ((!x11)) with b13 | b13
          · replace h := cd_t b13 h
            refine AX.condT ((!x11)) (by kernel_rfl) b13 ?_
            refine AX.seq ?_
            refine AX.reg (its := []) [4] [] (s1 := ⟨[(4, .v (.bool false))], []⟩) (C := True) (by kernel_rfl) trivial trivial ?_
            refine AX.ret ?_
            refine fin_wk (Wk.forget [4] [] (s' := ⟨[(4, .v (.bool false))], []⟩) (by kernel_rfl)) ?_
            have hr := Option.some.inj h
            subst hr
            exact ⟨_, Wk.refl _, .inr rfl, ⟨[], by kernel_rfl, trivial, [.v (.bool false)], by kernel_rfl, by kernel_rfl⟩⟩
          · replace h := cd_f b13 h
            refine AX.condF ((!x11)) (by kernel_rfl) b13 ?_
            refine AX.skip ?_
            refine AX.seq ?_
            refine AX.reg (its := []) [4] [] (s1 := ⟨[(4, .v (.bool true))], []⟩) (C := True) (by kernel_rfl) trivial trivial ?_
            refine AX.ret ?_
            refine fin_wk (Wk.forget [4] [] (s' := ⟨[(4, .v (.bool true))], []⟩) (by kernel_rfl)) ?_
            have hr := Option.some.inj h
            subst hr
            exact ⟨_, Wk.refl _, .inr rfl, ⟨[], by kernel_rfl, trivial, [.v (.bool true)], by kernel_rfl, by kernel_rfl⟩⟩

end Go.Eng
