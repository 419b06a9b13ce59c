/- What is proved here: each function keeps to its model, whatever its arguments, wherever the model has an answer. Printed by gen.py. -/
import Derived.Test.YtofdanhfalkjkaaGreatDoorCParseArmWalk2
import Derived.Test.YtofdanhfalkjkaaGreatDoorProg
import Derived.Test.YtofdanhfalkjkaaGreatDoorCParseArmShelf
import Derived.KernelRfl
set_option linter.unusedVariables false
set_option linter.unusedSimpArgs false
set_option linter.unnecessarySimpa false
namespace Go.Eng
open Go Go.Proofs


theorem s_slices_insertionSortCmpFunc_h_Flag_singles_1_si (p1 : Int) (p2 : Int) (p3 : List (ByteArray × Int)) (r : List (ByteArray × Int)) (h : m_slices_insertionSortCmpFunc_h_Flag_singles_1_si p1 p2 p3 = some r) :
    Eng.Spec Tryz.prog 137 [.sl 0 0 p3.length, .v (.int .i64 p1), .v (.int .i64 p2), .fn 78 []] [.arr 2 (List.map enc_si p3)] (.tup []) [.arr 2 (List.map enc_si r)] := by
  unfold m_slices_insertionSortCmpFunc_h_Flag_singles_1_si at h
  refine Eng.Spec.body Tryz.func137 (by kernel_rfl) rfl (by kernel_rfl) ?_
  refine AX.wkpost ?_
  refine AX.seq ?_
  refine AX.reg (its := [.auto {}, .auto { raw := true }]) [0, 1, 2, 3, 8] [0] (s1 := ⟨[(0, .sl 0 0 p3.length), (1, .v (.int .i64 p1)), (2, .v (.int .i64 p2)), (3, .fn 78 []), (8, .v (.int .i64 (IntKind.wrap .i64 (p1 + 1))))], [(0, .arr 2 (List.map enc_si p3))]⟩) (C := True) (by kernel_rfl) trivial trivial ?_
  refine AX.block ?_
  obtain ⟨x10, e8, h⟩ := bd_e h
  refine AX.wk (Wk.forget [0, 1, 2, 3, 8] [0] (s' := ⟨[(0, .sl 0 0 p3.length), (1, .v (.int .i64 p1)), (2, .v (.int .i64 p2)), (3, .fn 78 []), (8, .v (.int .i64 (IntKind.wrap .i64 (p1 + 1))))], [(0, .arr 2 (List.map enc_si p3))]⟩) (by kernel_rfl)) ?_
  refine AX.mono (s_slices_insertionSortCmpFunc_h_Flag_singles_1_si_L1 p1 p2 FU (IntKind.wrap .i64 (p1 + 1), p3) x10 e8) ?_
  rintro _ _ ⟨rfl, rfl⟩
  skip
  refine fin_wk (Wk.forget [] [0] (s' := ⟨[], [(0, .arr 2 (List.map enc_si x10))]⟩) (by kernel_rfl)) ?_
  have hr := Option.some.inj h
  subst hr
  exact ⟨_, Wk.refl _, .inl rfl, ⟨[], by kernel_rfl, ⟨rfl, trivial⟩, [], by kernel_rfl, by kernel_rfl⟩⟩

theorem s_slices_pdqsortCmpFunc_h_Flag_singles_1_si_L1 (p1 : Int) (p2 : Int) (p3 : Int) (p4 : List (ByteArray × Int)) (n : Nat) (g : Unit) (out : List (ByteArray × Int)) (h : m_slices_pdqsortCmpFunc_h_Flag_singles_1_si_L1 p1 p2 p3 p4 n = some out) :
    AX Tryz.prog 148 1 (codeAt [1, 1, 1] (bodyOf Tryz.f116)) ((fun g : Unit => (⟨[(0, .sl 0 0 p4.length), (1, .v (.int .i64 p1)), (2, .v (.int .i64 p2)), (3, .v (.int .i64 p3)), (4, .fn 78 []), (10, .v (.bool true)), (11, .v (.bool true))], [(0, .arr 2 (List.map enc_si p4))]⟩ : S)) g) (fun ex s => ex = .ret ∧ s = (fun o : List (ByteArray × Int) => (⟨[], [(0, .arr 2 (List.map enc_si o))]⟩ : S)) out) := by
  refine AX.wkpost ?_
  refine AX.loop (G := Nat × (Unit)) (fun q => (fun g : Unit => (⟨[(0, .sl 0 0 p4.length), (1, .v (.int .i64 p1)), (2, .v (.int .i64 p2)), (3, .v (.int .i64 p3)), (4, .fn 78 []), (10, .v (.bool true)), (11, .v (.bool true))], [(0, .arr 2 (List.map enc_si p4))]⟩ : S)) q.2) (fun q => m_slices_pdqsortCmpFunc_h_Flag_singles_1_si_L1 p1 p2 p3 p4 q.1 = some out) (fun q => q.1) (n, g) h (Wk.refl _) ?_
  clear h
  rintro ⟨fu, _⟩ h
  cases fu with
  | zero => cases h
  | succ fu =>
    rw [m_slices_pdqsortCmpFunc_h_Flag_singles_1_si_L1] at h
    refine AX.block ?_
    refine AX.seq ?_
    refine AX.reg (its := [.auto {}, .auto {}, .auto { raw := true }]) [0, 1, 2, 3, 4, 10, 11, 12] [0] (s1 := ⟨[(0, .sl 0 0 p4.length), (1, .v (.int .i64 p1)), (2, .v (.int .i64 p2)), (3, .v (.int .i64 p3)), (4, .fn 78 []), (10, .v (.bool true)), (11, .v (.bool true)), (12, .v (.int .i64 (IntKind.wrap .i64 (p2 - p1))))], [(0, .arr 2 (List.map enc_si p4))]⟩) (C := True) (by kernel_rfl) trivial trivial ?_
    refine AX.seq ?_
    refine AX.seq ?_
    refine AX.reg (its := []) [0, 1, 2, 3, 4, 10, 11, 12, 25] [0] (s1 := ⟨[(0, .sl 0 0 p4.length), (1, .v (.int .i64 p1)), (2, .v (.int .i64 p2)), (3, .v (.int .i64 p3)), (4, .fn 78 []), (10, .v (.bool true)), (11, .v (.bool true)), (12, .v (.int .i64 (IntKind.wrap .i64 (p2 - p1)))), (25, .v (.bool (decide ((IntKind.wrap .i64 (p2 - p1)) ≤ 12))))], [(0, .arr 2 (List.map enc_si p4))]⟩) (C := True) (by kernel_rfl) trivial trivial ?_
    rcases bool_cases (decide ((IntKind.wrap .i64 (p2 - p1)) ≤ 12)) with b1 | b1
    · replace h := cd_t b1 h
      refine AX.condT (decide ((IntKind.wrap .i64 (p2 - p1)) ≤ 12)) (by kernel_rfl) b1 ?_
      refine AX.seq ?_
      obtain ⟨x5, e2, h⟩ := bd_e h
      obtain ⟨g3, h⟩ := gd_e h
      refine AX.reg (its := [.auto {}, .auto {}, .auto {}, .auto {}, .call 137 [.sl 0 0 p4.length, .v (.int .i64 p1), .v (.int .i64 p2), .fn 78 []] (handO (rho ([0] ++ [])) [0] [.arr 2 (List.map enc_si p4)] ++ []) (callEv [0] [] (.tup []) [.arr 2 (List.map enc_si x5)])]) [] [0] (s1 := ⟨[], [(0, .arr 2 (List.map enc_si x5))]⟩) (C := ((([.sl 0 0 p4.length, .v (.int .i64 p1), .v (.int .i64 p2), .fn 78 []] : List AV) = [.sl 0 0 p4.length, .v (.int .i64 p1), .v (.int .i64 p2), .fn 78 []]) ∧ (AO.arr 2 (List.map enc_si p4) = AO.arr 2 (List.map enc_si p4)) ∧ True) ∧ True) (by kernel_rfl) ⟨⟨rfl, rfl, trivial⟩, trivial⟩ ⟨call_ok (ks := [0]) (ns := []) (bor := []) (bobjs := []) (s_slices_insertionSortCmpFunc_h_Flag_singles_1_si p1 p2 p4 x5 e2) (.cons (.c1 (.c0 (.same _ (by kernel_rfl) (by kernel_rfl)))) (.cons (.c1 (.c0 (.same _ (by kernel_rfl) (by kernel_rfl)))) (.cons (.c1 (.c0 (.same _ (by kernel_rfl) (by kernel_rfl)))) (.cons (.fn (.nil)) (.nil))))) (by kernel_rfl) ⟨.inr (arr_sh (enc := enc_si) g3), trivial⟩, trivial⟩ ?_
      refine AX.ret ?_
      refine fin_wk (Wk.forget [] [0] (s' := ⟨[], [(0, .arr 2 (List.map enc_si x5))]⟩) (by kernel_rfl)) ?_
      refine fin_wk (Wk.of_eq (congrArg (fun z => (⟨[], [(0, .arr 2 (List.map enc_si x5))]⟩ : S)) (((rfl : p4.length = p4.length)).trans (g3).symm))) ?_
      have hr := Option.some.inj h
      subst hr
      exact ⟨_, Wk.refl _, ⟨rfl, rfl⟩⟩
    · replace h := cd_f b1 h
      refine AX.condF (decide ((IntKind.wrap .i64 (p2 - p1)) ≤ 12)) (by kernel_rfl) b1 ?_
      refine AX.skip ?_
      refine AX.seq ?_
      refine AX.seq ?_
      refine AX.reg (its := []) [0, 1, 2, 3, 4, 10, 11, 12, 32] [0] (s1 := ⟨[(0, .sl 0 0 p4.length), (1, .v (.int .i64 p1)), (2, .v (.int .i64 p2)), (3, .v (.int .i64 p3)), (4, .fn 78 []), (10, .v (.bool true)), (11, .v (.bool true)), (12, .v (.int .i64 (IntKind.wrap .i64 (p2 - p1)))), (32, .v (.bool (decide (p3 = 0))))], [(0, .arr 2 (List.map enc_si p4))]⟩) (C := True) (by kernel_rfl) trivial trivial ?_
      rcases bool_cases (decide (p3 = 0)) with b4 | b4
      · replace h := cd_t b4 h
        refine AX.condT (decide (p3 = 0)) (by kernel_rfl) b4 ?_
        refine AX.seq ?_
        cases h
      · replace h := cd_f b4 h
        refine AX.condF (decide (p3 = 0)) (by kernel_rfl) b4 ?_
        refine AX.skip ?_
        refine AX.seq ?_
        refine AX.seq ?_
        refine AX.reg (its := []) [0, 1, 2, 3, 4, 10, 11, 12, 39] [0] (s1 := ⟨[(0, .sl 0 0 p4.length), (1, .v (.int .i64 p1)), (2, .v (.int .i64 p2)), (3, .v (.int .i64 p3)), (4, .fn 78 []), (10, .v (.bool true)), (11, .v (.bool true)), (12, .v (.int .i64 (IntKind.wrap .i64 (p2 - p1)))), (39, .v (.bool false))], [(0, .arr 2 (List.map enc_si p4))]⟩) (C := True) (by kernel_rfl) trivial trivial ?_
        refine AX.cond_false (by kernel_rfl) ?_
        refine AX.skip ?_
        refine AX.seq ?_
        cases h

theorem s_slices_pdqsortCmpFunc_h_Flag_singles_1_si (p1 : Int) (p2 : Int) (p3 : Int) (p4 : List (ByteArray × Int)) (r : List (ByteArray × Int)) (h : m_slices_pdqsortCmpFunc_h_Flag_singles_1_si p1 p2 p3 p4 = some r) :
    Eng.Spec Tryz.prog 116 [.sl 0 0 p4.length, .v (.int .i64 p1), .v (.int .i64 p2), .v (.int .i64 p3), .fn 78 []] [.arr 2 (List.map enc_si p4)] (.tup []) [.arr 2 (List.map enc_si r)] := by
  unfold m_slices_pdqsortCmpFunc_h_Flag_singles_1_si at h
  refine Eng.Spec.body Tryz.func116 (by kernel_rfl) rfl (by kernel_rfl) ?_
  refine AX.wkpost ?_
  refine AX.seq ?_
  refine AX.reg (its := []) [0, 1, 2, 3, 4, 10] [0] (s1 := ⟨[(0, .sl 0 0 p4.length), (1, .v (.int .i64 p1)), (2, .v (.int .i64 p2)), (3, .v (.int .i64 p3)), (4, .fn 78 []), (10, .v (.bool true))], [(0, .arr 2 (List.map enc_si p4))]⟩) (C := True) (by kernel_rfl) trivial trivial ?_
  refine AX.seq ?_
  refine AX.reg (its := []) [0, 1, 2, 3, 4, 10, 11] [0] (s1 := ⟨[(0, .sl 0 0 p4.length), (1, .v (.int .i64 p1)), (2, .v (.int .i64 p2)), (3, .v (.int .i64 p3)), (4, .fn 78 []), (10, .v (.bool true)), (11, .v (.bool true))], [(0, .arr 2 (List.map enc_si p4))]⟩) (C := True) (by kernel_rfl) trivial trivial ?_
  refine AX.block ?_
  obtain ⟨x6, e5, h⟩ := bd_e h
  refine AX.wk (Wk.forget [0, 1, 2, 3, 4, 10, 11] [0] (s' := ⟨[(0, .sl 0 0 p4.length), (1, .v (.int .i64 p1)), (2, .v (.int .i64 p2)), (3, .v (.int .i64 p3)), (4, .fn 78 []), (10, .v (.bool true)), (11, .v (.bool true))], [(0, .arr 2 (List.map enc_si p4))]⟩) (by kernel_rfl)) ?_
  refine AX.mono (s_slices_pdqsortCmpFunc_h_Flag_singles_1_si_L1 p1 p2 p3 p4 FU () x6 e5) ?_
  rintro _ _ ⟨rfl, rfl⟩
  skip
  refine fin_wk (Wk.forget [] [0] (s' := ⟨[], [(0, .arr 2 (List.map enc_si x6))]⟩) (by kernel_rfl)) ?_
  have hr := Option.some.inj h
  subst hr
  exact ⟨_, Wk.refl _, .inr rfl, ⟨[], by kernel_rfl, ⟨rfl, trivial⟩, [], by kernel_rfl, by kernel_rfl⟩⟩

theorem s_slices_SortFunc_h_Flag_singles_1_si (p1 : List (ByteArray × Int)) (r : List (ByteArray × Int)) (h : m_slices_SortFunc_h_Flag_singles_1_si p1 = some r) :
    Eng.Spec Tryz.prog 77 [.sl 0 0 p1.length, .fn 78 []] [.arr 2 (List.map enc_si p1)] (.tup []) [.arr 2 (List.map enc_si r)] := by
  unfold m_slices_SortFunc_h_Flag_singles_1_si at h
  refine Eng.Spec.body Tryz.func77 (by kernel_rfl) rfl (by kernel_rfl) ?_
  refine AX.wkpost ?_
  refine AX.seq ?_
  refine AX.reg (its := []) [0, 1, 4] [0] (s1 := ⟨[(0, .sl 0 0 p1.length), (1, .fn 78 []), (4, .v (.int .i64 (p1.length : Int)))], [(0, .arr 2 (List.map enc_si p1))]⟩) (C := True) (by kernel_rfl) trivial trivial ?_
  obtain ⟨x2, e1, h⟩ := bd_e h
  obtain ⟨x3, e2, h⟩ := bd_e h
  obtain ⟨g3, h⟩ := gd_e h
  refine AX.reg (its := [.auto {}, .auto {}, .auto {}, .auto { raw := true }, .call 92 [.v (.int .u64 (IntKind.wrap .u64 ((p1.length : Int))))] (handO (rho ([] ++ [])) [] [] ++ []) (callEv [] [] (.v (.int .i64 x2)) []), .auto {}, .call 116 [.sl 0 0 p1.length, .v (.int .i64 0), .v (.int .i64 (p1.length : Int)), .v (.int .i64 x2), .fn 78 []] (handO (rho ([0] ++ [])) [0] [.arr 2 (List.map enc_si p1)] ++ []) (callEv [0] [] (.tup []) [.arr 2 (List.map enc_si x3)])]) [] [0] (s1 := ⟨[], [(0, .arr 2 (List.map enc_si x3))]⟩) (C := ((([.v (.int .u64 (IntKind.wrap .u64 ((p1.length : Int))))] : List AV) = [.v (.int .u64 (IntKind.wrap .u64 ((p1.length : Int))))]) ∧ True) ∧ ((([.sl 0 0 p1.length, .v (.int .i64 0), .v (.int .i64 (p1.length : Int)), .v (.int .i64 x2), .fn 78 []] : List AV) = [.sl 0 0 p1.length, .v (.int .i64 0), .v (.int .i64 (p1.length : Int)), .v (.int .i64 x2), .fn 78 []]) ∧ (AO.arr 2 (List.map enc_si p1) = AO.arr 2 (List.map enc_si p1)) ∧ True) ∧ True) (by kernel_rfl) ⟨⟨rfl, trivial⟩, ⟨⟨rfl, rfl, trivial⟩, trivial⟩⟩ ⟨call_ok (ks := []) (ns := []) (bor := []) (bobjs := []) (s_math_bits_Len (IntKind.wrap .u64 ((p1.length : Int))) x2 e1) (.cons (.c1 (.c0 (.same _ (by kernel_rfl) (by kernel_rfl)))) (.nil)) (by kernel_rfl) trivial, ⟨call_ok (ks := [0]) (ns := []) (bor := []) (bobjs := []) (s_slices_pdqsortCmpFunc_h_Flag_singles_1_si 0 (p1.length : Int) x2 p1 x3 e2) (.cons (.c1 (.c0 (.same _ (by kernel_rfl) (by kernel_rfl)))) (.cons (.c1 (.c0 (.same _ (by kernel_rfl) (by kernel_rfl)))) (.cons (.c1 (.c0 (.same _ (by kernel_rfl) (by kernel_rfl)))) (.cons (.c1 (.c0 (.same _ (by kernel_rfl) (by kernel_rfl)))) (.cons (.fn (.nil)) (.nil)))))) (by kernel_rfl) ⟨.inr (arr_sh (enc := enc_si) g3), trivial⟩, trivial⟩⟩ ?_
  refine fin_wk (Wk.forget [] [0] (s' := ⟨[], [(0, .arr 2 (List.map enc_si x3))]⟩) (by kernel_rfl)) ?_
  refine fin_wk (Wk.of_eq (congrArg (fun z => (⟨[], [(0, .arr 2 (List.map enc_si x3))]⟩ : S)) (((rfl : p1.length = p1.length)).trans (g3).symm))) ?_
  have hr := Option.some.inj h
  subst hr
  exact ⟨_, Wk.refl _, .inl rfl, ⟨[], by kernel_rfl, ⟨rfl, trivial⟩, [], by kernel_rfl, by kernel_rfl⟩⟩

theorem s_impl_Flag_singles_L1 (p1 : List (ByteArray × Int)) (n : Nat) (g : (List (ByteArray × Int)) × Int) (out : List (ByteArray × Int)) (h : m_impl_Flag_singles_L1 p1 n g.1 g.2 = some out) :
    AX Tryz.prog 31 0 (codeAt [1, 1, 0, 1, 1] (bodyOf Tryz.f37)) ((fun g : (List (ByteArray × Int)) × Int => (⟨[(3, .sl 0 0 g.1.length), (7, .bs false 2 (List.map enc_si p1)), (8, .v (.int .i64 (p1.length : Int))), (9, .v (.int .i64 g.2))], [(0, .arr 2 (List.map enc_si g.1))]⟩ : S)) g) (fun ex s => ex = .exit 0 ∧ s = (fun o : List (ByteArray × Int) => (⟨[(3, .sl 0 0 o.length)], [(0, .arr 2 (List.map enc_si o))]⟩ : S)) out) := by
  refine AX.wkpost ?_
  refine AX.loop (G := Nat × ((List (ByteArray × Int)) × Int)) (fun q => (fun g : (List (ByteArray × Int)) × Int => (⟨[(3, .sl 0 0 g.1.length), (7, .bs false 2 (List.map enc_si p1)), (8, .v (.int .i64 (p1.length : Int))), (9, .v (.int .i64 g.2))], [(0, .arr 2 (List.map enc_si g.1))]⟩ : S)) q.2) (fun q => m_impl_Flag_singles_L1 p1 q.1 q.2.1 q.2.2 = some out) (fun q => q.1) (n, g) h (Wk.refl _) ?_
  clear h
  rintro ⟨fu, v3, v4⟩ h
  cases fu with
  | zero => cases h
  | succ fu =>
    rw [m_impl_Flag_singles_L1] at h
    refine AX.seq ?_
    refine AX.reg (its := []) [3, 7, 8, 9, 10] [0] (s1 := ⟨[(3, .sl 0 0 v3.length), (7, .bs false 2 (List.map enc_si p1)), (8, .v (.int .i64 (p1.length : Int))), (9, .v (.int .i64 v4)), (10, .v (.bool (decide (v4 < (p1.length : Int)))))], [(0, .arr 2 (List.map enc_si v3))]⟩) (C := True) (by kernel_rfl) trivial trivial ?_
    refine AX.seq ?_
    rcases bool_cases (decide (v4 < (p1.length : Int))) with b1 | b1
    · replace h := cd_t b1 h
      refine AX.condT (decide (v4 < (p1.length : Int))) (by kernel_rfl) b1 ?_
      refine AX.skip ?_
      refine AX.seq ?_
      refine AX.block ?_
      refine AX.seq ?_
      obtain ⟨g2, h⟩ := gd_e h
      refine AX.reg (its := [.auto { y := some (.be 2 (enc_si (gt p1 v4)) 0) }, .auto {}, .auto { nk := 1 }]) [3, 5, 7, 8, 9] [0, 1] (s1 := ⟨[(3, .sl 0 0 v3.length), (5, .pt 1 0), (7, .bs false 2 (List.map enc_si p1)), (8, .v (.int .i64 (p1.length : Int))), (9, .v (.int .i64 v4))], [(0, .arr 2 (List.map enc_si v3)), (1, .box [.v (.string ((gt p1 v4).1)), .v (.int .i64 ((gt p1 v4).2))])]⟩) (C := ((0 ≤ v4 ∧ v4 < ((List.map enc_si p1).length : Int)) ∧ (AV.be 2 ((List.map enc_si p1).getD v4.toNat []) 0 = AV.be 2 (enc_si (gt p1 v4)) 0)) ∧ True) (by kernel_rfl) ⟨idx_bs enc_si p1 v4 2 g2, trivial⟩ trivial ?_
      refine AX.seq ?_
      obtain ⟨x5, e3, h⟩ := bd_e h
      rcases bool_cases (x5) with b4 | b4
      · replace h := cd_t b4 h
        obtain ⟨x6, e5, h⟩ := bd_e h
        refine AX.reg (its := [.auto {}, .auto {}, .call 75 [.v (.int .i64 ((gt p1 v4).2))] (handO (rho ([] ++ [])) [] [] ++ []) (callEv [] [] (.v (.bool true)) []), .auto {}, .auto {}, .auto {}, .auto {}, .call 76 [.sl 0 0 v3.length, .v (.int .i64 ((gt p1 v4).2))] (handO (rho ([] ++ [])) [] [] ++ [(0, .arr 2 (List.map enc_si v3))]) (callEv [] [] (.v (.int .i64 x6)) [])]) [3, 5, 7, 8, 9, 22] [0, 1] (s1 := ⟨[(3, .sl 0 0 v3.length), (5, .pt 1 0), (7, .bs false 2 (List.map enc_si p1)), (8, .v (.int .i64 (p1.length : Int))), (9, .v (.int .i64 v4)), (22, .v (.bool (decide (x6 < 0))))], [(0, .arr 2 (List.map enc_si v3)), (1, .box [.v (.string ((gt p1 v4).1)), .v (.int .i64 ((gt p1 v4).2))])]⟩) (C := ((([.v (.int .i64 ((gt p1 v4).2))] : List AV) = [.v (.int .i64 ((gt p1 v4).2))]) ∧ True) ∧ ((([.sl 0 0 v3.length, .v (.int .i64 ((gt p1 v4).2))] : List AV) = [.sl 0 0 v3.length, .v (.int .i64 ((gt p1 v4).2))]) ∧ (AO.arr 2 (List.map enc_si v3) = AO.arr 2 (List.map enc_si v3)) ∧ True) ∧ True) (by kernel_rfl) ⟨⟨rfl, trivial⟩, ⟨⟨rfl, rfl, trivial⟩, trivial⟩⟩ ⟨call_ok (ks := []) (ns := []) (bor := []) (bobjs := []) (show Eng.Spec Tryz.prog 75 [.v (.int .i64 ((gt p1 v4).2))] [] (.v (.bool true)) [] from by have q := s_impl_single ((gt p1 v4).2) x5 e3; rw [b4] at q; exact q) (.cons (.c1 (.c0 (.same _ (by kernel_rfl) (by kernel_rfl)))) (.nil)) (by kernel_rfl) trivial, ⟨call_ok (ks := []) (ns := []) (bor := [0]) (bobjs := [(0, .arr 2 (List.map enc_si v3))]) (s_impl_valued v3 ((gt p1 v4).2) x6 e5) (.cons (.c1 (.c0 (.arr rfl rfl ((rfl).trans (List.length_map ..).symm)))) (.cons (.c1 (.c0 (.same _ (by kernel_rfl) (by kernel_rfl)))) (.nil))) (by kernel_rfl) trivial, trivial⟩⟩ ?_
        rcases bool_cases (decide (x6 < 0)) with b6 | b6
        · replace h := cd_t b6 h
          refine AX.condT (decide (x6 < 0)) (by kernel_rfl) b6 ?_
          obtain ⟨g7, h⟩ := gd_e h
          refine AX.reg (its := [.auto {}, .auto {}, .auto { nk := 2 }, .auto { y := some (.sl 3 0 ((v3 ++ ([((gt p1 v4).1, (gt p1 v4).2)] : List (ByteArray × Int))).length)), els := some (List.map enc_si v3), els2 := some (List.map enc_si ([((gt p1 v4).1, (gt p1 v4).2)] : List (ByteArray × Int))), nk := 3 }]) [3, 7, 8, 9] [3] (s1 := ⟨[(3, .sl 3 0 ((v3 ++ ([((gt p1 v4).1, (gt p1 v4).2)] : List (ByteArray × Int))).length)), (7, .bs false 2 (List.map enc_si p1)), (8, .v (.int .i64 (p1.length : Int))), (9, .v (.int .i64 v4))], [(3, .arr 2 (List.map enc_si v3 ++ List.map enc_si ([((gt p1 v4).1, (gt p1 v4).2)] : List (ByteArray × Int))))]⟩) (C := ((((((List.map enc_si v3).drop 0).take (v3.length) = List.map enc_si v3) ∧ (((List.map enc_si ([((gt p1 v4).1, (gt p1 v4).2)] : List (ByteArray × Int))).drop 0).take (([((gt p1 v4).1, (gt p1 v4).2)] : List (ByteArray × Int)).length) = List.map enc_si ([((gt p1 v4).1, (gt p1 v4).2)] : List (ByteArray × Int)))) ∧ (List.map enc_si v3).length + (List.map enc_si ([((gt p1 v4).1, (gt p1 v4).2)] : List (ByteArray × Int))).length ≤ 1099511627776) ∧ (AV.sl 3 0 (List.map enc_si v3 ++ List.map enc_si ([((gt p1 v4).1, (gt p1 v4).2)] : List (ByteArray × Int))).length = AV.sl 3 0 (v3 ++ ([((gt p1 v4).1, (gt p1 v4).2)] : List (ByteArray × Int))).length)) ∧ True) (by kernel_rfl) ⟨⟨⟨⟨(dt_all (enc := enc_si) rfl rfl), (dt_all (enc := enc_si) rfl rfl)⟩, (by simp only [List.length_map, List.length_nil, List.length_replicate]; simpa using g7)⟩, sl_len (enc := enc_si) (app_can (enc := enc_si) rfl (rfl))⟩, trivial⟩ trivial ?_
          refine AX.reg (its := [.auto { raw := true }]) [3, 7, 8, 9] [3] (s1 := ⟨[(3, .sl 3 0 ((v3 ++ ([((gt p1 v4).1, (gt p1 v4).2)] : List (ByteArray × Int))).length)), (7, .bs false 2 (List.map enc_si p1)), (8, .v (.int .i64 (p1.length : Int))), (9, .v (.int .i64 (IntKind.wrap .i64 (v4 + 1))))], [(3, .arr 2 (List.map enc_si v3 ++ List.map enc_si ([((gt p1 v4).1, (gt p1 v4).2)] : List (ByteArray × Int))))]⟩) (C := True) (by kernel_rfl) trivial trivial ?_
          refine ⟨(fu, (v3 ++ ([((gt p1 v4).1, (gt p1 v4).2)] : List (ByteArray × Int)), IntKind.wrap .i64 (v4 + 1))), h, Nat.lt_succ_self _, ?_⟩
          refine Wk.trans (Wk.swap 0 3 (Nat.le_of_ble_eq_true (by kernel_rfl)) (Nat.le_of_ble_eq_true (by kernel_rfl)) rfl) ?_
          refine Wk.trans (Wk.forget [3, 7, 8, 9] [0] (s' := ⟨[(3, .sl 0 0 ((v3 ++ ([((gt p1 v4).1, (gt p1 v4).2)] : List (ByteArray × Int))).length)), (7, .bs false 2 (List.map enc_si p1)), (8, .v (.int .i64 (p1.length : Int))), (9, .v (.int .i64 (IntKind.wrap .i64 (v4 + 1))))], [(0, .arr 2 (List.map enc_si v3 ++ List.map enc_si ([((gt p1 v4).1, (gt p1 v4).2)] : List (ByteArray × Int))))]⟩) (by kernel_rfl)) ?_
          refine Wk.trans (Wk.of_eq (congrArg (fun z => (⟨[(3, .sl 0 0 ((v3 ++ ([((gt p1 v4).1, (gt p1 v4).2)] : List (ByteArray × Int))).length)), (7, .bs false 2 (List.map enc_si p1)), (8, .v (.int .i64 (p1.length : Int))), (9, .v (.int .i64 (IntKind.wrap .i64 (v4 + 1))))], [(0, .arr 2 (z))]⟩ : S)) (app_can (enc := enc_si) rfl (rfl) : List.map enc_si v3 ++ List.map enc_si ([((gt p1 v4).1, (gt p1 v4).2)] : List (ByteArray × Int)) = List.map enc_si (v3 ++ ([((gt p1 v4).1, (gt p1 v4).2)] : List (ByteArray × Int)))))) ?_
          exact Wk.refl _
        · replace h := cd_f b6 h
          refine AX.condF (decide (x6 < 0)) (by kernel_rfl) b6 ?_
          refine AX.skip ?_
          refine AX.reg (its := [.auto { raw := true }]) [3, 7, 8, 9] [0] (s1 := ⟨[(3, .sl 0 0 v3.length), (7, .bs false 2 (List.map enc_si p1)), (8, .v (.int .i64 (p1.length : Int))), (9, .v (.int .i64 (IntKind.wrap .i64 (v4 + 1))))], [(0, .arr 2 (List.map enc_si v3))]⟩) (C := True) (by kernel_rfl) trivial trivial ?_
          refine ⟨(fu, (v3, IntKind.wrap .i64 (v4 + 1))), h, Nat.lt_succ_self _, ?_⟩
          refine Wk.trans (Wk.forget [3, 7, 8, 9] [0] (s' := ⟨[(3, .sl 0 0 v3.length), (7, .bs false 2 (List.map enc_si p1)), (8, .v (.int .i64 (p1.length : Int))), (9, .v (.int .i64 (IntKind.wrap .i64 (v4 + 1))))], [(0, .arr 2 (List.map enc_si v3))]⟩) (by kernel_rfl)) ?_
          exact Wk.refl _
      · replace h := cd_f b4 h
        refine AX.reg (its := [.auto {}, .auto {}, .call 75 [.v (.int .i64 ((gt p1 v4).2))] (handO (rho ([] ++ [])) [] [] ++ []) (callEv [] [] (.v (.bool false)) [])]) [3, 5, 7, 8, 9, 22] [0, 1] (s1 := ⟨[(3, .sl 0 0 v3.length), (5, .pt 1 0), (7, .bs false 2 (List.map enc_si p1)), (8, .v (.int .i64 (p1.length : Int))), (9, .v (.int .i64 v4)), (22, .v (.bool false))], [(0, .arr 2 (List.map enc_si v3)), (1, .box [.v (.string ((gt p1 v4).1)), .v (.int .i64 ((gt p1 v4).2))])]⟩) (C := ((([.v (.int .i64 ((gt p1 v4).2))] : List AV) = [.v (.int .i64 ((gt p1 v4).2))]) ∧ True) ∧ True) (by kernel_rfl) ⟨⟨rfl, trivial⟩, trivial⟩ ⟨call_ok (ks := []) (ns := []) (bor := []) (bobjs := []) (show Eng.Spec Tryz.prog 75 [.v (.int .i64 ((gt p1 v4).2))] [] (.v (.bool false)) [] from by have q := s_impl_single ((gt p1 v4).2) x5 e3; rw [b4] at q; exact q) (.cons (.c1 (.c0 (.same _ (by kernel_rfl) (by kernel_rfl)))) (.nil)) (by kernel_rfl) trivial, trivial⟩ ?_
        refine AX.cond_false (by kernel_rfl) ?_
        refine AX.skip ?_
        refine AX.reg (its := [.auto { raw := true }]) [3, 7, 8, 9] [0] (s1 := ⟨[(3, .sl 0 0 v3.length), (7, .bs false 2 (List.map enc_si p1)), (8, .v (.int .i64 (p1.length : Int))), (9, .v (.int .i64 (IntKind.wrap .i64 (v4 + 1))))], [(0, .arr 2 (List.map enc_si v3))]⟩) (C := True) (by kernel_rfl) trivial trivial ?_
        refine ⟨(fu, (v3, IntKind.wrap .i64 (v4 + 1))), h, Nat.lt_succ_self _, ?_⟩
        refine Wk.trans (Wk.forget [3, 7, 8, 9] [0] (s' := ⟨[(3, .sl 0 0 v3.length), (7, .bs false 2 (List.map enc_si p1)), (8, .v (.int .i64 (p1.length : Int))), (9, .v (.int .i64 (IntKind.wrap .i64 (v4 + 1))))], [(0, .arr 2 (List.map enc_si v3))]⟩) (by kernel_rfl)) ?_
        exact Wk.refl _
    · replace h := cd_f b1 h
      refine AX.condF (decide (v4 < (p1.length : Int))) (by kernel_rfl) b1 ?_
      refine AX.exit ?_
      refine fin_wk (Wk.forget [3] [0] (s' := ⟨[(3, .sl 0 0 v3.length)], [(0, .arr 2 (List.map enc_si v3))]⟩) (by kernel_rfl)) ?_
      have hr := Option.some.inj h
      subst hr
      exact ⟨_, Wk.refl _, ⟨rfl, rfl⟩⟩

theorem s_impl_Flag_singles (p1 : List (ByteArray × Int)) (p2 : Int) (r : List (ByteArray × Int)) (h : m_impl_Flag_singles p1 p2 = some r) :
    Eng.Spec Tryz.prog 37 [.agg [.bs false 2 (List.map enc_si p1), .v (.int .i64 p2)]] [] (.sl 0 0 r.length) [.arr 2 (List.map enc_si r)] := by
  unfold m_impl_Flag_singles at h
  refine Eng.Spec.body Tryz.func37 (by kernel_rfl) rfl (by kernel_rfl) ?_
  refine AX.wkpost ?_
  refine AX.seq ?_
  refine AX.reg (its := [.auto { nk := 0 }]) [1] [0] (s1 := ⟨[(1, .pt 0 0)], [(0, .box [.bs false 2 (List.map enc_si p1), .v (.int .i64 p2)])]⟩) (C := True) (by kernel_rfl) trivial trivial ?_
  refine AX.seq ?_
  refine AX.reg (its := []) [1, 3] [0] (s1 := ⟨[(1, .pt 0 0), (3, .v (.slice none 0 0))], [(0, .box [.bs false 2 (List.map enc_si p1), .v (.int .i64 p2)])]⟩) (C := True) (by kernel_rfl) trivial trivial ?_
  refine AX.seq ?_
  refine AX.seq ?_
  refine AX.reg (its := [.auto {}, .auto {}, .auto { y := some (.v (.int .i64 (p1.length : Int))) }]) [3, 7, 8, 9] [] (s1 := ⟨[(3, .v (.slice none 0 0)), (7, .bs false 2 (List.map enc_si p1)), (8, .v (.int .i64 (p1.length : Int))), (9, .v (.int .i64 0))], []⟩) (C := (True ∧ (AV.v (.int .i64 ((List.map enc_si p1).length : Int)) = AV.v (.int .i64 (p1.length : Int)))) ∧ True) (by kernel_rfl) ⟨⟨trivial, len_map enc_si p1⟩, trivial⟩ trivial ?_
  refine AX.block ?_
  obtain ⟨x7, e8, h⟩ := bd_e h
  refine AX.wk (Wk.mat 3 0 2 (by kernel_rfl) (Nat.le_of_ble_eq_true (by kernel_rfl)) (by kernel_rfl) rfl) ?_
  refine AX.wk (Wk.forget [3, 7, 8, 9] [0] (s' := ⟨[(3, .sl 0 0 (([] : List (ByteArray × Int)).length)), (7, .bs false 2 (List.map enc_si p1)), (8, .v (.int .i64 (p1.length : Int))), (9, .v (.int .i64 0))], [(0, .arr 2 (List.map enc_si ([] : List (ByteArray × Int))))]⟩) (by kernel_rfl)) ?_
  refine AX.mono (s_impl_Flag_singles_L1 p1 FU (([] : List (ByteArray × Int)), 0) x7 e8) ?_
  rintro _ _ ⟨rfl, rfl⟩
  skip
  refine AX.seq ?_
  obtain ⟨x8, e9, h⟩ := bd_e h
  obtain ⟨g10, h⟩ := gd_e h
  refine AX.reg (its := [.auto {}, .call 77 [.sl 0 0 x7.length, .fn 78 []] (handO (rho ([0] ++ [])) [0] [.arr 2 (List.map enc_si x7)] ++ []) (callEv [0] [] (.tup []) [.arr 2 (List.map enc_si x8)])]) [3] [0] (s1 := ⟨[(3, .sl 0 0 x7.length)], [(0, .arr 2 (List.map enc_si x8))]⟩) (C := ((([.sl 0 0 x7.length, .fn 78 []] : List AV) = [.sl 0 0 x7.length, .fn 78 []]) ∧ (AO.arr 2 (List.map enc_si x7) = AO.arr 2 (List.map enc_si x7)) ∧ True) ∧ True) (by kernel_rfl) ⟨⟨rfl, rfl, trivial⟩, trivial⟩ ⟨call_ok (ks := [0]) (ns := []) (bor := []) (bobjs := []) (s_slices_SortFunc_h_Flag_singles_1_si x7 x8 e9) (.cons (.c1 (.c0 (.same _ (by kernel_rfl) (by kernel_rfl)))) (.cons (.fn (.nil)) (.nil))) (by kernel_rfl) ⟨.inr (arr_sh (enc := enc_si) g10), trivial⟩, trivial⟩ ?_
  refine AX.seq ?_
  refine AX.reg (its := []) [2] [0] (s1 := ⟨[(2, .sl 0 0 x7.length)], [(0, .arr 2 (List.map enc_si x8))]⟩) (C := True) (by kernel_rfl) trivial trivial ?_
  refine AX.ret ?_
  refine fin_wk (Wk.forget [2] [0] (s' := ⟨[(2, .sl 0 0 x7.length)], [(0, .arr 2 (List.map enc_si x8))]⟩) (by kernel_rfl)) ?_
  refine fin_wk (Wk.of_eq (congrArg (fun z => (⟨[(2, .sl 0 0 z)], [(0, .arr 2 (List.map enc_si x8))]⟩ : S)) (((rfl : x7.length = x7.length)).trans (g10).symm))) ?_
  have hr := Option.some.inj h
  subst hr
  exact ⟨_, Wk.refl _, .inr rfl, ⟨[0], by kernel_rfl, ⟨rfl, trivial⟩, [.sl 0 0 x8.length], by kernel_rfl, by kernel_rfl⟩⟩

theorem s_strings_Join (p1 : List (ByteArray)) (p2 : ByteArray) (r : ByteArray) (h : m_strings_Join p1 p2 = some r) :
    Eng.Spec Tryz.prog 38 [.bs false 1 (List.map enc_s p1), .v (.string p2)] [] (.v (.string r)) [] := by
  unfold m_strings_Join at h
  obtain ⟨g1, h⟩ := gd_e h
  obtain ⟨g2, h⟩ := gd_e h
  have hr := Option.some.inj h
  subst hr
  refine spec_pure (r := .string ⟨(Lib.join (p1.map (·.data.toList)) p2.data.toList).toArray⟩) ⟨_, Tryz.func38, by kernel_rfl, by kernel_rfl⟩ (fun X m sh => by simp only [VR]) ?_
  intro X m vs hv
  simp only [VRs] at hv
  obtain ⟨v, _, rfl, hb, y, _, rfl, hy, rfl⟩ := hv
  simp only [VR] at hy
  subst hy
  rcases bs_strings hb with ⟨h0, a, c, rfl⟩ | ⟨b, off, c, rfl, hc, hlt, hcells⟩
  · subst h0
    refine (Tryz.strings_Join_none a c p2 X.w0).mono ?_
    rintro e w' ⟨rfl, rfl⟩
    exact ⟨by simp [Lib.join_nil], RowKit.Below.refl _ _⟩
  · refine (Tryz.strings_Join b off c p1 p2 X.w0 hcells hlt g1 hc g2).mono ?_
    rintro e w' ⟨rfl, hw⟩
    exact ⟨rfl, hw⟩

theorem s_impl_ArmText_L1 (p3 : Int) (p4 : Int) (x6 : List (ByteArray × Int)) (n : Nat) (g : List (ByteArray) × Int × Int) (out : List (ByteArray) × Int) (h : m_impl_ArmText_L1 p3 p4 x6 n g.1 g.2.1 g.2.2 = some out) :
    AX Tryz.prog 64 0 (codeAt [1, 1, 1, 1, 0, 1, 1] (bodyOf Tryz.f11)) ((fun g : List (ByteArray) × Int × Int => (⟨[(3, .pt 0 0), (5, .sl 1 0 g.1.length), (6, .v (.int .i64 g.2.1)), (19, .sl 2 0 x6.length), (20, .v (.int .i64 (x6.length : Int))), (21, .v (.int .i64 g.2.2))], [(0, .box [.v (.int .i64 p3), .v (.int .i64 p4)]), (1, .arr 1 (List.map enc_s g.1)), (2, .arr 2 (List.map enc_si x6))]⟩ : S)) g) (fun ex s => ex = .exit 0 ∧ s = (fun o : List (ByteArray) × Int => (⟨[(5, .sl 0 0 o.1.length), (6, .v (.int .i64 o.2))], [(0, .arr 1 (List.map enc_s o.1))]⟩ : S)) out) := by
  refine AX.wkpost ?_
  refine AX.loop (G := Nat × (List (ByteArray) × Int × Int)) (fun q => (fun g : List (ByteArray) × Int × Int => (⟨[(3, .pt 0 0), (5, .sl 1 0 g.1.length), (6, .v (.int .i64 g.2.1)), (19, .sl 2 0 x6.length), (20, .v (.int .i64 (x6.length : Int))), (21, .v (.int .i64 g.2.2))], [(0, .box [.v (.int .i64 p3), .v (.int .i64 p4)]), (1, .arr 1 (List.map enc_s g.1)), (2, .arr 2 (List.map enc_si x6))]⟩ : S)) q.2) (fun q => m_impl_ArmText_L1 p3 p4 x6 q.1 q.2.1 q.2.2.1 q.2.2.2 = some out) (fun q => q.1) (n, g) h (Wk.refl _) ?_
  clear h
  rintro ⟨fu, v7, v8, v9⟩ h
  cases fu with
  | zero => cases h
  | succ fu =>
    rw [m_impl_ArmText_L1] at h
    refine AX.seq ?_
    refine AX.reg (its := []) [3, 5, 6, 19, 20, 21, 22] [0, 1, 2] (s1 := ⟨[(3, .pt 0 0), (5, .sl 1 0 v7.length), (6, .v (.int .i64 v8)), (19, .sl 2 0 x6.length), (20, .v (.int .i64 (x6.length : Int))), (21, .v (.int .i64 v9)), (22, .v (.bool (decide (v9 < (x6.length : Int)))))], [(0, .box [.v (.int .i64 p3), .v (.int .i64 p4)]), (1, .arr 1 (List.map enc_s v7)), (2, .arr 2 (List.map enc_si x6))]⟩) (C := True) (by kernel_rfl) trivial trivial ?_
    refine AX.seq ?_
    rcases bool_cases (decide (v9 < (x6.length : Int))) with b4 | b4
    · replace h := cd_t b4 h
      refine AX.condT (decide (v9 < (x6.length : Int))) (by kernel_rfl) b4 ?_
      refine AX.skip ?_
      refine AX.seq ?_
      refine AX.block ?_
      refine AX.seq ?_
      obtain ⟨g5, h⟩ := gd_e h
      refine AX.reg (its := [.auto {}, .auto { y := some (.agg [.v (.string ((gt x6 v9).1)), .v (.int .i64 ((gt x6 v9).2))]) }, .auto { nk := 3 }]) [3, 5, 6, 8, 19, 20, 21] [0, 1, 2, 3] (s1 := ⟨[(3, .pt 0 0), (5, .sl 1 0 v7.length), (6, .v (.int .i64 v8)), (8, .pt 3 0), (19, .sl 2 0 x6.length), (20, .v (.int .i64 (x6.length : Int))), (21, .v (.int .i64 v9))], [(0, .box [.v (.int .i64 p3), .v (.int .i64 p4)]), (1, .arr 1 (List.map enc_s v7)), (2, .arr 2 (List.map enc_si x6)), (3, .box [.v (.string ((gt x6 v9).1)), .v (.int .i64 ((gt x6 v9).2))])]⟩) (C := (0 ≤ v9 ∧ v9 < (x6.length : Int)) ∧ (True ∧ (AV.agg ((((List.map enc_si x6).getD (0 + v9.toNat) []).drop 0 |>.take 2).map .v) = .agg [.v (.string ((gt x6 v9).1)), .v (.int .i64 ((gt x6 v9).2))])) ∧ True) (by kernel_rfl) ⟨g5, ⟨⟨trivial, (congrArg (fun z : List Value => AV.agg (((z.drop 0).take 2).map .v)) (idx_arr (enc := enc_si) rfl g5))⟩, trivial⟩⟩ trivial ?_
      refine AX.seq ?_
      refine AX.reg (its := []) [3, 5, 6, 8, 19, 20, 21] [0, 1, 2, 3] (s1 := ⟨[(3, .pt 0 0), (5, .sl 1 0 v7.length), (6, .v (.int .i64 (Go.bits .andNot .i64 v8 ((gt x6 v9).2)))), (8, .pt 3 0), (19, .sl 2 0 x6.length), (20, .v (.int .i64 (x6.length : Int))), (21, .v (.int .i64 v9))], [(0, .box [.v (.int .i64 p3), .v (.int .i64 p4)]), (1, .arr 1 (List.map enc_s v7)), (2, .arr 2 (List.map enc_si x6)), (3, .box [.v (.string ((gt x6 v9).1)), .v (.int .i64 ((gt x6 v9).2))])]⟩) (C := True) (by kernel_rfl) trivial trivial ?_
      refine AX.block ?_
      refine AX.seq ?_
      refine AX.reg (its := []) [3, 5, 6, 8, 19, 20, 21, 29] [0, 1, 2, 3] (s1 := ⟨[(3, .pt 0 0), (5, .sl 1 0 v7.length), (6, .v (.int .i64 (Go.bits .andNot .i64 v8 ((gt x6 v9).2)))), (8, .pt 3 0), (19, .sl 2 0 x6.length), (20, .v (.int .i64 (x6.length : Int))), (21, .v (.int .i64 v9)), (29, .v (.bool (!decide ((Go.bits .and .i64 p3 ((gt x6 v9).2)) = 0))))], [(0, .box [.v (.int .i64 p3), .v (.int .i64 p4)]), (1, .arr 1 (List.map enc_s v7)), (2, .arr 2 (List.map enc_si x6)), (3, .box [.v (.string ((gt x6 v9).1)), .v (.int .i64 ((gt x6 v9).2))])]⟩) (C := True) (by kernel_rfl) trivial trivial ?_
      rcases bool_cases ((!decide ((Go.bits .and .i64 p3 ((gt x6 v9).2)) = 0))) with b6 | b6
      · replace h := cd_t b6 h
        refine AX.condT ((!decide ((Go.bits .and .i64 p3 ((gt x6 v9).2)) = 0))) (by kernel_rfl) b6 ?_
        obtain ⟨g7, h⟩ := gd_e h
        refine AX.reg (its := [.auto {}, .auto {}, .auto {}, .auto { nk := 4 }, .auto { y := some (.sl 5 0 ((v7 ++ ([(gt x6 v9).1] : List (ByteArray))).length)), els := some (List.map enc_s v7), els2 := some (List.map enc_s ([(gt x6 v9).1] : List (ByteArray))), nk := 5 }]) [3, 5, 6, 19, 20, 21] [0, 2, 5] (s1 := ⟨[(3, .pt 0 0), (5, .sl 5 0 ((v7 ++ ([(gt x6 v9).1] : List (ByteArray))).length)), (6, .v (.int .i64 (Go.bits .andNot .i64 v8 ((gt x6 v9).2)))), (19, .sl 2 0 x6.length), (20, .v (.int .i64 (x6.length : Int))), (21, .v (.int .i64 v9))], [(0, .box [.v (.int .i64 p3), .v (.int .i64 p4)]), (2, .arr 2 (List.map enc_si x6)), (5, .arr 1 (List.map enc_s v7 ++ List.map enc_s ([(gt x6 v9).1] : List (ByteArray))))]⟩) (C := ((((((List.map enc_s v7).drop 0).take (v7.length) = List.map enc_s v7) ∧ (((List.map enc_s ([(gt x6 v9).1] : List (ByteArray))).drop 0).take (([(gt x6 v9).1] : List (ByteArray)).length) = List.map enc_s ([(gt x6 v9).1] : List (ByteArray)))) ∧ (List.map enc_s v7).length + (List.map enc_s ([(gt x6 v9).1] : List (ByteArray))).length ≤ 1099511627776) ∧ (AV.sl 5 0 (List.map enc_s v7 ++ List.map enc_s ([(gt x6 v9).1] : List (ByteArray))).length = AV.sl 5 0 (v7 ++ ([(gt x6 v9).1] : List (ByteArray))).length)) ∧ True) (by kernel_rfl) ⟨⟨⟨⟨(dt_all (enc := enc_s) rfl rfl), (dt_all (enc := enc_s) rfl rfl)⟩, (by simp only [List.length_map, List.length_nil, List.length_replicate]; simpa using g7)⟩, sl_len (enc := enc_s) (app_can (enc := enc_s) rfl (rfl))⟩, trivial⟩ trivial ?_
        refine AX.reg (its := [.auto { raw := true }]) [3, 5, 6, 19, 20, 21] [0, 2, 5] (s1 := ⟨[(3, .pt 0 0), (5, .sl 5 0 ((v7 ++ ([(gt x6 v9).1] : List (ByteArray))).length)), (6, .v (.int .i64 (Go.bits .andNot .i64 v8 ((gt x6 v9).2)))), (19, .sl 2 0 x6.length), (20, .v (.int .i64 (x6.length : Int))), (21, .v (.int .i64 (IntKind.wrap .i64 (v9 + 1))))], [(0, .box [.v (.int .i64 p3), .v (.int .i64 p4)]), (2, .arr 2 (List.map enc_si x6)), (5, .arr 1 (List.map enc_s v7 ++ List.map enc_s ([(gt x6 v9).1] : List (ByteArray))))]⟩) (C := True) (by kernel_rfl) trivial trivial ?_
        refine ⟨(fu, (v7 ++ ([(gt x6 v9).1] : List (ByteArray)), Go.bits .andNot .i64 v8 ((gt x6 v9).2), IntKind.wrap .i64 (v9 + 1))), h, Nat.lt_succ_self _, ?_⟩
        refine Wk.trans (Wk.swap 1 5 (Nat.le_of_ble_eq_true (by kernel_rfl)) (Nat.le_of_ble_eq_true (by kernel_rfl)) rfl) ?_
        refine Wk.trans (Wk.forget [3, 5, 6, 19, 20, 21] [0, 1, 2] (s' := ⟨[(3, .pt 0 0), (5, .sl 1 0 ((v7 ++ ([(gt x6 v9).1] : List (ByteArray))).length)), (6, .v (.int .i64 (Go.bits .andNot .i64 v8 ((gt x6 v9).2)))), (19, .sl 2 0 x6.length), (20, .v (.int .i64 (x6.length : Int))), (21, .v (.int .i64 (IntKind.wrap .i64 (v9 + 1))))], [(0, .box [.v (.int .i64 p3), .v (.int .i64 p4)]), (1, .arr 1 (List.map enc_s v7 ++ List.map enc_s ([(gt x6 v9).1] : List (ByteArray)))), (2, .arr 2 (List.map enc_si x6))]⟩) (by kernel_rfl)) ?_
        refine Wk.trans (Wk.of_eq (congrArg (fun z => (⟨[(3, .pt 0 0), (5, .sl 1 0 ((v7 ++ ([(gt x6 v9).1] : List (ByteArray))).length)), (6, .v (.int .i64 (Go.bits .andNot .i64 v8 ((gt x6 v9).2)))), (19, .sl 2 0 x6.length), (20, .v (.int .i64 (x6.length : Int))), (21, .v (.int .i64 (IntKind.wrap .i64 (v9 + 1))))], [(0, .box [.v (.int .i64 p3), .v (.int .i64 p4)]), (1, .arr 1 (z)), (2, .arr 2 (List.map enc_si x6))]⟩ : S)) (app_can (enc := enc_s) rfl (rfl) : List.map enc_s v7 ++ List.map enc_s ([(gt x6 v9).1] : List (ByteArray)) = List.map enc_s (v7 ++ ([(gt x6 v9).1] : List (ByteArray)))))) ?_
        exact Wk.refl _
      · replace h := cd_f b6 h
        refine AX.condF ((!decide ((Go.bits .and .i64 p3 ((gt x6 v9).2)) = 0))) (by kernel_rfl) b6 ?_
        refine AX.seq ?_
        refine AX.reg (its := []) [3, 5, 6, 8, 19, 20, 21, 41] [0, 1, 2, 3] (s1 := ⟨[(3, .pt 0 0), (5, .sl 1 0 v7.length), (6, .v (.int .i64 (Go.bits .andNot .i64 v8 ((gt x6 v9).2)))), (8, .pt 3 0), (19, .sl 2 0 x6.length), (20, .v (.int .i64 (x6.length : Int))), (21, .v (.int .i64 v9)), (41, .v (.bool (!decide ((Go.bits .and .i64 p4 ((gt x6 v9).2)) = 0))))], [(0, .box [.v (.int .i64 p3), .v (.int .i64 p4)]), (1, .arr 1 (List.map enc_s v7)), (2, .arr 2 (List.map enc_si x6)), (3, .box [.v (.string ((gt x6 v9).1)), .v (.int .i64 ((gt x6 v9).2))])]⟩) (C := True) (by kernel_rfl) trivial trivial ?_
        rcases bool_cases ((!decide ((Go.bits .and .i64 p4 ((gt x6 v9).2)) = 0))) with b8 | b8
        · replace h := cd_t b8 h
          refine AX.condT ((!decide ((Go.bits .and .i64 p4 ((gt x6 v9).2)) = 0))) (by kernel_rfl) b8 ?_
          obtain ⟨g9, h⟩ := gd_e h
          obtain ⟨g10, h⟩ := gd_e h
          refine AX.reg (its := [.auto {}, .auto {}, .auto {}, .auto {}, .auto { nk := 4 }, .auto { y := some (.sl 5 0 ((v7 ++ ([(ByteArray.mk #[33]) ++ ((gt x6 v9).1)] : List (ByteArray))).length)), els := some (List.map enc_s v7), els2 := some (List.map enc_s ([(ByteArray.mk #[33]) ++ ((gt x6 v9).1)] : List (ByteArray))), nk := 5 }]) [3, 5, 6, 19, 20, 21] [0, 2, 5] (s1 := ⟨[(3, .pt 0 0), (5, .sl 5 0 ((v7 ++ ([(ByteArray.mk #[33]) ++ ((gt x6 v9).1)] : List (ByteArray))).length)), (6, .v (.int .i64 (Go.bits .andNot .i64 v8 ((gt x6 v9).2)))), (19, .sl 2 0 x6.length), (20, .v (.int .i64 (x6.length : Int))), (21, .v (.int .i64 v9))], [(0, .box [.v (.int .i64 p3), .v (.int .i64 p4)]), (2, .arr 2 (List.map enc_si x6)), (5, .arr 1 (List.map enc_s v7 ++ List.map enc_s ([(ByteArray.mk #[33]) ++ ((gt x6 v9).1)] : List (ByteArray))))]⟩) (C := ((ByteArray.mk #[33]).size + ((gt x6 v9).1).size ≤ 9223372036854775807) ∧ ((((((List.map enc_s v7).drop 0).take (v7.length) = List.map enc_s v7) ∧ (((List.map enc_s ([(ByteArray.mk #[33]) ++ ((gt x6 v9).1)] : List (ByteArray))).drop 0).take (([(ByteArray.mk #[33]) ++ ((gt x6 v9).1)] : List (ByteArray)).length) = List.map enc_s ([(ByteArray.mk #[33]) ++ ((gt x6 v9).1)] : List (ByteArray)))) ∧ (List.map enc_s v7).length + (List.map enc_s ([(ByteArray.mk #[33]) ++ ((gt x6 v9).1)] : List (ByteArray))).length ≤ 1099511627776) ∧ (AV.sl 5 0 (List.map enc_s v7 ++ List.map enc_s ([(ByteArray.mk #[33]) ++ ((gt x6 v9).1)] : List (ByteArray))).length = AV.sl 5 0 (v7 ++ ([(ByteArray.mk #[33]) ++ ((gt x6 v9).1)] : List (ByteArray))).length)) ∧ True) (by kernel_rfl) ⟨g9, ⟨⟨⟨⟨(dt_all (enc := enc_s) rfl rfl), (dt_all (enc := enc_s) rfl rfl)⟩, (by simp only [List.length_map, List.length_nil, List.length_replicate]; simpa using g10)⟩, sl_len (enc := enc_s) (app_can (enc := enc_s) rfl (rfl))⟩, trivial⟩⟩ trivial ?_
          refine AX.reg (its := [.auto { raw := true }]) [3, 5, 6, 19, 20, 21] [0, 2, 5] (s1 := ⟨[(3, .pt 0 0), (5, .sl 5 0 ((v7 ++ ([(ByteArray.mk #[33]) ++ ((gt x6 v9).1)] : List (ByteArray))).length)), (6, .v (.int .i64 (Go.bits .andNot .i64 v8 ((gt x6 v9).2)))), (19, .sl 2 0 x6.length), (20, .v (.int .i64 (x6.length : Int))), (21, .v (.int .i64 (IntKind.wrap .i64 (v9 + 1))))], [(0, .box [.v (.int .i64 p3), .v (.int .i64 p4)]), (2, .arr 2 (List.map enc_si x6)), (5, .arr 1 (List.map enc_s v7 ++ List.map enc_s ([(ByteArray.mk #[33]) ++ ((gt x6 v9).1)] : List (ByteArray))))]⟩) (C := True) (by kernel_rfl) trivial trivial ?_
          refine ⟨(fu, (v7 ++ ([(ByteArray.mk #[33]) ++ ((gt x6 v9).1)] : List (ByteArray)), Go.bits .andNot .i64 v8 ((gt x6 v9).2), IntKind.wrap .i64 (v9 + 1))), h, Nat.lt_succ_self _, ?_⟩
          refine Wk.trans (Wk.swap 1 5 (Nat.le_of_ble_eq_true (by kernel_rfl)) (Nat.le_of_ble_eq_true (by kernel_rfl)) rfl) ?_
          refine Wk.trans (Wk.forget [3, 5, 6, 19, 20, 21] [0, 1, 2] (s' := ⟨[(3, .pt 0 0), (5, .sl 1 0 ((v7 ++ ([(ByteArray.mk #[33]) ++ ((gt x6 v9).1)] : List (ByteArray))).length)), (6, .v (.int .i64 (Go.bits .andNot .i64 v8 ((gt x6 v9).2)))), (19, .sl 2 0 x6.length), (20, .v (.int .i64 (x6.length : Int))), (21, .v (.int .i64 (IntKind.wrap .i64 (v9 + 1))))], [(0, .box [.v (.int .i64 p3), .v (.int .i64 p4)]), (1, .arr 1 (List.map enc_s v7 ++ List.map enc_s ([(ByteArray.mk #[33]) ++ ((gt x6 v9).1)] : List (ByteArray)))), (2, .arr 2 (List.map enc_si x6))]⟩) (by kernel_rfl)) ?_
          refine Wk.trans (Wk.of_eq (congrArg (fun z => (⟨[(3, .pt 0 0), (5, .sl 1 0 ((v7 ++ ([(ByteArray.mk #[33]) ++ ((gt x6 v9).1)] : List (ByteArray))).length)), (6, .v (.int .i64 (Go.bits .andNot .i64 v8 ((gt x6 v9).2)))), (19, .sl 2 0 x6.length), (20, .v (.int .i64 (x6.length : Int))), (21, .v (.int .i64 (IntKind.wrap .i64 (v9 + 1))))], [(0, .box [.v (.int .i64 p3), .v (.int .i64 p4)]), (1, .arr 1 (z)), (2, .arr 2 (List.map enc_si x6))]⟩ : S)) (app_can (enc := enc_s) rfl (rfl) : List.map enc_s v7 ++ List.map enc_s ([(ByteArray.mk #[33]) ++ ((gt x6 v9).1)] : List (ByteArray)) = List.map enc_s (v7 ++ ([(ByteArray.mk #[33]) ++ ((gt x6 v9).1)] : List (ByteArray)))))) ?_
          exact Wk.refl _
        · replace h := cd_f b8 h
          refine AX.condF ((!decide ((Go.bits .and .i64 p4 ((gt x6 v9).2)) = 0))) (by kernel_rfl) b8 ?_
          refine AX.skip ?_
          refine AX.reg (its := [.auto { raw := true }]) [3, 5, 6, 19, 20, 21] [0, 1, 2] (s1 := ⟨[(3, .pt 0 0), (5, .sl 1 0 v7.length), (6, .v (.int .i64 (Go.bits .andNot .i64 v8 ((gt x6 v9).2)))), (19, .sl 2 0 x6.length), (20, .v (.int .i64 (x6.length : Int))), (21, .v (.int .i64 (IntKind.wrap .i64 (v9 + 1))))], [(0, .box [.v (.int .i64 p3), .v (.int .i64 p4)]), (1, .arr 1 (List.map enc_s v7)), (2, .arr 2 (List.map enc_si x6))]⟩) (C := True) (by kernel_rfl) trivial trivial ?_
          refine ⟨(fu, (v7, Go.bits .andNot .i64 v8 ((gt x6 v9).2), IntKind.wrap .i64 (v9 + 1))), h, Nat.lt_succ_self _, ?_⟩
          refine Wk.trans (Wk.forget [3, 5, 6, 19, 20, 21] [0, 1, 2] (s' := ⟨[(3, .pt 0 0), (5, .sl 1 0 v7.length), (6, .v (.int .i64 (Go.bits .andNot .i64 v8 ((gt x6 v9).2)))), (19, .sl 2 0 x6.length), (20, .v (.int .i64 (x6.length : Int))), (21, .v (.int .i64 (IntKind.wrap .i64 (v9 + 1))))], [(0, .box [.v (.int .i64 p3), .v (.int .i64 p4)]), (1, .arr 1 (List.map enc_s v7)), (2, .arr 2 (List.map enc_si x6))]⟩) (by kernel_rfl)) ?_
          exact Wk.refl _
    · replace h := cd_f b4 h
      refine AX.condF (decide (v9 < (x6.length : Int))) (by kernel_rfl) b4 ?_
      refine AX.exit ?_
      refine fin_wk (Wk.swap 0 1 (Nat.le_of_ble_eq_true (by kernel_rfl)) (Nat.le_of_ble_eq_true (by kernel_rfl)) rfl) ?_
      refine fin_wk (Wk.forget [5, 6] [0] (s' := ⟨[(5, .sl 0 0 v7.length), (6, .v (.int .i64 v8))], [(0, .arr 1 (List.map enc_s v7))]⟩) (by kernel_rfl)) ?_
      have hr := Option.some.inj h
      subst hr
      exact ⟨_, Wk.refl _, ⟨rfl, rfl⟩⟩

theorem s_impl_ArmText (p1 : List (ByteArray × Int)) (p2 : Int) (p3 : Int) (p4 : Int) (r : ByteArray) (h : m_impl_ArmText p1 p2 p3 p4 = some r) :
    Eng.Spec Tryz.prog 11 [.agg [.bs false 2 (List.map enc_si p1), .v (.int .i64 p2)], .agg [.v (.int .i64 p3), .v (.int .i64 p4)]] [] (.v (.string r)) [] := by
  unfold m_impl_ArmText at h
  refine Eng.Spec.body Tryz.func11 (by kernel_rfl) rfl (by kernel_rfl) ?_
  refine AX.wkpost ?_
  refine AX.seq ?_
  refine AX.reg (its := [.auto { nk := 0 }, .auto { nk := 1 }]) [2, 3] [0, 1] (s1 := ⟨[(2, .pt 0 0), (3, .pt 1 0)], [(0, .box [.bs false 2 (List.map enc_si p1), .v (.int .i64 p2)]), (1, .box [.v (.int .i64 p3), .v (.int .i64 p4)])]⟩) (C := True) (by kernel_rfl) trivial trivial ?_
  refine AX.seq ?_
  refine AX.seq ?_
  obtain ⟨x5, e1, h⟩ := bd_e h
  refine AX.reg (its := [.auto {}, .auto {}, .call 12 [.agg [.bs false 2 (List.map enc_si p1), .v (.int .i64 p2)], .agg [.v (.int .i64 p3), .v (.int .i64 p4)]] (handO (rho ([] ++ [])) [] [] ++ []) (callEv [] [] (.v (.bool x5)) [])]) [2, 3, 12] [0, 1] (s1 := ⟨[(2, .pt 0 0), (3, .pt 1 0), (12, .v (.bool (!x5)))], [(0, .box [.bs false 2 (List.map enc_si p1), .v (.int .i64 p2)]), (1, .box [.v (.int .i64 p3), .v (.int .i64 p4)])]⟩) (C := ((([.agg [.bs false 2 (List.map enc_si p1), .v (.int .i64 p2)], .agg [.v (.int .i64 p3), .v (.int .i64 p4)]] : List AV) = [.agg [.bs false 2 (List.map enc_si p1), .v (.int .i64 p2)], .agg [.v (.int .i64 p3), .v (.int .i64 p4)]]) ∧ True) ∧ True) (by kernel_rfl) ⟨⟨rfl, trivial⟩, trivial⟩ ⟨call_ok (ks := []) (ns := []) (bor := []) (bobjs := []) (s_impl_ValidArm p1 p2 p3 p4 x5 e1) (.cons (.c1 (.agg (.cons (.same _ (by kernel_rfl) (by kernel_rfl)) (.cons (.same _ (by kernel_rfl) (by kernel_rfl)) (.nil))))) (.cons (.c1 (.agg (.cons (.same _ (by kernel_rfl) (by kernel_rfl)) (.cons (.same _ (by kernel_rfl) (by kernel_rfl)) (.nil))))) (.nil))) (by kernel_rfl) trivial, trivial⟩ ?_
  rcases bool_cases ((!x5)) with b2 | b2
  · replace h := cd_t b2 h
    refine AX.condT ((!x5)) (by kernel_rfl) b2 ?_
    refine AX.seq ?_
    refine AX.reg (its := []) [4] [] (s1 := ⟨[(4, .v (.string ByteArray.empty))], []⟩) (C := True) (by kernel_rfl) trivial trivial ?_
    refine AX.ret ?_
    refine fin_wk (Wk.forget [4] [] (s' := ⟨[(4, .v (.string ByteArray.empty))], []⟩) (by kernel_rfl)) ?_
    have hr := Option.some.inj h
    subst hr
    exact ⟨_, Wk.refl _, .inr rfl, ⟨[], by kernel_rfl, trivial, [.v (.string ByteArray.empty)], by kernel_rfl, by kernel_rfl⟩⟩
  · replace h := cd_f b2 h
    refine AX.condF ((!x5)) (by kernel_rfl) b2 ?_
    refine AX.skip ?_
    refine AX.seq ?_
    refine AX.reg (its := []) [2, 3, 5] [0, 1] (s1 := ⟨[(2, .pt 0 0), (3, .pt 1 0), (5, .v (.slice none 0 0))], [(0, .box [.bs false 2 (List.map enc_si p1), .v (.int .i64 p2)]), (1, .box [.v (.int .i64 p3), .v (.int .i64 p4)])]⟩) (C := True) (by kernel_rfl) trivial trivial ?_
    refine AX.seq ?_
    refine AX.reg (its := []) [2, 3, 5, 6] [0, 1] (s1 := ⟨[(2, .pt 0 0), (3, .pt 1 0), (5, .v (.slice none 0 0)), (6, .v (.int .i64 (Go.bits .or .i64 p3 p4)))], [(0, .box [.bs false 2 (List.map enc_si p1), .v (.int .i64 p2)]), (1, .box [.v (.int .i64 p3), .v (.int .i64 p4)])]⟩) (C := True) (by kernel_rfl) trivial trivial ?_
    refine AX.seq ?_
    refine AX.seq ?_
    obtain ⟨x6, e3, h⟩ := bd_e h
    refine AX.reg (its := [.auto {}, .call 37 [.agg [.bs false 2 (List.map enc_si p1), .v (.int .i64 p2)]] (handO (rho ([] ++ [2])) [] [] ++ []) (callEv [] [2] (.sl 0 0 x6.length) [.arr 2 (List.map enc_si x6)])]) [3, 5, 6, 19, 20, 21] [1, 2] (s1 := ⟨[(3, .pt 1 0), (5, .v (.slice none 0 0)), (6, .v (.int .i64 (Go.bits .or .i64 p3 p4))), (19, .sl 2 0 x6.length), (20, .v (.int .i64 (x6.length : Int))), (21, .v (.int .i64 0))], [(1, .box [.v (.int .i64 p3), .v (.int .i64 p4)]), (2, .arr 2 (List.map enc_si x6))]⟩) (C := ((([.agg [.bs false 2 (List.map enc_si p1), .v (.int .i64 p2)]] : List AV) = [.agg [.bs false 2 (List.map enc_si p1), .v (.int .i64 p2)]]) ∧ True) ∧ True) (by kernel_rfl) ⟨⟨rfl, trivial⟩, trivial⟩ ⟨call_ok (ks := []) (ns := [2]) (bor := []) (bobjs := []) (s_impl_Flag_singles p1 p2 x6 e3) (.cons (.c1 (.agg (.cons (.same _ (by kernel_rfl) (by kernel_rfl)) (.cons (.same _ (by kernel_rfl) (by kernel_rfl)) (.nil))))) (.nil)) (by kernel_rfl) trivial, trivial⟩ ?_
    refine AX.block ?_
    obtain ⟨x10, e11, h⟩ := bd_e h
    refine AX.wk (Wk.mat 5 3 1 (by kernel_rfl) (Nat.le_of_ble_eq_true (by kernel_rfl)) (by kernel_rfl) rfl) ?_
    refine AX.wk (Wk.swap 0 1 (Nat.le_of_ble_eq_true (by kernel_rfl)) (Nat.le_of_ble_eq_true (by kernel_rfl)) rfl) ?_
    refine AX.wk (Wk.swap 1 3 (Nat.le_of_ble_eq_true (by kernel_rfl)) (Nat.le_of_ble_eq_true (by kernel_rfl)) rfl) ?_
    refine AX.wk (Wk.forget [3, 5, 6, 19, 20, 21] [0, 1, 2] (s' := ⟨[(3, .pt 0 0), (5, .sl 1 0 (([] : List (ByteArray)).length)), (6, .v (.int .i64 (Go.bits .or .i64 p3 p4))), (19, .sl 2 0 x6.length), (20, .v (.int .i64 (x6.length : Int))), (21, .v (.int .i64 0))], [(0, .box [.v (.int .i64 p3), .v (.int .i64 p4)]), (1, .arr 1 (List.map enc_s ([] : List (ByteArray)))), (2, .arr 2 (List.map enc_si x6))]⟩) (by kernel_rfl)) ?_
    refine AX.mono (s_impl_ArmText_L1 p3 p4 x6 FU (([] : List (ByteArray)), Go.bits .or .i64 p3 p4, 0) x10 e11) ?_
    rintro _ _ ⟨rfl, rfl⟩
    skip
    refine AX.seq ?_
    refine AX.block ?_
    refine AX.seq ?_
    refine AX.reg (its := []) [5, 55] [0] (s1 := ⟨[(5, .sl 0 0 x10.1.length), (55, .v (.bool (!decide (x10.2 = 0))))], [(0, .arr 1 (List.map enc_s x10.1))]⟩) (C := True) (by kernel_rfl) trivial trivial ?_
    rcases bool_cases ((!decide (x10.2 = 0))) with b12 | b12
    · replace h := cd_t b12 h
      refine AX.condT ((!decide (x10.2 = 0))) (by kernel_rfl) b12 ?_
      refine AX.seq ?_
      refine AX.reg (its := []) [4] [] (s1 := ⟨[(4, .v (.string ByteArray.empty))], []⟩) (C := True) (by kernel_rfl) trivial trivial ?_
      refine AX.ret ?_
      refine fin_wk (Wk.forget [4] [] (s' := ⟨[(4, .v (.string ByteArray.empty))], []⟩) (by kernel_rfl)) ?_
      have hr := Option.some.inj h
      subst hr
      exact ⟨_, Wk.refl _, .inr rfl, ⟨[], by kernel_rfl, trivial, [.v (.string ByteArray.empty)], by kernel_rfl, by kernel_rfl⟩⟩
    · replace h := cd_f b12 h
      refine AX.condF ((!decide (x10.2 = 0))) (by kernel_rfl) b12 ?_
      refine AX.seq ?_
      refine AX.reg (its := []) [5, 58] [0] (s1 := ⟨[(5, .sl 0 0 x10.1.length), (58, .v (.bool (decide ((x10.1.length : Int) = 0))))], [(0, .arr 1 (List.map enc_s x10.1))]⟩) (C := True) (by kernel_rfl) trivial trivial ?_
      rcases bool_cases (decide ((x10.1.length : Int) = 0)) with b13 | b13
      · replace h := cd_t b13 h
        refine AX.condT (decide ((x10.1.length : Int) = 0)) (by kernel_rfl) b13 ?_
        refine AX.seq ?_
        refine AX.reg (its := []) [4] [] (s1 := ⟨[(4, .v (.string (ByteArray.mk #[42])))], []⟩) (C := True) (by kernel_rfl) trivial trivial ?_
        refine AX.ret ?_
        refine fin_wk (Wk.forget [4] [] (s' := ⟨[(4, .v (.string (ByteArray.mk #[42])))], []⟩) (by kernel_rfl)) ?_
        have hr := Option.some.inj h
        subst hr
        exact ⟨_, Wk.refl _, .inr rfl, ⟨[], by kernel_rfl, trivial, [.v (.string (ByteArray.mk #[42]))], by kernel_rfl, by kernel_rfl⟩⟩
      · replace h := cd_f b13 h
        refine AX.condF (decide ((x10.1.length : Int) = 0)) (by kernel_rfl) b13 ?_
        refine AX.skip ?_
        refine AX.seq ?_
        obtain ⟨x11, e14, h⟩ := bd_e h
        refine AX.reg (its := [.auto {}, .call 38 [.sl 0 0 x10.1.length, .v (.string (ByteArray.mk #[32]))] (handO (rho ([] ++ [])) [] [] ++ [(0, .arr 1 (List.map enc_s x10.1))]) (callEv [] [] (.v (.string x11)) [])]) [4] [] (s1 := ⟨[(4, .v (.string x11))], []⟩) (C := ((([.sl 0 0 x10.1.length, .v (.string (ByteArray.mk #[32]))] : List AV) = [.sl 0 0 x10.1.length, .v (.string (ByteArray.mk #[32]))]) ∧ (AO.arr 1 (List.map enc_s x10.1) = AO.arr 1 (List.map enc_s x10.1)) ∧ True) ∧ True) (by kernel_rfl) ⟨⟨rfl, rfl, trivial⟩, trivial⟩ ⟨call_ok (ks := []) (ns := []) (bor := [0]) (bobjs := [(0, .arr 1 (List.map enc_s x10.1))]) (s_strings_Join x10.1 (ByteArray.mk #[32]) x11 e14) (.cons (.c1 (.c0 (.arr rfl rfl ((rfl).trans (List.length_map ..).symm)))) (.cons (.c1 (.c0 (.same _ (by kernel_rfl) (by kernel_rfl)))) (.nil))) (by kernel_rfl) trivial, trivial⟩ ?_
        refine AX.ret ?_
        refine fin_wk (Wk.forget [4] [] (s' := ⟨[(4, .v (.string x11))], []⟩) (by kernel_rfl)) ?_
        have hr := Option.some.inj h
        subst hr
        exact ⟨_, Wk.refl _, .inr rfl, ⟨[], by kernel_rfl, trivial, [.v (.string x11)], by kernel_rfl, by kernel_rfl⟩⟩

theorem s_impl_ParseArm_L1 (p1 : List (ByteArray × Int)) (p2 : Int) (p3 : ByteArray) (x4 : List (ByteArray)) (n : Nat) (g : Int × Int × Int) (out : Unit ⊕ Int × Int) (h : m_impl_ParseArm_L1 p1 p2 p3 x4 n g.1 g.2.1 g.2.2 = some out) :
    AX Tryz.prog 68 0 (codeAt [1, 1, 0, 1, 0, 1, 1] (bodyOf Tryz.f8)) ((fun g : Int × Int × Int => (⟨[(1, .v (.string p3)), (2, .pt 0 0), (4, .pt 1 0), (6, .pt 2 0), (15, .sl 3 0 x4.length), (16, .v (.int .i64 (x4.length : Int))), (17, .v (.int .i64 g.2.2))], [(0, .box [.bs false 2 (List.map enc_si p1), .v (.int .i64 p2)]), (1, .box [.v (.int .i64 0), .v (.int .i64 0)]), (2, .box [.v (.int .i64 g.1), .v (.int .i64 g.2.1)]), (3, .arr 1 (List.map enc_s x4))]⟩ : S)) g) (fun ex s => (∃ o : Unit, out = Sum.inl o ∧ ex = .ret ∧ s = ⟨[(4, .pt 0 0), (5, .v (.bool false))], [(0, .box [.v (.int .i64 0), .v (.int .i64 0)])]⟩) ∨ (∃ o : Int × Int, out = Sum.inr o ∧ ex = .exit 0 ∧ s = ⟨[(1, .v (.string p3)), (2, .pt 0 0), (4, .pt 1 0), (6, .pt 2 0)], [(0, .box [.bs false 2 (List.map enc_si p1), .v (.int .i64 p2)]), (1, .box [.v (.int .i64 0), .v (.int .i64 0)]), (2, .box [.v (.int .i64 o.1), .v (.int .i64 o.2)])]⟩)) := by
  refine AX.wkpost ?_
  refine AX.loop (G := Nat × (Int × Int × Int)) (fun q => (fun g : Int × Int × Int => (⟨[(1, .v (.string p3)), (2, .pt 0 0), (4, .pt 1 0), (6, .pt 2 0), (15, .sl 3 0 x4.length), (16, .v (.int .i64 (x4.length : Int))), (17, .v (.int .i64 g.2.2))], [(0, .box [.bs false 2 (List.map enc_si p1), .v (.int .i64 p2)]), (1, .box [.v (.int .i64 0), .v (.int .i64 0)]), (2, .box [.v (.int .i64 g.1), .v (.int .i64 g.2.1)]), (3, .arr 1 (List.map enc_s x4))]⟩ : S)) q.2) (fun q => m_impl_ParseArm_L1 p1 p2 p3 x4 q.1 q.2.1 q.2.2.1 q.2.2.2 = some out) (fun q => q.1) (n, g) h (Wk.refl _) ?_
  clear h
  rintro ⟨fu, v5, v6, v7⟩ h
  cases fu with
  | zero => cases h
  | succ fu =>
    rw [m_impl_ParseArm_L1] at h
    refine AX.seq ?_
    refine AX.reg (its := []) [1, 2, 4, 6, 15, 16, 17, 18] [0, 1, 2, 3] (s1 := ⟨[(1, .v (.string p3)), (2, .pt 0 0), (4, .pt 1 0), (6, .pt 2 0), (15, .sl 3 0 x4.length), (16, .v (.int .i64 (x4.length : Int))), (17, .v (.int .i64 v7)), (18, .v (.bool (decide (v7 < (x4.length : Int)))))], [(0, .box [.bs false 2 (List.map enc_si p1), .v (.int .i64 p2)]), (1, .box [.v (.int .i64 0), .v (.int .i64 0)]), (2, .box [.v (.int .i64 v5), .v (.int .i64 v6)]), (3, .arr 1 (List.map enc_s x4))]⟩) (C := True) (by kernel_rfl) trivial trivial ?_
    refine AX.seq ?_
    rcases bool_cases (decide (v7 < (x4.length : Int))) with b3 | b3
    · replace h := cd_t b3 h
      refine AX.condT (decide (v7 < (x4.length : Int))) (by kernel_rfl) b3 ?_
      refine AX.skip ?_
      refine AX.seq ?_
      refine AX.block ?_
      refine AX.seq ?_
      obtain ⟨g4, h⟩ := gd_e h
      refine AX.reg (its := [.auto {}, .auto { y := some (.v (.string (gt x4 v7))) }]) [1, 2, 4, 6, 8, 15, 16, 17] [0, 1, 2, 3] (s1 := ⟨[(1, .v (.string p3)), (2, .pt 0 0), (4, .pt 1 0), (6, .pt 2 0), (8, .v (.string (gt x4 v7))), (15, .sl 3 0 x4.length), (16, .v (.int .i64 (x4.length : Int))), (17, .v (.int .i64 v7))], [(0, .box [.bs false 2 (List.map enc_si p1), .v (.int .i64 p2)]), (1, .box [.v (.int .i64 0), .v (.int .i64 0)]), (2, .box [.v (.int .i64 v5), .v (.int .i64 v6)]), (3, .arr 1 (List.map enc_s x4))]⟩) (C := (0 ≤ v7 ∧ v7 < (x4.length : Int)) ∧ (True ∧ (AV.v (((List.map enc_s x4).getD (0 + v7.toNat) []).getD 0 undef) = .v (.string (gt x4 v7)))) ∧ True) (by kernel_rfl) ⟨g4, ⟨⟨trivial, (congrArg (fun z : List Value => AV.v (z.getD 0 undef)) (idx_arr (enc := enc_s) rfl g4))⟩, trivial⟩⟩ trivial ?_
      refine AX.seq ?_
      obtain ⟨x8, e5, h⟩ := bd_e h
      refine AX.reg (its := [.auto {}, .call 33 [.v (.string (gt x4 v7)), .v (.string (ByteArray.mk #[33]))] (handO (rho ([] ++ [])) [] [] ++ []) (callEv [] [] (.tup [.v (.string x8.1), .v (.bool x8.2)]) [])]) [1, 2, 4, 6, 9, 10, 15, 16, 17] [0, 1, 2, 3] (s1 := ⟨[(1, .v (.string p3)), (2, .pt 0 0), (4, .pt 1 0), (6, .pt 2 0), (9, .v (.string x8.1)), (10, .v (.bool x8.2)), (15, .sl 3 0 x4.length), (16, .v (.int .i64 (x4.length : Int))), (17, .v (.int .i64 v7))], [(0, .box [.bs false 2 (List.map enc_si p1), .v (.int .i64 p2)]), (1, .box [.v (.int .i64 0), .v (.int .i64 0)]), (2, .box [.v (.int .i64 v5), .v (.int .i64 v6)]), (3, .arr 1 (List.map enc_s x4))]⟩) (C := ((([.v (.string (gt x4 v7)), .v (.string (ByteArray.mk #[33]))] : List AV) = [.v (.string (gt x4 v7)), .v (.string (ByteArray.mk #[33]))]) ∧ True) ∧ True) (by kernel_rfl) ⟨⟨rfl, trivial⟩, trivial⟩ ⟨call_ok (ks := []) (ns := []) (bor := []) (bobjs := []) (s_strings_CutPrefix (gt x4 v7) (ByteArray.mk #[33]) x8 e5) (.cons (.c1 (.c0 (.same _ (by kernel_rfl) (by kernel_rfl)))) (.cons (.c1 (.c0 (.same _ (by kernel_rfl) (by kernel_rfl)))) (.nil))) (by kernel_rfl) trivial, trivial⟩ ?_
      refine AX.seq ?_
      obtain ⟨x9, e6, h⟩ := bd_e h
      refine AX.reg (its := [.auto {}, .auto {}, .auto {}, .call 34 [.bs false 2 (List.map enc_si p1), .v (.string x8.1)] (handO (rho ([] ++ [])) [] [] ++ []) (callEv [] [] (.v (.int .i64 x9)) [])]) [1, 2, 4, 6, 10, 11, 15, 16, 17] [0, 1, 2, 3] (s1 := ⟨[(1, .v (.string p3)), (2, .pt 0 0), (4, .pt 1 0), (6, .pt 2 0), (10, .v (.bool x8.2)), (11, .v (.int .i64 x9)), (15, .sl 3 0 x4.length), (16, .v (.int .i64 (x4.length : Int))), (17, .v (.int .i64 v7))], [(0, .box [.bs false 2 (List.map enc_si p1), .v (.int .i64 p2)]), (1, .box [.v (.int .i64 0), .v (.int .i64 0)]), (2, .box [.v (.int .i64 v5), .v (.int .i64 v6)]), (3, .arr 1 (List.map enc_s x4))]⟩) (C := ((([.bs false 2 (List.map enc_si p1), .v (.string x8.1)] : List AV) = [.bs false 2 (List.map enc_si p1), .v (.string x8.1)]) ∧ True) ∧ True) (by kernel_rfl) ⟨⟨rfl, trivial⟩, trivial⟩ ⟨call_ok (ks := []) (ns := []) (bor := []) (bobjs := []) (s_impl_named p1 x8.1 x9 e6) (.cons (.c1 (.c0 (.same _ (by kernel_rfl) (by kernel_rfl)))) (.cons (.c1 (.c0 (.same _ (by kernel_rfl) (by kernel_rfl)))) (.nil))) (by kernel_rfl) trivial, trivial⟩ ?_
      refine AX.block ?_
      refine AX.seq ?_
      refine AX.reg (its := []) [1, 2, 4, 6, 10, 11, 15, 16, 17, 40] [0, 1, 2, 3] (s1 := ⟨[(1, .v (.string p3)), (2, .pt 0 0), (4, .pt 1 0), (6, .pt 2 0), (10, .v (.bool x8.2)), (11, .v (.int .i64 x9)), (15, .sl 3 0 x4.length), (16, .v (.int .i64 (x4.length : Int))), (17, .v (.int .i64 v7)), (40, .v (.bool (decide (x9 < 0))))], [(0, .box [.bs false 2 (List.map enc_si p1), .v (.int .i64 p2)]), (1, .box [.v (.int .i64 0), .v (.int .i64 0)]), (2, .box [.v (.int .i64 v5), .v (.int .i64 v6)]), (3, .arr 1 (List.map enc_s x4))]⟩) (C := True) (by kernel_rfl) trivial trivial ?_
      rcases bool_cases (decide (x9 < 0)) with b7 | b7
      · replace h := cd_t b7 h
        refine AX.condT (decide (x9 < 0)) (by kernel_rfl) b7 ?_
        refine AX.seq ?_
        refine AX.reg (its := []) [4, 5] [1] (s1 := ⟨[(4, .pt 1 0), (5, .v (.bool false))], [(1, .box [.v (.int .i64 0), .v (.int .i64 0)])]⟩) (C := True) (by kernel_rfl) trivial trivial ?_
        refine AX.ret ?_
        refine fin_wk (Wk.swap 0 1 (Nat.le_of_ble_eq_true (by kernel_rfl)) (Nat.le_of_ble_eq_true (by kernel_rfl)) rfl) ?_
        refine fin_wk (Wk.forget [4, 5] [0] (s' := ⟨[(4, .pt 0 0), (5, .v (.bool false))], [(0, .box [.v (.int .i64 0), .v (.int .i64 0)])]⟩) (by kernel_rfl)) ?_
        have hr := Option.some.inj h
        subst hr
        exact ⟨_, Wk.refl _, .inl ⟨(), rfl, rfl, rfl⟩⟩
      · replace h := cd_f b7 h
        refine AX.condF (decide (x9 < 0)) (by kernel_rfl) b7 ?_
        refine AX.seq ?_
        refine AX.reg (its := []) [1, 2, 4, 6, 11, 15, 16, 17, 44] [0, 1, 2, 3] (s1 := ⟨[(1, .v (.string p3)), (2, .pt 0 0), (4, .pt 1 0), (6, .pt 2 0), (11, .v (.int .i64 x9)), (15, .sl 3 0 x4.length), (16, .v (.int .i64 (x4.length : Int))), (17, .v (.int .i64 v7)), (44, .v (.bool x8.2))], [(0, .box [.bs false 2 (List.map enc_si p1), .v (.int .i64 p2)]), (1, .box [.v (.int .i64 0), .v (.int .i64 0)]), (2, .box [.v (.int .i64 v5), .v (.int .i64 v6)]), (3, .arr 1 (List.map enc_s x4))]⟩) (C := True) (by kernel_rfl) trivial trivial ?_
        rcases bool_cases (x8.2) with b8 | b8
        · replace h := cd_t b8 h
          refine AX.condT (x8.2) (by kernel_rfl) b8 ?_
          obtain ⟨g9, h⟩ := gd_e h
          refine AX.drw mixed (its := [.auto {}, .auto {}, .auto {}, .auto {}, .auto {}, .auto { y := some (.be 2 (enc_si (gt p1 x9)) 0) }]) [1, 2, 4, 6, 15, 16, 17] [0, 1, 2, 3] (s1 := ⟨[(1, .v (.string p3)), (2, .pt 0 0), (4, .pt 1 0), (6, .pt 2 0), (15, .sl 3 0 x4.length), (16, .v (.int .i64 (x4.length : Int))), (17, .v (.int .i64 v7))], [(0, .box [.bs false 2 (List.map enc_si p1), .v (.int .i64 p2)]), (1, .box [.v (.int .i64 0), .v (.int .i64 0)]), (2, .box [.v (.int .i64 v5), .v (.int .i64 (Go.bits .or .i64 v6 ((gt p1 x9).2)))]), (3, .arr 1 (List.map enc_s x4))]⟩) (C := ((0 ≤ x9 ∧ x9 < ((List.map enc_si p1).length : Int)) ∧ (AV.be 2 ((List.map enc_si p1).getD x9.toNat []) 0 = AV.be 2 (enc_si (gt p1 x9)) 0)) ∧ True) (by kernel_rfl) ⟨idx_bs enc_si p1 x9 2 g9, trivial⟩ trivial ?_
          refine AX.reg (its := [.auto { raw := true }]) [1, 2, 4, 6, 15, 16, 17] [0, 1, 2, 3] (s1 := ⟨[(1, .v (.string p3)), (2, .pt 0 0), (4, .pt 1 0), (6, .pt 2 0), (15, .sl 3 0 x4.length), (16, .v (.int .i64 (x4.length : Int))), (17, .v (.int .i64 (IntKind.wrap .i64 (v7 + 1))))], [(0, .box [.bs false 2 (List.map enc_si p1), .v (.int .i64 p2)]), (1, .box [.v (.int .i64 0), .v (.int .i64 0)]), (2, .box [.v (.int .i64 v5), .v (.int .i64 (Go.bits .or .i64 v6 ((gt p1 x9).2)))]), (3, .arr 1 (List.map enc_s x4))]⟩) (C := True) (by kernel_rfl) trivial trivial ?_
          refine ⟨(fu, (v5, Go.bits .or .i64 v6 ((gt p1 x9).2), IntKind.wrap .i64 (v7 + 1))), h, Nat.lt_succ_self _, ?_⟩
          refine Wk.trans (Wk.forget [1, 2, 4, 6, 15, 16, 17] [0, 1, 2, 3] (s' := ⟨[(1, .v (.string p3)), (2, .pt 0 0), (4, .pt 1 0), (6, .pt 2 0), (15, .sl 3 0 x4.length), (16, .v (.int .i64 (x4.length : Int))), (17, .v (.int .i64 (IntKind.wrap .i64 (v7 + 1))))], [(0, .box [.bs false 2 (List.map enc_si p1), .v (.int .i64 p2)]), (1, .box [.v (.int .i64 0), .v (.int .i64 0)]), (2, .box [.v (.int .i64 v5), .v (.int .i64 (Go.bits .or .i64 v6 ((gt p1 x9).2)))]), (3, .arr 1 (List.map enc_s x4))]⟩) (by kernel_rfl)) ?_
          exact Wk.refl _
        · replace h := cd_f b8 h
          refine AX.condF (x8.2) (by kernel_rfl) b8 ?_
          obtain ⟨g10, h⟩ := gd_e h
          refine AX.drw mixed (its := [.auto {}, .auto {}, .auto {}, .auto {}, .auto {}, .auto { y := some (.be 2 (enc_si (gt p1 x9)) 0) }]) [1, 2, 4, 6, 15, 16, 17] [0, 1, 2, 3] (s1 := ⟨[(1, .v (.string p3)), (2, .pt 0 0), (4, .pt 1 0), (6, .pt 2 0), (15, .sl 3 0 x4.length), (16, .v (.int .i64 (x4.length : Int))), (17, .v (.int .i64 v7))], [(0, .box [.bs false 2 (List.map enc_si p1), .v (.int .i64 p2)]), (1, .box [.v (.int .i64 0), .v (.int .i64 0)]), (2, .box [.v (.int .i64 (Go.bits .or .i64 v5 ((gt p1 x9).2))), .v (.int .i64 v6)]), (3, .arr 1 (List.map enc_s x4))]⟩) (C := ((0 ≤ x9 ∧ x9 < ((List.map enc_si p1).length : Int)) ∧ (AV.be 2 ((List.map enc_si p1).getD x9.toNat []) 0 = AV.be 2 (enc_si (gt p1 x9)) 0)) ∧ True) (by kernel_rfl) ⟨idx_bs enc_si p1 x9 2 g10, trivial⟩ trivial ?_
          refine AX.reg (its := [.auto { raw := true }]) [1, 2, 4, 6, 15, 16, 17] [0, 1, 2, 3] (s1 := ⟨[(1, .v (.string p3)), (2, .pt 0 0), (4, .pt 1 0), (6, .pt 2 0), (15, .sl 3 0 x4.length), (16, .v (.int .i64 (x4.length : Int))), (17, .v (.int .i64 (IntKind.wrap .i64 (v7 + 1))))], [(0, .box [.bs false 2 (List.map enc_si p1), .v (.int .i64 p2)]), (1, .box [.v (.int .i64 0), .v (.int .i64 0)]), (2, .box [.v (.int .i64 (Go.bits .or .i64 v5 ((gt p1 x9).2))), .v (.int .i64 v6)]), (3, .arr 1 (List.map enc_s x4))]⟩) (C := True) (by kernel_rfl) trivial trivial ?_
          refine ⟨(fu, (Go.bits .or .i64 v5 ((gt p1 x9).2), v6, IntKind.wrap .i64 (v7 + 1))), h, Nat.lt_succ_self _, ?_⟩
          refine Wk.trans (Wk.forget [1, 2, 4, 6, 15, 16, 17] [0, 1, 2, 3] (s' := ⟨[(1, .v (.string p3)), (2, .pt 0 0), (4, .pt 1 0), (6, .pt 2 0), (15, .sl 3 0 x4.length), (16, .v (.int .i64 (x4.length : Int))), (17, .v (.int .i64 (IntKind.wrap .i64 (v7 + 1))))], [(0, .box [.bs false 2 (List.map enc_si p1), .v (.int .i64 p2)]), (1, .box [.v (.int .i64 0), .v (.int .i64 0)]), (2, .box [.v (.int .i64 (Go.bits .or .i64 v5 ((gt p1 x9).2))), .v (.int .i64 v6)]), (3, .arr 1 (List.map enc_s x4))]⟩) (by kernel_rfl)) ?_
          exact Wk.refl _
    · replace h := cd_f b3 h
      refine AX.condF (decide (v7 < (x4.length : Int))) (by kernel_rfl) b3 ?_
      refine AX.exit ?_
      refine fin_wk (Wk.forget [1, 2, 4, 6] [0, 1, 2] (s' := ⟨[(1, .v (.string p3)), (2, .pt 0 0), (4, .pt 1 0), (6, .pt 2 0)], [(0, .box [.bs false 2 (List.map enc_si p1), .v (.int .i64 p2)]), (1, .box [.v (.int .i64 0), .v (.int .i64 0)]), (2, .box [.v (.int .i64 v5), .v (.int .i64 v6)])]⟩) (by kernel_rfl)) ?_
      have hr := Option.some.inj h
      subst hr
      exact ⟨_, Wk.refl _, .inr ⟨(v5, v6), rfl, rfl, rfl⟩⟩

theorem s_impl_ParseArm (p1 : List (ByteArray × Int)) (p2 : Int) (p3 : ByteArray) (r : Int × Int × Bool) (h : m_impl_ParseArm p1 p2 p3 = some r) :
    Eng.Spec Tryz.prog 8 [.agg [.bs false 2 (List.map enc_si p1), .v (.int .i64 p2)], .v (.string p3)] [] (.tup [.agg [.v (.int .i64 r.1), .v (.int .i64 r.2.1)], .v (.bool r.2.2)]) [] := by
  unfold m_impl_ParseArm at h
  refine Eng.Spec.body Tryz.func8 (by kernel_rfl) rfl (by kernel_rfl) ?_
  refine AX.wkpost ?_
  refine AX.seq ?_
  refine AX.reg (its := [.auto { nk := 0 }, .auto { nk := 1 }]) [1, 2, 4] [0, 1] (s1 := ⟨[(1, .v (.string p3)), (2, .pt 0 0), (4, .pt 1 0)], [(0, .box [.bs false 2 (List.map enc_si p1), .v (.int .i64 p2)]), (1, .box [.v (.int .i64 0), .v (.int .i64 0)])]⟩) (C := True) (by kernel_rfl) trivial trivial ?_
  refine AX.seq ?_
  refine AX.reg (its := [.auto { nk := 2 }]) [1, 2, 4, 6] [0, 1, 2] (s1 := ⟨[(1, .v (.string p3)), (2, .pt 0 0), (4, .pt 1 0), (6, .pt 2 0)], [(0, .box [.bs false 2 (List.map enc_si p1), .v (.int .i64 p2)]), (1, .box [.v (.int .i64 0), .v (.int .i64 0)]), (2, .box [.v (.int .i64 0), .v (.int .i64 0)])]⟩) (C := True) (by kernel_rfl) trivial trivial ?_
  refine AX.seq ?_
  refine AX.seq ?_
  refine AX.reg (its := []) [1, 2, 4, 6, 13] [0, 1, 2] (s1 := ⟨[(1, .v (.string p3)), (2, .pt 0 0), (4, .pt 1 0), (6, .pt 2 0), (13, .v (.bool (!decide (p3 = (ByteArray.mk #[42])))))], [(0, .box [.bs false 2 (List.map enc_si p1), .v (.int .i64 p2)]), (1, .box [.v (.int .i64 0), .v (.int .i64 0)]), (2, .box [.v (.int .i64 0), .v (.int .i64 0)])]⟩) (C := True) (by kernel_rfl) trivial trivial ?_
  rcases bool_cases ((!decide (p3 = (ByteArray.mk #[42])))) with b1 | b1
  · replace h := cd_t b1 h
    refine AX.condT ((!decide (p3 = (ByteArray.mk #[42])))) (by kernel_rfl) b1 ?_
    refine AX.seq ?_
    obtain ⟨x4, e2, h⟩ := bd_e h
    refine AX.reg (its := [.auto {}, .call 32 [.v (.string p3), .v (.string (ByteArray.mk #[32]))] (handO (rho ([] ++ [3])) [] [] ++ []) (callEv [] [3] (.sl 0 0 x4.length) [.arr 1 (List.map enc_s x4)])]) [1, 2, 4, 6, 15, 16, 17] [0, 1, 2, 3] (s1 := ⟨[(1, .v (.string p3)), (2, .pt 0 0), (4, .pt 1 0), (6, .pt 2 0), (15, .sl 3 0 x4.length), (16, .v (.int .i64 (x4.length : Int))), (17, .v (.int .i64 0))], [(0, .box [.bs false 2 (List.map enc_si p1), .v (.int .i64 p2)]), (1, .box [.v (.int .i64 0), .v (.int .i64 0)]), (2, .box [.v (.int .i64 0), .v (.int .i64 0)]), (3, .arr 1 (List.map enc_s x4))]⟩) (C := ((([.v (.string p3), .v (.string (ByteArray.mk #[32]))] : List AV) = [.v (.string p3), .v (.string (ByteArray.mk #[32]))]) ∧ True) ∧ True) (by kernel_rfl) ⟨⟨rfl, trivial⟩, trivial⟩ ⟨call_ok (ks := []) (ns := [3]) (bor := []) (bobjs := []) (s_strings_Split p3 (ByteArray.mk #[32]) x4 e2) (.cons (.c1 (.c0 (.same _ (by kernel_rfl) (by kernel_rfl)))) (.cons (.c1 (.c0 (.same _ (by kernel_rfl) (by kernel_rfl)))) (.nil))) (by kernel_rfl) trivial, trivial⟩ ?_
    refine AX.block ?_
    obtain ⟨x10, e11, h⟩ := bd_e h
    refine AX.wk (Wk.forget [1, 2, 4, 6, 15, 16, 17] [0, 1, 2, 3] (s' := ⟨[(1, .v (.string p3)), (2, .pt 0 0), (4, .pt 1 0), (6, .pt 2 0), (15, .sl 3 0 x4.length), (16, .v (.int .i64 (x4.length : Int))), (17, .v (.int .i64 0))], [(0, .box [.bs false 2 (List.map enc_si p1), .v (.int .i64 p2)]), (1, .box [.v (.int .i64 0), .v (.int .i64 0)]), (2, .box [.v (.int .i64 0), .v (.int .i64 0)]), (3, .arr 1 (List.map enc_s x4))]⟩) (by kernel_rfl)) ?_
    refine AX.mono (s_impl_ParseArm_L1 p1 p2 p3 x4 FU (0, 0, 0) x10 e11) ?_
    rintro _ _ (⟨x11, rfl, rfl, rfl⟩ | ⟨x12, rfl, rfl, rfl⟩)
    · replace h := sm_l h
      refine fin_wk (Wk.forget [4, 5] [0] (s' := ⟨[(4, .pt 0 0), (5, .v (.bool false))], [(0, .box [.v (.int .i64 0), .v (.int .i64 0)])]⟩) (by kernel_rfl)) ?_
      have hr := Option.some.inj h
      subst hr
      exact ⟨_, Wk.refl _, .inr rfl, ⟨[], by kernel_rfl, trivial, [.agg [.v (.int .i64 0), .v (.int .i64 0)], .v (.bool false)], by kernel_rfl, by kernel_rfl⟩⟩
    · replace h := sm_r h
      refine AX.seq ?_
      refine AX.seq ?_
      rcases bool_cases (decide (p3 = ByteArray.empty)) with b12 | b12
      · replace h := cd_t b12 h
        refine AX.reg (its := [.auto {}, .auto { y := some (.v (.bool true)) }]) [4, 6, 65] [1, 2] (s1 := ⟨[(4, .pt 1 0), (6, .pt 2 0), (65, .v (.bool true))], [(1, .box [.v (.int .i64 0), .v (.int .i64 0)]), (2, .box [.v (.int .i64 x12.1), .v (.int .i64 x12.2)])]⟩) (C := ((True) ∧ ((.v (.bool (decide (p3 = ByteArray.empty))) : AV) = (.v (.bool true) : AV))) ∧ True) (by kernel_rfl) ⟨⟨trivial, (congrArg (fun z => AV.v (.bool z)) b12)⟩, trivial⟩ trivial ?_
        refine AX.cond_true (by kernel_rfl) ?_
        refine AX.seq ?_
        refine AX.reg (its := []) [4, 5] [1] (s1 := ⟨[(4, .pt 1 0), (5, .v (.bool false))], [(1, .box [.v (.int .i64 0), .v (.int .i64 0)])]⟩) (C := True) (by kernel_rfl) trivial trivial ?_
        refine AX.ret ?_
        refine fin_wk (Wk.swap 0 1 (Nat.le_of_ble_eq_true (by kernel_rfl)) (Nat.le_of_ble_eq_true (by kernel_rfl)) rfl) ?_
        refine fin_wk (Wk.forget [4, 5] [0] (s' := ⟨[(4, .pt 0 0), (5, .v (.bool false))], [(0, .box [.v (.int .i64 0), .v (.int .i64 0)])]⟩) (by kernel_rfl)) ?_
        have hr := Option.some.inj h
        subst hr
        exact ⟨_, Wk.refl _, .inr rfl, ⟨[], by kernel_rfl, trivial, [.agg [.v (.int .i64 0), .v (.int .i64 0)], .v (.bool false)], by kernel_rfl, by kernel_rfl⟩⟩
      · replace h := cd_f b12 h
        obtain ⟨x13, e13, h⟩ := bd_e h
        refine AX.reg (its := [.auto {}, .auto { y := some (.v (.bool false)) }, .auto {}, .auto {}, .auto {}, .call 11 [.agg [.bs false 2 (List.map enc_si p1), .v (.int .i64 p2)], .agg [.v (.int .i64 x12.1), .v (.int .i64 x12.2)]] (handO (rho ([] ++ [])) [] [] ++ []) (callEv [] [] (.v (.string x13)) [])]) [4, 6, 65] [1, 2] (s1 := ⟨[(4, .pt 1 0), (6, .pt 2 0), (65, .v (.bool (!decide (x13 = p3))))], [(1, .box [.v (.int .i64 0), .v (.int .i64 0)]), (2, .box [.v (.int .i64 x12.1), .v (.int .i64 x12.2)])]⟩) (C := ((True) ∧ ((.v (.bool (decide (p3 = ByteArray.empty))) : AV) = (.v (.bool false) : AV))) ∧ ((([.agg [.bs false 2 (List.map enc_si p1), .v (.int .i64 p2)], .agg [.v (.int .i64 x12.1), .v (.int .i64 x12.2)]] : List AV) = [.agg [.bs false 2 (List.map enc_si p1), .v (.int .i64 p2)], .agg [.v (.int .i64 x12.1), .v (.int .i64 x12.2)]]) ∧ True) ∧ True) (by kernel_rfl) ⟨⟨trivial, (congrArg (fun z => AV.v (.bool z)) b12)⟩, ⟨⟨rfl, trivial⟩, trivial⟩⟩ ⟨call_ok (ks := []) (ns := []) (bor := []) (bobjs := []) (s_impl_ArmText p1 p2 x12.1 x12.2 x13 e13) (.cons (.c1 (.agg (.cons (.same _ (by kernel_rfl) (by kernel_rfl)) (.cons (.same _ (by kernel_rfl) (by kernel_rfl)) (.nil))))) (.cons (.c1 (.agg (.cons (.same _ (by kernel_rfl) (by kernel_rfl)) (.cons (.same _ (by kernel_rfl) (by kernel_rfl)) (.nil))))) (.nil))) (by kernel_rfl) trivial, trivial⟩ ?_
        rcases bool_cases ((!decide (x13 = p3))) with b14 | b14
        · replace h := cd_t b14 h
          refine AX.condT ((!decide (x13 = p3))) (by kernel_rfl) b14 ?_
          refine AX.seq ?_
          refine AX.reg (its := []) [4, 5] [1] (s1 := ⟨[(4, .pt 1 0), (5, .v (.bool false))], [(1, .box [.v (.int .i64 0), .v (.int .i64 0)])]⟩) (C := True) (by kernel_rfl) trivial trivial ?_
          refine AX.ret ?_
          refine fin_wk (Wk.swap 0 1 (Nat.le_of_ble_eq_true (by kernel_rfl)) (Nat.le_of_ble_eq_true (by kernel_rfl)) rfl) ?_
          refine fin_wk (Wk.forget [4, 5] [0] (s' := ⟨[(4, .pt 0 0), (5, .v (.bool false))], [(0, .box [.v (.int .i64 0), .v (.int .i64 0)])]⟩) (by kernel_rfl)) ?_
          have hr := Option.some.inj h
          subst hr
          exact ⟨_, Wk.refl _, .inr rfl, ⟨[], by kernel_rfl, trivial, [.agg [.v (.int .i64 0), .v (.int .i64 0)], .v (.bool false)], by kernel_rfl, by kernel_rfl⟩⟩
        · replace h := cd_f b14 h
          refine AX.condF ((!decide (x13 = p3))) (by kernel_rfl) b14 ?_
          refine AX.skip ?_
          refine AX.seq ?_
          refine AX.reg (its := []) [4, 5] [1] (s1 := ⟨[(4, .pt 1 0), (5, .v (.bool true))], [(1, .box [.v (.int .i64 x12.1), .v (.int .i64 x12.2)])]⟩) (C := True) (by kernel_rfl) trivial trivial ?_
          refine AX.ret ?_
          refine fin_wk (Wk.swap 0 1 (Nat.le_of_ble_eq_true (by kernel_rfl)) (Nat.le_of_ble_eq_true (by kernel_rfl)) rfl) ?_
          refine fin_wk (Wk.forget [4, 5] [0] (s' := ⟨[(4, .pt 0 0), (5, .v (.bool true))], [(0, .box [.v (.int .i64 x12.1), .v (.int .i64 x12.2)])]⟩) (by kernel_rfl)) ?_
          have hr := Option.some.inj h
          subst hr
          exact ⟨_, Wk.refl _, .inr rfl, ⟨[], by kernel_rfl, trivial, [.agg [.v (.int .i64 x12.1), .v (.int .i64 x12.2)], .v (.bool true)], by kernel_rfl, by kernel_rfl⟩⟩
  · replace h := cd_f b1 h
    refine AX.condF ((!decide (p3 = (ByteArray.mk #[42])))) (by kernel_rfl) b1 ?_
    refine AX.skip ?_
    refine AX.seq ?_
    refine AX.seq ?_
    rcases bool_cases (decide (p3 = ByteArray.empty)) with b15 | b15
    · replace h := cd_t b15 h
      refine AX.reg (its := [.auto {}, .auto { y := some (.v (.bool true)) }]) [4, 6, 65] [1, 2] (s1 := ⟨[(4, .pt 1 0), (6, .pt 2 0), (65, .v (.bool true))], [(1, .box [.v (.int .i64 0), .v (.int .i64 0)]), (2, .box [.v (.int .i64 0), .v (.int .i64 0)])]⟩) (C := ((True) ∧ ((.v (.bool (decide (p3 = ByteArray.empty))) : AV) = (.v (.bool true) : AV))) ∧ True) (by kernel_rfl) ⟨⟨trivial, (congrArg (fun z => AV.v (.bool z)) b15)⟩, trivial⟩ trivial ?_
      refine AX.cond_true (by kernel_rfl) ?_
      refine AX.seq ?_
      refine AX.reg (its := []) [4, 5] [1] (s1 := ⟨[(4, .pt 1 0), (5, .v (.bool false))], [(1, .box [.v (.int .i64 0), .v (.int .i64 0)])]⟩) (C := True) (by kernel_rfl) trivial trivial ?_
      refine AX.ret ?_
      refine fin_wk (Wk.swap 0 1 (Nat.le_of_ble_eq_true (by kernel_rfl)) (Nat.le_of_ble_eq_true (by kernel_rfl)) rfl) ?_
      refine fin_wk (Wk.forget [4, 5] [0] (s' := ⟨[(4, .pt 0 0), (5, .v (.bool false))], [(0, .box [.v (.int .i64 0), .v (.int .i64 0)])]⟩) (by kernel_rfl)) ?_
      have hr := Option.some.inj h
      subst hr
      exact ⟨_, Wk.refl _, .inr rfl, ⟨[], by kernel_rfl, trivial, [.agg [.v (.int .i64 0), .v (.int .i64 0)], .v (.bool false)], by kernel_rfl, by kernel_rfl⟩⟩
    · replace h := cd_f b15 h
      obtain ⟨x14, e16, h⟩ := bd_e h
      refine AX.reg (its := [.auto {}, .auto { y := some (.v (.bool false)) }, .auto {}, .auto {}, .auto {}, .call 11 [.agg [.bs false 2 (List.map enc_si p1), .v (.int .i64 p2)], .agg [.v (.int .i64 0), .v (.int .i64 0)]] (handO (rho ([] ++ [])) [] [] ++ []) (callEv [] [] (.v (.string x14)) [])]) [4, 6, 65] [1, 2] (s1 := ⟨[(4, .pt 1 0), (6, .pt 2 0), (65, .v (.bool (!decide (x14 = p3))))], [(1, .box [.v (.int .i64 0), .v (.int .i64 0)]), (2, .box [.v (.int .i64 0), .v (.int .i64 0)])]⟩) (C := ((True) ∧ ((.v (.bool (decide (p3 = ByteArray.empty))) : AV) = (.v (.bool false) : AV))) ∧ ((([.agg [.bs false 2 (List.map enc_si p1), .v (.int .i64 p2)], .agg [.v (.int .i64 0), .v (.int .i64 0)]] : List AV) = [.agg [.bs false 2 (List.map enc_si p1), .v (.int .i64 p2)], .agg [.v (.int .i64 0), .v (.int .i64 0)]]) ∧ True) ∧ True) (by kernel_rfl) ⟨⟨trivial, (congrArg (fun z => AV.v (.bool z)) b15)⟩, ⟨⟨rfl, trivial⟩, trivial⟩⟩ ⟨call_ok (ks := []) (ns := []) (bor := []) (bobjs := []) (s_impl_ArmText p1 p2 0 0 x14 e16) (.cons (.c1 (.agg (.cons (.same _ (by kernel_rfl) (by kernel_rfl)) (.cons (.same _ (by kernel_rfl) (by kernel_rfl)) (.nil))))) (.cons (.c1 (.agg (.cons (.same _ (by kernel_rfl) (by kernel_rfl)) (.cons (.same _ (by kernel_rfl) (by kernel_rfl)) (.nil))))) (.nil))) (by kernel_rfl) trivial, trivial⟩ ?_
      rcases bool_cases ((!decide (x14 = p3))) with b17 | b17
      · replace h := cd_t b17 h
        refine AX.condT ((!decide (x14 = p3))) (by kernel_rfl) b17 ?_
        refine AX.seq ?_
        refine AX.reg (its := []) [4, 5] [1] (s1 := ⟨[(4, .pt 1 0), (5, .v (.bool false))], [(1, .box [.v (.int .i64 0), .v (.int .i64 0)])]⟩) (C := True) (by kernel_rfl) trivial trivial ?_
        refine AX.ret ?_
        refine fin_wk (Wk.swap 0 1 (Nat.le_of_ble_eq_true (by kernel_rfl)) (Nat.le_of_ble_eq_true (by kernel_rfl)) rfl) ?_
        refine fin_wk (Wk.forget [4, 5] [0] (s' := ⟨[(4, .pt 0 0), (5, .v (.bool false))], [(0, .box [.v (.int .i64 0), .v (.int .i64 0)])]⟩) (by kernel_rfl)) ?_
        have hr := Option.some.inj h
        subst hr
        exact ⟨_, Wk.refl _, .inr rfl, ⟨[], by kernel_rfl, trivial, [.agg [.v (.int .i64 0), .v (.int .i64 0)], .v (.bool false)], by kernel_rfl, by kernel_rfl⟩⟩
      · replace h := cd_f b17 h
        refine AX.condF ((!decide (x14 = p3))) (by kernel_rfl) b17 ?_
        refine AX.skip ?_
        refine AX.seq ?_
        refine AX.reg (its := []) [4, 5] [1] (s1 := ⟨[(4, .pt 1 0), (5, .v (.bool true))], [(1, .box [.v (.int .i64 0), .v (.int .i64 0)])]⟩) (C := True) (by kernel_rfl) trivial trivial ?_
        refine AX.ret ?_
        refine fin_wk (Wk.swap 0 1 (Nat.le_of_ble_eq_true (by kernel_rfl)) (Nat.le_of_ble_eq_true (by kernel_rfl)) rfl) ?_
        refine fin_wk (Wk.forget [4, 5] [0] (s' := ⟨[(4, .pt 0 0), (5, .v (.bool true))], [(0, .box [.v (.int .i64 0), .v (.int .i64 0)])]⟩) (by kernel_rfl)) ?_
        have hr := Option.some.inj h
        subst hr
        exact ⟨_, Wk.refl _, .inr rfl, ⟨[], by kernel_rfl, trivial, [.agg [.v (.int .i64 0), .v (.int .i64 0)], .v (.bool true)], by kernel_rfl, by kernel_rfl⟩⟩

theorem s_spec_inRange (p1 : Int) (p2 : Int) (p3 : Int) (r : Bool) (h : m_spec_inRange p1 p2 p3 = some r) :
    Eng.Spec Tryz.prog 69 [.v (.int .i64 p1), .v (.int .i64 p2), .v (.int .i64 p3)] [] (.v (.bool r)) [] := by
  unfold m_spec_inRange at h
  refine Eng.Spec.body Tryz.func69 (by kernel_rfl) rfl (by kernel_rfl) ?_
  refine AX.wkpost ?_
  refine AX.seq ?_
  refine AX.reg (its := []) [0, 1, 2] [] (s1 := ⟨[(0, .v (.int .i64 p1)), (1, .v (.int .i64 p2)), (2, .v (.int .i64 p3))], []⟩) (C := True) (by kernel_rfl) trivial trivial ?_
  refine AX.seq ?_
  rcases bool_cases (decide (p2 ≤ p1)) with b1 | b1
  · replace h := cd_t b1 h
    refine AX.reg (its := [.auto {}, .auto {}, .auto { y := some (.v (.bool true)) }]) [6] [] (s1 := ⟨[(6, .v (.bool (decide (p1 ≤ p3))))], []⟩) (C := ((True) ∧ ((.v (.bool (decide (p2 ≤ p1))) : AV) = (.v (.bool true) : AV))) ∧ True) (by kernel_rfl) ⟨⟨trivial, (congrArg (fun z => AV.v (.bool z)) b1)⟩, trivial⟩ trivial ?_
    refine AX.ret ?_
    refine fin_wk (Wk.forget [6] [] (s' := ⟨[(6, .v (.bool (decide (p1 ≤ p3))))], []⟩) (by kernel_rfl)) ?_
    have hr := Option.some.inj h
    subst hr
    exact ⟨_, Wk.refl _, .inr rfl, ⟨[], by kernel_rfl, trivial, [.v (.bool (decide (p1 ≤ p3)))], by kernel_rfl, by kernel_rfl⟩⟩
  · replace h := cd_f b1 h
    refine AX.reg (its := [.auto {}, .auto {}, .auto { y := some (.v (.bool false)) }]) [6] [] (s1 := ⟨[(6, .v (.bool false))], []⟩) (C := ((True) ∧ ((.v (.bool (decide (p2 ≤ p1))) : AV) = (.v (.bool false) : AV))) ∧ True) (by kernel_rfl) ⟨⟨trivial, (congrArg (fun z => AV.v (.bool z)) b1)⟩, trivial⟩ trivial ?_
    refine AX.ret ?_
    refine fin_wk (Wk.forget [6] [] (s' := ⟨[(6, .v (.bool false))], []⟩) (by kernel_rfl)) ?_
    have hr := Option.some.inj h
    subst hr
    exact ⟨_, Wk.refl _, .inr rfl, ⟨[], by kernel_rfl, trivial, [.v (.bool false)], by kernel_rfl, by kernel_rfl⟩⟩

theorem s_spec_validName_L1 (p1 : ByteArray) (n : Nat) (g : Int) (out : Unit ⊕ Unit) (h : m_spec_validName_L1 p1 n g = some out) :
    AX Tryz.prog 23 0 (codeAt [1, 0, 1, 1] (bodyOf Tryz.f111)) ((fun g : Int => (⟨[(0, .v (.string p1)), (3, .v (.int .i64 g))], []⟩ : S)) g) (fun ex s => (∃ o : Unit, out = Sum.inl o ∧ ex = .ret ∧ s = ⟨[(2, .v (.bool false))], []⟩) ∨ (∃ o : Unit, out = Sum.inr o ∧ ex = .exit 0 ∧ s = ⟨[(0, .v (.string p1))], []⟩)) := by
  refine AX.wkpost ?_
  refine AX.loop (G := Nat × (Int)) (fun q => (fun g : Int => (⟨[(0, .v (.string p1)), (3, .v (.int .i64 g))], []⟩ : S)) q.2) (fun q => m_spec_validName_L1 p1 q.1 q.2 = some out) (fun q => q.1) (n, g) h (Wk.refl _) ?_
  clear h
  rintro ⟨fu, v2⟩ h
  cases fu with
  | zero => cases h
  | succ fu =>
    rw [m_spec_validName_L1] at h
    refine AX.seq ?_
    refine AX.seq ?_
    refine AX.reg (its := []) [0, 3, 7] [] (s1 := ⟨[(0, .v (.string p1)), (3, .v (.int .i64 v2)), (7, .v (.bool (decide (v2 < (p1.size : Int)))))], []⟩) (C := True) (by kernel_rfl) trivial trivial ?_
    rcases bool_cases (decide (v2 < (p1.size : Int))) with b1 | b1
    · replace h := cd_t b1 h
      refine AX.condT (decide (v2 < (p1.size : Int))) (by kernel_rfl) b1 ?_
      refine AX.skip ?_
      refine AX.seq ?_
      refine AX.block ?_
      refine AX.seq ?_
      obtain ⟨g2, h⟩ := gd_e h
      rcases bool_cases (decide ((byteAt p1 v2.toNat) < 97)) with b3 | b3
      · replace h := cd_t b3 h
        refine AX.reg (its := [.auto {}, .auto {}, .auto {}, .auto { y := some (.v (.bool true)) }]) [0, 3, 19] [] (s1 := ⟨[(0, .v (.string p1)), (3, .v (.int .i64 v2)), (19, .v (.bool true))], []⟩) (C := (0 ≤ v2 ∧ v2 < (p1.size : Int)) ∧ ((True) ∧ ((.v (.bool (decide ((byteAt p1 v2.toNat) < 97))) : AV) = (.v (.bool true) : AV))) ∧ True) (by kernel_rfl) ⟨g2, ⟨⟨trivial, (congrArg (fun z => AV.v (.bool z)) b3)⟩, trivial⟩⟩ trivial ?_
        refine AX.cond_true (by kernel_rfl) ?_
        refine AX.seq ?_
        refine AX.reg (its := []) [2] [] (s1 := ⟨[(2, .v (.bool false))], []⟩) (C := True) (by kernel_rfl) trivial trivial ?_
        refine AX.ret ?_
        refine fin_wk (Wk.forget [2] [] (s' := ⟨[(2, .v (.bool false))], []⟩) (by kernel_rfl)) ?_
        have hr := Option.some.inj h
        subst hr
        exact ⟨_, Wk.refl _, .inl ⟨(), rfl, rfl, rfl⟩⟩
      · replace h := cd_f b3 h
        refine AX.reg (its := [.auto {}, .auto {}, .auto {}, .auto { y := some (.v (.bool false)) }]) [0, 3, 19] [] (s1 := ⟨[(0, .v (.string p1)), (3, .v (.int .i64 v2)), (19, .v (.bool (decide (122 < (byteAt p1 v2.toNat)))))], []⟩) (C := (0 ≤ v2 ∧ v2 < (p1.size : Int)) ∧ ((True) ∧ ((.v (.bool (decide ((byteAt p1 v2.toNat) < 97))) : AV) = (.v (.bool false) : AV))) ∧ (0 ≤ v2 ∧ v2 < (p1.size : Int)) ∧ True) (by kernel_rfl) ⟨g2, ⟨⟨trivial, (congrArg (fun z => AV.v (.bool z)) b3)⟩, ⟨g2, trivial⟩⟩⟩ trivial ?_
        rcases bool_cases (decide (122 < (byteAt p1 v2.toNat))) with b4 | b4
        · replace h := cd_t b4 h
          refine AX.condT (decide (122 < (byteAt p1 v2.toNat))) (by kernel_rfl) b4 ?_
          refine AX.seq ?_
          refine AX.reg (its := []) [2] [] (s1 := ⟨[(2, .v (.bool false))], []⟩) (C := True) (by kernel_rfl) trivial trivial ?_
          refine AX.ret ?_
          refine fin_wk (Wk.forget [2] [] (s' := ⟨[(2, .v (.bool false))], []⟩) (by kernel_rfl)) ?_
          have hr := Option.some.inj h
          subst hr
          exact ⟨_, Wk.refl _, .inl ⟨(), rfl, rfl, rfl⟩⟩
        · replace h := cd_f b4 h
          refine AX.condF (decide (122 < (byteAt p1 v2.toNat))) (by kernel_rfl) b4 ?_
          refine AX.skip ?_
          refine AX.reg (its := [.auto {}, .auto { raw := true }]) [0, 3] [] (s1 := ⟨[(0, .v (.string p1)), (3, .v (.int .i64 (IntKind.wrap .i64 (v2 + 1))))], []⟩) (C := True) (by kernel_rfl) trivial trivial ?_
          refine ⟨(fu, IntKind.wrap .i64 (v2 + 1)), h, Nat.lt_succ_self _, ?_⟩
          refine Wk.trans (Wk.forget [0, 3] [] (s' := ⟨[(0, .v (.string p1)), (3, .v (.int .i64 (IntKind.wrap .i64 (v2 + 1))))], []⟩) (by kernel_rfl)) ?_
          exact Wk.refl _
    · replace h := cd_f b1 h
      refine AX.condF (decide (v2 < (p1.size : Int))) (by kernel_rfl) b1 ?_
      refine AX.exit ?_
      refine fin_wk (Wk.forget [0] [] (s' := ⟨[(0, .v (.string p1))], []⟩) (by kernel_rfl)) ?_
      have hr := Option.some.inj h
      subst hr
      exact ⟨_, Wk.refl _, .inr ⟨(), rfl, rfl, rfl⟩⟩

theorem s_spec_validName (p1 : ByteArray) (r : Bool) (h : m_spec_validName p1 = some r) :
    Eng.Spec Tryz.prog 111 [.v (.string p1)] [] (.v (.bool r)) [] := by
  unfold m_spec_validName at h
  refine Eng.Spec.body Tryz.func111 (by kernel_rfl) rfl (by kernel_rfl) ?_
  refine AX.wkpost ?_
  refine AX.seq ?_
  refine AX.reg (its := []) [0] [] (s1 := ⟨[(0, .v (.string p1))], []⟩) (C := True) (by kernel_rfl) trivial trivial ?_
  refine AX.seq ?_
  refine AX.seq ?_
  refine AX.reg (its := []) [0, 3] [] (s1 := ⟨[(0, .v (.string p1)), (3, .v (.int .i64 0))], []⟩) (C := True) (by kernel_rfl) trivial trivial ?_
  refine AX.block ?_
  obtain ⟨x3, e5, h⟩ := bd_e h
  refine AX.wk (Wk.forget [0, 3] [] (s' := ⟨[(0, .v (.string p1)), (3, .v (.int .i64 0))], []⟩) (by kernel_rfl)) ?_
  refine AX.mono (s_spec_validName_L1 p1 FU 0 x3 e5) ?_
  rintro _ _ (⟨x4, rfl, rfl, rfl⟩ | ⟨x5, rfl, rfl, rfl⟩)
  · replace h := sm_l h
    refine fin_wk (Wk.forget [2] [] (s' := ⟨[(2, .v (.bool false))], []⟩) (by kernel_rfl)) ?_
    have hr := Option.some.inj h
    subst hr
    exact ⟨_, Wk.refl _, .inr rfl, ⟨[], by kernel_rfl, trivial, [.v (.bool false)], by kernel_rfl, by kernel_rfl⟩⟩
  · replace h := sm_r h
    refine AX.seq ?_
    obtain ⟨x6, e6, h⟩ := bd_e h
    refine AX.reg (its := [.auto {}, .auto {}, .call 69 [.v (.int .i64 (p1.size : Int)), .v (.int .i64 1), .v (.int .i64 6)] (handO (rho ([] ++ [])) [] [] ++ []) (callEv [] [] (.v (.bool x6)) [])]) [2] [] (s1 := ⟨[(2, .v (.bool x6))], []⟩) (C := ((([.v (.int .i64 (p1.size : Int)), .v (.int .i64 1), .v (.int .i64 6)] : List AV) = [.v (.int .i64 (p1.size : Int)), .v (.int .i64 1), .v (.int .i64 6)]) ∧ True) ∧ True) (by kernel_rfl) ⟨⟨rfl, trivial⟩, trivial⟩ ⟨call_ok (ks := []) (ns := []) (bor := []) (bobjs := []) (s_spec_inRange (p1.size : Int) 1 6 x6 e6) (.cons (.c1 (.c0 (.same _ (by kernel_rfl) (by kernel_rfl)))) (.cons (.c1 (.c0 (.same _ (by kernel_rfl) (by kernel_rfl)))) (.cons (.c1 (.c0 (.same _ (by kernel_rfl) (by kernel_rfl)))) (.nil)))) (by kernel_rfl) trivial, trivial⟩ ?_
    refine AX.ret ?_
    refine fin_wk (Wk.forget [2] [] (s' := ⟨[(2, .v (.bool x6))], []⟩) (by kernel_rfl)) ?_
    have hr := Option.some.inj h
    subst hr
    exact ⟨_, Wk.refl _, .inr rfl, ⟨[], by kernel_rfl, trivial, [.v (.bool x6)], by kernel_rfl, by kernel_rfl⟩⟩

theorem s_spec_validDefs_L1 (p1 : List (ByteArray × Int)) (p2 : Int) (p3 : Int) (n : Nat) (g : Int) (out : Unit ⊕ Unit) (h : m_spec_validDefs_L1 p1 p2 p3 n g = some out) :
    AX Tryz.prog 47 0 (codeAt [1, 0, 1, 1] (bodyOf Tryz.f68)) ((fun g : Int => (⟨[(0, .bs false 2 (List.map enc_si p1)), (1, .v (.int .i64 p2)), (2, .v (.int .i64 p3)), (7, .v (.int .i64 g))], []⟩ : S)) g) (fun ex s => (∃ o : Unit, out = Sum.inl o ∧ ex = .ret ∧ s = ⟨[(6, .v (.bool false))], []⟩) ∨ (∃ o : Unit, out = Sum.inr o ∧ ex = .exit 0 ∧ s = ⟨[(0, .bs false 2 (List.map enc_si p1))], []⟩)) := by
  refine AX.wkpost ?_
  refine AX.loop (G := Nat × (Int)) (fun q => (fun g : Int => (⟨[(0, .bs false 2 (List.map enc_si p1)), (1, .v (.int .i64 p2)), (2, .v (.int .i64 p3)), (7, .v (.int .i64 g))], []⟩ : S)) q.2) (fun q => m_spec_validDefs_L1 p1 p2 p3 q.1 q.2 = some out) (fun q => q.1) (n, g) h (Wk.refl _) ?_
  clear h
  rintro ⟨fu, v4⟩ h
  cases fu with
  | zero => cases h
  | succ fu =>
    rw [m_spec_validDefs_L1] at h
    refine AX.seq ?_
    refine AX.seq ?_
    refine AX.reg (its := [.auto {}, .auto {}, .auto { y := some (.v (.int .i64 (p1.length : Int))) }]) [0, 1, 2, 7, 11] [] (s1 := ⟨[(0, .bs false 2 (List.map enc_si p1)), (1, .v (.int .i64 p2)), (2, .v (.int .i64 p3)), (7, .v (.int .i64 v4)), (11, .v (.bool (decide (v4 < (p1.length : Int)))))], []⟩) (C := (True ∧ (AV.v (.int .i64 ((List.map enc_si p1).length : Int)) = AV.v (.int .i64 (p1.length : Int)))) ∧ True) (by kernel_rfl) ⟨⟨trivial, len_map enc_si p1⟩, trivial⟩ trivial ?_
    rcases bool_cases (decide (v4 < (p1.length : Int))) with b1 | b1
    · replace h := cd_t b1 h
      refine AX.condT (decide (v4 < (p1.length : Int))) (by kernel_rfl) b1 ?_
      refine AX.skip ?_
      refine AX.seq ?_
      refine AX.block ?_
      refine AX.seq ?_
      obtain ⟨g2, h⟩ := gd_e h
      obtain ⟨x5, e3, h⟩ := bd_e h
      rcases bool_cases ((!x5)) with b4 | b4
      · replace h := cd_t b4 h
        refine AX.drw mixed (its := [.auto {}, .auto {}, .auto { y := some (.be 2 (enc_si (gt p1 v4)) 0) }, .auto {}, .auto {}, .call 111 [.v (.string ((gt p1 v4).1))] (handO (rho ([] ++ [])) [] [] ++ []) (callEv [] [] (.v (.bool x5)) []), .auto { y := some (.v (.bool true)) }]) [0, 1, 2, 7, 43] [] (s1 := ⟨[(0, .bs false 2 (List.map enc_si p1)), (1, .v (.int .i64 p2)), (2, .v (.int .i64 p3)), (7, .v (.int .i64 v4)), (43, .v (.bool true))], []⟩) (C := ((0 ≤ v4 ∧ v4 < ((List.map enc_si p1).length : Int)) ∧ (AV.be 2 ((List.map enc_si p1).getD v4.toNat []) 0 = AV.be 2 (enc_si (gt p1 v4)) 0)) ∧ ((([.v (.string ((gt p1 v4).1))] : List AV) = [.v (.string ((gt p1 v4).1))]) ∧ True) ∧ ((True) ∧ ((.v (.bool (!x5)) : AV) = (.v (.bool true) : AV))) ∧ True) (by kernel_rfl) ⟨idx_bs enc_si p1 v4 2 g2, ⟨⟨rfl, trivial⟩, ⟨⟨trivial, (congrArg (fun z => AV.v (.bool z)) b4)⟩, trivial⟩⟩⟩ ⟨call_ok (ks := []) (ns := []) (bor := []) (bobjs := []) (s_spec_validName ((gt p1 v4).1) x5 e3) (.cons (.c1 (.c0 (.same _ (by kernel_rfl) (by kernel_rfl)))) (.nil)) (by kernel_rfl) trivial, trivial⟩ ?_
        refine AX.cond_true (by kernel_rfl) ?_
        refine AX.seq ?_
        refine AX.reg (its := []) [6] [] (s1 := ⟨[(6, .v (.bool false))], []⟩) (C := True) (by kernel_rfl) trivial trivial ?_
        refine AX.ret ?_
        refine fin_wk (Wk.forget [6] [] (s' := ⟨[(6, .v (.bool false))], []⟩) (by kernel_rfl)) ?_
        have hr := Option.some.inj h
        subst hr
        exact ⟨_, Wk.refl _, .inl ⟨(), rfl, rfl, rfl⟩⟩
      · replace h := cd_f b4 h
        obtain ⟨x6, e5, h⟩ := bd_e h
        rcases bool_cases ((!x6)) with b6 | b6
        · replace h := cd_t b6 h
          refine AX.drw mixed (its := [.auto {}, .auto {}, .auto { y := some (.be 2 (enc_si (gt p1 v4)) 0) }, .auto {}, .auto {}, .call 111 [.v (.string ((gt p1 v4).1))] (handO (rho ([] ++ [])) [] [] ++ []) (callEv [] [] (.v (.bool x5)) []), .auto { y := some (.v (.bool false)) }, .auto {}, .auto {}, .auto {}, .auto { y := some (.be 2 (enc_si (gt p1 v4)) 0) }, .auto {}, .auto {}, .auto {}, .auto {}, .call 69 [.v (.int .i64 ((gt p1 v4).2)), .v (.int .i64 p2), .v (.int .i64 p3)] (handO (rho ([] ++ [])) [] [] ++ []) (callEv [] [] (.v (.bool x6)) []), .auto { y := some (.v (.bool true)) }]) [0, 1, 2, 7, 43] [] (s1 := ⟨[(0, .bs false 2 (List.map enc_si p1)), (1, .v (.int .i64 p2)), (2, .v (.int .i64 p3)), (7, .v (.int .i64 v4)), (43, .v (.bool true))], []⟩) (C := ((0 ≤ v4 ∧ v4 < ((List.map enc_si p1).length : Int)) ∧ (AV.be 2 ((List.map enc_si p1).getD v4.toNat []) 0 = AV.be 2 (enc_si (gt p1 v4)) 0)) ∧ ((([.v (.string ((gt p1 v4).1))] : List AV) = [.v (.string ((gt p1 v4).1))]) ∧ True) ∧ ((True) ∧ ((.v (.bool (!x5)) : AV) = (.v (.bool false) : AV))) ∧ ((0 ≤ v4 ∧ v4 < ((List.map enc_si p1).length : Int)) ∧ (AV.be 2 ((List.map enc_si p1).getD v4.toNat []) 0 = AV.be 2 (enc_si (gt p1 v4)) 0)) ∧ ((([.v (.int .i64 ((gt p1 v4).2)), .v (.int .i64 p2), .v (.int .i64 p3)] : List AV) = [.v (.int .i64 ((gt p1 v4).2)), .v (.int .i64 p2), .v (.int .i64 p3)]) ∧ True) ∧ ((True) ∧ ((.v (.bool (!x6)) : AV) = (.v (.bool true) : AV))) ∧ True) (by kernel_rfl) ⟨idx_bs enc_si p1 v4 2 g2, ⟨⟨rfl, trivial⟩, ⟨⟨trivial, (congrArg (fun z => AV.v (.bool z)) b4)⟩, ⟨idx_bs enc_si p1 v4 2 g2, ⟨⟨rfl, trivial⟩, ⟨⟨trivial, (congrArg (fun z => AV.v (.bool z)) b6)⟩, trivial⟩⟩⟩⟩⟩⟩ ⟨call_ok (ks := []) (ns := []) (bor := []) (bobjs := []) (s_spec_validName ((gt p1 v4).1) x5 e3) (.cons (.c1 (.c0 (.same _ (by kernel_rfl) (by kernel_rfl)))) (.nil)) (by kernel_rfl) trivial, ⟨call_ok (ks := []) (ns := []) (bor := []) (bobjs := []) (s_spec_inRange ((gt p1 v4).2) p2 p3 x6 e5) (.cons (.c1 (.c0 (.same _ (by kernel_rfl) (by kernel_rfl)))) (.cons (.c1 (.c0 (.same _ (by kernel_rfl) (by kernel_rfl)))) (.cons (.c1 (.c0 (.same _ (by kernel_rfl) (by kernel_rfl)))) (.nil)))) (by kernel_rfl) trivial, trivial⟩⟩ ?_
          refine AX.cond_true (by kernel_rfl) ?_
          refine AX.seq ?_
          refine AX.reg (its := []) [6] [] (s1 := ⟨[(6, .v (.bool false))], []⟩) (C := True) (by kernel_rfl) trivial trivial ?_
          refine AX.ret ?_
          refine fin_wk (Wk.forget [6] [] (s' := ⟨[(6, .v (.bool false))], []⟩) (by kernel_rfl)) ?_
          have hr := Option.some.inj h
          subst hr
          exact ⟨_, Wk.refl _, .inl ⟨(), rfl, rfl, rfl⟩⟩
        · replace h := cd_f b6 h
          obtain ⟨g7, h⟩ := gd_e h
          obtain ⟨x7, e8, h⟩ := bd_e h
          refine AX.drw mixed (its := [.auto {}, .auto {}, .auto { y := some (.be 2 (enc_si (gt p1 v4)) 0) }, .auto {}, .auto {}, .call 111 [.v (.string ((gt p1 v4).1))] (handO (rho ([] ++ [])) [] [] ++ []) (callEv [] [] (.v (.bool x5)) []), .auto { y := some (.v (.bool false)) }, .auto {}, .auto {}, .auto {}, .auto { y := some (.be 2 (enc_si (gt p1 v4)) 0) }, .auto {}, .auto {}, .auto {}, .auto {}, .call 69 [.v (.int .i64 ((gt p1 v4).2)), .v (.int .i64 p2), .v (.int .i64 p3)] (handO (rho ([] ++ [])) [] [] ++ []) (callEv [] [] (.v (.bool x6)) []), .auto { y := some (.v (.bool false)) }, .auto {}, .auto {}, .auto {}, .auto {}, .auto { y := some (.bs false 2 (List.map enc_si (sub p1 (0 : Int) v4))) }, .auto {}, .auto {}, .auto { y := some (.be 2 (enc_si (gt p1 v4)) 0) }, .auto {}, .auto {}, .call 71 [.bs false 2 (List.map enc_si (sub p1 (0 : Int) v4)), .v (.string ((gt p1 v4).1))] (handO (rho ([] ++ [])) [] [] ++ []) (callEv [] [] (.v (.int .i64 x7)) [])]) [0, 1, 2, 7, 43] [] (s1 := ⟨[(0, .bs false 2 (List.map enc_si p1)), (1, .v (.int .i64 p2)), (2, .v (.int .i64 p3)), (7, .v (.int .i64 v4)), (43, .v (.bool (decide (0 ≤ x7))))], []⟩) (C := ((0 ≤ v4 ∧ v4 < ((List.map enc_si p1).length : Int)) ∧ (AV.be 2 ((List.map enc_si p1).getD v4.toNat []) 0 = AV.be 2 (enc_si (gt p1 v4)) 0)) ∧ ((([.v (.string ((gt p1 v4).1))] : List AV) = [.v (.string ((gt p1 v4).1))]) ∧ True) ∧ ((True) ∧ ((.v (.bool (!x5)) : AV) = (.v (.bool false) : AV))) ∧ ((0 ≤ v4 ∧ v4 < ((List.map enc_si p1).length : Int)) ∧ (AV.be 2 ((List.map enc_si p1).getD v4.toNat []) 0 = AV.be 2 (enc_si (gt p1 v4)) 0)) ∧ ((([.v (.int .i64 ((gt p1 v4).2)), .v (.int .i64 p2), .v (.int .i64 p3)] : List AV) = [.v (.int .i64 ((gt p1 v4).2)), .v (.int .i64 p2), .v (.int .i64 p3)]) ∧ True) ∧ ((True) ∧ ((.v (.bool (!x6)) : AV) = (.v (.bool false) : AV))) ∧ ((0 ≤ (0 : Int) ∧ (0 : Int) ≤ v4 ∧ v4 ≤ ((List.map enc_si p1).length : Int) ∧ ((List.map enc_si p1).length : Int) ≤ ((List.map enc_si p1).length : Int)) ∧ (AV.bs false 2 (((List.map enc_si p1).drop (0 : Int).toNat).take (v4.toNat - (0 : Int).toNat)) = (.bs false 2 (List.map enc_si (sub p1 (0 : Int) v4)) : AV))) ∧ ((0 ≤ v4 ∧ v4 < ((List.map enc_si p1).length : Int)) ∧ (AV.be 2 ((List.map enc_si p1).getD v4.toNat []) 0 = AV.be 2 (enc_si (gt p1 v4)) 0)) ∧ ((([.bs false 2 (List.map enc_si (sub p1 (0 : Int) v4)), .v (.string ((gt p1 v4).1))] : List AV) = [.bs false 2 (List.map enc_si (sub p1 (0 : Int) v4)), .v (.string ((gt p1 v4).1))]) ∧ True) ∧ True) (by kernel_rfl) ⟨idx_bs enc_si p1 v4 2 g2, ⟨⟨rfl, trivial⟩, ⟨⟨trivial, (congrArg (fun z => AV.v (.bool z)) b4)⟩, ⟨idx_bs enc_si p1 v4 2 g2, ⟨⟨rfl, trivial⟩, ⟨⟨trivial, (congrArg (fun z => AV.v (.bool z)) b6)⟩, ⟨⟨by first | exact g7 | simpa only [List.length_map] using g7, by first | exact sub_can enc_si p1 (0 : Int) v4 false 2 | (simp only [List.length_map]; exact sub_can enc_si p1 (0 : Int) v4 false 2)⟩, ⟨idx_bs enc_si p1 v4 2 g2, ⟨⟨rfl, trivial⟩, trivial⟩⟩⟩⟩⟩⟩⟩⟩⟩ ⟨call_ok (ks := []) (ns := []) (bor := []) (bobjs := []) (s_spec_validName ((gt p1 v4).1) x5 e3) (.cons (.c1 (.c0 (.same _ (by kernel_rfl) (by kernel_rfl)))) (.nil)) (by kernel_rfl) trivial, ⟨call_ok (ks := []) (ns := []) (bor := []) (bobjs := []) (s_spec_inRange ((gt p1 v4).2) p2 p3 x6 e5) (.cons (.c1 (.c0 (.same _ (by kernel_rfl) (by kernel_rfl)))) (.cons (.c1 (.c0 (.same _ (by kernel_rfl) (by kernel_rfl)))) (.cons (.c1 (.c0 (.same _ (by kernel_rfl) (by kernel_rfl)))) (.nil)))) (by kernel_rfl) trivial, ⟨call_ok (ks := []) (ns := []) (bor := []) (bobjs := []) (s_spec_indexOf (sub p1 (0 : Int) v4) ((gt p1 v4).1) x7 e8) (.cons (.c1 (.c0 (.same _ (by kernel_rfl) (by kernel_rfl)))) (.cons (.c1 (.c0 (.same _ (by kernel_rfl) (by kernel_rfl)))) (.nil))) (by kernel_rfl) trivial, trivial⟩⟩⟩ ?_
          rcases bool_cases (decide (0 ≤ x7)) with b9 | b9
          · replace h := cd_t b9 h
            refine AX.condT (decide (0 ≤ x7)) (by kernel_rfl) b9 ?_
            refine AX.seq ?_
            refine AX.reg (its := []) [6] [] (s1 := ⟨[(6, .v (.bool false))], []⟩) (C := True) (by kernel_rfl) trivial trivial ?_
            refine AX.ret ?_
            refine fin_wk (Wk.forget [6] [] (s' := ⟨[(6, .v (.bool false))], []⟩) (by kernel_rfl)) ?_
            have hr := Option.some.inj h
            subst hr
            exact ⟨_, Wk.refl _, .inl ⟨(), rfl, rfl, rfl⟩⟩
          · replace h := cd_f b9 h
            refine AX.condF (decide (0 ≤ x7)) (by kernel_rfl) b9 ?_
            refine AX.skip ?_
            refine AX.reg (its := [.auto {}, .auto { raw := true }]) [0, 1, 2, 7] [] (s1 := ⟨[(0, .bs false 2 (List.map enc_si p1)), (1, .v (.int .i64 p2)), (2, .v (.int .i64 p3)), (7, .v (.int .i64 (IntKind.wrap .i64 (v4 + 1))))], []⟩) (C := True) (by kernel_rfl) trivial trivial ?_
            refine ⟨(fu, IntKind.wrap .i64 (v4 + 1)), h, Nat.lt_succ_self _, ?_⟩
            refine Wk.trans (Wk.forget [0, 1, 2, 7] [] (s' := ⟨[(0, .bs false 2 (List.map enc_si p1)), (1, .v (.int .i64 p2)), (2, .v (.int .i64 p3)), (7, .v (.int .i64 (IntKind.wrap .i64 (v4 + 1))))], []⟩) (by kernel_rfl)) ?_
            exact Wk.refl _
    · replace h := cd_f b1 h
      refine AX.condF (decide (v4 < (p1.length : Int))) (by kernel_rfl) b1 ?_
      refine AX.exit ?_
      refine fin_wk (Wk.forget [0] [] (s' := ⟨[(0, .bs false 2 (List.map enc_si p1))], []⟩) (by kernel_rfl)) ?_
      have hr := Option.some.inj h
      subst hr
      exact ⟨_, Wk.refl _, .inr ⟨(), rfl, rfl, rfl⟩⟩

theorem s_spec_validDefs (p1 : List (ByteArray × Int)) (p2 : Int) (p3 : Int) (r : Bool) (h : m_spec_validDefs p1 p2 p3 = some r) :
    Eng.Spec Tryz.prog 68 [.bs false 2 (List.map enc_si p1), .v (.int .i64 p2), .v (.int .i64 p3)] [] (.v (.bool r)) [] := by
  unfold m_spec_validDefs at h
  refine Eng.Spec.body Tryz.func68 (by kernel_rfl) rfl (by kernel_rfl) ?_
  refine AX.wkpost ?_
  refine AX.seq ?_
  refine AX.reg (its := []) [0, 1, 2] [] (s1 := ⟨[(0, .bs false 2 (List.map enc_si p1)), (1, .v (.int .i64 p2)), (2, .v (.int .i64 p3))], []⟩) (C := True) (by kernel_rfl) trivial trivial ?_
  refine AX.seq ?_
  refine AX.seq ?_
  refine AX.reg (its := []) [0, 1, 2, 7] [] (s1 := ⟨[(0, .bs false 2 (List.map enc_si p1)), (1, .v (.int .i64 p2)), (2, .v (.int .i64 p3)), (7, .v (.int .i64 0))], []⟩) (C := True) (by kernel_rfl) trivial trivial ?_
  refine AX.block ?_
  obtain ⟨x8, e10, h⟩ := bd_e h
  refine AX.wk (Wk.forget [0, 1, 2, 7] [] (s' := ⟨[(0, .bs false 2 (List.map enc_si p1)), (1, .v (.int .i64 p2)), (2, .v (.int .i64 p3)), (7, .v (.int .i64 0))], []⟩) (by kernel_rfl)) ?_
  refine AX.mono (s_spec_validDefs_L1 p1 p2 p3 FU 0 x8 e10) ?_
  rintro _ _ (⟨x9, rfl, rfl, rfl⟩ | ⟨x10, rfl, rfl, rfl⟩)
  · replace h := sm_l h
    refine fin_wk (Wk.forget [6] [] (s' := ⟨[(6, .v (.bool false))], []⟩) (by kernel_rfl)) ?_
    have hr := Option.some.inj h
    subst hr
    exact ⟨_, Wk.refl _, .inr rfl, ⟨[], by kernel_rfl, trivial, [.v (.bool false)], by kernel_rfl, by kernel_rfl⟩⟩
  · replace h := sm_r h
    refine AX.seq ?_
    refine AX.reg (its := [.auto {}, .auto { y := some (.v (.int .i64 (p1.length : Int))) }]) [6] [] (s1 := ⟨[(6, .v (.bool (decide ((p1.length : Int) ≤ 12))))], []⟩) (C := (True ∧ (AV.v (.int .i64 ((List.map enc_si p1).length : Int)) = AV.v (.int .i64 (p1.length : Int)))) ∧ True) (by kernel_rfl) ⟨⟨trivial, len_map enc_si p1⟩, trivial⟩ trivial ?_
    refine AX.ret ?_
    refine fin_wk (Wk.forget [6] [] (s' := ⟨[(6, .v (.bool (decide ((p1.length : Int) ≤ 12))))], []⟩) (by kernel_rfl)) ?_
    have hr := Option.some.inj h
    subst hr
    exact ⟨_, Wk.refl _, .inr rfl, ⟨[], by kernel_rfl, trivial, [.v (.bool (decide ((p1.length : Int) ≤ 12)))], by kernel_rfl, by kernel_rfl⟩⟩

theorem s_spec_validFlag (p1 : List (ByteArray × Int)) (p2 : Int) (r : Bool) (h : m_spec_validFlag p1 p2 = some r) :
    Eng.Spec Tryz.prog 35 [.agg [.bs false 2 (List.map enc_si p1), .v (.int .i64 p2)]] [] (.v (.bool r)) [] := by
  unfold m_spec_validFlag at h
  refine Eng.Spec.body Tryz.func35 (by kernel_rfl) rfl (by kernel_rfl) ?_
  refine AX.wkpost ?_
  refine AX.seq ?_
  refine AX.reg (its := [.auto { nk := 0 }]) [1] [0] (s1 := ⟨[(1, .pt 0 0)], [(0, .box [.bs false 2 (List.map enc_si p1), .v (.int .i64 p2)])]⟩) (C := True) (by kernel_rfl) trivial trivial ?_
  refine AX.seq ?_
  obtain ⟨x3, e1, h⟩ := bd_e h
  rcases bool_cases (x3) with b2 | b2
  · replace h := cd_t b2 h
    obtain ⟨x4, e3, h⟩ := bd_e h
    refine AX.reg (its := [.auto {}, .auto {}, .call 68 [.bs false 2 (List.map enc_si p1), .v (.int .i64 0), .v (.int .i64 4095)] (handO (rho ([] ++ [])) [] [] ++ []) (callEv [] [] (.v (.bool true)) []), .auto {}, .auto {}, .auto {}, .call 69 [.v (.int .i64 p2), .v (.int .i64 0), .v (.int .i64 3)] (handO (rho ([] ++ [])) [] [] ++ []) (callEv [] [] (.v (.bool x4)) [])]) [2] [] (s1 := ⟨[(2, .v (.bool x4))], []⟩) (C := ((([.bs false 2 (List.map enc_si p1), .v (.int .i64 0), .v (.int .i64 4095)] : List AV) = [.bs false 2 (List.map enc_si p1), .v (.int .i64 0), .v (.int .i64 4095)]) ∧ True) ∧ ((([.v (.int .i64 p2), .v (.int .i64 0), .v (.int .i64 3)] : List AV) = [.v (.int .i64 p2), .v (.int .i64 0), .v (.int .i64 3)]) ∧ True) ∧ True) (by kernel_rfl) ⟨⟨rfl, trivial⟩, ⟨⟨rfl, trivial⟩, trivial⟩⟩ ⟨call_ok (ks := []) (ns := []) (bor := []) (bobjs := []) (show Eng.Spec Tryz.prog 68 [.bs false 2 (List.map enc_si p1), .v (.int .i64 0), .v (.int .i64 4095)] [] (.v (.bool true)) [] from by have q := s_spec_validDefs p1 0 4095 x3 e1; rw [b2] at q; exact q) (.cons (.c1 (.c0 (.same _ (by kernel_rfl) (by kernel_rfl)))) (.cons (.c1 (.c0 (.same _ (by kernel_rfl) (by kernel_rfl)))) (.cons (.c1 (.c0 (.same _ (by kernel_rfl) (by kernel_rfl)))) (.nil)))) (by kernel_rfl) trivial, ⟨call_ok (ks := []) (ns := []) (bor := []) (bobjs := []) (s_spec_inRange p2 0 3 x4 e3) (.cons (.c1 (.c0 (.same _ (by kernel_rfl) (by kernel_rfl)))) (.cons (.c1 (.c0 (.same _ (by kernel_rfl) (by kernel_rfl)))) (.cons (.c1 (.c0 (.same _ (by kernel_rfl) (by kernel_rfl)))) (.nil)))) (by kernel_rfl) trivial, trivial⟩⟩ ?_
    refine AX.ret ?_
    refine fin_wk (Wk.forget [2] [] (s' := ⟨[(2, .v (.bool x4))], []⟩) (by kernel_rfl)) ?_
    have hr := Option.some.inj h
    subst hr
    exact ⟨_, Wk.refl _, .inr rfl, ⟨[], by kernel_rfl, trivial, [.v (.bool x4)], by kernel_rfl, by kernel_rfl⟩⟩
  · replace h := cd_f b2 h
    refine AX.reg (its := [.auto {}, .auto {}, .call 68 [.bs false 2 (List.map enc_si p1), .v (.int .i64 0), .v (.int .i64 4095)] (handO (rho ([] ++ [])) [] [] ++ []) (callEv [] [] (.v (.bool false)) [])]) [2] [] (s1 := ⟨[(2, .v (.bool false))], []⟩) (C := ((([.bs false 2 (List.map enc_si p1), .v (.int .i64 0), .v (.int .i64 4095)] : List AV) = [.bs false 2 (List.map enc_si p1), .v (.int .i64 0), .v (.int .i64 4095)]) ∧ True) ∧ True) (by kernel_rfl) ⟨⟨rfl, trivial⟩, trivial⟩ ⟨call_ok (ks := []) (ns := []) (bor := []) (bobjs := []) (show Eng.Spec Tryz.prog 68 [.bs false 2 (List.map enc_si p1), .v (.int .i64 0), .v (.int .i64 4095)] [] (.v (.bool false)) [] from by have q := s_spec_validDefs p1 0 4095 x3 e1; rw [b2] at q; exact q) (.cons (.c1 (.c0 (.same _ (by kernel_rfl) (by kernel_rfl)))) (.cons (.c1 (.c0 (.same _ (by kernel_rfl) (by kernel_rfl)))) (.cons (.c1 (.c0 (.same _ (by kernel_rfl) (by kernel_rfl)))) (.nil)))) (by kernel_rfl) trivial, trivial⟩ ?_
    refine AX.ret ?_
    refine fin_wk (Wk.forget [2] [] (s' := ⟨[(2, .v (.bool false))], []⟩) (by kernel_rfl)) ?_
    have hr := Option.some.inj h
    subst hr
    exact ⟨_, Wk.refl _, .inr rfl, ⟨[], by kernel_rfl, trivial, [.v (.bool false)], by kernel_rfl, by kernel_rfl⟩⟩

theorem s_spec_splitAt_L1 (p1 : ByteArray) (p2 : Int) (n : Nat) (g : List (ByteArray) × Int × Int) (out : List (ByteArray) × Int) (h : m_spec_splitAt_L1 p1 p2 n g.1 g.2.1 g.2.2 = some out) :
    AX Tryz.prog 35 0 (codeAt [1, 1, 1, 0, 1, 1] (bodyOf Tryz.f70)) ((fun g : List (ByteArray) × Int × Int => (⟨[(0, .v (.string p1)), (1, .v (.int .u8 p2)), (5, .sl 0 0 g.1.length), (6, .v (.int .i64 g.2.1)), (7, .v (.int .i64 g.2.2))], [(0, .arr 1 (List.map enc_s g.1))]⟩ : S)) g) (fun ex s => ex = .exit 0 ∧ s = (fun o : List (ByteArray) × Int => (⟨[(0, .v (.string p1)), (5, .sl 0 0 o.1.length), (6, .v (.int .i64 o.2))], [(0, .arr 1 (List.map enc_s o.1))]⟩ : S)) out) := by
  refine AX.wkpost ?_
  refine AX.loop (G := Nat × (List (ByteArray) × Int × Int)) (fun q => (fun g : List (ByteArray) × Int × Int => (⟨[(0, .v (.string p1)), (1, .v (.int .u8 p2)), (5, .sl 0 0 g.1.length), (6, .v (.int .i64 g.2.1)), (7, .v (.int .i64 g.2.2))], [(0, .arr 1 (List.map enc_s g.1))]⟩ : S)) q.2) (fun q => m_spec_splitAt_L1 p1 p2 q.1 q.2.1 q.2.2.1 q.2.2.2 = some out) (fun q => q.1) (n, g) h (Wk.refl _) ?_
  clear h
  rintro ⟨fu, v3, v4, v5⟩ h
  cases fu with
  | zero => cases h
  | succ fu =>
    rw [m_spec_splitAt_L1] at h
    refine AX.seq ?_
    refine AX.seq ?_
    refine AX.reg (its := []) [0, 1, 5, 6, 7, 12] [0] (s1 := ⟨[(0, .v (.string p1)), (1, .v (.int .u8 p2)), (5, .sl 0 0 v3.length), (6, .v (.int .i64 v4)), (7, .v (.int .i64 v5)), (12, .v (.bool (decide (v5 < (p1.size : Int)))))], [(0, .arr 1 (List.map enc_s v3))]⟩) (C := True) (by kernel_rfl) trivial trivial ?_
    rcases bool_cases (decide (v5 < (p1.size : Int))) with b1 | b1
    · replace h := cd_t b1 h
      refine AX.condT (decide (v5 < (p1.size : Int))) (by kernel_rfl) b1 ?_
      refine AX.skip ?_
      refine AX.seq ?_
      refine AX.block ?_
      refine AX.seq ?_
      obtain ⟨g2, h⟩ := gd_e h
      refine AX.reg (its := []) [0, 1, 5, 6, 7, 19] [0] (s1 := ⟨[(0, .v (.string p1)), (1, .v (.int .u8 p2)), (5, .sl 0 0 v3.length), (6, .v (.int .i64 v4)), (7, .v (.int .i64 v5)), (19, .v (.bool (decide ((byteAt p1 v5.toNat) = p2))))], [(0, .arr 1 (List.map enc_s v3))]⟩) (C := (0 ≤ v5 ∧ v5 < (p1.size : Int)) ∧ True) (by kernel_rfl) ⟨g2, trivial⟩ trivial ?_
      rcases bool_cases (decide ((byteAt p1 v5.toNat) = p2)) with b3 | b3
      · replace h := cd_t b3 h
        refine AX.condT (decide ((byteAt p1 v5.toNat) = p2)) (by kernel_rfl) b3 ?_
        refine AX.seq ?_
        obtain ⟨g4, h⟩ := gd_e h
        obtain ⟨g5, h⟩ := gd_e h
        refine AX.reg (its := [.auto {}, .auto {}, .auto {}, .auto {}, .auto {}, .auto { nk := 1 }, .auto { y := some (.sl 2 0 ((v3 ++ ([p1.extract v4.toNat v5.toNat] : List (ByteArray))).length)), els := some (List.map enc_s v3), els2 := some (List.map enc_s ([p1.extract v4.toNat v5.toNat] : List (ByteArray))), nk := 2 }]) [0, 1, 5, 7] [2] (s1 := ⟨[(0, .v (.string p1)), (1, .v (.int .u8 p2)), (5, .sl 2 0 ((v3 ++ ([p1.extract v4.toNat v5.toNat] : List (ByteArray))).length)), (7, .v (.int .i64 v5))], [(2, .arr 1 (List.map enc_s v3 ++ List.map enc_s ([p1.extract v4.toNat v5.toNat] : List (ByteArray))))]⟩) (C := (0 ≤ v4 ∧ v4 ≤ v5 ∧ v5 ≤ (p1.size : Int)) ∧ ((((((List.map enc_s v3).drop 0).take (v3.length) = List.map enc_s v3) ∧ (((List.map enc_s ([p1.extract v4.toNat v5.toNat] : List (ByteArray))).drop 0).take (([p1.extract v4.toNat v5.toNat] : List (ByteArray)).length) = List.map enc_s ([p1.extract v4.toNat v5.toNat] : List (ByteArray)))) ∧ (List.map enc_s v3).length + (List.map enc_s ([p1.extract v4.toNat v5.toNat] : List (ByteArray))).length ≤ 1099511627776) ∧ (AV.sl 2 0 (List.map enc_s v3 ++ List.map enc_s ([p1.extract v4.toNat v5.toNat] : List (ByteArray))).length = AV.sl 2 0 (v3 ++ ([p1.extract v4.toNat v5.toNat] : List (ByteArray))).length)) ∧ True) (by kernel_rfl) ⟨g4, ⟨⟨⟨⟨(dt_all (enc := enc_s) rfl rfl), (dt_all (enc := enc_s) rfl rfl)⟩, (by simp only [List.length_map, List.length_nil, List.length_replicate]; simpa using g5)⟩, sl_len (enc := enc_s) (app_can (enc := enc_s) rfl (rfl))⟩, trivial⟩⟩ trivial ?_
        refine AX.reg (its := [.auto {}, .auto { raw := true }]) [0, 1, 5, 6, 7] [2] (s1 := ⟨[(0, .v (.string p1)), (1, .v (.int .u8 p2)), (5, .sl 2 0 ((v3 ++ ([p1.extract v4.toNat v5.toNat] : List (ByteArray))).length)), (6, .v (.int .i64 (IntKind.wrap .i64 (v5 + 1)))), (7, .v (.int .i64 v5))], [(2, .arr 1 (List.map enc_s v3 ++ List.map enc_s ([p1.extract v4.toNat v5.toNat] : List (ByteArray))))]⟩) (C := True) (by kernel_rfl) trivial trivial ?_
        refine AX.reg (its := [.auto {}, .auto { raw := true }]) [0, 1, 5, 6, 7] [2] (s1 := ⟨[(0, .v (.string p1)), (1, .v (.int .u8 p2)), (5, .sl 2 0 ((v3 ++ ([p1.extract v4.toNat v5.toNat] : List (ByteArray))).length)), (6, .v (.int .i64 (IntKind.wrap .i64 (v5 + 1)))), (7, .v (.int .i64 (IntKind.wrap .i64 (v5 + 1))))], [(2, .arr 1 (List.map enc_s v3 ++ List.map enc_s ([p1.extract v4.toNat v5.toNat] : List (ByteArray))))]⟩) (C := True) (by kernel_rfl) trivial trivial ?_
        refine ⟨(fu, (v3 ++ ([p1.extract v4.toNat v5.toNat] : List (ByteArray)), IntKind.wrap .i64 (v5 + 1), IntKind.wrap .i64 (v5 + 1))), h, Nat.lt_succ_self _, ?_⟩
        refine Wk.trans (Wk.swap 0 2 (Nat.le_of_ble_eq_true (by kernel_rfl)) (Nat.le_of_ble_eq_true (by kernel_rfl)) rfl) ?_
        refine Wk.trans (Wk.forget [0, 1, 5, 6, 7] [0] (s' := ⟨[(0, .v (.string p1)), (1, .v (.int .u8 p2)), (5, .sl 0 0 ((v3 ++ ([p1.extract v4.toNat v5.toNat] : List (ByteArray))).length)), (6, .v (.int .i64 (IntKind.wrap .i64 (v5 + 1)))), (7, .v (.int .i64 (IntKind.wrap .i64 (v5 + 1))))], [(0, .arr 1 (List.map enc_s v3 ++ List.map enc_s ([p1.extract v4.toNat v5.toNat] : List (ByteArray))))]⟩) (by kernel_rfl)) ?_
        refine Wk.trans (Wk.of_eq (congrArg (fun z => (⟨[(0, .v (.string p1)), (1, .v (.int .u8 p2)), (5, .sl 0 0 ((v3 ++ ([p1.extract v4.toNat v5.toNat] : List (ByteArray))).length)), (6, .v (.int .i64 (IntKind.wrap .i64 (v5 + 1)))), (7, .v (.int .i64 (IntKind.wrap .i64 (v5 + 1))))], [(0, .arr 1 (z))]⟩ : S)) (app_can (enc := enc_s) rfl (rfl) : List.map enc_s v3 ++ List.map enc_s ([p1.extract v4.toNat v5.toNat] : List (ByteArray)) = List.map enc_s (v3 ++ ([p1.extract v4.toNat v5.toNat] : List (ByteArray)))))) ?_
        exact Wk.refl _
      · replace h := cd_f b3 h
        refine AX.condF (decide ((byteAt p1 v5.toNat) = p2)) (by kernel_rfl) b3 ?_
        refine AX.skip ?_
        refine AX.reg (its := [.auto {}, .auto { raw := true }]) [0, 1, 5, 6, 7] [0] (s1 := ⟨[(0, .v (.string p1)), (1, .v (.int .u8 p2)), (5, .sl 0 0 v3.length), (6, .v (.int .i64 v4)), (7, .v (.int .i64 (IntKind.wrap .i64 (v5 + 1))))], [(0, .arr 1 (List.map enc_s v3))]⟩) (C := True) (by kernel_rfl) trivial trivial ?_
        refine ⟨(fu, (v3, v4, IntKind.wrap .i64 (v5 + 1))), h, Nat.lt_succ_self _, ?_⟩
        refine Wk.trans (Wk.forget [0, 1, 5, 6, 7] [0] (s' := ⟨[(0, .v (.string p1)), (1, .v (.int .u8 p2)), (5, .sl 0 0 v3.length), (6, .v (.int .i64 v4)), (7, .v (.int .i64 (IntKind.wrap .i64 (v5 + 1))))], [(0, .arr 1 (List.map enc_s v3))]⟩) (by kernel_rfl)) ?_
        exact Wk.refl _
    · replace h := cd_f b1 h
      refine AX.condF (decide (v5 < (p1.size : Int))) (by kernel_rfl) b1 ?_
      refine AX.exit ?_
      refine fin_wk (Wk.forget [0, 5, 6] [0] (s' := ⟨[(0, .v (.string p1)), (5, .sl 0 0 v3.length), (6, .v (.int .i64 v4))], [(0, .arr 1 (List.map enc_s v3))]⟩) (by kernel_rfl)) ?_
      have hr := Option.some.inj h
      subst hr
      exact ⟨_, Wk.refl _, ⟨rfl, rfl⟩⟩

theorem s_spec_splitAt (p1 : ByteArray) (p2 : Int) (r : List (ByteArray)) (h : m_spec_splitAt p1 p2 = some r) :
    Eng.Spec Tryz.prog 70 [.v (.string p1), .v (.int .u8 p2)] [] (.sl 0 0 r.length) [.arr 1 (List.map enc_s r)] := by
  unfold m_spec_splitAt at h
  refine Eng.Spec.body Tryz.func70 (by kernel_rfl) rfl (by kernel_rfl) ?_
  refine AX.wkpost ?_
  refine AX.seq ?_
  refine AX.reg (its := []) [0, 1] [] (s1 := ⟨[(0, .v (.string p1)), (1, .v (.int .u8 p2))], []⟩) (C := True) (by kernel_rfl) trivial trivial ?_
  refine AX.seq ?_
  refine AX.reg (its := [.auto { nk := 0 }]) [0, 1, 5] [0] (s1 := ⟨[(0, .v (.string p1)), (1, .v (.int .u8 p2)), (5, .sl 0 0 (([] : List (ByteArray)).length))], [(0, .arr 1 (List.map enc_s ([] : List (ByteArray))))]⟩) (C := True) (by kernel_rfl) trivial trivial ?_
  refine AX.seq ?_
  refine AX.reg (its := []) [0, 1, 5, 6] [0] (s1 := ⟨[(0, .v (.string p1)), (1, .v (.int .u8 p2)), (5, .sl 0 0 (([] : List (ByteArray)).length)), (6, .v (.int .i64 0))], [(0, .arr 1 (List.map enc_s ([] : List (ByteArray))))]⟩) (C := True) (by kernel_rfl) trivial trivial ?_
  refine AX.seq ?_
  refine AX.seq ?_
  refine AX.reg (its := []) [0, 1, 5, 6, 7] [0] (s1 := ⟨[(0, .v (.string p1)), (1, .v (.int .u8 p2)), (5, .sl 0 0 (([] : List (ByteArray)).length)), (6, .v (.int .i64 0)), (7, .v (.int .i64 0))], [(0, .arr 1 (List.map enc_s ([] : List (ByteArray))))]⟩) (C := True) (by kernel_rfl) trivial trivial ?_
  refine AX.block ?_
  obtain ⟨x6, e6, h⟩ := bd_e h
  refine AX.wk (Wk.forget [0, 1, 5, 6, 7] [0] (s' := ⟨[(0, .v (.string p1)), (1, .v (.int .u8 p2)), (5, .sl 0 0 (([] : List (ByteArray)).length)), (6, .v (.int .i64 0)), (7, .v (.int .i64 0))], [(0, .arr 1 (List.map enc_s ([] : List (ByteArray))))]⟩) (by kernel_rfl)) ?_
  refine AX.mono (s_spec_splitAt_L1 p1 p2 FU (([] : List (ByteArray)), 0, 0) x6 e6) ?_
  rintro _ _ ⟨rfl, rfl⟩
  skip
  refine AX.seq ?_
  obtain ⟨g7, h⟩ := gd_e h
  obtain ⟨g8, h⟩ := gd_e h
  refine AX.reg (its := [.auto {}, .auto {}, .auto {}, .auto {}, .auto { nk := 1 }, .auto { y := some (.sl 2 0 ((x6.1 ++ ([p1.extract x6.2.toNat (p1.size : Int).toNat] : List (ByteArray))).length)), els := some (List.map enc_s x6.1), els2 := some (List.map enc_s ([p1.extract x6.2.toNat (p1.size : Int).toNat] : List (ByteArray))), nk := 2 }]) [4] [2] (s1 := ⟨[(4, .sl 2 0 ((x6.1 ++ ([p1.extract x6.2.toNat (p1.size : Int).toNat] : List (ByteArray))).length))], [(2, .arr 1 (List.map enc_s x6.1 ++ List.map enc_s ([p1.extract x6.2.toNat (p1.size : Int).toNat] : List (ByteArray))))]⟩) (C := (0 ≤ x6.2 ∧ x6.2 ≤ (p1.size : Int) ∧ (p1.size : Int) ≤ (p1.size : Int)) ∧ ((((((List.map enc_s x6.1).drop 0).take (x6.1.length) = List.map enc_s x6.1) ∧ (((List.map enc_s ([p1.extract x6.2.toNat (p1.size : Int).toNat] : List (ByteArray))).drop 0).take (([p1.extract x6.2.toNat (p1.size : Int).toNat] : List (ByteArray)).length) = List.map enc_s ([p1.extract x6.2.toNat (p1.size : Int).toNat] : List (ByteArray)))) ∧ (List.map enc_s x6.1).length + (List.map enc_s ([p1.extract x6.2.toNat (p1.size : Int).toNat] : List (ByteArray))).length ≤ 1099511627776) ∧ (AV.sl 2 0 (List.map enc_s x6.1 ++ List.map enc_s ([p1.extract x6.2.toNat (p1.size : Int).toNat] : List (ByteArray))).length = AV.sl 2 0 (x6.1 ++ ([p1.extract x6.2.toNat (p1.size : Int).toNat] : List (ByteArray))).length)) ∧ True) (by kernel_rfl) ⟨g7, ⟨⟨⟨⟨(dt_all (enc := enc_s) rfl rfl), (dt_all (enc := enc_s) rfl rfl)⟩, (by simp only [List.length_map, List.length_nil, List.length_replicate]; simpa using g8)⟩, sl_len (enc := enc_s) (app_can (enc := enc_s) rfl (rfl))⟩, trivial⟩⟩ trivial ?_
  refine AX.ret ?_
  refine fin_wk (Wk.swap 0 2 (Nat.le_of_ble_eq_true (by kernel_rfl)) (Nat.le_of_ble_eq_true (by kernel_rfl)) rfl) ?_
  refine fin_wk (Wk.forget [4] [0] (s' := ⟨[(4, .sl 0 0 ((x6.1 ++ ([p1.extract x6.2.toNat (p1.size : Int).toNat] : List (ByteArray))).length))], [(0, .arr 1 (List.map enc_s x6.1 ++ List.map enc_s ([p1.extract x6.2.toNat (p1.size : Int).toNat] : List (ByteArray))))]⟩) (by kernel_rfl)) ?_
  refine fin_wk (Wk.of_eq (congrArg (fun z => (⟨[(4, .sl 0 0 ((x6.1 ++ ([p1.extract x6.2.toNat (p1.size : Int).toNat] : List (ByteArray))).length))], [(0, .arr 1 (z))]⟩ : S)) (app_can (enc := enc_s) rfl (rfl) : List.map enc_s x6.1 ++ List.map enc_s ([p1.extract x6.2.toNat (p1.size : Int).toNat] : List (ByteArray)) = List.map enc_s (x6.1 ++ ([p1.extract x6.2.toNat (p1.size : Int).toNat] : List (ByteArray)))))) ?_
  have hr := Option.some.inj h
  subst hr
  exact ⟨_, Wk.refl _, .inr rfl, ⟨[0], by kernel_rfl, ⟨rfl, trivial⟩, [.sl 0 0 ((x6.1 ++ ([p1.extract x6.2.toNat (p1.size : Int).toNat] : List (ByteArray))).length)], by kernel_rfl, by kernel_rfl⟩⟩

theorem s_spec_either (p1 : Int) (p2 : Int) (r : Int) (h : m_spec_either p1 p2 = some r) :
    Eng.Spec Tryz.prog 72 [.v (.int .i64 p1), .v (.int .i64 p2)] [] (.v (.int .i64 r)) [] := by
  unfold m_spec_either at h
  refine Eng.Spec.body Tryz.func72 (by kernel_rfl) rfl (by kernel_rfl) ?_
  refine AX.wkpost ?_
  refine AX.seq ?_
  refine AX.reg (its := []) [0, 1] [] (s1 := ⟨[(0, .v (.int .i64 p1)), (1, .v (.int .i64 p2))], []⟩) (C := True) (by kernel_rfl) trivial trivial ?_
  refine AX.seq ?_
  obtain ⟨x3, e1, h⟩ := bd_e h
  refine AX.reg (its := [.auto {}, .auto {}, .auto { raw := true }, .auto {}, .auto {}, .call 61 [.v (.int .i64 p1), .v (.int .i64 p2)] (handO (rho ([] ++ [])) [] [] ++ []) (callEv [] [] (.v (.int .i64 x3)) []), .auto { raw := true }]) [4] [] (s1 := ⟨[(4, .v (.int .i64 (IntKind.wrap .i64 ((IntKind.wrap .i64 (p1 + p2)) - x3))))], []⟩) (C := ((([.v (.int .i64 p1), .v (.int .i64 p2)] : List AV) = [.v (.int .i64 p1), .v (.int .i64 p2)]) ∧ True) ∧ True) (by kernel_rfl) ⟨⟨rfl, trivial⟩, trivial⟩ ⟨call_ok (ks := []) (ns := []) (bor := []) (bobjs := []) (s_spec_both p1 p2 x3 e1) (.cons (.c1 (.c0 (.same _ (by kernel_rfl) (by kernel_rfl)))) (.cons (.c1 (.c0 (.same _ (by kernel_rfl) (by kernel_rfl)))) (.nil))) (by kernel_rfl) trivial, trivial⟩ ?_
  refine AX.ret ?_
  refine fin_wk (Wk.forget [4] [] (s' := ⟨[(4, .v (.int .i64 (IntKind.wrap .i64 ((IntKind.wrap .i64 (p1 + p2)) - x3))))], []⟩) (by kernel_rfl)) ?_
  have hr := Option.some.inj h
  subst hr
  exact ⟨_, Wk.refl _, .inr rfl, ⟨[], by kernel_rfl, trivial, [.v (.int .i64 (IntKind.wrap .i64 ((IntKind.wrap .i64 (p1 + p2)) - x3)))], by kernel_rfl, by kernel_rfl⟩⟩

theorem s_spec_mask_L1 (p1 : List (ByteArray × Int)) (n : Nat) (g : Int × Int) (out : Int) (h : m_spec_mask_L1 p1 n g.1 g.2 = some out) :
    AX Tryz.prog 19 0 (codeAt [1, 1, 0, 1, 1] (bodyOf Tryz.f112)) ((fun g : Int × Int => (⟨[(0, .bs false 2 (List.map enc_si p1)), (3, .v (.int .i64 g.1)), (4, .v (.int .i64 g.2))], []⟩ : S)) g) (fun ex s => ex = .exit 0 ∧ s = (fun o : Int => (⟨[(3, .v (.int .i64 o))], []⟩ : S)) out) := by
  refine AX.wkpost ?_
  refine AX.loop (G := Nat × (Int × Int)) (fun q => (fun g : Int × Int => (⟨[(0, .bs false 2 (List.map enc_si p1)), (3, .v (.int .i64 g.1)), (4, .v (.int .i64 g.2))], []⟩ : S)) q.2) (fun q => m_spec_mask_L1 p1 q.1 q.2.1 q.2.2 = some out) (fun q => q.1) (n, g) h (Wk.refl _) ?_
  clear h
  rintro ⟨fu, v2, v3⟩ h
  cases fu with
  | zero => cases h
  | succ fu =>
    rw [m_spec_mask_L1] at h
    refine AX.seq ?_
    refine AX.seq ?_
    refine AX.reg (its := [.auto {}, .auto {}, .auto { y := some (.v (.int .i64 (p1.length : Int))) }]) [0, 3, 4, 8] [] (s1 := ⟨[(0, .bs false 2 (List.map enc_si p1)), (3, .v (.int .i64 v2)), (4, .v (.int .i64 v3)), (8, .v (.bool (decide (v3 < (p1.length : Int)))))], []⟩) (C := (True ∧ (AV.v (.int .i64 ((List.map enc_si p1).length : Int)) = AV.v (.int .i64 (p1.length : Int)))) ∧ True) (by kernel_rfl) ⟨⟨trivial, len_map enc_si p1⟩, trivial⟩ trivial ?_
    rcases bool_cases (decide (v3 < (p1.length : Int))) with b1 | b1
    · replace h := cd_t b1 h
      refine AX.condT (decide (v3 < (p1.length : Int))) (by kernel_rfl) b1 ?_
      refine AX.skip ?_
      refine AX.seq ?_
      refine AX.block ?_
      obtain ⟨g2, h⟩ := gd_e h
      obtain ⟨x4, e3, h⟩ := bd_e h
      refine AX.reg (its := [.auto {}, .auto {}, .auto {}, .auto { y := some (.be 2 (enc_si (gt p1 v3)) 0) }, .auto {}, .auto {}, .call 72 [.v (.int .i64 v2), .v (.int .i64 ((gt p1 v3).2))] (handO (rho ([] ++ [])) [] [] ++ []) (callEv [] [] (.v (.int .i64 x4)) [])]) [0, 3, 4] [] (s1 := ⟨[(0, .bs false 2 (List.map enc_si p1)), (3, .v (.int .i64 x4)), (4, .v (.int .i64 v3))], []⟩) (C := ((0 ≤ v3 ∧ v3 < ((List.map enc_si p1).length : Int)) ∧ (AV.be 2 ((List.map enc_si p1).getD v3.toNat []) 0 = AV.be 2 (enc_si (gt p1 v3)) 0)) ∧ ((([.v (.int .i64 v2), .v (.int .i64 ((gt p1 v3).2))] : List AV) = [.v (.int .i64 v2), .v (.int .i64 ((gt p1 v3).2))]) ∧ True) ∧ True) (by kernel_rfl) ⟨idx_bs enc_si p1 v3 2 g2, ⟨⟨rfl, trivial⟩, trivial⟩⟩ ⟨call_ok (ks := []) (ns := []) (bor := []) (bobjs := []) (s_spec_either v2 ((gt p1 v3).2) x4 e3) (.cons (.c1 (.c0 (.same _ (by kernel_rfl) (by kernel_rfl)))) (.cons (.c1 (.c0 (.same _ (by kernel_rfl) (by kernel_rfl)))) (.nil))) (by kernel_rfl) trivial, trivial⟩ ?_
      refine AX.reg (its := [.auto {}, .auto { raw := true }]) [0, 3, 4] [] (s1 := ⟨[(0, .bs false 2 (List.map enc_si p1)), (3, .v (.int .i64 x4)), (4, .v (.int .i64 (IntKind.wrap .i64 (v3 + 1))))], []⟩) (C := True) (by kernel_rfl) trivial trivial ?_
      refine ⟨(fu, (x4, IntKind.wrap .i64 (v3 + 1))), h, Nat.lt_succ_self _, ?_⟩
      refine Wk.trans (Wk.forget [0, 3, 4] [] (s' := ⟨[(0, .bs false 2 (List.map enc_si p1)), (3, .v (.int .i64 x4)), (4, .v (.int .i64 (IntKind.wrap .i64 (v3 + 1))))], []⟩) (by kernel_rfl)) ?_
      exact Wk.refl _
    · replace h := cd_f b1 h
      refine AX.condF (decide (v3 < (p1.length : Int))) (by kernel_rfl) b1 ?_
      refine AX.exit ?_
      refine fin_wk (Wk.forget [3] [] (s' := ⟨[(3, .v (.int .i64 v2))], []⟩) (by kernel_rfl)) ?_
      have hr := Option.some.inj h
      subst hr
      exact ⟨_, Wk.refl _, ⟨rfl, rfl⟩⟩

theorem s_spec_mask (p1 : List (ByteArray × Int)) (r : Int) (h : m_spec_mask p1 = some r) :
    Eng.Spec Tryz.prog 112 [.bs false 2 (List.map enc_si p1)] [] (.v (.int .i64 r)) [] := by
  unfold m_spec_mask at h
  refine Eng.Spec.body Tryz.func112 (by kernel_rfl) rfl (by kernel_rfl) ?_
  refine AX.wkpost ?_
  refine AX.seq ?_
  refine AX.reg (its := []) [0] [] (s1 := ⟨[(0, .bs false 2 (List.map enc_si p1))], []⟩) (C := True) (by kernel_rfl) trivial trivial ?_
  refine AX.seq ?_
  refine AX.reg (its := []) [0, 3] [] (s1 := ⟨[(0, .bs false 2 (List.map enc_si p1)), (3, .v (.int .i64 0))], []⟩) (C := True) (by kernel_rfl) trivial trivial ?_
  refine AX.seq ?_
  refine AX.seq ?_
  refine AX.reg (its := []) [0, 3, 4] [] (s1 := ⟨[(0, .bs false 2 (List.map enc_si p1)), (3, .v (.int .i64 0)), (4, .v (.int .i64 0))], []⟩) (C := True) (by kernel_rfl) trivial trivial ?_
  refine AX.block ?_
  obtain ⟨x5, e4, h⟩ := bd_e h
  refine AX.wk (Wk.forget [0, 3, 4] [] (s' := ⟨[(0, .bs false 2 (List.map enc_si p1)), (3, .v (.int .i64 0)), (4, .v (.int .i64 0))], []⟩) (by kernel_rfl)) ?_
  refine AX.mono (s_spec_mask_L1 p1 FU (0, 0) x5 e4) ?_
  rintro _ _ ⟨rfl, rfl⟩
  skip
  refine AX.seq ?_
  refine AX.reg (its := []) [2] [] (s1 := ⟨[(2, .v (.int .i64 x5))], []⟩) (C := True) (by kernel_rfl) trivial trivial ?_
  refine AX.ret ?_
  refine fin_wk (Wk.forget [2] [] (s' := ⟨[(2, .v (.int .i64 x5))], []⟩) (by kernel_rfl)) ?_
  have hr := Option.some.inj h
  subst hr
  exact ⟨_, Wk.refl _, .inr rfl, ⟨[], by kernel_rfl, trivial, [.v (.int .i64 x5)], by kernel_rfl, by kernel_rfl⟩⟩

theorem s_spec_less (p1 : Int) (p2 : Int) (r : Int) (h : m_spec_less p1 p2 = some r) :
    Eng.Spec Tryz.prog 113 [.v (.int .i64 p1), .v (.int .i64 p2)] [] (.v (.int .i64 r)) [] := by
  unfold m_spec_less at h
  refine Eng.Spec.body Tryz.func113 (by kernel_rfl) rfl (by kernel_rfl) ?_
  refine AX.wkpost ?_
  refine AX.seq ?_
  refine AX.reg (its := []) [0, 1] [] (s1 := ⟨[(0, .v (.int .i64 p1)), (1, .v (.int .i64 p2))], []⟩) (C := True) (by kernel_rfl) trivial trivial ?_
  refine AX.seq ?_
  obtain ⟨x3, e1, h⟩ := bd_e h
  refine AX.reg (its := [.auto {}, .auto {}, .auto {}, .call 61 [.v (.int .i64 p1), .v (.int .i64 p2)] (handO (rho ([] ++ [])) [] [] ++ []) (callEv [] [] (.v (.int .i64 x3)) []), .auto { raw := true }]) [4] [] (s1 := ⟨[(4, .v (.int .i64 (IntKind.wrap .i64 (p1 - x3))))], []⟩) (C := ((([.v (.int .i64 p1), .v (.int .i64 p2)] : List AV) = [.v (.int .i64 p1), .v (.int .i64 p2)]) ∧ True) ∧ True) (by kernel_rfl) ⟨⟨rfl, trivial⟩, trivial⟩ ⟨call_ok (ks := []) (ns := []) (bor := []) (bobjs := []) (s_spec_both p1 p2 x3 e1) (.cons (.c1 (.c0 (.same _ (by kernel_rfl) (by kernel_rfl)))) (.cons (.c1 (.c0 (.same _ (by kernel_rfl) (by kernel_rfl)))) (.nil))) (by kernel_rfl) trivial, trivial⟩ ?_
  refine AX.ret ?_
  refine fin_wk (Wk.forget [4] [] (s' := ⟨[(4, .v (.int .i64 (IntKind.wrap .i64 (p1 - x3))))], []⟩) (by kernel_rfl)) ?_
  have hr := Option.some.inj h
  subst hr
  exact ⟨_, Wk.refl _, .inr rfl, ⟨[], by kernel_rfl, trivial, [.v (.int .i64 (IntKind.wrap .i64 (p1 - x3)))], by kernel_rfl, by kernel_rfl⟩⟩

theorem s_spec_validArm (p1 : List (ByteArray × Int)) (p2 : Int) (p3 : Int) (p4 : Int) (r : Bool) (h : m_spec_validArm p1 p2 p3 p4 = some r) :
    Eng.Spec Tryz.prog 73 [.agg [.bs false 2 (List.map enc_si p1), .v (.int .i64 p2)], .agg [.v (.int .i64 p3), .v (.int .i64 p4)]] [] (.v (.bool r)) [] := by
  unfold m_spec_validArm at h
  refine Eng.Spec.body Tryz.func73 (by kernel_rfl) rfl (by kernel_rfl) ?_
  refine AX.wkpost ?_
  refine AX.seq ?_
  refine AX.reg (its := [.auto { nk := 0 }, .auto { nk := 1 }]) [2, 3] [0, 1] (s1 := ⟨[(2, .pt 0 0), (3, .pt 1 0)], [(0, .box [.bs false 2 (List.map enc_si p1), .v (.int .i64 p2)]), (1, .box [.v (.int .i64 p3), .v (.int .i64 p4)])]⟩) (C := True) (by kernel_rfl) trivial trivial ?_
  refine AX.seq ?_
  obtain ⟨x5, e1, h⟩ := bd_e h
  refine AX.reg (its := [.auto {}, .auto {}, .call 112 [.bs false 2 (List.map enc_si p1)] (handO (rho ([] ++ [])) [] [] ++ []) (callEv [] [] (.v (.int .i64 x5)) [])]) [2, 3, 5] [0, 1] (s1 := ⟨[(2, .pt 0 0), (3, .pt 1 0), (5, .v (.int .i64 x5))], [(0, .box [.bs false 2 (List.map enc_si p1), .v (.int .i64 p2)]), (1, .box [.v (.int .i64 p3), .v (.int .i64 p4)])]⟩) (C := ((([.bs false 2 (List.map enc_si p1)] : List AV) = [.bs false 2 (List.map enc_si p1)]) ∧ True) ∧ True) (by kernel_rfl) ⟨⟨rfl, trivial⟩, trivial⟩ ⟨call_ok (ks := []) (ns := []) (bor := []) (bobjs := []) (s_spec_mask p1 x5 e1) (.cons (.c1 (.c0 (.same _ (by kernel_rfl) (by kernel_rfl)))) (.nil)) (by kernel_rfl) trivial, trivial⟩ ?_
  refine AX.seq ?_
  obtain ⟨x6, e2, h⟩ := bd_e h
  rcases bool_cases (x6) with b3 | b3
  · replace h := cd_t b3 h
    obtain ⟨x7, e4, h⟩ := bd_e h
    rcases bool_cases (x7) with b5 | b5
    · replace h := cd_t b5 h
      obtain ⟨x8, e6, h⟩ := bd_e h
      rcases bool_cases (x8) with b7 | b7
      · replace h := cd_t b7 h
        obtain ⟨x9, e8, h⟩ := bd_e h
        rcases bool_cases (decide (x9 = 0)) with b9 | b9
        · replace h := cd_t b9 h
          obtain ⟨x10, e10, h⟩ := bd_e h
          rcases bool_cases (decide (x10 = 0)) with b11 | b11
          · replace h := cd_t b11 h
            obtain ⟨x11, e12, h⟩ := bd_e h
            refine AX.reg (its := (.auto {} :: .call 35 [.agg [.bs false 2 (List.map enc_si p1), .v (.int .i64 p2)]] (handO (rho ([] ++ [])) [] [] ++ []) (callEv [] [] (.v (.bool true)) []) :: .auto {} :: .auto {} :: .auto {} :: .call 69 [.v (.int .i64 p3), .v (.int .i64 0), .v (.int .i64 4095)] (handO (rho ([] ++ [])) [] [] ++ []) (callEv [] [] (.v (.bool true)) []) :: .auto {} :: .auto {} :: .auto {} :: .auto {} :: .call 69 [.v (.int .i64 p4), .v (.int .i64 0), .v (.int .i64 4095)] (handO (rho ([] ++ [])) [] [] ++ []) (callEv [] [] (.v (.bool true)) []) :: .auto {} :: .auto {} :: .auto {} :: .auto {} :: .auto {} :: .call 113 [.v (.int .i64 p3), .v (.int .i64 x5)] (handO (rho ([] ++ [])) [] [] ++ []) (callEv [] [] (.v (.int .i64 x9)) []) :: .auto { y := some (.v (.bool true)) } :: .auto {} :: .auto {} :: .auto {} :: .auto {} :: .auto {} :: .call 113 [.v (.int .i64 p4), .v (.int .i64 x5)] (handO (rho ([] ++ [])) [] [] ++ []) (callEv [] [] (.v (.int .i64 x10)) []) :: .auto { y := some (.v (.bool true)) } :: .auto {} :: .auto {} :: .auto {} :: .auto {} :: .auto {} :: .auto {} :: .call 61 [.v (.int .i64 p3), .v (.int .i64 p4)] (handO (rho ([] ++ [])) [] [] ++ []) (callEv [] [] (.v (.int .i64 x11)) []) :: [])) [4] [] (s1 := ⟨[(4, .v (.bool (decide (x11 = 0))))], []⟩) (C := ((([.agg [.bs false 2 (List.map enc_si p1), .v (.int .i64 p2)]] : List AV) = [.agg [.bs false 2 (List.map enc_si p1), .v (.int .i64 p2)]]) ∧ True) ∧ ((([.v (.int .i64 p3), .v (.int .i64 0), .v (.int .i64 4095)] : List AV) = [.v (.int .i64 p3), .v (.int .i64 0), .v (.int .i64 4095)]) ∧ True) ∧ ((([.v (.int .i64 p4), .v (.int .i64 0), .v (.int .i64 4095)] : List AV) = [.v (.int .i64 p4), .v (.int .i64 0), .v (.int .i64 4095)]) ∧ True) ∧ ((([.v (.int .i64 p3), .v (.int .i64 x5)] : List AV) = [.v (.int .i64 p3), .v (.int .i64 x5)]) ∧ True) ∧ ((True) ∧ ((.v (.bool (decide (x9 = 0))) : AV) = (.v (.bool true) : AV))) ∧ ((([.v (.int .i64 p4), .v (.int .i64 x5)] : List AV) = [.v (.int .i64 p4), .v (.int .i64 x5)]) ∧ True) ∧ ((True) ∧ ((.v (.bool (decide (x10 = 0))) : AV) = (.v (.bool true) : AV))) ∧ ((([.v (.int .i64 p3), .v (.int .i64 p4)] : List AV) = [.v (.int .i64 p3), .v (.int .i64 p4)]) ∧ True) ∧ True) (by kernel_rfl) ⟨⟨rfl, trivial⟩, ⟨⟨rfl, trivial⟩, ⟨⟨rfl, trivial⟩, ⟨⟨rfl, trivial⟩, ⟨⟨trivial, (congrArg (fun z => AV.v (.bool z)) b9)⟩, ⟨⟨rfl, trivial⟩, ⟨⟨trivial, (congrArg (fun z => AV.v (.bool z)) b11)⟩, ⟨⟨rfl, trivial⟩, trivial⟩⟩⟩⟩⟩⟩⟩⟩ ⟨call_ok (ks := []) (ns := []) (bor := []) (bobjs := []) (show Eng.Spec Tryz.prog 35 [.agg [.bs false 2 (List.map enc_si p1), .v (.int .i64 p2)]] [] (.v (.bool true)) [] from by have q := s_spec_validFlag p1 p2 x6 e2; rw [b3] at q; exact q) (.cons (.c1 (.agg (.cons (.same _ (by kernel_rfl) (by kernel_rfl)) (.cons (.same _ (by kernel_rfl) (by kernel_rfl)) (.nil))))) (.nil)) (by kernel_rfl) trivial, ⟨call_ok (ks := []) (ns := []) (bor := []) (bobjs := []) (show Eng.Spec Tryz.prog 69 [.v (.int .i64 p3), .v (.int .i64 0), .v (.int .i64 4095)] [] (.v (.bool true)) [] from by have q := s_spec_inRange p3 0 4095 x7 e4; rw [b5] at q; exact q) (.cons (.c1 (.c0 (.same _ (by kernel_rfl) (by kernel_rfl)))) (.cons (.c1 (.c0 (.same _ (by kernel_rfl) (by kernel_rfl)))) (.cons (.c1 (.c0 (.same _ (by kernel_rfl) (by kernel_rfl)))) (.nil)))) (by kernel_rfl) trivial, ⟨call_ok (ks := []) (ns := []) (bor := []) (bobjs := []) (show Eng.Spec Tryz.prog 69 [.v (.int .i64 p4), .v (.int .i64 0), .v (.int .i64 4095)] [] (.v (.bool true)) [] from by have q := s_spec_inRange p4 0 4095 x8 e6; rw [b7] at q; exact q) (.cons (.c1 (.c0 (.same _ (by kernel_rfl) (by kernel_rfl)))) (.cons (.c1 (.c0 (.same _ (by kernel_rfl) (by kernel_rfl)))) (.cons (.c1 (.c0 (.same _ (by kernel_rfl) (by kernel_rfl)))) (.nil)))) (by kernel_rfl) trivial, ⟨call_ok (ks := []) (ns := []) (bor := []) (bobjs := []) (s_spec_less p3 x5 x9 e8) (.cons (.c1 (.c0 (.same _ (by kernel_rfl) (by kernel_rfl)))) (.cons (.c1 (.c0 (.same _ (by kernel_rfl) (by kernel_rfl)))) (.nil))) (by kernel_rfl) trivial, ⟨call_ok (ks := []) (ns := []) (bor := []) (bobjs := []) (s_spec_less p4 x5 x10 e10) (.cons (.c1 (.c0 (.same _ (by kernel_rfl) (by kernel_rfl)))) (.cons (.c1 (.c0 (.same _ (by kernel_rfl) (by kernel_rfl)))) (.nil))) (by kernel_rfl) trivial, ⟨call_ok (ks := []) (ns := []) (bor := []) (bobjs := []) (s_spec_both p3 p4 x11 e12) (.cons (.c1 (.c0 (.same _ (by kernel_rfl) (by kernel_rfl)))) (.cons (.c1 (.c0 (.same _ (by kernel_rfl) (by kernel_rfl)))) (.nil))) (by kernel_rfl) trivial, trivial⟩⟩⟩⟩⟩⟩ ?_
            refine AX.ret ?_
            refine fin_wk (Wk.forget [4] [] (s' := ⟨[(4, .v (.bool (decide (x11 = 0))))], []⟩) (by kernel_rfl)) ?_
            have hr := Option.some.inj h
            subst hr
            exact ⟨_, Wk.refl _, .inr rfl, ⟨[], by kernel_rfl, trivial, [.v (.bool (decide (x11 = 0)))], by kernel_rfl, by kernel_rfl⟩⟩
          · replace h := cd_f b11 h
            refine AX.reg (its := [.auto {}, .call 35 [.agg [.bs false 2 (List.map enc_si p1), .v (.int .i64 p2)]] (handO (rho ([] ++ [])) [] [] ++ []) (callEv [] [] (.v (.bool true)) []), .auto {}, .auto {}, .auto {}, .call 69 [.v (.int .i64 p3), .v (.int .i64 0), .v (.int .i64 4095)] (handO (rho ([] ++ [])) [] [] ++ []) (callEv [] [] (.v (.bool true)) []), .auto {}, .auto {}, .auto {}, .auto {}, .call 69 [.v (.int .i64 p4), .v (.int .i64 0), .v (.int .i64 4095)] (handO (rho ([] ++ [])) [] [] ++ []) (callEv [] [] (.v (.bool true)) []), .auto {}, .auto {}, .auto {}, .auto {}, .auto {}, .call 113 [.v (.int .i64 p3), .v (.int .i64 x5)] (handO (rho ([] ++ [])) [] [] ++ []) (callEv [] [] (.v (.int .i64 x9)) []), .auto { y := some (.v (.bool true)) }, .auto {}, .auto {}, .auto {}, .auto {}, .auto {}, .call 113 [.v (.int .i64 p4), .v (.int .i64 x5)] (handO (rho ([] ++ [])) [] [] ++ []) (callEv [] [] (.v (.int .i64 x10)) []), .auto { y := some (.v (.bool false)) }]) [4] [] (s1 := ⟨[(4, .v (.bool false))], []⟩) (C := ((([.agg [.bs false 2 (List.map enc_si p1), .v (.int .i64 p2)]] : List AV) = [.agg [.bs false 2 (List.map enc_si p1), .v (.int .i64 p2)]]) ∧ True) ∧ ((([.v (.int .i64 p3), .v (.int .i64 0), .v (.int .i64 4095)] : List AV) = [.v (.int .i64 p3), .v (.int .i64 0), .v (.int .i64 4095)]) ∧ True) ∧ ((([.v (.int .i64 p4), .v (.int .i64 0), .v (.int .i64 4095)] : List AV) = [.v (.int .i64 p4), .v (.int .i64 0), .v (.int .i64 4095)]) ∧ True) ∧ ((([.v (.int .i64 p3), .v (.int .i64 x5)] : List AV) = [.v (.int .i64 p3), .v (.int .i64 x5)]) ∧ True) ∧ ((True) ∧ ((.v (.bool (decide (x9 = 0))) : AV) = (.v (.bool true) : AV))) ∧ ((([.v (.int .i64 p4), .v (.int .i64 x5)] : List AV) = [.v (.int .i64 p4), .v (.int .i64 x5)]) ∧ True) ∧ ((True) ∧ ((.v (.bool (decide (x10 = 0))) : AV) = (.v (.bool false) : AV))) ∧ True) (by kernel_rfl) ⟨⟨rfl, trivial⟩, ⟨⟨rfl, trivial⟩, ⟨⟨rfl, trivial⟩, ⟨⟨rfl, trivial⟩, ⟨⟨trivial, (congrArg (fun z => AV.v (.bool z)) b9)⟩, ⟨⟨rfl, trivial⟩, ⟨⟨trivial, (congrArg (fun z => AV.v (.bool z)) b11)⟩, trivial⟩⟩⟩⟩⟩⟩⟩ ⟨call_ok (ks := []) (ns := []) (bor := []) (bobjs := []) (show Eng.Spec Tryz.prog 35 [.agg [.bs false 2 (List.map enc_si p1), .v (.int .i64 p2)]] [] (.v (.bool true)) [] from by have q := s_spec_validFlag p1 p2 x6 e2; rw [b3] at q; exact q) (.cons (.c1 (.agg (.cons (.same _ (by kernel_rfl) (by kernel_rfl)) (.cons (.same _ (by kernel_rfl) (by kernel_rfl)) (.nil))))) (.nil)) (by kernel_rfl) trivial, ⟨call_ok (ks := []) (ns := []) (bor := []) (bobjs := []) (show Eng.Spec Tryz.prog 69 [.v (.int .i64 p3), .v (.int .i64 0), .v (.int .i64 4095)] [] (.v (.bool true)) [] from by have q := s_spec_inRange p3 0 4095 x7 e4; rw [b5] at q; exact q) (.cons (.c1 (.c0 (.same _ (by kernel_rfl) (by kernel_rfl)))) (.cons (.c1 (.c0 (.same _ (by kernel_rfl) (by kernel_rfl)))) (.cons (.c1 (.c0 (.same _ (by kernel_rfl) (by kernel_rfl)))) (.nil)))) (by kernel_rfl) trivial, ⟨call_ok (ks := []) (ns := []) (bor := []) (bobjs := []) (show Eng.Spec Tryz.prog 69 [.v (.int .i64 p4), .v (.int .i64 0), .v (.int .i64 4095)] [] (.v (.bool true)) [] from by have q := s_spec_inRange p4 0 4095 x8 e6; rw [b7] at q; exact q) (.cons (.c1 (.c0 (.same _ (by kernel_rfl) (by kernel_rfl)))) (.cons (.c1 (.c0 (.same _ (by kernel_rfl) (by kernel_rfl)))) (.cons (.c1 (.c0 (.same _ (by kernel_rfl) (by kernel_rfl)))) (.nil)))) (by kernel_rfl) trivial, ⟨call_ok (ks := []) (ns := []) (bor := []) (bobjs := []) (s_spec_less p3 x5 x9 e8) (.cons (.c1 (.c0 (.same _ (by kernel_rfl) (by kernel_rfl)))) (.cons (.c1 (.c0 (.same _ (by kernel_rfl) (by kernel_rfl)))) (.nil))) (by kernel_rfl) trivial, ⟨call_ok (ks := []) (ns := []) (bor := []) (bobjs := []) (s_spec_less p4 x5 x10 e10) (.cons (.c1 (.c0 (.same _ (by kernel_rfl) (by kernel_rfl)))) (.cons (.c1 (.c0 (.same _ (by kernel_rfl) (by kernel_rfl)))) (.nil))) (by kernel_rfl) trivial, trivial⟩⟩⟩⟩⟩ ?_
            refine AX.ret ?_
            refine fin_wk (Wk.forget [4] [] (s' := ⟨[(4, .v (.bool false))], []⟩) (by kernel_rfl)) ?_
            have hr := Option.some.inj h
            subst hr
            exact ⟨_, Wk.refl _, .inr rfl, ⟨[], by kernel_rfl, trivial, [.v (.bool false)], by kernel_rfl, by kernel_rfl⟩⟩
        · replace h := cd_f b9 h
          refine AX.reg (its := [.auto {}, .call 35 [.agg [.bs false 2 (List.map enc_si p1), .v (.int .i64 p2)]] (handO (rho ([] ++ [])) [] [] ++ []) (callEv [] [] (.v (.bool true)) []), .auto {}, .auto {}, .auto {}, .call 69 [.v (.int .i64 p3), .v (.int .i64 0), .v (.int .i64 4095)] (handO (rho ([] ++ [])) [] [] ++ []) (callEv [] [] (.v (.bool true)) []), .auto {}, .auto {}, .auto {}, .auto {}, .call 69 [.v (.int .i64 p4), .v (.int .i64 0), .v (.int .i64 4095)] (handO (rho ([] ++ [])) [] [] ++ []) (callEv [] [] (.v (.bool true)) []), .auto {}, .auto {}, .auto {}, .auto {}, .auto {}, .call 113 [.v (.int .i64 p3), .v (.int .i64 x5)] (handO (rho ([] ++ [])) [] [] ++ []) (callEv [] [] (.v (.int .i64 x9)) []), .auto { y := some (.v (.bool false)) }]) [4] [] (s1 := ⟨[(4, .v (.bool false))], []⟩) (C := ((([.agg [.bs false 2 (List.map enc_si p1), .v (.int .i64 p2)]] : List AV) = [.agg [.bs false 2 (List.map enc_si p1), .v (.int .i64 p2)]]) ∧ True) ∧ ((([.v (.int .i64 p3), .v (.int .i64 0), .v (.int .i64 4095)] : List AV) = [.v (.int .i64 p3), .v (.int .i64 0), .v (.int .i64 4095)]) ∧ True) ∧ ((([.v (.int .i64 p4), .v (.int .i64 0), .v (.int .i64 4095)] : List AV) = [.v (.int .i64 p4), .v (.int .i64 0), .v (.int .i64 4095)]) ∧ True) ∧ ((([.v (.int .i64 p3), .v (.int .i64 x5)] : List AV) = [.v (.int .i64 p3), .v (.int .i64 x5)]) ∧ True) ∧ ((True) ∧ ((.v (.bool (decide (x9 = 0))) : AV) = (.v (.bool false) : AV))) ∧ True) (by kernel_rfl) ⟨⟨rfl, trivial⟩, ⟨⟨rfl, trivial⟩, ⟨⟨rfl, trivial⟩, ⟨⟨rfl, trivial⟩, ⟨⟨trivial, (congrArg (fun z => AV.v (.bool z)) b9)⟩, trivial⟩⟩⟩⟩⟩ ⟨call_ok (ks := []) (ns := []) (bor := []) (bobjs := []) (show Eng.Spec Tryz.prog 35 [.agg [.bs false 2 (List.map enc_si p1), .v (.int .i64 p2)]] [] (.v (.bool true)) [] from by have q := s_spec_validFlag p1 p2 x6 e2; rw [b3] at q; exact q) (.cons (.c1 (.agg (.cons (.same _ (by kernel_rfl) (by kernel_rfl)) (.cons (.same _ (by kernel_rfl) (by kernel_rfl)) (.nil))))) (.nil)) (by kernel_rfl) trivial, ⟨call_ok (ks := []) (ns := []) (bor := []) (bobjs := []) (show Eng.Spec Tryz.prog 69 [.v (.int .i64 p3), .v (.int .i64 0), .v (.int .i64 4095)] [] (.v (.bool true)) [] from by have q := s_spec_inRange p3 0 4095 x7 e4; rw [b5] at q; exact q) (.cons (.c1 (.c0 (.same _ (by kernel_rfl) (by kernel_rfl)))) (.cons (.c1 (.c0 (.same _ (by kernel_rfl) (by kernel_rfl)))) (.cons (.c1 (.c0 (.same _ (by kernel_rfl) (by kernel_rfl)))) (.nil)))) (by kernel_rfl) trivial, ⟨call_ok (ks := []) (ns := []) (bor := []) (bobjs := []) (show Eng.Spec Tryz.prog 69 [.v (.int .i64 p4), .v (.int .i64 0), .v (.int .i64 4095)] [] (.v (.bool true)) [] from by have q := s_spec_inRange p4 0 4095 x8 e6; rw [b7] at q; exact q) (.cons (.c1 (.c0 (.same _ (by kernel_rfl) (by kernel_rfl)))) (.cons (.c1 (.c0 (.same _ (by kernel_rfl) (by kernel_rfl)))) (.cons (.c1 (.c0 (.same _ (by kernel_rfl) (by kernel_rfl)))) (.nil)))) (by kernel_rfl) trivial, ⟨call_ok (ks := []) (ns := []) (bor := []) (bobjs := []) (s_spec_less p3 x5 x9 e8) (.cons (.c1 (.c0 (.same _ (by kernel_rfl) (by kernel_rfl)))) (.cons (.c1 (.c0 (.same _ (by kernel_rfl) (by kernel_rfl)))) (.nil))) (by kernel_rfl) trivial, trivial⟩⟩⟩⟩ ?_
          refine AX.ret ?_
          refine fin_wk (Wk.forget [4] [] (s' := ⟨[(4, .v (.bool false))], []⟩) (by kernel_rfl)) ?_
          have hr := Option.some.inj h
          subst hr
          exact ⟨_, Wk.refl _, .inr rfl, ⟨[], by kernel_rfl, trivial, [.v (.bool false)], by kernel_rfl, by kernel_rfl⟩⟩
      · replace h := cd_f b7 h
        refine AX.reg (its := [.auto {}, .call 35 [.agg [.bs false 2 (List.map enc_si p1), .v (.int .i64 p2)]] (handO (rho ([] ++ [])) [] [] ++ []) (callEv [] [] (.v (.bool true)) []), .auto {}, .auto {}, .auto {}, .call 69 [.v (.int .i64 p3), .v (.int .i64 0), .v (.int .i64 4095)] (handO (rho ([] ++ [])) [] [] ++ []) (callEv [] [] (.v (.bool true)) []), .auto {}, .auto {}, .auto {}, .auto {}, .call 69 [.v (.int .i64 p4), .v (.int .i64 0), .v (.int .i64 4095)] (handO (rho ([] ++ [])) [] [] ++ []) (callEv [] [] (.v (.bool false)) [])]) [4] [] (s1 := ⟨[(4, .v (.bool false))], []⟩) (C := ((([.agg [.bs false 2 (List.map enc_si p1), .v (.int .i64 p2)]] : List AV) = [.agg [.bs false 2 (List.map enc_si p1), .v (.int .i64 p2)]]) ∧ True) ∧ ((([.v (.int .i64 p3), .v (.int .i64 0), .v (.int .i64 4095)] : List AV) = [.v (.int .i64 p3), .v (.int .i64 0), .v (.int .i64 4095)]) ∧ True) ∧ ((([.v (.int .i64 p4), .v (.int .i64 0), .v (.int .i64 4095)] : List AV) = [.v (.int .i64 p4), .v (.int .i64 0), .v (.int .i64 4095)]) ∧ True) ∧ True) (by kernel_rfl) ⟨⟨rfl, trivial⟩, ⟨⟨rfl, trivial⟩, ⟨⟨rfl, trivial⟩, trivial⟩⟩⟩ ⟨call_ok (ks := []) (ns := []) (bor := []) (bobjs := []) (show Eng.Spec Tryz.prog 35 [.agg [.bs false 2 (List.map enc_si p1), .v (.int .i64 p2)]] [] (.v (.bool true)) [] from by have q := s_spec_validFlag p1 p2 x6 e2; rw [b3] at q; exact q) (.cons (.c1 (.agg (.cons (.same _ (by kernel_rfl) (by kernel_rfl)) (.cons (.same _ (by kernel_rfl) (by kernel_rfl)) (.nil))))) (.nil)) (by kernel_rfl) trivial, ⟨call_ok (ks := []) (ns := []) (bor := []) (bobjs := []) (show Eng.Spec Tryz.prog 69 [.v (.int .i64 p3), .v (.int .i64 0), .v (.int .i64 4095)] [] (.v (.bool true)) [] from by have q := s_spec_inRange p3 0 4095 x7 e4; rw [b5] at q; exact q) (.cons (.c1 (.c0 (.same _ (by kernel_rfl) (by kernel_rfl)))) (.cons (.c1 (.c0 (.same _ (by kernel_rfl) (by kernel_rfl)))) (.cons (.c1 (.c0 (.same _ (by kernel_rfl) (by kernel_rfl)))) (.nil)))) (by kernel_rfl) trivial, ⟨call_ok (ks := []) (ns := []) (bor := []) (bobjs := []) (show Eng.Spec Tryz.prog 69 [.v (.int .i64 p4), .v (.int .i64 0), .v (.int .i64 4095)] [] (.v (.bool false)) [] from by have q := s_spec_inRange p4 0 4095 x8 e6; rw [b7] at q; exact q) (.cons (.c1 (.c0 (.same _ (by kernel_rfl) (by kernel_rfl)))) (.cons (.c1 (.c0 (.same _ (by kernel_rfl) (by kernel_rfl)))) (.cons (.c1 (.c0 (.same _ (by kernel_rfl) (by kernel_rfl)))) (.nil)))) (by kernel_rfl) trivial, trivial⟩⟩⟩ ?_
        refine AX.ret ?_
        refine fin_wk (Wk.forget [4] [] (s' := ⟨[(4, .v (.bool false))], []⟩) (by kernel_rfl)) ?_
        have hr := Option.some.inj h
        subst hr
        exact ⟨_, Wk.refl _, .inr rfl, ⟨[], by kernel_rfl, trivial, [.v (.bool false)], by kernel_rfl, by kernel_rfl⟩⟩
    · replace h := cd_f b5 h
      refine AX.reg (its := [.auto {}, .call 35 [.agg [.bs false 2 (List.map enc_si p1), .v (.int .i64 p2)]] (handO (rho ([] ++ [])) [] [] ++ []) (callEv [] [] (.v (.bool true)) []), .auto {}, .auto {}, .auto {}, .call 69 [.v (.int .i64 p3), .v (.int .i64 0), .v (.int .i64 4095)] (handO (rho ([] ++ [])) [] [] ++ []) (callEv [] [] (.v (.bool false)) [])]) [4] [] (s1 := ⟨[(4, .v (.bool false))], []⟩) (C := ((([.agg [.bs false 2 (List.map enc_si p1), .v (.int .i64 p2)]] : List AV) = [.agg [.bs false 2 (List.map enc_si p1), .v (.int .i64 p2)]]) ∧ True) ∧ ((([.v (.int .i64 p3), .v (.int .i64 0), .v (.int .i64 4095)] : List AV) = [.v (.int .i64 p3), .v (.int .i64 0), .v (.int .i64 4095)]) ∧ True) ∧ True) (by kernel_rfl) ⟨⟨rfl, trivial⟩, ⟨⟨rfl, trivial⟩, trivial⟩⟩ ⟨call_ok (ks := []) (ns := []) (bor := []) (bobjs := []) (show Eng.Spec Tryz.prog 35 [.agg [.bs false 2 (List.map enc_si p1), .v (.int .i64 p2)]] [] (.v (.bool true)) [] from by have q := s_spec_validFlag p1 p2 x6 e2; rw [b3] at q; exact q) (.cons (.c1 (.agg (.cons (.same _ (by kernel_rfl) (by kernel_rfl)) (.cons (.same _ (by kernel_rfl) (by kernel_rfl)) (.nil))))) (.nil)) (by kernel_rfl) trivial, ⟨call_ok (ks := []) (ns := []) (bor := []) (bobjs := []) (show Eng.Spec Tryz.prog 69 [.v (.int .i64 p3), .v (.int .i64 0), .v (.int .i64 4095)] [] (.v (.bool false)) [] from by have q := s_spec_inRange p3 0 4095 x7 e4; rw [b5] at q; exact q) (.cons (.c1 (.c0 (.same _ (by kernel_rfl) (by kernel_rfl)))) (.cons (.c1 (.c0 (.same _ (by kernel_rfl) (by kernel_rfl)))) (.cons (.c1 (.c0 (.same _ (by kernel_rfl) (by kernel_rfl)))) (.nil)))) (by kernel_rfl) trivial, trivial⟩⟩ ?_
      refine AX.ret ?_
      refine fin_wk (Wk.forget [4] [] (s' := ⟨[(4, .v (.bool false))], []⟩) (by kernel_rfl)) ?_
      have hr := Option.some.inj h
      subst hr
      exact ⟨_, Wk.refl _, .inr rfl, ⟨[], by kernel_rfl, trivial, [.v (.bool false)], by kernel_rfl, by kernel_rfl⟩⟩
  · replace h := cd_f b3 h
    refine AX.reg (its := [.auto {}, .call 35 [.agg [.bs false 2 (List.map enc_si p1), .v (.int .i64 p2)]] (handO (rho ([] ++ [])) [] [] ++ []) (callEv [] [] (.v (.bool false)) [])]) [4] [] (s1 := ⟨[(4, .v (.bool false))], []⟩) (C := ((([.agg [.bs false 2 (List.map enc_si p1), .v (.int .i64 p2)]] : List AV) = [.agg [.bs false 2 (List.map enc_si p1), .v (.int .i64 p2)]]) ∧ True) ∧ True) (by kernel_rfl) ⟨⟨rfl, trivial⟩, trivial⟩ ⟨call_ok (ks := []) (ns := []) (bor := []) (bobjs := []) (show Eng.Spec Tryz.prog 35 [.agg [.bs false 2 (List.map enc_si p1), .v (.int .i64 p2)]] [] (.v (.bool false)) [] from by have q := s_spec_validFlag p1 p2 x6 e2; rw [b3] at q; exact q) (.cons (.c1 (.agg (.cons (.same _ (by kernel_rfl) (by kernel_rfl)) (.cons (.same _ (by kernel_rfl) (by kernel_rfl)) (.nil))))) (.nil)) (by kernel_rfl) trivial, trivial⟩ ?_
    refine AX.ret ?_
    refine fin_wk (Wk.forget [4] [] (s' := ⟨[(4, .v (.bool false))], []⟩) (by kernel_rfl)) ?_
    have hr := Option.some.inj h
    subst hr
    exact ⟨_, Wk.refl _, .inr rfl, ⟨[], by kernel_rfl, trivial, [.v (.bool false)], by kernel_rfl, by kernel_rfl⟩⟩

theorem s_spec_canTell (p1 : List (ByteArray × Int)) (p2 : Int) (p3 : Int) (p4 : Int) (r : Bool) (h : m_spec_canTell p1 p2 p3 p4 = some r) :
    Eng.Spec Tryz.prog 74 [.agg [.bs false 2 (List.map enc_si p1), .v (.int .i64 p2)], .agg [.v (.int .i64 p3), .v (.int .i64 p4)]] [] (.v (.bool r)) [] := by
  unfold m_spec_canTell at h
  refine Eng.Spec.body Tryz.func74 (by kernel_rfl) rfl (by kernel_rfl) ?_
  refine AX.wkpost ?_
  refine AX.seq ?_
  refine AX.reg (its := [.auto { nk := 0 }, .auto { nk := 1 }]) [2, 3] [0, 1] (s1 := ⟨[(2, .pt 0 0), (3, .pt 1 0)], [(0, .box [.bs false 2 (List.map enc_si p1), .v (.int .i64 p2)]), (1, .box [.v (.int .i64 p3), .v (.int .i64 p4)])]⟩) (C := True) (by kernel_rfl) trivial trivial ?_
  refine AX.seq ?_
  obtain ⟨x5, e1, h⟩ := bd_e h
  obtain ⟨x6, e2, h⟩ := bd_e h
  obtain ⟨x7, e3, h⟩ := bd_e h
  obtain ⟨x8, e4, h⟩ := bd_e h
  refine AX.drw mixed (its := [.auto {}, .auto {}, .auto {}, .auto {}, .call 72 [.v (.int .i64 p3), .v (.int .i64 p4)] (handO (rho ([] ++ [])) [] [] ++ []) (callEv [] [] (.v (.int .i64 x5)) []), .auto {}, .auto {}, .call 60 [.bs false 2 (List.map enc_si p1)] (handO (rho ([] ++ [2])) [] [] ++ []) (callEv [] [2] (.sl 0 0 x6.length) [.arr 2 (List.map enc_si x6)]), .call 112 [.sl 2 0 x6.length] (handO (rho ([] ++ [])) [] [] ++ [(2, .arr 2 (List.map enc_si x6))]) (callEv [] [] (.v (.int .i64 x7)) []), .call 113 [.v (.int .i64 x5), .v (.int .i64 x7)] (handO (rho ([] ++ [])) [] [] ++ []) (callEv [] [] (.v (.int .i64 x8)) [])]) [4] [] (s1 := ⟨[(4, .v (.bool (decide (x8 = 0))))], []⟩) (C := ((([.v (.int .i64 p3), .v (.int .i64 p4)] : List AV) = [.v (.int .i64 p3), .v (.int .i64 p4)]) ∧ True) ∧ ((([.bs false 2 (List.map enc_si p1)] : List AV) = [.bs false 2 (List.map enc_si p1)]) ∧ True) ∧ ((([.sl 2 0 x6.length] : List AV) = [.sl 2 0 x6.length]) ∧ (AO.arr 2 (List.map enc_si x6) = AO.arr 2 (List.map enc_si x6)) ∧ True) ∧ ((([.v (.int .i64 x5), .v (.int .i64 x7)] : List AV) = [.v (.int .i64 x5), .v (.int .i64 x7)]) ∧ True) ∧ True) (by kernel_rfl) ⟨⟨rfl, trivial⟩, ⟨⟨rfl, trivial⟩, ⟨⟨rfl, rfl, trivial⟩, ⟨⟨rfl, trivial⟩, trivial⟩⟩⟩⟩ ⟨call_ok (ks := []) (ns := []) (bor := []) (bobjs := []) (s_spec_either p3 p4 x5 e1) (.cons (.c1 (.c0 (.same _ (by kernel_rfl) (by kernel_rfl)))) (.cons (.c1 (.c0 (.same _ (by kernel_rfl) (by kernel_rfl)))) (.nil))) (by kernel_rfl) trivial, ⟨call_ok (ks := []) (ns := [2]) (bor := []) (bobjs := []) (s_spec_singles p1 x6 e2) (.cons (.c1 (.c0 (.same _ (by kernel_rfl) (by kernel_rfl)))) (.nil)) (by kernel_rfl) trivial, ⟨call_ok (ks := []) (ns := []) (bor := [2]) (bobjs := [(2, .arr 2 (List.map enc_si x6))]) (s_spec_mask x6 x7 e3) (.cons (.c1 (.c0 (.arr rfl rfl ((rfl).trans (List.length_map ..).symm)))) (.nil)) (by kernel_rfl) trivial, ⟨call_ok (ks := []) (ns := []) (bor := []) (bobjs := []) (s_spec_less x5 x7 x8 e4) (.cons (.c1 (.c0 (.same _ (by kernel_rfl) (by kernel_rfl)))) (.cons (.c1 (.c0 (.same _ (by kernel_rfl) (by kernel_rfl)))) (.nil))) (by kernel_rfl) trivial, trivial⟩⟩⟩⟩ ?_
  refine AX.ret ?_
  refine fin_wk (Wk.forget [4] [] (s' := ⟨[(4, .v (.bool (decide (x8 = 0))))], []⟩) (by kernel_rfl)) ?_
  have hr := Option.some.inj h
  subst hr
  exact ⟨_, Wk.refl _, .inr rfl, ⟨[], by kernel_rfl, trivial, [.v (.bool (decide (x8 = 0)))], by kernel_rfl, by kernel_rfl⟩⟩

theorem s_spec_parseArm_L1 (p1 : List (ByteArray × Int)) (p2 : Int) (p3 : ByteArray) (x4 : List (ByteArray)) (n : Nat) (g : Int × Int × Int) (out : Unit ⊕ Int × Int) (h : m_spec_parseArm_L1 p1 p2 p3 x4 n g.1 g.2.1 g.2.2 = some out) :
    AX Tryz.prog 88 0 (codeAt [1, 1, 1, 1, 0, 1, 1] (bodyOf Tryz.f36)) ((fun g : Int × Int × Int => (⟨[(1, .v (.string p3)), (2, .pt 0 0), (4, .pt 1 0), (6, .pt 2 0), (7, .sl 3 0 x4.length), (8, .v (.int .i64 g.2.2))], [(0, .box [.bs false 2 (List.map enc_si p1), .v (.int .i64 p2)]), (1, .box [.v (.int .i64 0), .v (.int .i64 0)]), (2, .box [.v (.int .i64 g.1), .v (.int .i64 g.2.1)]), (3, .arr 1 (List.map enc_s x4))]⟩ : S)) g) (fun ex s => (∃ o : Unit, out = Sum.inl o ∧ ex = .ret ∧ s = ⟨[(4, .pt 0 0), (5, .v (.bool false))], [(0, .box [.v (.int .i64 0), .v (.int .i64 0)])]⟩) ∨ (∃ o : Int × Int, out = Sum.inr o ∧ ex = .exit 0 ∧ s = ⟨[(1, .v (.string p3)), (2, .pt 0 0), (4, .pt 1 0), (6, .pt 2 0)], [(0, .box [.bs false 2 (List.map enc_si p1), .v (.int .i64 p2)]), (1, .box [.v (.int .i64 0), .v (.int .i64 0)]), (2, .box [.v (.int .i64 o.1), .v (.int .i64 o.2)])]⟩)) := by
  refine AX.wkpost ?_
  refine AX.loop (G := Nat × (Int × Int × Int)) (fun q => (fun g : Int × Int × Int => (⟨[(1, .v (.string p3)), (2, .pt 0 0), (4, .pt 1 0), (6, .pt 2 0), (7, .sl 3 0 x4.length), (8, .v (.int .i64 g.2.2))], [(0, .box [.bs false 2 (List.map enc_si p1), .v (.int .i64 p2)]), (1, .box [.v (.int .i64 0), .v (.int .i64 0)]), (2, .box [.v (.int .i64 g.1), .v (.int .i64 g.2.1)]), (3, .arr 1 (List.map enc_s x4))]⟩ : S)) q.2) (fun q => m_spec_parseArm_L1 p1 p2 p3 x4 q.1 q.2.1 q.2.2.1 q.2.2.2 = some out) (fun q => q.1) (n, g) h (Wk.refl _) ?_
  clear h
  rintro ⟨fu, v5, v6, v7⟩ h
  cases fu with
  | zero => cases h
  | succ fu =>
    rw [m_spec_parseArm_L1] at h
    refine AX.seq ?_
    refine AX.seq ?_
    refine AX.reg (its := []) [1, 2, 4, 6, 7, 8, 21] [0, 1, 2, 3] (s1 := ⟨[(1, .v (.string p3)), (2, .pt 0 0), (4, .pt 1 0), (6, .pt 2 0), (7, .sl 3 0 x4.length), (8, .v (.int .i64 v7)), (21, .v (.bool (decide (v7 < (x4.length : Int)))))], [(0, .box [.bs false 2 (List.map enc_si p1), .v (.int .i64 p2)]), (1, .box [.v (.int .i64 0), .v (.int .i64 0)]), (2, .box [.v (.int .i64 v5), .v (.int .i64 v6)]), (3, .arr 1 (List.map enc_s x4))]⟩) (C := True) (by kernel_rfl) trivial trivial ?_
    rcases bool_cases (decide (v7 < (x4.length : Int))) with b3 | b3
    · replace h := cd_t b3 h
      refine AX.condT (decide (v7 < (x4.length : Int))) (by kernel_rfl) b3 ?_
      refine AX.skip ?_
      refine AX.seq ?_
      refine AX.block ?_
      refine AX.seq ?_
      obtain ⟨g4, h⟩ := gd_e h
      rcases bool_cases ((!decide ((gt x4 v7) = ByteArray.empty))) with b5 | b5
      · replace h := cd_t b5 h
        obtain ⟨g6, h⟩ := gd_e h
        refine AX.reg (its := [.auto {}, .auto {}, .auto {}, .auto { y := some (.v (.string (gt x4 v7))) }, .auto { y := some (.v (.bool true)) }, .auto {}, .auto {}, .auto {}, .auto {}, .auto { y := some (.v (.string (gt x4 v7))) }]) [1, 2, 4, 6, 7, 8, 9] [0, 1, 2, 3] (s1 := ⟨[(1, .v (.string p3)), (2, .pt 0 0), (4, .pt 1 0), (6, .pt 2 0), (7, .sl 3 0 x4.length), (8, .v (.int .i64 v7)), (9, .v (.bool (decide ((byteAt (gt x4 v7) (0 : Int).toNat) = 33))))], [(0, .box [.bs false 2 (List.map enc_si p1), .v (.int .i64 p2)]), (1, .box [.v (.int .i64 0), .v (.int .i64 0)]), (2, .box [.v (.int .i64 v5), .v (.int .i64 v6)]), (3, .arr 1 (List.map enc_s x4))]⟩) (C := (0 ≤ v7 ∧ v7 < (x4.length : Int)) ∧ (True ∧ (AV.v (((List.map enc_s x4).getD (0 + v7.toNat) []).getD 0 undef) = .v (.string (gt x4 v7)))) ∧ ((True) ∧ ((.v (.bool (!decide ((gt x4 v7) = ByteArray.empty))) : AV) = (.v (.bool true) : AV))) ∧ (0 ≤ v7 ∧ v7 < (x4.length : Int)) ∧ (True ∧ (AV.v (((List.map enc_s x4).getD (0 + v7.toNat) []).getD 0 undef) = .v (.string (gt x4 v7)))) ∧ (0 ≤ (0 : Int) ∧ (0 : Int) < ((gt x4 v7).size : Int)) ∧ True) (by kernel_rfl) ⟨g4, ⟨⟨trivial, (congrArg (fun z : List Value => AV.v (z.getD 0 undef)) (idx_arr (enc := enc_s) rfl g4))⟩, ⟨⟨trivial, (congrArg (fun z => AV.v (.bool z)) b5)⟩, ⟨g4, ⟨⟨trivial, (congrArg (fun z : List Value => AV.v (z.getD 0 undef)) (idx_arr (enc := enc_s) rfl g4))⟩, ⟨g6, trivial⟩⟩⟩⟩⟩⟩ trivial ?_
        refine AX.seq ?_
        refine AX.reg (its := [.auto {}, .auto {}, .auto {}, .auto { y := some (.v (.string (gt x4 v7))) }]) [1, 2, 4, 6, 7, 8, 9, 10] [0, 1, 2, 3] (s1 := ⟨[(1, .v (.string p3)), (2, .pt 0 0), (4, .pt 1 0), (6, .pt 2 0), (7, .sl 3 0 x4.length), (8, .v (.int .i64 v7)), (9, .v (.bool (decide ((byteAt (gt x4 v7) (0 : Int).toNat) = 33)))), (10, .v (.string (gt x4 v7)))], [(0, .box [.bs false 2 (List.map enc_si p1), .v (.int .i64 p2)]), (1, .box [.v (.int .i64 0), .v (.int .i64 0)]), (2, .box [.v (.int .i64 v5), .v (.int .i64 v6)]), (3, .arr 1 (List.map enc_s x4))]⟩) (C := (0 ≤ v7 ∧ v7 < (x4.length : Int)) ∧ (True ∧ (AV.v (((List.map enc_s x4).getD (0 + v7.toNat) []).getD 0 undef) = .v (.string (gt x4 v7)))) ∧ True) (by kernel_rfl) ⟨g4, ⟨⟨trivial, (congrArg (fun z : List Value => AV.v (z.getD 0 undef)) (idx_arr (enc := enc_s) rfl g4))⟩, trivial⟩⟩ trivial ?_
        refine AX.seq ?_
        refine AX.seq ?_
        refine AX.reg (its := []) [1, 2, 4, 6, 7, 8, 9, 10, 41] [0, 1, 2, 3] (s1 := ⟨[(1, .v (.string p3)), (2, .pt 0 0), (4, .pt 1 0), (6, .pt 2 0), (7, .sl 3 0 x4.length), (8, .v (.int .i64 v7)), (9, .v (.bool (decide ((byteAt (gt x4 v7) (0 : Int).toNat) = 33)))), (10, .v (.string (gt x4 v7))), (41, .v (.bool (decide ((byteAt (gt x4 v7) (0 : Int).toNat) = 33))))], [(0, .box [.bs false 2 (List.map enc_si p1), .v (.int .i64 p2)]), (1, .box [.v (.int .i64 0), .v (.int .i64 0)]), (2, .box [.v (.int .i64 v5), .v (.int .i64 v6)]), (3, .arr 1 (List.map enc_s x4))]⟩) (C := True) (by kernel_rfl) trivial trivial ?_
        rcases bool_cases (decide ((byteAt (gt x4 v7) (0 : Int).toNat) = 33)) with b7 | b7
        · replace h := cd_t b7 h
          refine AX.condT (decide ((byteAt (gt x4 v7) (0 : Int).toNat) = 33)) (by kernel_rfl) b7 ?_
          obtain ⟨g8, h⟩ := gd_e h
          obtain ⟨v8, q9, h⟩ := nm_e h
          refine AX.reg (its := [.auto {}, .auto { y := some (.v (.string v8)) }]) [1, 2, 4, 6, 7, 8, 9, 10] [0, 1, 2, 3] (s1 := ⟨[(1, .v (.string p3)), (2, .pt 0 0), (4, .pt 1 0), (6, .pt 2 0), (7, .sl 3 0 x4.length), (8, .v (.int .i64 v7)), (9, .v (.bool (decide ((byteAt (gt x4 v7) (0 : Int).toNat) = 33)))), (10, .v (.string v8))], [(0, .box [.bs false 2 (List.map enc_si p1), .v (.int .i64 p2)]), (1, .box [.v (.int .i64 0), .v (.int .i64 0)]), (2, .box [.v (.int .i64 v5), .v (.int .i64 v6)]), (3, .arr 1 (List.map enc_s x4))]⟩) (C := ((0 ≤ (1 : Int) ∧ (1 : Int) ≤ ((gt x4 v7).size : Int) ∧ ((gt x4 v7).size : Int) ≤ ((gt x4 v7).size : Int)) ∧ ((.v (.string ((gt x4 v7).extract (1 : Int).toNat ((gt x4 v7).size : Int).toNat)) : AV) = (.v (.string v8) : AV))) ∧ True) (by kernel_rfl) ⟨⟨g8, (congrArg (fun z => AV.v (.string z)) q9)⟩, trivial⟩ trivial ?_
          refine AX.seq ?_
          obtain ⟨x9, e10, h⟩ := bd_e h
          refine AX.reg (its := [.auto {}, .auto {}, .auto {}, .call 71 [.bs false 2 (List.map enc_si p1), .v (.string v8)] (handO (rho ([] ++ [])) [] [] ++ []) (callEv [] [] (.v (.int .i64 x9)) [])]) [1, 2, 4, 6, 7, 8, 9, 11] [0, 1, 2, 3] (s1 := ⟨[(1, .v (.string p3)), (2, .pt 0 0), (4, .pt 1 0), (6, .pt 2 0), (7, .sl 3 0 x4.length), (8, .v (.int .i64 v7)), (9, .v (.bool (decide ((byteAt (gt x4 v7) (0 : Int).toNat) = 33)))), (11, .v (.int .i64 x9))], [(0, .box [.bs false 2 (List.map enc_si p1), .v (.int .i64 p2)]), (1, .box [.v (.int .i64 0), .v (.int .i64 0)]), (2, .box [.v (.int .i64 v5), .v (.int .i64 v6)]), (3, .arr 1 (List.map enc_s x4))]⟩) (C := ((([.bs false 2 (List.map enc_si p1), .v (.string v8)] : List AV) = [.bs false 2 (List.map enc_si p1), .v (.string v8)]) ∧ True) ∧ True) (by kernel_rfl) ⟨⟨rfl, trivial⟩, trivial⟩ ⟨call_ok (ks := []) (ns := []) (bor := []) (bobjs := []) (s_spec_indexOf p1 v8 x9 e10) (.cons (.c1 (.c0 (.same _ (by kernel_rfl) (by kernel_rfl)))) (.cons (.c1 (.c0 (.same _ (by kernel_rfl) (by kernel_rfl)))) (.nil))) (by kernel_rfl) trivial, trivial⟩ ?_
          refine AX.seq ?_
          refine AX.seq ?_
          refine AX.reg (its := []) [1, 2, 4, 6, 7, 8, 9, 11, 49] [0, 1, 2, 3] (s1 := ⟨[(1, .v (.string p3)), (2, .pt 0 0), (4, .pt 1 0), (6, .pt 2 0), (7, .sl 3 0 x4.length), (8, .v (.int .i64 v7)), (9, .v (.bool (decide ((byteAt (gt x4 v7) (0 : Int).toNat) = 33)))), (11, .v (.int .i64 x9)), (49, .v (.bool (decide (x9 < 0))))], [(0, .box [.bs false 2 (List.map enc_si p1), .v (.int .i64 p2)]), (1, .box [.v (.int .i64 0), .v (.int .i64 0)]), (2, .box [.v (.int .i64 v5), .v (.int .i64 v6)]), (3, .arr 1 (List.map enc_s x4))]⟩) (C := True) (by kernel_rfl) trivial trivial ?_
          rcases bool_cases (decide (x9 < 0)) with b11 | b11
          · replace h := cd_t b11 h
            refine AX.condT (decide (x9 < 0)) (by kernel_rfl) b11 ?_
            refine AX.seq ?_
            refine AX.reg (its := []) [4, 5] [1] (s1 := ⟨[(4, .pt 1 0), (5, .v (.bool false))], [(1, .box [.v (.int .i64 0), .v (.int .i64 0)])]⟩) (C := True) (by kernel_rfl) trivial trivial ?_
            refine AX.ret ?_
            refine fin_wk (Wk.swap 0 1 (Nat.le_of_ble_eq_true (by kernel_rfl)) (Nat.le_of_ble_eq_true (by kernel_rfl)) rfl) ?_
            refine fin_wk (Wk.forget [4, 5] [0] (s' := ⟨[(4, .pt 0 0), (5, .v (.bool false))], [(0, .box [.v (.int .i64 0), .v (.int .i64 0)])]⟩) (by kernel_rfl)) ?_
            have hr := Option.some.inj h
            subst hr
            exact ⟨_, Wk.refl _, .inl ⟨(), rfl, rfl, rfl⟩⟩
          · replace h := cd_f b11 h
            refine AX.condF (decide (x9 < 0)) (by kernel_rfl) b11 ?_
            refine AX.skip ?_
            refine AX.seq ?_
            refine AX.reg (its := []) [1, 2, 4, 6, 7, 8, 11, 51] [0, 1, 2, 3] (s1 := ⟨[(1, .v (.string p3)), (2, .pt 0 0), (4, .pt 1 0), (6, .pt 2 0), (7, .sl 3 0 x4.length), (8, .v (.int .i64 v7)), (11, .v (.int .i64 x9)), (51, .v (.bool (decide ((byteAt (gt x4 v7) (0 : Int).toNat) = 33))))], [(0, .box [.bs false 2 (List.map enc_si p1), .v (.int .i64 p2)]), (1, .box [.v (.int .i64 0), .v (.int .i64 0)]), (2, .box [.v (.int .i64 v5), .v (.int .i64 v6)]), (3, .arr 1 (List.map enc_s x4))]⟩) (C := True) (by kernel_rfl) trivial trivial ?_
            refine AX.condT (decide ((byteAt (gt x4 v7) (0 : Int).toNat) = 33)) (by kernel_rfl) b7 ?_
            obtain ⟨g12, h⟩ := gd_e h
            obtain ⟨x10, e13, h⟩ := bd_e h
            refine AX.drw mixed (its := [.auto {}, .auto {}, .auto {}, .auto {}, .auto {}, .auto { y := some (.be 2 (enc_si (gt p1 x9)) 0) }, .auto {}, .auto {}, .call 72 [.v (.int .i64 v6), .v (.int .i64 ((gt p1 x9).2))] (handO (rho ([] ++ [])) [] [] ++ []) (callEv [] [] (.v (.int .i64 x10)) [])]) [1, 2, 4, 6, 7, 8] [0, 1, 2, 3] (s1 := ⟨[(1, .v (.string p3)), (2, .pt 0 0), (4, .pt 1 0), (6, .pt 2 0), (7, .sl 3 0 x4.length), (8, .v (.int .i64 v7))], [(0, .box [.bs false 2 (List.map enc_si p1), .v (.int .i64 p2)]), (1, .box [.v (.int .i64 0), .v (.int .i64 0)]), (2, .box [.v (.int .i64 v5), .v (.int .i64 x10)]), (3, .arr 1 (List.map enc_s x4))]⟩) (C := ((0 ≤ x9 ∧ x9 < ((List.map enc_si p1).length : Int)) ∧ (AV.be 2 ((List.map enc_si p1).getD x9.toNat []) 0 = AV.be 2 (enc_si (gt p1 x9)) 0)) ∧ ((([.v (.int .i64 v6), .v (.int .i64 ((gt p1 x9).2))] : List AV) = [.v (.int .i64 v6), .v (.int .i64 ((gt p1 x9).2))]) ∧ True) ∧ True) (by kernel_rfl) ⟨idx_bs enc_si p1 x9 2 g12, ⟨⟨rfl, trivial⟩, trivial⟩⟩ ⟨call_ok (ks := []) (ns := []) (bor := []) (bobjs := []) (s_spec_either v6 ((gt p1 x9).2) x10 e13) (.cons (.c1 (.c0 (.same _ (by kernel_rfl) (by kernel_rfl)))) (.cons (.c1 (.c0 (.same _ (by kernel_rfl) (by kernel_rfl)))) (.nil))) (by kernel_rfl) trivial, trivial⟩ ?_
            refine AX.reg (its := [.auto {}, .auto { raw := true }]) [1, 2, 4, 6, 7, 8] [0, 1, 2, 3] (s1 := ⟨[(1, .v (.string p3)), (2, .pt 0 0), (4, .pt 1 0), (6, .pt 2 0), (7, .sl 3 0 x4.length), (8, .v (.int .i64 (IntKind.wrap .i64 (v7 + 1))))], [(0, .box [.bs false 2 (List.map enc_si p1), .v (.int .i64 p2)]), (1, .box [.v (.int .i64 0), .v (.int .i64 0)]), (2, .box [.v (.int .i64 v5), .v (.int .i64 x10)]), (3, .arr 1 (List.map enc_s x4))]⟩) (C := True) (by kernel_rfl) trivial trivial ?_
            refine ⟨(fu, (v5, x10, IntKind.wrap .i64 (v7 + 1))), h, Nat.lt_succ_self _, ?_⟩
            refine Wk.trans (Wk.forget [1, 2, 4, 6, 7, 8] [0, 1, 2, 3] (s' := ⟨[(1, .v (.string p3)), (2, .pt 0 0), (4, .pt 1 0), (6, .pt 2 0), (7, .sl 3 0 x4.length), (8, .v (.int .i64 (IntKind.wrap .i64 (v7 + 1))))], [(0, .box [.bs false 2 (List.map enc_si p1), .v (.int .i64 p2)]), (1, .box [.v (.int .i64 0), .v (.int .i64 0)]), (2, .box [.v (.int .i64 v5), .v (.int .i64 x10)]), (3, .arr 1 (List.map enc_s x4))]⟩) (by kernel_rfl)) ?_
            exact Wk.refl _
        · replace h := cd_f b7 h
          refine AX.condF (decide ((byteAt (gt x4 v7) (0 : Int).toNat) = 33)) (by kernel_rfl) b7 ?_
          refine AX.skip ?_
          refine AX.seq ?_
          obtain ⟨x11, e14, h⟩ := bd_e h
          refine AX.reg (its := [.auto {}, .auto {}, .auto {}, .call 71 [.bs false 2 (List.map enc_si p1), .v (.string (gt x4 v7))] (handO (rho ([] ++ [])) [] [] ++ []) (callEv [] [] (.v (.int .i64 x11)) [])]) [1, 2, 4, 6, 7, 8, 9, 11] [0, 1, 2, 3] (s1 := ⟨[(1, .v (.string p3)), (2, .pt 0 0), (4, .pt 1 0), (6, .pt 2 0), (7, .sl 3 0 x4.length), (8, .v (.int .i64 v7)), (9, .v (.bool (decide ((byteAt (gt x4 v7) (0 : Int).toNat) = 33)))), (11, .v (.int .i64 x11))], [(0, .box [.bs false 2 (List.map enc_si p1), .v (.int .i64 p2)]), (1, .box [.v (.int .i64 0), .v (.int .i64 0)]), (2, .box [.v (.int .i64 v5), .v (.int .i64 v6)]), (3, .arr 1 (List.map enc_s x4))]⟩) (C := ((([.bs false 2 (List.map enc_si p1), .v (.string (gt x4 v7))] : List AV) = [.bs false 2 (List.map enc_si p1), .v (.string (gt x4 v7))]) ∧ True) ∧ True) (by kernel_rfl) ⟨⟨rfl, trivial⟩, trivial⟩ ⟨call_ok (ks := []) (ns := []) (bor := []) (bobjs := []) (s_spec_indexOf p1 (gt x4 v7) x11 e14) (.cons (.c1 (.c0 (.same _ (by kernel_rfl) (by kernel_rfl)))) (.cons (.c1 (.c0 (.same _ (by kernel_rfl) (by kernel_rfl)))) (.nil))) (by kernel_rfl) trivial, trivial⟩ ?_
          refine AX.seq ?_
          refine AX.seq ?_
          refine AX.reg (its := []) [1, 2, 4, 6, 7, 8, 9, 11, 49] [0, 1, 2, 3] (s1 := ⟨[(1, .v (.string p3)), (2, .pt 0 0), (4, .pt 1 0), (6, .pt 2 0), (7, .sl 3 0 x4.length), (8, .v (.int .i64 v7)), (9, .v (.bool (decide ((byteAt (gt x4 v7) (0 : Int).toNat) = 33)))), (11, .v (.int .i64 x11)), (49, .v (.bool (decide (x11 < 0))))], [(0, .box [.bs false 2 (List.map enc_si p1), .v (.int .i64 p2)]), (1, .box [.v (.int .i64 0), .v (.int .i64 0)]), (2, .box [.v (.int .i64 v5), .v (.int .i64 v6)]), (3, .arr 1 (List.map enc_s x4))]⟩) (C := True) (by kernel_rfl) trivial trivial ?_
          rcases bool_cases (decide (x11 < 0)) with b15 | b15
          · replace h := cd_t b15 h
            refine AX.condT (decide (x11 < 0)) (by kernel_rfl) b15 ?_
            refine AX.seq ?_
            refine AX.reg (its := []) [4, 5] [1] (s1 := ⟨[(4, .pt 1 0), (5, .v (.bool false))], [(1, .box [.v (.int .i64 0), .v (.int .i64 0)])]⟩) (C := True) (by kernel_rfl) trivial trivial ?_
            refine AX.ret ?_
            refine fin_wk (Wk.swap 0 1 (Nat.le_of_ble_eq_true (by kernel_rfl)) (Nat.le_of_ble_eq_true (by kernel_rfl)) rfl) ?_
            refine fin_wk (Wk.forget [4, 5] [0] (s' := ⟨[(4, .pt 0 0), (5, .v (.bool false))], [(0, .box [.v (.int .i64 0), .v (.int .i64 0)])]⟩) (by kernel_rfl)) ?_
            have hr := Option.some.inj h
            subst hr
            exact ⟨_, Wk.refl _, .inl ⟨(), rfl, rfl, rfl⟩⟩
          · replace h := cd_f b15 h
            refine AX.condF (decide (x11 < 0)) (by kernel_rfl) b15 ?_
            refine AX.skip ?_
            refine AX.seq ?_
            refine AX.reg (its := []) [1, 2, 4, 6, 7, 8, 11, 51] [0, 1, 2, 3] (s1 := ⟨[(1, .v (.string p3)), (2, .pt 0 0), (4, .pt 1 0), (6, .pt 2 0), (7, .sl 3 0 x4.length), (8, .v (.int .i64 v7)), (11, .v (.int .i64 x11)), (51, .v (.bool (decide ((byteAt (gt x4 v7) (0 : Int).toNat) = 33))))], [(0, .box [.bs false 2 (List.map enc_si p1), .v (.int .i64 p2)]), (1, .box [.v (.int .i64 0), .v (.int .i64 0)]), (2, .box [.v (.int .i64 v5), .v (.int .i64 v6)]), (3, .arr 1 (List.map enc_s x4))]⟩) (C := True) (by kernel_rfl) trivial trivial ?_
            refine AX.condF (decide ((byteAt (gt x4 v7) (0 : Int).toNat) = 33)) (by kernel_rfl) b7 ?_
            obtain ⟨g16, h⟩ := gd_e h
            obtain ⟨x12, e17, h⟩ := bd_e h
            refine AX.drw mixed (its := [.auto {}, .auto {}, .auto {}, .auto {}, .auto {}, .auto { y := some (.be 2 (enc_si (gt p1 x11)) 0) }, .auto {}, .auto {}, .call 72 [.v (.int .i64 v5), .v (.int .i64 ((gt p1 x11).2))] (handO (rho ([] ++ [])) [] [] ++ []) (callEv [] [] (.v (.int .i64 x12)) [])]) [1, 2, 4, 6, 7, 8] [0, 1, 2, 3] (s1 := ⟨[(1, .v (.string p3)), (2, .pt 0 0), (4, .pt 1 0), (6, .pt 2 0), (7, .sl 3 0 x4.length), (8, .v (.int .i64 v7))], [(0, .box [.bs false 2 (List.map enc_si p1), .v (.int .i64 p2)]), (1, .box [.v (.int .i64 0), .v (.int .i64 0)]), (2, .box [.v (.int .i64 x12), .v (.int .i64 v6)]), (3, .arr 1 (List.map enc_s x4))]⟩) (C := ((0 ≤ x11 ∧ x11 < ((List.map enc_si p1).length : Int)) ∧ (AV.be 2 ((List.map enc_si p1).getD x11.toNat []) 0 = AV.be 2 (enc_si (gt p1 x11)) 0)) ∧ ((([.v (.int .i64 v5), .v (.int .i64 ((gt p1 x11).2))] : List AV) = [.v (.int .i64 v5), .v (.int .i64 ((gt p1 x11).2))]) ∧ True) ∧ True) (by kernel_rfl) ⟨idx_bs enc_si p1 x11 2 g16, ⟨⟨rfl, trivial⟩, trivial⟩⟩ ⟨call_ok (ks := []) (ns := []) (bor := []) (bobjs := []) (s_spec_either v5 ((gt p1 x11).2) x12 e17) (.cons (.c1 (.c0 (.same _ (by kernel_rfl) (by kernel_rfl)))) (.cons (.c1 (.c0 (.same _ (by kernel_rfl) (by kernel_rfl)))) (.nil))) (by kernel_rfl) trivial, trivial⟩ ?_
            refine AX.reg (its := [.auto {}, .auto { raw := true }]) [1, 2, 4, 6, 7, 8] [0, 1, 2, 3] (s1 := ⟨[(1, .v (.string p3)), (2, .pt 0 0), (4, .pt 1 0), (6, .pt 2 0), (7, .sl 3 0 x4.length), (8, .v (.int .i64 (IntKind.wrap .i64 (v7 + 1))))], [(0, .box [.bs false 2 (List.map enc_si p1), .v (.int .i64 p2)]), (1, .box [.v (.int .i64 0), .v (.int .i64 0)]), (2, .box [.v (.int .i64 x12), .v (.int .i64 v6)]), (3, .arr 1 (List.map enc_s x4))]⟩) (C := True) (by kernel_rfl) trivial trivial ?_
            refine ⟨(fu, (x12, v6, IntKind.wrap .i64 (v7 + 1))), h, Nat.lt_succ_self _, ?_⟩
            refine Wk.trans (Wk.forget [1, 2, 4, 6, 7, 8] [0, 1, 2, 3] (s' := ⟨[(1, .v (.string p3)), (2, .pt 0 0), (4, .pt 1 0), (6, .pt 2 0), (7, .sl 3 0 x4.length), (8, .v (.int .i64 (IntKind.wrap .i64 (v7 + 1))))], [(0, .box [.bs false 2 (List.map enc_si p1), .v (.int .i64 p2)]), (1, .box [.v (.int .i64 0), .v (.int .i64 0)]), (2, .box [.v (.int .i64 x12), .v (.int .i64 v6)]), (3, .arr 1 (List.map enc_s x4))]⟩) (by kernel_rfl)) ?_
            exact Wk.refl _
      · replace h := cd_f b5 h
        refine AX.reg (its := [.auto {}, .auto {}, .auto {}, .auto { y := some (.v (.string (gt x4 v7))) }, .auto { y := some (.v (.bool false)) }]) [1, 2, 4, 6, 7, 8, 9] [0, 1, 2, 3] (s1 := ⟨[(1, .v (.string p3)), (2, .pt 0 0), (4, .pt 1 0), (6, .pt 2 0), (7, .sl 3 0 x4.length), (8, .v (.int .i64 v7)), (9, .v (.bool false))], [(0, .box [.bs false 2 (List.map enc_si p1), .v (.int .i64 p2)]), (1, .box [.v (.int .i64 0), .v (.int .i64 0)]), (2, .box [.v (.int .i64 v5), .v (.int .i64 v6)]), (3, .arr 1 (List.map enc_s x4))]⟩) (C := (0 ≤ v7 ∧ v7 < (x4.length : Int)) ∧ (True ∧ (AV.v (((List.map enc_s x4).getD (0 + v7.toNat) []).getD 0 undef) = .v (.string (gt x4 v7)))) ∧ ((True) ∧ ((.v (.bool (!decide ((gt x4 v7) = ByteArray.empty))) : AV) = (.v (.bool false) : AV))) ∧ True) (by kernel_rfl) ⟨g4, ⟨⟨trivial, (congrArg (fun z : List Value => AV.v (z.getD 0 undef)) (idx_arr (enc := enc_s) rfl g4))⟩, ⟨⟨trivial, (congrArg (fun z => AV.v (.bool z)) b5)⟩, trivial⟩⟩⟩ trivial ?_
        refine AX.seq ?_
        refine AX.reg (its := [.auto {}, .auto {}, .auto {}, .auto { y := some (.v (.string (gt x4 v7))) }]) [1, 2, 4, 6, 7, 8, 9, 10] [0, 1, 2, 3] (s1 := ⟨[(1, .v (.string p3)), (2, .pt 0 0), (4, .pt 1 0), (6, .pt 2 0), (7, .sl 3 0 x4.length), (8, .v (.int .i64 v7)), (9, .v (.bool false)), (10, .v (.string (gt x4 v7)))], [(0, .box [.bs false 2 (List.map enc_si p1), .v (.int .i64 p2)]), (1, .box [.v (.int .i64 0), .v (.int .i64 0)]), (2, .box [.v (.int .i64 v5), .v (.int .i64 v6)]), (3, .arr 1 (List.map enc_s x4))]⟩) (C := (0 ≤ v7 ∧ v7 < (x4.length : Int)) ∧ (True ∧ (AV.v (((List.map enc_s x4).getD (0 + v7.toNat) []).getD 0 undef) = .v (.string (gt x4 v7)))) ∧ True) (by kernel_rfl) ⟨g4, ⟨⟨trivial, (congrArg (fun z : List Value => AV.v (z.getD 0 undef)) (idx_arr (enc := enc_s) rfl g4))⟩, trivial⟩⟩ trivial ?_
        refine AX.seq ?_
        refine AX.seq ?_
        refine AX.reg (its := []) [1, 2, 4, 6, 7, 8, 9, 10, 41] [0, 1, 2, 3] (s1 := ⟨[(1, .v (.string p3)), (2, .pt 0 0), (4, .pt 1 0), (6, .pt 2 0), (7, .sl 3 0 x4.length), (8, .v (.int .i64 v7)), (9, .v (.bool false)), (10, .v (.string (gt x4 v7))), (41, .v (.bool false))], [(0, .box [.bs false 2 (List.map enc_si p1), .v (.int .i64 p2)]), (1, .box [.v (.int .i64 0), .v (.int .i64 0)]), (2, .box [.v (.int .i64 v5), .v (.int .i64 v6)]), (3, .arr 1 (List.map enc_s x4))]⟩) (C := True) (by kernel_rfl) trivial trivial ?_
        refine AX.cond_false (by kernel_rfl) ?_
        refine AX.skip ?_
        refine AX.seq ?_
        obtain ⟨x13, e18, h⟩ := bd_e h
        refine AX.reg (its := [.auto {}, .auto {}, .auto {}, .call 71 [.bs false 2 (List.map enc_si p1), .v (.string (gt x4 v7))] (handO (rho ([] ++ [])) [] [] ++ []) (callEv [] [] (.v (.int .i64 x13)) [])]) [1, 2, 4, 6, 7, 8, 9, 11] [0, 1, 2, 3] (s1 := ⟨[(1, .v (.string p3)), (2, .pt 0 0), (4, .pt 1 0), (6, .pt 2 0), (7, .sl 3 0 x4.length), (8, .v (.int .i64 v7)), (9, .v (.bool false)), (11, .v (.int .i64 x13))], [(0, .box [.bs false 2 (List.map enc_si p1), .v (.int .i64 p2)]), (1, .box [.v (.int .i64 0), .v (.int .i64 0)]), (2, .box [.v (.int .i64 v5), .v (.int .i64 v6)]), (3, .arr 1 (List.map enc_s x4))]⟩) (C := ((([.bs false 2 (List.map enc_si p1), .v (.string (gt x4 v7))] : List AV) = [.bs false 2 (List.map enc_si p1), .v (.string (gt x4 v7))]) ∧ True) ∧ True) (by kernel_rfl) ⟨⟨rfl, trivial⟩, trivial⟩ ⟨call_ok (ks := []) (ns := []) (bor := []) (bobjs := []) (s_spec_indexOf p1 (gt x4 v7) x13 e18) (.cons (.c1 (.c0 (.same _ (by kernel_rfl) (by kernel_rfl)))) (.cons (.c1 (.c0 (.same _ (by kernel_rfl) (by kernel_rfl)))) (.nil))) (by kernel_rfl) trivial, trivial⟩ ?_
        refine AX.seq ?_
        refine AX.seq ?_
        refine AX.reg (its := []) [1, 2, 4, 6, 7, 8, 9, 11, 49] [0, 1, 2, 3] (s1 := ⟨[(1, .v (.string p3)), (2, .pt 0 0), (4, .pt 1 0), (6, .pt 2 0), (7, .sl 3 0 x4.length), (8, .v (.int .i64 v7)), (9, .v (.bool false)), (11, .v (.int .i64 x13)), (49, .v (.bool (decide (x13 < 0))))], [(0, .box [.bs false 2 (List.map enc_si p1), .v (.int .i64 p2)]), (1, .box [.v (.int .i64 0), .v (.int .i64 0)]), (2, .box [.v (.int .i64 v5), .v (.int .i64 v6)]), (3, .arr 1 (List.map enc_s x4))]⟩) (C := True) (by kernel_rfl) trivial trivial ?_
        rcases bool_cases (decide (x13 < 0)) with b19 | b19
        · replace h := cd_t b19 h
          refine AX.condT (decide (x13 < 0)) (by kernel_rfl) b19 ?_
          refine AX.seq ?_
          refine AX.reg (its := []) [4, 5] [1] (s1 := ⟨[(4, .pt 1 0), (5, .v (.bool false))], [(1, .box [.v (.int .i64 0), .v (.int .i64 0)])]⟩) (C := True) (by kernel_rfl) trivial trivial ?_
          refine AX.ret ?_
          refine fin_wk (Wk.swap 0 1 (Nat.le_of_ble_eq_true (by kernel_rfl)) (Nat.le_of_ble_eq_true (by kernel_rfl)) rfl) ?_
          refine fin_wk (Wk.forget [4, 5] [0] (s' := ⟨[(4, .pt 0 0), (5, .v (.bool false))], [(0, .box [.v (.int .i64 0), .v (.int .i64 0)])]⟩) (by kernel_rfl)) ?_
          have hr := Option.some.inj h
          subst hr
          exact ⟨_, Wk.refl _, .inl ⟨(), rfl, rfl, rfl⟩⟩
        · replace h := cd_f b19 h
          refine AX.condF (decide (x13 < 0)) (by kernel_rfl) b19 ?_
          refine AX.skip ?_
          refine AX.seq ?_
          refine AX.reg (its := []) [1, 2, 4, 6, 7, 8, 11, 51] [0, 1, 2, 3] (s1 := ⟨[(1, .v (.string p3)), (2, .pt 0 0), (4, .pt 1 0), (6, .pt 2 0), (7, .sl 3 0 x4.length), (8, .v (.int .i64 v7)), (11, .v (.int .i64 x13)), (51, .v (.bool false))], [(0, .box [.bs false 2 (List.map enc_si p1), .v (.int .i64 p2)]), (1, .box [.v (.int .i64 0), .v (.int .i64 0)]), (2, .box [.v (.int .i64 v5), .v (.int .i64 v6)]), (3, .arr 1 (List.map enc_s x4))]⟩) (C := True) (by kernel_rfl) trivial trivial ?_
          refine AX.cond_false (by kernel_rfl) ?_
          obtain ⟨g20, h⟩ := gd_e h
          obtain ⟨x14, e21, h⟩ := bd_e h
          refine AX.drw mixed (its := [.auto {}, .auto {}, .auto {}, .auto {}, .auto {}, .auto { y := some (.be 2 (enc_si (gt p1 x13)) 0) }, .auto {}, .auto {}, .call 72 [.v (.int .i64 v5), .v (.int .i64 ((gt p1 x13).2))] (handO (rho ([] ++ [])) [] [] ++ []) (callEv [] [] (.v (.int .i64 x14)) [])]) [1, 2, 4, 6, 7, 8] [0, 1, 2, 3] (s1 := ⟨[(1, .v (.string p3)), (2, .pt 0 0), (4, .pt 1 0), (6, .pt 2 0), (7, .sl 3 0 x4.length), (8, .v (.int .i64 v7))], [(0, .box [.bs false 2 (List.map enc_si p1), .v (.int .i64 p2)]), (1, .box [.v (.int .i64 0), .v (.int .i64 0)]), (2, .box [.v (.int .i64 x14), .v (.int .i64 v6)]), (3, .arr 1 (List.map enc_s x4))]⟩) (C := ((0 ≤ x13 ∧ x13 < ((List.map enc_si p1).length : Int)) ∧ (AV.be 2 ((List.map enc_si p1).getD x13.toNat []) 0 = AV.be 2 (enc_si (gt p1 x13)) 0)) ∧ ((([.v (.int .i64 v5), .v (.int .i64 ((gt p1 x13).2))] : List AV) = [.v (.int .i64 v5), .v (.int .i64 ((gt p1 x13).2))]) ∧ True) ∧ True) (by kernel_rfl) ⟨idx_bs enc_si p1 x13 2 g20, ⟨⟨rfl, trivial⟩, trivial⟩⟩ ⟨call_ok (ks := []) (ns := []) (bor := []) (bobjs := []) (s_spec_either v5 ((gt p1 x13).2) x14 e21) (.cons (.c1 (.c0 (.same _ (by kernel_rfl) (by kernel_rfl)))) (.cons (.c1 (.c0 (.same _ (by kernel_rfl) (by kernel_rfl)))) (.nil))) (by kernel_rfl) trivial, trivial⟩ ?_
          refine AX.reg (its := [.auto {}, .auto { raw := true }]) [1, 2, 4, 6, 7, 8] [0, 1, 2, 3] (s1 := ⟨[(1, .v (.string p3)), (2, .pt 0 0), (4, .pt 1 0), (6, .pt 2 0), (7, .sl 3 0 x4.length), (8, .v (.int .i64 (IntKind.wrap .i64 (v7 + 1))))], [(0, .box [.bs false 2 (List.map enc_si p1), .v (.int .i64 p2)]), (1, .box [.v (.int .i64 0), .v (.int .i64 0)]), (2, .box [.v (.int .i64 x14), .v (.int .i64 v6)]), (3, .arr 1 (List.map enc_s x4))]⟩) (C := True) (by kernel_rfl) trivial trivial ?_
          refine ⟨(fu, (x14, v6, IntKind.wrap .i64 (v7 + 1))), h, Nat.lt_succ_self _, ?_⟩
          refine Wk.trans (Wk.forget [1, 2, 4, 6, 7, 8] [0, 1, 2, 3] (s' := ⟨[(1, .v (.string p3)), (2, .pt 0 0), (4, .pt 1 0), (6, .pt 2 0), (7, .sl 3 0 x4.length), (8, .v (.int .i64 (IntKind.wrap .i64 (v7 + 1))))], [(0, .box [.bs false 2 (List.map enc_si p1), .v (.int .i64 p2)]), (1, .box [.v (.int .i64 0), .v (.int .i64 0)]), (2, .box [.v (.int .i64 x14), .v (.int .i64 v6)]), (3, .arr 1 (List.map enc_s x4))]⟩) (by kernel_rfl)) ?_
          exact Wk.refl _
    · replace h := cd_f b3 h
      refine AX.condF (decide (v7 < (x4.length : Int))) (by kernel_rfl) b3 ?_
      refine AX.exit ?_
      refine fin_wk (Wk.forget [1, 2, 4, 6] [0, 1, 2] (s' := ⟨[(1, .v (.string p3)), (2, .pt 0 0), (4, .pt 1 0), (6, .pt 2 0)], [(0, .box [.bs false 2 (List.map enc_si p1), .v (.int .i64 p2)]), (1, .box [.v (.int .i64 0), .v (.int .i64 0)]), (2, .box [.v (.int .i64 v5), .v (.int .i64 v6)])]⟩) (by kernel_rfl)) ?_
      have hr := Option.some.inj h
      subst hr
      exact ⟨_, Wk.refl _, .inr ⟨(v5, v6), rfl, rfl, rfl⟩⟩

end Go.Eng
