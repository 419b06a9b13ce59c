/- What is proved here: each function keeps to its model, whatever its arguments, wherever the model has an answer. Printed by gen.py. -/
import Derived.Test.YtpoaggicbnldhaaCExactSortEnumWalk1
import Derived.Test.YtpoaggicbnldhaaProg
import Derived.KernelRfl
set_option linter.unusedVariables false
namespace Go.Eng
open Go Go.Proofs


theorem s_slices_stableCmpFunc_h_SortEnum_1_si_L3 (p1 : Int) (x8 : List (ByteArray × Int)) (v9 : Int) (n : Nat) (g : Unit) (out : Unit) (h : m_slices_stableCmpFunc_h_SortEnum_1_si_L3 p1 x8 v9 n = some out) :
    AX Try.prog 63 1 (codeAt [1, 1, 1, 1, 1, 1, 1, 1, 1, 0, 1] (bodyOf Try.f82)) ((fun g : Unit => (⟨[(0, .sl 0 0 x8.length), (1, .v (.int .i64 p1)), (2, .fn 54 []), (6, .v (.int .i64 v9)), (7, .v (.int .i64 0)), (8, .v (.int .i64 (IntKind.wrap .i64 (2 * v9))))], [(0, .arr 2 (List.map enc_si x8))]⟩ : S)) g) (fun ex s => ex = .exit 4 ∧ s = (fun o : Unit => (⟨[(0, .sl 0 0 x8.length), (1, .v (.int .i64 p1)), (2, .fn 54 []), (6, .v (.int .i64 v9)), (7, .v (.int .i64 0))], [(0, .arr 2 (List.map enc_si x8))]⟩ : S)) out) := by
  refine AX.wkpost ?_
  refine AX.loop (G := Nat × (Unit)) (fun q => (fun g : Unit => (⟨[(0, .sl 0 0 x8.length), (1, .v (.int .i64 p1)), (2, .fn 54 []), (6, .v (.int .i64 v9)), (7, .v (.int .i64 0)), (8, .v (.int .i64 (IntKind.wrap .i64 (2 * v9))))], [(0, .arr 2 (List.map enc_si x8))]⟩ : S)) q.2) (fun q => m_slices_stableCmpFunc_h_SortEnum_1_si_L3 p1 x8 v9 q.1 = some out) (fun q => q.1) (n, g) h (Wk.refl _) ?_
  clear h
  rintro ⟨fu, _⟩ h
  cases fu with
  | zero => cases h
  | succ fu =>
    rw [m_slices_stableCmpFunc_h_SortEnum_1_si_L3] at h
    refine AX.seq ?_
    refine AX.seq ?_
    refine AX.reg (its := []) [0, 1, 2, 6, 7, 8, 35] [0] (s1 := ⟨[(0, .sl 0 0 x8.length), (1, .v (.int .i64 p1)), (2, .fn 54 []), (6, .v (.int .i64 v9)), (7, .v (.int .i64 0)), (8, .v (.int .i64 (IntKind.wrap .i64 (2 * v9)))), (35, .v (.bool (decide ((IntKind.wrap .i64 (2 * v9)) ≤ p1))))], [(0, .arr 2 (List.map enc_si x8))]⟩) (C := True) (by kernel_rfl) trivial trivial ?_
    rcases bool_cases (decide ((IntKind.wrap .i64 (2 * v9)) ≤ p1)) with b8 | b8
    · replace h := cd_t b8 h
      refine AX.condT (decide ((IntKind.wrap .i64 (2 * v9)) ≤ p1)) (by kernel_rfl) b8 ?_
      refine AX.skip ?_
      refine AX.block ?_
      refine AX.seq ?_
      cases h
    · replace h := cd_f b8 h
      refine AX.condF (decide ((IntKind.wrap .i64 (2 * v9)) ≤ p1)) (by kernel_rfl) b8 ?_
      refine AX.exit ?_
      refine fin_wk (Wk.forget [0, 1, 2, 6, 7] [0] (s' := ⟨[(0, .sl 0 0 x8.length), (1, .v (.int .i64 p1)), (2, .fn 54 []), (6, .v (.int .i64 v9)), (7, .v (.int .i64 0))], [(0, .arr 2 (List.map enc_si x8))]⟩) (by kernel_rfl)) ?_
      have hr := Option.some.inj h
      subst hr
      exact ⟨_, Wk.refl _, ⟨rfl, rfl⟩⟩

theorem s_slices_stableCmpFunc_h_SortEnum_1_si_L2 (p1 : Int) (x8 : List (ByteArray × Int)) (n : Nat) (g : Int) (out : Unit) (h : m_slices_stableCmpFunc_h_SortEnum_1_si_L2 p1 x8 n g = some out) :
    AX Try.prog 63 1 (codeAt [1, 1, 1, 1, 1] (bodyOf Try.f82)) ((fun g : Int => (⟨[(0, .sl 0 0 x8.length), (1, .v (.int .i64 p1)), (2, .fn 54 []), (6, .v (.int .i64 g))], [(0, .arr 2 (List.map enc_si x8))]⟩ : S)) g) (fun ex s => ex = .exit 2 ∧ s = (fun o : Unit => (⟨[], [(0, .arr 2 (List.map enc_si x8))]⟩ : S)) out) := by
  refine AX.wkpost ?_
  refine AX.loop (G := Nat × (Int)) (fun q => (fun g : Int => (⟨[(0, .sl 0 0 x8.length), (1, .v (.int .i64 p1)), (2, .fn 54 []), (6, .v (.int .i64 g))], [(0, .arr 2 (List.map enc_si x8))]⟩ : S)) q.2) (fun q => m_slices_stableCmpFunc_h_SortEnum_1_si_L2 p1 x8 q.1 q.2 = some out) (fun q => q.1) (n, g) h (Wk.refl _) ?_
  clear h
  rintro ⟨fu, v9⟩ h
  cases fu with
  | zero => cases h
  | succ fu =>
    rw [m_slices_stableCmpFunc_h_SortEnum_1_si_L2] at h
    refine AX.seq ?_
    refine AX.seq ?_
    refine AX.reg (its := []) [0, 1, 2, 6, 30] [0] (s1 := ⟨[(0, .sl 0 0 x8.length), (1, .v (.int .i64 p1)), (2, .fn 54 []), (6, .v (.int .i64 v9)), (30, .v (.bool (decide (v9 < p1))))], [(0, .arr 2 (List.map enc_si x8))]⟩) (C := True) (by kernel_rfl) trivial trivial ?_
    rcases bool_cases (decide (v9 < p1)) with b7 | b7
    · replace h := cd_t b7 h
      refine AX.condT (decide (v9 < p1)) (by kernel_rfl) b7 ?_
      refine AX.skip ?_
      refine AX.block ?_
      refine AX.seq ?_
      refine AX.reg (its := [.auto {}, .auto { raw := true }]) [0, 1, 2, 6, 7, 8] [0] (s1 := ⟨[(0, .sl 0 0 x8.length), (1, .v (.int .i64 p1)), (2, .fn 54 []), (6, .v (.int .i64 v9)), (7, .v (.int .i64 0)), (8, .v (.int .i64 (IntKind.wrap .i64 (2 * v9))))], [(0, .arr 2 (List.map enc_si x8))]⟩) (C := True) (by kernel_rfl) trivial trivial ?_
      refine AX.seq ?_
      refine AX.block ?_
      obtain ⟨x10, e9, h⟩ := bd_e h
      refine AX.wk (Wk.forget [0, 1, 2, 6, 7, 8] [0] (s' := ⟨[(0, .sl 0 0 x8.length), (1, .v (.int .i64 p1)), (2, .fn 54 []), (6, .v (.int .i64 v9)), (7, .v (.int .i64 0)), (8, .v (.int .i64 (IntKind.wrap .i64 (2 * v9))))], [(0, .arr 2 (List.map enc_si x8))]⟩) (by kernel_rfl)) ?_
      refine AX.mono (s_slices_stableCmpFunc_h_SortEnum_1_si_L3 p1 x8 v9 FU () x10 e9) ?_
      rintro _ _ ⟨rfl, rfl⟩
      skip
      refine AX.seq ?_
      refine AX.seq ?_
      refine AX.reg (its := [.auto {}, .auto {}, .auto { raw := true }]) [0, 1, 2, 6, 7, 9] [0] (s1 := ⟨[(0, .sl 0 0 x8.length), (1, .v (.int .i64 p1)), (2, .fn 54 []), (6, .v (.int .i64 v9)), (7, .v (.int .i64 0)), (9, .v (.int .i64 (IntKind.wrap .i64 (0 + v9))))], [(0, .arr 2 (List.map enc_si x8))]⟩) (C := True) (by kernel_rfl) trivial trivial ?_
      refine AX.seq ?_
      refine AX.reg (its := []) [0, 1, 2, 6, 7, 9, 54] [0] (s1 := ⟨[(0, .sl 0 0 x8.length), (1, .v (.int .i64 p1)), (2, .fn 54 []), (6, .v (.int .i64 v9)), (7, .v (.int .i64 0)), (9, .v (.int .i64 (IntKind.wrap .i64 (0 + v9)))), (54, .v (.bool (decide ((IntKind.wrap .i64 (0 + v9)) < p1))))], [(0, .arr 2 (List.map enc_si x8))]⟩) (C := True) (by kernel_rfl) trivial trivial ?_
      rcases bool_cases (decide ((IntKind.wrap .i64 (0 + v9)) < p1)) with b10 | b10
      · replace h := cd_t b10 h
        refine AX.condT (decide ((IntKind.wrap .i64 (0 + v9)) < p1)) (by kernel_rfl) b10 ?_
        cases h
      · replace h := cd_f b10 h
        refine AX.condF (decide ((IntKind.wrap .i64 (0 + v9)) < p1)) (by kernel_rfl) b10 ?_
        refine AX.skip ?_
        refine AX.reg (its := [.auto {}, .auto { raw := true }]) [0, 1, 2, 6] [0] (s1 := ⟨[(0, .sl 0 0 x8.length), (1, .v (.int .i64 p1)), (2, .fn 54 []), (6, .v (.int .i64 (IntKind.wrap .i64 (v9 * 2))))], [(0, .arr 2 (List.map enc_si x8))]⟩) (C := True) (by kernel_rfl) trivial trivial ?_
        refine ⟨(fu, IntKind.wrap .i64 (v9 * 2)), h, Nat.lt_succ_self _, ?_⟩
        refine Wk.trans (Wk.forget [0, 1, 2, 6] [0] (s' := ⟨[(0, .sl 0 0 x8.length), (1, .v (.int .i64 p1)), (2, .fn 54 []), (6, .v (.int .i64 (IntKind.wrap .i64 (v9 * 2))))], [(0, .arr 2 (List.map enc_si x8))]⟩) (by kernel_rfl)) ?_
        exact Wk.refl _
    · replace h := cd_f b7 h
      refine AX.condF (decide (v9 < p1)) (by kernel_rfl) b7 ?_
      refine AX.exit ?_
      refine fin_wk (Wk.forget [] [0] (s' := ⟨[], [(0, .arr 2 (List.map enc_si x8))]⟩) (by kernel_rfl)) ?_
      have hr := Option.some.inj h
      subst hr
      exact ⟨_, Wk.refl _, ⟨rfl, rfl⟩⟩

theorem s_slices_stableCmpFunc_h_SortEnum_1_si (p1 : Int) (p2 : List (ByteArray × Int)) (r : List (ByteArray × Int)) (h : m_slices_stableCmpFunc_h_SortEnum_1_si p1 p2 = some r) :
    Eng.Spec Try.prog 82 [.sl 0 0 p2.length, .v (.int .i64 p1), .fn 54 []] [.arr 2 (List.map enc_si p2)] (.tup []) [.arr 2 (List.map enc_si r)] := by
  unfold m_slices_stableCmpFunc_h_SortEnum_1_si at h
  refine Eng.Spec.body Try.func82 (by kernel_rfl) rfl (by kernel_rfl) ?_
  refine AX.wkpost ?_
  refine AX.seq ?_
  refine AX.reg (its := []) [0, 1, 2, 6] [0] (s1 := ⟨[(0, .sl 0 0 p2.length), (1, .v (.int .i64 p1)), (2, .fn 54 []), (6, .v (.int .i64 20))], [(0, .arr 2 (List.map enc_si p2))]⟩) (C := True) (by kernel_rfl) trivial trivial ?_
  refine AX.seq ?_
  refine AX.reg (its := []) [0, 1, 2, 6, 7, 8] [0] (s1 := ⟨[(0, .sl 0 0 p2.length), (1, .v (.int .i64 p1)), (2, .fn 54 []), (6, .v (.int .i64 20)), (7, .v (.int .i64 0)), (8, .v (.int .i64 20))], [(0, .arr 2 (List.map enc_si p2))]⟩) (C := True) (by kernel_rfl) trivial trivial ?_
  refine AX.seq ?_
  refine AX.block ?_
  obtain ⟨x7, e4, h⟩ := bd_e h
  refine AX.wk (Wk.forget [0, 1, 2, 6, 7, 8] [0] (s' := ⟨[(0, .sl 0 0 p2.length), (1, .v (.int .i64 p1)), (2, .fn 54 []), (6, .v (.int .i64 20)), (7, .v (.int .i64 0)), (8, .v (.int .i64 20))], [(0, .arr 2 (List.map enc_si p2))]⟩) (by kernel_rfl)) ?_
  refine AX.mono (s_slices_stableCmpFunc_h_SortEnum_1_si_L1 p1 FU (0, 20, p2) x7 e4) ?_
  rintro _ _ ⟨rfl, rfl⟩
  skip
  refine AX.seq ?_
  obtain ⟨x8, e5, h⟩ := bd_e h
  obtain ⟨g6, h⟩ := gd_e h
  refine AX.reg (its := [.auto {}, .auto {}, .auto {}, .auto {}, .call 93 [.sl 0 0 x7.2.length, .v (.int .i64 x7.1), .v (.int .i64 p1), .fn 54 []] (handO (rho ([0] ++ [])) [0] [.arr 2 (List.map enc_si x7.2)] ++ []) (callEv [0] [] (.tup []) [.arr 2 (List.map enc_si x8)])]) [0, 1, 2, 6] [0] (s1 := ⟨[(0, .sl 0 0 x7.2.length), (1, .v (.int .i64 p1)), (2, .fn 54 []), (6, .v (.int .i64 20))], [(0, .arr 2 (List.map enc_si x8))]⟩) (C := ((([.sl 0 0 x7.2.length, .v (.int .i64 x7.1), .v (.int .i64 p1), .fn 54 []] : List AV) = [.sl 0 0 x7.2.length, .v (.int .i64 x7.1), .v (.int .i64 p1), .fn 54 []]) ∧ (AO.arr 2 (List.map enc_si x7.2) = AO.arr 2 (List.map enc_si x7.2)) ∧ True) ∧ True) (by kernel_rfl) ⟨⟨rfl, rfl, trivial⟩, trivial⟩ ⟨call_ok (ks := [0]) (ns := []) (bor := []) (bobjs := []) (s_slices_insertionSortCmpFunc_h_SortEnum_1_si x7.1 p1 x7.2 x8 e5) (.cons (.c1 (.c0 (.same _ (by kernel_rfl) (by kernel_rfl)))) (.cons (.c1 (.c0 (.same _ (by kernel_rfl) (by kernel_rfl)))) (.cons (.c1 (.c0 (.same _ (by kernel_rfl) (by kernel_rfl)))) (.cons (.fn (.nil)) (.nil))))) (by kernel_rfl) ⟨.inr (arr_sh (enc := enc_si) g6), trivial⟩, trivial⟩ ?_
  refine AX.block ?_
  obtain ⟨x11, e11, h⟩ := bd_e h
  refine AX.wk (Wk.forget [0, 1, 2, 6] [0] (s' := ⟨[(0, .sl 0 0 x7.2.length), (1, .v (.int .i64 p1)), (2, .fn 54 []), (6, .v (.int .i64 20))], [(0, .arr 2 (List.map enc_si x8))]⟩) (by kernel_rfl)) ?_
  refine AX.wk (Wk.of_eq (congrArg (fun z => (⟨[(0, .sl 0 0 z), (1, .v (.int .i64 p1)), (2, .fn 54 []), (6, .v (.int .i64 20))], [(0, .arr 2 (List.map enc_si x8))]⟩ : S)) (((rfl : x7.2.length = x7.2.length)).trans (g6).symm))) ?_
  refine AX.mono (s_slices_stableCmpFunc_h_SortEnum_1_si_L2 p1 x8 FU 20 x11 e11) ?_
  rintro _ _ ⟨rfl, rfl⟩
  skip
  refine fin_wk (Wk.forget [] [0] (s' := ⟨[], [(0, .arr 2 (List.map enc_si x8))]⟩) (by kernel_rfl)) ?_
  have hr := Option.some.inj h
  subst hr
  exact ⟨_, Wk.refl _, .inl rfl, ⟨[], by kernel_rfl, ⟨rfl, trivial⟩, [], by kernel_rfl, by kernel_rfl⟩⟩

theorem s_slices_SortStableFunc_h_SortEnum_1_si (p1 : List (ByteArray × Int)) (r : List (ByteArray × Int)) (h : m_slices_SortStableFunc_h_SortEnum_1_si p1 = some r) :
    Eng.Spec Try.prog 53 [.sl 0 0 p1.length, .fn 54 []] [.arr 2 (List.map enc_si p1)] (.tup []) [.arr 2 (List.map enc_si r)] := by
  unfold m_slices_SortStableFunc_h_SortEnum_1_si at h
  refine Eng.Spec.body Try.func53 (by kernel_rfl) rfl (by kernel_rfl) ?_
  refine AX.wkpost ?_
  obtain ⟨x2, e1, h⟩ := bd_e h
  obtain ⟨g2, h⟩ := gd_e h
  refine AX.reg (its := [.auto {}, .auto {}, .auto {}, .auto {}, .call 82 [.sl 0 0 p1.length, .v (.int .i64 (p1.length : Int)), .fn 54 []] (handO (rho ([0] ++ [])) [0] [.arr 2 (List.map enc_si p1)] ++ []) (callEv [0] [] (.tup []) [.arr 2 (List.map enc_si x2)])]) [] [0] (s1 := ⟨[], [(0, .arr 2 (List.map enc_si x2))]⟩) (C := ((([.sl 0 0 p1.length, .v (.int .i64 (p1.length : Int)), .fn 54 []] : List AV) = [.sl 0 0 p1.length, .v (.int .i64 (p1.length : Int)), .fn 54 []]) ∧ (AO.arr 2 (List.map enc_si p1) = AO.arr 2 (List.map enc_si p1)) ∧ True) ∧ True) (by kernel_rfl) ⟨⟨rfl, rfl, trivial⟩, trivial⟩ ⟨call_ok (ks := [0]) (ns := []) (bor := []) (bobjs := []) (s_slices_stableCmpFunc_h_SortEnum_1_si (p1.length : Int) p1 x2 e1) (.cons (.c1 (.c0 (.same _ (by kernel_rfl) (by kernel_rfl)))) (.cons (.c1 (.c0 (.same _ (by kernel_rfl) (by kernel_rfl)))) (.cons (.fn (.nil)) (.nil)))) (by kernel_rfl) ⟨.inr (arr_sh (enc := enc_si) g2), trivial⟩, trivial⟩ ?_
  refine fin_wk (Wk.forget [] [0] (s' := ⟨[], [(0, .arr 2 (List.map enc_si x2))]⟩) (by kernel_rfl)) ?_
  refine fin_wk (Wk.of_eq (congrArg (fun z => (⟨[], [(0, .arr 2 (List.map enc_si x2))]⟩ : S)) (((rfl : p1.length = p1.length)).trans (g2).symm))) ?_
  have hr := Option.some.inj h
  subst hr
  exact ⟨_, Wk.refl _, .inl rfl, ⟨[], by kernel_rfl, ⟨rfl, trivial⟩, [], by kernel_rfl, by kernel_rfl⟩⟩

theorem s_impl_SortEnum (p1 : List (ByteArray × Int)) (r : List (ByteArray × Int)) (h : m_impl_SortEnum p1 = some r) :
    Eng.Spec Try.prog 25 [.agg [.bs false 2 (List.map enc_si p1)]] [] (.agg [.sl 0 0 r.length]) [.arr 2 (List.map enc_si r)] := by
  unfold m_impl_SortEnum at h
  refine Eng.Spec.body Try.func25 (by kernel_rfl) rfl (by kernel_rfl) ?_
  refine AX.wkpost ?_
  refine AX.seq ?_
  refine AX.reg (its := [.auto { nk := 0 }, .auto { nk := 1 }]) [1, 2] [0, 1] (s1 := ⟨[(1, .pt 0 0), (2, .pt 1 0)], [(0, .box [.bs false 2 (List.map enc_si p1)]), (1, .box [.v (.slice none 0 0)])]⟩) (C := True) (by kernel_rfl) trivial trivial ?_
  refine AX.seq ?_
  refine AX.seq ?_
  obtain ⟨x2, e1, h⟩ := bd_e h
  refine AX.reg (its := [.auto {}, .call 13 [.agg [.bs false 2 (List.map enc_si p1)]] (handO (rho ([] ++ [])) [] [] ++ []) (callEv [] [] (.v (.bool x2)) [])]) [1, 2, 6] [0, 1] (s1 := ⟨[(1, .pt 0 0), (2, .pt 1 0), (6, .v (.bool (!x2)))], [(0, .box [.bs false 2 (List.map enc_si p1)]), (1, .box [.v (.slice none 0 0)])]⟩) (C := ((([.agg [.bs false 2 (List.map enc_si p1)]] : List AV) = [.agg [.bs false 2 (List.map enc_si p1)]]) ∧ True) ∧ True) (by kernel_rfl) ⟨⟨rfl, trivial⟩, trivial⟩ ⟨call_ok (ks := []) (ns := []) (bor := []) (bobjs := []) (s_impl_ValidEnum p1 x2 e1) (.cons (.c1 (.agg (.cons (.same _ (by kernel_rfl) (by kernel_rfl)) (.nil)))) (.nil)) (by kernel_rfl) trivial, trivial⟩ ?_
  rcases bool_cases ((!x2)) with b2 | b2
  · replace h := cd_t b2 h
    refine AX.condT ((!x2)) (by kernel_rfl) b2 ?_
    refine AX.seq ?_
    refine AX.reg (its := []) [2] [1] (s1 := ⟨[(2, .pt 1 0)], [(1, .box [.v (.slice none 0 0)])]⟩) (C := True) (by kernel_rfl) trivial trivial ?_
    refine AX.ret ?_
    refine fin_wk (Wk.matB 1 0 2 2 (cs := [.v (.slice none 0 0)]) (by kernel_rfl) (by kernel_rfl) (Nat.le_of_ble_eq_true (by kernel_rfl)) (by kernel_rfl) (by decide) rfl) ?_
    refine fin_wk (Wk.swap 0 1 (Nat.le_of_ble_eq_true (by kernel_rfl)) (Nat.le_of_ble_eq_true (by kernel_rfl)) rfl) ?_
    refine fin_wk (Wk.swap 1 2 (Nat.le_of_ble_eq_true (by kernel_rfl)) (Nat.le_of_ble_eq_true (by kernel_rfl)) rfl) ?_
    refine fin_wk (Wk.forget [2] [0, 1] (s' := ⟨[(2, .pt 0 0)], [(0, .box [.sl 1 0 (([] : List (ByteArray × Int)).length)]), (1, .arr 2 (List.map enc_si ([] : List (ByteArray × Int))))]⟩) (by kernel_rfl)) ?_
    have hr := Option.some.inj h
    subst hr
    exact ⟨_, Wk.refl _, .inr rfl, ⟨[1], by kernel_rfl, ⟨rfl, trivial⟩, [.agg [.sl 1 0 (([] : List (ByteArray × Int)).length)]], by kernel_rfl, by kernel_rfl⟩⟩
  · replace h := cd_f b2 h
    refine AX.condF ((!x2)) (by kernel_rfl) b2 ?_
    refine AX.skip ?_
    refine AX.seq ?_
    obtain ⟨x3, e3, h⟩ := bd_e h
    refine AX.reg (its := [.auto {}, .auto {}, .call 34 [.bs false 2 (List.map enc_si p1)] (handO (rho ([] ++ [2])) [] [] ++ []) (callEv [] [2] (.sl 0 0 x3.length) [.arr 2 (List.map enc_si x3)]), .auto {}, .auto { nk := 3 }]) [2, 3] [1, 2, 3] (s1 := ⟨[(2, .pt 1 0), (3, .pt 3 0)], [(1, .box [.v (.slice none 0 0)]), (2, .arr 2 (List.map enc_si x3)), (3, .box [.sl 2 0 x3.length])]⟩) (C := ((([.bs false 2 (List.map enc_si p1)] : List AV) = [.bs false 2 (List.map enc_si p1)]) ∧ True) ∧ True) (by kernel_rfl) ⟨⟨rfl, trivial⟩, trivial⟩ ⟨call_ok (ks := []) (ns := [2]) (bor := []) (bobjs := []) (s_impl_clone_si p1 x3 e3) (.cons (.c1 (.c0 (.same _ (by kernel_rfl) (by kernel_rfl)))) (.nil)) (by kernel_rfl) trivial, trivial⟩ ?_
    refine AX.seq ?_
    obtain ⟨x4, e4, h⟩ := bd_e h
    obtain ⟨g5, h⟩ := gd_e h
    refine AX.reg (its := [.auto {}, .auto {}, .call 53 [.sl 2 0 x3.length, .fn 54 []] (handO (rho ([2] ++ [])) [2] [.arr 2 (List.map enc_si x3)] ++ []) (callEv [2] [] (.tup []) [.arr 2 (List.map enc_si x4)])]) [2, 3] [1, 2, 3] (s1 := ⟨[(2, .pt 1 0), (3, .pt 3 0)], [(1, .box [.v (.slice none 0 0)]), (2, .arr 2 (List.map enc_si x4)), (3, .box [.sl 2 0 x3.length])]⟩) (C := ((([.sl 2 0 x3.length, .fn 54 []] : List AV) = [.sl 2 0 x3.length, .fn 54 []]) ∧ (AO.arr 2 (List.map enc_si x3) = AO.arr 2 (List.map enc_si x3)) ∧ True) ∧ True) (by kernel_rfl) ⟨⟨rfl, rfl, trivial⟩, trivial⟩ ⟨call_ok (ks := [2]) (ns := []) (bor := []) (bobjs := []) (s_slices_SortStableFunc_h_SortEnum_1_si x3 x4 e4) (.cons (.c1 (.c0 (.same _ (by kernel_rfl) (by kernel_rfl)))) (.cons (.fn (.nil)) (.nil))) (by kernel_rfl) ⟨.inr (arr_sh (enc := enc_si) g5), trivial⟩, trivial⟩ ?_
    refine AX.seq ?_
    refine AX.reg (its := []) [2] [1, 2] (s1 := ⟨[(2, .pt 1 0)], [(1, .box [.sl 2 0 x3.length]), (2, .arr 2 (List.map enc_si x4))]⟩) (C := True) (by kernel_rfl) trivial trivial ?_
    refine AX.ret ?_
    refine fin_wk (Wk.swap 0 1 (Nat.le_of_ble_eq_true (by kernel_rfl)) (Nat.le_of_ble_eq_true (by kernel_rfl)) rfl) ?_
    refine fin_wk (Wk.swap 1 2 (Nat.le_of_ble_eq_true (by kernel_rfl)) (Nat.le_of_ble_eq_true (by kernel_rfl)) rfl) ?_
    refine fin_wk (Wk.forget [2] [0, 1] (s' := ⟨[(2, .pt 0 0)], [(0, .box [.sl 1 0 x3.length]), (1, .arr 2 (List.map enc_si x4))]⟩) (by kernel_rfl)) ?_
    refine fin_wk (Wk.of_eq (congrArg (fun z => (⟨[(2, .pt 0 0)], [(0, .box [.sl 1 0 z]), (1, .arr 2 (List.map enc_si x4))]⟩ : S)) (((rfl : x3.length = x3.length)).trans (g5).symm))) ?_
    have hr := Option.some.inj h
    subst hr
    exact ⟨_, Wk.refl _, .inr rfl, ⟨[1], by kernel_rfl, ⟨rfl, trivial⟩, [.agg [.sl 1 0 x4.length]], by kernel_rfl, by kernel_rfl⟩⟩

theorem s_laws_eqDef (p1 : ByteArray) (p2 : Int) (p3 : ByteArray) (p4 : Int) (r : Bool) (h : m_laws_eqDef p1 p2 p3 p4 = some r) :
    Eng.Spec Try.prog 81 [.agg [.v (.string p1), .v (.int .i64 p2)], .agg [.v (.string p3), .v (.int .i64 p4)]] [] (.v (.bool r)) [] := by
  unfold m_laws_eqDef at h
  refine Eng.Spec.body Try.func81 (by kernel_rfl) rfl (by kernel_rfl) ?_
  refine AX.wkpost ?_
  refine AX.seq ?_
  refine AX.reg (its := [.auto { nk := 0 }, .auto { nk := 1 }]) [2, 3] [0, 1] (s1 := ⟨[(2, .pt 0 0), (3, .pt 1 0)], [(0, .box [.v (.string p1), .v (.int .i64 p2)]), (1, .box [.v (.string p3), .v (.int .i64 p4)])]⟩) (C := True) (by kernel_rfl) trivial trivial ?_
  refine AX.seq ?_
  refine AX.seq ?_
  refine AX.reg (its := []) [2, 3, 9] [0, 1] (s1 := ⟨[(2, .pt 0 0), (3, .pt 1 0), (9, .v (.bool (!decide (p1 = p3))))], [(0, .box [.v (.string p1), .v (.int .i64 p2)]), (1, .box [.v (.string p3), .v (.int .i64 p4)])]⟩) (C := True) (by kernel_rfl) trivial trivial ?_
  rcases bool_cases ((!decide (p1 = p3))) with b1 | b1
  · replace h := cd_t b1 h
    refine AX.condT ((!decide (p1 = p3))) (by kernel_rfl) b1 ?_
    refine AX.seq ?_
    refine AX.reg (its := []) [4] [] (s1 := ⟨[(4, .v (.bool false))], []⟩) (C := True) (by kernel_rfl) trivial trivial ?_
    refine AX.ret ?_
    refine fin_wk (Wk.forget [4] [] (s' := ⟨[(4, .v (.bool false))], []⟩) (by kernel_rfl)) ?_
    have hr := Option.some.inj h
    subst hr
    exact ⟨_, Wk.refl _, .inr rfl, ⟨[], by kernel_rfl, trivial, [.v (.bool false)], by kernel_rfl, by kernel_rfl⟩⟩
  · replace h := cd_f b1 h
    refine AX.condF ((!decide (p1 = p3))) (by kernel_rfl) b1 ?_
    refine AX.skip ?_
    refine AX.seq ?_
    refine AX.seq ?_
    refine AX.reg (its := []) [14] [] (s1 := ⟨[(14, .v (.bool (!decide (p2 = p4))))], []⟩) (C := True) (by kernel_rfl) trivial trivial ?_
    rcases bool_cases ((!decide (p2 = p4))) with b2 | b2
    · replace h := cd_t b2 h
      refine AX.condT ((!decide (p2 = p4))) (by kernel_rfl) b2 ?_
      refine AX.seq ?_
      refine AX.reg (its := []) [4] [] (s1 := ⟨[(4, .v (.bool false))], []⟩) (C := True) (by kernel_rfl) trivial trivial ?_
      refine AX.ret ?_
      refine fin_wk (Wk.forget [4] [] (s' := ⟨[(4, .v (.bool false))], []⟩) (by kernel_rfl)) ?_
      have hr := Option.some.inj h
      subst hr
      exact ⟨_, Wk.refl _, .inr rfl, ⟨[], by kernel_rfl, trivial, [.v (.bool false)], by kernel_rfl, by kernel_rfl⟩⟩
    · replace h := cd_f b2 h
      refine AX.condF ((!decide (p2 = p4))) (by kernel_rfl) b2 ?_
      refine AX.skip ?_
      refine AX.seq ?_
      refine AX.reg (its := []) [4] [] (s1 := ⟨[(4, .v (.bool true))], []⟩) (C := True) (by kernel_rfl) trivial trivial ?_
      refine AX.ret ?_
      refine fin_wk (Wk.forget [4] [] (s' := ⟨[(4, .v (.bool true))], []⟩) (by kernel_rfl)) ?_
      have hr := Option.some.inj h
      subst hr
      exact ⟨_, Wk.refl _, .inr rfl, ⟨[], by kernel_rfl, trivial, [.v (.bool true)], by kernel_rfl, by kernel_rfl⟩⟩

theorem s_laws_eqDefS_L1 (p1 : List (ByteArray × Int)) (p2 : List (ByteArray × Int)) (n : Nat) (g : Int) (out : Unit ⊕ Unit) (h : m_laws_eqDefS_L1 p1 p2 n g = some out) :
    AX Try.prog 27 0 (codeAt [1, 1, 0, 1, 1] (bodyOf Try.f48)) ((fun g : Int => (⟨[(0, .bs false 2 (List.map enc_si p1)), (1, .bs false 2 (List.map enc_si p2)), (5, .v (.int .i64 g))], []⟩ : S)) g) (fun ex s => (∃ o : Unit, out = Sum.inl o ∧ ex = .ret ∧ s = ⟨[(4, .v (.bool false))], []⟩) ∨ (∃ o : Unit, out = Sum.inr o ∧ ex = .exit 0 ∧ s = ⟨[], []⟩)) := by
  refine AX.wkpost ?_
  refine AX.loop (G := Nat × (Int)) (fun q => (fun g : Int => (⟨[(0, .bs false 2 (List.map enc_si p1)), (1, .bs false 2 (List.map enc_si p2)), (5, .v (.int .i64 g))], []⟩ : S)) q.2) (fun q => m_laws_eqDefS_L1 p1 p2 q.1 q.2 = some out) (fun q => q.1) (n, g) h (Wk.refl _) ?_
  clear h
  rintro ⟨fu, v3⟩ h
  cases fu with
  | zero => cases h
  | succ fu =>
    rw [m_laws_eqDefS_L1] at h
    refine AX.seq ?_
    refine AX.seq ?_
    refine AX.reg (its := [.auto {}, .auto {}, .auto { y := some (.v (.int .i64 (p1.length : Int))) }]) [0, 1, 5, 14] [] (s1 := ⟨[(0, .bs false 2 (List.map enc_si p1)), (1, .bs false 2 (List.map enc_si p2)), (5, .v (.int .i64 v3)), (14, .v (.bool (decide (v3 < (p1.length : Int)))))], []⟩) (C := (True ∧ (AV.v (.int .i64 ((List.map enc_si p1).length : Int)) = AV.v (.int .i64 (p1.length : Int)))) ∧ True) (by kernel_rfl) ⟨⟨trivial, len_map enc_si p1⟩, trivial⟩ trivial ?_
    rcases bool_cases (decide (v3 < (p1.length : Int))) with b2 | b2
    · replace h := cd_t b2 h
      refine AX.condT (decide (v3 < (p1.length : Int))) (by kernel_rfl) b2 ?_
      refine AX.skip ?_
      refine AX.seq ?_
      refine AX.block ?_
      refine AX.seq ?_
      obtain ⟨g3, h⟩ := gd_e h
      obtain ⟨g4, h⟩ := gd_e h
      obtain ⟨x4, e5, h⟩ := bd_e h
      refine AX.drw mixed (its := [.auto {}, .auto {}, .auto { y := some (.be 2 (enc_si (gt p1 v3)) 0) }, .auto {}, .auto {}, .auto {}, .auto { y := some (.be 2 (enc_si (gt p2 v3)) 0) }, .auto {}, .call 81 [.agg [.v (.string ((gt p1 v3).1)), .v (.int .i64 ((gt p1 v3).2))], .agg [.v (.string ((gt p2 v3).1)), .v (.int .i64 ((gt p2 v3).2))]] (handO (rho ([] ++ [])) [] [] ++ []) (callEv [] [] (.v (.bool x4)) [])]) [0, 1, 5, 26] [] (s1 := ⟨[(0, .bs false 2 (List.map enc_si p1)), (1, .bs false 2 (List.map enc_si p2)), (5, .v (.int .i64 v3)), (26, .v (.bool (!x4)))], []⟩) (C := ((0 ≤ v3 ∧ v3 < ((List.map enc_si p1).length : Int)) ∧ (AV.be 2 ((List.map enc_si p1).getD v3.toNat []) 0 = AV.be 2 (enc_si (gt p1 v3)) 0)) ∧ ((0 ≤ v3 ∧ v3 < ((List.map enc_si p2).length : Int)) ∧ (AV.be 2 ((List.map enc_si p2).getD v3.toNat []) 0 = AV.be 2 (enc_si (gt p2 v3)) 0)) ∧ ((([.agg [.v (.string ((gt p1 v3).1)), .v (.int .i64 ((gt p1 v3).2))], .agg [.v (.string ((gt p2 v3).1)), .v (.int .i64 ((gt p2 v3).2))]] : List AV) = [.agg [.v (.string ((gt p1 v3).1)), .v (.int .i64 ((gt p1 v3).2))], .agg [.v (.string ((gt p2 v3).1)), .v (.int .i64 ((gt p2 v3).2))]]) ∧ True) ∧ True) (by kernel_rfl) ⟨idx_bs enc_si p1 v3 2 g3, ⟨idx_bs enc_si p2 v3 2 g4, ⟨⟨rfl, trivial⟩, trivial⟩⟩⟩ ⟨call_ok (ks := []) (ns := []) (bor := []) (bobjs := []) (s_laws_eqDef ((gt p1 v3).1) ((gt p1 v3).2) ((gt p2 v3).1) ((gt p2 v3).2) x4 e5) (.cons (.c1 (.agg (.cons (.same _ (by kernel_rfl) (by kernel_rfl)) (.cons (.same _ (by kernel_rfl) (by kernel_rfl)) (.nil))))) (.cons (.c1 (.agg (.cons (.same _ (by kernel_rfl) (by kernel_rfl)) (.cons (.same _ (by kernel_rfl) (by kernel_rfl)) (.nil))))) (.nil))) (by kernel_rfl) trivial, trivial⟩ ?_
      rcases bool_cases ((!x4)) with b6 | b6
      · replace h := cd_t b6 h
        refine AX.condT ((!x4)) (by kernel_rfl) b6 ?_
        refine AX.seq ?_
        refine AX.reg (its := []) [4] [] (s1 := ⟨[(4, .v (.bool false))], []⟩) (C := True) (by kernel_rfl) trivial trivial ?_
        refine AX.ret ?_
        refine fin_wk (Wk.forget [4] [] (s' := ⟨[(4, .v (.bool false))], []⟩) (by kernel_rfl)) ?_
        have hr := Option.some.inj h
        subst hr
        exact ⟨_, Wk.refl _, .inl ⟨(), rfl, rfl, rfl⟩⟩
      · replace h := cd_f b6 h
        refine AX.condF ((!x4)) (by kernel_rfl) b6 ?_
        refine AX.skip ?_
        refine AX.reg (its := [.auto {}, .auto { raw := true }]) [0, 1, 5] [] (s1 := ⟨[(0, .bs false 2 (List.map enc_si p1)), (1, .bs false 2 (List.map enc_si p2)), (5, .v (.int .i64 (IntKind.wrap .i64 (v3 + 1))))], []⟩) (C := True) (by kernel_rfl) trivial trivial ?_
        refine ⟨(fu, IntKind.wrap .i64 (v3 + 1)), h, Nat.lt_succ_self _, ?_⟩
        refine Wk.trans (Wk.forget [0, 1, 5] [] (s' := ⟨[(0, .bs false 2 (List.map enc_si p1)), (1, .bs false 2 (List.map enc_si p2)), (5, .v (.int .i64 (IntKind.wrap .i64 (v3 + 1))))], []⟩) (by kernel_rfl)) ?_
        exact Wk.refl _
    · replace h := cd_f b2 h
      refine AX.condF (decide (v3 < (p1.length : Int))) (by kernel_rfl) b2 ?_
      refine AX.exit ?_
      refine fin_wk (Wk.forget [] [] (s' := ⟨[], []⟩) (by kernel_rfl)) ?_
      have hr := Option.some.inj h
      subst hr
      exact ⟨_, Wk.refl _, .inr ⟨(), rfl, rfl, rfl⟩⟩

theorem s_laws_eqDefS (p1 : List (ByteArray × Int)) (p2 : List (ByteArray × Int)) (r : Bool) (h : m_laws_eqDefS p1 p2 = some r) :
    Eng.Spec Try.prog 48 [.bs false 2 (List.map enc_si p1), .bs false 2 (List.map enc_si p2)] [] (.v (.bool r)) [] := by
  unfold m_laws_eqDefS at h
  refine Eng.Spec.body Try.func48 (by kernel_rfl) rfl (by kernel_rfl) ?_
  refine AX.wkpost ?_
  refine AX.seq ?_
  refine AX.reg (its := []) [0, 1] [] (s1 := ⟨[(0, .bs false 2 (List.map enc_si p1)), (1, .bs false 2 (List.map enc_si p2))], []⟩) (C := True) (by kernel_rfl) trivial trivial ?_
  refine AX.seq ?_
  refine AX.seq ?_
  refine AX.reg (its := [.auto {}, .auto { y := some (.v (.int .i64 (p1.length : Int))) }, .auto {}, .auto { y := some (.v (.int .i64 (p2.length : Int))) }]) [0, 1, 10] [] (s1 := ⟨[(0, .bs false 2 (List.map enc_si p1)), (1, .bs false 2 (List.map enc_si p2)), (10, .v (.bool (!decide ((p1.length : Int) = (p2.length : Int)))))], []⟩) (C := (True ∧ (AV.v (.int .i64 ((List.map enc_si p1).length : Int)) = AV.v (.int .i64 (p1.length : Int)))) ∧ (True ∧ (AV.v (.int .i64 ((List.map enc_si p2).length : Int)) = AV.v (.int .i64 (p2.length : Int)))) ∧ True) (by kernel_rfl) ⟨⟨trivial, len_map enc_si p1⟩, ⟨⟨trivial, len_map enc_si p2⟩, trivial⟩⟩ trivial ?_
  rcases bool_cases ((!decide ((p1.length : Int) = (p2.length : Int)))) with b1 | b1
  · replace h := cd_t b1 h
    refine AX.condT ((!decide ((p1.length : Int) = (p2.length : Int)))) (by kernel_rfl) b1 ?_
    refine AX.seq ?_
    refine AX.reg (its := []) [4] [] (s1 := ⟨[(4, .v (.bool false))], []⟩) (C := True) (by kernel_rfl) trivial trivial ?_
    refine AX.ret ?_
    refine fin_wk (Wk.forget [4] [] (s' := ⟨[(4, .v (.bool false))], []⟩) (by kernel_rfl)) ?_
    have hr := Option.some.inj h
    subst hr
    exact ⟨_, Wk.refl _, .inr rfl, ⟨[], by kernel_rfl, trivial, [.v (.bool false)], by kernel_rfl, by kernel_rfl⟩⟩
  · replace h := cd_f b1 h
    refine AX.condF ((!decide ((p1.length : Int) = (p2.length : Int)))) (by kernel_rfl) b1 ?_
    refine AX.skip ?_
    refine AX.seq ?_
    refine AX.seq ?_
    refine AX.reg (its := []) [0, 1, 5] [] (s1 := ⟨[(0, .bs false 2 (List.map enc_si p1)), (1, .bs false 2 (List.map enc_si p2)), (5, .v (.int .i64 0))], []⟩) (C := True) (by kernel_rfl) trivial trivial ?_
    refine AX.block ?_
    obtain ⟨x5, e7, h⟩ := bd_e h
    refine AX.wk (Wk.forget [0, 1, 5] [] (s' := ⟨[(0, .bs false 2 (List.map enc_si p1)), (1, .bs false 2 (List.map enc_si p2)), (5, .v (.int .i64 0))], []⟩) (by kernel_rfl)) ?_
    refine AX.mono (s_laws_eqDefS_L1 p1 p2 FU 0 x5 e7) ?_
    rintro _ _ (⟨x6, rfl, rfl, rfl⟩ | ⟨x7, rfl, rfl, rfl⟩)
    · replace h := sm_l h
      refine fin_wk (Wk.forget [4] [] (s' := ⟨[(4, .v (.bool false))], []⟩) (by kernel_rfl)) ?_
      have hr := Option.some.inj h
      subst hr
      exact ⟨_, Wk.refl _, .inr rfl, ⟨[], by kernel_rfl, trivial, [.v (.bool false)], by kernel_rfl, by kernel_rfl⟩⟩
    · replace h := sm_r h
      refine AX.seq ?_
      refine AX.reg (its := []) [4] [] (s1 := ⟨[(4, .v (.bool true))], []⟩) (C := True) (by kernel_rfl) trivial trivial ?_
      refine AX.ret ?_
      refine fin_wk (Wk.forget [4] [] (s' := ⟨[(4, .v (.bool true))], []⟩) (by kernel_rfl)) ?_
      have hr := Option.some.inj h
      subst hr
      exact ⟨_, Wk.refl _, .inr rfl, ⟨[], by kernel_rfl, trivial, [.v (.bool true)], by kernel_rfl, by kernel_rfl⟩⟩

theorem s_laws_eqEnum (p1 : List (ByteArray × Int)) (p2 : List (ByteArray × Int)) (r : Bool) (h : m_laws_eqEnum p1 p2 = some r) :
    Eng.Spec Try.prog 19 [.agg [.bs false 2 (List.map enc_si p1)], .agg [.bs false 2 (List.map enc_si p2)]] [] (.v (.bool r)) [] := by
  unfold m_laws_eqEnum at h
  refine Eng.Spec.body Try.func19 (by kernel_rfl) rfl (by kernel_rfl) ?_
  refine AX.wkpost ?_
  refine AX.seq ?_
  refine AX.reg (its := [.auto { nk := 0 }, .auto { nk := 1 }]) [2, 3] [0, 1] (s1 := ⟨[(2, .pt 0 0), (3, .pt 1 0)], [(0, .box [.bs false 2 (List.map enc_si p1)]), (1, .box [.bs false 2 (List.map enc_si p2)])]⟩) (C := True) (by kernel_rfl) trivial trivial ?_
  refine AX.seq ?_
  refine AX.seq ?_
  obtain ⟨x3, e1, h⟩ := bd_e h
  refine AX.reg (its := [.auto {}, .auto {}, .auto {}, .auto {}, .call 48 [.bs false 2 (List.map enc_si p1), .bs false 2 (List.map enc_si p2)] (handO (rho ([] ++ [])) [] [] ++ []) (callEv [] [] (.v (.bool x3)) [])]) [10] [] (s1 := ⟨[(10, .v (.bool (!x3)))], []⟩) (C := ((([.bs false 2 (List.map enc_si p1), .bs false 2 (List.map enc_si p2)] : List AV) = [.bs false 2 (List.map enc_si p1), .bs false 2 (List.map enc_si p2)]) ∧ True) ∧ True) (by kernel_rfl) ⟨⟨rfl, trivial⟩, trivial⟩ ⟨call_ok (ks := []) (ns := []) (bor := []) (bobjs := []) (s_laws_eqDefS p1 p2 x3 e1) (.cons (.c1 (.c0 (.same _ (by kernel_rfl) (by kernel_rfl)))) (.cons (.c1 (.c0 (.same _ (by kernel_rfl) (by kernel_rfl)))) (.nil))) (by kernel_rfl) trivial, trivial⟩ ?_
  rcases bool_cases ((!x3)) with b2 | b2
  · replace h := cd_t b2 h
    refine AX.condT ((!x3)) (by kernel_rfl) b2 ?_
    refine AX.seq ?_
    refine AX.reg (its := []) [4] [] (s1 := ⟨[(4, .v (.bool false))], []⟩) (C := True) (by kernel_rfl) trivial trivial ?_
    refine AX.ret ?_
    refine fin_wk (Wk.forget [4] [] (s' := ⟨[(4, .v (.bool false))], []⟩) (by kernel_rfl)) ?_
    have hr := Option.some.inj h
    subst hr
    exact ⟨_, Wk.refl _, .inr rfl, ⟨[], by kernel_rfl, trivial, [.v (.bool false)], by kernel_rfl, by kernel_rfl⟩⟩
  · replace h := cd_f b2 h
    refine AX.condF ((!x3)) (by kernel_rfl) b2 ?_
    refine AX.skip ?_
    refine AX.seq ?_
    refine AX.reg (its := []) [4] [] (s1 := ⟨[(4, .v (.bool true))], []⟩) (C := True) (by kernel_rfl) trivial trivial ?_
    refine AX.ret ?_
    refine fin_wk (Wk.forget [4] [] (s' := ⟨[(4, .v (.bool true))], []⟩) (by kernel_rfl)) ?_
    have hr := Option.some.inj h
    subst hr
    exact ⟨_, Wk.refl _, .inr rfl, ⟨[], by kernel_rfl, trivial, [.v (.bool true)], by kernel_rfl, by kernel_rfl⟩⟩

theorem s_laws_markText_L1  (n : Nat) (g : Int × ByteArray) (out : ByteArray) (h : m_laws_markText_L1 n g.1 g.2 = some out) :
    AX Try.prog 20 0 (codeAt [1, 1, 1, 0, 1] (bodyOf Try.f51)) ((fun g : Int × ByteArray => (⟨[(0, .v (.int .i64 g.1)), (3, .v (.string g.2))], []⟩ : S)) g) (fun ex s => ex = .exit 0 ∧ s = (fun o : ByteArray => (⟨[(3, .v (.string o))], []⟩ : S)) out) := by
  refine AX.wkpost ?_
  refine AX.loop (G := Nat × (Int × ByteArray)) (fun q => (fun g : Int × ByteArray => (⟨[(0, .v (.int .i64 g.1)), (3, .v (.string g.2))], []⟩ : S)) q.2) (fun q => m_laws_markText_L1 q.1 q.2.1 q.2.2 = some out) (fun q => q.1) (n, g) h (Wk.refl _) ?_
  clear h
  rintro ⟨fu, v2, v3⟩ h
  cases fu with
  | zero => cases h
  | succ fu =>
    rw [m_laws_markText_L1] at h
    refine AX.seq ?_
    refine AX.seq ?_
    refine AX.reg (its := []) [0, 3, 7] [] (s1 := ⟨[(0, .v (.int .i64 v2)), (3, .v (.string v3)), (7, .v (.bool (decide (0 < v2))))], []⟩) (C := True) (by kernel_rfl) trivial trivial ?_
    rcases bool_cases (decide (0 < v2)) with b2 | b2
    · replace h := cd_t b2 h
      refine AX.condT (decide (0 < v2)) (by kernel_rfl) b2 ?_
      refine AX.skip ?_
      refine AX.block ?_
      refine AX.seq ?_
      obtain ⟨g3, h⟩ := gd_e h
      obtain ⟨v4, q4, h⟩ := nm_e h
      obtain ⟨g5, h⟩ := gd_e h
      refine AX.reg (its := [.auto {}, .auto {}, .auto { raw := true }, .auto { raw := true }, .auto { nk := 0 }, .auto { y := some (.v (.string v4)) }]) [0, 3] [] (s1 := ⟨[(0, .v (.int .i64 v2)), (3, .v (.string (v4 ++ v3)))], []⟩) (C := ((10 : Int) ≠ 0) ∧ ((True) ∧ ((.v (.string (bstr ([IntKind.wrap .u8 (IntKind.wrap .i64 (48 + (Int.tmod v2 10)))] : List (Int)))) : AV) = (.v (.string v4) : AV))) ∧ (v4.size + v3.size ≤ 9223372036854775807) ∧ True) (by kernel_rfl) ⟨g3, ⟨⟨trivial, (congrArg (fun z => AV.v (.string z)) q4)⟩, ⟨g5, trivial⟩⟩⟩ trivial ?_
      obtain ⟨g6, h⟩ := gd_e h
      refine AX.reg (its := []) [0, 3] [] (s1 := ⟨[(0, .v (.int .i64 (Int.tdiv v2 10))), (3, .v (.string (v4 ++ v3)))], []⟩) (C := ((10 : Int) ≠ 0 ∧ IntKind.wrap .i64 (Int.tdiv v2 10) = Int.tdiv v2 10) ∧ True) (by kernel_rfl) ⟨g6, trivial⟩ trivial ?_
      refine ⟨(fu, (Int.tdiv v2 10, v4 ++ v3)), h, Nat.lt_succ_self _, ?_⟩
      refine Wk.trans (Wk.forget [0, 3] [] (s' := ⟨[(0, .v (.int .i64 (Int.tdiv v2 10))), (3, .v (.string (v4 ++ v3)))], []⟩) (by kernel_rfl)) ?_
      exact Wk.refl _
    · replace h := cd_f b2 h
      refine AX.condF (decide (0 < v2)) (by kernel_rfl) b2 ?_
      refine AX.exit ?_
      refine fin_wk (Wk.forget [3] [] (s' := ⟨[(3, .v (.string v3))], []⟩) (by kernel_rfl)) ?_
      have hr := Option.some.inj h
      subst hr
      exact ⟨_, Wk.refl _, ⟨rfl, rfl⟩⟩

theorem s_laws_markText (p1 : Int) (r : ByteArray) (h : m_laws_markText p1 = some r) :
    Eng.Spec Try.prog 51 [.v (.int .i64 p1)] [] (.v (.string r)) [] := by
  unfold m_laws_markText at h
  refine Eng.Spec.body Try.func51 (by kernel_rfl) rfl (by kernel_rfl) ?_
  refine AX.wkpost ?_
  refine AX.seq ?_
  refine AX.reg (its := []) [0] [] (s1 := ⟨[(0, .v (.int .i64 p1))], []⟩) (C := True) (by kernel_rfl) trivial trivial ?_
  refine AX.seq ?_
  refine AX.seq ?_
  refine AX.reg (its := []) [0, 5] [] (s1 := ⟨[(0, .v (.int .i64 p1)), (5, .v (.bool (decide (p1 ≤ 0))))], []⟩) (C := True) (by kernel_rfl) trivial trivial ?_
  rcases bool_cases (decide (p1 ≤ 0)) with b1 | b1
  · replace h := cd_t b1 h
    refine AX.condT (decide (p1 ≤ 0)) (by kernel_rfl) b1 ?_
    refine AX.seq ?_
    refine AX.reg (its := []) [2] [] (s1 := ⟨[(2, .v (.string (ByteArray.mk #[109, 48])))], []⟩) (C := True) (by kernel_rfl) trivial trivial ?_
    refine AX.ret ?_
    refine fin_wk (Wk.forget [2] [] (s' := ⟨[(2, .v (.string (ByteArray.mk #[109, 48])))], []⟩) (by kernel_rfl)) ?_
    have hr := Option.some.inj h
    subst hr
    exact ⟨_, Wk.refl _, .inr rfl, ⟨[], by kernel_rfl, trivial, [.v (.string (ByteArray.mk #[109, 48]))], by kernel_rfl, by kernel_rfl⟩⟩
  · replace h := cd_f b1 h
    refine AX.condF (decide (p1 ≤ 0)) (by kernel_rfl) b1 ?_
    refine AX.skip ?_
    refine AX.seq ?_
    refine AX.reg (its := []) [0, 3] [] (s1 := ⟨[(0, .v (.int .i64 p1)), (3, .v (.string ByteArray.empty))], []⟩) (C := True) (by kernel_rfl) trivial trivial ?_
    refine AX.seq ?_
    refine AX.block ?_
    obtain ⟨x5, e7, h⟩ := bd_e h
    refine AX.wk (Wk.forget [0, 3] [] (s' := ⟨[(0, .v (.int .i64 p1)), (3, .v (.string ByteArray.empty))], []⟩) (by kernel_rfl)) ?_
    refine AX.mono (s_laws_markText_L1  FU (p1, ByteArray.empty) x5 e7) ?_
    rintro _ _ ⟨rfl, rfl⟩
    skip
    refine AX.seq ?_
    obtain ⟨g8, h⟩ := gd_e h
    refine AX.reg (its := []) [2] [] (s1 := ⟨[(2, .v (.string ((ByteArray.mk #[109]) ++ x5)))], []⟩) (C := ((ByteArray.mk #[109]).size + x5.size ≤ 9223372036854775807) ∧ True) (by kernel_rfl) ⟨g8, trivial⟩ trivial ?_
    refine AX.ret ?_
    refine fin_wk (Wk.forget [2] [] (s' := ⟨[(2, .v (.string ((ByteArray.mk #[109]) ++ x5)))], []⟩) (by kernel_rfl)) ?_
    have hr := Option.some.inj h
    subst hr
    exact ⟨_, Wk.refl _, .inr rfl, ⟨[], by kernel_rfl, trivial, [.v (.string ((ByteArray.mk #[109]) ++ x5))], by kernel_rfl, by kernel_rfl⟩⟩

theorem s_laws_markDefS_h_L1  (n : Nat) (g : Int × Int × (List (ByteArray × Int))) (out : Int × (List (ByteArray × Int))) (h : m_laws_markDefS_h_L1 n g.1 g.2.1 g.2.2 = some out) :
    AX Try.prog 28 1 (codeAt [1, 0, 1, 1] (bodyOf Try.f50)) ((fun g : Int × Int × (List (ByteArray × Int)) => (⟨[(0, .sl 0 0 g.2.2.length), (1, .v (.int .i64 g.1)), (5, .v (.int .i64 g.2.1))], [(0, .arr 2 (List.map enc_si g.2.2))]⟩ : S)) g) (fun ex s => ex = .exit 0 ∧ s = (fun o : Int × (List (ByteArray × Int)) => (⟨[(1, .v (.int .i64 o.1))], [(0, .arr 2 (List.map enc_si o.2))]⟩ : S)) out) := by
  refine AX.wkpost ?_
  refine AX.loop (G := Nat × (Int × Int × (List (ByteArray × Int)))) (fun q => (fun g : Int × Int × (List (ByteArray × Int)) => (⟨[(0, .sl 0 0 g.2.2.length), (1, .v (.int .i64 g.1)), (5, .v (.int .i64 g.2.1))], [(0, .arr 2 (List.map enc_si g.2.2))]⟩ : S)) q.2) (fun q => m_laws_markDefS_h_L1 q.1 q.2.1 q.2.2.1 q.2.2.2 = some out) (fun q => q.1) (n, g) h (Wk.refl _) ?_
  clear h
  rintro ⟨fu, v3, v4, v5⟩ h
  cases fu with
  | zero => cases h
  | succ fu =>
    rw [m_laws_markDefS_h_L1] at h
    refine AX.seq ?_
    refine AX.seq ?_
    refine AX.reg (its := []) [0, 1, 5, 9] [0] (s1 := ⟨[(0, .sl 0 0 v5.length), (1, .v (.int .i64 v3)), (5, .v (.int .i64 v4)), (9, .v (.bool (decide (v4 < (v5.length : Int)))))], [(0, .arr 2 (List.map enc_si v5))]⟩) (C := True) (by kernel_rfl) trivial trivial ?_
    rcases bool_cases (decide (v4 < (v5.length : Int))) with b1 | b1
    · replace h := cd_t b1 h
      refine AX.condT (decide (v4 < (v5.length : Int))) (by kernel_rfl) b1 ?_
      refine AX.skip ?_
      refine AX.seq ?_
      refine AX.block ?_
      refine AX.seq ?_
      obtain ⟨x6, e2, h⟩ := bd_e h
      obtain ⟨g3, h⟩ := gd_e h
      refine AX.reg (its := [.auto {}, .auto {}, .auto {}, .call 51 [.v (.int .i64 v3)] (handO (rho ([] ++ [])) [] [] ++ []) (callEv [] [] (.v (.string x6)) []), .auto {}, .auto {}, .auto { els := some ([enc_si (x6, (gt v5 v4).2)]) }]) [0, 1, 5] [0] (s1 := ⟨[(0, .sl 0 0 v5.length), (1, .v (.int .i64 v3)), (5, .v (.int .i64 v4))], [(0, .arr 2 ((List.map enc_si v5).set (0 + v4.toNat) (enc_si (x6, (gt v5 v4).2))))]⟩) (C := ((([.v (.int .i64 v3)] : List AV) = [.v (.int .i64 v3)]) ∧ True) ∧ (0 ≤ v4 ∧ v4 < (v5.length : Int)) ∧ ((((List.map enc_si v5).getD (0 + v4.toNat) []).take 0 ++ [(.string x6)] ++ ((List.map enc_si v5).getD (0 + v4.toNat) []).drop 1 = enc_si (x6, (gt v5 v4).2))) ∧ True) (by kernel_rfl) ⟨⟨rfl, trivial⟩, ⟨g3, ⟨(congrArg (fun z : List Value => z.take 0 ++ [(.string x6)] ++ z.drop 1) (idx_arr (enc := enc_si) rfl g3)), trivial⟩⟩⟩ ⟨call_ok (ks := []) (ns := []) (bor := []) (bobjs := []) (s_laws_markText v3 x6 e2) (.cons (.c1 (.c0 (.same _ (by kernel_rfl) (by kernel_rfl)))) (.nil)) (by kernel_rfl) trivial, trivial⟩ ?_
      refine AX.seq ?_
      refine AX.reg (its := [.auto {}, .auto { raw := true }]) [0, 1, 5] [0] (s1 := ⟨[(0, .sl 0 0 v5.length), (1, .v (.int .i64 (IntKind.wrap .i64 (v3 + 1)))), (5, .v (.int .i64 v4))], [(0, .arr 2 ((List.map enc_si v5).set (0 + v4.toNat) (enc_si (x6, (gt v5 v4).2))))]⟩) (C := True) (by kernel_rfl) trivial trivial ?_
      refine AX.seq ?_
      refine AX.reg (its := [.auto {}, .auto {}, .auto {}, .auto {}, .auto {}, .auto { els := some ([enc_si ((gt (v5.set (0 + v4.toNat) (x6, (gt v5 v4).2)) v4).1, IntKind.wrap .i64 (v3 + 1))]) }]) [0, 1, 5] [0] (s1 := ⟨[(0, .sl 0 0 v5.length), (1, .v (.int .i64 (IntKind.wrap .i64 (v3 + 1)))), (5, .v (.int .i64 v4))], [(0, .arr 2 (((List.map enc_si v5).set (0 + v4.toNat) (enc_si (x6, (gt v5 v4).2))).set (0 + v4.toNat) (enc_si ((gt (v5.set (0 + v4.toNat) (x6, (gt v5 v4).2)) v4).1, IntKind.wrap .i64 (v3 + 1)))))]⟩) (C := (0 ≤ v4 ∧ v4 < (v5.length : Int)) ∧ (((((List.map enc_si v5).set (0 + v4.toNat) (enc_si (x6, (gt v5 v4).2))).getD (0 + v4.toNat) []).take 1 ++ [(.int .i64 (IntKind.wrap .i64 (v3 + 1)))] ++ (((List.map enc_si v5).set (0 + v4.toNat) (enc_si (x6, (gt v5 v4).2))).getD (0 + v4.toNat) []).drop 2 = enc_si ((gt (v5.set (0 + v4.toNat) (x6, (gt v5 v4).2)) v4).1, IntKind.wrap .i64 (v3 + 1)))) ∧ True) (by kernel_rfl) ⟨g3, ⟨(congrArg (fun z : List Value => z.take 1 ++ [(.int .i64 (IntKind.wrap .i64 (v3 + 1)))] ++ z.drop 2) (idx_arr (enc := enc_si) (set_can (enc := enc_si) rfl (0 + v4.toNat) (x6, (gt v5 v4).2)) (idx_len (set_len ((rfl : v5.length = v5.length)) (0 + v4.toNat) (x6, (gt v5 v4).2)) g3))), trivial⟩⟩ trivial ?_
      refine AX.reg (its := [.auto {}, .auto { raw := true }]) [0, 1, 5] [0] (s1 := ⟨[(0, .sl 0 0 v5.length), (1, .v (.int .i64 (IntKind.wrap .i64 ((IntKind.wrap .i64 (v3 + 1)) + 1)))), (5, .v (.int .i64 v4))], [(0, .arr 2 (((List.map enc_si v5).set (0 + v4.toNat) (enc_si (x6, (gt v5 v4).2))).set (0 + v4.toNat) (enc_si ((gt (v5.set (0 + v4.toNat) (x6, (gt v5 v4).2)) v4).1, IntKind.wrap .i64 (v3 + 1)))))]⟩) (C := True) (by kernel_rfl) trivial trivial ?_
      refine AX.reg (its := [.auto {}, .auto { raw := true }]) [0, 1, 5] [0] (s1 := ⟨[(0, .sl 0 0 v5.length), (1, .v (.int .i64 (IntKind.wrap .i64 ((IntKind.wrap .i64 (v3 + 1)) + 1)))), (5, .v (.int .i64 (IntKind.wrap .i64 (v4 + 1))))], [(0, .arr 2 (((List.map enc_si v5).set (0 + v4.toNat) (enc_si (x6, (gt v5 v4).2))).set (0 + v4.toNat) (enc_si ((gt (v5.set (0 + v4.toNat) (x6, (gt v5 v4).2)) v4).1, IntKind.wrap .i64 (v3 + 1)))))]⟩) (C := True) (by kernel_rfl) trivial trivial ?_
      refine ⟨(fu, (IntKind.wrap .i64 ((IntKind.wrap .i64 (v3 + 1)) + 1), IntKind.wrap .i64 (v4 + 1), (v5.set (0 + v4.toNat) (x6, (gt v5 v4).2)).set (0 + v4.toNat) ((gt (v5.set (0 + v4.toNat) (x6, (gt v5 v4).2)) v4).1, IntKind.wrap .i64 (v3 + 1)))), h, Nat.lt_succ_self _, ?_⟩
      refine Wk.trans (Wk.forget [0, 1, 5] [0] (s' := ⟨[(0, .sl 0 0 v5.length), (1, .v (.int .i64 (IntKind.wrap .i64 ((IntKind.wrap .i64 (v3 + 1)) + 1)))), (5, .v (.int .i64 (IntKind.wrap .i64 (v4 + 1))))], [(0, .arr 2 (((List.map enc_si v5).set (0 + v4.toNat) (enc_si (x6, (gt v5 v4).2))).set (0 + v4.toNat) (enc_si ((gt (v5.set (0 + v4.toNat) (x6, (gt v5 v4).2)) v4).1, IntKind.wrap .i64 (v3 + 1)))))]⟩) (by kernel_rfl)) ?_
      refine Wk.trans (Wk.of_eq (congrArg (fun z => (⟨[(0, .sl 0 0 v5.length), (1, .v (.int .i64 (IntKind.wrap .i64 ((IntKind.wrap .i64 (v3 + 1)) + 1)))), (5, .v (.int .i64 (IntKind.wrap .i64 (v4 + 1))))], [(0, .arr 2 (z))]⟩ : S)) (set_can (enc := enc_si) (set_can (enc := enc_si) rfl (0 + v4.toNat) (x6, (gt v5 v4).2)) (0 + v4.toNat) ((gt (v5.set (0 + v4.toNat) (x6, (gt v5 v4).2)) v4).1, IntKind.wrap .i64 (v3 + 1))))) ?_
      refine Wk.trans (Wk.of_eq (congrArg (fun z => (⟨[(0, .sl 0 0 z), (1, .v (.int .i64 (IntKind.wrap .i64 ((IntKind.wrap .i64 (v3 + 1)) + 1)))), (5, .v (.int .i64 (IntKind.wrap .i64 (v4 + 1))))], [(0, .arr 2 (List.map enc_si ((v5.set (0 + v4.toNat) (x6, (gt v5 v4).2)).set (0 + v4.toNat) ((gt (v5.set (0 + v4.toNat) (x6, (gt v5 v4).2)) v4).1, IntKind.wrap .i64 (v3 + 1)))))]⟩ : S)) (set_len ((set_len ((rfl : v5.length = v5.length)) (0 + v4.toNat) (x6, (gt v5 v4).2) : v5.length = (v5.set (0 + v4.toNat) (x6, (gt v5 v4).2)).length)) (0 + v4.toNat) ((gt (v5.set (0 + v4.toNat) (x6, (gt v5 v4).2)) v4).1, IntKind.wrap .i64 (v3 + 1))))) ?_
      exact Wk.refl _
    · replace h := cd_f b1 h
      refine AX.condF (decide (v4 < (v5.length : Int))) (by kernel_rfl) b1 ?_
      refine AX.exit ?_
      refine fin_wk (Wk.forget [1] [0] (s' := ⟨[(1, .v (.int .i64 v3))], [(0, .arr 2 (List.map enc_si v5))]⟩) (by kernel_rfl)) ?_
      have hr := Option.some.inj h
      subst hr
      exact ⟨_, Wk.refl _, ⟨rfl, rfl⟩⟩

theorem s_laws_markDefS_h (p1 : Int) (p2 : List (ByteArray × Int)) (r : Int × (List (ByteArray × Int))) (h : m_laws_markDefS_h p1 p2 = some r) :
    Eng.Spec Try.prog 50 [.sl 0 0 p2.length, .v (.int .i64 p1)] [.arr 2 (List.map enc_si p2)] (.v (.int .i64 r.1)) [.arr 2 (List.map enc_si r.2)] := by
  unfold m_laws_markDefS_h at h
  refine Eng.Spec.body Try.func50 (by kernel_rfl) rfl (by kernel_rfl) ?_
  refine AX.wkpost ?_
  refine AX.seq ?_
  refine AX.reg (its := []) [0, 1] [0] (s1 := ⟨[(0, .sl 0 0 p2.length), (1, .v (.int .i64 p1))], [(0, .arr 2 (List.map enc_si p2))]⟩) (C := True) (by kernel_rfl) trivial trivial ?_
  refine AX.seq ?_
  refine AX.seq ?_
  refine AX.reg (its := []) [0, 1, 5] [0] (s1 := ⟨[(0, .sl 0 0 p2.length), (1, .v (.int .i64 p1)), (5, .v (.int .i64 0))], [(0, .arr 2 (List.map enc_si p2))]⟩) (C := True) (by kernel_rfl) trivial trivial ?_
  refine AX.block ?_
  obtain ⟨x7, e4, h⟩ := bd_e h
  refine AX.wk (Wk.forget [0, 1, 5] [0] (s' := ⟨[(0, .sl 0 0 p2.length), (1, .v (.int .i64 p1)), (5, .v (.int .i64 0))], [(0, .arr 2 (List.map enc_si p2))]⟩) (by kernel_rfl)) ?_
  refine AX.mono (s_laws_markDefS_h_L1  FU (p1, 0, p2) x7 e4) ?_
  rintro _ _ ⟨rfl, rfl⟩
  skip
  refine AX.seq ?_
  refine AX.reg (its := []) [4] [0] (s1 := ⟨[(4, .v (.int .i64 x7.1))], [(0, .arr 2 (List.map enc_si x7.2))]⟩) (C := True) (by kernel_rfl) trivial trivial ?_
  refine AX.ret ?_
  refine fin_wk (Wk.forget [4] [0] (s' := ⟨[(4, .v (.int .i64 x7.1))], [(0, .arr 2 (List.map enc_si x7.2))]⟩) (by kernel_rfl)) ?_
  have hr := Option.some.inj h
  subst hr
  exact ⟨_, Wk.refl _, .inr rfl, ⟨[], by kernel_rfl, ⟨rfl, trivial⟩, [.v (.int .i64 x7.1)], by kernel_rfl, by kernel_rfl⟩⟩

theorem s_laws_markEnum_h (p1 : Int) (p2 : List (ByteArray × Int)) (r : Int × (List (ByteArray × Int))) (h : m_laws_markEnum_h p1 p2 = some r) :
    Eng.Spec Try.prog 21 [.agg [.sl 0 0 p2.length], .v (.int .i64 p1)] [.arr 2 (List.map enc_si p2)] (.v (.int .i64 r.1)) [.arr 2 (List.map enc_si r.2)] := by
  unfold m_laws_markEnum_h at h
  refine Eng.Spec.body Try.func21 (by kernel_rfl) rfl (by kernel_rfl) ?_
  refine AX.wkpost ?_
  refine AX.seq ?_
  refine AX.reg (its := [.auto { nk := 1 }]) [1, 2] [0, 1] (s1 := ⟨[(1, .v (.int .i64 p1)), (2, .pt 1 0)], [(0, .arr 2 (List.map enc_si p2)), (1, .box [.sl 0 0 p2.length])]⟩) (C := True) (by kernel_rfl) trivial trivial ?_
  refine AX.seq ?_
  obtain ⟨x3, e1, h⟩ := bd_e h
  obtain ⟨g2, h⟩ := gd_e h
  refine AX.reg (its := [.auto {}, .auto {}, .auto {}, .call 50 [.sl 0 0 p2.length, .v (.int .i64 p1)] (handO (rho ([0] ++ [])) [0] [.arr 2 (List.map enc_si p2)] ++ []) (callEv [0] [] (.v (.int .i64 x3.1)) [.arr 2 (List.map enc_si x3.2)])]) [1] [0] (s1 := ⟨[(1, .v (.int .i64 x3.1))], [(0, .arr 2 (List.map enc_si x3.2))]⟩) (C := ((([.sl 0 0 p2.length, .v (.int .i64 p1)] : List AV) = [.sl 0 0 p2.length, .v (.int .i64 p1)]) ∧ (AO.arr 2 (List.map enc_si p2) = AO.arr 2 (List.map enc_si p2)) ∧ True) ∧ True) (by kernel_rfl) ⟨⟨rfl, rfl, trivial⟩, trivial⟩ ⟨call_ok (ks := [0]) (ns := []) (bor := []) (bobjs := []) (s_laws_markDefS_h p1 p2 x3 e1) (.cons (.c1 (.c0 (.same _ (by kernel_rfl) (by kernel_rfl)))) (.cons (.c1 (.c0 (.same _ (by kernel_rfl) (by kernel_rfl)))) (.nil))) (by kernel_rfl) ⟨.inr (arr_sh (enc := enc_si) g2), trivial⟩, trivial⟩ ?_
  refine AX.seq ?_
  refine AX.reg (its := []) [4] [0] (s1 := ⟨[(4, .v (.int .i64 x3.1))], [(0, .arr 2 (List.map enc_si x3.2))]⟩) (C := True) (by kernel_rfl) trivial trivial ?_
  refine AX.ret ?_
  refine fin_wk (Wk.forget [4] [0] (s' := ⟨[(4, .v (.int .i64 x3.1))], [(0, .arr 2 (List.map enc_si x3.2))]⟩) (by kernel_rfl)) ?_
  refine fin_wk (Wk.of_eq (congrArg (fun z => (⟨[(4, .v (.int .i64 x3.1))], [(0, .arr 2 (List.map enc_si x3.2))]⟩ : S)) (((rfl : p2.length = p2.length)).trans (g2).symm))) ?_
  have hr := Option.some.inj h
  subst hr
  exact ⟨_, Wk.refl _, .inr rfl, ⟨[], by kernel_rfl, ⟨rfl, trivial⟩, [.v (.int .i64 x3.1)], by kernel_rfl, by kernel_rfl⟩⟩

theorem s_laws_heldDefS_L1 (p1 : List (ByteArray × Int)) (n : Nat) (g : Int × Int) (out : Unit ⊕ Int) (h : m_laws_heldDefS_L1 p1 n g.1 g.2 = some out) :
    AX Try.prog 32 0 (codeAt [1, 0, 1, 1] (bodyOf Try.f52)) ((fun g : Int × Int => (⟨[(0, .bs false 2 (List.map enc_si p1)), (1, .v (.int .i64 g.1)), (5, .v (.int .i64 g.2))], []⟩ : S)) g) (fun ex s => (∃ o : Unit, out = Sum.inl o ∧ ex = .ret ∧ s = ⟨[(4, .v (.int .i64 (-1)))], []⟩) ∨ (∃ o : Int, out = Sum.inr o ∧ ex = .exit 0 ∧ s = ⟨[(1, .v (.int .i64 o))], []⟩)) := by
  refine AX.wkpost ?_
  refine AX.loop (G := Nat × (Int × Int)) (fun q => (fun g : Int × Int => (⟨[(0, .bs false 2 (List.map enc_si p1)), (1, .v (.int .i64 g.1)), (5, .v (.int .i64 g.2))], []⟩ : S)) q.2) (fun q => m_laws_heldDefS_L1 p1 q.1 q.2.1 q.2.2 = some out) (fun q => q.1) (n, g) h (Wk.refl _) ?_
  clear h
  rintro ⟨fu, v3, v4⟩ h
  cases fu with
  | zero => cases h
  | succ fu =>
    rw [m_laws_heldDefS_L1] at h
    refine AX.seq ?_
    refine AX.seq ?_
    refine AX.reg (its := [.auto {}, .auto {}, .auto { y := some (.v (.int .i64 (p1.length : Int))) }]) [0, 1, 5, 9] [] (s1 := ⟨[(0, .bs false 2 (List.map enc_si p1)), (1, .v (.int .i64 v3)), (5, .v (.int .i64 v4)), (9, .v (.bool (decide (v4 < (p1.length : Int)))))], []⟩) (C := (True ∧ (AV.v (.int .i64 ((List.map enc_si p1).length : Int)) = AV.v (.int .i64 (p1.length : Int)))) ∧ True) (by kernel_rfl) ⟨⟨trivial, len_map enc_si p1⟩, trivial⟩ trivial ?_
    rcases bool_cases (decide (v4 < (p1.length : Int))) with b1 | b1
    · replace h := cd_t b1 h
      refine AX.condT (decide (v4 < (p1.length : Int))) (by kernel_rfl) b1 ?_
      refine AX.skip ?_
      refine AX.seq ?_
      refine AX.block ?_
      refine AX.seq ?_
      refine AX.seq ?_
      obtain ⟨g2, h⟩ := gd_e h
      obtain ⟨x5, e3, h⟩ := bd_e h
      refine AX.drw mixed (its := [.auto {}, .auto {}, .auto { y := some (.be 2 (enc_si (gt p1 v4)) 0) }, .auto {}, .auto {}, .auto {}, .call 51 [.v (.int .i64 v3)] (handO (rho ([] ++ [])) [] [] ++ []) (callEv [] [] (.v (.string x5)) [])]) [0, 1, 5, 19] [] (s1 := ⟨[(0, .bs false 2 (List.map enc_si p1)), (1, .v (.int .i64 v3)), (5, .v (.int .i64 v4)), (19, .v (.bool (!decide (((gt p1 v4).1) = x5))))], []⟩) (C := ((0 ≤ v4 ∧ v4 < ((List.map enc_si p1).length : Int)) ∧ (AV.be 2 ((List.map enc_si p1).getD v4.toNat []) 0 = AV.be 2 (enc_si (gt p1 v4)) 0)) ∧ ((([.v (.int .i64 v3)] : List AV) = [.v (.int .i64 v3)]) ∧ True) ∧ True) (by kernel_rfl) ⟨idx_bs enc_si p1 v4 2 g2, ⟨⟨rfl, trivial⟩, trivial⟩⟩ ⟨call_ok (ks := []) (ns := []) (bor := []) (bobjs := []) (s_laws_markText v3 x5 e3) (.cons (.c1 (.c0 (.same _ (by kernel_rfl) (by kernel_rfl)))) (.nil)) (by kernel_rfl) trivial, trivial⟩ ?_
      rcases bool_cases ((!decide (((gt p1 v4).1) = x5))) with b4 | b4
      · replace h := cd_t b4 h
        refine AX.condT ((!decide (((gt p1 v4).1) = x5))) (by kernel_rfl) b4 ?_
        refine AX.seq ?_
        refine AX.reg (its := []) [4] [] (s1 := ⟨[(4, .v (.int .i64 (-1)))], []⟩) (C := True) (by kernel_rfl) trivial trivial ?_
        refine AX.ret ?_
        refine fin_wk (Wk.forget [4] [] (s' := ⟨[(4, .v (.int .i64 (-1)))], []⟩) (by kernel_rfl)) ?_
        have hr := Option.some.inj h
        subst hr
        exact ⟨_, Wk.refl _, .inl ⟨(), rfl, rfl, rfl⟩⟩
      · replace h := cd_f b4 h
        refine AX.condF ((!decide (((gt p1 v4).1) = x5))) (by kernel_rfl) b4 ?_
        refine AX.skip ?_
        refine AX.seq ?_
        refine AX.reg (its := [.auto {}, .auto { raw := true }]) [0, 1, 5] [] (s1 := ⟨[(0, .bs false 2 (List.map enc_si p1)), (1, .v (.int .i64 (IntKind.wrap .i64 (v3 + 1)))), (5, .v (.int .i64 v4))], []⟩) (C := True) (by kernel_rfl) trivial trivial ?_
        refine AX.seq ?_
        refine AX.seq ?_
        refine AX.reg (its := [.auto {}, .auto {}, .auto { y := some (.be 2 (enc_si (gt p1 v4)) 0) }]) [0, 1, 5, 28] [] (s1 := ⟨[(0, .bs false 2 (List.map enc_si p1)), (1, .v (.int .i64 (IntKind.wrap .i64 (v3 + 1)))), (5, .v (.int .i64 v4)), (28, .v (.bool (!decide (((gt p1 v4).2) = (IntKind.wrap .i64 (v3 + 1))))))], []⟩) (C := ((0 ≤ v4 ∧ v4 < ((List.map enc_si p1).length : Int)) ∧ (AV.be 2 ((List.map enc_si p1).getD v4.toNat []) 0 = AV.be 2 (enc_si (gt p1 v4)) 0)) ∧ True) (by kernel_rfl) ⟨idx_bs enc_si p1 v4 2 g2, trivial⟩ trivial ?_
        rcases bool_cases ((!decide (((gt p1 v4).2) = (IntKind.wrap .i64 (v3 + 1))))) with b5 | b5
        · replace h := cd_t b5 h
          refine AX.condT ((!decide (((gt p1 v4).2) = (IntKind.wrap .i64 (v3 + 1))))) (by kernel_rfl) b5 ?_
          refine AX.seq ?_
          refine AX.reg (its := []) [4] [] (s1 := ⟨[(4, .v (.int .i64 (-1)))], []⟩) (C := True) (by kernel_rfl) trivial trivial ?_
          refine AX.ret ?_
          refine fin_wk (Wk.forget [4] [] (s' := ⟨[(4, .v (.int .i64 (-1)))], []⟩) (by kernel_rfl)) ?_
          have hr := Option.some.inj h
          subst hr
          exact ⟨_, Wk.refl _, .inl ⟨(), rfl, rfl, rfl⟩⟩
        · replace h := cd_f b5 h
          refine AX.condF ((!decide (((gt p1 v4).2) = (IntKind.wrap .i64 (v3 + 1))))) (by kernel_rfl) b5 ?_
          refine AX.skip ?_
          refine AX.reg (its := [.auto {}, .auto { raw := true }]) [0, 1, 5] [] (s1 := ⟨[(0, .bs false 2 (List.map enc_si p1)), (1, .v (.int .i64 (IntKind.wrap .i64 ((IntKind.wrap .i64 (v3 + 1)) + 1)))), (5, .v (.int .i64 v4))], []⟩) (C := True) (by kernel_rfl) trivial trivial ?_
          refine AX.reg (its := [.auto {}, .auto { raw := true }]) [0, 1, 5] [] (s1 := ⟨[(0, .bs false 2 (List.map enc_si p1)), (1, .v (.int .i64 (IntKind.wrap .i64 ((IntKind.wrap .i64 (v3 + 1)) + 1)))), (5, .v (.int .i64 (IntKind.wrap .i64 (v4 + 1))))], []⟩) (C := True) (by kernel_rfl) trivial trivial ?_
          refine ⟨(fu, (IntKind.wrap .i64 ((IntKind.wrap .i64 (v3 + 1)) + 1), IntKind.wrap .i64 (v4 + 1))), h, Nat.lt_succ_self _, ?_⟩
          refine Wk.trans (Wk.forget [0, 1, 5] [] (s' := ⟨[(0, .bs false 2 (List.map enc_si p1)), (1, .v (.int .i64 (IntKind.wrap .i64 ((IntKind.wrap .i64 (v3 + 1)) + 1)))), (5, .v (.int .i64 (IntKind.wrap .i64 (v4 + 1))))], []⟩) (by kernel_rfl)) ?_
          exact Wk.refl _
    · replace h := cd_f b1 h
      refine AX.condF (decide (v4 < (p1.length : Int))) (by kernel_rfl) b1 ?_
      refine AX.exit ?_
      refine fin_wk (Wk.forget [1] [] (s' := ⟨[(1, .v (.int .i64 v3))], []⟩) (by kernel_rfl)) ?_
      have hr := Option.some.inj h
      subst hr
      exact ⟨_, Wk.refl _, .inr ⟨v3, rfl, rfl, rfl⟩⟩

theorem s_laws_heldDefS (p1 : List (ByteArray × Int)) (p2 : Int) (r : Int) (h : m_laws_heldDefS p1 p2 = some r) :
    Eng.Spec Try.prog 52 [.bs false 2 (List.map enc_si p1), .v (.int .i64 p2)] [] (.v (.int .i64 r)) [] := by
  unfold m_laws_heldDefS at h
  refine Eng.Spec.body Try.func52 (by kernel_rfl) rfl (by kernel_rfl) ?_
  refine AX.wkpost ?_
  refine AX.seq ?_
  refine AX.reg (its := []) [0, 1] [] (s1 := ⟨[(0, .bs false 2 (List.map enc_si p1)), (1, .v (.int .i64 p2))], []⟩) (C := True) (by kernel_rfl) trivial trivial ?_
  refine AX.seq ?_
  refine AX.seq ?_
  refine AX.reg (its := []) [0, 1, 5] [] (s1 := ⟨[(0, .bs false 2 (List.map enc_si p1)), (1, .v (.int .i64 p2)), (5, .v (.int .i64 0))], []⟩) (C := True) (by kernel_rfl) trivial trivial ?_
  refine AX.block ?_
  obtain ⟨x6, e6, h⟩ := bd_e h
  refine AX.wk (Wk.forget [0, 1, 5] [] (s' := ⟨[(0, .bs false 2 (List.map enc_si p1)), (1, .v (.int .i64 p2)), (5, .v (.int .i64 0))], []⟩) (by kernel_rfl)) ?_
  refine AX.mono (s_laws_heldDefS_L1 p1 FU (p2, 0) x6 e6) ?_
  rintro _ _ (⟨x7, rfl, rfl, rfl⟩ | ⟨x8, rfl, rfl, rfl⟩)
  · replace h := sm_l h
    refine fin_wk (Wk.forget [4] [] (s' := ⟨[(4, .v (.int .i64 (-1)))], []⟩) (by kernel_rfl)) ?_
    have hr := Option.some.inj h
    subst hr
    exact ⟨_, Wk.refl _, .inr rfl, ⟨[], by kernel_rfl, trivial, [.v (.int .i64 (-1))], by kernel_rfl, by kernel_rfl⟩⟩
  · replace h := sm_r h
    refine AX.seq ?_
    refine AX.reg (its := []) [4] [] (s1 := ⟨[(4, .v (.int .i64 x8))], []⟩) (C := True) (by kernel_rfl) trivial trivial ?_
    refine AX.ret ?_
    refine fin_wk (Wk.forget [4] [] (s' := ⟨[(4, .v (.int .i64 x8))], []⟩) (by kernel_rfl)) ?_
    have hr := Option.some.inj h
    subst hr
    exact ⟨_, Wk.refl _, .inr rfl, ⟨[], by kernel_rfl, trivial, [.v (.int .i64 x8)], by kernel_rfl, by kernel_rfl⟩⟩

theorem s_laws_heldEnum (p1 : List (ByteArray × Int)) (p2 : Int) (r : Int) (h : m_laws_heldEnum p1 p2 = some r) :
    Eng.Spec Try.prog 23 [.agg [.bs false 2 (List.map enc_si p1)], .v (.int .i64 p2)] [] (.v (.int .i64 r)) [] := by
  unfold m_laws_heldEnum at h
  refine Eng.Spec.body Try.func23 (by kernel_rfl) rfl (by kernel_rfl) ?_
  refine AX.wkpost ?_
  refine AX.seq ?_
  refine AX.reg (its := [.auto { nk := 0 }]) [1, 2] [0] (s1 := ⟨[(1, .v (.int .i64 p2)), (2, .pt 0 0)], [(0, .box [.bs false 2 (List.map enc_si p1)])]⟩) (C := True) (by kernel_rfl) trivial trivial ?_
  refine AX.seq ?_
  obtain ⟨x3, e1, h⟩ := bd_e h
  refine AX.reg (its := [.auto {}, .auto {}, .auto {}, .call 52 [.bs false 2 (List.map enc_si p1), .v (.int .i64 p2)] (handO (rho ([] ++ [])) [] [] ++ []) (callEv [] [] (.v (.int .i64 x3)) [])]) [1] [] (s1 := ⟨[(1, .v (.int .i64 x3))], []⟩) (C := ((([.bs false 2 (List.map enc_si p1), .v (.int .i64 p2)] : List AV) = [.bs false 2 (List.map enc_si p1), .v (.int .i64 p2)]) ∧ True) ∧ True) (by kernel_rfl) ⟨⟨rfl, trivial⟩, trivial⟩ ⟨call_ok (ks := []) (ns := []) (bor := []) (bobjs := []) (s_laws_heldDefS p1 p2 x3 e1) (.cons (.c1 (.c0 (.same _ (by kernel_rfl) (by kernel_rfl)))) (.cons (.c1 (.c0 (.same _ (by kernel_rfl) (by kernel_rfl)))) (.nil))) (by kernel_rfl) trivial, trivial⟩ ?_
  refine AX.seq ?_
  refine AX.seq ?_
  refine AX.reg (its := []) [1, 10] [] (s1 := ⟨[(1, .v (.int .i64 x3)), (10, .v (.bool (decide (x3 < 0))))], []⟩) (C := True) (by kernel_rfl) trivial trivial ?_
  rcases bool_cases (decide (x3 < 0)) with b2 | b2
  · replace h := cd_t b2 h
    refine AX.condT (decide (x3 < 0)) (by kernel_rfl) b2 ?_
    refine AX.seq ?_
    refine AX.reg (its := []) [4] [] (s1 := ⟨[(4, .v (.int .i64 (-1)))], []⟩) (C := True) (by kernel_rfl) trivial trivial ?_
    refine AX.ret ?_
    refine fin_wk (Wk.forget [4] [] (s' := ⟨[(4, .v (.int .i64 (-1)))], []⟩) (by kernel_rfl)) ?_
    have hr := Option.some.inj h
    subst hr
    exact ⟨_, Wk.refl _, .inr rfl, ⟨[], by kernel_rfl, trivial, [.v (.int .i64 (-1))], by kernel_rfl, by kernel_rfl⟩⟩
  · replace h := cd_f b2 h
    refine AX.condF (decide (x3 < 0)) (by kernel_rfl) b2 ?_
    refine AX.skip ?_
    refine AX.seq ?_
    refine AX.reg (its := []) [4] [] (s1 := ⟨[(4, .v (.int .i64 x3))], []⟩) (C := True) (by kernel_rfl) trivial trivial ?_
    refine AX.ret ?_
    refine fin_wk (Wk.forget [4] [] (s' := ⟨[(4, .v (.int .i64 x3))], []⟩) (by kernel_rfl)) ?_
    have hr := Option.some.inj h
    subst hr
    exact ⟨_, Wk.refl _, .inr rfl, ⟨[], by kernel_rfl, trivial, [.v (.int .i64 x3)], by kernel_rfl, by kernel_rfl⟩⟩

theorem s_laws_FnExactSortEnum (p1 : List (ByteArray × Int)) (r : Bool) (h : m_laws_FnExactSortEnum p1 = some r) :
    Eng.Spec Try.prog 6 [.agg [.bs true 2 (List.map enc_si p1)]] [] (.v (.bool r)) [] := by
  unfold m_laws_FnExactSortEnum at h
  refine Eng.Spec.body Try.func6 (by kernel_rfl) rfl (by kernel_rfl) ?_
  refine AX.wkpost ?_
  refine AX.seq ?_
  refine AX.reg (its := [.auto { nk := 0 }]) [1] [0] (s1 := ⟨[(1, .pt 0 0)], [(0, .box [.bs true 2 (List.map enc_si p1)])]⟩) (C := True) (by kernel_rfl) trivial trivial ?_
  refine AX.seq ?_
  refine AX.reg (its := []) [1, 3] [0] (s1 := ⟨[(1, .pt 0 0), (3, .v (.int .i64 1048576))], [(0, .box [.bs true 2 (List.map enc_si p1)])]⟩) (C := True) (by kernel_rfl) trivial trivial ?_
  refine AX.seq ?_
  obtain ⟨x2, e1, h⟩ := bd_e h
  refine AX.reg (its := [.auto {}, .auto {}, .call 15 [.agg [.bs true 2 (List.map enc_si p1)], .v (.int .i64 1048576)] (handO (rho ([] ++ [])) [] [] ++ []) (callEv [] [] (.v (.int .i64 x2)) [])]) [1, 3] [0] (s1 := ⟨[(1, .pt 0 0), (3, .v (.int .i64 x2))], [(0, .box [.bs true 2 (List.map enc_si p1)])]⟩) (C := ((([.agg [.bs true 2 (List.map enc_si p1)], .v (.int .i64 1048576)] : List AV) = [.agg [.bs true 2 (List.map enc_si p1)], .v (.int .i64 1048576)]) ∧ True) ∧ True) (by kernel_rfl) ⟨⟨rfl, trivial⟩, trivial⟩ ⟨call_ok (ks := []) (ns := []) (bor := []) (bobjs := []) (s_laws_szEnum p1 1048576 x2 e1) (.cons (.c1 (.agg (.cons (.same _ (by kernel_rfl) (by kernel_rfl)) (.nil)))) (.cons (.c1 (.c0 (.same _ (by kernel_rfl) (by kernel_rfl)))) (.nil))) (by kernel_rfl) trivial, trivial⟩ ?_
  refine AX.seq ?_
  refine AX.seq ?_
  refine AX.reg (its := []) [1, 15] [0] (s1 := ⟨[(1, .pt 0 0), (15, .v (.bool (decide (x2 < 0))))], [(0, .box [.bs true 2 (List.map enc_si p1)])]⟩) (C := True) (by kernel_rfl) trivial trivial ?_
  rcases bool_cases (decide (x2 < 0)) with b2 | b2
  · replace h := cd_t b2 h
    refine AX.condT (decide (x2 < 0)) (by kernel_rfl) b2 ?_
    refine AX.seq ?_
    refine AX.reg (its := []) [2] [] (s1 := ⟨[(2, .v (.bool true))], []⟩) (C := True) (by kernel_rfl) trivial trivial ?_
    refine AX.ret ?_
    refine fin_wk (Wk.forget [2] [] (s' := ⟨[(2, .v (.bool true))], []⟩) (by kernel_rfl)) ?_
    have hr := Option.some.inj h
    subst hr
    exact ⟨_, Wk.refl _, .inr rfl, ⟨[], by kernel_rfl, trivial, [.v (.bool true)], by kernel_rfl, by kernel_rfl⟩⟩
  · replace h := cd_f b2 h
    refine AX.condF (decide (x2 < 0)) (by kernel_rfl) b2 ?_
    refine AX.skip ?_
    refine AX.seq ?_
    obtain ⟨x3, e3, h⟩ := bd_e h
    obtain ⟨x4, e4, h⟩ := bd_e h
    refine AX.reg (its := [.auto {}, .call 17 [.agg [.bs true 2 (List.map enc_si p1)]] (handO (rho ([] ++ [1])) [] [] ++ []) (callEv [] [1] (.agg [.sl 0 0 x3.length]) [.arr 2 (List.map enc_si x3)]), .call 26 [.agg [.sl 1 0 x3.length]] (handO (rho ([] ++ [2])) [] [] ++ [(1, .arr 2 (List.map enc_si x3))]) (callEv [] [2] (.agg [.sl 0 0 x4.length]) [.arr 2 (List.map enc_si x4)]), .auto { nk := 3 }]) [1, 4] [0, 2, 3] (s1 := ⟨[(1, .pt 0 0), (4, .pt 3 0)], [(0, .box [.bs true 2 (List.map enc_si p1)]), (2, .arr 2 (List.map enc_si x4)), (3, .box [.sl 2 0 x4.length])]⟩) (C := ((([.agg [.bs true 2 (List.map enc_si p1)]] : List AV) = [.agg [.bs true 2 (List.map enc_si p1)]]) ∧ True) ∧ ((([.agg [.sl 1 0 x3.length]] : List AV) = [.agg [.sl 1 0 x3.length]]) ∧ (AO.arr 2 (List.map enc_si x3) = AO.arr 2 (List.map enc_si x3)) ∧ True) ∧ True) (by kernel_rfl) ⟨⟨rfl, trivial⟩, ⟨⟨rfl, rfl, trivial⟩, trivial⟩⟩ ⟨call_ok (ks := []) (ns := [1]) (bor := []) (bobjs := []) (s_laws_toEnum p1 x3 e3) (.cons (.c1 (.agg (.cons (.same _ (by kernel_rfl) (by kernel_rfl)) (.nil)))) (.nil)) (by kernel_rfl) trivial, ⟨call_ok (ks := []) (ns := [2]) (bor := [1]) (bobjs := [(1, .arr 2 (List.map enc_si x3))]) (s_spec_SortEnum x3 x4 e4) (.cons (.c1 (.agg (.cons (.arr rfl rfl ((rfl).trans (List.length_map ..).symm)) (.nil)))) (.nil)) (by kernel_rfl) trivial, trivial⟩⟩ ?_
    refine AX.seq ?_
    obtain ⟨x5, e5, h⟩ := bd_e h
    refine AX.reg (its := [.auto {}, .call 17 [.agg [.bs true 2 (List.map enc_si p1)]] (handO (rho ([] ++ [4])) [] [] ++ []) (callEv [] [4] (.agg [.sl 0 0 x5.length]) [.arr 2 (List.map enc_si x5)]), .auto { nk := 5 }]) [1, 4, 5] [0, 2, 3, 4, 5] (s1 := ⟨[(1, .pt 0 0), (4, .pt 3 0), (5, .pt 5 0)], [(0, .box [.bs true 2 (List.map enc_si p1)]), (2, .arr 2 (List.map enc_si x4)), (3, .box [.sl 2 0 x4.length]), (4, .arr 2 (List.map enc_si x5)), (5, .box [.sl 4 0 x5.length])]⟩) (C := ((([.agg [.bs true 2 (List.map enc_si p1)]] : List AV) = [.agg [.bs true 2 (List.map enc_si p1)]]) ∧ True) ∧ True) (by kernel_rfl) ⟨⟨rfl, trivial⟩, trivial⟩ ⟨call_ok (ks := []) (ns := [4]) (bor := []) (bobjs := []) (s_laws_toEnum p1 x5 e5) (.cons (.c1 (.agg (.cons (.same _ (by kernel_rfl) (by kernel_rfl)) (.nil)))) (.nil)) (by kernel_rfl) trivial, trivial⟩ ?_
    refine AX.seq ?_
    obtain ⟨x6, e6, h⟩ := bd_e h
    refine AX.reg (its := [.auto {}, .call 25 [.agg [.sl 4 0 x5.length]] (handO (rho ([] ++ [6])) [] [] ++ [(4, .arr 2 (List.map enc_si x5))]) (callEv [] [6] (.agg [.sl 0 0 x6.length]) [.arr 2 (List.map enc_si x6)]), .auto { nk := 7 }]) [1, 4, 5, 6] [0, 2, 3, 4, 5, 6, 7] (s1 := ⟨[(1, .pt 0 0), (4, .pt 3 0), (5, .pt 5 0), (6, .pt 7 0)], [(0, .box [.bs true 2 (List.map enc_si p1)]), (2, .arr 2 (List.map enc_si x4)), (3, .box [.sl 2 0 x4.length]), (4, .arr 2 (List.map enc_si x5)), (5, .box [.sl 4 0 x5.length]), (6, .arr 2 (List.map enc_si x6)), (7, .box [.sl 6 0 x6.length])]⟩) (C := ((([.agg [.sl 4 0 x5.length]] : List AV) = [.agg [.sl 4 0 x5.length]]) ∧ (AO.arr 2 (List.map enc_si x5) = AO.arr 2 (List.map enc_si x5)) ∧ True) ∧ True) (by kernel_rfl) ⟨⟨rfl, rfl, trivial⟩, trivial⟩ ⟨call_ok (ks := []) (ns := [6]) (bor := [4]) (bobjs := [(4, .arr 2 (List.map enc_si x5))]) (s_impl_SortEnum x5 x6 e6) (.cons (.c1 (.agg (.cons (.arr rfl rfl ((rfl).trans (List.length_map ..).symm)) (.nil)))) (.nil)) (by kernel_rfl) trivial, trivial⟩ ?_
    refine AX.seq ?_
    refine AX.seq ?_
    obtain ⟨x7, e7, h⟩ := bd_e h
    refine AX.reg (its := [.auto {}, .auto {}, .call 19 [.agg [.sl 6 0 x6.length], .agg [.sl 2 0 x4.length]] (handO (rho ([] ++ [])) [] [] ++ [(6, .arr 2 (List.map enc_si x6)), (2, .arr 2 (List.map enc_si x4))]) (callEv [] [] (.v (.bool x7)) [])]) [1, 4, 5, 6, 26] [0, 2, 3, 4, 5, 6, 7] (s1 := ⟨[(1, .pt 0 0), (4, .pt 3 0), (5, .pt 5 0), (6, .pt 7 0), (26, .v (.bool (!x7)))], [(0, .box [.bs true 2 (List.map enc_si p1)]), (2, .arr 2 (List.map enc_si x4)), (3, .box [.sl 2 0 x4.length]), (4, .arr 2 (List.map enc_si x5)), (5, .box [.sl 4 0 x5.length]), (6, .arr 2 (List.map enc_si x6)), (7, .box [.sl 6 0 x6.length])]⟩) (C := ((([.agg [.sl 6 0 x6.length], .agg [.sl 2 0 x4.length]] : List AV) = [.agg [.sl 6 0 x6.length], .agg [.sl 2 0 x4.length]]) ∧ (AO.arr 2 (List.map enc_si x6) = AO.arr 2 (List.map enc_si x6)) ∧ (AO.arr 2 (List.map enc_si x4) = AO.arr 2 (List.map enc_si x4)) ∧ True) ∧ True) (by kernel_rfl) ⟨⟨rfl, rfl, rfl, trivial⟩, trivial⟩ ⟨call_ok (ks := []) (ns := []) (bor := [6, 2]) (bobjs := [(6, .arr 2 (List.map enc_si x6)), (2, .arr 2 (List.map enc_si x4))]) (s_laws_eqEnum x6 x4 x7 e7) (.cons (.c1 (.agg (.cons (.arr rfl rfl ((rfl).trans (List.length_map ..).symm)) (.nil)))) (.cons (.c1 (.agg (.cons (.arr rfl rfl ((rfl).trans (List.length_map ..).symm)) (.nil)))) (.nil))) (by kernel_rfl) trivial, trivial⟩ ?_
    rcases bool_cases ((!x7)) with b8 | b8
    · replace h := cd_t b8 h
      refine AX.condT ((!x7)) (by kernel_rfl) b8 ?_
      refine AX.seq ?_
      refine AX.reg (its := []) [2] [] (s1 := ⟨[(2, .v (.bool false))], []⟩) (C := True) (by kernel_rfl) trivial trivial ?_
      refine AX.ret ?_
      refine fin_wk (Wk.forget [2] [] (s' := ⟨[(2, .v (.bool false))], []⟩) (by kernel_rfl)) ?_
      have hr := Option.some.inj h
      subst hr
      exact ⟨_, Wk.refl _, .inr rfl, ⟨[], by kernel_rfl, trivial, [.v (.bool false)], by kernel_rfl, by kernel_rfl⟩⟩
    · replace h := cd_f b8 h
      refine AX.condF ((!x7)) (by kernel_rfl) b8 ?_
      refine AX.skip ?_
      refine AX.seq ?_
      refine AX.seq ?_
      obtain ⟨x8, e9, h⟩ := bd_e h
      obtain ⟨x9, e10, h⟩ := bd_e h
      refine AX.drw mixed (its := [.auto {}, .auto {}, .call 17 [.agg [.bs true 2 (List.map enc_si p1)]] (handO (rho ([] ++ [8])) [] [] ++ []) (callEv [] [8] (.agg [.sl 0 0 x8.length]) [.arr 2 (List.map enc_si x8)]), .call 19 [.agg [.sl 4 0 x5.length], .agg [.sl 8 0 x8.length]] (handO (rho ([] ++ [])) [] [] ++ [(4, .arr 2 (List.map enc_si x5)), (8, .arr 2 (List.map enc_si x8))]) (callEv [] [] (.v (.bool x9)) [])]) [1, 4, 5, 6, 31] [0, 2, 3, 4, 5, 6, 7] (s1 := ⟨[(1, .pt 0 0), (4, .pt 3 0), (5, .pt 5 0), (6, .pt 7 0), (31, .v (.bool (!x9)))], [(0, .box [.bs true 2 (List.map enc_si p1)]), (2, .arr 2 (List.map enc_si x4)), (3, .box [.sl 2 0 x4.length]), (4, .arr 2 (List.map enc_si x5)), (5, .box [.sl 4 0 x5.length]), (6, .arr 2 (List.map enc_si x6)), (7, .box [.sl 6 0 x6.length])]⟩) (C := ((([.agg [.bs true 2 (List.map enc_si p1)]] : List AV) = [.agg [.bs true 2 (List.map enc_si p1)]]) ∧ True) ∧ ((([.agg [.sl 4 0 x5.length], .agg [.sl 8 0 x8.length]] : List AV) = [.agg [.sl 4 0 x5.length], .agg [.sl 8 0 x8.length]]) ∧ (AO.arr 2 (List.map enc_si x5) = AO.arr 2 (List.map enc_si x5)) ∧ (AO.arr 2 (List.map enc_si x8) = AO.arr 2 (List.map enc_si x8)) ∧ True) ∧ True) (by kernel_rfl) ⟨⟨rfl, trivial⟩, ⟨⟨rfl, rfl, rfl, trivial⟩, trivial⟩⟩ ⟨call_ok (ks := []) (ns := [8]) (bor := []) (bobjs := []) (s_laws_toEnum p1 x8 e9) (.cons (.c1 (.agg (.cons (.same _ (by kernel_rfl) (by kernel_rfl)) (.nil)))) (.nil)) (by kernel_rfl) trivial, ⟨call_ok (ks := []) (ns := []) (bor := [4, 8]) (bobjs := [(4, .arr 2 (List.map enc_si x5)), (8, .arr 2 (List.map enc_si x8))]) (s_laws_eqEnum x5 x8 x9 e10) (.cons (.c1 (.agg (.cons (.arr rfl rfl ((rfl).trans (List.length_map ..).symm)) (.nil)))) (.cons (.c1 (.agg (.cons (.arr rfl rfl ((rfl).trans (List.length_map ..).symm)) (.nil)))) (.nil))) (by kernel_rfl) trivial, trivial⟩⟩ ?_
      rcases bool_cases ((!x9)) with b11 | b11
      · replace h := cd_t b11 h
        refine AX.condT ((!x9)) (by kernel_rfl) b11 ?_
        refine AX.seq ?_
        refine AX.reg (its := []) [2] [] (s1 := ⟨[(2, .v (.bool false))], []⟩) (C := True) (by kernel_rfl) trivial trivial ?_
        refine AX.ret ?_
        refine fin_wk (Wk.forget [2] [] (s' := ⟨[(2, .v (.bool false))], []⟩) (by kernel_rfl)) ?_
        have hr := Option.some.inj h
        subst hr
        exact ⟨_, Wk.refl _, .inr rfl, ⟨[], by kernel_rfl, trivial, [.v (.bool false)], by kernel_rfl, by kernel_rfl⟩⟩
      · replace h := cd_f b11 h
        refine AX.condF ((!x9)) (by kernel_rfl) b11 ?_
        refine AX.skip ?_
        refine AX.seq ?_
        refine AX.reg (its := []) [1, 4, 5, 6, 7] [0, 2, 3, 4, 5, 6, 7] (s1 := ⟨[(1, .pt 0 0), (4, .pt 3 0), (5, .pt 5 0), (6, .pt 7 0), (7, .v (.int .i64 1))], [(0, .box [.bs true 2 (List.map enc_si p1)]), (2, .arr 2 (List.map enc_si x4)), (3, .box [.sl 2 0 x4.length]), (4, .arr 2 (List.map enc_si x5)), (5, .box [.sl 4 0 x5.length]), (6, .arr 2 (List.map enc_si x6)), (7, .box [.sl 6 0 x6.length])]⟩) (C := True) (by kernel_rfl) trivial trivial ?_
        refine AX.seq ?_
        obtain ⟨x10, e12, h⟩ := bd_e h
        obtain ⟨g13, h⟩ := gd_e h
        refine AX.reg (its := [.auto {}, .auto {}, .call 21 [.agg [.sl 4 0 x5.length], .v (.int .i64 1)] (handO (rho ([4] ++ [])) [4] [.arr 2 (List.map enc_si x5)] ++ []) (callEv [4] [] (.v (.int .i64 x10.1)) [.arr 2 (List.map enc_si x10.2)])]) [1, 4, 6, 7] [0, 2, 3, 6, 7] (s1 := ⟨[(1, .pt 0 0), (4, .pt 3 0), (6, .pt 7 0), (7, .v (.int .i64 x10.1))], [(0, .box [.bs true 2 (List.map enc_si p1)]), (2, .arr 2 (List.map enc_si x4)), (3, .box [.sl 2 0 x4.length]), (6, .arr 2 (List.map enc_si x6)), (7, .box [.sl 6 0 x6.length])]⟩) (C := ((([.agg [.sl 4 0 x5.length], .v (.int .i64 1)] : List AV) = [.agg [.sl 4 0 x5.length], .v (.int .i64 1)]) ∧ (AO.arr 2 (List.map enc_si x5) = AO.arr 2 (List.map enc_si x5)) ∧ True) ∧ True) (by kernel_rfl) ⟨⟨rfl, rfl, trivial⟩, trivial⟩ ⟨call_ok (ks := [4]) (ns := []) (bor := []) (bobjs := []) (s_laws_markEnum_h 1 x5 x10 e12) (.cons (.c1 (.agg (.cons (.same _ (by kernel_rfl) (by kernel_rfl)) (.nil)))) (.cons (.c1 (.c0 (.same _ (by kernel_rfl) (by kernel_rfl)))) (.nil))) (by kernel_rfl) ⟨.inr (arr_sh (enc := enc_si) g13), trivial⟩, trivial⟩ ?_
        refine AX.seq ?_
        refine AX.seq ?_
        rcases bool_cases (decide (x10.1 < 0)) with b14 | b14
        · replace h := cd_t b14 h
          refine AX.reg (its := [.auto {}, .auto { y := some (.v (.bool true)) }]) [1, 4, 6, 42] [0, 2, 3, 6, 7] (s1 := ⟨[(1, .pt 0 0), (4, .pt 3 0), (6, .pt 7 0), (42, .v (.bool true))], [(0, .box [.bs true 2 (List.map enc_si p1)]), (2, .arr 2 (List.map enc_si x4)), (3, .box [.sl 2 0 x4.length]), (6, .arr 2 (List.map enc_si x6)), (7, .box [.sl 6 0 x6.length])]⟩) (C := ((True) ∧ ((.v (.bool (decide (x10.1 < 0))) : AV) = (.v (.bool true) : AV))) ∧ True) (by kernel_rfl) ⟨⟨trivial, (congrArg (fun z => AV.v (.bool z)) b14)⟩, trivial⟩ trivial ?_
          refine AX.cond_true (by kernel_rfl) ?_
          refine AX.seq ?_
          refine AX.reg (its := []) [2] [] (s1 := ⟨[(2, .v (.bool false))], []⟩) (C := True) (by kernel_rfl) trivial trivial ?_
          refine AX.ret ?_
          refine fin_wk (Wk.forget [2] [] (s' := ⟨[(2, .v (.bool false))], []⟩) (by kernel_rfl)) ?_
          have hr := Option.some.inj h
          subst hr
          exact ⟨_, Wk.refl _, .inr rfl, ⟨[], by kernel_rfl, trivial, [.v (.bool false)], by kernel_rfl, by kernel_rfl⟩⟩
        · replace h := cd_f b14 h
          obtain ⟨x11, e15, h⟩ := bd_e h
          refine AX.reg (its := [.auto {}, .auto { y := some (.v (.bool false)) }, .auto {}, .auto {}, .auto {}, .call 19 [.agg [.sl 6 0 x6.length], .agg [.sl 2 0 x4.length]] (handO (rho ([] ++ [])) [] [] ++ [(6, .arr 2 (List.map enc_si x6)), (2, .arr 2 (List.map enc_si x4))]) (callEv [] [] (.v (.bool x11)) [])]) [1, 4, 6, 42] [0, 2, 3, 6, 7] (s1 := ⟨[(1, .pt 0 0), (4, .pt 3 0), (6, .pt 7 0), (42, .v (.bool (!x11)))], [(0, .box [.bs true 2 (List.map enc_si p1)]), (2, .arr 2 (List.map enc_si x4)), (3, .box [.sl 2 0 x4.length]), (6, .arr 2 (List.map enc_si x6)), (7, .box [.sl 6 0 x6.length])]⟩) (C := ((True) ∧ ((.v (.bool (decide (x10.1 < 0))) : AV) = (.v (.bool false) : AV))) ∧ ((([.agg [.sl 6 0 x6.length], .agg [.sl 2 0 x4.length]] : List AV) = [.agg [.sl 6 0 x6.length], .agg [.sl 2 0 x4.length]]) ∧ (AO.arr 2 (List.map enc_si x6) = AO.arr 2 (List.map enc_si x6)) ∧ (AO.arr 2 (List.map enc_si x4) = AO.arr 2 (List.map enc_si x4)) ∧ True) ∧ True) (by kernel_rfl) ⟨⟨trivial, (congrArg (fun z => AV.v (.bool z)) b14)⟩, ⟨⟨rfl, rfl, rfl, trivial⟩, trivial⟩⟩ ⟨call_ok (ks := []) (ns := []) (bor := [6, 2]) (bobjs := [(6, .arr 2 (List.map enc_si x6)), (2, .arr 2 (List.map enc_si x4))]) (s_laws_eqEnum x6 x4 x11 e15) (.cons (.c1 (.agg (.cons (.arr rfl rfl ((rfl).trans (List.length_map ..).symm)) (.nil)))) (.cons (.c1 (.agg (.cons (.arr rfl rfl ((rfl).trans (List.length_map ..).symm)) (.nil)))) (.nil))) (by kernel_rfl) trivial, trivial⟩ ?_
          rcases bool_cases ((!x11)) with b16 | b16
          · replace h := cd_t b16 h
            refine AX.condT ((!x11)) (by kernel_rfl) b16 ?_
            refine AX.seq ?_
            refine AX.reg (its := []) [2] [] (s1 := ⟨[(2, .v (.bool false))], []⟩) (C := True) (by kernel_rfl) trivial trivial ?_
            refine AX.ret ?_
            refine fin_wk (Wk.forget [2] [] (s' := ⟨[(2, .v (.bool false))], []⟩) (by kernel_rfl)) ?_
            have hr := Option.some.inj h
            subst hr
            exact ⟨_, Wk.refl _, .inr rfl, ⟨[], by kernel_rfl, trivial, [.v (.bool false)], by kernel_rfl, by kernel_rfl⟩⟩
          · replace h := cd_f b16 h
            refine AX.condF ((!x11)) (by kernel_rfl) b16 ?_
            refine AX.skip ?_
            refine AX.seq ?_
            refine AX.reg (its := []) [1, 4, 6, 8] [0, 2, 3, 6, 7] (s1 := ⟨[(1, .pt 0 0), (4, .pt 3 0), (6, .pt 7 0), (8, .v (.int .i64 1))], [(0, .box [.bs true 2 (List.map enc_si p1)]), (2, .arr 2 (List.map enc_si x4)), (3, .box [.sl 2 0 x4.length]), (6, .arr 2 (List.map enc_si x6)), (7, .box [.sl 6 0 x6.length])]⟩) (C := True) (by kernel_rfl) trivial trivial ?_
            refine AX.seq ?_
            obtain ⟨x12, e17, h⟩ := bd_e h
            obtain ⟨g18, h⟩ := gd_e h
            refine AX.reg (its := [.auto {}, .auto {}, .call 21 [.agg [.sl 6 0 x6.length], .v (.int .i64 1)] (handO (rho ([6] ++ [])) [6] [.arr 2 (List.map enc_si x6)] ++ []) (callEv [6] [] (.v (.int .i64 x12.1)) [.arr 2 (List.map enc_si x12.2)])]) [1, 4, 6, 8] [0, 2, 3, 6, 7] (s1 := ⟨[(1, .pt 0 0), (4, .pt 3 0), (6, .pt 7 0), (8, .v (.int .i64 x12.1))], [(0, .box [.bs true 2 (List.map enc_si p1)]), (2, .arr 2 (List.map enc_si x4)), (3, .box [.sl 2 0 x4.length]), (6, .arr 2 (List.map enc_si x12.2)), (7, .box [.sl 6 0 x6.length])]⟩) (C := ((([.agg [.sl 6 0 x6.length], .v (.int .i64 1)] : List AV) = [.agg [.sl 6 0 x6.length], .v (.int .i64 1)]) ∧ (AO.arr 2 (List.map enc_si x6) = AO.arr 2 (List.map enc_si x6)) ∧ True) ∧ True) (by kernel_rfl) ⟨⟨rfl, rfl, trivial⟩, trivial⟩ ⟨call_ok (ks := [6]) (ns := []) (bor := []) (bobjs := []) (s_laws_markEnum_h 1 x6 x12 e17) (.cons (.c1 (.agg (.cons (.same _ (by kernel_rfl) (by kernel_rfl)) (.nil)))) (.cons (.c1 (.c0 (.same _ (by kernel_rfl) (by kernel_rfl)))) (.nil))) (by kernel_rfl) ⟨.inr (arr_sh (enc := enc_si) g18), trivial⟩, trivial⟩ ?_
            refine AX.seq ?_
            refine AX.reg (its := []) [1, 4, 6, 8, 9] [0, 2, 3, 6, 7] (s1 := ⟨[(1, .pt 0 0), (4, .pt 3 0), (6, .pt 7 0), (8, .v (.int .i64 x12.1)), (9, .v (.int .i64 1))], [(0, .box [.bs true 2 (List.map enc_si p1)]), (2, .arr 2 (List.map enc_si x4)), (3, .box [.sl 2 0 x4.length]), (6, .arr 2 (List.map enc_si x12.2)), (7, .box [.sl 6 0 x6.length])]⟩) (C := True) (by kernel_rfl) trivial trivial ?_
            refine AX.seq ?_
            obtain ⟨x13, e19, h⟩ := bd_e h
            refine AX.reg (its := [.auto {}, .auto {}, .call 23 [.agg [.sl 6 0 x6.length], .v (.int .i64 1)] (handO (rho ([] ++ [])) [] [] ++ [(6, .arr 2 (List.map enc_si x12.2))]) (callEv [] [] (.v (.int .i64 x13)) [])]) [1, 4, 6, 8, 9] [0, 2, 3, 6, 7] (s1 := ⟨[(1, .pt 0 0), (4, .pt 3 0), (6, .pt 7 0), (8, .v (.int .i64 x12.1)), (9, .v (.int .i64 x13))], [(0, .box [.bs true 2 (List.map enc_si p1)]), (2, .arr 2 (List.map enc_si x4)), (3, .box [.sl 2 0 x4.length]), (6, .arr 2 (List.map enc_si x12.2)), (7, .box [.sl 6 0 x6.length])]⟩) (C := ((([.agg [.sl 6 0 x6.length], .v (.int .i64 1)] : List AV) = [.agg [.sl 6 0 x6.length], .v (.int .i64 1)]) ∧ (AO.arr 2 (List.map enc_si x12.2) = AO.arr 2 (List.map enc_si x12.2)) ∧ True) ∧ True) (by kernel_rfl) ⟨⟨rfl, rfl, trivial⟩, trivial⟩ ⟨call_ok (ks := []) (ns := []) (bor := [6]) (bobjs := [(6, .arr 2 (List.map enc_si x12.2))]) (s_laws_heldEnum x12.2 1 x13 e19) (.cons (.c1 (.agg (.cons (.arr rfl rfl ((((rfl : x6.length = x6.length)).trans (g18).symm).trans (List.length_map ..).symm)) (.nil)))) (.cons (.c1 (.c0 (.same _ (by kernel_rfl) (by kernel_rfl)))) (.nil))) (by kernel_rfl) trivial, trivial⟩ ?_
            refine AX.seq ?_
            refine AX.seq ?_
            refine AX.reg (its := []) [1, 4, 6, 8, 9, 50] [0, 2, 3, 6, 7] (s1 := ⟨[(1, .pt 0 0), (4, .pt 3 0), (6, .pt 7 0), (8, .v (.int .i64 x12.1)), (9, .v (.int .i64 x13)), (50, .v (.bool (decide (x13 < 0))))], [(0, .box [.bs true 2 (List.map enc_si p1)]), (2, .arr 2 (List.map enc_si x4)), (3, .box [.sl 2 0 x4.length]), (6, .arr 2 (List.map enc_si x12.2)), (7, .box [.sl 6 0 x6.length])]⟩) (C := True) (by kernel_rfl) trivial trivial ?_
            rcases bool_cases (decide (x13 < 0)) with b20 | b20
            · replace h := cd_t b20 h
              refine AX.condT (decide (x13 < 0)) (by kernel_rfl) b20 ?_
              refine AX.seq ?_
              refine AX.reg (its := []) [2] [] (s1 := ⟨[(2, .v (.bool false))], []⟩) (C := True) (by kernel_rfl) trivial trivial ?_
              refine AX.ret ?_
              refine fin_wk (Wk.forget [2] [] (s' := ⟨[(2, .v (.bool false))], []⟩) (by kernel_rfl)) ?_
              have hr := Option.some.inj h
              subst hr
              exact ⟨_, Wk.refl _, .inr rfl, ⟨[], by kernel_rfl, trivial, [.v (.bool false)], by kernel_rfl, by kernel_rfl⟩⟩
            · replace h := cd_f b20 h
              refine AX.condF (decide (x13 < 0)) (by kernel_rfl) b20 ?_
              refine AX.skip ?_
              refine AX.seq ?_
              refine AX.seq ?_
              refine AX.reg (its := []) [1, 4, 6, 8, 53] [0, 2, 3, 6, 7] (s1 := ⟨[(1, .pt 0 0), (4, .pt 3 0), (6, .pt 7 0), (8, .v (.int .i64 x12.1)), (53, .v (.bool (!decide (x13 = x12.1))))], [(0, .box [.bs true 2 (List.map enc_si p1)]), (2, .arr 2 (List.map enc_si x4)), (3, .box [.sl 2 0 x4.length]), (6, .arr 2 (List.map enc_si x12.2)), (7, .box [.sl 6 0 x6.length])]⟩) (C := True) (by kernel_rfl) trivial trivial ?_
              rcases bool_cases ((!decide (x13 = x12.1))) with b21 | b21
              · replace h := cd_t b21 h
                refine AX.condT ((!decide (x13 = x12.1))) (by kernel_rfl) b21 ?_
                refine AX.seq ?_
                refine AX.reg (its := []) [2] [] (s1 := ⟨[(2, .v (.bool false))], []⟩) (C := True) (by kernel_rfl) trivial trivial ?_
                refine AX.ret ?_
                refine fin_wk (Wk.forget [2] [] (s' := ⟨[(2, .v (.bool false))], []⟩) (by kernel_rfl)) ?_
                have hr := Option.some.inj h
                subst hr
                exact ⟨_, Wk.refl _, .inr rfl, ⟨[], by kernel_rfl, trivial, [.v (.bool false)], by kernel_rfl, by kernel_rfl⟩⟩
              · replace h := cd_f b21 h
                refine AX.condF ((!decide (x13 = x12.1))) (by kernel_rfl) b21 ?_
                refine AX.skip ?_
                refine AX.seq ?_
                obtain ⟨x14, e22, h⟩ := bd_e h
                obtain ⟨x15, e23, h⟩ := bd_e h
                refine AX.reg (its := [.auto {}, .call 17 [.agg [.bs true 2 (List.map enc_si p1)]] (handO (rho ([] ++ [8])) [] [] ++ []) (callEv [] [8] (.agg [.sl 0 0 x14.length]) [.arr 2 (List.map enc_si x14)]), .call 25 [.agg [.sl 8 0 x14.length]] (handO (rho ([] ++ [9])) [] [] ++ [(8, .arr 2 (List.map enc_si x14))]) (callEv [] [9] (.agg [.sl 0 0 x15.length]) [.arr 2 (List.map enc_si x15)]), .auto { nk := 10 }]) [4, 6, 8, 10] [2, 3, 6, 7, 9, 10] (s1 := ⟨[(4, .pt 3 0), (6, .pt 7 0), (8, .v (.int .i64 x12.1)), (10, .pt 10 0)], [(2, .arr 2 (List.map enc_si x4)), (3, .box [.sl 2 0 x4.length]), (6, .arr 2 (List.map enc_si x12.2)), (7, .box [.sl 6 0 x6.length]), (9, .arr 2 (List.map enc_si x15)), (10, .box [.sl 9 0 x15.length])]⟩) (C := ((([.agg [.bs true 2 (List.map enc_si p1)]] : List AV) = [.agg [.bs true 2 (List.map enc_si p1)]]) ∧ True) ∧ ((([.agg [.sl 8 0 x14.length]] : List AV) = [.agg [.sl 8 0 x14.length]]) ∧ (AO.arr 2 (List.map enc_si x14) = AO.arr 2 (List.map enc_si x14)) ∧ True) ∧ True) (by kernel_rfl) ⟨⟨rfl, trivial⟩, ⟨⟨rfl, rfl, trivial⟩, trivial⟩⟩ ⟨call_ok (ks := []) (ns := [8]) (bor := []) (bobjs := []) (s_laws_toEnum p1 x14 e22) (.cons (.c1 (.agg (.cons (.same _ (by kernel_rfl) (by kernel_rfl)) (.nil)))) (.nil)) (by kernel_rfl) trivial, ⟨call_ok (ks := []) (ns := [9]) (bor := [8]) (bobjs := [(8, .arr 2 (List.map enc_si x14))]) (s_impl_SortEnum x14 x15 e23) (.cons (.c1 (.agg (.cons (.arr rfl rfl ((rfl).trans (List.length_map ..).symm)) (.nil)))) (.nil)) (by kernel_rfl) trivial, trivial⟩⟩ ?_
                refine AX.seq ?_
                refine AX.seq ?_
                obtain ⟨x16, e24, h⟩ := bd_e h
                refine AX.reg (its := [.auto {}, .auto {}, .call 19 [.agg [.sl 9 0 x15.length], .agg [.sl 2 0 x4.length]] (handO (rho ([] ++ [])) [] [] ++ [(9, .arr 2 (List.map enc_si x15)), (2, .arr 2 (List.map enc_si x4))]) (callEv [] [] (.v (.bool x16)) [])]) [6, 8, 60] [6, 7] (s1 := ⟨[(6, .pt 7 0), (8, .v (.int .i64 x12.1)), (60, .v (.bool (!x16)))], [(6, .arr 2 (List.map enc_si x12.2)), (7, .box [.sl 6 0 x6.length])]⟩) (C := ((([.agg [.sl 9 0 x15.length], .agg [.sl 2 0 x4.length]] : List AV) = [.agg [.sl 9 0 x15.length], .agg [.sl 2 0 x4.length]]) ∧ (AO.arr 2 (List.map enc_si x15) = AO.arr 2 (List.map enc_si x15)) ∧ (AO.arr 2 (List.map enc_si x4) = AO.arr 2 (List.map enc_si x4)) ∧ True) ∧ True) (by kernel_rfl) ⟨⟨rfl, rfl, rfl, trivial⟩, trivial⟩ ⟨call_ok (ks := []) (ns := []) (bor := [9, 2]) (bobjs := [(9, .arr 2 (List.map enc_si x15)), (2, .arr 2 (List.map enc_si x4))]) (s_laws_eqEnum x15 x4 x16 e24) (.cons (.c1 (.agg (.cons (.arr rfl rfl ((rfl).trans (List.length_map ..).symm)) (.nil)))) (.cons (.c1 (.agg (.cons (.arr rfl rfl ((rfl).trans (List.length_map ..).symm)) (.nil)))) (.nil))) (by kernel_rfl) trivial, trivial⟩ ?_
                rcases bool_cases ((!x16)) with b25 | b25
                · replace h := cd_t b25 h
                  refine AX.condT ((!x16)) (by kernel_rfl) b25 ?_
                  refine AX.seq ?_
                  refine AX.reg (its := []) [2] [] (s1 := ⟨[(2, .v (.bool false))], []⟩) (C := True) (by kernel_rfl) trivial trivial ?_
                  refine AX.ret ?_
                  refine fin_wk (Wk.forget [2] [] (s' := ⟨[(2, .v (.bool false))], []⟩) (by kernel_rfl)) ?_
                  have hr := Option.some.inj h
                  subst hr
                  exact ⟨_, Wk.refl _, .inr rfl, ⟨[], by kernel_rfl, trivial, [.v (.bool false)], by kernel_rfl, by kernel_rfl⟩⟩
                · replace h := cd_f b25 h
                  refine AX.condF ((!x16)) (by kernel_rfl) b25 ?_
                  refine AX.skip ?_
                  refine AX.seq ?_
                  refine AX.reg (its := []) [6, 8, 9] [6, 7] (s1 := ⟨[(6, .pt 7 0), (8, .v (.int .i64 x12.1)), (9, .v (.int .i64 1))], [(6, .arr 2 (List.map enc_si x12.2)), (7, .box [.sl 6 0 x6.length])]⟩) (C := True) (by kernel_rfl) trivial trivial ?_
                  refine AX.seq ?_
                  obtain ⟨x17, e26, h⟩ := bd_e h
                  refine AX.reg (its := [.auto {}, .auto {}, .call 23 [.agg [.sl 6 0 x6.length], .v (.int .i64 1)] (handO (rho ([] ++ [])) [] [] ++ [(6, .arr 2 (List.map enc_si x12.2))]) (callEv [] [] (.v (.int .i64 x17)) [])]) [8, 9] [] (s1 := ⟨[(8, .v (.int .i64 x12.1)), (9, .v (.int .i64 x17))], []⟩) (C := ((([.agg [.sl 6 0 x6.length], .v (.int .i64 1)] : List AV) = [.agg [.sl 6 0 x6.length], .v (.int .i64 1)]) ∧ (AO.arr 2 (List.map enc_si x12.2) = AO.arr 2 (List.map enc_si x12.2)) ∧ True) ∧ True) (by kernel_rfl) ⟨⟨rfl, rfl, trivial⟩, trivial⟩ ⟨call_ok (ks := []) (ns := []) (bor := [6]) (bobjs := [(6, .arr 2 (List.map enc_si x12.2))]) (s_laws_heldEnum x12.2 1 x17 e26) (.cons (.c1 (.agg (.cons (.arr rfl rfl ((((rfl : x6.length = x6.length)).trans (g18).symm).trans (List.length_map ..).symm)) (.nil)))) (.cons (.c1 (.c0 (.same _ (by kernel_rfl) (by kernel_rfl)))) (.nil))) (by kernel_rfl) trivial, trivial⟩ ?_
                  refine AX.seq ?_
                  refine AX.seq ?_
                  refine AX.reg (its := []) [8, 9, 65] [] (s1 := ⟨[(8, .v (.int .i64 x12.1)), (9, .v (.int .i64 x17)), (65, .v (.bool (decide (x17 < 0))))], []⟩) (C := True) (by kernel_rfl) trivial trivial ?_
                  rcases bool_cases (decide (x17 < 0)) with b27 | b27
                  · replace h := cd_t b27 h
                    refine AX.condT (decide (x17 < 0)) (by kernel_rfl) b27 ?_
                    refine AX.seq ?_
                    refine AX.reg (its := []) [2] [] (s1 := ⟨[(2, .v (.bool false))], []⟩) (C := True) (by kernel_rfl) trivial trivial ?_
                    refine AX.ret ?_
                    refine fin_wk (Wk.forget [2] [] (s' := ⟨[(2, .v (.bool false))], []⟩) (by kernel_rfl)) ?_
                    have hr := Option.some.inj h
                    subst hr
                    exact ⟨_, Wk.refl _, .inr rfl, ⟨[], by kernel_rfl, trivial, [.v (.bool false)], by kernel_rfl, by kernel_rfl⟩⟩
                  · replace h := cd_f b27 h
                    refine AX.condF (decide (x17 < 0)) (by kernel_rfl) b27 ?_
                    refine AX.skip ?_
                    refine AX.seq ?_
                    refine AX.seq ?_
                    refine AX.reg (its := []) [68] [] (s1 := ⟨[(68, .v (.bool (!decide (x17 = x12.1))))], []⟩) (C := True) (by kernel_rfl) trivial trivial ?_
                    rcases bool_cases ((!decide (x17 = x12.1))) with b28 | b28
                    · replace h := cd_t b28 h
                      refine AX.condT ((!decide (x17 = x12.1))) (by kernel_rfl) b28 ?_
                      refine AX.seq ?_
                      refine AX.reg (its := []) [2] [] (s1 := ⟨[(2, .v (.bool false))], []⟩) (C := True) (by kernel_rfl) trivial trivial ?_
                      refine AX.ret ?_
                      refine fin_wk (Wk.forget [2] [] (s' := ⟨[(2, .v (.bool false))], []⟩) (by kernel_rfl)) ?_
                      have hr := Option.some.inj h
                      subst hr
                      exact ⟨_, Wk.refl _, .inr rfl, ⟨[], by kernel_rfl, trivial, [.v (.bool false)], by kernel_rfl, by kernel_rfl⟩⟩
                    · replace h := cd_f b28 h
                      refine AX.condF ((!decide (x17 = x12.1))) (by kernel_rfl) b28 ?_
                      refine AX.skip ?_
                      refine AX.seq ?_
                      refine AX.reg (its := []) [2] [] (s1 := ⟨[(2, .v (.bool true))], []⟩) (C := True) (by kernel_rfl) trivial trivial ?_
                      refine AX.ret ?_
                      refine fin_wk (Wk.forget [2] [] (s' := ⟨[(2, .v (.bool true))], []⟩) (by kernel_rfl)) ?_
                      have hr := Option.some.inj h
                      subst hr
                      exact ⟨_, Wk.refl _, .inr rfl, ⟨[], by kernel_rfl, trivial, [.v (.bool true)], by kernel_rfl, by kernel_rfl⟩⟩

end Go.Eng
