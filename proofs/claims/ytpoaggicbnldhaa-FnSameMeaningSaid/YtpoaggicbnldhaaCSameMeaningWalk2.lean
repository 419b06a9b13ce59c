/- What is proved here: each function keeps to its model, whatever its arguments, wherever the model has an answer. Printed by gen.py. -/
import Derived.Test.YtpoaggicbnldhaaCSameMeaningWalk1
import Derived.Test.YtpoaggicbnldhaaProg
import Derived.KernelRfl
set_option linter.unusedVariables false
namespace Go.Eng
open Go Go.Proofs


theorem s_spec_twoEnums (p1 : List (Int)) (p2 : Int) (r : (List (ByteArray × Int)) × (List (ByteArray × Int)) × Int) (h : m_spec_twoEnums p1 p2 = some r) :
    Eng.Spec Try.prog 59 [.pt 0 0] [.box [.bs true 1 (List.map enc_y p1), .v (.int .i64 p2)]] (.tup [.agg [.sl 1 0 r.1.length], .agg [.sl 2 0 r.2.1.length]]) [.box [.bs true 1 (List.map enc_y p1), .v (.int .i64 r.2.2)], .arr 2 (List.map enc_si r.1), .arr 2 (List.map enc_si r.2.1)] := by
  unfold m_spec_twoEnums at h
  refine Eng.Spec.body Try.func59 (by kernel_rfl) rfl (by kernel_rfl) ?_
  refine AX.wkpost ?_
  refine AX.seq ?_
  refine AX.reg (its := [.auto { nk := 1 }, .auto { nk := 2 }]) [0, 2, 3] [0, 1, 2] (s1 := ⟨[(0, .pt 0 0), (2, .pt 1 0), (3, .pt 2 0)], [(0, .box [.bs true 1 (List.map enc_y p1), .v (.int .i64 p2)]), (1, .box [.v (.slice none 0 0)]), (2, .box [.v (.slice none 0 0)])]⟩) (C := True) (by kernel_rfl) trivial trivial ?_
  refine AX.seq ?_
  obtain ⟨x3, e1, h⟩ := bd_e h
  refine AX.reg (its := [.auto {}, .call 32 [.pt 0 0] (handO (rho ([0] ++ [3])) [0] [.box [.bs true 1 (List.map enc_y p1), .v (.int .i64 p2)]] ++ []) (callEv [0] [3] (.agg [.sl 1 0 x3.1.length]) [.box [.bs true 1 (List.map enc_y p1), .v (.int .i64 x3.2)], .arr 2 (List.map enc_si x3.1)]), .auto { nk := 4 }]) [0, 2, 3, 4] [0, 1, 2, 3, 4] (s1 := ⟨[(0, .pt 0 0), (2, .pt 1 0), (3, .pt 2 0), (4, .pt 4 0)], [(0, .box [.bs true 1 (List.map enc_y p1), .v (.int .i64 x3.2)]), (1, .box [.v (.slice none 0 0)]), (2, .box [.v (.slice none 0 0)]), (3, .arr 2 (List.map enc_si x3.1)), (4, .box [.sl 3 0 x3.1.length])]⟩) (C := ((([.pt 0 0] : List AV) = [.pt 0 0]) ∧ (AO.box [.bs true 1 (List.map enc_y p1), .v (.int .i64 p2)] = AO.box [.bs true 1 (List.map enc_y p1), .v (.int .i64 p2)]) ∧ True) ∧ True) (by kernel_rfl) ⟨⟨rfl, rfl, trivial⟩, trivial⟩ ⟨call_ok (ks := [0]) (ns := [3]) (bor := []) (bobjs := []) (s_spec_someEnum p1 p2 x3 e1) (.cons (.c1 (.c0 (.same _ (by kernel_rfl) (by kernel_rfl)))) (.nil)) (by kernel_rfl) ⟨.inr rfl, trivial⟩, trivial⟩ ?_
  refine AX.seq ?_
  obtain ⟨x4, e2, h⟩ := bd_e h
  refine AX.reg (its := [.auto {}, .call 62 [.pt 0 0] (handO (rho ([0] ++ [5])) [0] [.box [.bs true 1 (List.map enc_y p1), .v (.int .i64 x3.2)]] ++ []) (callEv [0] [5] (.agg [.sl 1 0 x4.1.length]) [.box [.bs true 1 (List.map enc_y p1), .v (.int .i64 x4.2)], .arr 2 (List.map enc_si x4.1)]), .auto { nk := 6 }]) [0, 2, 3, 4, 5] [0, 1, 2, 3, 4, 5, 6] (s1 := ⟨[(0, .pt 0 0), (2, .pt 1 0), (3, .pt 2 0), (4, .pt 4 0), (5, .pt 6 0)], [(0, .box [.bs true 1 (List.map enc_y p1), .v (.int .i64 x4.2)]), (1, .box [.v (.slice none 0 0)]), (2, .box [.v (.slice none 0 0)]), (3, .arr 2 (List.map enc_si x3.1)), (4, .box [.sl 3 0 x3.1.length]), (5, .arr 2 (List.map enc_si x4.1)), (6, .box [.sl 5 0 x4.1.length])]⟩) (C := ((([.pt 0 0] : List AV) = [.pt 0 0]) ∧ (AO.box [.bs true 1 (List.map enc_y p1), .v (.int .i64 x3.2)] = AO.box [.bs true 1 (List.map enc_y p1), .v (.int .i64 x3.2)]) ∧ True) ∧ True) (by kernel_rfl) ⟨⟨rfl, rfl, trivial⟩, trivial⟩ ⟨call_ok (ks := [0]) (ns := [5]) (bor := []) (bobjs := []) (s_spec_goodEnum p1 x3.2 x4 e2) (.cons (.c1 (.c0 (.same _ (by kernel_rfl) (by kernel_rfl)))) (.nil)) (by kernel_rfl) ⟨.inr rfl, trivial⟩, trivial⟩ ?_
  refine AX.seq ?_
  refine AX.seq ?_
  obtain ⟨x5, e3, h⟩ := bd_e h
  rcases bool_cases (x5) with b4 | b4
  · replace h := cd_t b4 h
    obtain ⟨x6, e5, h⟩ := bd_e h
    refine AX.reg (its := [.auto {}, .call 36 [.agg [.sl 3 0 x3.1.length]] (handO (rho ([] ++ [])) [] [] ++ [(3, .arr 2 (List.map enc_si x3.1))]) (callEv [] [] (.v (.bool true)) []), .auto {}, .auto {}, .call 60 [.pt 0 0, .v (.int .i64 3)] (handO (rho ([0] ++ [])) [0] [.box [.bs true 1 (List.map enc_y p1), .v (.int .i64 x4.2)]] ++ []) (callEv [0] [] (.v (.int .i64 x6)) [.box [.bs true 1 (List.map enc_y p1), .v (.int .i64 (IntKind.wrap .i64 (x4.2 + 1)))]])]) [0, 2, 3, 4, 5, 19] [0, 1, 2, 3, 4, 5, 6] (s1 := ⟨[(0, .pt 0 0), (2, .pt 1 0), (3, .pt 2 0), (4, .pt 4 0), (5, .pt 6 0), (19, .v (.bool (decide (0 < x6))))], [(0, .box [.bs true 1 (List.map enc_y p1), .v (.int .i64 (IntKind.wrap .i64 (x4.2 + 1)))]), (1, .box [.v (.slice none 0 0)]), (2, .box [.v (.slice none 0 0)]), (3, .arr 2 (List.map enc_si x3.1)), (4, .box [.sl 3 0 x3.1.length]), (5, .arr 2 (List.map enc_si x4.1)), (6, .box [.sl 5 0 x4.1.length])]⟩) (C := ((([.agg [.sl 3 0 x3.1.length]] : List AV) = [.agg [.sl 3 0 x3.1.length]]) ∧ (AO.arr 2 (List.map enc_si x3.1) = AO.arr 2 (List.map enc_si x3.1)) ∧ True) ∧ ((([.pt 0 0, .v (.int .i64 3)] : List AV) = [.pt 0 0, .v (.int .i64 3)]) ∧ (AO.box [.bs true 1 (List.map enc_y p1), .v (.int .i64 x4.2)] = AO.box [.bs true 1 (List.map enc_y p1), .v (.int .i64 x4.2)]) ∧ True) ∧ True) (by kernel_rfl) ⟨⟨rfl, rfl, trivial⟩, ⟨⟨rfl, rfl, trivial⟩, trivial⟩⟩ ⟨call_ok (ks := []) (ns := []) (bor := [3]) (bobjs := [(3, .arr 2 (List.map enc_si x3.1))]) (show Eng.Spec Try.prog 36 [.agg [.bs false 2 (List.map enc_si x3.1)]] [] (.v (.bool true)) [] from by have q := s_spec_validEnum x3.1 x5 e3; rw [b4] at q; exact q) (.cons (.c1 (.agg (.cons (.arr rfl rfl ((rfl).trans (List.length_map ..).symm)) (.nil)))) (.nil)) (by kernel_rfl) trivial, ⟨call_ok (ks := [0]) (ns := []) (bor := []) (bobjs := []) (s_spec_reader_pick 3 p1 x4.2 x6 e5) (.cons (.c1 (.c0 (.same _ (by kernel_rfl) (by kernel_rfl)))) (.cons (.c1 (.c0 (.same _ (by kernel_rfl) (by kernel_rfl)))) (.nil))) (by kernel_rfl) ⟨.inr rfl, trivial⟩, trivial⟩⟩ ?_
    rcases bool_cases (decide (0 < x6)) with b6 | b6
    · replace h := cd_t b6 h
      refine AX.condT (decide (0 < x6)) (by kernel_rfl) b6 ?_
      refine AX.seq ?_
      obtain ⟨x7, e7, h⟩ := bd_e h
      refine AX.reg (its := [.auto {}, .auto {}, .call 37 [.sl 3 0 x3.1.length] (handO (rho ([] ++ [7])) [] [] ++ [(3, .arr 2 (List.map enc_si x3.1))]) (callEv [] [7] (.sl 0 0 ((([] : List (ByteArray × Int)) ++ x3.1).length)) [.arr 2 (List.map enc_si (([] : List (ByteArray × Int)) ++ x3.1))])]) [0, 2, 3, 4, 5] [0, 1, 2, 3, 4, 6, 7] (s1 := ⟨[(0, .pt 0 0), (2, .pt 1 0), (3, .pt 2 0), (4, .pt 4 0), (5, .pt 6 0)], [(0, .box [.bs true 1 (List.map enc_y p1), .v (.int .i64 (IntKind.wrap .i64 (x4.2 + 1)))]), (1, .box [.v (.slice none 0 0)]), (2, .box [.v (.slice none 0 0)]), (3, .arr 2 (List.map enc_si x3.1)), (4, .box [.sl 3 0 x3.1.length]), (6, .box [.sl 7 0 ((([] : List (ByteArray × Int)) ++ x3.1).length)]), (7, .arr 2 (List.map enc_si (([] : List (ByteArray × Int)) ++ x3.1)))]⟩) (C := ((([.sl 3 0 x3.1.length] : List AV) = [.sl 3 0 x3.1.length]) ∧ (AO.arr 2 (List.map enc_si x3.1) = AO.arr 2 (List.map enc_si x3.1)) ∧ True) ∧ True) (by kernel_rfl) ⟨⟨rfl, rfl, trivial⟩, trivial⟩ ⟨call_ok (ks := []) (ns := [7]) (bor := [3]) (bobjs := [(3, .arr 2 (List.map enc_si x3.1))]) (s_spec_copyDefs x3.1 x7 e7) (.cons (.c1 (.c0 (.arr rfl rfl ((rfl).trans (List.length_map ..).symm)))) (.nil)) (by kernel_rfl) trivial, trivial⟩ ?_
      refine AX.seq ?_
      obtain ⟨x8, e8, h⟩ := bd_e h
      refine AX.reg (its := [.auto {}, .call 60 [.pt 0 0, .v (.int .i64 4)] (handO (rho ([0] ++ [])) [0] [.box [.bs true 1 (List.map enc_y p1), .v (.int .i64 (IntKind.wrap .i64 (x4.2 + 1)))]] ++ []) (callEv [0] [] (.v (.int .i64 x8)) [.box [.bs true 1 (List.map enc_y p1), .v (.int .i64 (IntKind.wrap .i64 ((IntKind.wrap .i64 (x4.2 + 1)) + 1)))]])]) [0, 2, 3, 4, 5, 6] [0, 1, 2, 3, 4, 6, 7] (s1 := ⟨[(0, .pt 0 0), (2, .pt 1 0), (3, .pt 2 0), (4, .pt 4 0), (5, .pt 6 0), (6, .v (.int .i64 x8))], [(0, .box [.bs true 1 (List.map enc_y p1), .v (.int .i64 (IntKind.wrap .i64 ((IntKind.wrap .i64 (x4.2 + 1)) + 1)))]), (1, .box [.v (.slice none 0 0)]), (2, .box [.v (.slice none 0 0)]), (3, .arr 2 (List.map enc_si x3.1)), (4, .box [.sl 3 0 x3.1.length]), (6, .box [.sl 7 0 ((([] : List (ByteArray × Int)) ++ x3.1).length)]), (7, .arr 2 (List.map enc_si (([] : List (ByteArray × Int)) ++ x3.1)))]⟩) (C := ((([.pt 0 0, .v (.int .i64 4)] : List AV) = [.pt 0 0, .v (.int .i64 4)]) ∧ (AO.box [.bs true 1 (List.map enc_y p1), .v (.int .i64 (IntKind.wrap .i64 (x4.2 + 1)))] = AO.box [.bs true 1 (List.map enc_y p1), .v (.int .i64 (IntKind.wrap .i64 (x4.2 + 1)))]) ∧ True) ∧ True) (by kernel_rfl) ⟨⟨rfl, rfl, trivial⟩, trivial⟩ ⟨call_ok (ks := [0]) (ns := []) (bor := []) (bobjs := []) (s_spec_reader_pick 4 p1 (IntKind.wrap .i64 (x4.2 + 1)) x8 e8) (.cons (.c1 (.c0 (.same _ (by kernel_rfl) (by kernel_rfl)))) (.cons (.c1 (.c0 (.same _ (by kernel_rfl) (by kernel_rfl)))) (.nil))) (by kernel_rfl) ⟨.inr rfl, trivial⟩, trivial⟩ ?_
      refine AX.block ?_
      obtain ⟨x20, e28, h⟩ := bd_e h
      refine AX.wk (Wk.swap 3 4 (Nat.le_of_ble_eq_true (by kernel_rfl)) (Nat.le_of_ble_eq_true (by kernel_rfl)) rfl) ?_
      refine AX.wk (Wk.swap 5 6 (Nat.le_of_ble_eq_true (by kernel_rfl)) (Nat.le_of_ble_eq_true (by kernel_rfl)) rfl) ?_
      refine AX.wk (Wk.swap 6 7 (Nat.le_of_ble_eq_true (by kernel_rfl)) (Nat.le_of_ble_eq_true (by kernel_rfl)) rfl) ?_
      refine AX.wk (Wk.forget [0, 2, 3, 4, 5, 6] [0, 1, 2, 3, 4, 5, 6] (s' := ⟨[(0, .pt 0 0), (2, .pt 1 0), (3, .pt 2 0), (4, .pt 3 0), (5, .pt 5 0), (6, .v (.int .i64 x8))], [(0, .box [.bs true 1 (List.map enc_y p1), .v (.int .i64 (IntKind.wrap .i64 ((IntKind.wrap .i64 (x4.2 + 1)) + 1)))]), (1, .box [.v (.slice none 0 0)]), (2, .box [.v (.slice none 0 0)]), (3, .box [.sl 4 0 x3.1.length]), (4, .arr 2 (List.map enc_si x3.1)), (5, .box [.sl 6 0 ((([] : List (ByteArray × Int)) ++ x3.1).length)]), (6, .arr 2 (List.map enc_si (([] : List (ByteArray × Int)) ++ x3.1)))]⟩) (by kernel_rfl)) ?_
      refine AX.mono (s_spec_twoEnums_L1 p1 x3 FU (([] : List (ByteArray × Int)) ++ x3.1, x8, IntKind.wrap .i64 ((IntKind.wrap .i64 (x4.2 + 1)) + 1)) x20 e28) ?_
      rintro _ _ ⟨rfl, rfl⟩
      skip
      refine AX.seq ?_
      refine AX.drw mixed (its := []) [2, 3] [0, 1, 2, 4, 6] (s1 := ⟨[(2, .pt 1 0), (3, .pt 2 0)], [(0, .box [.bs true 1 (List.map enc_y p1), .v (.int .i64 x20.2)]), (1, .box [.sl 4 0 x3.1.length]), (2, .box [.sl 6 0 x20.1.length]), (4, .arr 2 (List.map enc_si x3.1)), (6, .arr 2 (List.map enc_si x20.1))]⟩) (C := True) (by kernel_rfl) trivial trivial ?_
      refine AX.ret ?_
      refine fin_wk (Wk.swap 2 4 (Nat.le_of_ble_eq_true (by kernel_rfl)) (Nat.le_of_ble_eq_true (by kernel_rfl)) rfl) ?_
      refine fin_wk (Wk.swap 3 4 (Nat.le_of_ble_eq_true (by kernel_rfl)) (Nat.le_of_ble_eq_true (by kernel_rfl)) rfl) ?_
      refine fin_wk (Wk.swap 4 6 (Nat.le_of_ble_eq_true (by kernel_rfl)) (Nat.le_of_ble_eq_true (by kernel_rfl)) rfl) ?_
      refine fin_wk (Wk.forget [2, 3] [0, 1, 2, 3, 4] (s' := ⟨[(2, .pt 1 0), (3, .pt 3 0)], [(0, .box [.bs true 1 (List.map enc_y p1), .v (.int .i64 x20.2)]), (1, .box [.sl 2 0 x3.1.length]), (2, .arr 2 (List.map enc_si x3.1)), (3, .box [.sl 4 0 x20.1.length]), (4, .arr 2 (List.map enc_si x20.1))]⟩) (by kernel_rfl)) ?_
      have hr := Option.some.inj h
      subst hr
      exact ⟨_, Wk.refl _, .inr rfl, ⟨[2, 4], by kernel_rfl, ⟨rfl, rfl, rfl, trivial⟩, [.agg [.sl 2 0 x3.1.length], .agg [.sl 4 0 x20.1.length]], by kernel_rfl, by kernel_rfl⟩⟩
    · replace h := cd_f b6 h
      refine AX.condF (decide (0 < x6)) (by kernel_rfl) b6 ?_
      refine AX.skip ?_
      refine AX.seq ?_
      refine AX.drw mixed (its := []) [2, 3] [0, 1, 2, 3, 5] (s1 := ⟨[(2, .pt 1 0), (3, .pt 2 0)], [(0, .box [.bs true 1 (List.map enc_y p1), .v (.int .i64 (IntKind.wrap .i64 (x4.2 + 1)))]), (1, .box [.sl 3 0 x3.1.length]), (2, .box [.sl 5 0 x4.1.length]), (3, .arr 2 (List.map enc_si x3.1)), (5, .arr 2 (List.map enc_si x4.1))]⟩) (C := True) (by kernel_rfl) trivial trivial ?_
      refine AX.ret ?_
      refine fin_wk (Wk.swap 2 3 (Nat.le_of_ble_eq_true (by kernel_rfl)) (Nat.le_of_ble_eq_true (by kernel_rfl)) rfl) ?_
      refine fin_wk (Wk.swap 4 5 (Nat.le_of_ble_eq_true (by kernel_rfl)) (Nat.le_of_ble_eq_true (by kernel_rfl)) rfl) ?_
      refine fin_wk (Wk.forget [2, 3] [0, 1, 2, 3, 4] (s' := ⟨[(2, .pt 1 0), (3, .pt 3 0)], [(0, .box [.bs true 1 (List.map enc_y p1), .v (.int .i64 (IntKind.wrap .i64 (x4.2 + 1)))]), (1, .box [.sl 2 0 x3.1.length]), (2, .arr 2 (List.map enc_si x3.1)), (3, .box [.sl 4 0 x4.1.length]), (4, .arr 2 (List.map enc_si x4.1))]⟩) (by kernel_rfl)) ?_
      have hr := Option.some.inj h
      subst hr
      exact ⟨_, Wk.refl _, .inr rfl, ⟨[2, 4], by kernel_rfl, ⟨rfl, rfl, rfl, trivial⟩, [.agg [.sl 2 0 x3.1.length], .agg [.sl 4 0 x4.1.length]], by kernel_rfl, by kernel_rfl⟩⟩
  · replace h := cd_f b4 h
    refine AX.reg (its := [.auto {}, .call 36 [.agg [.sl 3 0 x3.1.length]] (handO (rho ([] ++ [])) [] [] ++ [(3, .arr 2 (List.map enc_si x3.1))]) (callEv [] [] (.v (.bool false)) [])]) [0, 2, 3, 4, 5, 19] [0, 1, 2, 3, 4, 5, 6] (s1 := ⟨[(0, .pt 0 0), (2, .pt 1 0), (3, .pt 2 0), (4, .pt 4 0), (5, .pt 6 0), (19, .v (.bool false))], [(0, .box [.bs true 1 (List.map enc_y p1), .v (.int .i64 x4.2)]), (1, .box [.v (.slice none 0 0)]), (2, .box [.v (.slice none 0 0)]), (3, .arr 2 (List.map enc_si x3.1)), (4, .box [.sl 3 0 x3.1.length]), (5, .arr 2 (List.map enc_si x4.1)), (6, .box [.sl 5 0 x4.1.length])]⟩) (C := ((([.agg [.sl 3 0 x3.1.length]] : List AV) = [.agg [.sl 3 0 x3.1.length]]) ∧ (AO.arr 2 (List.map enc_si x3.1) = AO.arr 2 (List.map enc_si x3.1)) ∧ True) ∧ True) (by kernel_rfl) ⟨⟨rfl, rfl, trivial⟩, trivial⟩ ⟨call_ok (ks := []) (ns := []) (bor := [3]) (bobjs := [(3, .arr 2 (List.map enc_si x3.1))]) (show Eng.Spec Try.prog 36 [.agg [.bs false 2 (List.map enc_si x3.1)]] [] (.v (.bool false)) [] from by have q := s_spec_validEnum x3.1 x5 e3; rw [b4] at q; exact q) (.cons (.c1 (.agg (.cons (.arr rfl rfl ((rfl).trans (List.length_map ..).symm)) (.nil)))) (.nil)) (by kernel_rfl) trivial, trivial⟩ ?_
    refine AX.cond_false (by kernel_rfl) ?_
    refine AX.skip ?_
    refine AX.seq ?_
    refine AX.drw mixed (its := []) [2, 3] [0, 1, 2, 3, 5] (s1 := ⟨[(2, .pt 1 0), (3, .pt 2 0)], [(0, .box [.bs true 1 (List.map enc_y p1), .v (.int .i64 x4.2)]), (1, .box [.sl 3 0 x3.1.length]), (2, .box [.sl 5 0 x4.1.length]), (3, .arr 2 (List.map enc_si x3.1)), (5, .arr 2 (List.map enc_si x4.1))]⟩) (C := True) (by kernel_rfl) trivial trivial ?_
    refine AX.ret ?_
    refine fin_wk (Wk.swap 2 3 (Nat.le_of_ble_eq_true (by kernel_rfl)) (Nat.le_of_ble_eq_true (by kernel_rfl)) rfl) ?_
    refine fin_wk (Wk.swap 4 5 (Nat.le_of_ble_eq_true (by kernel_rfl)) (Nat.le_of_ble_eq_true (by kernel_rfl)) rfl) ?_
    refine fin_wk (Wk.forget [2, 3] [0, 1, 2, 3, 4] (s' := ⟨[(2, .pt 1 0), (3, .pt 3 0)], [(0, .box [.bs true 1 (List.map enc_y p1), .v (.int .i64 x4.2)]), (1, .box [.sl 2 0 x3.1.length]), (2, .arr 2 (List.map enc_si x3.1)), (3, .box [.sl 4 0 x4.1.length]), (4, .arr 2 (List.map enc_si x4.1))]⟩) (by kernel_rfl)) ?_
    have hr := Option.some.inj h
    subst hr
    exact ⟨_, Wk.refl _, .inr rfl, ⟨[2, 4], by kernel_rfl, ⟨rfl, rfl, rfl, trivial⟩, [.agg [.sl 2 0 x3.1.length], .agg [.sl 4 0 x4.1.length]], by kernel_rfl, by kernel_rfl⟩⟩

theorem s_spec_SortEnum_L2 (p1 : List (ByteArray × Int)) (v3 : List (ByteArray × Int)) (v4 : Int) (n : Nat) (g : Int) (out : Int) (h : m_spec_SortEnum_L2 p1 v3 v4 n g = some out) :
    AX Try.prog 55 0 (codeAt [1, 1, 1, 0, 1, 1, 1, 1, 0, 1, 1, 0, 1] (bodyOf Try.f26)) ((fun g : Int => (⟨[(1, .pt 0 0), (2, .pt 1 0), (3, .sl 2 0 v3.length), (4, .v (.int .i64 v4)), (5, .v (.int .i64 g))], [(0, .box [.bs false 2 (List.map enc_si p1)]), (1, .box [.v (.slice none 0 0)]), (2, .arr 2 (List.map enc_si v3))]⟩ : S)) g) (fun ex s => ex = .exit 2 ∧ s = (fun o : Int => (⟨[(1, .pt 0 0), (2, .pt 1 0), (3, .sl 2 0 v3.length), (4, .v (.int .i64 v4)), (5, .v (.int .i64 o))], [(0, .box [.bs false 2 (List.map enc_si p1)]), (1, .box [.v (.slice none 0 0)]), (2, .arr 2 (List.map enc_si v3))]⟩ : S)) out) := by
  refine AX.wkpost ?_
  refine AX.loop (G := Nat × (Int)) (fun q => (fun g : Int => (⟨[(1, .pt 0 0), (2, .pt 1 0), (3, .sl 2 0 v3.length), (4, .v (.int .i64 v4)), (5, .v (.int .i64 g))], [(0, .box [.bs false 2 (List.map enc_si p1)]), (1, .box [.v (.slice none 0 0)]), (2, .arr 2 (List.map enc_si v3))]⟩ : S)) q.2) (fun q => m_spec_SortEnum_L2 p1 v3 v4 q.1 q.2 = some out) (fun q => q.1) (n, g) h (Wk.refl _) ?_
  clear h
  rintro ⟨fu, v5⟩ h
  cases fu with
  | zero => cases h
  | succ fu =>
    rw [m_spec_SortEnum_L2] at h
    refine AX.seq ?_
    refine AX.seq ?_
    rcases bool_cases (decide (v5 < (v3.length : Int))) with b4 | b4
    · replace h := cd_t b4 h
      obtain ⟨g5, h⟩ := gd_e h
      obtain ⟨g6, h⟩ := gd_e h
      refine AX.drw mixed (its := [.auto {}, .auto {}, .auto {}, .auto { y := some (.v (.bool true)) }, .auto {}, .auto {}, .auto {}, .auto {}, .auto {}, .auto { y := some (.v (.int .i64 ((gt v3 v5).2))) }, .auto {}, .auto {}, .auto {}, .auto { y := some (.be 2 (enc_si (gt p1 v4)) 0) }]) [1, 2, 3, 4, 5, 35] [0, 1, 2] (s1 := ⟨[(1, .pt 0 0), (2, .pt 1 0), (3, .sl 2 0 v3.length), (4, .v (.int .i64 v4)), (5, .v (.int .i64 v5)), (35, .v (.bool (decide (((gt v3 v5).2) ≤ ((gt p1 v4).2)))))], [(0, .box [.bs false 2 (List.map enc_si p1)]), (1, .box [.v (.slice none 0 0)]), (2, .arr 2 (List.map enc_si v3))]⟩) (C := ((True) ∧ ((.v (.bool (decide (v5 < (v3.length : Int)))) : AV) = (.v (.bool true) : AV))) ∧ (0 ≤ v5 ∧ v5 < (v3.length : Int)) ∧ (True ∧ (AV.v (((List.map enc_si v3).getD (0 + v5.toNat) []).getD 1 undef) = .v (.int .i64 ((gt v3 v5).2)))) ∧ ((0 ≤ v4 ∧ v4 < ((List.map enc_si p1).length : Int)) ∧ (AV.be 2 ((List.map enc_si p1).getD v4.toNat []) 0 = AV.be 2 (enc_si (gt p1 v4)) 0)) ∧ True) (by kernel_rfl) ⟨⟨trivial, (congrArg (fun z => AV.v (.bool z)) b4)⟩, ⟨g5, ⟨⟨trivial, (congrArg (fun z : List Value => AV.v (z.getD 1 undef)) (idx_arr (enc := enc_si) rfl g5))⟩, ⟨idx_bs enc_si p1 v4 2 g6, trivial⟩⟩⟩⟩ trivial ?_
      rcases bool_cases (decide (((gt v3 v5).2) ≤ ((gt p1 v4).2))) with b7 | b7
      · replace h := cd_t b7 h
        refine AX.condT (decide (((gt v3 v5).2) ≤ ((gt p1 v4).2))) (by kernel_rfl) b7 ?_
        refine AX.skip ?_
        refine AX.block ?_
        refine AX.reg (its := [.auto {}, .auto { raw := true }]) [1, 2, 3, 4, 5] [0, 1, 2] (s1 := ⟨[(1, .pt 0 0), (2, .pt 1 0), (3, .sl 2 0 v3.length), (4, .v (.int .i64 v4)), (5, .v (.int .i64 (IntKind.wrap .i64 (v5 + 1))))], [(0, .box [.bs false 2 (List.map enc_si p1)]), (1, .box [.v (.slice none 0 0)]), (2, .arr 2 (List.map enc_si v3))]⟩) (C := True) (by kernel_rfl) trivial trivial ?_
        refine ⟨(fu, IntKind.wrap .i64 (v5 + 1)), h, Nat.lt_succ_self _, ?_⟩
        refine Wk.trans (Wk.forget [1, 2, 3, 4, 5] [0, 1, 2] (s' := ⟨[(1, .pt 0 0), (2, .pt 1 0), (3, .sl 2 0 v3.length), (4, .v (.int .i64 v4)), (5, .v (.int .i64 (IntKind.wrap .i64 (v5 + 1))))], [(0, .box [.bs false 2 (List.map enc_si p1)]), (1, .box [.v (.slice none 0 0)]), (2, .arr 2 (List.map enc_si v3))]⟩) (by kernel_rfl)) ?_
        exact Wk.refl _
      · replace h := cd_f b7 h
        refine AX.condF (decide (((gt v3 v5).2) ≤ ((gt p1 v4).2))) (by kernel_rfl) b7 ?_
        refine AX.exit ?_
        refine fin_wk (Wk.forget [1, 2, 3, 4, 5] [0, 1, 2] (s' := ⟨[(1, .pt 0 0), (2, .pt 1 0), (3, .sl 2 0 v3.length), (4, .v (.int .i64 v4)), (5, .v (.int .i64 v5))], [(0, .box [.bs false 2 (List.map enc_si p1)]), (1, .box [.v (.slice none 0 0)]), (2, .arr 2 (List.map enc_si v3))]⟩) (by kernel_rfl)) ?_
        have hr := Option.some.inj h
        subst hr
        exact ⟨_, Wk.refl _, ⟨rfl, rfl⟩⟩
    · replace h := cd_f b4 h
      refine AX.drw mixed (its := [.auto {}, .auto {}, .auto {}, .auto { y := some (.v (.bool false)) }]) [1, 2, 3, 4, 5, 35] [0, 1, 2] (s1 := ⟨[(1, .pt 0 0), (2, .pt 1 0), (3, .sl 2 0 v3.length), (4, .v (.int .i64 v4)), (5, .v (.int .i64 v5)), (35, .v (.bool false))], [(0, .box [.bs false 2 (List.map enc_si p1)]), (1, .box [.v (.slice none 0 0)]), (2, .arr 2 (List.map enc_si v3))]⟩) (C := ((True) ∧ ((.v (.bool (decide (v5 < (v3.length : Int)))) : AV) = (.v (.bool false) : AV))) ∧ True) (by kernel_rfl) ⟨⟨trivial, (congrArg (fun z => AV.v (.bool z)) b4)⟩, trivial⟩ trivial ?_
      refine AX.cond_false (by kernel_rfl) ?_
      refine AX.exit ?_
      refine fin_wk (Wk.forget [1, 2, 3, 4, 5] [0, 1, 2] (s' := ⟨[(1, .pt 0 0), (2, .pt 1 0), (3, .sl 2 0 v3.length), (4, .v (.int .i64 v4)), (5, .v (.int .i64 v5))], [(0, .box [.bs false 2 (List.map enc_si p1)]), (1, .box [.v (.slice none 0 0)]), (2, .arr 2 (List.map enc_si v3))]⟩) (by kernel_rfl)) ?_
      have hr := Option.some.inj h
      subst hr
      exact ⟨_, Wk.refl _, ⟨rfl, rfl⟩⟩

theorem s_spec_SortEnum_L1 (p1 : List (ByteArray × Int)) (n : Nat) (g : (List (ByteArray × Int)) × Int) (out : List (ByteArray × Int)) (h : m_spec_SortEnum_L1 p1 n g.1 g.2 = some out) :
    AX Try.prog 55 0 (codeAt [1, 1, 1, 0, 1, 1] (bodyOf Try.f26)) ((fun g : (List (ByteArray × Int)) × Int => (⟨[(1, .pt 0 0), (2, .pt 1 0), (3, .sl 2 0 g.1.length), (4, .v (.int .i64 g.2))], [(0, .box [.bs false 2 (List.map enc_si p1)]), (1, .box [.v (.slice none 0 0)]), (2, .arr 2 (List.map enc_si g.1))]⟩ : S)) g) (fun ex s => ex = .exit 0 ∧ s = (fun o : List (ByteArray × Int) => (⟨[(2, .pt 0 0), (3, .sl 1 0 o.length)], [(0, .box [.v (.slice none 0 0)]), (1, .arr 2 (List.map enc_si o))]⟩ : S)) out) := by
  refine AX.wkpost ?_
  refine AX.loop (G := Nat × ((List (ByteArray × Int)) × Int)) (fun q => (fun g : (List (ByteArray × Int)) × Int => (⟨[(1, .pt 0 0), (2, .pt 1 0), (3, .sl 2 0 g.1.length), (4, .v (.int .i64 g.2))], [(0, .box [.bs false 2 (List.map enc_si p1)]), (1, .box [.v (.slice none 0 0)]), (2, .arr 2 (List.map enc_si g.1))]⟩ : S)) q.2) (fun q => m_spec_SortEnum_L1 p1 q.1 q.2.1 q.2.2 = some out) (fun q => q.1) (n, g) h (Wk.refl _) ?_
  clear h
  rintro ⟨fu, v3, v4⟩ h
  cases fu with
  | zero => cases h
  | succ fu =>
    rw [m_spec_SortEnum_L1] at h
    refine AX.seq ?_
    refine AX.seq ?_
    refine AX.reg (its := [.auto {}, .auto {}, .auto {}, .auto { y := some (.v (.int .i64 (p1.length : Int))) }]) [1, 2, 3, 4, 15] [0, 1, 2] (s1 := ⟨[(1, .pt 0 0), (2, .pt 1 0), (3, .sl 2 0 v3.length), (4, .v (.int .i64 v4)), (15, .v (.bool (decide (v4 < (p1.length : Int)))))], [(0, .box [.bs false 2 (List.map enc_si p1)]), (1, .box [.v (.slice none 0 0)]), (2, .arr 2 (List.map enc_si v3))]⟩) (C := (True ∧ (AV.v (.int .i64 ((List.map enc_si p1).length : Int)) = AV.v (.int .i64 (p1.length : Int)))) ∧ True) (by kernel_rfl) ⟨⟨trivial, len_map enc_si p1⟩, trivial⟩ trivial ?_
    rcases bool_cases (decide (v4 < (p1.length : Int))) with b3 | b3
    · replace h := cd_t b3 h
      refine AX.condT (decide (v4 < (p1.length : Int))) (by kernel_rfl) b3 ?_
      refine AX.skip ?_
      refine AX.seq ?_
      refine AX.block ?_
      refine AX.seq ?_
      refine AX.reg (its := []) [1, 2, 3, 4, 5] [0, 1, 2] (s1 := ⟨[(1, .pt 0 0), (2, .pt 1 0), (3, .sl 2 0 v3.length), (4, .v (.int .i64 v4)), (5, .v (.int .i64 0))], [(0, .box [.bs false 2 (List.map enc_si p1)]), (1, .box [.v (.slice none 0 0)]), (2, .arr 2 (List.map enc_si v3))]⟩) (C := True) (by kernel_rfl) trivial trivial ?_
      refine AX.seq ?_
      refine AX.block ?_
      obtain ⟨x6, e8, h⟩ := bd_e h
      refine AX.wk (Wk.forget [1, 2, 3, 4, 5] [0, 1, 2] (s' := ⟨[(1, .pt 0 0), (2, .pt 1 0), (3, .sl 2 0 v3.length), (4, .v (.int .i64 v4)), (5, .v (.int .i64 0))], [(0, .box [.bs false 2 (List.map enc_si p1)]), (1, .box [.v (.slice none 0 0)]), (2, .arr 2 (List.map enc_si v3))]⟩) (by kernel_rfl)) ?_
      refine AX.mono (s_spec_SortEnum_L2 p1 v3 v4 FU 0 x6 e8) ?_
      rintro _ _ ⟨rfl, rfl⟩
      skip
      obtain ⟨g9, h⟩ := gd_e h
      obtain ⟨x7, e10, h⟩ := bd_e h
      obtain ⟨g11, h⟩ := gd_e h
      obtain ⟨g12, h⟩ := gd_e h
      obtain ⟨g13, h⟩ := gd_e h
      obtain ⟨g14, h⟩ := gd_e h
      refine AX.drw mixed (its := [.auto {}, .auto {}, .auto {}, .call 37 [.sl 2 (0 + (0 : Int).toNat) (x6.toNat - (0 : Int).toNat)] (handO (rho ([] ++ [3])) [] [] ++ [(2, .arr 2 (List.map enc_si v3))]) (callEv [] [3] (.sl 0 0 ((([] : List (ByteArray × Int)) ++ (sub v3 (0 : Int) x6)).length)) [.arr 2 (List.map enc_si (([] : List (ByteArray × Int)) ++ (sub v3 (0 : Int) x6)))]), .auto {}, .auto {}, .auto {}, .auto { y := some (.be 2 (enc_si (gt p1 v4)) 0) }, .auto {}, .auto { nk := 4 }, .auto { y := some (.sl 5 0 (((([] : List (ByteArray × Int)) ++ (sub v3 (0 : Int) x6)) ++ ([((gt p1 v4).1, (gt p1 v4).2)] : List (ByteArray × Int))).length)), els := some (List.map enc_si (([] : List (ByteArray × Int)) ++ (sub v3 (0 : Int) x6))), els2 := some (List.map enc_si ([((gt p1 v4).1, (gt p1 v4).2)] : List (ByteArray × Int))), nk := 5 }, .auto {}, .auto {}, .auto {}, .auto { y := some (.sl 6 0 ((((([] : List (ByteArray × Int)) ++ (sub v3 (0 : Int) x6)) ++ ([((gt p1 v4).1, (gt p1 v4).2)] : List (ByteArray × Int))) ++ (sub v3 x6 (v3.length : Int))).length)), els := some (List.map enc_si ((([] : List (ByteArray × Int)) ++ (sub v3 (0 : Int) x6)) ++ ([((gt p1 v4).1, (gt p1 v4).2)] : List (ByteArray × Int)))), els2 := some (List.map enc_si (sub v3 x6 (v3.length : Int))), nk := 6 }]) [1, 2, 3, 4] [0, 1, 6] (s1 := ⟨[(1, .pt 0 0), (2, .pt 1 0), (3, .sl 6 0 ((((([] : List (ByteArray × Int)) ++ (sub v3 (0 : Int) x6)) ++ ([((gt p1 v4).1, (gt p1 v4).2)] : List (ByteArray × Int))) ++ (sub v3 x6 (v3.length : Int))).length)), (4, .v (.int .i64 v4))], [(0, .box [.bs false 2 (List.map enc_si p1)]), (1, .box [.v (.slice none 0 0)]), (6, .arr 2 (List.map enc_si ((([] : List (ByteArray × Int)) ++ (sub v3 (0 : Int) x6)) ++ ([((gt p1 v4).1, (gt p1 v4).2)] : List (ByteArray × Int))) ++ List.map enc_si (sub v3 x6 (v3.length : Int))))]⟩) (C := (0 ≤ (0 : Int) ∧ (0 : Int) ≤ x6 ∧ x6 ≤ (v3.length : Int) ∧ (v3.length : Int) ≤ (v3.length : Int)) ∧ ((([.sl 2 (0 + (0 : Int).toNat) (x6.toNat - (0 : Int).toNat)] : List AV) = [.sl 2 (0 + (0 : Int).toNat) (x6.toNat - (0 : Int).toNat)]) ∧ (AO.arr 2 (List.map enc_si v3) = AO.arr 2 (List.map enc_si v3)) ∧ True) ∧ ((0 ≤ v4 ∧ v4 < ((List.map enc_si p1).length : Int)) ∧ (AV.be 2 ((List.map enc_si p1).getD v4.toNat []) 0 = AV.be 2 (enc_si (gt p1 v4)) 0)) ∧ ((((((List.map enc_si (([] : List (ByteArray × Int)) ++ (sub v3 (0 : Int) x6))).drop 0).take ((([] : List (ByteArray × Int)) ++ (sub v3 (0 : Int) x6)).length) = List.map enc_si (([] : List (ByteArray × Int)) ++ (sub v3 (0 : Int) x6))) ∧ (((List.map enc_si ([((gt p1 v4).1, (gt p1 v4).2)] : List (ByteArray × Int))).drop 0).take (([((gt p1 v4).1, (gt p1 v4).2)] : List (ByteArray × Int)).length) = List.map enc_si ([((gt p1 v4).1, (gt p1 v4).2)] : List (ByteArray × Int)))) ∧ (List.map enc_si (([] : List (ByteArray × Int)) ++ (sub v3 (0 : Int) x6))).length + (List.map enc_si ([((gt p1 v4).1, (gt p1 v4).2)] : List (ByteArray × Int))).length ≤ 1099511627776) ∧ (AV.sl 5 0 (List.map enc_si (([] : List (ByteArray × Int)) ++ (sub v3 (0 : Int) x6)) ++ List.map enc_si ([((gt p1 v4).1, (gt p1 v4).2)] : List (ByteArray × Int))).length = AV.sl 5 0 ((([] : List (ByteArray × Int)) ++ (sub v3 (0 : Int) x6)) ++ ([((gt p1 v4).1, (gt p1 v4).2)] : List (ByteArray × Int))).length)) ∧ (0 ≤ x6 ∧ x6 ≤ (v3.length : Int) ∧ (v3.length : Int) ≤ (v3.length : Int) ∧ (v3.length : Int) ≤ (v3.length : Int)) ∧ ((((((List.map enc_si (([] : List (ByteArray × Int)) ++ (sub v3 (0 : Int) x6)) ++ List.map enc_si ([((gt p1 v4).1, (gt p1 v4).2)] : List (ByteArray × Int))).drop 0).take (((([] : List (ByteArray × Int)) ++ (sub v3 (0 : Int) x6)) ++ ([((gt p1 v4).1, (gt p1 v4).2)] : List (ByteArray × Int))).length) = List.map enc_si ((([] : List (ByteArray × Int)) ++ (sub v3 (0 : Int) x6)) ++ ([((gt p1 v4).1, (gt p1 v4).2)] : List (ByteArray × Int)))) ∧ (((List.map enc_si v3).drop (0 + x6.toNat)).take ((v3.length : Int).toNat - x6.toNat) = List.map enc_si (sub v3 x6 (v3.length : Int)))) ∧ (List.map enc_si ((([] : List (ByteArray × Int)) ++ (sub v3 (0 : Int) x6)) ++ ([((gt p1 v4).1, (gt p1 v4).2)] : List (ByteArray × Int)))).length + (List.map enc_si (sub v3 x6 (v3.length : Int))).length ≤ 1099511627776) ∧ (AV.sl 6 0 (List.map enc_si ((([] : List (ByteArray × Int)) ++ (sub v3 (0 : Int) x6)) ++ ([((gt p1 v4).1, (gt p1 v4).2)] : List (ByteArray × Int))) ++ List.map enc_si (sub v3 x6 (v3.length : Int))).length = AV.sl 6 0 (((([] : List (ByteArray × Int)) ++ (sub v3 (0 : Int) x6)) ++ ([((gt p1 v4).1, (gt p1 v4).2)] : List (ByteArray × Int))) ++ (sub v3 x6 (v3.length : Int))).length)) ∧ True) (by kernel_rfl) ⟨g9, ⟨⟨rfl, rfl, trivial⟩, ⟨idx_bs enc_si p1 v4 2 g11, ⟨⟨⟨⟨(dt_all (enc := enc_si) rfl rfl), (dt_all (enc := enc_si) rfl rfl)⟩, (by simp only [List.length_map, List.length_nil, List.length_replicate]; simpa using g12)⟩, sl_len (enc := enc_si) (app_can (enc := enc_si) rfl (rfl))⟩, ⟨g13, ⟨⟨⟨⟨(dt_all (enc := enc_si) (app_can (enc := enc_si) rfl (rfl) : List.map enc_si (([] : List (ByteArray × Int)) ++ (sub v3 (0 : Int) x6)) ++ List.map enc_si ([((gt p1 v4).1, (gt p1 v4).2)] : List (ByteArray × Int)) = List.map enc_si ((([] : List (ByteArray × Int)) ++ (sub v3 (0 : Int) x6)) ++ ([((gt p1 v4).1, (gt p1 v4).2)] : List (ByteArray × Int)))) rfl), (part_can (enc := enc_si) rfl x6 (v3.length : Int))⟩, (by simp only [List.length_map, List.length_nil, List.length_replicate]; simpa using g14)⟩, sl_len (enc := enc_si) (app_can (enc := enc_si) rfl (rfl))⟩, trivial⟩⟩⟩⟩⟩⟩ ⟨call_ok (ks := []) (ns := [3]) (bor := [2]) (bobjs := [(2, .arr 2 (List.map enc_si v3))]) (s_spec_copyDefs (sub v3 (0 : Int) x6) x7 e10) (.cons (.c1 (.c0 (.part (List.map enc_si (sub v3 (0 : Int) x6)) rfl rfl (part_can (enc := enc_si) rfl (0 : Int) x6)))) (.nil)) (by kernel_rfl) trivial, trivial⟩ ?_
      refine AX.reg (its := [.auto {}, .auto { raw := true }]) [1, 2, 3, 4] [0, 1, 6] (s1 := ⟨[(1, .pt 0 0), (2, .pt 1 0), (3, .sl 6 0 ((((([] : List (ByteArray × Int)) ++ (sub v3 (0 : Int) x6)) ++ ([((gt p1 v4).1, (gt p1 v4).2)] : List (ByteArray × Int))) ++ (sub v3 x6 (v3.length : Int))).length)), (4, .v (.int .i64 (IntKind.wrap .i64 (v4 + 1))))], [(0, .box [.bs false 2 (List.map enc_si p1)]), (1, .box [.v (.slice none 0 0)]), (6, .arr 2 (List.map enc_si ((([] : List (ByteArray × Int)) ++ (sub v3 (0 : Int) x6)) ++ ([((gt p1 v4).1, (gt p1 v4).2)] : List (ByteArray × Int))) ++ List.map enc_si (sub v3 x6 (v3.length : Int))))]⟩) (C := True) (by kernel_rfl) trivial trivial ?_
      refine ⟨(fu, (((([] : List (ByteArray × Int)) ++ (sub v3 (0 : Int) x6)) ++ ([((gt p1 v4).1, (gt p1 v4).2)] : List (ByteArray × Int))) ++ (sub v3 x6 (v3.length : Int)), IntKind.wrap .i64 (v4 + 1))), h, Nat.lt_succ_self _, ?_⟩
      refine Wk.trans (Wk.swap 2 6 (Nat.le_of_ble_eq_true (by kernel_rfl)) (Nat.le_of_ble_eq_true (by kernel_rfl)) rfl) ?_
      refine Wk.trans (Wk.forget [1, 2, 3, 4] [0, 1, 2] (s' := ⟨[(1, .pt 0 0), (2, .pt 1 0), (3, .sl 2 0 ((((([] : List (ByteArray × Int)) ++ (sub v3 (0 : Int) x6)) ++ ([((gt p1 v4).1, (gt p1 v4).2)] : List (ByteArray × Int))) ++ (sub v3 x6 (v3.length : Int))).length)), (4, .v (.int .i64 (IntKind.wrap .i64 (v4 + 1))))], [(0, .box [.bs false 2 (List.map enc_si p1)]), (1, .box [.v (.slice none 0 0)]), (2, .arr 2 (List.map enc_si ((([] : List (ByteArray × Int)) ++ (sub v3 (0 : Int) x6)) ++ ([((gt p1 v4).1, (gt p1 v4).2)] : List (ByteArray × Int))) ++ List.map enc_si (sub v3 x6 (v3.length : Int))))]⟩) (by kernel_rfl)) ?_
      refine Wk.trans (Wk.of_eq (congrArg (fun z => (⟨[(1, .pt 0 0), (2, .pt 1 0), (3, .sl 2 0 ((((([] : List (ByteArray × Int)) ++ (sub v3 (0 : Int) x6)) ++ ([((gt p1 v4).1, (gt p1 v4).2)] : List (ByteArray × Int))) ++ (sub v3 x6 (v3.length : Int))).length)), (4, .v (.int .i64 (IntKind.wrap .i64 (v4 + 1))))], [(0, .box [.bs false 2 (List.map enc_si p1)]), (1, .box [.v (.slice none 0 0)]), (2, .arr 2 (z))]⟩ : S)) (app_can (enc := enc_si) rfl (rfl) : List.map enc_si ((([] : List (ByteArray × Int)) ++ (sub v3 (0 : Int) x6)) ++ ([((gt p1 v4).1, (gt p1 v4).2)] : List (ByteArray × Int))) ++ List.map enc_si (sub v3 x6 (v3.length : Int)) = List.map enc_si (((([] : List (ByteArray × Int)) ++ (sub v3 (0 : Int) x6)) ++ ([((gt p1 v4).1, (gt p1 v4).2)] : List (ByteArray × Int))) ++ (sub v3 x6 (v3.length : Int)))))) ?_
      exact Wk.refl _
    · replace h := cd_f b3 h
      refine AX.condF (decide (v4 < (p1.length : Int))) (by kernel_rfl) b3 ?_
      refine AX.exit ?_
      refine fin_wk (Wk.swap 0 1 (Nat.le_of_ble_eq_true (by kernel_rfl)) (Nat.le_of_ble_eq_true (by kernel_rfl)) rfl) ?_
      refine fin_wk (Wk.swap 1 2 (Nat.le_of_ble_eq_true (by kernel_rfl)) (Nat.le_of_ble_eq_true (by kernel_rfl)) rfl) ?_
      refine fin_wk (Wk.forget [2, 3] [0, 1] (s' := ⟨[(2, .pt 0 0), (3, .sl 1 0 v3.length)], [(0, .box [.v (.slice none 0 0)]), (1, .arr 2 (List.map enc_si v3))]⟩) (by kernel_rfl)) ?_
      have hr := Option.some.inj h
      subst hr
      exact ⟨_, Wk.refl _, ⟨rfl, rfl⟩⟩

theorem s_spec_SortEnum (p1 : List (ByteArray × Int)) (r : List (ByteArray × Int)) (h : m_spec_SortEnum p1 = some r) :
    Eng.Spec Try.prog 26 [.agg [.bs false 2 (List.map enc_si p1)]] [] (.agg [.sl 0 0 r.length]) [.arr 2 (List.map enc_si r)] := by
  unfold m_spec_SortEnum at h
  refine Eng.Spec.body Try.func26 (by kernel_rfl) rfl (by kernel_rfl) ?_
  refine AX.wkpost ?_
  refine AX.seq ?_
  refine AX.reg (its := [.auto { nk := 0 }, .auto { nk := 1 }]) [1, 2] [0, 1] (s1 := ⟨[(1, .pt 0 0), (2, .pt 1 0)], [(0, .box [.bs false 2 (List.map enc_si p1)]), (1, .box [.v (.slice none 0 0)])]⟩) (C := True) (by kernel_rfl) trivial trivial ?_
  refine AX.seq ?_
  refine AX.seq ?_
  obtain ⟨x2, e1, h⟩ := bd_e h
  refine AX.reg (its := [.auto {}, .call 36 [.agg [.bs false 2 (List.map enc_si p1)]] (handO (rho ([] ++ [])) [] [] ++ []) (callEv [] [] (.v (.bool x2)) [])]) [1, 2, 8] [0, 1] (s1 := ⟨[(1, .pt 0 0), (2, .pt 1 0), (8, .v (.bool (!x2)))], [(0, .box [.bs false 2 (List.map enc_si p1)]), (1, .box [.v (.slice none 0 0)])]⟩) (C := ((([.agg [.bs false 2 (List.map enc_si p1)]] : List AV) = [.agg [.bs false 2 (List.map enc_si p1)]]) ∧ True) ∧ True) (by kernel_rfl) ⟨⟨rfl, trivial⟩, trivial⟩ ⟨call_ok (ks := []) (ns := []) (bor := []) (bobjs := []) (s_spec_validEnum p1 x2 e1) (.cons (.c1 (.agg (.cons (.same _ (by kernel_rfl) (by kernel_rfl)) (.nil)))) (.nil)) (by kernel_rfl) trivial, trivial⟩ ?_
  rcases bool_cases ((!x2)) with b2 | b2
  · replace h := cd_t b2 h
    refine AX.condT ((!x2)) (by kernel_rfl) b2 ?_
    refine AX.seq ?_
    refine AX.reg (its := []) [2] [1] (s1 := ⟨[(2, .pt 1 0)], [(1, .box [.v (.slice none 0 0)])]⟩) (C := True) (by kernel_rfl) trivial trivial ?_
    refine AX.ret ?_
    refine fin_wk (Wk.matB 1 0 2 2 (cs := [.v (.slice none 0 0)]) (by kernel_rfl) (by kernel_rfl) (Nat.le_of_ble_eq_true (by kernel_rfl)) (by kernel_rfl) (by decide) rfl) ?_
    refine fin_wk (Wk.swap 0 1 (Nat.le_of_ble_eq_true (by kernel_rfl)) (Nat.le_of_ble_eq_true (by kernel_rfl)) rfl) ?_
    refine fin_wk (Wk.swap 1 2 (Nat.le_of_ble_eq_true (by kernel_rfl)) (Nat.le_of_ble_eq_true (by kernel_rfl)) rfl) ?_
    refine fin_wk (Wk.forget [2] [0, 1] (s' := ⟨[(2, .pt 0 0)], [(0, .box [.sl 1 0 (([] : List (ByteArray × Int)).length)]), (1, .arr 2 (List.map enc_si ([] : List (ByteArray × Int))))]⟩) (by kernel_rfl)) ?_
    have hr := Option.some.inj h
    subst hr
    exact ⟨_, Wk.refl _, .inr rfl, ⟨[1], by kernel_rfl, ⟨rfl, trivial⟩, [.agg [.sl 1 0 (([] : List (ByteArray × Int)).length)]], by kernel_rfl, by kernel_rfl⟩⟩
  · replace h := cd_f b2 h
    refine AX.condF ((!x2)) (by kernel_rfl) b2 ?_
    refine AX.skip ?_
    refine AX.seq ?_
    refine AX.reg (its := [.auto { nk := 2 }]) [1, 2, 3] [0, 1, 2] (s1 := ⟨[(1, .pt 0 0), (2, .pt 1 0), (3, .sl 2 0 (([] : List (ByteArray × Int)).length))], [(0, .box [.bs false 2 (List.map enc_si p1)]), (1, .box [.v (.slice none 0 0)]), (2, .arr 2 (List.map enc_si ([] : List (ByteArray × Int))))]⟩) (C := True) (by kernel_rfl) trivial trivial ?_
    refine AX.seq ?_
    refine AX.seq ?_
    refine AX.reg (its := []) [1, 2, 3, 4] [0, 1, 2] (s1 := ⟨[(1, .pt 0 0), (2, .pt 1 0), (3, .sl 2 0 (([] : List (ByteArray × Int)).length)), (4, .v (.int .i64 0))], [(0, .box [.bs false 2 (List.map enc_si p1)]), (1, .box [.v (.slice none 0 0)]), (2, .arr 2 (List.map enc_si ([] : List (ByteArray × Int))))]⟩) (C := True) (by kernel_rfl) trivial trivial ?_
    refine AX.block ?_
    obtain ⟨x8, e15, h⟩ := bd_e h
    refine AX.wk (Wk.forget [1, 2, 3, 4] [0, 1, 2] (s' := ⟨[(1, .pt 0 0), (2, .pt 1 0), (3, .sl 2 0 (([] : List (ByteArray × Int)).length)), (4, .v (.int .i64 0))], [(0, .box [.bs false 2 (List.map enc_si p1)]), (1, .box [.v (.slice none 0 0)]), (2, .arr 2 (List.map enc_si ([] : List (ByteArray × Int))))]⟩) (by kernel_rfl)) ?_
    refine AX.mono (s_spec_SortEnum_L1 p1 FU (([] : List (ByteArray × Int)), 0) x8 e15) ?_
    rintro _ _ ⟨rfl, rfl⟩
    skip
    refine AX.seq ?_
    refine AX.reg (its := []) [2] [0, 1] (s1 := ⟨[(2, .pt 0 0)], [(0, .box [.sl 1 0 x8.length]), (1, .arr 2 (List.map enc_si x8))]⟩) (C := True) (by kernel_rfl) trivial trivial ?_
    refine AX.ret ?_
    refine fin_wk (Wk.forget [2] [0, 1] (s' := ⟨[(2, .pt 0 0)], [(0, .box [.sl 1 0 x8.length]), (1, .arr 2 (List.map enc_si x8))]⟩) (by kernel_rfl)) ?_
    have hr := Option.some.inj h
    subst hr
    exact ⟨_, Wk.refl _, .inr rfl, ⟨[1], by kernel_rfl, ⟨rfl, trivial⟩, [.agg [.sl 1 0 x8.length]], by kernel_rfl, by kernel_rfl⟩⟩

theorem s_spec_DrawSameMeaning (p1 : List (Int)) (r : (List (ByteArray × Int)) × (List (ByteArray × Int))) (h : m_spec_DrawSameMeaning p1 = some r) :
    Eng.Spec Try.prog 29 [.bs true 1 (List.map enc_y p1)] [] (.tup [.agg [.sl 0 0 r.1.length], .agg [.sl 1 0 r.2.length]]) [.arr 2 (List.map enc_si r.1), .arr 2 (List.map enc_si r.2)] := by
  unfold m_spec_DrawSameMeaning at h
  refine Eng.Spec.body Try.func29 (by kernel_rfl) rfl (by kernel_rfl) ?_
  refine AX.wkpost ?_
  refine AX.seq ?_
  refine AX.reg (its := [.auto { nk := 0 }, .auto { nk := 1 }]) [0, 2, 3] [0, 1] (s1 := ⟨[(0, .bs true 1 (List.map enc_y p1)), (2, .pt 0 0), (3, .pt 1 0)], [(0, .box [.v (.slice none 0 0)]), (1, .box [.v (.slice none 0 0)])]⟩) (C := True) (by kernel_rfl) trivial trivial ?_
  refine AX.seq ?_
  obtain ⟨x2, e1, h⟩ := bd_e h
  refine AX.reg (its := [.auto {}, .call 31 [.bs true 1 (List.map enc_y p1)] (handO (rho ([] ++ [2])) [] [] ++ []) (callEv [] [2] (.pt 0 0) [.box [.bs true 1 (List.map enc_y x2), .v (.int .i64 0)]])]) [2, 3, 4] [0, 1, 2] (s1 := ⟨[(2, .pt 0 0), (3, .pt 1 0), (4, .pt 2 0)], [(0, .box [.v (.slice none 0 0)]), (1, .box [.v (.slice none 0 0)]), (2, .box [.bs true 1 (List.map enc_y x2), .v (.int .i64 0)])]⟩) (C := ((([.bs true 1 (List.map enc_y p1)] : List AV) = [.bs true 1 (List.map enc_y p1)]) ∧ True) ∧ True) (by kernel_rfl) ⟨⟨rfl, trivial⟩, trivial⟩ ⟨call_ok (ks := []) (ns := [2]) (bor := []) (bobjs := []) (s_spec_newReader p1 x2 e1) (.cons (.c1 (.c0 (.same _ (by kernel_rfl) (by kernel_rfl)))) (.nil)) (by kernel_rfl) trivial, trivial⟩ ?_
  refine AX.seq ?_
  obtain ⟨x3, e2, h⟩ := bd_e h
  refine AX.reg (its := [.auto {}, .call 59 [.pt 2 0] (handO (rho ([2] ++ [3, 4])) [2] [.box [.bs true 1 (List.map enc_y x2), .v (.int .i64 0)]] ++ []) (callEv [2] [3, 4] (.tup [.agg [.sl 1 0 x3.1.length], .agg [.sl 2 0 x3.2.1.length]]) [.box [.bs true 1 (List.map enc_y x2), .v (.int .i64 x3.2.2)], .arr 2 (List.map enc_si x3.1), .arr 2 (List.map enc_si x3.2.1)]), .auto {}, .auto {}, .auto {}, .auto { nk := 5 }, .auto { nk := 6 }]) [2, 3, 4, 5, 6] [0, 1, 2, 3, 4, 5, 6] (s1 := ⟨[(2, .pt 0 0), (3, .pt 1 0), (4, .pt 2 0), (5, .pt 5 0), (6, .pt 6 0)], [(0, .box [.v (.slice none 0 0)]), (1, .box [.v (.slice none 0 0)]), (2, .box [.bs true 1 (List.map enc_y x2), .v (.int .i64 x3.2.2)]), (3, .arr 2 (List.map enc_si x3.1)), (4, .arr 2 (List.map enc_si x3.2.1)), (5, .box [.sl 3 0 x3.1.length]), (6, .box [.sl 4 0 x3.2.1.length])]⟩) (C := ((([.pt 2 0] : List AV) = [.pt 2 0]) ∧ (AO.box [.bs true 1 (List.map enc_y x2), .v (.int .i64 0)] = AO.box [.bs true 1 (List.map enc_y x2), .v (.int .i64 0)]) ∧ True) ∧ True) (by kernel_rfl) ⟨⟨rfl, rfl, trivial⟩, trivial⟩ ⟨call_ok (ks := [2]) (ns := [3, 4]) (bor := []) (bobjs := []) (s_spec_twoEnums x2 0 x3 e2) (.cons (.c1 (.c0 (.same _ (by kernel_rfl) (by kernel_rfl)))) (.nil)) (by kernel_rfl) ⟨.inr rfl, trivial⟩, trivial⟩ ?_
  refine AX.seq ?_
  refine AX.seq ?_
  obtain ⟨x4, e3, h⟩ := bd_e h
  refine AX.reg (its := [.auto {}, .call 60 [.pt 2 0, .v (.int .i64 3)] (handO (rho ([2] ++ [])) [2] [.box [.bs true 1 (List.map enc_y x2), .v (.int .i64 x3.2.2)]] ++ []) (callEv [2] [] (.v (.int .i64 x4)) [.box [.bs true 1 (List.map enc_y x2), .v (.int .i64 (IntKind.wrap .i64 (x3.2.2 + 1)))]])]) [2, 3, 5, 6, 16] [0, 1, 3, 4, 5, 6] (s1 := ⟨[(2, .pt 0 0), (3, .pt 1 0), (5, .pt 5 0), (6, .pt 6 0), (16, .v (.bool (decide (x4 = 0))))], [(0, .box [.v (.slice none 0 0)]), (1, .box [.v (.slice none 0 0)]), (3, .arr 2 (List.map enc_si x3.1)), (4, .arr 2 (List.map enc_si x3.2.1)), (5, .box [.sl 3 0 x3.1.length]), (6, .box [.sl 4 0 x3.2.1.length])]⟩) (C := ((([.pt 2 0, .v (.int .i64 3)] : List AV) = [.pt 2 0, .v (.int .i64 3)]) ∧ (AO.box [.bs true 1 (List.map enc_y x2), .v (.int .i64 x3.2.2)] = AO.box [.bs true 1 (List.map enc_y x2), .v (.int .i64 x3.2.2)]) ∧ True) ∧ True) (by kernel_rfl) ⟨⟨rfl, rfl, trivial⟩, trivial⟩ ⟨call_ok (ks := [2]) (ns := []) (bor := []) (bobjs := []) (s_spec_reader_pick 3 x2 x3.2.2 x4 e3) (.cons (.c1 (.c0 (.same _ (by kernel_rfl) (by kernel_rfl)))) (.cons (.c1 (.c0 (.same _ (by kernel_rfl) (by kernel_rfl)))) (.nil))) (by kernel_rfl) ⟨.inr rfl, trivial⟩, trivial⟩ ?_
  rcases bool_cases (decide (x4 = 0)) with b4 | b4
  · replace h := cd_t b4 h
    refine AX.condT (decide (x4 = 0)) (by kernel_rfl) b4 ?_
    refine AX.seq ?_
    obtain ⟨x5, e5, h⟩ := bd_e h
    refine AX.drw mixed (its := [.auto {}, .auto {}, .call 26 [.agg [.sl 3 0 x3.1.length]] (handO (rho ([] ++ [7])) [] [] ++ [(3, .arr 2 (List.map enc_si x3.1))]) (callEv [] [7] (.agg [.sl 0 0 x5.length]) [.arr 2 (List.map enc_si x5)])]) [2, 3] [0, 1, 3, 7] (s1 := ⟨[(2, .pt 0 0), (3, .pt 1 0)], [(0, .box [.sl 3 0 x3.1.length]), (1, .box [.sl 7 0 x5.length]), (3, .arr 2 (List.map enc_si x3.1)), (7, .arr 2 (List.map enc_si x5))]⟩) (C := ((([.agg [.sl 3 0 x3.1.length]] : List AV) = [.agg [.sl 3 0 x3.1.length]]) ∧ (AO.arr 2 (List.map enc_si x3.1) = AO.arr 2 (List.map enc_si x3.1)) ∧ True) ∧ True) (by kernel_rfl) ⟨⟨rfl, rfl, trivial⟩, trivial⟩ ⟨call_ok (ks := []) (ns := [7]) (bor := [3]) (bobjs := [(3, .arr 2 (List.map enc_si x3.1))]) (s_spec_SortEnum x3.1 x5 e5) (.cons (.c1 (.agg (.cons (.arr rfl rfl ((rfl).trans (List.length_map ..).symm)) (.nil)))) (.nil)) (by kernel_rfl) trivial, trivial⟩ ?_
    refine AX.ret ?_
    refine fin_wk (Wk.swap 1 3 (Nat.le_of_ble_eq_true (by kernel_rfl)) (Nat.le_of_ble_eq_true (by kernel_rfl)) rfl) ?_
    refine fin_wk (Wk.swap 2 3 (Nat.le_of_ble_eq_true (by kernel_rfl)) (Nat.le_of_ble_eq_true (by kernel_rfl)) rfl) ?_
    refine fin_wk (Wk.swap 3 7 (Nat.le_of_ble_eq_true (by kernel_rfl)) (Nat.le_of_ble_eq_true (by kernel_rfl)) rfl) ?_
    refine fin_wk (Wk.forget [2, 3] [0, 1, 2, 3] (s' := ⟨[(2, .pt 0 0), (3, .pt 2 0)], [(0, .box [.sl 1 0 x3.1.length]), (1, .arr 2 (List.map enc_si x3.1)), (2, .box [.sl 3 0 x5.length]), (3, .arr 2 (List.map enc_si x5))]⟩) (by kernel_rfl)) ?_
    have hr := Option.some.inj h
    subst hr
    exact ⟨_, Wk.refl _, .inr rfl, ⟨[1, 3], by kernel_rfl, ⟨rfl, rfl, trivial⟩, [.agg [.sl 1 0 x3.1.length], .agg [.sl 3 0 x5.length]], by kernel_rfl, by kernel_rfl⟩⟩
  · replace h := cd_f b4 h
    refine AX.condF (decide (x4 = 0)) (by kernel_rfl) b4 ?_
    refine AX.skip ?_
    refine AX.seq ?_
    refine AX.drw mixed (its := []) [2, 3] [0, 1, 3, 4] (s1 := ⟨[(2, .pt 0 0), (3, .pt 1 0)], [(0, .box [.sl 3 0 x3.1.length]), (1, .box [.sl 4 0 x3.2.1.length]), (3, .arr 2 (List.map enc_si x3.1)), (4, .arr 2 (List.map enc_si x3.2.1))]⟩) (C := True) (by kernel_rfl) trivial trivial ?_
    refine AX.ret ?_
    refine fin_wk (Wk.swap 1 3 (Nat.le_of_ble_eq_true (by kernel_rfl)) (Nat.le_of_ble_eq_true (by kernel_rfl)) rfl) ?_
    refine fin_wk (Wk.swap 2 3 (Nat.le_of_ble_eq_true (by kernel_rfl)) (Nat.le_of_ble_eq_true (by kernel_rfl)) rfl) ?_
    refine fin_wk (Wk.swap 3 4 (Nat.le_of_ble_eq_true (by kernel_rfl)) (Nat.le_of_ble_eq_true (by kernel_rfl)) rfl) ?_
    refine fin_wk (Wk.forget [2, 3] [0, 1, 2, 3] (s' := ⟨[(2, .pt 0 0), (3, .pt 2 0)], [(0, .box [.sl 1 0 x3.1.length]), (1, .arr 2 (List.map enc_si x3.1)), (2, .box [.sl 3 0 x3.2.1.length]), (3, .arr 2 (List.map enc_si x3.2.1))]⟩) (by kernel_rfl)) ?_
    have hr := Option.some.inj h
    subst hr
    exact ⟨_, Wk.refl _, .inr rfl, ⟨[1, 3], by kernel_rfl, ⟨rfl, rfl, trivial⟩, [.agg [.sl 1 0 x3.1.length], .agg [.sl 3 0 x3.2.1.length]], by kernel_rfl, by kernel_rfl⟩⟩

theorem s_impl_in (p1 : Int) (p2 : Int) (p3 : Int) (r : Bool) (h : m_impl_in p1 p2 p3 = some r) :
    Eng.Spec Try.prog 77 [.v (.int .i64 p1), .v (.int .i64 p2), .v (.int .i64 p3)] [] (.v (.bool r)) [] := by
  unfold m_impl_in at h
  refine Eng.Spec.body Try.func77 (by kernel_rfl) rfl (by kernel_rfl) ?_
  refine AX.wkpost ?_
  refine AX.seq ?_
  refine AX.reg (its := []) [0, 1, 2] [] (s1 := ⟨[(0, .v (.int .i64 p1)), (1, .v (.int .i64 p2)), (2, .v (.int .i64 p3))], []⟩) (C := True) (by kernel_rfl) trivial trivial ?_
  refine AX.seq ?_
  rcases bool_cases (decide (p2 ≤ p1)) with b1 | b1
  · replace h := cd_t b1 h
    refine AX.reg (its := [.auto {}, .auto {}, .auto { y := some (.v (.bool true)) }]) [6] [] (s1 := ⟨[(6, .v (.bool (decide (p1 ≤ p3))))], []⟩) (C := ((True) ∧ ((.v (.bool (decide (p2 ≤ p1))) : AV) = (.v (.bool true) : AV))) ∧ True) (by kernel_rfl) ⟨⟨trivial, (congrArg (fun z => AV.v (.bool z)) b1)⟩, trivial⟩ trivial ?_
    refine AX.ret ?_
    refine fin_wk (Wk.forget [6] [] (s' := ⟨[(6, .v (.bool (decide (p1 ≤ p3))))], []⟩) (by kernel_rfl)) ?_
    have hr := Option.some.inj h
    subst hr
    exact ⟨_, Wk.refl _, .inr rfl, ⟨[], by kernel_rfl, trivial, [.v (.bool (decide (p1 ≤ p3)))], by kernel_rfl, by kernel_rfl⟩⟩
  · replace h := cd_f b1 h
    refine AX.reg (its := [.auto {}, .auto {}, .auto { y := some (.v (.bool false)) }]) [6] [] (s1 := ⟨[(6, .v (.bool false))], []⟩) (C := ((True) ∧ ((.v (.bool (decide (p2 ≤ p1))) : AV) = (.v (.bool false) : AV))) ∧ True) (by kernel_rfl) ⟨⟨trivial, (congrArg (fun z => AV.v (.bool z)) b1)⟩, trivial⟩ trivial ?_
    refine AX.ret ?_
    refine fin_wk (Wk.forget [6] [] (s' := ⟨[(6, .v (.bool false))], []⟩) (by kernel_rfl)) ?_
    have hr := Option.some.inj h
    subst hr
    exact ⟨_, Wk.refl _, .inr rfl, ⟨[], by kernel_rfl, trivial, [.v (.bool false)], by kernel_rfl, by kernel_rfl⟩⟩

theorem s_impl_ValidName_L1 (p1 : ByteArray) (n : Nat) (g : Int) (out : Unit ⊕ Unit) (h : m_impl_ValidName_L1 p1 n g = some out) :
    AX Try.prog 23 0 (codeAt [1, 0, 1, 1] (bodyOf Try.f76)) ((fun g : Int => (⟨[(0, .v (.string p1)), (3, .v (.int .i64 g))], []⟩ : S)) g) (fun ex s => (∃ o : Unit, out = Sum.inl o ∧ ex = .ret ∧ s = ⟨[(2, .v (.bool false))], []⟩) ∨ (∃ o : Unit, out = Sum.inr o ∧ ex = .exit 0 ∧ s = ⟨[(0, .v (.string p1))], []⟩)) := by
  refine AX.wkpost ?_
  refine AX.loop (G := Nat × (Int)) (fun q => (fun g : Int => (⟨[(0, .v (.string p1)), (3, .v (.int .i64 g))], []⟩ : S)) q.2) (fun q => m_impl_ValidName_L1 p1 q.1 q.2 = some out) (fun q => q.1) (n, g) h (Wk.refl _) ?_
  clear h
  rintro ⟨fu, v2⟩ h
  cases fu with
  | zero => cases h
  | succ fu =>
    rw [m_impl_ValidName_L1] at h
    refine AX.seq ?_
    refine AX.seq ?_
    refine AX.reg (its := []) [0, 3, 7] [] (s1 := ⟨[(0, .v (.string p1)), (3, .v (.int .i64 v2)), (7, .v (.bool (decide (v2 < (p1.size : Int)))))], []⟩) (C := True) (by kernel_rfl) trivial trivial ?_
    rcases bool_cases (decide (v2 < (p1.size : Int))) with b1 | b1
    · replace h := cd_t b1 h
      refine AX.condT (decide (v2 < (p1.size : Int))) (by kernel_rfl) b1 ?_
      refine AX.skip ?_
      refine AX.seq ?_
      refine AX.block ?_
      refine AX.seq ?_
      obtain ⟨g2, h⟩ := gd_e h
      rcases bool_cases (decide ((byteAt p1 v2.toNat) < 97)) with b3 | b3
      · replace h := cd_t b3 h
        refine AX.reg (its := [.auto {}, .auto {}, .auto {}, .auto { y := some (.v (.bool true)) }]) [0, 3, 19] [] (s1 := ⟨[(0, .v (.string p1)), (3, .v (.int .i64 v2)), (19, .v (.bool true))], []⟩) (C := (0 ≤ v2 ∧ v2 < (p1.size : Int)) ∧ ((True) ∧ ((.v (.bool (decide ((byteAt p1 v2.toNat) < 97))) : AV) = (.v (.bool true) : AV))) ∧ True) (by kernel_rfl) ⟨g2, ⟨⟨trivial, (congrArg (fun z => AV.v (.bool z)) b3)⟩, trivial⟩⟩ trivial ?_
        refine AX.cond_true (by kernel_rfl) ?_
        refine AX.seq ?_
        refine AX.reg (its := []) [2] [] (s1 := ⟨[(2, .v (.bool false))], []⟩) (C := True) (by kernel_rfl) trivial trivial ?_
        refine AX.ret ?_
        refine fin_wk (Wk.forget [2] [] (s' := ⟨[(2, .v (.bool false))], []⟩) (by kernel_rfl)) ?_
        have hr := Option.some.inj h
        subst hr
        exact ⟨_, Wk.refl _, .inl ⟨(), rfl, rfl, rfl⟩⟩
      · replace h := cd_f b3 h
        refine AX.reg (its := [.auto {}, .auto {}, .auto {}, .auto { y := some (.v (.bool false)) }]) [0, 3, 19] [] (s1 := ⟨[(0, .v (.string p1)), (3, .v (.int .i64 v2)), (19, .v (.bool (decide (122 < (byteAt p1 v2.toNat)))))], []⟩) (C := (0 ≤ v2 ∧ v2 < (p1.size : Int)) ∧ ((True) ∧ ((.v (.bool (decide ((byteAt p1 v2.toNat) < 97))) : AV) = (.v (.bool false) : AV))) ∧ (0 ≤ v2 ∧ v2 < (p1.size : Int)) ∧ True) (by kernel_rfl) ⟨g2, ⟨⟨trivial, (congrArg (fun z => AV.v (.bool z)) b3)⟩, ⟨g2, trivial⟩⟩⟩ trivial ?_
        rcases bool_cases (decide (122 < (byteAt p1 v2.toNat))) with b4 | b4
        · replace h := cd_t b4 h
          refine AX.condT (decide (122 < (byteAt p1 v2.toNat))) (by kernel_rfl) b4 ?_
          refine AX.seq ?_
          refine AX.reg (its := []) [2] [] (s1 := ⟨[(2, .v (.bool false))], []⟩) (C := True) (by kernel_rfl) trivial trivial ?_
          refine AX.ret ?_
          refine fin_wk (Wk.forget [2] [] (s' := ⟨[(2, .v (.bool false))], []⟩) (by kernel_rfl)) ?_
          have hr := Option.some.inj h
          subst hr
          exact ⟨_, Wk.refl _, .inl ⟨(), rfl, rfl, rfl⟩⟩
        · replace h := cd_f b4 h
          refine AX.condF (decide (122 < (byteAt p1 v2.toNat))) (by kernel_rfl) b4 ?_
          refine AX.skip ?_
          refine AX.reg (its := [.auto {}, .auto { raw := true }]) [0, 3] [] (s1 := ⟨[(0, .v (.string p1)), (3, .v (.int .i64 (IntKind.wrap .i64 (v2 + 1))))], []⟩) (C := True) (by kernel_rfl) trivial trivial ?_
          refine ⟨(fu, IntKind.wrap .i64 (v2 + 1)), h, Nat.lt_succ_self _, ?_⟩
          refine Wk.trans (Wk.forget [0, 3] [] (s' := ⟨[(0, .v (.string p1)), (3, .v (.int .i64 (IntKind.wrap .i64 (v2 + 1))))], []⟩) (by kernel_rfl)) ?_
          exact Wk.refl _
    · replace h := cd_f b1 h
      refine AX.condF (decide (v2 < (p1.size : Int))) (by kernel_rfl) b1 ?_
      refine AX.exit ?_
      refine fin_wk (Wk.forget [0] [] (s' := ⟨[(0, .v (.string p1))], []⟩) (by kernel_rfl)) ?_
      have hr := Option.some.inj h
      subst hr
      exact ⟨_, Wk.refl _, .inr ⟨(), rfl, rfl, rfl⟩⟩

theorem s_impl_ValidName (p1 : ByteArray) (r : Bool) (h : m_impl_ValidName p1 = some r) :
    Eng.Spec Try.prog 76 [.v (.string p1)] [] (.v (.bool r)) [] := by
  unfold m_impl_ValidName at h
  refine Eng.Spec.body Try.func76 (by kernel_rfl) rfl (by kernel_rfl) ?_
  refine AX.wkpost ?_
  refine AX.seq ?_
  refine AX.reg (its := []) [0] [] (s1 := ⟨[(0, .v (.string p1))], []⟩) (C := True) (by kernel_rfl) trivial trivial ?_
  refine AX.seq ?_
  refine AX.seq ?_
  refine AX.reg (its := []) [0, 3] [] (s1 := ⟨[(0, .v (.string p1)), (3, .v (.int .i64 0))], []⟩) (C := True) (by kernel_rfl) trivial trivial ?_
  refine AX.block ?_
  obtain ⟨x3, e5, h⟩ := bd_e h
  refine AX.wk (Wk.forget [0, 3] [] (s' := ⟨[(0, .v (.string p1)), (3, .v (.int .i64 0))], []⟩) (by kernel_rfl)) ?_
  refine AX.mono (s_impl_ValidName_L1 p1 FU 0 x3 e5) ?_
  rintro _ _ (⟨x4, rfl, rfl, rfl⟩ | ⟨x5, rfl, rfl, rfl⟩)
  · replace h := sm_l h
    refine fin_wk (Wk.forget [2] [] (s' := ⟨[(2, .v (.bool false))], []⟩) (by kernel_rfl)) ?_
    have hr := Option.some.inj h
    subst hr
    exact ⟨_, Wk.refl _, .inr rfl, ⟨[], by kernel_rfl, trivial, [.v (.bool false)], by kernel_rfl, by kernel_rfl⟩⟩
  · replace h := sm_r h
    refine AX.seq ?_
    obtain ⟨x6, e6, h⟩ := bd_e h
    refine AX.reg (its := [.auto {}, .auto {}, .call 77 [.v (.int .i64 (p1.size : Int)), .v (.int .i64 1), .v (.int .i64 6)] (handO (rho ([] ++ [])) [] [] ++ []) (callEv [] [] (.v (.bool x6)) [])]) [2] [] (s1 := ⟨[(2, .v (.bool x6))], []⟩) (C := ((([.v (.int .i64 (p1.size : Int)), .v (.int .i64 1), .v (.int .i64 6)] : List AV) = [.v (.int .i64 (p1.size : Int)), .v (.int .i64 1), .v (.int .i64 6)]) ∧ True) ∧ True) (by kernel_rfl) ⟨⟨rfl, trivial⟩, trivial⟩ ⟨call_ok (ks := []) (ns := []) (bor := []) (bobjs := []) (s_impl_in (p1.size : Int) 1 6 x6 e6) (.cons (.c1 (.c0 (.same _ (by kernel_rfl) (by kernel_rfl)))) (.cons (.c1 (.c0 (.same _ (by kernel_rfl) (by kernel_rfl)))) (.cons (.c1 (.c0 (.same _ (by kernel_rfl) (by kernel_rfl)))) (.nil)))) (by kernel_rfl) trivial, trivial⟩ ?_
    refine AX.ret ?_
    refine fin_wk (Wk.forget [2] [] (s' := ⟨[(2, .v (.bool x6))], []⟩) (by kernel_rfl)) ?_
    have hr := Option.some.inj h
    subst hr
    exact ⟨_, Wk.refl _, .inr rfl, ⟨[], by kernel_rfl, trivial, [.v (.bool x6)], by kernel_rfl, by kernel_rfl⟩⟩

theorem s_impl_named_1_l (p1 : ByteArray) (p2 : Int) (p3 : ByteArray) (r : Unit) (h : m_impl_named_1_l p1 p2 p3 = some r) :
    Eng.Spec Try.prog 88 [.agg [.v (.string p1), .v (.int .i64 p2)], .bp [.v (.string p3)] 0] [] (.v (.bool (decide (p1 = p3)))) [] := by
  unfold m_impl_named_1_l at h
  refine Eng.Spec.body Try.func88 (by kernel_rfl) rfl (by kernel_rfl) ?_
  refine AX.wkpost ?_
  refine AX.seq ?_
  refine AX.reg (its := [.auto { nk := 0 }]) [1, 2] [0] (s1 := ⟨[(1, .bp [.v (.string p3)] 0), (2, .pt 0 0)], [(0, .box [.v (.string p1), .v (.int .i64 p2)])]⟩) (C := True) (by kernel_rfl) trivial trivial ?_
  refine AX.seq ?_
  refine AX.reg (its := []) [3] [] (s1 := ⟨[(3, .v (.bool (decide (p1 = p3))))], []⟩) (C := True) (by kernel_rfl) trivial trivial ?_
  refine AX.ret ?_
  refine fin_wk (Wk.forget [3] [] (s' := ⟨[(3, .v (.bool (decide (p1 = p3))))], []⟩) (by kernel_rfl)) ?_
  have hr := Option.some.inj h
  subst hr
  exact ⟨_, Wk.refl _, .inr rfl, ⟨[], by kernel_rfl, trivial, [.v (.bool (decide (p1 = p3)))], by kernel_rfl, by kernel_rfl⟩⟩

theorem s_slices_IndexFunc_si_named_1_l_L1 (p1 : List (ByteArray × Int)) (p2 : ByteArray) (n : Nat) (g : Int) (out : Int ⊕ Unit) (h : m_slices_IndexFunc_si_named_1_l_L1 p1 p2 n g = some out) :
    AX Try.prog 19 0 (codeAt [1, 0, 1, 1] (bodyOf Try.f87)) ((fun g : Int => (⟨[(0, .bs false 2 (List.map enc_si p1)), (1, .fn 88 [.bp [.v (.string p2)] 0]), (7, .v (.int .i64 (p1.length : Int))), (8, .v (.int .i64 g))], []⟩ : S)) g) (fun ex s => (∃ o : Int, out = Sum.inl o ∧ ex = .ret ∧ s = ⟨[(4, .v (.int .i64 o))], []⟩) ∨ (∃ o : Unit, out = Sum.inr o ∧ ex = .exit 0 ∧ s = ⟨[], []⟩)) := by
  refine AX.wkpost ?_
  refine AX.loop (G := Nat × (Int)) (fun q => (fun g : Int => (⟨[(0, .bs false 2 (List.map enc_si p1)), (1, .fn 88 [.bp [.v (.string p2)] 0]), (7, .v (.int .i64 (p1.length : Int))), (8, .v (.int .i64 g))], []⟩ : S)) q.2) (fun q => m_slices_IndexFunc_si_named_1_l_L1 p1 p2 q.1 q.2 = some out) (fun q => q.1) (n, g) h (Wk.refl _) ?_
  clear h
  rintro ⟨fu, v3⟩ h
  cases fu with
  | zero => cases h
  | succ fu =>
    rw [m_slices_IndexFunc_si_named_1_l_L1] at h
    refine AX.seq ?_
    refine AX.reg (its := []) [0, 1, 7, 8, 9] [] (s1 := ⟨[(0, .bs false 2 (List.map enc_si p1)), (1, .fn 88 [.bp [.v (.string p2)] 0]), (7, .v (.int .i64 (p1.length : Int))), (8, .v (.int .i64 v3)), (9, .v (.bool (decide (v3 < (p1.length : Int)))))], []⟩) (C := True) (by kernel_rfl) trivial trivial ?_
    refine AX.seq ?_
    rcases bool_cases (decide (v3 < (p1.length : Int))) with b1 | b1
    · replace h := cd_t b1 h
      refine AX.condT (decide (v3 < (p1.length : Int))) (by kernel_rfl) b1 ?_
      refine AX.skip ?_
      refine AX.seq ?_
      refine AX.block ?_
      refine AX.seq ?_
      refine AX.reg (its := []) [0, 1, 5, 7, 8] [] (s1 := ⟨[(0, .bs false 2 (List.map enc_si p1)), (1, .fn 88 [.bp [.v (.string p2)] 0]), (5, .v (.int .i64 v3)), (7, .v (.int .i64 (p1.length : Int))), (8, .v (.int .i64 v3))], []⟩) (C := True) (by kernel_rfl) trivial trivial ?_
      refine AX.seq ?_
      obtain ⟨g2, h⟩ := gd_e h
      obtain ⟨x4, e3, h⟩ := bd_e h
      refine AX.reg (its := [.auto {}, .auto {}, .auto {}, .auto { y := some (.be 2 (enc_si (gt p1 v3)) 0) }, .auto {}, .call 88 [.agg [.v (.string ((gt p1 v3).1)), .v (.int .i64 ((gt p1 v3).2))], .bp [.v (.string p2)] 0] (handO (rho ([] ++ [])) [] [] ++ []) (callEv [] [] (.v (.bool (decide (((gt p1 v3).1) = p2)))) [])]) [0, 1, 5, 7, 8, 16] [] (s1 := ⟨[(0, .bs false 2 (List.map enc_si p1)), (1, .fn 88 [.bp [.v (.string p2)] 0]), (5, .v (.int .i64 v3)), (7, .v (.int .i64 (p1.length : Int))), (8, .v (.int .i64 v3)), (16, .v (.bool (decide (((gt p1 v3).1) = p2))))], []⟩) (C := ((0 ≤ v3 ∧ v3 < ((List.map enc_si p1).length : Int)) ∧ (AV.be 2 ((List.map enc_si p1).getD v3.toNat []) 0 = AV.be 2 (enc_si (gt p1 v3)) 0)) ∧ ((([.agg [.v (.string ((gt p1 v3).1)), .v (.int .i64 ((gt p1 v3).2))], .bp [.v (.string p2)] 0] : List AV) = [.agg [.v (.string ((gt p1 v3).1)), .v (.int .i64 ((gt p1 v3).2))], .bp [.v (.string p2)] 0]) ∧ True) ∧ True) (by kernel_rfl) ⟨idx_bs enc_si p1 v3 2 g2, ⟨⟨rfl, trivial⟩, trivial⟩⟩ ⟨call_ok (ks := []) (ns := []) (bor := []) (bobjs := []) (s_impl_named_1_l ((gt p1 v3).1) ((gt p1 v3).2) p2 x4 e3) (.cons (.c1 (.agg (.cons (.same _ (by kernel_rfl) (by kernel_rfl)) (.cons (.same _ (by kernel_rfl) (by kernel_rfl)) (.nil))))) (.cons (.c1 (.bp (.cons (.same _ (by kernel_rfl) (by kernel_rfl)) (.nil)))) (.nil))) (by kernel_rfl) trivial, trivial⟩ ?_
      rcases bool_cases (decide (((gt p1 v3).1) = p2)) with b4 | b4
      · replace h := cd_t b4 h
        refine AX.condT (decide (((gt p1 v3).1) = p2)) (by kernel_rfl) b4 ?_
        refine AX.seq ?_
        refine AX.reg (its := []) [4] [] (s1 := ⟨[(4, .v (.int .i64 v3))], []⟩) (C := True) (by kernel_rfl) trivial trivial ?_
        refine AX.ret ?_
        refine fin_wk (Wk.forget [4] [] (s' := ⟨[(4, .v (.int .i64 v3))], []⟩) (by kernel_rfl)) ?_
        have hr := Option.some.inj h
        subst hr
        exact ⟨_, Wk.refl _, .inl ⟨v3, rfl, rfl, rfl⟩⟩
      · replace h := cd_f b4 h
        refine AX.condF (decide (((gt p1 v3).1) = p2)) (by kernel_rfl) b4 ?_
        refine AX.skip ?_
        refine AX.reg (its := [.auto { raw := true }]) [0, 1, 7, 8] [] (s1 := ⟨[(0, .bs false 2 (List.map enc_si p1)), (1, .fn 88 [.bp [.v (.string p2)] 0]), (7, .v (.int .i64 (p1.length : Int))), (8, .v (.int .i64 (IntKind.wrap .i64 (v3 + 1))))], []⟩) (C := True) (by kernel_rfl) trivial trivial ?_
        refine ⟨(fu, IntKind.wrap .i64 (v3 + 1)), h, Nat.lt_succ_self _, ?_⟩
        refine Wk.trans (Wk.forget [0, 1, 7, 8] [] (s' := ⟨[(0, .bs false 2 (List.map enc_si p1)), (1, .fn 88 [.bp [.v (.string p2)] 0]), (7, .v (.int .i64 (p1.length : Int))), (8, .v (.int .i64 (IntKind.wrap .i64 (v3 + 1))))], []⟩) (by kernel_rfl)) ?_
        exact Wk.refl _
    · replace h := cd_f b1 h
      refine AX.condF (decide (v3 < (p1.length : Int))) (by kernel_rfl) b1 ?_
      refine AX.exit ?_
      refine fin_wk (Wk.forget [] [] (s' := ⟨[], []⟩) (by kernel_rfl)) ?_
      have hr := Option.some.inj h
      subst hr
      exact ⟨_, Wk.refl _, .inr ⟨(), rfl, rfl, rfl⟩⟩

theorem s_slices_IndexFunc_si_named_1_l (p1 : List (ByteArray × Int)) (p2 : ByteArray) (r : Int) (h : m_slices_IndexFunc_si_named_1_l p1 p2 = some r) :
    Eng.Spec Try.prog 87 [.bs false 2 (List.map enc_si p1), .fn 88 [.bp [.v (.string p2)] 0]] [] (.v (.int .i64 r)) [] := by
  unfold m_slices_IndexFunc_si_named_1_l at h
  refine Eng.Spec.body Try.func87 (by kernel_rfl) rfl (by kernel_rfl) ?_
  refine AX.wkpost ?_
  refine AX.seq ?_
  refine AX.reg (its := []) [0, 1] [] (s1 := ⟨[(0, .bs false 2 (List.map enc_si p1)), (1, .fn 88 [.bp [.v (.string p2)] 0])], []⟩) (C := True) (by kernel_rfl) trivial trivial ?_
  refine AX.seq ?_
  refine AX.seq ?_
  refine AX.reg (its := [.auto {}, .auto { y := some (.v (.int .i64 (p1.length : Int))) }]) [0, 1, 7, 8] [] (s1 := ⟨[(0, .bs false 2 (List.map enc_si p1)), (1, .fn 88 [.bp [.v (.string p2)] 0]), (7, .v (.int .i64 (p1.length : Int))), (8, .v (.int .i64 0))], []⟩) (C := (True ∧ (AV.v (.int .i64 ((List.map enc_si p1).length : Int)) = AV.v (.int .i64 (p1.length : Int)))) ∧ True) (by kernel_rfl) ⟨⟨trivial, len_map enc_si p1⟩, trivial⟩ trivial ?_
  refine AX.block ?_
  obtain ⟨x5, e5, h⟩ := bd_e h
  refine AX.wk (Wk.forget [0, 1, 7, 8] [] (s' := ⟨[(0, .bs false 2 (List.map enc_si p1)), (1, .fn 88 [.bp [.v (.string p2)] 0]), (7, .v (.int .i64 (p1.length : Int))), (8, .v (.int .i64 0))], []⟩) (by kernel_rfl)) ?_
  refine AX.mono (s_slices_IndexFunc_si_named_1_l_L1 p1 p2 FU 0 x5 e5) ?_
  rintro _ _ (⟨x6, rfl, rfl, rfl⟩ | ⟨x7, rfl, rfl, rfl⟩)
  · replace h := sm_l h
    refine fin_wk (Wk.forget [4] [] (s' := ⟨[(4, .v (.int .i64 x6))], []⟩) (by kernel_rfl)) ?_
    have hr := Option.some.inj h
    subst hr
    exact ⟨_, Wk.refl _, .inr rfl, ⟨[], by kernel_rfl, trivial, [.v (.int .i64 x6)], by kernel_rfl, by kernel_rfl⟩⟩
  · replace h := sm_r h
    refine AX.seq ?_
    refine AX.reg (its := []) [4] [] (s1 := ⟨[(4, .v (.int .i64 (-1)))], []⟩) (C := True) (by kernel_rfl) trivial trivial ?_
    refine AX.ret ?_
    refine fin_wk (Wk.forget [4] [] (s' := ⟨[(4, .v (.int .i64 (-1)))], []⟩) (by kernel_rfl)) ?_
    have hr := Option.some.inj h
    subst hr
    exact ⟨_, Wk.refl _, .inr rfl, ⟨[], by kernel_rfl, trivial, [.v (.int .i64 (-1))], by kernel_rfl, by kernel_rfl⟩⟩

theorem s_impl_named (p1 : List (ByteArray × Int)) (p2 : ByteArray) (r : Int) (h : m_impl_named p1 p2 = some r) :
    Eng.Spec Try.prog 68 [.bs false 2 (List.map enc_si p1), .v (.string p2)] [] (.v (.int .i64 r)) [] := by
  unfold m_impl_named at h
  refine Eng.Spec.body Try.func68 (by kernel_rfl) rfl (by kernel_rfl) ?_
  refine AX.wkpost ?_
  refine AX.seq ?_
  refine AX.reg (its := [.auto { nk := 0 }]) [0, 3] [0] (s1 := ⟨[(0, .bs false 2 (List.map enc_si p1)), (3, .pt 0 0)], [(0, .box [.v (.string p2)])]⟩) (C := True) (by kernel_rfl) trivial trivial ?_
  refine AX.seq ?_
  obtain ⟨x3, e1, h⟩ := bd_e h
  refine AX.reg (its := [.auto {}, .auto {}, .call 87 [.bs false 2 (List.map enc_si p1), .fn 88 [.pt 0 0]] (handO (rho ([] ++ [])) [] [] ++ [(0, .box [.v (.string p2)])]) (callEv [] [] (.v (.int .i64 x3)) [])]) [4] [] (s1 := ⟨[(4, .v (.int .i64 x3))], []⟩) (C := ((([.bs false 2 (List.map enc_si p1), .fn 88 [.pt 0 0]] : List AV) = [.bs false 2 (List.map enc_si p1), .fn 88 [.pt 0 0]]) ∧ (AO.box [.v (.string p2)] = AO.box [.v (.string p2)]) ∧ True) ∧ True) (by kernel_rfl) ⟨⟨rfl, rfl, trivial⟩, trivial⟩ ⟨call_ok (ks := []) (ns := []) (bor := [0]) (bobjs := [(0, .box [.v (.string p2)])]) (s_slices_IndexFunc_si_named_1_l p1 p2 x3 e1) (.cons (.c1 (.c0 (.same _ (by kernel_rfl) (by kernel_rfl)))) (.cons (.fn (.cons (.box rfl rfl (.cons (.same _ (by kernel_rfl) (by kernel_rfl)) (.nil))) (.nil))) (.nil))) (by kernel_rfl) trivial, trivial⟩ ?_
  refine AX.ret ?_
  refine fin_wk (Wk.forget [4] [] (s' := ⟨[(4, .v (.int .i64 x3))], []⟩) (by kernel_rfl)) ?_
  have hr := Option.some.inj h
  subst hr
  exact ⟨_, Wk.refl _, .inr rfl, ⟨[], by kernel_rfl, trivial, [.v (.int .i64 x3)], by kernel_rfl, by kernel_rfl⟩⟩

theorem s_impl_defsValid_L1 (p1 : List (ByteArray × Int)) (p2 : Int) (p3 : Int) (n : Nat) (g : Int) (out : Unit ⊕ Unit) (h : m_impl_defsValid_L1 p1 p2 p3 n g = some out) :
    AX Try.prog 41 0 (codeAt [1, 0, 1, 1] (bodyOf Try.f42)) ((fun g : Int => (⟨[(0, .bs false 2 (List.map enc_si p1)), (1, .v (.int .i64 p2)), (2, .v (.int .i64 p3)), (9, .bs false 2 (List.map enc_si p1)), (10, .v (.int .i64 (p1.length : Int))), (11, .v (.int .i64 g))], []⟩ : S)) g) (fun ex s => (∃ o : Unit, out = Sum.inl o ∧ ex = .ret ∧ s = ⟨[(6, .v (.bool false))], []⟩) ∨ (∃ o : Unit, out = Sum.inr o ∧ ex = .exit 0 ∧ s = ⟨[(0, .bs false 2 (List.map enc_si p1))], []⟩)) := by
  refine AX.wkpost ?_
  refine AX.loop (G := Nat × (Int)) (fun q => (fun g : Int => (⟨[(0, .bs false 2 (List.map enc_si p1)), (1, .v (.int .i64 p2)), (2, .v (.int .i64 p3)), (9, .bs false 2 (List.map enc_si p1)), (10, .v (.int .i64 (p1.length : Int))), (11, .v (.int .i64 g))], []⟩ : S)) q.2) (fun q => m_impl_defsValid_L1 p1 p2 p3 q.1 q.2 = some out) (fun q => q.1) (n, g) h (Wk.refl _) ?_
  clear h
  rintro ⟨fu, v4⟩ h
  cases fu with
  | zero => cases h
  | succ fu =>
    rw [m_impl_defsValid_L1] at h
    refine AX.seq ?_
    refine AX.reg (its := []) [0, 1, 2, 9, 10, 11, 12] [] (s1 := ⟨[(0, .bs false 2 (List.map enc_si p1)), (1, .v (.int .i64 p2)), (2, .v (.int .i64 p3)), (9, .bs false 2 (List.map enc_si p1)), (10, .v (.int .i64 (p1.length : Int))), (11, .v (.int .i64 v4)), (12, .v (.bool (decide (v4 < (p1.length : Int)))))], []⟩) (C := True) (by kernel_rfl) trivial trivial ?_
    refine AX.seq ?_
    rcases bool_cases (decide (v4 < (p1.length : Int))) with b1 | b1
    · replace h := cd_t b1 h
      refine AX.condT (decide (v4 < (p1.length : Int))) (by kernel_rfl) b1 ?_
      refine AX.skip ?_
      refine AX.seq ?_
      refine AX.block ?_
      refine AX.seq ?_
      obtain ⟨g2, h⟩ := gd_e h
      refine AX.reg (its := [.auto {}, .auto { y := some (.be 2 (enc_si (gt p1 v4)) 0) }, .auto {}, .auto { nk := 0 }]) [0, 1, 2, 7, 8, 9, 10, 11] [0] (s1 := ⟨[(0, .bs false 2 (List.map enc_si p1)), (1, .v (.int .i64 p2)), (2, .v (.int .i64 p3)), (7, .v (.int .i64 v4)), (8, .pt 0 0), (9, .bs false 2 (List.map enc_si p1)), (10, .v (.int .i64 (p1.length : Int))), (11, .v (.int .i64 v4))], [(0, .box [.v (.string ((gt p1 v4).1)), .v (.int .i64 ((gt p1 v4).2))])]⟩) (C := ((0 ≤ v4 ∧ v4 < ((List.map enc_si p1).length : Int)) ∧ (AV.be 2 ((List.map enc_si p1).getD v4.toNat []) 0 = AV.be 2 (enc_si (gt p1 v4)) 0)) ∧ True) (by kernel_rfl) ⟨idx_bs enc_si p1 v4 2 g2, trivial⟩ trivial ?_
      refine AX.seq ?_
      obtain ⟨x5, e3, h⟩ := bd_e h
      rcases bool_cases ((!x5)) with b4 | b4
      · replace h := cd_t b4 h
        refine AX.drw mixed (its := [.auto {}, .auto {}, .call 76 [.v (.string ((gt p1 v4).1))] (handO (rho ([] ++ [])) [] [] ++ []) (callEv [] [] (.v (.bool x5)) []), .auto { y := some (.v (.bool true)) }]) [0, 1, 2, 9, 10, 11, 36] [] (s1 := ⟨[(0, .bs false 2 (List.map enc_si p1)), (1, .v (.int .i64 p2)), (2, .v (.int .i64 p3)), (9, .bs false 2 (List.map enc_si p1)), (10, .v (.int .i64 (p1.length : Int))), (11, .v (.int .i64 v4)), (36, .v (.bool true))], []⟩) (C := ((([.v (.string ((gt p1 v4).1))] : List AV) = [.v (.string ((gt p1 v4).1))]) ∧ True) ∧ ((True) ∧ ((.v (.bool (!x5)) : AV) = (.v (.bool true) : AV))) ∧ True) (by kernel_rfl) ⟨⟨rfl, trivial⟩, ⟨⟨trivial, (congrArg (fun z => AV.v (.bool z)) b4)⟩, trivial⟩⟩ ⟨call_ok (ks := []) (ns := []) (bor := []) (bobjs := []) (s_impl_ValidName ((gt p1 v4).1) x5 e3) (.cons (.c1 (.c0 (.same _ (by kernel_rfl) (by kernel_rfl)))) (.nil)) (by kernel_rfl) trivial, trivial⟩ ?_
        refine AX.cond_true (by kernel_rfl) ?_
        refine AX.seq ?_
        refine AX.reg (its := []) [6] [] (s1 := ⟨[(6, .v (.bool false))], []⟩) (C := True) (by kernel_rfl) trivial trivial ?_
        refine AX.ret ?_
        refine fin_wk (Wk.forget [6] [] (s' := ⟨[(6, .v (.bool false))], []⟩) (by kernel_rfl)) ?_
        have hr := Option.some.inj h
        subst hr
        exact ⟨_, Wk.refl _, .inl ⟨(), rfl, rfl, rfl⟩⟩
      · replace h := cd_f b4 h
        obtain ⟨x6, e5, h⟩ := bd_e h
        rcases bool_cases ((!x6)) with b6 | b6
        · replace h := cd_t b6 h
          refine AX.drw mixed (its := [.auto {}, .auto {}, .call 76 [.v (.string ((gt p1 v4).1))] (handO (rho ([] ++ [])) [] [] ++ []) (callEv [] [] (.v (.bool x5)) []), .auto { y := some (.v (.bool false)) }, .auto {}, .auto {}, .auto {}, .auto {}, .auto {}, .call 77 [.v (.int .i64 ((gt p1 v4).2)), .v (.int .i64 p2), .v (.int .i64 p3)] (handO (rho ([] ++ [])) [] [] ++ []) (callEv [] [] (.v (.bool x6)) []), .auto { y := some (.v (.bool true)) }]) [0, 1, 2, 9, 10, 11, 36] [] (s1 := ⟨[(0, .bs false 2 (List.map enc_si p1)), (1, .v (.int .i64 p2)), (2, .v (.int .i64 p3)), (9, .bs false 2 (List.map enc_si p1)), (10, .v (.int .i64 (p1.length : Int))), (11, .v (.int .i64 v4)), (36, .v (.bool true))], []⟩) (C := ((([.v (.string ((gt p1 v4).1))] : List AV) = [.v (.string ((gt p1 v4).1))]) ∧ True) ∧ ((True) ∧ ((.v (.bool (!x5)) : AV) = (.v (.bool false) : AV))) ∧ ((([.v (.int .i64 ((gt p1 v4).2)), .v (.int .i64 p2), .v (.int .i64 p3)] : List AV) = [.v (.int .i64 ((gt p1 v4).2)), .v (.int .i64 p2), .v (.int .i64 p3)]) ∧ True) ∧ ((True) ∧ ((.v (.bool (!x6)) : AV) = (.v (.bool true) : AV))) ∧ True) (by kernel_rfl) ⟨⟨rfl, trivial⟩, ⟨⟨trivial, (congrArg (fun z => AV.v (.bool z)) b4)⟩, ⟨⟨rfl, trivial⟩, ⟨⟨trivial, (congrArg (fun z => AV.v (.bool z)) b6)⟩, trivial⟩⟩⟩⟩ ⟨call_ok (ks := []) (ns := []) (bor := []) (bobjs := []) (s_impl_ValidName ((gt p1 v4).1) x5 e3) (.cons (.c1 (.c0 (.same _ (by kernel_rfl) (by kernel_rfl)))) (.nil)) (by kernel_rfl) trivial, ⟨call_ok (ks := []) (ns := []) (bor := []) (bobjs := []) (s_impl_in ((gt p1 v4).2) p2 p3 x6 e5) (.cons (.c1 (.c0 (.same _ (by kernel_rfl) (by kernel_rfl)))) (.cons (.c1 (.c0 (.same _ (by kernel_rfl) (by kernel_rfl)))) (.cons (.c1 (.c0 (.same _ (by kernel_rfl) (by kernel_rfl)))) (.nil)))) (by kernel_rfl) trivial, trivial⟩⟩ ?_
          refine AX.cond_true (by kernel_rfl) ?_
          refine AX.seq ?_
          refine AX.reg (its := []) [6] [] (s1 := ⟨[(6, .v (.bool false))], []⟩) (C := True) (by kernel_rfl) trivial trivial ?_
          refine AX.ret ?_
          refine fin_wk (Wk.forget [6] [] (s' := ⟨[(6, .v (.bool false))], []⟩) (by kernel_rfl)) ?_
          have hr := Option.some.inj h
          subst hr
          exact ⟨_, Wk.refl _, .inl ⟨(), rfl, rfl, rfl⟩⟩
        · replace h := cd_f b6 h
          obtain ⟨g7, h⟩ := gd_e h
          obtain ⟨x7, e8, h⟩ := bd_e h
          refine AX.drw mixed (its := [.auto {}, .auto {}, .call 76 [.v (.string ((gt p1 v4).1))] (handO (rho ([] ++ [])) [] [] ++ []) (callEv [] [] (.v (.bool x5)) []), .auto { y := some (.v (.bool false)) }, .auto {}, .auto {}, .auto {}, .auto {}, .auto {}, .call 77 [.v (.int .i64 ((gt p1 v4).2)), .v (.int .i64 p2), .v (.int .i64 p3)] (handO (rho ([] ++ [])) [] [] ++ []) (callEv [] [] (.v (.bool x6)) []), .auto { y := some (.v (.bool false)) }, .auto {}, .auto {}, .auto {}, .auto {}, .auto { y := some (.bs false 2 (List.map enc_si (sub p1 (0 : Int) v4))) }, .auto {}, .auto {}, .call 68 [.bs false 2 (List.map enc_si (sub p1 (0 : Int) v4)), .v (.string ((gt p1 v4).1))] (handO (rho ([] ++ [])) [] [] ++ []) (callEv [] [] (.v (.int .i64 x7)) [])]) [0, 1, 2, 9, 10, 11, 36] [] (s1 := ⟨[(0, .bs false 2 (List.map enc_si p1)), (1, .v (.int .i64 p2)), (2, .v (.int .i64 p3)), (9, .bs false 2 (List.map enc_si p1)), (10, .v (.int .i64 (p1.length : Int))), (11, .v (.int .i64 v4)), (36, .v (.bool (decide (0 ≤ x7))))], []⟩) (C := ((([.v (.string ((gt p1 v4).1))] : List AV) = [.v (.string ((gt p1 v4).1))]) ∧ True) ∧ ((True) ∧ ((.v (.bool (!x5)) : AV) = (.v (.bool false) : AV))) ∧ ((([.v (.int .i64 ((gt p1 v4).2)), .v (.int .i64 p2), .v (.int .i64 p3)] : List AV) = [.v (.int .i64 ((gt p1 v4).2)), .v (.int .i64 p2), .v (.int .i64 p3)]) ∧ True) ∧ ((True) ∧ ((.v (.bool (!x6)) : AV) = (.v (.bool false) : AV))) ∧ ((0 ≤ (0 : Int) ∧ (0 : Int) ≤ v4 ∧ v4 ≤ ((List.map enc_si p1).length : Int) ∧ ((List.map enc_si p1).length : Int) ≤ ((List.map enc_si p1).length : Int)) ∧ (AV.bs false 2 (((List.map enc_si p1).drop (0 : Int).toNat).take (v4.toNat - (0 : Int).toNat)) = (.bs false 2 (List.map enc_si (sub p1 (0 : Int) v4)) : AV))) ∧ ((([.bs false 2 (List.map enc_si (sub p1 (0 : Int) v4)), .v (.string ((gt p1 v4).1))] : List AV) = [.bs false 2 (List.map enc_si (sub p1 (0 : Int) v4)), .v (.string ((gt p1 v4).1))]) ∧ True) ∧ True) (by kernel_rfl) ⟨⟨rfl, trivial⟩, ⟨⟨trivial, (congrArg (fun z => AV.v (.bool z)) b4)⟩, ⟨⟨rfl, trivial⟩, ⟨⟨trivial, (congrArg (fun z => AV.v (.bool z)) b6)⟩, ⟨⟨by first | exact g7 | simpa only [List.length_map] using g7, by first | exact sub_can enc_si p1 (0 : Int) v4 false 2 | (simp only [List.length_map]; exact sub_can enc_si p1 (0 : Int) v4 false 2)⟩, ⟨⟨rfl, trivial⟩, trivial⟩⟩⟩⟩⟩⟩ ⟨call_ok (ks := []) (ns := []) (bor := []) (bobjs := []) (s_impl_ValidName ((gt p1 v4).1) x5 e3) (.cons (.c1 (.c0 (.same _ (by kernel_rfl) (by kernel_rfl)))) (.nil)) (by kernel_rfl) trivial, ⟨call_ok (ks := []) (ns := []) (bor := []) (bobjs := []) (s_impl_in ((gt p1 v4).2) p2 p3 x6 e5) (.cons (.c1 (.c0 (.same _ (by kernel_rfl) (by kernel_rfl)))) (.cons (.c1 (.c0 (.same _ (by kernel_rfl) (by kernel_rfl)))) (.cons (.c1 (.c0 (.same _ (by kernel_rfl) (by kernel_rfl)))) (.nil)))) (by kernel_rfl) trivial, ⟨call_ok (ks := []) (ns := []) (bor := []) (bobjs := []) (s_impl_named (sub p1 (0 : Int) v4) ((gt p1 v4).1) x7 e8) (.cons (.c1 (.c0 (.same _ (by kernel_rfl) (by kernel_rfl)))) (.cons (.c1 (.c0 (.same _ (by kernel_rfl) (by kernel_rfl)))) (.nil))) (by kernel_rfl) trivial, trivial⟩⟩⟩ ?_
          rcases bool_cases (decide (0 ≤ x7)) with b9 | b9
          · replace h := cd_t b9 h
            refine AX.condT (decide (0 ≤ x7)) (by kernel_rfl) b9 ?_
            refine AX.seq ?_
            refine AX.reg (its := []) [6] [] (s1 := ⟨[(6, .v (.bool false))], []⟩) (C := True) (by kernel_rfl) trivial trivial ?_
            refine AX.ret ?_
            refine fin_wk (Wk.forget [6] [] (s' := ⟨[(6, .v (.bool false))], []⟩) (by kernel_rfl)) ?_
            have hr := Option.some.inj h
            subst hr
            exact ⟨_, Wk.refl _, .inl ⟨(), rfl, rfl, rfl⟩⟩
          · replace h := cd_f b9 h
            refine AX.condF (decide (0 ≤ x7)) (by kernel_rfl) b9 ?_
            refine AX.skip ?_
            refine AX.reg (its := [.auto { raw := true }]) [0, 1, 2, 9, 10, 11] [] (s1 := ⟨[(0, .bs false 2 (List.map enc_si p1)), (1, .v (.int .i64 p2)), (2, .v (.int .i64 p3)), (9, .bs false 2 (List.map enc_si p1)), (10, .v (.int .i64 (p1.length : Int))), (11, .v (.int .i64 (IntKind.wrap .i64 (v4 + 1))))], []⟩) (C := True) (by kernel_rfl) trivial trivial ?_
            refine ⟨(fu, IntKind.wrap .i64 (v4 + 1)), h, Nat.lt_succ_self _, ?_⟩
            refine Wk.trans (Wk.forget [0, 1, 2, 9, 10, 11] [] (s' := ⟨[(0, .bs false 2 (List.map enc_si p1)), (1, .v (.int .i64 p2)), (2, .v (.int .i64 p3)), (9, .bs false 2 (List.map enc_si p1)), (10, .v (.int .i64 (p1.length : Int))), (11, .v (.int .i64 (IntKind.wrap .i64 (v4 + 1))))], []⟩) (by kernel_rfl)) ?_
            exact Wk.refl _
    · replace h := cd_f b1 h
      refine AX.condF (decide (v4 < (p1.length : Int))) (by kernel_rfl) b1 ?_
      refine AX.exit ?_
      refine fin_wk (Wk.forget [0] [] (s' := ⟨[(0, .bs false 2 (List.map enc_si p1))], []⟩) (by kernel_rfl)) ?_
      have hr := Option.some.inj h
      subst hr
      exact ⟨_, Wk.refl _, .inr ⟨(), rfl, rfl, rfl⟩⟩

theorem s_impl_defsValid (p1 : List (ByteArray × Int)) (p2 : Int) (p3 : Int) (r : Bool) (h : m_impl_defsValid p1 p2 p3 = some r) :
    Eng.Spec Try.prog 42 [.bs false 2 (List.map enc_si p1), .v (.int .i64 p2), .v (.int .i64 p3)] [] (.v (.bool r)) [] := by
  unfold m_impl_defsValid at h
  refine Eng.Spec.body Try.func42 (by kernel_rfl) rfl (by kernel_rfl) ?_
  refine AX.wkpost ?_
  refine AX.seq ?_
  refine AX.reg (its := []) [0, 1, 2] [] (s1 := ⟨[(0, .bs false 2 (List.map enc_si p1)), (1, .v (.int .i64 p2)), (2, .v (.int .i64 p3))], []⟩) (C := True) (by kernel_rfl) trivial trivial ?_
  refine AX.seq ?_
  refine AX.seq ?_
  refine AX.reg (its := [.auto {}, .auto { y := some (.v (.int .i64 (p1.length : Int))) }]) [0, 1, 2, 9, 10, 11] [] (s1 := ⟨[(0, .bs false 2 (List.map enc_si p1)), (1, .v (.int .i64 p2)), (2, .v (.int .i64 p3)), (9, .bs false 2 (List.map enc_si p1)), (10, .v (.int .i64 (p1.length : Int))), (11, .v (.int .i64 0))], []⟩) (C := (True ∧ (AV.v (.int .i64 ((List.map enc_si p1).length : Int)) = AV.v (.int .i64 (p1.length : Int)))) ∧ True) (by kernel_rfl) ⟨⟨trivial, len_map enc_si p1⟩, trivial⟩ trivial ?_
  refine AX.block ?_
  obtain ⟨x8, e10, h⟩ := bd_e h
  refine AX.wk (Wk.forget [0, 1, 2, 9, 10, 11] [] (s' := ⟨[(0, .bs false 2 (List.map enc_si p1)), (1, .v (.int .i64 p2)), (2, .v (.int .i64 p3)), (9, .bs false 2 (List.map enc_si p1)), (10, .v (.int .i64 (p1.length : Int))), (11, .v (.int .i64 0))], []⟩) (by kernel_rfl)) ?_
  refine AX.mono (s_impl_defsValid_L1 p1 p2 p3 FU 0 x8 e10) ?_
  rintro _ _ (⟨x9, rfl, rfl, rfl⟩ | ⟨x10, rfl, rfl, rfl⟩)
  · replace h := sm_l h
    refine fin_wk (Wk.forget [6] [] (s' := ⟨[(6, .v (.bool false))], []⟩) (by kernel_rfl)) ?_
    have hr := Option.some.inj h
    subst hr
    exact ⟨_, Wk.refl _, .inr rfl, ⟨[], by kernel_rfl, trivial, [.v (.bool false)], by kernel_rfl, by kernel_rfl⟩⟩
  · replace h := sm_r h
    refine AX.seq ?_
    refine AX.reg (its := [.auto {}, .auto { y := some (.v (.int .i64 (p1.length : Int))) }]) [6] [] (s1 := ⟨[(6, .v (.bool (decide ((p1.length : Int) ≤ 12))))], []⟩) (C := (True ∧ (AV.v (.int .i64 ((List.map enc_si p1).length : Int)) = AV.v (.int .i64 (p1.length : Int)))) ∧ True) (by kernel_rfl) ⟨⟨trivial, len_map enc_si p1⟩, trivial⟩ trivial ?_
    refine AX.ret ?_
    refine fin_wk (Wk.forget [6] [] (s' := ⟨[(6, .v (.bool (decide ((p1.length : Int) ≤ 12))))], []⟩) (by kernel_rfl)) ?_
    have hr := Option.some.inj h
    subst hr
    exact ⟨_, Wk.refl _, .inr rfl, ⟨[], by kernel_rfl, trivial, [.v (.bool (decide ((p1.length : Int) ≤ 12)))], by kernel_rfl, by kernel_rfl⟩⟩

theorem s_impl_ValidEnum (p1 : List (ByteArray × Int)) (r : Bool) (h : m_impl_ValidEnum p1 = some r) :
    Eng.Spec Try.prog 13 [.agg [.bs false 2 (List.map enc_si p1)]] [] (.v (.bool r)) [] := by
  unfold m_impl_ValidEnum at h
  refine Eng.Spec.body Try.func13 (by kernel_rfl) rfl (by kernel_rfl) ?_
  refine AX.wkpost ?_
  refine AX.seq ?_
  refine AX.reg (its := [.auto { nk := 0 }]) [1] [0] (s1 := ⟨[(1, .pt 0 0)], [(0, .box [.bs false 2 (List.map enc_si p1)])]⟩) (C := True) (by kernel_rfl) trivial trivial ?_
  refine AX.seq ?_
  obtain ⟨x2, e1, h⟩ := bd_e h
  refine AX.reg (its := [.auto {}, .auto {}, .call 42 [.bs false 2 (List.map enc_si p1), .v (.int .i64 (-1000)), .v (.int .i64 1000)] (handO (rho ([] ++ [])) [] [] ++ []) (callEv [] [] (.v (.bool x2)) [])]) [2] [] (s1 := ⟨[(2, .v (.bool x2))], []⟩) (C := ((([.bs false 2 (List.map enc_si p1), .v (.int .i64 (-1000)), .v (.int .i64 1000)] : List AV) = [.bs false 2 (List.map enc_si p1), .v (.int .i64 (-1000)), .v (.int .i64 1000)]) ∧ True) ∧ True) (by kernel_rfl) ⟨⟨rfl, trivial⟩, trivial⟩ ⟨call_ok (ks := []) (ns := []) (bor := []) (bobjs := []) (s_impl_defsValid p1 (-1000) 1000 x2 e1) (.cons (.c1 (.c0 (.same _ (by kernel_rfl) (by kernel_rfl)))) (.cons (.c1 (.c0 (.same _ (by kernel_rfl) (by kernel_rfl)))) (.cons (.c1 (.c0 (.same _ (by kernel_rfl) (by kernel_rfl)))) (.nil)))) (by kernel_rfl) trivial, trivial⟩ ?_
  refine AX.ret ?_
  refine fin_wk (Wk.forget [2] [] (s' := ⟨[(2, .v (.bool x2))], []⟩) (by kernel_rfl)) ?_
  have hr := Option.some.inj h
  subst hr
  exact ⟨_, Wk.refl _, .inr rfl, ⟨[], by kernel_rfl, trivial, [.v (.bool x2)], by kernel_rfl, by kernel_rfl⟩⟩

theorem s_slices_Grow_nisii (p1 : Int) (r : List (Int × ByteArray × Int × Int)) (h : m_slices_Grow_nisii p1 = some r) :
    Eng.Spec Try.prog 92 [.v (.slice none 0 0), .v (.int .i64 p1)] [] (.sl 0 0 r.length) [.arr 4 (List.map enc_isii r)] := by
  unfold m_slices_Grow_nisii at h
  refine Eng.Spec.body Try.func92 (by kernel_rfl) rfl (by kernel_rfl) ?_
  refine AX.wkpost ?_
  refine AX.seq ?_
  refine AX.reg (its := []) [0, 1] [] (s1 := ⟨[(0, .v (.slice none 0 0)), (1, .v (.int .i64 p1))], []⟩) (C := True) (by kernel_rfl) trivial trivial ?_
  refine AX.seq ?_
  refine AX.seq ?_
  refine AX.reg (its := []) [0, 1, 6] [] (s1 := ⟨[(0, .v (.slice none 0 0)), (1, .v (.int .i64 p1)), (6, .v (.bool (decide (p1 < 0))))], []⟩) (C := True) (by kernel_rfl) trivial trivial ?_
  rcases bool_cases (decide (p1 < 0)) with b1 | b1
  · replace h := cd_t b1 h
    refine AX.condT (decide (p1 < 0)) (by kernel_rfl) b1 ?_
    cases h
  · replace h := cd_f b1 h
    refine AX.condF (decide (p1 < 0)) (by kernel_rfl) b1 ?_
    refine AX.skip ?_
    refine AX.seq ?_
    refine AX.seq ?_
    refine AX.reg (its := [.auto {}, .auto {}, .auto {}, .auto {}, .auto {}, .auto { raw := true }, .auto { raw := true }]) [0, 1] [] (s1 := ⟨[(0, .v (.slice none 0 0)), (1, .v (.int .i64 (IntKind.wrap .i64 (p1 - (IntKind.wrap .i64 (0 - 0))))))], []⟩) (C := True) (by kernel_rfl) trivial trivial ?_
    refine AX.seq ?_
    obtain ⟨v2, q2, h⟩ := nm_e h
    refine AX.reg (its := [.auto {}, .auto { y := some (.v (.bool v2)) }]) [0, 1, 16] [] (s1 := ⟨[(0, .v (.slice none 0 0)), (1, .v (.int .i64 (IntKind.wrap .i64 (p1 - (IntKind.wrap .i64 (0 - 0)))))), (16, .v (.bool v2))], []⟩) (C := ((True) ∧ ((.v (.bool (decide (0 < (IntKind.wrap .i64 (p1 - (IntKind.wrap .i64 (0 - 0))))))) : AV) = (.v (.bool v2) : AV))) ∧ True) (by kernel_rfl) ⟨⟨trivial, (congrArg (fun z => AV.v (.bool z)) q2)⟩, trivial⟩ trivial ?_
    rcases bool_cases (v2) with b3 | b3
    · replace h := cd_t b3 h
      refine AX.condT (v2) (by kernel_rfl) b3 ?_
      obtain ⟨g4, h⟩ := gd_e h
      obtain ⟨g5, h⟩ := gd_e h
      obtain ⟨g6, h⟩ := gd_e h
      obtain ⟨g7, h⟩ := gd_e h
      refine AX.reg (its := [.auto {}, .auto {}, .auto {}, .auto {}, .auto {}, .auto { y := some (.sl 0 0 ((List.replicate (IntKind.wrap .i64 (p1 - (IntKind.wrap .i64 (0 - 0)))).toNat ((0, ByteArray.empty, 0, 0) : Int × ByteArray × Int × Int)).length)), nk := 0 }]) [0] [0] (s1 := ⟨[(0, .sl 0 (0 + (0 : Int).toNat) ((0 : Int).toNat - (0 : Int).toNat))], [(0, .arr 4 (([] : List (List Value)) ++ List.replicate (IntKind.wrap .i64 (p1 - (IntKind.wrap .i64 (0 - 0)))).toNat (enc_isii ((0, ByteArray.empty, 0, 0) : Int × ByteArray × Int × Int))))]⟩) (C := ((0 : Int) = 0 ∧ (0 : Int) = 0 ∧ (0 : Int) = 0) ∧ (((True ∧ (0 ≤ (IntKind.wrap .i64 (p1 - (IntKind.wrap .i64 (0 - 0)))) ∧ (IntKind.wrap .i64 (p1 - (IntKind.wrap .i64 (0 - 0)))) ≤ 1099511627776)) ∧ (([] : List (List Value))).length + (List.replicate (IntKind.wrap .i64 (p1 - (IntKind.wrap .i64 (0 - 0)))).toNat (enc_isii ((0, ByteArray.empty, 0, 0) : Int × ByteArray × Int × Int))).length ≤ 1099511627776) ∧ (AV.sl 0 0 (([] : List (List Value)) ++ List.replicate (IntKind.wrap .i64 (p1 - (IntKind.wrap .i64 (0 - 0)))).toNat (enc_isii ((0, ByteArray.empty, 0, 0) : Int × ByteArray × Int × Int))).length = AV.sl 0 0 (List.replicate (IntKind.wrap .i64 (p1 - (IntKind.wrap .i64 (0 - 0)))).toNat ((0, ByteArray.empty, 0, 0) : Int × ByteArray × Int × Int)).length)) ∧ (0 ≤ (0 : Int) ∧ (0 : Int) ≤ (0 : Int) ∧ (0 : Int) ≤ ((List.replicate (IntKind.wrap .i64 (p1 - (IntKind.wrap .i64 (0 - 0)))).toNat ((0, ByteArray.empty, 0, 0) : Int × ByteArray × Int × Int)).length : Int) ∧ ((List.replicate (IntKind.wrap .i64 (p1 - (IntKind.wrap .i64 (0 - 0)))).toNat ((0, ByteArray.empty, 0, 0) : Int × ByteArray × Int × Int)).length : Int) ≤ ((List.replicate (IntKind.wrap .i64 (p1 - (IntKind.wrap .i64 (0 - 0)))).toNat ((0, ByteArray.empty, 0, 0) : Int × ByteArray × Int × Int)).length : Int)) ∧ True) (by kernel_rfl) ⟨g4, ⟨⟨⟨⟨trivial, g5⟩, (by simp only [List.length_map, List.length_nil, List.length_replicate]; simpa using g6)⟩, sl_len (enc := enc_isii) (rep_can (IntKind.wrap .i64 (p1 - (IntKind.wrap .i64 (0 - 0)))).toNat ((0, ByteArray.empty, 0, 0) : Int × ByteArray × Int × Int))⟩, ⟨g7, trivial⟩⟩⟩ trivial ?_
      refine AX.seq ?_
      refine AX.reg (its := []) [4] [0] (s1 := ⟨[(4, .sl 0 (0 + (0 : Int).toNat) ((0 : Int).toNat - (0 : Int).toNat))], [(0, .arr 4 (([] : List (List Value)) ++ List.replicate (IntKind.wrap .i64 (p1 - (IntKind.wrap .i64 (0 - 0)))).toNat (enc_isii ((0, ByteArray.empty, 0, 0) : Int × ByteArray × Int × Int))))]⟩) (C := True) (by kernel_rfl) trivial trivial ?_
      refine AX.ret ?_
      refine fin_wk (Wk.trunc 4 0 1 (lo := 0 + (0 : Int).toNat) (len := (0 : Int).toNat - (0 : Int).toNat) (sz := 4) (es := ([] : List (List Value)) ++ List.replicate (IntKind.wrap .i64 (p1 - (IntKind.wrap .i64 (0 - 0)))).toNat (enc_isii ((0, ByteArray.empty, 0, 0) : Int × ByteArray × Int × Int))) (by kernel_rfl) (by kernel_rfl) (Nat.le_of_ble_eq_true (by kernel_rfl)) (by kernel_rfl) rfl) ?_
      refine fin_wk (Wk.swap 0 1 (Nat.le_of_ble_eq_true (by kernel_rfl)) (Nat.le_of_ble_eq_true (by kernel_rfl)) rfl) ?_
      refine fin_wk (Wk.forget [4] [0] (s' := ⟨[(4, .sl 0 0 ((0 : Int).toNat - (0 : Int).toNat))], [(0, .arr 4 (((([] : List (List Value)) ++ List.replicate (IntKind.wrap .i64 (p1 - (IntKind.wrap .i64 (0 - 0)))).toNat (enc_isii ((0, ByteArray.empty, 0, 0) : Int × ByteArray × Int × Int))).drop (0 + (0 : Int).toNat)).take ((0 : Int).toNat - (0 : Int).toNat)))]⟩) (by kernel_rfl)) ?_
      refine fin_wk (Wk.of_eq (congrArg (fun z => (⟨[(4, .sl 0 0 ((0 : Int).toNat - (0 : Int).toNat))], [(0, .arr 4 (z))]⟩ : S)) (part_can (enc := enc_isii) (rep_can (IntKind.wrap .i64 (p1 - (IntKind.wrap .i64 (0 - 0)))).toNat ((0, ByteArray.empty, 0, 0) : Int × ByteArray × Int × Int) : ([] : List (List Value)) ++ List.replicate (IntKind.wrap .i64 (p1 - (IntKind.wrap .i64 (0 - 0)))).toNat (enc_isii ((0, ByteArray.empty, 0, 0) : Int × ByteArray × Int × Int)) = List.map enc_isii (List.replicate (IntKind.wrap .i64 (p1 - (IntKind.wrap .i64 (0 - 0)))).toNat ((0, ByteArray.empty, 0, 0) : Int × ByteArray × Int × Int))) (0 : Int) (0 : Int)))) ?_
      refine fin_wk (Wk.of_eq (congrArg (fun z => (⟨[(4, .sl 0 0 z)], [(0, .arr 4 (List.map enc_isii (sub (List.replicate (IntKind.wrap .i64 (p1 - (IntKind.wrap .i64 (0 - 0)))).toNat ((0, ByteArray.empty, 0, 0) : Int × ByteArray × Int × Int)) (0 : Int) (0 : Int))))]⟩ : S)) (part_len ((rfl : (List.replicate (IntKind.wrap .i64 (p1 - (IntKind.wrap .i64 (0 - 0)))).toNat ((0, ByteArray.empty, 0, 0) : Int × ByteArray × Int × Int)).length = (List.replicate (IntKind.wrap .i64 (p1 - (IntKind.wrap .i64 (0 - 0)))).toNat ((0, ByteArray.empty, 0, 0) : Int × ByteArray × Int × Int)).length)) g7))) ?_
      have hr := Option.some.inj h
      subst hr
      exact ⟨_, Wk.refl _, .inr rfl, ⟨[0], by kernel_rfl, ⟨rfl, trivial⟩, [.sl 0 0 ((sub (List.replicate (IntKind.wrap .i64 (p1 - (IntKind.wrap .i64 (0 - 0)))).toNat ((0, ByteArray.empty, 0, 0) : Int × ByteArray × Int × Int)) (0 : Int) (0 : Int)).length)], by kernel_rfl, by kernel_rfl⟩⟩
    · replace h := cd_f b3 h
      refine AX.condF (v2) (by kernel_rfl) b3 ?_
      refine AX.skip ?_
      refine AX.seq ?_
      refine AX.reg (its := []) [4] [] (s1 := ⟨[(4, .v (.slice none 0 0))], []⟩) (C := True) (by kernel_rfl) trivial trivial ?_
      refine AX.ret ?_
      refine fin_wk (Wk.mat 4 0 4 (by kernel_rfl) (Nat.le_of_ble_eq_true (by kernel_rfl)) (by kernel_rfl) rfl) ?_
      refine fin_wk (Wk.forget [4] [0] (s' := ⟨[(4, .sl 0 0 (([] : List (Int × ByteArray × Int × Int)).length))], [(0, .arr 4 (List.map enc_isii ([] : List (Int × ByteArray × Int × Int))))]⟩) (by kernel_rfl)) ?_
      have hr := Option.some.inj h
      subst hr
      exact ⟨_, Wk.refl _, .inr rfl, ⟨[0], by kernel_rfl, ⟨rfl, trivial⟩, [.sl 0 0 (([] : List (Int × ByteArray × Int × Int)).length)], by kernel_rfl, by kernel_rfl⟩⟩

theorem s_slices_Concat_x3isiiisiiisii (p1 : List (Int × ByteArray × Int × Int)) (p2 : List (Int × ByteArray × Int × Int)) (p3 : List (Int × ByteArray × Int × Int)) (r : List (Int × ByteArray × Int × Int)) (h : m_slices_Concat_x3isiiisiiisii p1 p2 p3 = some r) :
    Eng.Spec Try.prog 78 [.bx [.bs false 4 (List.map enc_isii p1), .bs false 4 (List.map enc_isii p2), .bs false 4 (List.map enc_isii p3)]] [] (.sl 0 0 r.length) [.arr 4 (List.map enc_isii r)] := by
  unfold m_slices_Concat_x3isiiisiiisii at h
  refine Eng.Spec.body Try.func78 (by kernel_rfl) rfl (by kernel_rfl) ?_
  refine AX.wkpost ?_
  refine AX.seq ?_
  refine AX.reg (its := []) [0] [] (s1 := ⟨[(0, .bx [.bs false 4 (List.map enc_isii p1), .bs false 4 (List.map enc_isii p2), .bs false 4 (List.map enc_isii p3)])], []⟩) (C := True) (by kernel_rfl) trivial trivial ?_
  refine AX.seq ?_
  refine AX.reg (its := []) [0, 3] [] (s1 := ⟨[(0, .bx [.bs false 4 (List.map enc_isii p1), .bs false 4 (List.map enc_isii p2), .bs false 4 (List.map enc_isii p3)]), (3, .v (.int .i64 0))], []⟩) (C := True) (by kernel_rfl) trivial trivial ?_
  refine AX.seq ?_
  refine AX.seq ?_
  refine AX.reg (its := []) [0, 3, 9, 10, 11] [] (s1 := ⟨[(0, .bx [.bs false 4 (List.map enc_isii p1), .bs false 4 (List.map enc_isii p2), .bs false 4 (List.map enc_isii p3)]), (3, .v (.int .i64 0)), (9, .bx [.bs false 4 (List.map enc_isii p1), .bs false 4 (List.map enc_isii p2), .bs false 4 (List.map enc_isii p3)]), (10, .v (.int .i64 3)), (11, .v (.int .i64 0))], []⟩) (C := True) (by kernel_rfl) trivial trivial ?_
  refine AX.block ?_
  refine AXL.start ?_
  refine AXL.step ?_
  refine AX.seq ?_
  refine AX.reg (its := []) [0, 3, 9, 10, 11, 12] [] (s1 := ⟨[(0, .bx [.bs false 4 (List.map enc_isii p1), .bs false 4 (List.map enc_isii p2), .bs false 4 (List.map enc_isii p3)]), (3, .v (.int .i64 0)), (9, .bx [.bs false 4 (List.map enc_isii p1), .bs false 4 (List.map enc_isii p2), .bs false 4 (List.map enc_isii p3)]), (10, .v (.int .i64 3)), (11, .v (.int .i64 0)), (12, .v (.bool true))], []⟩) (C := True) (by kernel_rfl) trivial trivial ?_
  refine AX.seq ?_
  refine AX.cond_true (by kernel_rfl) ?_
  refine AX.skip ?_
  refine AX.seq ?_
  refine AX.block ?_
  refine AX.seq ?_
  refine AX.reg (its := []) [0, 3, 5, 9, 10, 11] [] (s1 := ⟨[(0, .bx [.bs false 4 (List.map enc_isii p1), .bs false 4 (List.map enc_isii p2), .bs false 4 (List.map enc_isii p3)]), (3, .v (.int .i64 0)), (5, .bs false 4 (List.map enc_isii p1)), (9, .bx [.bs false 4 (List.map enc_isii p1), .bs false 4 (List.map enc_isii p2), .bs false 4 (List.map enc_isii p3)]), (10, .v (.int .i64 3)), (11, .v (.int .i64 0))], []⟩) (C := ((0 : Int) ≤ 0 ∧ (0 : Int) < ((3 : Nat) : Int)) ∧ True) (by kernel_rfl) ⟨(by decide), trivial⟩ trivial ?_
  refine AX.seq ?_
  refine AX.reg (its := [.auto {}, .auto {}, .auto { y := some (.v (.int .i64 (p1.length : Int))) }, .auto { raw := true }]) [0, 3, 9, 10, 11] [] (s1 := ⟨[(0, .bx [.bs false 4 (List.map enc_isii p1), .bs false 4 (List.map enc_isii p2), .bs false 4 (List.map enc_isii p3)]), (3, .v (.int .i64 (IntKind.wrap .i64 (0 + (p1.length : Int))))), (9, .bx [.bs false 4 (List.map enc_isii p1), .bs false 4 (List.map enc_isii p2), .bs false 4 (List.map enc_isii p3)]), (10, .v (.int .i64 3)), (11, .v (.int .i64 0))], []⟩) (C := (True ∧ (AV.v (.int .i64 ((List.map enc_isii p1).length : Int)) = AV.v (.int .i64 (p1.length : Int)))) ∧ True) (by kernel_rfl) ⟨⟨trivial, len_map enc_isii p1⟩, trivial⟩ trivial ?_
  refine AX.seq ?_
  refine AX.reg (its := []) [0, 3, 9, 10, 11, 20] [] (s1 := ⟨[(0, .bx [.bs false 4 (List.map enc_isii p1), .bs false 4 (List.map enc_isii p2), .bs false 4 (List.map enc_isii p3)]), (3, .v (.int .i64 (IntKind.wrap .i64 (0 + (p1.length : Int))))), (9, .bx [.bs false 4 (List.map enc_isii p1), .bs false 4 (List.map enc_isii p2), .bs false 4 (List.map enc_isii p3)]), (10, .v (.int .i64 3)), (11, .v (.int .i64 0)), (20, .v (.bool (decide ((IntKind.wrap .i64 (0 + (p1.length : Int))) < 0))))], []⟩) (C := True) (by kernel_rfl) trivial trivial ?_
  rcases bool_cases (decide ((IntKind.wrap .i64 (0 + (p1.length : Int))) < 0)) with b1 | b1
  · replace h := cd_t b1 h
    refine AX.condT (decide ((IntKind.wrap .i64 (0 + (p1.length : Int))) < 0)) (by kernel_rfl) b1 ?_
    cases h
  · replace h := cd_f b1 h
    refine AX.condF (decide ((IntKind.wrap .i64 (0 + (p1.length : Int))) < 0)) (by kernel_rfl) b1 ?_
    refine AX.skip ?_
    refine AX.reg (its := [.auto { raw := true }]) [0, 3, 9, 10, 11] [] (s1 := ⟨[(0, .bx [.bs false 4 (List.map enc_isii p1), .bs false 4 (List.map enc_isii p2), .bs false 4 (List.map enc_isii p3)]), (3, .v (.int .i64 (IntKind.wrap .i64 (0 + (p1.length : Int))))), (9, .bx [.bs false 4 (List.map enc_isii p1), .bs false 4 (List.map enc_isii p2), .bs false 4 (List.map enc_isii p3)]), (10, .v (.int .i64 3)), (11, .v (.int .i64 1))], []⟩) (C := True) (by kernel_rfl) trivial trivial ?_
    refine AXL.step ?_
    refine AX.seq ?_
    refine AX.reg (its := []) [0, 3, 9, 10, 11, 12] [] (s1 := ⟨[(0, .bx [.bs false 4 (List.map enc_isii p1), .bs false 4 (List.map enc_isii p2), .bs false 4 (List.map enc_isii p3)]), (3, .v (.int .i64 (IntKind.wrap .i64 (0 + (p1.length : Int))))), (9, .bx [.bs false 4 (List.map enc_isii p1), .bs false 4 (List.map enc_isii p2), .bs false 4 (List.map enc_isii p3)]), (10, .v (.int .i64 3)), (11, .v (.int .i64 1)), (12, .v (.bool true))], []⟩) (C := True) (by kernel_rfl) trivial trivial ?_
    refine AX.seq ?_
    refine AX.cond_true (by kernel_rfl) ?_
    refine AX.skip ?_
    refine AX.seq ?_
    refine AX.block ?_
    refine AX.seq ?_
    refine AX.reg (its := []) [0, 3, 5, 9, 10, 11] [] (s1 := ⟨[(0, .bx [.bs false 4 (List.map enc_isii p1), .bs false 4 (List.map enc_isii p2), .bs false 4 (List.map enc_isii p3)]), (3, .v (.int .i64 (IntKind.wrap .i64 (0 + (p1.length : Int))))), (5, .bs false 4 (List.map enc_isii p2)), (9, .bx [.bs false 4 (List.map enc_isii p1), .bs false 4 (List.map enc_isii p2), .bs false 4 (List.map enc_isii p3)]), (10, .v (.int .i64 3)), (11, .v (.int .i64 1))], []⟩) (C := ((0 : Int) ≤ 1 ∧ (1 : Int) < ((3 : Nat) : Int)) ∧ True) (by kernel_rfl) ⟨(by decide), trivial⟩ trivial ?_
    refine AX.seq ?_
    obtain ⟨v4, q2, h⟩ := nm_e h
    refine AX.reg (its := [.auto {}, .auto {}, .auto { y := some (.v (.int .i64 (p2.length : Int))) }, .auto { y := some (.v (.int .i64 v4)), raw := true }]) [0, 3, 9, 10, 11] [] (s1 := ⟨[(0, .bx [.bs false 4 (List.map enc_isii p1), .bs false 4 (List.map enc_isii p2), .bs false 4 (List.map enc_isii p3)]), (3, .v (.int .i64 v4)), (9, .bx [.bs false 4 (List.map enc_isii p1), .bs false 4 (List.map enc_isii p2), .bs false 4 (List.map enc_isii p3)]), (10, .v (.int .i64 3)), (11, .v (.int .i64 1))], []⟩) (C := (True ∧ (AV.v (.int .i64 ((List.map enc_isii p2).length : Int)) = AV.v (.int .i64 (p2.length : Int)))) ∧ ((True) ∧ ((.v (.int .i64 (IntKind.wrap .i64 ((IntKind.wrap .i64 (0 + (p1.length : Int))) + (p2.length : Int)))) : AV) = (.v (.int .i64 v4) : AV))) ∧ True) (by kernel_rfl) ⟨⟨trivial, len_map enc_isii p2⟩, ⟨⟨trivial, (congrArg (fun z => AV.v (.int .i64 z)) q2)⟩, trivial⟩⟩ trivial ?_
    refine AX.seq ?_
    refine AX.reg (its := []) [0, 3, 9, 10, 11, 20] [] (s1 := ⟨[(0, .bx [.bs false 4 (List.map enc_isii p1), .bs false 4 (List.map enc_isii p2), .bs false 4 (List.map enc_isii p3)]), (3, .v (.int .i64 v4)), (9, .bx [.bs false 4 (List.map enc_isii p1), .bs false 4 (List.map enc_isii p2), .bs false 4 (List.map enc_isii p3)]), (10, .v (.int .i64 3)), (11, .v (.int .i64 1)), (20, .v (.bool (decide (v4 < 0))))], []⟩) (C := True) (by kernel_rfl) trivial trivial ?_
    rcases bool_cases (decide (v4 < 0)) with b3 | b3
    · replace h := cd_t b3 h
      refine AX.condT (decide (v4 < 0)) (by kernel_rfl) b3 ?_
      cases h
    · replace h := cd_f b3 h
      refine AX.condF (decide (v4 < 0)) (by kernel_rfl) b3 ?_
      refine AX.skip ?_
      refine AX.reg (its := [.auto { raw := true }]) [0, 3, 9, 10, 11] [] (s1 := ⟨[(0, .bx [.bs false 4 (List.map enc_isii p1), .bs false 4 (List.map enc_isii p2), .bs false 4 (List.map enc_isii p3)]), (3, .v (.int .i64 v4)), (9, .bx [.bs false 4 (List.map enc_isii p1), .bs false 4 (List.map enc_isii p2), .bs false 4 (List.map enc_isii p3)]), (10, .v (.int .i64 3)), (11, .v (.int .i64 2))], []⟩) (C := True) (by kernel_rfl) trivial trivial ?_
      refine AXL.step ?_
      refine AX.seq ?_
      refine AX.reg (its := []) [0, 3, 9, 10, 11, 12] [] (s1 := ⟨[(0, .bx [.bs false 4 (List.map enc_isii p1), .bs false 4 (List.map enc_isii p2), .bs false 4 (List.map enc_isii p3)]), (3, .v (.int .i64 v4)), (9, .bx [.bs false 4 (List.map enc_isii p1), .bs false 4 (List.map enc_isii p2), .bs false 4 (List.map enc_isii p3)]), (10, .v (.int .i64 3)), (11, .v (.int .i64 2)), (12, .v (.bool true))], []⟩) (C := True) (by kernel_rfl) trivial trivial ?_
      refine AX.seq ?_
      refine AX.cond_true (by kernel_rfl) ?_
      refine AX.skip ?_
      refine AX.seq ?_
      refine AX.block ?_
      refine AX.seq ?_
      refine AX.reg (its := []) [0, 3, 5, 9, 10, 11] [] (s1 := ⟨[(0, .bx [.bs false 4 (List.map enc_isii p1), .bs false 4 (List.map enc_isii p2), .bs false 4 (List.map enc_isii p3)]), (3, .v (.int .i64 v4)), (5, .bs false 4 (List.map enc_isii p3)), (9, .bx [.bs false 4 (List.map enc_isii p1), .bs false 4 (List.map enc_isii p2), .bs false 4 (List.map enc_isii p3)]), (10, .v (.int .i64 3)), (11, .v (.int .i64 2))], []⟩) (C := ((0 : Int) ≤ 2 ∧ (2 : Int) < ((3 : Nat) : Int)) ∧ True) (by kernel_rfl) ⟨(by decide), trivial⟩ trivial ?_
      refine AX.seq ?_
      refine AX.reg (its := [.auto {}, .auto {}, .auto { y := some (.v (.int .i64 (p3.length : Int))) }, .auto { raw := true }]) [0, 3, 9, 10, 11] [] (s1 := ⟨[(0, .bx [.bs false 4 (List.map enc_isii p1), .bs false 4 (List.map enc_isii p2), .bs false 4 (List.map enc_isii p3)]), (3, .v (.int .i64 (IntKind.wrap .i64 (v4 + (p3.length : Int))))), (9, .bx [.bs false 4 (List.map enc_isii p1), .bs false 4 (List.map enc_isii p2), .bs false 4 (List.map enc_isii p3)]), (10, .v (.int .i64 3)), (11, .v (.int .i64 2))], []⟩) (C := (True ∧ (AV.v (.int .i64 ((List.map enc_isii p3).length : Int)) = AV.v (.int .i64 (p3.length : Int)))) ∧ True) (by kernel_rfl) ⟨⟨trivial, len_map enc_isii p3⟩, trivial⟩ trivial ?_
      refine AX.seq ?_
      refine AX.reg (its := []) [0, 3, 9, 10, 11, 20] [] (s1 := ⟨[(0, .bx [.bs false 4 (List.map enc_isii p1), .bs false 4 (List.map enc_isii p2), .bs false 4 (List.map enc_isii p3)]), (3, .v (.int .i64 (IntKind.wrap .i64 (v4 + (p3.length : Int))))), (9, .bx [.bs false 4 (List.map enc_isii p1), .bs false 4 (List.map enc_isii p2), .bs false 4 (List.map enc_isii p3)]), (10, .v (.int .i64 3)), (11, .v (.int .i64 2)), (20, .v (.bool (decide ((IntKind.wrap .i64 (v4 + (p3.length : Int))) < 0))))], []⟩) (C := True) (by kernel_rfl) trivial trivial ?_
      rcases bool_cases (decide ((IntKind.wrap .i64 (v4 + (p3.length : Int))) < 0)) with b4 | b4
      · replace h := cd_t b4 h
        refine AX.condT (decide ((IntKind.wrap .i64 (v4 + (p3.length : Int))) < 0)) (by kernel_rfl) b4 ?_
        cases h
      · replace h := cd_f b4 h
        refine AX.condF (decide ((IntKind.wrap .i64 (v4 + (p3.length : Int))) < 0)) (by kernel_rfl) b4 ?_
        refine AX.skip ?_
        refine AX.reg (its := [.auto { raw := true }]) [0, 3, 9, 10, 11] [] (s1 := ⟨[(0, .bx [.bs false 4 (List.map enc_isii p1), .bs false 4 (List.map enc_isii p2), .bs false 4 (List.map enc_isii p3)]), (3, .v (.int .i64 (IntKind.wrap .i64 (v4 + (p3.length : Int))))), (9, .bx [.bs false 4 (List.map enc_isii p1), .bs false 4 (List.map enc_isii p2), .bs false 4 (List.map enc_isii p3)]), (10, .v (.int .i64 3)), (11, .v (.int .i64 3))], []⟩) (C := True) (by kernel_rfl) trivial trivial ?_
        refine AXL.step ?_
        refine AX.seq ?_
        refine AX.reg (its := []) [0, 3, 9, 10, 11, 12] [] (s1 := ⟨[(0, .bx [.bs false 4 (List.map enc_isii p1), .bs false 4 (List.map enc_isii p2), .bs false 4 (List.map enc_isii p3)]), (3, .v (.int .i64 (IntKind.wrap .i64 (v4 + (p3.length : Int))))), (9, .bx [.bs false 4 (List.map enc_isii p1), .bs false 4 (List.map enc_isii p2), .bs false 4 (List.map enc_isii p3)]), (10, .v (.int .i64 3)), (11, .v (.int .i64 3)), (12, .v (.bool false))], []⟩) (C := True) (by kernel_rfl) trivial trivial ?_
        refine AX.seq ?_
        refine AX.cond_false (by kernel_rfl) ?_
        refine AX.exit ?_
        refine AX.seq ?_
        obtain ⟨x5, e5, h⟩ := bd_e h
        refine AX.reg (its := [.auto {}, .call 92 [.v (.slice none 0 0), .v (.int .i64 (IntKind.wrap .i64 (v4 + (p3.length : Int))))] (handO (rho ([] ++ [0])) [] [] ++ []) (callEv [] [0] (.sl 0 0 x5.length) [.arr 4 (List.map enc_isii x5)])]) [0, 6] [0] (s1 := ⟨[(0, .bx [.bs false 4 (List.map enc_isii p1), .bs false 4 (List.map enc_isii p2), .bs false 4 (List.map enc_isii p3)]), (6, .sl 0 0 x5.length)], [(0, .arr 4 (List.map enc_isii x5))]⟩) (C := ((([.v (.slice none 0 0), .v (.int .i64 (IntKind.wrap .i64 (v4 + (p3.length : Int))))] : List AV) = [.v (.slice none 0 0), .v (.int .i64 (IntKind.wrap .i64 (v4 + (p3.length : Int))))]) ∧ True) ∧ True) (by kernel_rfl) ⟨⟨rfl, trivial⟩, trivial⟩ ⟨call_ok (ks := []) (ns := [0]) (bor := []) (bobjs := []) (s_slices_Grow_nisii (IntKind.wrap .i64 (v4 + (p3.length : Int))) x5 e5) (.cons (.c1 (.c0 (.same _ (by kernel_rfl) (by kernel_rfl)))) (.cons (.c1 (.c0 (.same _ (by kernel_rfl) (by kernel_rfl)))) (.nil))) (by kernel_rfl) trivial, trivial⟩ ?_
        refine AX.seq ?_
        refine AX.seq ?_
        refine AX.reg (its := []) [6, 25, 26, 27] [0] (s1 := ⟨[(6, .sl 0 0 x5.length), (25, .bx [.bs false 4 (List.map enc_isii p1), .bs false 4 (List.map enc_isii p2), .bs false 4 (List.map enc_isii p3)]), (26, .v (.int .i64 3)), (27, .v (.int .i64 0))], [(0, .arr 4 (List.map enc_isii x5))]⟩) (C := True) (by kernel_rfl) trivial trivial ?_
        refine AX.block ?_
        refine AXL.start ?_
        refine AXL.step ?_
        refine AX.seq ?_
        refine AX.reg (its := []) [6, 25, 26, 27, 28] [0] (s1 := ⟨[(6, .sl 0 0 x5.length), (25, .bx [.bs false 4 (List.map enc_isii p1), .bs false 4 (List.map enc_isii p2), .bs false 4 (List.map enc_isii p3)]), (26, .v (.int .i64 3)), (27, .v (.int .i64 0)), (28, .v (.bool true))], [(0, .arr 4 (List.map enc_isii x5))]⟩) (C := True) (by kernel_rfl) trivial trivial ?_
        refine AX.seq ?_
        refine AX.cond_true (by kernel_rfl) ?_
        refine AX.skip ?_
        refine AX.seq ?_
        refine AX.block ?_
        refine AX.seq ?_
        refine AX.reg (its := []) [6, 8, 25, 26, 27] [0] (s1 := ⟨[(6, .sl 0 0 x5.length), (8, .bs false 4 (List.map enc_isii p1)), (25, .bx [.bs false 4 (List.map enc_isii p1), .bs false 4 (List.map enc_isii p2), .bs false 4 (List.map enc_isii p3)]), (26, .v (.int .i64 3)), (27, .v (.int .i64 0))], [(0, .arr 4 (List.map enc_isii x5))]⟩) (C := ((0 : Int) ≤ 0 ∧ (0 : Int) < ((3 : Nat) : Int)) ∧ True) (by kernel_rfl) ⟨(by decide), trivial⟩ trivial ?_
        obtain ⟨g6, h⟩ := gd_e h
        refine AX.reg (its := [.auto {}, .auto {}, .auto { y := some (.sl 1 0 ((x5 ++ p1).length)), els := some (List.map enc_isii x5), nk := 1 }]) [6, 25, 26, 27] [1] (s1 := ⟨[(6, .sl 1 0 ((x5 ++ p1).length)), (25, .bx [.bs false 4 (List.map enc_isii p1), .bs false 4 (List.map enc_isii p2), .bs false 4 (List.map enc_isii p3)]), (26, .v (.int .i64 3)), (27, .v (.int .i64 0))], [(1, .arr 4 (List.map enc_isii x5 ++ List.map enc_isii p1))]⟩) (C := ((((((List.map enc_isii x5).drop 0).take (x5.length) = List.map enc_isii x5) ∧ True) ∧ (List.map enc_isii x5).length + (List.map enc_isii p1).length ≤ 1099511627776) ∧ (AV.sl 1 0 (List.map enc_isii x5 ++ List.map enc_isii p1).length = AV.sl 1 0 (x5 ++ p1).length)) ∧ True) (by kernel_rfl) ⟨⟨⟨⟨(dt_all (enc := enc_isii) rfl rfl), trivial⟩, (by simp only [List.length_map, List.length_nil, List.length_replicate]; simpa using g6)⟩, sl_len (enc := enc_isii) (app_can (enc := enc_isii) rfl (rfl))⟩, trivial⟩ trivial ?_
        refine AX.reg (its := [.auto { raw := true }]) [6, 25, 26, 27] [1] (s1 := ⟨[(6, .sl 1 0 ((x5 ++ p1).length)), (25, .bx [.bs false 4 (List.map enc_isii p1), .bs false 4 (List.map enc_isii p2), .bs false 4 (List.map enc_isii p3)]), (26, .v (.int .i64 3)), (27, .v (.int .i64 1))], [(1, .arr 4 (List.map enc_isii x5 ++ List.map enc_isii p1))]⟩) (C := True) (by kernel_rfl) trivial trivial ?_
        refine AXL.step ?_
        refine AX.seq ?_
        refine AX.reg (its := []) [6, 25, 26, 27, 28] [1] (s1 := ⟨[(6, .sl 1 0 ((x5 ++ p1).length)), (25, .bx [.bs false 4 (List.map enc_isii p1), .bs false 4 (List.map enc_isii p2), .bs false 4 (List.map enc_isii p3)]), (26, .v (.int .i64 3)), (27, .v (.int .i64 1)), (28, .v (.bool true))], [(1, .arr 4 (List.map enc_isii x5 ++ List.map enc_isii p1))]⟩) (C := True) (by kernel_rfl) trivial trivial ?_
        refine AX.seq ?_
        refine AX.cond_true (by kernel_rfl) ?_
        refine AX.skip ?_
        refine AX.seq ?_
        refine AX.block ?_
        refine AX.seq ?_
        refine AX.reg (its := []) [6, 8, 25, 26, 27] [1] (s1 := ⟨[(6, .sl 1 0 ((x5 ++ p1).length)), (8, .bs false 4 (List.map enc_isii p2)), (25, .bx [.bs false 4 (List.map enc_isii p1), .bs false 4 (List.map enc_isii p2), .bs false 4 (List.map enc_isii p3)]), (26, .v (.int .i64 3)), (27, .v (.int .i64 1))], [(1, .arr 4 (List.map enc_isii x5 ++ List.map enc_isii p1))]⟩) (C := ((0 : Int) ≤ 1 ∧ (1 : Int) < ((3 : Nat) : Int)) ∧ True) (by kernel_rfl) ⟨(by decide), trivial⟩ trivial ?_
        obtain ⟨g7, h⟩ := gd_e h
        refine AX.reg (its := [.auto {}, .auto {}, .auto { y := some (.sl 2 0 (((x5 ++ p1) ++ p2).length)), els := some (List.map enc_isii (x5 ++ p1)), nk := 2 }]) [6, 25, 26, 27] [2] (s1 := ⟨[(6, .sl 2 0 (((x5 ++ p1) ++ p2).length)), (25, .bx [.bs false 4 (List.map enc_isii p1), .bs false 4 (List.map enc_isii p2), .bs false 4 (List.map enc_isii p3)]), (26, .v (.int .i64 3)), (27, .v (.int .i64 1))], [(2, .arr 4 (List.map enc_isii (x5 ++ p1) ++ List.map enc_isii p2))]⟩) (C := ((((((List.map enc_isii x5 ++ List.map enc_isii p1).drop 0).take ((x5 ++ p1).length) = List.map enc_isii (x5 ++ p1)) ∧ True) ∧ (List.map enc_isii (x5 ++ p1)).length + (List.map enc_isii p2).length ≤ 1099511627776) ∧ (AV.sl 2 0 (List.map enc_isii (x5 ++ p1) ++ List.map enc_isii p2).length = AV.sl 2 0 ((x5 ++ p1) ++ p2).length)) ∧ True) (by kernel_rfl) ⟨⟨⟨⟨(dt_all (enc := enc_isii) (app_can (enc := enc_isii) rfl (rfl) : List.map enc_isii x5 ++ List.map enc_isii p1 = List.map enc_isii (x5 ++ p1)) rfl), trivial⟩, (by simp only [List.length_map, List.length_nil, List.length_replicate]; simpa using g7)⟩, sl_len (enc := enc_isii) (app_can (enc := enc_isii) rfl (rfl))⟩, trivial⟩ trivial ?_
        refine AX.reg (its := [.auto { raw := true }]) [6, 25, 26, 27] [2] (s1 := ⟨[(6, .sl 2 0 (((x5 ++ p1) ++ p2).length)), (25, .bx [.bs false 4 (List.map enc_isii p1), .bs false 4 (List.map enc_isii p2), .bs false 4 (List.map enc_isii p3)]), (26, .v (.int .i64 3)), (27, .v (.int .i64 2))], [(2, .arr 4 (List.map enc_isii (x5 ++ p1) ++ List.map enc_isii p2))]⟩) (C := True) (by kernel_rfl) trivial trivial ?_
        refine AXL.step ?_
        refine AX.seq ?_
        refine AX.reg (its := []) [6, 25, 26, 27, 28] [2] (s1 := ⟨[(6, .sl 2 0 (((x5 ++ p1) ++ p2).length)), (25, .bx [.bs false 4 (List.map enc_isii p1), .bs false 4 (List.map enc_isii p2), .bs false 4 (List.map enc_isii p3)]), (26, .v (.int .i64 3)), (27, .v (.int .i64 2)), (28, .v (.bool true))], [(2, .arr 4 (List.map enc_isii (x5 ++ p1) ++ List.map enc_isii p2))]⟩) (C := True) (by kernel_rfl) trivial trivial ?_
        refine AX.seq ?_
        refine AX.cond_true (by kernel_rfl) ?_
        refine AX.skip ?_
        refine AX.seq ?_
        refine AX.block ?_
        refine AX.seq ?_
        refine AX.reg (its := []) [6, 8, 25, 26, 27] [2] (s1 := ⟨[(6, .sl 2 0 (((x5 ++ p1) ++ p2).length)), (8, .bs false 4 (List.map enc_isii p3)), (25, .bx [.bs false 4 (List.map enc_isii p1), .bs false 4 (List.map enc_isii p2), .bs false 4 (List.map enc_isii p3)]), (26, .v (.int .i64 3)), (27, .v (.int .i64 2))], [(2, .arr 4 (List.map enc_isii (x5 ++ p1) ++ List.map enc_isii p2))]⟩) (C := ((0 : Int) ≤ 2 ∧ (2 : Int) < ((3 : Nat) : Int)) ∧ True) (by kernel_rfl) ⟨(by decide), trivial⟩ trivial ?_
        obtain ⟨g8, h⟩ := gd_e h
        refine AX.reg (its := [.auto {}, .auto {}, .auto { y := some (.sl 3 0 ((((x5 ++ p1) ++ p2) ++ p3).length)), els := some (List.map enc_isii ((x5 ++ p1) ++ p2)), nk := 3 }]) [6, 25, 26, 27] [3] (s1 := ⟨[(6, .sl 3 0 ((((x5 ++ p1) ++ p2) ++ p3).length)), (25, .bx [.bs false 4 (List.map enc_isii p1), .bs false 4 (List.map enc_isii p2), .bs false 4 (List.map enc_isii p3)]), (26, .v (.int .i64 3)), (27, .v (.int .i64 2))], [(3, .arr 4 (List.map enc_isii ((x5 ++ p1) ++ p2) ++ List.map enc_isii p3))]⟩) (C := ((((((List.map enc_isii (x5 ++ p1) ++ List.map enc_isii p2).drop 0).take (((x5 ++ p1) ++ p2).length) = List.map enc_isii ((x5 ++ p1) ++ p2)) ∧ True) ∧ (List.map enc_isii ((x5 ++ p1) ++ p2)).length + (List.map enc_isii p3).length ≤ 1099511627776) ∧ (AV.sl 3 0 (List.map enc_isii ((x5 ++ p1) ++ p2) ++ List.map enc_isii p3).length = AV.sl 3 0 (((x5 ++ p1) ++ p2) ++ p3).length)) ∧ True) (by kernel_rfl) ⟨⟨⟨⟨(dt_all (enc := enc_isii) (app_can (enc := enc_isii) rfl (rfl) : List.map enc_isii (x5 ++ p1) ++ List.map enc_isii p2 = List.map enc_isii ((x5 ++ p1) ++ p2)) rfl), trivial⟩, (by simp only [List.length_map, List.length_nil, List.length_replicate]; simpa using g8)⟩, sl_len (enc := enc_isii) (app_can (enc := enc_isii) rfl (rfl))⟩, trivial⟩ trivial ?_
        refine AX.reg (its := [.auto { raw := true }]) [6, 25, 26, 27] [3] (s1 := ⟨[(6, .sl 3 0 ((((x5 ++ p1) ++ p2) ++ p3).length)), (25, .bx [.bs false 4 (List.map enc_isii p1), .bs false 4 (List.map enc_isii p2), .bs false 4 (List.map enc_isii p3)]), (26, .v (.int .i64 3)), (27, .v (.int .i64 3))], [(3, .arr 4 (List.map enc_isii ((x5 ++ p1) ++ p2) ++ List.map enc_isii p3))]⟩) (C := True) (by kernel_rfl) trivial trivial ?_
        refine AXL.step ?_
        refine AX.seq ?_
        refine AX.reg (its := []) [6, 25, 26, 27, 28] [3] (s1 := ⟨[(6, .sl 3 0 ((((x5 ++ p1) ++ p2) ++ p3).length)), (25, .bx [.bs false 4 (List.map enc_isii p1), .bs false 4 (List.map enc_isii p2), .bs false 4 (List.map enc_isii p3)]), (26, .v (.int .i64 3)), (27, .v (.int .i64 3)), (28, .v (.bool false))], [(3, .arr 4 (List.map enc_isii ((x5 ++ p1) ++ p2) ++ List.map enc_isii p3))]⟩) (C := True) (by kernel_rfl) trivial trivial ?_
        refine AX.seq ?_
        refine AX.cond_false (by kernel_rfl) ?_
        refine AX.exit ?_
        refine AX.seq ?_
        refine AX.reg (its := []) [2] [3] (s1 := ⟨[(2, .sl 3 0 ((((x5 ++ p1) ++ p2) ++ p3).length))], [(3, .arr 4 (List.map enc_isii ((x5 ++ p1) ++ p2) ++ List.map enc_isii p3))]⟩) (C := True) (by kernel_rfl) trivial trivial ?_
        refine AX.ret ?_
        refine fin_wk (Wk.swap 0 3 (Nat.le_of_ble_eq_true (by kernel_rfl)) (Nat.le_of_ble_eq_true (by kernel_rfl)) rfl) ?_
        refine fin_wk (Wk.forget [2] [0] (s' := ⟨[(2, .sl 0 0 ((((x5 ++ p1) ++ p2) ++ p3).length))], [(0, .arr 4 (List.map enc_isii ((x5 ++ p1) ++ p2) ++ List.map enc_isii p3))]⟩) (by kernel_rfl)) ?_
        refine fin_wk (Wk.of_eq (congrArg (fun z => (⟨[(2, .sl 0 0 ((((x5 ++ p1) ++ p2) ++ p3).length))], [(0, .arr 4 (z))]⟩ : S)) (app_can (enc := enc_isii) rfl (rfl) : List.map enc_isii ((x5 ++ p1) ++ p2) ++ List.map enc_isii p3 = List.map enc_isii (((x5 ++ p1) ++ p2) ++ p3)))) ?_
        have hr := Option.some.inj h
        subst hr
        exact ⟨_, Wk.refl _, .inr rfl, ⟨[0], by kernel_rfl, ⟨rfl, trivial⟩, [.sl 0 0 ((((x5 ++ p1) ++ p2) ++ p3).length)], by kernel_rfl, by kernel_rfl⟩⟩

theorem s_slices_Clip_isii (p1 : List (Int × ByteArray × Int × Int)) (r : Unit) (h : m_slices_Clip_isii p1 = some r) :
    Eng.Spec Try.prog 41 [.bs false 4 (List.map enc_isii p1)] [] (.bs false 4 (List.map enc_isii (sub p1 (0 : Int) (p1.length : Int)))) [] := by
  unfold m_slices_Clip_isii at h
  refine Eng.Spec.body Try.func41 (by kernel_rfl) rfl (by kernel_rfl) ?_
  refine AX.wkpost ?_
  refine AX.seq ?_
  refine AX.reg (its := []) [0] [] (s1 := ⟨[(0, .bs false 4 (List.map enc_isii p1))], []⟩) (C := True) (by kernel_rfl) trivial trivial ?_
  refine AX.seq ?_
  obtain ⟨g1, h⟩ := gd_e h
  refine AX.reg (its := [.auto {}, .auto {}, .auto { y := some (.v (.int .i64 (p1.length : Int))) }, .auto {}, .auto { y := some (.v (.int .i64 (p1.length : Int))) }, .auto { y := some (.bs false 4 (List.map enc_isii (sub p1 (0 : Int) (p1.length : Int)))) }]) [2] [] (s1 := ⟨[(2, .bs false 4 (List.map enc_isii (sub p1 (0 : Int) (p1.length : Int))))], []⟩) (C := (True ∧ (AV.v (.int .i64 ((List.map enc_isii p1).length : Int)) = AV.v (.int .i64 (p1.length : Int)))) ∧ (True ∧ (AV.v (.int .i64 ((List.map enc_isii p1).length : Int)) = AV.v (.int .i64 (p1.length : Int)))) ∧ ((0 ≤ (0 : Int) ∧ (0 : Int) ≤ (p1.length : Int) ∧ (p1.length : Int) ≤ (p1.length : Int) ∧ (p1.length : Int) ≤ ((List.map enc_isii p1).length : Int)) ∧ (AV.bs false 4 (((List.map enc_isii p1).drop (0 : Int).toNat).take ((p1.length : Int).toNat - (0 : Int).toNat)) = (.bs false 4 (List.map enc_isii (sub p1 (0 : Int) (p1.length : Int))) : AV))) ∧ True) (by kernel_rfl) ⟨⟨trivial, len_map enc_isii p1⟩, ⟨⟨trivial, len_map enc_isii p1⟩, ⟨⟨by first | exact g1 | simpa only [List.length_map] using g1, by first | exact sub_can enc_isii p1 (0 : Int) (p1.length : Int) false 4 | (simp only [List.length_map]; exact sub_can enc_isii p1 (0 : Int) (p1.length : Int) false 4)⟩, trivial⟩⟩⟩ trivial ?_
  refine AX.ret ?_
  refine fin_wk (Wk.forget [2] [] (s' := ⟨[(2, .bs false 4 (List.map enc_isii (sub p1 (0 : Int) (p1.length : Int))))], []⟩) (by kernel_rfl)) ?_
  have hr := Option.some.inj h
  subst hr
  exact ⟨_, Wk.refl _, .inr rfl, ⟨[], by kernel_rfl, trivial, [.bs false 4 (List.map enc_isii (sub p1 (0 : Int) (p1.length : Int)))], by kernel_rfl, by kernel_rfl⟩⟩

theorem s_slices_Clip_hisii (p1 : List (Int × ByteArray × Int × Int)) (r : Unit) (h : m_slices_Clip_hisii p1 = some r) :
    Eng.Spec Try.prog 41 [.sl 0 0 p1.length] [.arr 4 (List.map enc_isii p1)] (.sl 0 0 p1.length) [.arr 4 (List.map enc_isii p1)] := by
  unfold m_slices_Clip_hisii at h
  refine Eng.Spec.body Try.func41 (by kernel_rfl) rfl (by kernel_rfl) ?_
  refine AX.wkpost ?_
  refine AX.seq ?_
  refine AX.reg (its := []) [0] [0] (s1 := ⟨[(0, .sl 0 0 p1.length)], [(0, .arr 4 (List.map enc_isii p1))]⟩) (C := True) (by kernel_rfl) trivial trivial ?_
  refine AX.seq ?_
  refine AX.reg (its := [.auto {}, .auto {}, .auto {}, .auto {}, .auto {}, .auto { y := some (.sl 0 0 p1.length) }]) [2] [0] (s1 := ⟨[(2, .sl 0 0 p1.length)], [(0, .arr 4 (List.map enc_isii p1))]⟩) (C := ((0 ≤ (0 : Int) ∧ (0 : Int) ≤ (p1.length : Int) ∧ (p1.length : Int) ≤ (p1.length : Int) ∧ (p1.length : Int) ≤ (p1.length : Int)) ∧ (AV.sl 0 (0 + (0 : Int).toNat) ((p1.length : Int).toNat - (0 : Int).toNat) = AV.sl 0 0 p1.length)) ∧ True) (by kernel_rfl) ⟨⟨⟨by omega, by omega, by omega, by omega⟩, rfl⟩, trivial⟩ trivial ?_
  refine AX.ret ?_
  refine fin_wk (Wk.forget [2] [0] (s' := ⟨[(2, .sl 0 0 p1.length)], [(0, .arr 4 (List.map enc_isii p1))]⟩) (by kernel_rfl)) ?_
  have hr := Option.some.inj h
  subst hr
  exact ⟨_, Wk.refl _, .inr rfl, ⟨[], by kernel_rfl, ⟨rfl, trivial⟩, [.sl 0 0 p1.length], by kernel_rfl, by kernel_rfl⟩⟩

theorem s_impl_DiffEnums_L1 (p1 : List (ByteArray × Int)) (p2 : List (ByteArray × Int)) (n : Nat) (g : (List (Int × ByteArray × Int × Int)) × (List (Int × ByteArray × Int × Int)) × Int) (out : (List (Int × ByteArray × Int × Int)) × (List (Int × ByteArray × Int × Int))) (h : m_impl_DiffEnums_L1 p1 p2 n g.1 g.2.1 g.2.2 = some out) :
    AX Try.prog 97 0 (codeAt [1, 1, 1, 0, 1, 1] (bodyOf Try.f43)) ((fun g : (List (Int × ByteArray × Int × Int)) × (List (Int × ByteArray × Int × Int)) × Int => (⟨[(2, .pt 0 0), (3, .pt 1 0), (5, .sl 2 0 g.1.length), (6, .sl 3 0 g.2.1.length), (7, .v (.slice none 0 0)), (22, .bs false 2 (List.map enc_si p1)), (23, .v (.int .i64 (p1.length : Int))), (24, .v (.int .i64 g.2.2))], [(0, .box [.bs false 2 (List.map enc_si p1)]), (1, .box [.bs false 2 (List.map enc_si p2)]), (2, .arr 4 (List.map enc_isii g.1)), (3, .arr 4 (List.map enc_isii g.2.1))]⟩ : S)) g) (fun ex s => ex = .exit 0 ∧ s = (fun o : (List (Int × ByteArray × Int × Int)) × (List (Int × ByteArray × Int × Int)) => (⟨[(2, .pt 0 0), (3, .pt 1 0), (5, .sl 2 0 o.1.length), (6, .sl 3 0 o.2.length), (7, .v (.slice none 0 0))], [(0, .box [.bs false 2 (List.map enc_si p1)]), (1, .box [.bs false 2 (List.map enc_si p2)]), (2, .arr 4 (List.map enc_isii o.1)), (3, .arr 4 (List.map enc_isii o.2))]⟩ : S)) out) := by
  refine AX.wkpost ?_
  refine AX.loop (G := Nat × ((List (Int × ByteArray × Int × Int)) × (List (Int × ByteArray × Int × Int)) × Int)) (fun q => (fun g : (List (Int × ByteArray × Int × Int)) × (List (Int × ByteArray × Int × Int)) × Int => (⟨[(2, .pt 0 0), (3, .pt 1 0), (5, .sl 2 0 g.1.length), (6, .sl 3 0 g.2.1.length), (7, .v (.slice none 0 0)), (22, .bs false 2 (List.map enc_si p1)), (23, .v (.int .i64 (p1.length : Int))), (24, .v (.int .i64 g.2.2))], [(0, .box [.bs false 2 (List.map enc_si p1)]), (1, .box [.bs false 2 (List.map enc_si p2)]), (2, .arr 4 (List.map enc_isii g.1)), (3, .arr 4 (List.map enc_isii g.2.1))]⟩ : S)) q.2) (fun q => m_impl_DiffEnums_L1 p1 p2 q.1 q.2.1 q.2.2.1 q.2.2.2 = some out) (fun q => q.1) (n, g) h (Wk.refl _) ?_
  clear h
  rintro ⟨fu, v5, v6, v7⟩ h
  cases fu with
  | zero => cases h
  | succ fu =>
    rw [m_impl_DiffEnums_L1] at h
    refine AX.seq ?_
    refine AX.reg (its := []) [2, 3, 5, 6, 7, 22, 23, 24, 25] [0, 1, 2, 3] (s1 := ⟨[(2, .pt 0 0), (3, .pt 1 0), (5, .sl 2 0 v5.length), (6, .sl 3 0 v6.length), (7, .v (.slice none 0 0)), (22, .bs false 2 (List.map enc_si p1)), (23, .v (.int .i64 (p1.length : Int))), (24, .v (.int .i64 v7)), (25, .v (.bool (decide (v7 < (p1.length : Int)))))], [(0, .box [.bs false 2 (List.map enc_si p1)]), (1, .box [.bs false 2 (List.map enc_si p2)]), (2, .arr 4 (List.map enc_isii v5)), (3, .arr 4 (List.map enc_isii v6))]⟩) (C := True) (by kernel_rfl) trivial trivial ?_
    refine AX.seq ?_
    rcases bool_cases (decide (v7 < (p1.length : Int))) with b5 | b5
    · replace h := cd_t b5 h
      refine AX.condT (decide (v7 < (p1.length : Int))) (by kernel_rfl) b5 ?_
      refine AX.skip ?_
      refine AX.seq ?_
      refine AX.block ?_
      refine AX.seq ?_
      obtain ⟨g6, h⟩ := gd_e h
      refine AX.reg (its := [.auto { y := some (.be 2 (enc_si (gt p1 v7)) 0) }, .auto {}, .auto { nk := 4 }]) [2, 3, 5, 6, 7, 9, 22, 23, 24] [0, 1, 2, 3, 4] (s1 := ⟨[(2, .pt 0 0), (3, .pt 1 0), (5, .sl 2 0 v5.length), (6, .sl 3 0 v6.length), (7, .v (.slice none 0 0)), (9, .pt 4 0), (22, .bs false 2 (List.map enc_si p1)), (23, .v (.int .i64 (p1.length : Int))), (24, .v (.int .i64 v7))], [(0, .box [.bs false 2 (List.map enc_si p1)]), (1, .box [.bs false 2 (List.map enc_si p2)]), (2, .arr 4 (List.map enc_isii v5)), (3, .arr 4 (List.map enc_isii v6)), (4, .box [.v (.string ((gt p1 v7).1)), .v (.int .i64 ((gt p1 v7).2))])]⟩) (C := ((0 ≤ v7 ∧ v7 < ((List.map enc_si p1).length : Int)) ∧ (AV.be 2 ((List.map enc_si p1).getD v7.toNat []) 0 = AV.be 2 (enc_si (gt p1 v7)) 0)) ∧ True) (by kernel_rfl) ⟨idx_bs enc_si p1 v7 2 g6, trivial⟩ trivial ?_
      refine AX.seq ?_
      obtain ⟨x8, e7, h⟩ := bd_e h
      refine AX.reg (its := [.auto {}, .auto {}, .auto {}, .auto {}, .call 68 [.bs false 2 (List.map enc_si p2), .v (.string ((gt p1 v7).1))] (handO (rho ([] ++ [])) [] [] ++ []) (callEv [] [] (.v (.int .i64 x8)) [])]) [2, 3, 5, 6, 7, 9, 10, 22, 23, 24] [0, 1, 2, 3, 4] (s1 := ⟨[(2, .pt 0 0), (3, .pt 1 0), (5, .sl 2 0 v5.length), (6, .sl 3 0 v6.length), (7, .v (.slice none 0 0)), (9, .pt 4 0), (10, .v (.int .i64 x8)), (22, .bs false 2 (List.map enc_si p1)), (23, .v (.int .i64 (p1.length : Int))), (24, .v (.int .i64 v7))], [(0, .box [.bs false 2 (List.map enc_si p1)]), (1, .box [.bs false 2 (List.map enc_si p2)]), (2, .arr 4 (List.map enc_isii v5)), (3, .arr 4 (List.map enc_isii v6)), (4, .box [.v (.string ((gt p1 v7).1)), .v (.int .i64 ((gt p1 v7).2))])]⟩) (C := ((([.bs false 2 (List.map enc_si p2), .v (.string ((gt p1 v7).1))] : List AV) = [.bs false 2 (List.map enc_si p2), .v (.string ((gt p1 v7).1))]) ∧ True) ∧ True) (by kernel_rfl) ⟨⟨rfl, trivial⟩, trivial⟩ ⟨call_ok (ks := []) (ns := []) (bor := []) (bobjs := []) (s_impl_named p2 ((gt p1 v7).1) x8 e7) (.cons (.c1 (.c0 (.same _ (by kernel_rfl) (by kernel_rfl)))) (.cons (.c1 (.c0 (.same _ (by kernel_rfl) (by kernel_rfl)))) (.nil))) (by kernel_rfl) trivial, trivial⟩ ?_
      refine AX.block ?_
      refine AX.seq ?_
      refine AX.reg (its := []) [2, 3, 5, 6, 7, 9, 10, 22, 23, 24, 33] [0, 1, 2, 3, 4] (s1 := ⟨[(2, .pt 0 0), (3, .pt 1 0), (5, .sl 2 0 v5.length), (6, .sl 3 0 v6.length), (7, .v (.slice none 0 0)), (9, .pt 4 0), (10, .v (.int .i64 x8)), (22, .bs false 2 (List.map enc_si p1)), (23, .v (.int .i64 (p1.length : Int))), (24, .v (.int .i64 v7)), (33, .v (.bool (decide (x8 < 0))))], [(0, .box [.bs false 2 (List.map enc_si p1)]), (1, .box [.bs false 2 (List.map enc_si p2)]), (2, .arr 4 (List.map enc_isii v5)), (3, .arr 4 (List.map enc_isii v6)), (4, .box [.v (.string ((gt p1 v7).1)), .v (.int .i64 ((gt p1 v7).2))])]⟩) (C := True) (by kernel_rfl) trivial trivial ?_
      rcases bool_cases (decide (x8 < 0)) with b8 | b8
      · replace h := cd_t b8 h
        refine AX.condT (decide (x8 < 0)) (by kernel_rfl) b8 ?_
        obtain ⟨g9, h⟩ := gd_e h
        refine AX.reg (its := [.auto {}, .auto {}, .auto {}, .auto {}, .auto {}, .auto {}, .auto { nk := 5 }, .auto { y := some (.sl 6 0 ((v5 ++ ([(1, (gt p1 v7).1, (gt p1 v7).2, 0)] : List (Int × ByteArray × Int × Int))).length)), els := some (List.map enc_isii v5), els2 := some (List.map enc_isii ([(1, (gt p1 v7).1, (gt p1 v7).2, 0)] : List (Int × ByteArray × Int × Int))), nk := 6 }]) [2, 3, 5, 6, 7, 22, 23, 24] [0, 1, 3, 6] (s1 := ⟨[(2, .pt 0 0), (3, .pt 1 0), (5, .sl 6 0 ((v5 ++ ([(1, (gt p1 v7).1, (gt p1 v7).2, 0)] : List (Int × ByteArray × Int × Int))).length)), (6, .sl 3 0 v6.length), (7, .v (.slice none 0 0)), (22, .bs false 2 (List.map enc_si p1)), (23, .v (.int .i64 (p1.length : Int))), (24, .v (.int .i64 v7))], [(0, .box [.bs false 2 (List.map enc_si p1)]), (1, .box [.bs false 2 (List.map enc_si p2)]), (3, .arr 4 (List.map enc_isii v6)), (6, .arr 4 (List.map enc_isii v5 ++ List.map enc_isii ([(1, (gt p1 v7).1, (gt p1 v7).2, 0)] : List (Int × ByteArray × Int × Int))))]⟩) (C := ((((((List.map enc_isii v5).drop 0).take (v5.length) = List.map enc_isii v5) ∧ (((List.map enc_isii ([(1, (gt p1 v7).1, (gt p1 v7).2, 0)] : List (Int × ByteArray × Int × Int))).drop 0).take (([(1, (gt p1 v7).1, (gt p1 v7).2, 0)] : List (Int × ByteArray × Int × Int)).length) = List.map enc_isii ([(1, (gt p1 v7).1, (gt p1 v7).2, 0)] : List (Int × ByteArray × Int × Int)))) ∧ (List.map enc_isii v5).length + (List.map enc_isii ([(1, (gt p1 v7).1, (gt p1 v7).2, 0)] : List (Int × ByteArray × Int × Int))).length ≤ 1099511627776) ∧ (AV.sl 6 0 (List.map enc_isii v5 ++ List.map enc_isii ([(1, (gt p1 v7).1, (gt p1 v7).2, 0)] : List (Int × ByteArray × Int × Int))).length = AV.sl 6 0 (v5 ++ ([(1, (gt p1 v7).1, (gt p1 v7).2, 0)] : List (Int × ByteArray × Int × Int))).length)) ∧ True) (by kernel_rfl) ⟨⟨⟨⟨(dt_all (enc := enc_isii) rfl rfl), (dt_all (enc := enc_isii) rfl rfl)⟩, (by simp only [List.length_map, List.length_nil, List.length_replicate]; simpa using g9)⟩, sl_len (enc := enc_isii) (app_can (enc := enc_isii) rfl (rfl))⟩, trivial⟩ trivial ?_
        refine AX.reg (its := [.auto { raw := true }]) [2, 3, 5, 6, 7, 22, 23, 24] [0, 1, 3, 6] (s1 := ⟨[(2, .pt 0 0), (3, .pt 1 0), (5, .sl 6 0 ((v5 ++ ([(1, (gt p1 v7).1, (gt p1 v7).2, 0)] : List (Int × ByteArray × Int × Int))).length)), (6, .sl 3 0 v6.length), (7, .v (.slice none 0 0)), (22, .bs false 2 (List.map enc_si p1)), (23, .v (.int .i64 (p1.length : Int))), (24, .v (.int .i64 (IntKind.wrap .i64 (v7 + 1))))], [(0, .box [.bs false 2 (List.map enc_si p1)]), (1, .box [.bs false 2 (List.map enc_si p2)]), (3, .arr 4 (List.map enc_isii v6)), (6, .arr 4 (List.map enc_isii v5 ++ List.map enc_isii ([(1, (gt p1 v7).1, (gt p1 v7).2, 0)] : List (Int × ByteArray × Int × Int))))]⟩) (C := True) (by kernel_rfl) trivial trivial ?_
        refine ⟨(fu, (v5 ++ ([(1, (gt p1 v7).1, (gt p1 v7).2, 0)] : List (Int × ByteArray × Int × Int)), v6, IntKind.wrap .i64 (v7 + 1))), h, Nat.lt_succ_self _, ?_⟩
        refine Wk.trans (Wk.swap 2 6 (Nat.le_of_ble_eq_true (by kernel_rfl)) (Nat.le_of_ble_eq_true (by kernel_rfl)) rfl) ?_
        refine Wk.trans (Wk.forget [2, 3, 5, 6, 7, 22, 23, 24] [0, 1, 2, 3] (s' := ⟨[(2, .pt 0 0), (3, .pt 1 0), (5, .sl 2 0 ((v5 ++ ([(1, (gt p1 v7).1, (gt p1 v7).2, 0)] : List (Int × ByteArray × Int × Int))).length)), (6, .sl 3 0 v6.length), (7, .v (.slice none 0 0)), (22, .bs false 2 (List.map enc_si p1)), (23, .v (.int .i64 (p1.length : Int))), (24, .v (.int .i64 (IntKind.wrap .i64 (v7 + 1))))], [(0, .box [.bs false 2 (List.map enc_si p1)]), (1, .box [.bs false 2 (List.map enc_si p2)]), (2, .arr 4 (List.map enc_isii v5 ++ List.map enc_isii ([(1, (gt p1 v7).1, (gt p1 v7).2, 0)] : List (Int × ByteArray × Int × Int)))), (3, .arr 4 (List.map enc_isii v6))]⟩) (by kernel_rfl)) ?_
        refine Wk.trans (Wk.of_eq (congrArg (fun z => (⟨[(2, .pt 0 0), (3, .pt 1 0), (5, .sl 2 0 ((v5 ++ ([(1, (gt p1 v7).1, (gt p1 v7).2, 0)] : List (Int × ByteArray × Int × Int))).length)), (6, .sl 3 0 v6.length), (7, .v (.slice none 0 0)), (22, .bs false 2 (List.map enc_si p1)), (23, .v (.int .i64 (p1.length : Int))), (24, .v (.int .i64 (IntKind.wrap .i64 (v7 + 1))))], [(0, .box [.bs false 2 (List.map enc_si p1)]), (1, .box [.bs false 2 (List.map enc_si p2)]), (2, .arr 4 (z)), (3, .arr 4 (List.map enc_isii v6))]⟩ : S)) (app_can (enc := enc_isii) rfl (rfl) : List.map enc_isii v5 ++ List.map enc_isii ([(1, (gt p1 v7).1, (gt p1 v7).2, 0)] : List (Int × ByteArray × Int × Int)) = List.map enc_isii (v5 ++ ([(1, (gt p1 v7).1, (gt p1 v7).2, 0)] : List (Int × ByteArray × Int × Int)))))) ?_
        exact Wk.refl _
      · replace h := cd_f b8 h
        refine AX.condF (decide (x8 < 0)) (by kernel_rfl) b8 ?_
        refine AX.seq ?_
        obtain ⟨g10, h⟩ := gd_e h
        refine AX.drw mixed (its := [.auto {}, .auto {}, .auto {}, .auto { y := some (.be 2 (enc_si (gt p2 x8)) 0) }]) [2, 3, 5, 6, 7, 9, 10, 22, 23, 24, 44] [0, 1, 2, 3, 4] (s1 := ⟨[(2, .pt 0 0), (3, .pt 1 0), (5, .sl 2 0 v5.length), (6, .sl 3 0 v6.length), (7, .v (.slice none 0 0)), (9, .pt 4 0), (10, .v (.int .i64 x8)), (22, .bs false 2 (List.map enc_si p1)), (23, .v (.int .i64 (p1.length : Int))), (24, .v (.int .i64 v7)), (44, .v (.bool (!decide (((gt p2 x8).2) = ((gt p1 v7).2)))))], [(0, .box [.bs false 2 (List.map enc_si p1)]), (1, .box [.bs false 2 (List.map enc_si p2)]), (2, .arr 4 (List.map enc_isii v5)), (3, .arr 4 (List.map enc_isii v6)), (4, .box [.v (.string ((gt p1 v7).1)), .v (.int .i64 ((gt p1 v7).2))])]⟩) (C := ((0 ≤ x8 ∧ x8 < ((List.map enc_si p2).length : Int)) ∧ (AV.be 2 ((List.map enc_si p2).getD x8.toNat []) 0 = AV.be 2 (enc_si (gt p2 x8)) 0)) ∧ True) (by kernel_rfl) ⟨idx_bs enc_si p2 x8 2 g10, trivial⟩ trivial ?_
        rcases bool_cases ((!decide (((gt p2 x8).2) = ((gt p1 v7).2)))) with b11 | b11
        · replace h := cd_t b11 h
          refine AX.condT ((!decide (((gt p2 x8).2) = ((gt p1 v7).2)))) (by kernel_rfl) b11 ?_
          obtain ⟨g12, h⟩ := gd_e h
          refine AX.drw mixed (its := [.auto {}, .auto {}, .auto {}, .auto {}, .auto {}, .auto {}, .auto {}, .auto {}, .auto { y := some (.be 2 (enc_si (gt p2 x8)) 0) }, .auto {}, .auto {}, .auto {}, .auto { nk := 5 }, .auto { y := some (.sl 6 0 ((v6 ++ ([(2, (gt p1 v7).1, (gt p1 v7).2, (gt p2 x8).2)] : List (Int × ByteArray × Int × Int))).length)), els := some (List.map enc_isii v6), els2 := some (List.map enc_isii ([(2, (gt p1 v7).1, (gt p1 v7).2, (gt p2 x8).2)] : List (Int × ByteArray × Int × Int))), nk := 6 }]) [2, 3, 5, 6, 7, 22, 23, 24] [0, 1, 2, 6] (s1 := ⟨[(2, .pt 0 0), (3, .pt 1 0), (5, .sl 2 0 v5.length), (6, .sl 6 0 ((v6 ++ ([(2, (gt p1 v7).1, (gt p1 v7).2, (gt p2 x8).2)] : List (Int × ByteArray × Int × Int))).length)), (7, .v (.slice none 0 0)), (22, .bs false 2 (List.map enc_si p1)), (23, .v (.int .i64 (p1.length : Int))), (24, .v (.int .i64 v7))], [(0, .box [.bs false 2 (List.map enc_si p1)]), (1, .box [.bs false 2 (List.map enc_si p2)]), (2, .arr 4 (List.map enc_isii v5)), (6, .arr 4 (List.map enc_isii v6 ++ List.map enc_isii ([(2, (gt p1 v7).1, (gt p1 v7).2, (gt p2 x8).2)] : List (Int × ByteArray × Int × Int))))]⟩) (C := ((0 ≤ x8 ∧ x8 < ((List.map enc_si p2).length : Int)) ∧ (AV.be 2 ((List.map enc_si p2).getD x8.toNat []) 0 = AV.be 2 (enc_si (gt p2 x8)) 0)) ∧ ((((((List.map enc_isii v6).drop 0).take (v6.length) = List.map enc_isii v6) ∧ (((List.map enc_isii ([(2, (gt p1 v7).1, (gt p1 v7).2, (gt p2 x8).2)] : List (Int × ByteArray × Int × Int))).drop 0).take (([(2, (gt p1 v7).1, (gt p1 v7).2, (gt p2 x8).2)] : List (Int × ByteArray × Int × Int)).length) = List.map enc_isii ([(2, (gt p1 v7).1, (gt p1 v7).2, (gt p2 x8).2)] : List (Int × ByteArray × Int × Int)))) ∧ (List.map enc_isii v6).length + (List.map enc_isii ([(2, (gt p1 v7).1, (gt p1 v7).2, (gt p2 x8).2)] : List (Int × ByteArray × Int × Int))).length ≤ 1099511627776) ∧ (AV.sl 6 0 (List.map enc_isii v6 ++ List.map enc_isii ([(2, (gt p1 v7).1, (gt p1 v7).2, (gt p2 x8).2)] : List (Int × ByteArray × Int × Int))).length = AV.sl 6 0 (v6 ++ ([(2, (gt p1 v7).1, (gt p1 v7).2, (gt p2 x8).2)] : List (Int × ByteArray × Int × Int))).length)) ∧ True) (by kernel_rfl) ⟨idx_bs enc_si p2 x8 2 g10, ⟨⟨⟨⟨(dt_all (enc := enc_isii) rfl rfl), (dt_all (enc := enc_isii) rfl rfl)⟩, (by simp only [List.length_map, List.length_nil, List.length_replicate]; simpa using g12)⟩, sl_len (enc := enc_isii) (app_can (enc := enc_isii) rfl (rfl))⟩, trivial⟩⟩ trivial ?_
          refine AX.reg (its := [.auto { raw := true }]) [2, 3, 5, 6, 7, 22, 23, 24] [0, 1, 2, 6] (s1 := ⟨[(2, .pt 0 0), (3, .pt 1 0), (5, .sl 2 0 v5.length), (6, .sl 6 0 ((v6 ++ ([(2, (gt p1 v7).1, (gt p1 v7).2, (gt p2 x8).2)] : List (Int × ByteArray × Int × Int))).length)), (7, .v (.slice none 0 0)), (22, .bs false 2 (List.map enc_si p1)), (23, .v (.int .i64 (p1.length : Int))), (24, .v (.int .i64 (IntKind.wrap .i64 (v7 + 1))))], [(0, .box [.bs false 2 (List.map enc_si p1)]), (1, .box [.bs false 2 (List.map enc_si p2)]), (2, .arr 4 (List.map enc_isii v5)), (6, .arr 4 (List.map enc_isii v6 ++ List.map enc_isii ([(2, (gt p1 v7).1, (gt p1 v7).2, (gt p2 x8).2)] : List (Int × ByteArray × Int × Int))))]⟩) (C := True) (by kernel_rfl) trivial trivial ?_
          refine ⟨(fu, (v5, v6 ++ ([(2, (gt p1 v7).1, (gt p1 v7).2, (gt p2 x8).2)] : List (Int × ByteArray × Int × Int)), IntKind.wrap .i64 (v7 + 1))), h, Nat.lt_succ_self _, ?_⟩
          refine Wk.trans (Wk.swap 3 6 (Nat.le_of_ble_eq_true (by kernel_rfl)) (Nat.le_of_ble_eq_true (by kernel_rfl)) rfl) ?_
          refine Wk.trans (Wk.forget [2, 3, 5, 6, 7, 22, 23, 24] [0, 1, 2, 3] (s' := ⟨[(2, .pt 0 0), (3, .pt 1 0), (5, .sl 2 0 v5.length), (6, .sl 3 0 ((v6 ++ ([(2, (gt p1 v7).1, (gt p1 v7).2, (gt p2 x8).2)] : List (Int × ByteArray × Int × Int))).length)), (7, .v (.slice none 0 0)), (22, .bs false 2 (List.map enc_si p1)), (23, .v (.int .i64 (p1.length : Int))), (24, .v (.int .i64 (IntKind.wrap .i64 (v7 + 1))))], [(0, .box [.bs false 2 (List.map enc_si p1)]), (1, .box [.bs false 2 (List.map enc_si p2)]), (2, .arr 4 (List.map enc_isii v5)), (3, .arr 4 (List.map enc_isii v6 ++ List.map enc_isii ([(2, (gt p1 v7).1, (gt p1 v7).2, (gt p2 x8).2)] : List (Int × ByteArray × Int × Int))))]⟩) (by kernel_rfl)) ?_
          refine Wk.trans (Wk.of_eq (congrArg (fun z => (⟨[(2, .pt 0 0), (3, .pt 1 0), (5, .sl 2 0 v5.length), (6, .sl 3 0 ((v6 ++ ([(2, (gt p1 v7).1, (gt p1 v7).2, (gt p2 x8).2)] : List (Int × ByteArray × Int × Int))).length)), (7, .v (.slice none 0 0)), (22, .bs false 2 (List.map enc_si p1)), (23, .v (.int .i64 (p1.length : Int))), (24, .v (.int .i64 (IntKind.wrap .i64 (v7 + 1))))], [(0, .box [.bs false 2 (List.map enc_si p1)]), (1, .box [.bs false 2 (List.map enc_si p2)]), (2, .arr 4 (List.map enc_isii v5)), (3, .arr 4 (z))]⟩ : S)) (app_can (enc := enc_isii) rfl (rfl) : List.map enc_isii v6 ++ List.map enc_isii ([(2, (gt p1 v7).1, (gt p1 v7).2, (gt p2 x8).2)] : List (Int × ByteArray × Int × Int)) = List.map enc_isii (v6 ++ ([(2, (gt p1 v7).1, (gt p1 v7).2, (gt p2 x8).2)] : List (Int × ByteArray × Int × Int)))))) ?_
          exact Wk.refl _
        · replace h := cd_f b11 h
          refine AX.condF ((!decide (((gt p2 x8).2) = ((gt p1 v7).2)))) (by kernel_rfl) b11 ?_
          refine AX.skip ?_
          refine AX.reg (its := [.auto { raw := true }]) [2, 3, 5, 6, 7, 22, 23, 24] [0, 1, 2, 3] (s1 := ⟨[(2, .pt 0 0), (3, .pt 1 0), (5, .sl 2 0 v5.length), (6, .sl 3 0 v6.length), (7, .v (.slice none 0 0)), (22, .bs false 2 (List.map enc_si p1)), (23, .v (.int .i64 (p1.length : Int))), (24, .v (.int .i64 (IntKind.wrap .i64 (v7 + 1))))], [(0, .box [.bs false 2 (List.map enc_si p1)]), (1, .box [.bs false 2 (List.map enc_si p2)]), (2, .arr 4 (List.map enc_isii v5)), (3, .arr 4 (List.map enc_isii v6))]⟩) (C := True) (by kernel_rfl) trivial trivial ?_
          refine ⟨(fu, (v5, v6, IntKind.wrap .i64 (v7 + 1))), h, Nat.lt_succ_self _, ?_⟩
          refine Wk.trans (Wk.forget [2, 3, 5, 6, 7, 22, 23, 24] [0, 1, 2, 3] (s' := ⟨[(2, .pt 0 0), (3, .pt 1 0), (5, .sl 2 0 v5.length), (6, .sl 3 0 v6.length), (7, .v (.slice none 0 0)), (22, .bs false 2 (List.map enc_si p1)), (23, .v (.int .i64 (p1.length : Int))), (24, .v (.int .i64 (IntKind.wrap .i64 (v7 + 1))))], [(0, .box [.bs false 2 (List.map enc_si p1)]), (1, .box [.bs false 2 (List.map enc_si p2)]), (2, .arr 4 (List.map enc_isii v5)), (3, .arr 4 (List.map enc_isii v6))]⟩) (by kernel_rfl)) ?_
          exact Wk.refl _
    · replace h := cd_f b5 h
      refine AX.condF (decide (v7 < (p1.length : Int))) (by kernel_rfl) b5 ?_
      refine AX.exit ?_
      refine fin_wk (Wk.forget [2, 3, 5, 6, 7] [0, 1, 2, 3] (s' := ⟨[(2, .pt 0 0), (3, .pt 1 0), (5, .sl 2 0 v5.length), (6, .sl 3 0 v6.length), (7, .v (.slice none 0 0))], [(0, .box [.bs false 2 (List.map enc_si p1)]), (1, .box [.bs false 2 (List.map enc_si p2)]), (2, .arr 4 (List.map enc_isii v5)), (3, .arr 4 (List.map enc_isii v6))]⟩) (by kernel_rfl)) ?_
      have hr := Option.some.inj h
      subst hr
      exact ⟨_, Wk.refl _, ⟨rfl, rfl⟩⟩

theorem s_impl_DiffEnums_L2 (p1 : List (ByteArray × Int)) (p2 : List (ByteArray × Int)) (x9 : (List (Int × ByteArray × Int × Int)) × (List (Int × ByteArray × Int × Int))) (n : Nat) (g : (List (Int × ByteArray × Int × Int)) × Int) (out : List (Int × ByteArray × Int × Int)) (h : m_impl_DiffEnums_L2 p1 p2 x9 n g.1 g.2 = some out) :
    AX Try.prog 97 0 (codeAt [1, 1, 1, 1, 0, 1, 1] (bodyOf Try.f43)) ((fun g : (List (Int × ByteArray × Int × Int)) × Int => (⟨[(2, .pt 0 0), (5, .sl 1 0 x9.1.length), (6, .sl 2 0 x9.2.length), (7, .sl 3 0 g.1.length), (70, .bs false 2 (List.map enc_si p2)), (71, .v (.int .i64 (p2.length : Int))), (72, .v (.int .i64 g.2))], [(0, .box [.bs false 2 (List.map enc_si p1)]), (1, .arr 4 (List.map enc_isii x9.1)), (2, .arr 4 (List.map enc_isii x9.2)), (3, .arr 4 (List.map enc_isii g.1))]⟩ : S)) g) (fun ex s => ex = .exit 3 ∧ s = (fun o : List (Int × ByteArray × Int × Int) => (⟨[(5, .sl 0 0 x9.1.length), (6, .sl 1 0 x9.2.length), (7, .sl 2 0 o.length)], [(0, .arr 4 (List.map enc_isii x9.1)), (1, .arr 4 (List.map enc_isii x9.2)), (2, .arr 4 (List.map enc_isii o))]⟩ : S)) out) := by
  refine AX.wkpost ?_
  refine AX.loop (G := Nat × ((List (Int × ByteArray × Int × Int)) × Int)) (fun q => (fun g : (List (Int × ByteArray × Int × Int)) × Int => (⟨[(2, .pt 0 0), (5, .sl 1 0 x9.1.length), (6, .sl 2 0 x9.2.length), (7, .sl 3 0 g.1.length), (70, .bs false 2 (List.map enc_si p2)), (71, .v (.int .i64 (p2.length : Int))), (72, .v (.int .i64 g.2))], [(0, .box [.bs false 2 (List.map enc_si p1)]), (1, .arr 4 (List.map enc_isii x9.1)), (2, .arr 4 (List.map enc_isii x9.2)), (3, .arr 4 (List.map enc_isii g.1))]⟩ : S)) q.2) (fun q => m_impl_DiffEnums_L2 p1 p2 x9 q.1 q.2.1 q.2.2 = some out) (fun q => q.1) (n, g) h (Wk.refl _) ?_
  clear h
  rintro ⟨fu, v10, v11⟩ h
  cases fu with
  | zero => cases h
  | succ fu =>
    rw [m_impl_DiffEnums_L2] at h
    refine AX.seq ?_
    refine AX.reg (its := []) [2, 5, 6, 7, 70, 71, 72, 73] [0, 1, 2, 3] (s1 := ⟨[(2, .pt 0 0), (5, .sl 1 0 x9.1.length), (6, .sl 2 0 x9.2.length), (7, .sl 3 0 v10.length), (70, .bs false 2 (List.map enc_si p2)), (71, .v (.int .i64 (p2.length : Int))), (72, .v (.int .i64 v11)), (73, .v (.bool (decide (v11 < (p2.length : Int)))))], [(0, .box [.bs false 2 (List.map enc_si p1)]), (1, .arr 4 (List.map enc_isii x9.1)), (2, .arr 4 (List.map enc_isii x9.2)), (3, .arr 4 (List.map enc_isii v10))]⟩) (C := True) (by kernel_rfl) trivial trivial ?_
    refine AX.seq ?_
    rcases bool_cases (decide (v11 < (p2.length : Int))) with b14 | b14
    · replace h := cd_t b14 h
      refine AX.condT (decide (v11 < (p2.length : Int))) (by kernel_rfl) b14 ?_
      refine AX.skip ?_
      refine AX.seq ?_
      refine AX.block ?_
      refine AX.seq ?_
      obtain ⟨g15, h⟩ := gd_e h
      refine AX.reg (its := [.auto { y := some (.be 2 (enc_si (gt p2 v11)) 0) }, .auto {}, .auto { nk := 4 }]) [2, 5, 6, 7, 12, 70, 71, 72] [0, 1, 2, 3, 4] (s1 := ⟨[(2, .pt 0 0), (5, .sl 1 0 x9.1.length), (6, .sl 2 0 x9.2.length), (7, .sl 3 0 v10.length), (12, .pt 4 0), (70, .bs false 2 (List.map enc_si p2)), (71, .v (.int .i64 (p2.length : Int))), (72, .v (.int .i64 v11))], [(0, .box [.bs false 2 (List.map enc_si p1)]), (1, .arr 4 (List.map enc_isii x9.1)), (2, .arr 4 (List.map enc_isii x9.2)), (3, .arr 4 (List.map enc_isii v10)), (4, .box [.v (.string ((gt p2 v11).1)), .v (.int .i64 ((gt p2 v11).2))])]⟩) (C := ((0 ≤ v11 ∧ v11 < ((List.map enc_si p2).length : Int)) ∧ (AV.be 2 ((List.map enc_si p2).getD v11.toNat []) 0 = AV.be 2 (enc_si (gt p2 v11)) 0)) ∧ True) (by kernel_rfl) ⟨idx_bs enc_si p2 v11 2 g15, trivial⟩ trivial ?_
      refine AX.seq ?_
      obtain ⟨x12, e16, h⟩ := bd_e h
      refine AX.reg (its := [.auto {}, .auto {}, .auto {}, .auto {}, .call 68 [.bs false 2 (List.map enc_si p1), .v (.string ((gt p2 v11).1))] (handO (rho ([] ++ [])) [] [] ++ []) (callEv [] [] (.v (.int .i64 x12)) [])]) [2, 5, 6, 7, 12, 70, 71, 72, 81] [0, 1, 2, 3, 4] (s1 := ⟨[(2, .pt 0 0), (5, .sl 1 0 x9.1.length), (6, .sl 2 0 x9.2.length), (7, .sl 3 0 v10.length), (12, .pt 4 0), (70, .bs false 2 (List.map enc_si p2)), (71, .v (.int .i64 (p2.length : Int))), (72, .v (.int .i64 v11)), (81, .v (.bool (decide (x12 < 0))))], [(0, .box [.bs false 2 (List.map enc_si p1)]), (1, .arr 4 (List.map enc_isii x9.1)), (2, .arr 4 (List.map enc_isii x9.2)), (3, .arr 4 (List.map enc_isii v10)), (4, .box [.v (.string ((gt p2 v11).1)), .v (.int .i64 ((gt p2 v11).2))])]⟩) (C := ((([.bs false 2 (List.map enc_si p1), .v (.string ((gt p2 v11).1))] : List AV) = [.bs false 2 (List.map enc_si p1), .v (.string ((gt p2 v11).1))]) ∧ True) ∧ True) (by kernel_rfl) ⟨⟨rfl, trivial⟩, trivial⟩ ⟨call_ok (ks := []) (ns := []) (bor := []) (bobjs := []) (s_impl_named p1 ((gt p2 v11).1) x12 e16) (.cons (.c1 (.c0 (.same _ (by kernel_rfl) (by kernel_rfl)))) (.cons (.c1 (.c0 (.same _ (by kernel_rfl) (by kernel_rfl)))) (.nil))) (by kernel_rfl) trivial, trivial⟩ ?_
      rcases bool_cases (decide (x12 < 0)) with b17 | b17
      · replace h := cd_t b17 h
        refine AX.condT (decide (x12 < 0)) (by kernel_rfl) b17 ?_
        obtain ⟨g18, h⟩ := gd_e h
        refine AX.reg (its := [.auto {}, .auto {}, .auto {}, .auto {}, .auto {}, .auto {}, .auto { nk := 5 }, .auto { y := some (.sl 6 0 ((v10 ++ ([(0, (gt p2 v11).1, 0, (gt p2 v11).2)] : List (Int × ByteArray × Int × Int))).length)), els := some (List.map enc_isii v10), els2 := some (List.map enc_isii ([(0, (gt p2 v11).1, 0, (gt p2 v11).2)] : List (Int × ByteArray × Int × Int))), nk := 6 }]) [2, 5, 6, 7, 70, 71, 72] [0, 1, 2, 6] (s1 := ⟨[(2, .pt 0 0), (5, .sl 1 0 x9.1.length), (6, .sl 2 0 x9.2.length), (7, .sl 6 0 ((v10 ++ ([(0, (gt p2 v11).1, 0, (gt p2 v11).2)] : List (Int × ByteArray × Int × Int))).length)), (70, .bs false 2 (List.map enc_si p2)), (71, .v (.int .i64 (p2.length : Int))), (72, .v (.int .i64 v11))], [(0, .box [.bs false 2 (List.map enc_si p1)]), (1, .arr 4 (List.map enc_isii x9.1)), (2, .arr 4 (List.map enc_isii x9.2)), (6, .arr 4 (List.map enc_isii v10 ++ List.map enc_isii ([(0, (gt p2 v11).1, 0, (gt p2 v11).2)] : List (Int × ByteArray × Int × Int))))]⟩) (C := ((((((List.map enc_isii v10).drop 0).take (v10.length) = List.map enc_isii v10) ∧ (((List.map enc_isii ([(0, (gt p2 v11).1, 0, (gt p2 v11).2)] : List (Int × ByteArray × Int × Int))).drop 0).take (([(0, (gt p2 v11).1, 0, (gt p2 v11).2)] : List (Int × ByteArray × Int × Int)).length) = List.map enc_isii ([(0, (gt p2 v11).1, 0, (gt p2 v11).2)] : List (Int × ByteArray × Int × Int)))) ∧ (List.map enc_isii v10).length + (List.map enc_isii ([(0, (gt p2 v11).1, 0, (gt p2 v11).2)] : List (Int × ByteArray × Int × Int))).length ≤ 1099511627776) ∧ (AV.sl 6 0 (List.map enc_isii v10 ++ List.map enc_isii ([(0, (gt p2 v11).1, 0, (gt p2 v11).2)] : List (Int × ByteArray × Int × Int))).length = AV.sl 6 0 (v10 ++ ([(0, (gt p2 v11).1, 0, (gt p2 v11).2)] : List (Int × ByteArray × Int × Int))).length)) ∧ True) (by kernel_rfl) ⟨⟨⟨⟨(dt_all (enc := enc_isii) rfl rfl), (dt_all (enc := enc_isii) rfl rfl)⟩, (by simp only [List.length_map, List.length_nil, List.length_replicate]; simpa using g18)⟩, sl_len (enc := enc_isii) (app_can (enc := enc_isii) rfl (rfl))⟩, trivial⟩ trivial ?_
        refine AX.reg (its := [.auto { raw := true }]) [2, 5, 6, 7, 70, 71, 72] [0, 1, 2, 6] (s1 := ⟨[(2, .pt 0 0), (5, .sl 1 0 x9.1.length), (6, .sl 2 0 x9.2.length), (7, .sl 6 0 ((v10 ++ ([(0, (gt p2 v11).1, 0, (gt p2 v11).2)] : List (Int × ByteArray × Int × Int))).length)), (70, .bs false 2 (List.map enc_si p2)), (71, .v (.int .i64 (p2.length : Int))), (72, .v (.int .i64 (IntKind.wrap .i64 (v11 + 1))))], [(0, .box [.bs false 2 (List.map enc_si p1)]), (1, .arr 4 (List.map enc_isii x9.1)), (2, .arr 4 (List.map enc_isii x9.2)), (6, .arr 4 (List.map enc_isii v10 ++ List.map enc_isii ([(0, (gt p2 v11).1, 0, (gt p2 v11).2)] : List (Int × ByteArray × Int × Int))))]⟩) (C := True) (by kernel_rfl) trivial trivial ?_
        refine ⟨(fu, (v10 ++ ([(0, (gt p2 v11).1, 0, (gt p2 v11).2)] : List (Int × ByteArray × Int × Int)), IntKind.wrap .i64 (v11 + 1))), h, Nat.lt_succ_self _, ?_⟩
        refine Wk.trans (Wk.swap 3 6 (Nat.le_of_ble_eq_true (by kernel_rfl)) (Nat.le_of_ble_eq_true (by kernel_rfl)) rfl) ?_
        refine Wk.trans (Wk.forget [2, 5, 6, 7, 70, 71, 72] [0, 1, 2, 3] (s' := ⟨[(2, .pt 0 0), (5, .sl 1 0 x9.1.length), (6, .sl 2 0 x9.2.length), (7, .sl 3 0 ((v10 ++ ([(0, (gt p2 v11).1, 0, (gt p2 v11).2)] : List (Int × ByteArray × Int × Int))).length)), (70, .bs false 2 (List.map enc_si p2)), (71, .v (.int .i64 (p2.length : Int))), (72, .v (.int .i64 (IntKind.wrap .i64 (v11 + 1))))], [(0, .box [.bs false 2 (List.map enc_si p1)]), (1, .arr 4 (List.map enc_isii x9.1)), (2, .arr 4 (List.map enc_isii x9.2)), (3, .arr 4 (List.map enc_isii v10 ++ List.map enc_isii ([(0, (gt p2 v11).1, 0, (gt p2 v11).2)] : List (Int × ByteArray × Int × Int))))]⟩) (by kernel_rfl)) ?_
        refine Wk.trans (Wk.of_eq (congrArg (fun z => (⟨[(2, .pt 0 0), (5, .sl 1 0 x9.1.length), (6, .sl 2 0 x9.2.length), (7, .sl 3 0 ((v10 ++ ([(0, (gt p2 v11).1, 0, (gt p2 v11).2)] : List (Int × ByteArray × Int × Int))).length)), (70, .bs false 2 (List.map enc_si p2)), (71, .v (.int .i64 (p2.length : Int))), (72, .v (.int .i64 (IntKind.wrap .i64 (v11 + 1))))], [(0, .box [.bs false 2 (List.map enc_si p1)]), (1, .arr 4 (List.map enc_isii x9.1)), (2, .arr 4 (List.map enc_isii x9.2)), (3, .arr 4 (z))]⟩ : S)) (app_can (enc := enc_isii) rfl (rfl) : List.map enc_isii v10 ++ List.map enc_isii ([(0, (gt p2 v11).1, 0, (gt p2 v11).2)] : List (Int × ByteArray × Int × Int)) = List.map enc_isii (v10 ++ ([(0, (gt p2 v11).1, 0, (gt p2 v11).2)] : List (Int × ByteArray × Int × Int)))))) ?_
        exact Wk.refl _
      · replace h := cd_f b17 h
        refine AX.condF (decide (x12 < 0)) (by kernel_rfl) b17 ?_
        refine AX.skip ?_
        refine AX.reg (its := [.auto { raw := true }]) [2, 5, 6, 7, 70, 71, 72] [0, 1, 2, 3] (s1 := ⟨[(2, .pt 0 0), (5, .sl 1 0 x9.1.length), (6, .sl 2 0 x9.2.length), (7, .sl 3 0 v10.length), (70, .bs false 2 (List.map enc_si p2)), (71, .v (.int .i64 (p2.length : Int))), (72, .v (.int .i64 (IntKind.wrap .i64 (v11 + 1))))], [(0, .box [.bs false 2 (List.map enc_si p1)]), (1, .arr 4 (List.map enc_isii x9.1)), (2, .arr 4 (List.map enc_isii x9.2)), (3, .arr 4 (List.map enc_isii v10))]⟩) (C := True) (by kernel_rfl) trivial trivial ?_
        refine ⟨(fu, (v10, IntKind.wrap .i64 (v11 + 1))), h, Nat.lt_succ_self _, ?_⟩
        refine Wk.trans (Wk.forget [2, 5, 6, 7, 70, 71, 72] [0, 1, 2, 3] (s' := ⟨[(2, .pt 0 0), (5, .sl 1 0 x9.1.length), (6, .sl 2 0 x9.2.length), (7, .sl 3 0 v10.length), (70, .bs false 2 (List.map enc_si p2)), (71, .v (.int .i64 (p2.length : Int))), (72, .v (.int .i64 (IntKind.wrap .i64 (v11 + 1))))], [(0, .box [.bs false 2 (List.map enc_si p1)]), (1, .arr 4 (List.map enc_isii x9.1)), (2, .arr 4 (List.map enc_isii x9.2)), (3, .arr 4 (List.map enc_isii v10))]⟩) (by kernel_rfl)) ?_
        exact Wk.refl _
    · replace h := cd_f b14 h
      refine AX.condF (decide (v11 < (p2.length : Int))) (by kernel_rfl) b14 ?_
      refine AX.exit ?_
      refine fin_wk (Wk.swap 0 1 (Nat.le_of_ble_eq_true (by kernel_rfl)) (Nat.le_of_ble_eq_true (by kernel_rfl)) rfl) ?_
      refine fin_wk (Wk.swap 1 2 (Nat.le_of_ble_eq_true (by kernel_rfl)) (Nat.le_of_ble_eq_true (by kernel_rfl)) rfl) ?_
      refine fin_wk (Wk.swap 2 3 (Nat.le_of_ble_eq_true (by kernel_rfl)) (Nat.le_of_ble_eq_true (by kernel_rfl)) rfl) ?_
      refine fin_wk (Wk.forget [5, 6, 7] [0, 1, 2] (s' := ⟨[(5, .sl 0 0 x9.1.length), (6, .sl 1 0 x9.2.length), (7, .sl 2 0 v10.length)], [(0, .arr 4 (List.map enc_isii x9.1)), (1, .arr 4 (List.map enc_isii x9.2)), (2, .arr 4 (List.map enc_isii v10))]⟩) (by kernel_rfl)) ?_
      have hr := Option.some.inj h
      subst hr
      exact ⟨_, Wk.refl _, ⟨rfl, rfl⟩⟩

theorem s_impl_DiffEnums (p1 : List (ByteArray × Int)) (p2 : List (ByteArray × Int)) (r : List (Int × ByteArray × Int × Int)) (h : m_impl_DiffEnums p1 p2 = some r) :
    Eng.Spec Try.prog 43 [.agg [.bs false 2 (List.map enc_si p1)], .agg [.bs false 2 (List.map enc_si p2)]] [] (.sl 0 0 r.length) [.arr 4 (List.map enc_isii r)] := by
  unfold m_impl_DiffEnums at h
  refine Eng.Spec.body Try.func43 (by kernel_rfl) rfl (by kernel_rfl) ?_
  refine AX.wkpost ?_
  refine AX.seq ?_
  refine AX.reg (its := [.auto { nk := 0 }, .auto { nk := 1 }]) [2, 3] [0, 1] (s1 := ⟨[(2, .pt 0 0), (3, .pt 1 0)], [(0, .box [.bs false 2 (List.map enc_si p1)]), (1, .box [.bs false 2 (List.map enc_si p2)])]⟩) (C := True) (by kernel_rfl) trivial trivial ?_
  refine AX.seq ?_
  refine AX.seq ?_
  obtain ⟨x3, e1, h⟩ := bd_e h
  rcases bool_cases ((!x3)) with b2 | b2
  · replace h := cd_t b2 h
    refine AX.reg (its := [.auto {}, .call 13 [.agg [.bs false 2 (List.map enc_si p1)]] (handO (rho ([] ++ [])) [] [] ++ []) (callEv [] [] (.v (.bool x3)) []), .auto { y := some (.v (.bool true)) }]) [2, 3, 20] [0, 1] (s1 := ⟨[(2, .pt 0 0), (3, .pt 1 0), (20, .v (.bool true))], [(0, .box [.bs false 2 (List.map enc_si p1)]), (1, .box [.bs false 2 (List.map enc_si p2)])]⟩) (C := ((([.agg [.bs false 2 (List.map enc_si p1)]] : List AV) = [.agg [.bs false 2 (List.map enc_si p1)]]) ∧ True) ∧ ((True) ∧ ((.v (.bool (!x3)) : AV) = (.v (.bool true) : AV))) ∧ True) (by kernel_rfl) ⟨⟨rfl, trivial⟩, ⟨⟨trivial, (congrArg (fun z => AV.v (.bool z)) b2)⟩, trivial⟩⟩ ⟨call_ok (ks := []) (ns := []) (bor := []) (bobjs := []) (s_impl_ValidEnum p1 x3 e1) (.cons (.c1 (.agg (.cons (.same _ (by kernel_rfl) (by kernel_rfl)) (.nil)))) (.nil)) (by kernel_rfl) trivial, trivial⟩ ?_
    refine AX.cond_true (by kernel_rfl) ?_
    refine AX.seq ?_
    refine AX.reg (its := []) [4] [] (s1 := ⟨[(4, .v (.slice none 0 0))], []⟩) (C := True) (by kernel_rfl) trivial trivial ?_
    refine AX.ret ?_
    refine fin_wk (Wk.mat 4 0 4 (by kernel_rfl) (Nat.le_of_ble_eq_true (by kernel_rfl)) (by kernel_rfl) rfl) ?_
    refine fin_wk (Wk.forget [4] [0] (s' := ⟨[(4, .sl 0 0 (([] : List (Int × ByteArray × Int × Int)).length))], [(0, .arr 4 (List.map enc_isii ([] : List (Int × ByteArray × Int × Int))))]⟩) (by kernel_rfl)) ?_
    have hr := Option.some.inj h
    subst hr
    exact ⟨_, Wk.refl _, .inr rfl, ⟨[0], by kernel_rfl, ⟨rfl, trivial⟩, [.sl 0 0 (([] : List (Int × ByteArray × Int × Int)).length)], by kernel_rfl, by kernel_rfl⟩⟩
  · replace h := cd_f b2 h
    obtain ⟨x4, e3, h⟩ := bd_e h
    refine AX.reg (its := [.auto {}, .call 13 [.agg [.bs false 2 (List.map enc_si p1)]] (handO (rho ([] ++ [])) [] [] ++ []) (callEv [] [] (.v (.bool x3)) []), .auto { y := some (.v (.bool false)) }, .auto {}, .auto {}, .call 13 [.agg [.bs false 2 (List.map enc_si p2)]] (handO (rho ([] ++ [])) [] [] ++ []) (callEv [] [] (.v (.bool x4)) [])]) [2, 3, 20] [0, 1] (s1 := ⟨[(2, .pt 0 0), (3, .pt 1 0), (20, .v (.bool (!x4)))], [(0, .box [.bs false 2 (List.map enc_si p1)]), (1, .box [.bs false 2 (List.map enc_si p2)])]⟩) (C := ((([.agg [.bs false 2 (List.map enc_si p1)]] : List AV) = [.agg [.bs false 2 (List.map enc_si p1)]]) ∧ True) ∧ ((True) ∧ ((.v (.bool (!x3)) : AV) = (.v (.bool false) : AV))) ∧ ((([.agg [.bs false 2 (List.map enc_si p2)]] : List AV) = [.agg [.bs false 2 (List.map enc_si p2)]]) ∧ True) ∧ True) (by kernel_rfl) ⟨⟨rfl, trivial⟩, ⟨⟨trivial, (congrArg (fun z => AV.v (.bool z)) b2)⟩, ⟨⟨rfl, trivial⟩, trivial⟩⟩⟩ ⟨call_ok (ks := []) (ns := []) (bor := []) (bobjs := []) (s_impl_ValidEnum p1 x3 e1) (.cons (.c1 (.agg (.cons (.same _ (by kernel_rfl) (by kernel_rfl)) (.nil)))) (.nil)) (by kernel_rfl) trivial, ⟨call_ok (ks := []) (ns := []) (bor := []) (bobjs := []) (s_impl_ValidEnum p2 x4 e3) (.cons (.c1 (.agg (.cons (.same _ (by kernel_rfl) (by kernel_rfl)) (.nil)))) (.nil)) (by kernel_rfl) trivial, trivial⟩⟩ ?_
    rcases bool_cases ((!x4)) with b4 | b4
    · replace h := cd_t b4 h
      refine AX.condT ((!x4)) (by kernel_rfl) b4 ?_
      refine AX.seq ?_
      refine AX.reg (its := []) [4] [] (s1 := ⟨[(4, .v (.slice none 0 0))], []⟩) (C := True) (by kernel_rfl) trivial trivial ?_
      refine AX.ret ?_
      refine fin_wk (Wk.mat 4 0 4 (by kernel_rfl) (Nat.le_of_ble_eq_true (by kernel_rfl)) (by kernel_rfl) rfl) ?_
      refine fin_wk (Wk.forget [4] [0] (s' := ⟨[(4, .sl 0 0 (([] : List (Int × ByteArray × Int × Int)).length))], [(0, .arr 4 (List.map enc_isii ([] : List (Int × ByteArray × Int × Int))))]⟩) (by kernel_rfl)) ?_
      have hr := Option.some.inj h
      subst hr
      exact ⟨_, Wk.refl _, .inr rfl, ⟨[0], by kernel_rfl, ⟨rfl, trivial⟩, [.sl 0 0 (([] : List (Int × ByteArray × Int × Int)).length)], by kernel_rfl, by kernel_rfl⟩⟩
    · replace h := cd_f b4 h
      refine AX.condF ((!x4)) (by kernel_rfl) b4 ?_
      refine AX.skip ?_
      refine AX.seq ?_
      refine AX.reg (its := []) [2, 3, 5, 6, 7] [0, 1] (s1 := ⟨[(2, .pt 0 0), (3, .pt 1 0), (5, .v (.slice none 0 0)), (6, .v (.slice none 0 0)), (7, .v (.slice none 0 0))], [(0, .box [.bs false 2 (List.map enc_si p1)]), (1, .box [.bs false 2 (List.map enc_si p2)])]⟩) (C := True) (by kernel_rfl) trivial trivial ?_
      refine AX.seq ?_
      refine AX.seq ?_
      refine AX.reg (its := [.auto {}, .auto {}, .auto { y := some (.v (.int .i64 (p1.length : Int))) }]) [2, 3, 5, 6, 7, 22, 23, 24] [0, 1] (s1 := ⟨[(2, .pt 0 0), (3, .pt 1 0), (5, .v (.slice none 0 0)), (6, .v (.slice none 0 0)), (7, .v (.slice none 0 0)), (22, .bs false 2 (List.map enc_si p1)), (23, .v (.int .i64 (p1.length : Int))), (24, .v (.int .i64 0))], [(0, .box [.bs false 2 (List.map enc_si p1)]), (1, .box [.bs false 2 (List.map enc_si p2)])]⟩) (C := (True ∧ (AV.v (.int .i64 ((List.map enc_si p1).length : Int)) = AV.v (.int .i64 (p1.length : Int)))) ∧ True) (by kernel_rfl) ⟨⟨trivial, len_map enc_si p1⟩, trivial⟩ trivial ?_
      refine AX.block ?_
      obtain ⟨x9, e13, h⟩ := bd_e h
      refine AX.wk (Wk.mat 5 2 4 (by kernel_rfl) (Nat.le_of_ble_eq_true (by kernel_rfl)) (by kernel_rfl) rfl) ?_
      refine AX.wk (Wk.mat 6 3 4 (by kernel_rfl) (Nat.le_of_ble_eq_true (by kernel_rfl)) (by kernel_rfl) rfl) ?_
      refine AX.wk (Wk.forget [2, 3, 5, 6, 7, 22, 23, 24] [0, 1, 2, 3] (s' := ⟨[(2, .pt 0 0), (3, .pt 1 0), (5, .sl 2 0 (([] : List (Int × ByteArray × Int × Int)).length)), (6, .sl 3 0 (([] : List (Int × ByteArray × Int × Int)).length)), (7, .v (.slice none 0 0)), (22, .bs false 2 (List.map enc_si p1)), (23, .v (.int .i64 (p1.length : Int))), (24, .v (.int .i64 0))], [(0, .box [.bs false 2 (List.map enc_si p1)]), (1, .box [.bs false 2 (List.map enc_si p2)]), (2, .arr 4 (List.map enc_isii ([] : List (Int × ByteArray × Int × Int)))), (3, .arr 4 (List.map enc_isii ([] : List (Int × ByteArray × Int × Int))))]⟩) (by kernel_rfl)) ?_
      refine AX.mono (s_impl_DiffEnums_L1 p1 p2 FU (([] : List (Int × ByteArray × Int × Int)), ([] : List (Int × ByteArray × Int × Int)), 0) x9 e13) ?_
      rintro _ _ ⟨rfl, rfl⟩
      skip
      refine AX.seq ?_
      refine AX.seq ?_
      refine AX.reg (its := [.auto {}, .auto {}, .auto { y := some (.v (.int .i64 (p2.length : Int))) }]) [2, 5, 6, 7, 70, 71, 72] [0, 2, 3] (s1 := ⟨[(2, .pt 0 0), (5, .sl 2 0 x9.1.length), (6, .sl 3 0 x9.2.length), (7, .v (.slice none 0 0)), (70, .bs false 2 (List.map enc_si p2)), (71, .v (.int .i64 (p2.length : Int))), (72, .v (.int .i64 0))], [(0, .box [.bs false 2 (List.map enc_si p1)]), (2, .arr 4 (List.map enc_isii x9.1)), (3, .arr 4 (List.map enc_isii x9.2))]⟩) (C := (True ∧ (AV.v (.int .i64 ((List.map enc_si p2).length : Int)) = AV.v (.int .i64 (p2.length : Int)))) ∧ True) (by kernel_rfl) ⟨⟨trivial, len_map enc_si p2⟩, trivial⟩ trivial ?_
      refine AX.block ?_
      obtain ⟨x13, e19, h⟩ := bd_e h
      refine AX.wk (Wk.mat 7 4 4 (by kernel_rfl) (Nat.le_of_ble_eq_true (by kernel_rfl)) (by kernel_rfl) rfl) ?_
      refine AX.wk (Wk.swap 1 2 (Nat.le_of_ble_eq_true (by kernel_rfl)) (Nat.le_of_ble_eq_true (by kernel_rfl)) rfl) ?_
      refine AX.wk (Wk.swap 2 3 (Nat.le_of_ble_eq_true (by kernel_rfl)) (Nat.le_of_ble_eq_true (by kernel_rfl)) rfl) ?_
      refine AX.wk (Wk.swap 3 4 (Nat.le_of_ble_eq_true (by kernel_rfl)) (Nat.le_of_ble_eq_true (by kernel_rfl)) rfl) ?_
      refine AX.wk (Wk.forget [2, 5, 6, 7, 70, 71, 72] [0, 1, 2, 3] (s' := ⟨[(2, .pt 0 0), (5, .sl 1 0 x9.1.length), (6, .sl 2 0 x9.2.length), (7, .sl 3 0 (([] : List (Int × ByteArray × Int × Int)).length)), (70, .bs false 2 (List.map enc_si p2)), (71, .v (.int .i64 (p2.length : Int))), (72, .v (.int .i64 0))], [(0, .box [.bs false 2 (List.map enc_si p1)]), (1, .arr 4 (List.map enc_isii x9.1)), (2, .arr 4 (List.map enc_isii x9.2)), (3, .arr 4 (List.map enc_isii ([] : List (Int × ByteArray × Int × Int))))]⟩) (by kernel_rfl)) ?_
      refine AX.mono (s_impl_DiffEnums_L2 p1 p2 x9 FU (([] : List (Int × ByteArray × Int × Int)), 0) x13 e19) ?_
      rintro _ _ ⟨rfl, rfl⟩
      skip
      refine AX.seq ?_
      obtain ⟨x14, e20, h⟩ := bd_e h
      obtain ⟨x15, e21, h⟩ := bd_e h
      refine AX.reg (its := [.auto {}, .auto {}, .auto {}, .auto { raw := true, nk := 3 }, .call 78 [.sx 3 3] (handO (rho ([] ++ [4])) [] [] ++ [(3, .box [.sl 0 0 x9.1.length, .sl 1 0 x9.2.length, .sl 2 0 x13.length]), (0, .arr 4 (List.map enc_isii x9.1)), (1, .arr 4 (List.map enc_isii x9.2)), (2, .arr 4 (List.map enc_isii x13))]) (callEv [] [4] (.sl 0 0 x14.length) [.arr 4 (List.map enc_isii x14)]), .call 41 [.sl 4 0 x14.length] (handO (rho ([4] ++ [])) [4] [.arr 4 (List.map enc_isii x14)] ++ []) (callEv [4] [] (.sl 0 0 x14.length) [.arr 4 (List.map enc_isii x14)])]) [4] [4] (s1 := ⟨[(4, .sl 4 0 x14.length)], [(4, .arr 4 (List.map enc_isii x14))]⟩) (C := ((([.sx 3 3] : List AV) = [.sx 3 3]) ∧ (AO.box [.sl 0 0 x9.1.length, .sl 1 0 x9.2.length, .sl 2 0 x13.length] = AO.box [.sl 0 0 x9.1.length, .sl 1 0 x9.2.length, .sl 2 0 x13.length]) ∧ (AO.arr 4 (List.map enc_isii x9.1) = AO.arr 4 (List.map enc_isii x9.1)) ∧ (AO.arr 4 (List.map enc_isii x9.2) = AO.arr 4 (List.map enc_isii x9.2)) ∧ (AO.arr 4 (List.map enc_isii x13) = AO.arr 4 (List.map enc_isii x13)) ∧ True) ∧ ((([.sl 4 0 x14.length] : List AV) = [.sl 4 0 x14.length]) ∧ (AO.arr 4 (List.map enc_isii x14) = AO.arr 4 (List.map enc_isii x14)) ∧ True) ∧ True) (by kernel_rfl) ⟨⟨rfl, rfl, rfl, rfl, rfl, trivial⟩, ⟨⟨rfl, rfl, trivial⟩, trivial⟩⟩ ⟨call_ok (ks := []) (ns := [4]) (bor := [3, 0, 1, 2]) (bobjs := [(3, .box [.sl 0 0 x9.1.length, .sl 1 0 x9.2.length, .sl 2 0 x13.length]), (0, .arr 4 (List.map enc_isii x9.1)), (1, .arr 4 (List.map enc_isii x9.2)), (2, .arr 4 (List.map enc_isii x13))]) (s_slices_Concat_x3isiiisiiisii x9.1 x9.2 x13 x14 e20) (.cons (.c1 (.sx rfl rfl (.cons (.arr rfl rfl ((rfl).trans (List.length_map ..).symm)) (.cons (.arr rfl rfl ((rfl).trans (List.length_map ..).symm)) (.cons (.arr rfl rfl ((rfl).trans (List.length_map ..).symm)) (.nil)))))) (.nil)) (by kernel_rfl) trivial, ⟨call_ok (ks := [4]) (ns := []) (bor := []) (bobjs := []) (s_slices_Clip_hisii x14 x15 e21) (.cons (.c1 (.c0 (.same _ (by kernel_rfl) (by kernel_rfl)))) (.nil)) (by kernel_rfl) ⟨.inr rfl, trivial⟩, trivial⟩⟩ ?_
      refine AX.ret ?_
      refine fin_wk (Wk.swap 0 4 (Nat.le_of_ble_eq_true (by kernel_rfl)) (Nat.le_of_ble_eq_true (by kernel_rfl)) rfl) ?_
      refine fin_wk (Wk.forget [4] [0] (s' := ⟨[(4, .sl 0 0 x14.length)], [(0, .arr 4 (List.map enc_isii x14))]⟩) (by kernel_rfl)) ?_
      have hr := Option.some.inj h
      subst hr
      exact ⟨_, Wk.refl _, .inr rfl, ⟨[0], by kernel_rfl, ⟨rfl, trivial⟩, [.sl 0 0 x14.length], by kernel_rfl, by kernel_rfl⟩⟩

end Go.Eng
