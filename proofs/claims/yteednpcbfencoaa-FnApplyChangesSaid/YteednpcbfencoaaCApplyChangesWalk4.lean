/- What is proved here: each function keeps to its model, whatever its arguments, wherever the model has an answer. Printed by gen.py. -/
import Derived.Test.YteednpcbfencoaaCApplyChangesWalk3
import Derived.Test.YteednpcbfencoaaProg
import Derived.Test.YteednpcbfencoaaCApplyChangesHand
import Derived.KernelRfl
set_option linter.unusedVariables false
set_option linter.unusedSimpArgs false
set_option linter.unnecessarySimpa false
namespace Go.Eng
open Go Go.Proofs


theorem s_impl_SameMeaning (p1 : List (ByteArray × Int)) (p2 : List (ByteArray × Int)) (r : Bool) (h : m_impl_SameMeaning p1 p2 = some r) :
    Eng.Spec Try.prog 10 [.agg [.bs false 2 (List.map enc_si p1)], .agg [.bs false 2 (List.map enc_si p2)]] [] (.v (.bool r)) [] := by
  unfold m_impl_SameMeaning at h
  refine Eng.Spec.body Try.func10 (by kernel_rfl) rfl (by kernel_rfl) ?_
  refine AX.wkpost ?_
  refine AX.seq ?_
  refine AX.reg (its := [.auto { nk := 0 }, .auto { nk := 1 }]) [2, 3] [0, 1] (s1 := ⟨[(2, .pt 0 0), (3, .pt 1 0)], [(0, .box [.bs false 2 (List.map enc_si p1)]), (1, .box [.bs false 2 (List.map enc_si p2)])]⟩) (C := True) (by kernel_rfl) trivial trivial ?_
  refine AX.seq ?_
  obtain ⟨x3, e1, h⟩ := bd_e h
  rcases bool_cases (x3) with b2 | b2
  · replace h := cd_t b2 h
    obtain ⟨x4, e3, h⟩ := bd_e h
    rcases bool_cases (x4) with b4 | b4
    · replace h := cd_t b4 h
      obtain ⟨x5, e5, h⟩ := bd_e h
      refine AX.reg (its := [.auto {}, .call 9 [.agg [.bs false 2 (List.map enc_si p1)]] (handO (rho ([] ++ [])) [] [] ++ []) (callEv [] [] (.v (.bool true)) []), .auto {}, .auto {}, .call 9 [.agg [.bs false 2 (List.map enc_si p2)]] (handO (rho ([] ++ [])) [] [] ++ []) (callEv [] [] (.v (.bool true)) []), .auto {}, .auto {}, .auto {}, .auto {}, .call 23 [.agg [.bs false 2 (List.map enc_si p1)], .agg [.bs false 2 (List.map enc_si p2)]] (handO (rho ([] ++ [2])) [] [] ++ []) (callEv [] [2] (.sl 0 0 x5.length) [.arr 4 (List.map enc_isii x5)])]) [4] [] (s1 := ⟨[(4, .v (.bool (decide ((x5.length : Int) = 0))))], []⟩) (C := ((([.agg [.bs false 2 (List.map enc_si p1)]] : List AV) = [.agg [.bs false 2 (List.map enc_si p1)]]) ∧ True) ∧ ((([.agg [.bs false 2 (List.map enc_si p2)]] : List AV) = [.agg [.bs false 2 (List.map enc_si p2)]]) ∧ True) ∧ ((([.agg [.bs false 2 (List.map enc_si p1)], .agg [.bs false 2 (List.map enc_si p2)]] : List AV) = [.agg [.bs false 2 (List.map enc_si p1)], .agg [.bs false 2 (List.map enc_si p2)]]) ∧ True) ∧ True) (by kernel_rfl) ⟨⟨rfl, trivial⟩, ⟨⟨rfl, trivial⟩, ⟨⟨rfl, trivial⟩, trivial⟩⟩⟩ ⟨call_ok (ks := []) (ns := []) (bor := []) (bobjs := []) (show Eng.Spec Try.prog 9 [.agg [.bs false 2 (List.map enc_si p1)]] [] (.v (.bool true)) [] from by have q := s_impl_ValidEnum p1 x3 e1; rw [b2] at q; exact q) (.cons (.c1 (.agg (.cons (.same _ (by kernel_rfl) (by kernel_rfl)) (.nil)))) (.nil)) (by kernel_rfl) trivial, ⟨call_ok (ks := []) (ns := []) (bor := []) (bobjs := []) (show Eng.Spec Try.prog 9 [.agg [.bs false 2 (List.map enc_si p2)]] [] (.v (.bool true)) [] from by have q := s_impl_ValidEnum p2 x4 e3; rw [b4] at q; exact q) (.cons (.c1 (.agg (.cons (.same _ (by kernel_rfl) (by kernel_rfl)) (.nil)))) (.nil)) (by kernel_rfl) trivial, ⟨call_ok (ks := []) (ns := [2]) (bor := []) (bobjs := []) (s_impl_DiffEnums p1 p2 x5 e5) (.cons (.c1 (.agg (.cons (.same _ (by kernel_rfl) (by kernel_rfl)) (.nil)))) (.cons (.c1 (.agg (.cons (.same _ (by kernel_rfl) (by kernel_rfl)) (.nil)))) (.nil))) (by kernel_rfl) trivial, trivial⟩⟩⟩ ?_
      refine AX.ret ?_
      refine fin_wk (Wk.forget [4] [] (s' := ⟨[(4, .v (.bool (decide ((x5.length : Int) = 0))))], []⟩) (by kernel_rfl)) ?_
      have hr := Option.some.inj h
      subst hr
      exact ⟨_, Wk.refl _, .inr rfl, ⟨[], by kernel_rfl, trivial, [.v (.bool (decide ((x5.length : Int) = 0)))], by kernel_rfl, by kernel_rfl⟩⟩
    · replace h := cd_f b4 h
      refine AX.reg (its := [.auto {}, .call 9 [.agg [.bs false 2 (List.map enc_si p1)]] (handO (rho ([] ++ [])) [] [] ++ []) (callEv [] [] (.v (.bool true)) []), .auto {}, .auto {}, .call 9 [.agg [.bs false 2 (List.map enc_si p2)]] (handO (rho ([] ++ [])) [] [] ++ []) (callEv [] [] (.v (.bool false)) [])]) [4] [] (s1 := ⟨[(4, .v (.bool false))], []⟩) (C := ((([.agg [.bs false 2 (List.map enc_si p1)]] : List AV) = [.agg [.bs false 2 (List.map enc_si p1)]]) ∧ True) ∧ ((([.agg [.bs false 2 (List.map enc_si p2)]] : List AV) = [.agg [.bs false 2 (List.map enc_si p2)]]) ∧ True) ∧ True) (by kernel_rfl) ⟨⟨rfl, trivial⟩, ⟨⟨rfl, trivial⟩, trivial⟩⟩ ⟨call_ok (ks := []) (ns := []) (bor := []) (bobjs := []) (show Eng.Spec Try.prog 9 [.agg [.bs false 2 (List.map enc_si p1)]] [] (.v (.bool true)) [] from by have q := s_impl_ValidEnum p1 x3 e1; rw [b2] at q; exact q) (.cons (.c1 (.agg (.cons (.same _ (by kernel_rfl) (by kernel_rfl)) (.nil)))) (.nil)) (by kernel_rfl) trivial, ⟨call_ok (ks := []) (ns := []) (bor := []) (bobjs := []) (show Eng.Spec Try.prog 9 [.agg [.bs false 2 (List.map enc_si p2)]] [] (.v (.bool false)) [] from by have q := s_impl_ValidEnum p2 x4 e3; rw [b4] at q; exact q) (.cons (.c1 (.agg (.cons (.same _ (by kernel_rfl) (by kernel_rfl)) (.nil)))) (.nil)) (by kernel_rfl) trivial, trivial⟩⟩ ?_
      refine AX.ret ?_
      refine fin_wk (Wk.forget [4] [] (s' := ⟨[(4, .v (.bool false))], []⟩) (by kernel_rfl)) ?_
      have hr := Option.some.inj h
      subst hr
      exact ⟨_, Wk.refl _, .inr rfl, ⟨[], by kernel_rfl, trivial, [.v (.bool false)], by kernel_rfl, by kernel_rfl⟩⟩
  · replace h := cd_f b2 h
    refine AX.reg (its := [.auto {}, .call 9 [.agg [.bs false 2 (List.map enc_si p1)]] (handO (rho ([] ++ [])) [] [] ++ []) (callEv [] [] (.v (.bool false)) [])]) [4] [] (s1 := ⟨[(4, .v (.bool false))], []⟩) (C := ((([.agg [.bs false 2 (List.map enc_si p1)]] : List AV) = [.agg [.bs false 2 (List.map enc_si p1)]]) ∧ True) ∧ True) (by kernel_rfl) ⟨⟨rfl, trivial⟩, trivial⟩ ⟨call_ok (ks := []) (ns := []) (bor := []) (bobjs := []) (show Eng.Spec Try.prog 9 [.agg [.bs false 2 (List.map enc_si p1)]] [] (.v (.bool false)) [] from by have q := s_impl_ValidEnum p1 x3 e1; rw [b2] at q; exact q) (.cons (.c1 (.agg (.cons (.same _ (by kernel_rfl) (by kernel_rfl)) (.nil)))) (.nil)) (by kernel_rfl) trivial, trivial⟩ ?_
    refine AX.ret ?_
    refine fin_wk (Wk.forget [4] [] (s' := ⟨[(4, .v (.bool false))], []⟩) (by kernel_rfl)) ?_
    have hr := Option.some.inj h
    subst hr
    exact ⟨_, Wk.refl _, .inr rfl, ⟨[], by kernel_rfl, trivial, [.v (.bool false)], by kernel_rfl, by kernel_rfl⟩⟩

theorem s_laws_FnApplyChanges (p1 : List (Int)) (r : Bool) (h : m_laws_FnApplyChanges p1 = some r) :
    Eng.Spec Try.prog 3 [.bs true 1 (List.map enc_y p1)] [] (.v (.bool r)) [] := by
  unfold m_laws_FnApplyChanges at h
  refine Eng.Spec.body Try.func3 (by kernel_rfl) rfl (by kernel_rfl) ?_
  refine AX.wkpost ?_
  refine AX.seq ?_
  refine AX.reg (its := []) [0] [] (s1 := ⟨[(0, .bs true 1 (List.map enc_y p1))], []⟩) (C := True) (by kernel_rfl) trivial trivial ?_
  refine AX.seq ?_
  refine AX.seq ?_
  refine AX.reg (its := [.auto {}, .auto { y := some (.v (.int .i64 (p1.length : Int))) }]) [0, 13] [] (s1 := ⟨[(0, .bs true 1 (List.map enc_y p1)), (13, .v (.bool (decide (1048576 < (p1.length : Int)))))], []⟩) (C := (True ∧ (AV.v (.int .i64 ((List.map enc_y p1).length : Int)) = AV.v (.int .i64 (p1.length : Int)))) ∧ True) (by kernel_rfl) ⟨⟨trivial, len_map enc_y p1⟩, trivial⟩ trivial ?_
  rcases bool_cases (decide (1048576 < (p1.length : Int))) with b1 | b1
  · replace h := cd_t b1 h
    refine AX.condT (decide (1048576 < (p1.length : Int))) (by kernel_rfl) b1 ?_
    refine AX.seq ?_
    refine AX.reg (its := []) [2] [] (s1 := ⟨[(2, .v (.bool true))], []⟩) (C := True) (by kernel_rfl) trivial trivial ?_
    refine AX.ret ?_
    refine fin_wk (Wk.forget [2] [] (s' := ⟨[(2, .v (.bool true))], []⟩) (by kernel_rfl)) ?_
    have hr := Option.some.inj h
    subst hr
    exact ⟨_, Wk.refl _, .inr rfl, ⟨[], by kernel_rfl, trivial, [.v (.bool true)], by kernel_rfl, by kernel_rfl⟩⟩
  · replace h := cd_f b1 h
    refine AX.condF (decide (1048576 < (p1.length : Int))) (by kernel_rfl) b1 ?_
    refine AX.skip ?_
    refine AX.seq ?_
    obtain ⟨x2, e2, h⟩ := bd_e h
    refine AX.reg (its := [.auto {}, .call 4 [.bs true 1 (List.map enc_y p1)] (handO (rho ([] ++ [0, 1])) [] [] ++ []) (callEv [] [0, 1] (.tup [.agg [.sl 0 0 x2.1.length], .sl 1 0 x2.2.length]) [.arr 2 (List.map enc_si x2.1), .arr 4 (List.map enc_isii x2.2)]), .auto {}, .auto {}, .auto {}, .auto { nk := 2 }]) [3, 4] [0, 1, 2] (s1 := ⟨[(3, .pt 2 0), (4, .sl 1 0 x2.2.length)], [(0, .arr 2 (List.map enc_si x2.1)), (1, .arr 4 (List.map enc_isii x2.2)), (2, .box [.sl 0 0 x2.1.length])]⟩) (C := ((([.bs true 1 (List.map enc_y p1)] : List AV) = [.bs true 1 (List.map enc_y p1)]) ∧ True) ∧ True) (by kernel_rfl) ⟨⟨rfl, trivial⟩, trivial⟩ ⟨call_ok (ks := []) (ns := [0, 1]) (bor := []) (bobjs := []) (s_spec_DrawApplyChanges p1 x2 e2) (.cons (.c1 (.c0 (.same _ (by kernel_rfl) (by kernel_rfl)))) (.nil)) (by kernel_rfl) trivial, trivial⟩ ?_
    refine AX.seq ?_
    obtain ⟨x3, e3, h⟩ := bd_e h
    refine AX.reg (its := [.auto {}, .auto {}, .call 5 [.agg [.sl 0 0 x2.1.length], .sl 1 0 x2.2.length] (handO (rho ([] ++ [3])) [] [] ++ [(0, .arr 2 (List.map enc_si x2.1)), (1, .arr 4 (List.map enc_isii x2.2))]) (callEv [] [3] (.tup [.agg [.sl 0 0 x3.1.length], .v (.bool x3.2)]) [.arr 2 (List.map enc_si x3.1)]), .auto {}, .auto {}, .auto {}, .auto { nk := 4 }]) [3, 4, 5, 6] [0, 1, 2, 3, 4] (s1 := ⟨[(3, .pt 2 0), (4, .sl 1 0 x2.2.length), (5, .pt 4 0), (6, .v (.bool x3.2))], [(0, .arr 2 (List.map enc_si x2.1)), (1, .arr 4 (List.map enc_isii x2.2)), (2, .box [.sl 0 0 x2.1.length]), (3, .arr 2 (List.map enc_si x3.1)), (4, .box [.sl 3 0 x3.1.length])]⟩) (C := ((([.agg [.sl 0 0 x2.1.length], .sl 1 0 x2.2.length] : List AV) = [.agg [.sl 0 0 x2.1.length], .sl 1 0 x2.2.length]) ∧ (AO.arr 2 (List.map enc_si x2.1) = AO.arr 2 (List.map enc_si x2.1)) ∧ (AO.arr 4 (List.map enc_isii x2.2) = AO.arr 4 (List.map enc_isii x2.2)) ∧ True) ∧ True) (by kernel_rfl) ⟨⟨rfl, rfl, rfl, trivial⟩, trivial⟩ ⟨call_ok (ks := []) (ns := [3]) (bor := [0, 1]) (bobjs := [(0, .arr 2 (List.map enc_si x2.1)), (1, .arr 4 (List.map enc_isii x2.2))]) (s_impl_ApplyChanges x2.1 x2.2 x3 e3) (.cons (.c1 (.agg (.cons (.arr rfl rfl ((rfl).trans (List.length_map ..).symm)) (.nil)))) (.cons (.c1 (.c0 (.arr rfl rfl ((rfl).trans (List.length_map ..).symm)))) (.nil))) (by kernel_rfl) trivial, trivial⟩ ?_
    refine AX.seq ?_
    obtain ⟨x4, e4, h⟩ := bd_e h
    refine AX.reg (its := [.auto {}, .auto {}, .call 6 [.agg [.sl 0 0 x2.1.length], .sl 1 0 x2.2.length] (handO (rho ([] ++ [5])) [] [] ++ [(0, .arr 2 (List.map enc_si x2.1)), (1, .arr 4 (List.map enc_isii x2.2))]) (callEv [] [5] (.tup [.agg [.sl 0 0 x4.1.length], .v (.bool x4.2)]) [.arr 2 (List.map enc_si x4.1)]), .auto {}, .auto {}, .auto {}, .auto { nk := 6 }]) [3, 4, 5, 6, 7, 8] [0, 1, 2, 3, 4, 5, 6] (s1 := ⟨[(3, .pt 2 0), (4, .sl 1 0 x2.2.length), (5, .pt 4 0), (6, .v (.bool x3.2)), (7, .pt 6 0), (8, .v (.bool x4.2))], [(0, .arr 2 (List.map enc_si x2.1)), (1, .arr 4 (List.map enc_isii x2.2)), (2, .box [.sl 0 0 x2.1.length]), (3, .arr 2 (List.map enc_si x3.1)), (4, .box [.sl 3 0 x3.1.length]), (5, .arr 2 (List.map enc_si x4.1)), (6, .box [.sl 5 0 x4.1.length])]⟩) (C := ((([.agg [.sl 0 0 x2.1.length], .sl 1 0 x2.2.length] : List AV) = [.agg [.sl 0 0 x2.1.length], .sl 1 0 x2.2.length]) ∧ (AO.arr 2 (List.map enc_si x2.1) = AO.arr 2 (List.map enc_si x2.1)) ∧ (AO.arr 4 (List.map enc_isii x2.2) = AO.arr 4 (List.map enc_isii x2.2)) ∧ True) ∧ True) (by kernel_rfl) ⟨⟨rfl, rfl, rfl, trivial⟩, trivial⟩ ⟨call_ok (ks := []) (ns := [5]) (bor := [0, 1]) (bobjs := [(0, .arr 2 (List.map enc_si x2.1)), (1, .arr 4 (List.map enc_isii x2.2))]) (s_spec_ApplyChanges x2.1 x2.2 x4 e4) (.cons (.c1 (.agg (.cons (.arr rfl rfl ((rfl).trans (List.length_map ..).symm)) (.nil)))) (.cons (.c1 (.c0 (.arr rfl rfl ((rfl).trans (List.length_map ..).symm)))) (.nil))) (by kernel_rfl) trivial, trivial⟩ ?_
    refine AX.seq ?_
    refine AX.seq ?_
    obtain ⟨x5, e5, h⟩ := bd_e h
    rcases bool_cases ((!x5)) with b6 | b6
    · replace h := cd_t b6 h
      refine AX.reg (its := [.auto {}, .auto {}, .call 7 [.agg [.sl 3 0 x3.1.length], .agg [.sl 5 0 x4.1.length]] (handO (rho ([] ++ [])) [] [] ++ [(3, .arr 2 (List.map enc_si x3.1)), (5, .arr 2 (List.map enc_si x4.1))]) (callEv [] [] (.v (.bool x5)) []), .auto { y := some (.v (.bool true)) }]) [3, 4, 5, 6, 7, 8, 43] [0, 1, 2, 3, 4, 5, 6] (s1 := ⟨[(3, .pt 2 0), (4, .sl 1 0 x2.2.length), (5, .pt 4 0), (6, .v (.bool x3.2)), (7, .pt 6 0), (8, .v (.bool x4.2)), (43, .v (.bool true))], [(0, .arr 2 (List.map enc_si x2.1)), (1, .arr 4 (List.map enc_isii x2.2)), (2, .box [.sl 0 0 x2.1.length]), (3, .arr 2 (List.map enc_si x3.1)), (4, .box [.sl 3 0 x3.1.length]), (5, .arr 2 (List.map enc_si x4.1)), (6, .box [.sl 5 0 x4.1.length])]⟩) (C := ((([.agg [.sl 3 0 x3.1.length], .agg [.sl 5 0 x4.1.length]] : List AV) = [.agg [.sl 3 0 x3.1.length], .agg [.sl 5 0 x4.1.length]]) ∧ (AO.arr 2 (List.map enc_si x3.1) = AO.arr 2 (List.map enc_si x3.1)) ∧ (AO.arr 2 (List.map enc_si x4.1) = AO.arr 2 (List.map enc_si x4.1)) ∧ True) ∧ ((True) ∧ ((.v (.bool (!x5)) : AV) = (.v (.bool true) : AV))) ∧ True) (by kernel_rfl) ⟨⟨rfl, rfl, rfl, trivial⟩, ⟨⟨trivial, (congrArg (fun z => AV.v (.bool z)) b6)⟩, trivial⟩⟩ ⟨call_ok (ks := []) (ns := []) (bor := [3, 5]) (bobjs := [(3, .arr 2 (List.map enc_si x3.1)), (5, .arr 2 (List.map enc_si x4.1))]) (s_laws_equalEnum x3.1 x4.1 x5 e5) (.cons (.c1 (.agg (.cons (.arr rfl rfl ((rfl).trans (List.length_map ..).symm)) (.nil)))) (.cons (.c1 (.agg (.cons (.arr rfl rfl ((rfl).trans (List.length_map ..).symm)) (.nil)))) (.nil))) (by kernel_rfl) trivial, trivial⟩ ?_
      refine AX.cond_true (by kernel_rfl) ?_
      refine AX.seq ?_
      obtain ⟨x6, e7, h⟩ := bd_e h
      rcases bool_cases (x6) with b8 | b8
      · replace h := cd_t b8 h
        refine AX.reg (its := [.auto {}, .auto {}, .call 7 [.agg [.sl 3 0 x3.1.length], .agg [.sl 5 0 x4.1.length]] (handO (rho ([] ++ [])) [] [] ++ [(3, .arr 2 (List.map enc_si x3.1)), (5, .arr 2 (List.map enc_si x4.1))]) (callEv [] [] (.v (.bool true)) [])]) [2] [] (s1 := ⟨[(2, .v (.bool (x3.2 == x4.2)))], []⟩) (C := ((([.agg [.sl 3 0 x3.1.length], .agg [.sl 5 0 x4.1.length]] : List AV) = [.agg [.sl 3 0 x3.1.length], .agg [.sl 5 0 x4.1.length]]) ∧ (AO.arr 2 (List.map enc_si x3.1) = AO.arr 2 (List.map enc_si x3.1)) ∧ (AO.arr 2 (List.map enc_si x4.1) = AO.arr 2 (List.map enc_si x4.1)) ∧ True) ∧ True) (by kernel_rfl) ⟨⟨rfl, rfl, rfl, trivial⟩, trivial⟩ ⟨call_ok (ks := []) (ns := []) (bor := [3, 5]) (bobjs := [(3, .arr 2 (List.map enc_si x3.1)), (5, .arr 2 (List.map enc_si x4.1))]) (show Eng.Spec Try.prog 7 [.agg [.bs false 2 (List.map enc_si x3.1)], .agg [.bs false 2 (List.map enc_si x4.1)]] [] (.v (.bool true)) [] from by have q := s_laws_equalEnum x3.1 x4.1 x6 e7; rw [b8] at q; exact q) (.cons (.c1 (.agg (.cons (.arr rfl rfl ((rfl).trans (List.length_map ..).symm)) (.nil)))) (.cons (.c1 (.agg (.cons (.arr rfl rfl ((rfl).trans (List.length_map ..).symm)) (.nil)))) (.nil))) (by kernel_rfl) trivial, trivial⟩ ?_
        refine AX.ret ?_
        refine fin_wk (Wk.forget [2] [] (s' := ⟨[(2, .v (.bool (x3.2 == x4.2)))], []⟩) (by kernel_rfl)) ?_
        have hr := Option.some.inj h
        subst hr
        exact ⟨_, Wk.refl _, .inr rfl, ⟨[], by kernel_rfl, trivial, [.v (.bool (x3.2 == x4.2))], by kernel_rfl, by kernel_rfl⟩⟩
      · replace h := cd_f b8 h
        refine AX.reg (its := [.auto {}, .auto {}, .call 7 [.agg [.sl 3 0 x3.1.length], .agg [.sl 5 0 x4.1.length]] (handO (rho ([] ++ [])) [] [] ++ [(3, .arr 2 (List.map enc_si x3.1)), (5, .arr 2 (List.map enc_si x4.1))]) (callEv [] [] (.v (.bool false)) [])]) [2] [] (s1 := ⟨[(2, .v (.bool false))], []⟩) (C := ((([.agg [.sl 3 0 x3.1.length], .agg [.sl 5 0 x4.1.length]] : List AV) = [.agg [.sl 3 0 x3.1.length], .agg [.sl 5 0 x4.1.length]]) ∧ (AO.arr 2 (List.map enc_si x3.1) = AO.arr 2 (List.map enc_si x3.1)) ∧ (AO.arr 2 (List.map enc_si x4.1) = AO.arr 2 (List.map enc_si x4.1)) ∧ True) ∧ True) (by kernel_rfl) ⟨⟨rfl, rfl, rfl, trivial⟩, trivial⟩ ⟨call_ok (ks := []) (ns := []) (bor := [3, 5]) (bobjs := [(3, .arr 2 (List.map enc_si x3.1)), (5, .arr 2 (List.map enc_si x4.1))]) (show Eng.Spec Try.prog 7 [.agg [.bs false 2 (List.map enc_si x3.1)], .agg [.bs false 2 (List.map enc_si x4.1)]] [] (.v (.bool false)) [] from by have q := s_laws_equalEnum x3.1 x4.1 x6 e7; rw [b8] at q; exact q) (.cons (.c1 (.agg (.cons (.arr rfl rfl ((rfl).trans (List.length_map ..).symm)) (.nil)))) (.cons (.c1 (.agg (.cons (.arr rfl rfl ((rfl).trans (List.length_map ..).symm)) (.nil)))) (.nil))) (by kernel_rfl) trivial, trivial⟩ ?_
        refine AX.ret ?_
        refine fin_wk (Wk.forget [2] [] (s' := ⟨[(2, .v (.bool false))], []⟩) (by kernel_rfl)) ?_
        have hr := Option.some.inj h
        subst hr
        exact ⟨_, Wk.refl _, .inr rfl, ⟨[], by kernel_rfl, trivial, [.v (.bool false)], by kernel_rfl, by kernel_rfl⟩⟩
    · replace h := cd_f b6 h
      rcases bool_cases ((!(x3.2 == x4.2))) with b9 | b9
      · replace h := cd_t b9 h
        refine AX.reg (its := [.auto {}, .auto {}, .call 7 [.agg [.sl 3 0 x3.1.length], .agg [.sl 5 0 x4.1.length]] (handO (rho ([] ++ [])) [] [] ++ [(3, .arr 2 (List.map enc_si x3.1)), (5, .arr 2 (List.map enc_si x4.1))]) (callEv [] [] (.v (.bool x5)) []), .auto { y := some (.v (.bool false)) }, .auto {}, .auto {}, .auto {}, .auto { y := some (.v (.bool true)) }]) [3, 4, 5, 6, 7, 8, 43] [0, 1, 2, 3, 4, 5, 6] (s1 := ⟨[(3, .pt 2 0), (4, .sl 1 0 x2.2.length), (5, .pt 4 0), (6, .v (.bool x3.2)), (7, .pt 6 0), (8, .v (.bool x4.2)), (43, .v (.bool true))], [(0, .arr 2 (List.map enc_si x2.1)), (1, .arr 4 (List.map enc_isii x2.2)), (2, .box [.sl 0 0 x2.1.length]), (3, .arr 2 (List.map enc_si x3.1)), (4, .box [.sl 3 0 x3.1.length]), (5, .arr 2 (List.map enc_si x4.1)), (6, .box [.sl 5 0 x4.1.length])]⟩) (C := ((([.agg [.sl 3 0 x3.1.length], .agg [.sl 5 0 x4.1.length]] : List AV) = [.agg [.sl 3 0 x3.1.length], .agg [.sl 5 0 x4.1.length]]) ∧ (AO.arr 2 (List.map enc_si x3.1) = AO.arr 2 (List.map enc_si x3.1)) ∧ (AO.arr 2 (List.map enc_si x4.1) = AO.arr 2 (List.map enc_si x4.1)) ∧ True) ∧ ((True) ∧ ((.v (.bool (!x5)) : AV) = (.v (.bool false) : AV))) ∧ ((True) ∧ ((.v (.bool (!(x3.2 == x4.2))) : AV) = (.v (.bool true) : AV))) ∧ True) (by kernel_rfl) ⟨⟨rfl, rfl, rfl, trivial⟩, ⟨⟨trivial, (congrArg (fun z => AV.v (.bool z)) b6)⟩, ⟨⟨trivial, (congrArg (fun z => AV.v (.bool z)) b9)⟩, trivial⟩⟩⟩ ⟨call_ok (ks := []) (ns := []) (bor := [3, 5]) (bobjs := [(3, .arr 2 (List.map enc_si x3.1)), (5, .arr 2 (List.map enc_si x4.1))]) (s_laws_equalEnum x3.1 x4.1 x5 e5) (.cons (.c1 (.agg (.cons (.arr rfl rfl ((rfl).trans (List.length_map ..).symm)) (.nil)))) (.cons (.c1 (.agg (.cons (.arr rfl rfl ((rfl).trans (List.length_map ..).symm)) (.nil)))) (.nil))) (by kernel_rfl) trivial, trivial⟩ ?_
        refine AX.cond_true (by kernel_rfl) ?_
        refine AX.seq ?_
        obtain ⟨x7, e10, h⟩ := bd_e h
        rcases bool_cases (x7) with b11 | b11
        · replace h := cd_t b11 h
          refine AX.reg (its := [.auto {}, .auto {}, .call 7 [.agg [.sl 3 0 x3.1.length], .agg [.sl 5 0 x4.1.length]] (handO (rho ([] ++ [])) [] [] ++ [(3, .arr 2 (List.map enc_si x3.1)), (5, .arr 2 (List.map enc_si x4.1))]) (callEv [] [] (.v (.bool true)) [])]) [2] [] (s1 := ⟨[(2, .v (.bool (x3.2 == x4.2)))], []⟩) (C := ((([.agg [.sl 3 0 x3.1.length], .agg [.sl 5 0 x4.1.length]] : List AV) = [.agg [.sl 3 0 x3.1.length], .agg [.sl 5 0 x4.1.length]]) ∧ (AO.arr 2 (List.map enc_si x3.1) = AO.arr 2 (List.map enc_si x3.1)) ∧ (AO.arr 2 (List.map enc_si x4.1) = AO.arr 2 (List.map enc_si x4.1)) ∧ True) ∧ True) (by kernel_rfl) ⟨⟨rfl, rfl, rfl, trivial⟩, trivial⟩ ⟨call_ok (ks := []) (ns := []) (bor := [3, 5]) (bobjs := [(3, .arr 2 (List.map enc_si x3.1)), (5, .arr 2 (List.map enc_si x4.1))]) (show Eng.Spec Try.prog 7 [.agg [.bs false 2 (List.map enc_si x3.1)], .agg [.bs false 2 (List.map enc_si x4.1)]] [] (.v (.bool true)) [] from by have q := s_laws_equalEnum x3.1 x4.1 x7 e10; rw [b11] at q; exact q) (.cons (.c1 (.agg (.cons (.arr rfl rfl ((rfl).trans (List.length_map ..).symm)) (.nil)))) (.cons (.c1 (.agg (.cons (.arr rfl rfl ((rfl).trans (List.length_map ..).symm)) (.nil)))) (.nil))) (by kernel_rfl) trivial, trivial⟩ ?_
          refine AX.ret ?_
          refine fin_wk (Wk.forget [2] [] (s' := ⟨[(2, .v (.bool (x3.2 == x4.2)))], []⟩) (by kernel_rfl)) ?_
          have hr := Option.some.inj h
          subst hr
          exact ⟨_, Wk.refl _, .inr rfl, ⟨[], by kernel_rfl, trivial, [.v (.bool (x3.2 == x4.2))], by kernel_rfl, by kernel_rfl⟩⟩
        · replace h := cd_f b11 h
          refine AX.reg (its := [.auto {}, .auto {}, .call 7 [.agg [.sl 3 0 x3.1.length], .agg [.sl 5 0 x4.1.length]] (handO (rho ([] ++ [])) [] [] ++ [(3, .arr 2 (List.map enc_si x3.1)), (5, .arr 2 (List.map enc_si x4.1))]) (callEv [] [] (.v (.bool false)) [])]) [2] [] (s1 := ⟨[(2, .v (.bool false))], []⟩) (C := ((([.agg [.sl 3 0 x3.1.length], .agg [.sl 5 0 x4.1.length]] : List AV) = [.agg [.sl 3 0 x3.1.length], .agg [.sl 5 0 x4.1.length]]) ∧ (AO.arr 2 (List.map enc_si x3.1) = AO.arr 2 (List.map enc_si x3.1)) ∧ (AO.arr 2 (List.map enc_si x4.1) = AO.arr 2 (List.map enc_si x4.1)) ∧ True) ∧ True) (by kernel_rfl) ⟨⟨rfl, rfl, rfl, trivial⟩, trivial⟩ ⟨call_ok (ks := []) (ns := []) (bor := [3, 5]) (bobjs := [(3, .arr 2 (List.map enc_si x3.1)), (5, .arr 2 (List.map enc_si x4.1))]) (show Eng.Spec Try.prog 7 [.agg [.bs false 2 (List.map enc_si x3.1)], .agg [.bs false 2 (List.map enc_si x4.1)]] [] (.v (.bool false)) [] from by have q := s_laws_equalEnum x3.1 x4.1 x7 e10; rw [b11] at q; exact q) (.cons (.c1 (.agg (.cons (.arr rfl rfl ((rfl).trans (List.length_map ..).symm)) (.nil)))) (.cons (.c1 (.agg (.cons (.arr rfl rfl ((rfl).trans (List.length_map ..).symm)) (.nil)))) (.nil))) (by kernel_rfl) trivial, trivial⟩ ?_
          refine AX.ret ?_
          refine fin_wk (Wk.forget [2] [] (s' := ⟨[(2, .v (.bool false))], []⟩) (by kernel_rfl)) ?_
          have hr := Option.some.inj h
          subst hr
          exact ⟨_, Wk.refl _, .inr rfl, ⟨[], by kernel_rfl, trivial, [.v (.bool false)], by kernel_rfl, by kernel_rfl⟩⟩
      · replace h := cd_f b9 h
        refine AX.reg (its := [.auto {}, .auto {}, .call 7 [.agg [.sl 3 0 x3.1.length], .agg [.sl 5 0 x4.1.length]] (handO (rho ([] ++ [])) [] [] ++ [(3, .arr 2 (List.map enc_si x3.1)), (5, .arr 2 (List.map enc_si x4.1))]) (callEv [] [] (.v (.bool x5)) []), .auto { y := some (.v (.bool false)) }, .auto {}, .auto {}, .auto {}, .auto { y := some (.v (.bool false)) }]) [3, 4, 5, 6, 7, 8, 43] [0, 1, 2, 3, 4, 5, 6] (s1 := ⟨[(3, .pt 2 0), (4, .sl 1 0 x2.2.length), (5, .pt 4 0), (6, .v (.bool x3.2)), (7, .pt 6 0), (8, .v (.bool x4.2)), (43, .v (.bool (!x3.2)))], [(0, .arr 2 (List.map enc_si x2.1)), (1, .arr 4 (List.map enc_isii x2.2)), (2, .box [.sl 0 0 x2.1.length]), (3, .arr 2 (List.map enc_si x3.1)), (4, .box [.sl 3 0 x3.1.length]), (5, .arr 2 (List.map enc_si x4.1)), (6, .box [.sl 5 0 x4.1.length])]⟩) (C := ((([.agg [.sl 3 0 x3.1.length], .agg [.sl 5 0 x4.1.length]] : List AV) = [.agg [.sl 3 0 x3.1.length], .agg [.sl 5 0 x4.1.length]]) ∧ (AO.arr 2 (List.map enc_si x3.1) = AO.arr 2 (List.map enc_si x3.1)) ∧ (AO.arr 2 (List.map enc_si x4.1) = AO.arr 2 (List.map enc_si x4.1)) ∧ True) ∧ ((True) ∧ ((.v (.bool (!x5)) : AV) = (.v (.bool false) : AV))) ∧ ((True) ∧ ((.v (.bool (!(x3.2 == x4.2))) : AV) = (.v (.bool false) : AV))) ∧ True) (by kernel_rfl) ⟨⟨rfl, rfl, rfl, trivial⟩, ⟨⟨trivial, (congrArg (fun z => AV.v (.bool z)) b6)⟩, ⟨⟨trivial, (congrArg (fun z => AV.v (.bool z)) b9)⟩, trivial⟩⟩⟩ ⟨call_ok (ks := []) (ns := []) (bor := [3, 5]) (bobjs := [(3, .arr 2 (List.map enc_si x3.1)), (5, .arr 2 (List.map enc_si x4.1))]) (s_laws_equalEnum x3.1 x4.1 x5 e5) (.cons (.c1 (.agg (.cons (.arr rfl rfl ((rfl).trans (List.length_map ..).symm)) (.nil)))) (.cons (.c1 (.agg (.cons (.arr rfl rfl ((rfl).trans (List.length_map ..).symm)) (.nil)))) (.nil))) (by kernel_rfl) trivial, trivial⟩ ?_
        rcases bool_cases ((!x3.2)) with b12 | b12
        · replace h := cd_t b12 h
          refine AX.condT ((!x3.2)) (by kernel_rfl) b12 ?_
          refine AX.seq ?_
          obtain ⟨x8, e13, h⟩ := bd_e h
          rcases bool_cases (x8) with b14 | b14
          · replace h := cd_t b14 h
            refine AX.reg (its := [.auto {}, .auto {}, .call 7 [.agg [.sl 3 0 x3.1.length], .agg [.sl 5 0 x4.1.length]] (handO (rho ([] ++ [])) [] [] ++ [(3, .arr 2 (List.map enc_si x3.1)), (5, .arr 2 (List.map enc_si x4.1))]) (callEv [] [] (.v (.bool true)) [])]) [2] [] (s1 := ⟨[(2, .v (.bool (x3.2 == x4.2)))], []⟩) (C := ((([.agg [.sl 3 0 x3.1.length], .agg [.sl 5 0 x4.1.length]] : List AV) = [.agg [.sl 3 0 x3.1.length], .agg [.sl 5 0 x4.1.length]]) ∧ (AO.arr 2 (List.map enc_si x3.1) = AO.arr 2 (List.map enc_si x3.1)) ∧ (AO.arr 2 (List.map enc_si x4.1) = AO.arr 2 (List.map enc_si x4.1)) ∧ True) ∧ True) (by kernel_rfl) ⟨⟨rfl, rfl, rfl, trivial⟩, trivial⟩ ⟨call_ok (ks := []) (ns := []) (bor := [3, 5]) (bobjs := [(3, .arr 2 (List.map enc_si x3.1)), (5, .arr 2 (List.map enc_si x4.1))]) (show Eng.Spec Try.prog 7 [.agg [.bs false 2 (List.map enc_si x3.1)], .agg [.bs false 2 (List.map enc_si x4.1)]] [] (.v (.bool true)) [] from by have q := s_laws_equalEnum x3.1 x4.1 x8 e13; rw [b14] at q; exact q) (.cons (.c1 (.agg (.cons (.arr rfl rfl ((rfl).trans (List.length_map ..).symm)) (.nil)))) (.cons (.c1 (.agg (.cons (.arr rfl rfl ((rfl).trans (List.length_map ..).symm)) (.nil)))) (.nil))) (by kernel_rfl) trivial, trivial⟩ ?_
            refine AX.ret ?_
            refine fin_wk (Wk.forget [2] [] (s' := ⟨[(2, .v (.bool (x3.2 == x4.2)))], []⟩) (by kernel_rfl)) ?_
            have hr := Option.some.inj h
            subst hr
            exact ⟨_, Wk.refl _, .inr rfl, ⟨[], by kernel_rfl, trivial, [.v (.bool (x3.2 == x4.2))], by kernel_rfl, by kernel_rfl⟩⟩
          · replace h := cd_f b14 h
            refine AX.reg (its := [.auto {}, .auto {}, .call 7 [.agg [.sl 3 0 x3.1.length], .agg [.sl 5 0 x4.1.length]] (handO (rho ([] ++ [])) [] [] ++ [(3, .arr 2 (List.map enc_si x3.1)), (5, .arr 2 (List.map enc_si x4.1))]) (callEv [] [] (.v (.bool false)) [])]) [2] [] (s1 := ⟨[(2, .v (.bool false))], []⟩) (C := ((([.agg [.sl 3 0 x3.1.length], .agg [.sl 5 0 x4.1.length]] : List AV) = [.agg [.sl 3 0 x3.1.length], .agg [.sl 5 0 x4.1.length]]) ∧ (AO.arr 2 (List.map enc_si x3.1) = AO.arr 2 (List.map enc_si x3.1)) ∧ (AO.arr 2 (List.map enc_si x4.1) = AO.arr 2 (List.map enc_si x4.1)) ∧ True) ∧ True) (by kernel_rfl) ⟨⟨rfl, rfl, rfl, trivial⟩, trivial⟩ ⟨call_ok (ks := []) (ns := []) (bor := [3, 5]) (bobjs := [(3, .arr 2 (List.map enc_si x3.1)), (5, .arr 2 (List.map enc_si x4.1))]) (show Eng.Spec Try.prog 7 [.agg [.bs false 2 (List.map enc_si x3.1)], .agg [.bs false 2 (List.map enc_si x4.1)]] [] (.v (.bool false)) [] from by have q := s_laws_equalEnum x3.1 x4.1 x8 e13; rw [b14] at q; exact q) (.cons (.c1 (.agg (.cons (.arr rfl rfl ((rfl).trans (List.length_map ..).symm)) (.nil)))) (.cons (.c1 (.agg (.cons (.arr rfl rfl ((rfl).trans (List.length_map ..).symm)) (.nil)))) (.nil))) (by kernel_rfl) trivial, trivial⟩ ?_
            refine AX.ret ?_
            refine fin_wk (Wk.forget [2] [] (s' := ⟨[(2, .v (.bool false))], []⟩) (by kernel_rfl)) ?_
            have hr := Option.some.inj h
            subst hr
            exact ⟨_, Wk.refl _, .inr rfl, ⟨[], by kernel_rfl, trivial, [.v (.bool false)], by kernel_rfl, by kernel_rfl⟩⟩
        · replace h := cd_f b12 h
          refine AX.condF ((!x3.2)) (by kernel_rfl) b12 ?_
          refine AX.skip ?_
          refine AX.seq ?_
          obtain ⟨x9, e15, h⟩ := bd_e h
          obtain ⟨x10, e16, h⟩ := bd_e h
          refine AX.drw mixed (its := [.auto {}, .auto {}, .call 8 [.sl 1 0 x2.2.length] (handO (rho ([] ++ [7])) [] [] ++ [(1, .arr 4 (List.map enc_isii x2.2))]) (callEv [] [7] (.sl 0 0 x9.length) [.arr 4 (List.map enc_isii x9)]), .call 5 [.agg [.sl 3 0 x3.1.length], .sl 7 0 x9.length] (handO (rho ([] ++ [8])) [] [] ++ [(3, .arr 2 (List.map enc_si x3.1)), (7, .arr 4 (List.map enc_isii x9))]) (callEv [] [8] (.tup [.agg [.sl 0 0 x10.1.length], .v (.bool x10.2)]) [.arr 2 (List.map enc_si x10.1)]), .auto {}, .auto {}, .auto {}, .auto { nk := 9 }]) [3, 5, 9, 10] [0, 2, 3, 4, 8, 9] (s1 := ⟨[(3, .pt 2 0), (5, .pt 4 0), (9, .pt 9 0), (10, .v (.bool x10.2))], [(0, .arr 2 (List.map enc_si x2.1)), (2, .box [.sl 0 0 x2.1.length]), (3, .arr 2 (List.map enc_si x3.1)), (4, .box [.sl 3 0 x3.1.length]), (8, .arr 2 (List.map enc_si x10.1)), (9, .box [.sl 8 0 x10.1.length])]⟩) (C := ((([.sl 1 0 x2.2.length] : List AV) = [.sl 1 0 x2.2.length]) ∧ (AO.arr 4 (List.map enc_isii x2.2) = AO.arr 4 (List.map enc_isii x2.2)) ∧ True) ∧ ((([.agg [.sl 3 0 x3.1.length], .sl 7 0 x9.length] : List AV) = [.agg [.sl 3 0 x3.1.length], .sl 7 0 x9.length]) ∧ (AO.arr 2 (List.map enc_si x3.1) = AO.arr 2 (List.map enc_si x3.1)) ∧ (AO.arr 4 (List.map enc_isii x9) = AO.arr 4 (List.map enc_isii x9)) ∧ True) ∧ True) (by kernel_rfl) ⟨⟨rfl, rfl, trivial⟩, ⟨⟨rfl, rfl, rfl, trivial⟩, trivial⟩⟩ ⟨call_ok (ks := []) (ns := [7]) (bor := [1]) (bobjs := [(1, .arr 4 (List.map enc_isii x2.2))]) (s_impl_TurnChanges x2.2 x9 e15) (.cons (.c1 (.c0 (.arr rfl rfl ((rfl).trans (List.length_map ..).symm)))) (.nil)) (by kernel_rfl) trivial, ⟨call_ok (ks := []) (ns := [8]) (bor := [3, 7]) (bobjs := [(3, .arr 2 (List.map enc_si x3.1)), (7, .arr 4 (List.map enc_isii x9))]) (s_impl_ApplyChanges x3.1 x9 x10 e16) (.cons (.c1 (.agg (.cons (.arr rfl rfl ((rfl).trans (List.length_map ..).symm)) (.nil)))) (.cons (.c1 (.c0 (.arr rfl rfl ((rfl).trans (List.length_map ..).symm)))) (.nil))) (by kernel_rfl) trivial, trivial⟩⟩ ?_
          refine AX.seq ?_
          obtain ⟨x11, e17, h⟩ := bd_e h
          rcases bool_cases (x11) with b18 | b18
          · replace h := cd_t b18 h
            rcases bool_cases (x10.2) with b19 | b19
            · replace h := cd_t b19 h
              obtain ⟨x12, e20, h⟩ := bd_e h
              refine AX.reg (its := [.auto {}, .call 9 [.agg [.sl 3 0 x3.1.length]] (handO (rho ([] ++ [])) [] [] ++ [(3, .arr 2 (List.map enc_si x3.1))]) (callEv [] [] (.v (.bool true)) []), .auto {}, .auto { y := some (.v (.bool true)) }, .auto {}, .auto {}, .auto {}, .auto {}, .call 10 [.agg [.sl 8 0 x10.1.length], .agg [.sl 0 0 x2.1.length]] (handO (rho ([] ++ [])) [] [] ++ [(8, .arr 2 (List.map enc_si x10.1)), (0, .arr 2 (List.map enc_si x2.1))]) (callEv [] [] (.v (.bool x12)) [])]) [2] [] (s1 := ⟨[(2, .v (.bool x12))], []⟩) (C := ((([.agg [.sl 3 0 x3.1.length]] : List AV) = [.agg [.sl 3 0 x3.1.length]]) ∧ (AO.arr 2 (List.map enc_si x3.1) = AO.arr 2 (List.map enc_si x3.1)) ∧ True) ∧ ((True) ∧ ((.v (.bool x10.2) : AV) = (.v (.bool true) : AV))) ∧ ((([.agg [.sl 8 0 x10.1.length], .agg [.sl 0 0 x2.1.length]] : List AV) = [.agg [.sl 8 0 x10.1.length], .agg [.sl 0 0 x2.1.length]]) ∧ (AO.arr 2 (List.map enc_si x10.1) = AO.arr 2 (List.map enc_si x10.1)) ∧ (AO.arr 2 (List.map enc_si x2.1) = AO.arr 2 (List.map enc_si x2.1)) ∧ True) ∧ True) (by kernel_rfl) ⟨⟨rfl, rfl, trivial⟩, ⟨⟨trivial, (congrArg (fun z => AV.v (.bool z)) b19)⟩, ⟨⟨rfl, rfl, rfl, trivial⟩, trivial⟩⟩⟩ ⟨call_ok (ks := []) (ns := []) (bor := [3]) (bobjs := [(3, .arr 2 (List.map enc_si x3.1))]) (show Eng.Spec Try.prog 9 [.agg [.bs false 2 (List.map enc_si x3.1)]] [] (.v (.bool true)) [] from by have q := s_impl_ValidEnum x3.1 x11 e17; rw [b18] at q; exact q) (.cons (.c1 (.agg (.cons (.arr rfl rfl ((rfl).trans (List.length_map ..).symm)) (.nil)))) (.nil)) (by kernel_rfl) trivial, ⟨call_ok (ks := []) (ns := []) (bor := [8, 0]) (bobjs := [(8, .arr 2 (List.map enc_si x10.1)), (0, .arr 2 (List.map enc_si x2.1))]) (s_impl_SameMeaning x10.1 x2.1 x12 e20) (.cons (.c1 (.agg (.cons (.arr rfl rfl ((rfl).trans (List.length_map ..).symm)) (.nil)))) (.cons (.c1 (.agg (.cons (.arr rfl rfl ((rfl).trans (List.length_map ..).symm)) (.nil)))) (.nil))) (by kernel_rfl) trivial, trivial⟩⟩ ?_
              refine AX.ret ?_
              refine fin_wk (Wk.forget [2] [] (s' := ⟨[(2, .v (.bool x12))], []⟩) (by kernel_rfl)) ?_
              have hr := Option.some.inj h
              subst hr
              exact ⟨_, Wk.refl _, .inr rfl, ⟨[], by kernel_rfl, trivial, [.v (.bool x12)], by kernel_rfl, by kernel_rfl⟩⟩
            · replace h := cd_f b19 h
              refine AX.reg (its := [.auto {}, .call 9 [.agg [.sl 3 0 x3.1.length]] (handO (rho ([] ++ [])) [] [] ++ [(3, .arr 2 (List.map enc_si x3.1))]) (callEv [] [] (.v (.bool true)) []), .auto {}, .auto { y := some (.v (.bool false)) }]) [2] [] (s1 := ⟨[(2, .v (.bool false))], []⟩) (C := ((([.agg [.sl 3 0 x3.1.length]] : List AV) = [.agg [.sl 3 0 x3.1.length]]) ∧ (AO.arr 2 (List.map enc_si x3.1) = AO.arr 2 (List.map enc_si x3.1)) ∧ True) ∧ ((True) ∧ ((.v (.bool x10.2) : AV) = (.v (.bool false) : AV))) ∧ True) (by kernel_rfl) ⟨⟨rfl, rfl, trivial⟩, ⟨⟨trivial, (congrArg (fun z => AV.v (.bool z)) b19)⟩, trivial⟩⟩ ⟨call_ok (ks := []) (ns := []) (bor := [3]) (bobjs := [(3, .arr 2 (List.map enc_si x3.1))]) (show Eng.Spec Try.prog 9 [.agg [.bs false 2 (List.map enc_si x3.1)]] [] (.v (.bool true)) [] from by have q := s_impl_ValidEnum x3.1 x11 e17; rw [b18] at q; exact q) (.cons (.c1 (.agg (.cons (.arr rfl rfl ((rfl).trans (List.length_map ..).symm)) (.nil)))) (.nil)) (by kernel_rfl) trivial, trivial⟩ ?_
              refine AX.ret ?_
              refine fin_wk (Wk.forget [2] [] (s' := ⟨[(2, .v (.bool false))], []⟩) (by kernel_rfl)) ?_
              have hr := Option.some.inj h
              subst hr
              exact ⟨_, Wk.refl _, .inr rfl, ⟨[], by kernel_rfl, trivial, [.v (.bool false)], by kernel_rfl, by kernel_rfl⟩⟩
          · replace h := cd_f b18 h
            refine AX.reg (its := [.auto {}, .call 9 [.agg [.sl 3 0 x3.1.length]] (handO (rho ([] ++ [])) [] [] ++ [(3, .arr 2 (List.map enc_si x3.1))]) (callEv [] [] (.v (.bool false)) [])]) [2] [] (s1 := ⟨[(2, .v (.bool false))], []⟩) (C := ((([.agg [.sl 3 0 x3.1.length]] : List AV) = [.agg [.sl 3 0 x3.1.length]]) ∧ (AO.arr 2 (List.map enc_si x3.1) = AO.arr 2 (List.map enc_si x3.1)) ∧ True) ∧ True) (by kernel_rfl) ⟨⟨rfl, rfl, trivial⟩, trivial⟩ ⟨call_ok (ks := []) (ns := []) (bor := [3]) (bobjs := [(3, .arr 2 (List.map enc_si x3.1))]) (show Eng.Spec Try.prog 9 [.agg [.bs false 2 (List.map enc_si x3.1)]] [] (.v (.bool false)) [] from by have q := s_impl_ValidEnum x3.1 x11 e17; rw [b18] at q; exact q) (.cons (.c1 (.agg (.cons (.arr rfl rfl ((rfl).trans (List.length_map ..).symm)) (.nil)))) (.nil)) (by kernel_rfl) trivial, trivial⟩ ?_
            refine AX.ret ?_
            refine fin_wk (Wk.forget [2] [] (s' := ⟨[(2, .v (.bool false))], []⟩) (by kernel_rfl)) ?_
            have hr := Option.some.inj h
            subst hr
            exact ⟨_, Wk.refl _, .inr rfl, ⟨[], by kernel_rfl, trivial, [.v (.bool false)], by kernel_rfl, by kernel_rfl⟩⟩

end Go.Eng
