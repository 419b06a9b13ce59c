/- What is proved here: each function keeps to its model, whatever its arguments, wherever the model has an answer. Printed by gen.py. -/
import Derived.Test.YtpfhlnhdlmeocaaCConvertValueOrWalk3
import Derived.Test.YtpfhlnhdlmeocaaProg
import Derived.KernelRfl
set_option linter.unusedVariables false
namespace Go.Eng
open Go Go.Proofs


theorem s_laws_kept (p1 : List (ByteArray × Int)) (p2 : Int) (r : (List (ByteArray × Int)) × Int) (h : m_laws_kept p1 p2 = some r) :
    Eng.Spec Try.prog 41 [.agg [.bs false 2 (List.map enc_si p1), .v (.int .i64 p2)]] [] (.agg [.sl 0 0 r.1.length, .v (.int .i64 r.2)]) [.arr 2 (List.map enc_si r.1)] := by
  unfold m_laws_kept at h
  refine Eng.Spec.body Try.func41 (by kernel_rfl) rfl (by kernel_rfl) ?_
  refine AX.wkpost ?_
  refine AX.seq ?_
  refine AX.reg (its := [.auto { nk := 0 }, .auto { nk := 1 }]) [1, 2] [0, 1] (s1 := ⟨[(1, .pt 0 0), (2, .pt 1 0)], [(0, .box [.bs false 2 (List.map enc_si p1), .v (.int .i64 p2)]), (1, .box [.v (.slice none 0 0), .v (.int .i64 0)])]⟩) (C := True) (by kernel_rfl) trivial trivial ?_
  refine AX.seq ?_
  obtain ⟨x3, e1, h⟩ := bd_e h
  refine AX.reg (its := [.auto {}, .call 81 [.agg [.bs false 2 (List.map enc_si p1), .v (.int .i64 p2)], .v (.int .i64 3)] (handO (rho ([] ++ [2])) [] [] ++ []) (callEv [] [2] (.tup [.agg [.sl 0 0 x3.1.length, .v (.int .i64 x3.2.1)], .v (.bool x3.2.2)]) [.arr 2 (List.map enc_si x3.1)]), .auto {}, .auto {}, .auto {}, .auto { nk := 3 }]) [2, 3] [1, 2, 3] (s1 := ⟨[(2, .pt 1 0), (3, .pt 3 0)], [(1, .box [.v (.slice none 0 0), .v (.int .i64 0)]), (2, .arr 2 (List.map enc_si x3.1)), (3, .box [.sl 2 0 x3.1.length, .v (.int .i64 x3.2.1)])]⟩) (C := ((([.agg [.bs false 2 (List.map enc_si p1), .v (.int .i64 p2)], .v (.int .i64 3)] : List AV) = [.agg [.bs false 2 (List.map enc_si p1), .v (.int .i64 p2)], .v (.int .i64 3)]) ∧ True) ∧ True) (by kernel_rfl) ⟨⟨rfl, trivial⟩, trivial⟩ ⟨call_ok (ks := []) (ns := [2]) (bor := []) (bobjs := []) (s_impl_WithBound p1 p2 3 x3 e1) (.cons (.c1 (.agg (.cons (.same _ (by kernel_rfl) (by kernel_rfl)) (.cons (.same _ (by kernel_rfl) (by kernel_rfl)) (.nil))))) (.cons (.c1 (.c0 (.same _ (by kernel_rfl) (by kernel_rfl)))) (.nil))) (by kernel_rfl) trivial, trivial⟩ ?_
  refine AX.seq ?_
  refine AX.reg (its := []) [2] [1, 2] (s1 := ⟨[(2, .pt 1 0)], [(1, .box [.sl 2 0 x3.1.length, .v (.int .i64 x3.2.1)]), (2, .arr 2 (List.map enc_si x3.1))]⟩) (C := True) (by kernel_rfl) trivial trivial ?_
  refine AX.ret ?_
  refine fin_wk (Wk.swap 0 1 (Nat.le_of_ble_eq_true (by kernel_rfl)) (Nat.le_of_ble_eq_true (by kernel_rfl)) rfl) ?_
  refine fin_wk (Wk.swap 1 2 (Nat.le_of_ble_eq_true (by kernel_rfl)) (Nat.le_of_ble_eq_true (by kernel_rfl)) rfl) ?_
  refine fin_wk (Wk.forget [2] [0, 1] (s' := ⟨[(2, .pt 0 0)], [(0, .box [.sl 1 0 x3.1.length, .v (.int .i64 x3.2.1)]), (1, .arr 2 (List.map enc_si x3.1))]⟩) (by kernel_rfl)) ?_
  have hr := Option.some.inj h
  subst hr
  exact ⟨_, Wk.refl _, .inr rfl, ⟨[1], by kernel_rfl, ⟨rfl, trivial⟩, [.agg [.sl 1 0 x3.1.length, .v (.int .i64 x3.2.1)]], by kernel_rfl, by kernel_rfl⟩⟩

theorem s_impl_HasAll (p1 : List (ByteArray × Int)) (p2 : Int) (p3 : Int) (p4 : Int) (r : Bool) (h : m_impl_HasAll p1 p2 p3 p4 = some r) :
    Eng.Spec Try.prog 42 [.agg [.bs false 2 (List.map enc_si p1), .v (.int .i64 p2)], .v (.int .i64 p3), .v (.int .i64 p4)] [] (.v (.bool r)) [] := by
  unfold m_impl_HasAll at h
  refine Eng.Spec.body Try.func42 (by kernel_rfl) rfl (by kernel_rfl) ?_
  refine AX.wkpost ?_
  refine AX.seq ?_
  refine AX.reg (its := [.auto { nk := 0 }]) [1, 2, 3] [0] (s1 := ⟨[(1, .v (.int .i64 p3)), (2, .v (.int .i64 p4)), (3, .pt 0 0)], [(0, .box [.bs false 2 (List.map enc_si p1), .v (.int .i64 p2)])]⟩) (C := True) (by kernel_rfl) trivial trivial ?_
  refine AX.seq ?_
  obtain ⟨x5, e1, h⟩ := bd_e h
  rcases bool_cases (x5) with b2 | b2
  · replace h := cd_t b2 h
    obtain ⟨x6, e3, h⟩ := bd_e h
    rcases bool_cases (x6) with b4 | b4
    · replace h := cd_t b4 h
      refine AX.reg (its := [.auto {}, .auto {}, .call 47 [.agg [.bs false 2 (List.map enc_si p1), .v (.int .i64 p2)], .v (.int .i64 p3)] (handO (rho ([] ++ [])) [] [] ++ []) (callEv [] [] (.v (.bool true)) []), .auto {}, .auto {}, .auto {}, .call 47 [.agg [.bs false 2 (List.map enc_si p1), .v (.int .i64 p2)], .v (.int .i64 p4)] (handO (rho ([] ++ [])) [] [] ++ []) (callEv [] [] (.v (.bool true)) [])]) [6] [] (s1 := ⟨[(6, .v (.bool (decide ((Go.bits .andNot .i64 p4 p3) = 0))))], []⟩) (C := ((([.agg [.bs false 2 (List.map enc_si p1), .v (.int .i64 p2)], .v (.int .i64 p3)] : List AV) = [.agg [.bs false 2 (List.map enc_si p1), .v (.int .i64 p2)], .v (.int .i64 p3)]) ∧ True) ∧ ((([.agg [.bs false 2 (List.map enc_si p1), .v (.int .i64 p2)], .v (.int .i64 p4)] : List AV) = [.agg [.bs false 2 (List.map enc_si p1), .v (.int .i64 p2)], .v (.int .i64 p4)]) ∧ True) ∧ True) (by kernel_rfl) ⟨⟨rfl, trivial⟩, ⟨⟨rfl, trivial⟩, trivial⟩⟩ ⟨call_ok (ks := []) (ns := []) (bor := []) (bobjs := []) (show Eng.Spec Try.prog 47 [.agg [.bs false 2 (List.map enc_si p1), .v (.int .i64 p2)], .v (.int .i64 p3)] [] (.v (.bool true)) [] from by have q := s_impl_IsValue p1 p2 p3 x5 e1; rw [b2] at q; exact q) (.cons (.c1 (.agg (.cons (.same _ (by kernel_rfl) (by kernel_rfl)) (.cons (.same _ (by kernel_rfl) (by kernel_rfl)) (.nil))))) (.cons (.c1 (.c0 (.same _ (by kernel_rfl) (by kernel_rfl)))) (.nil))) (by kernel_rfl) trivial, ⟨call_ok (ks := []) (ns := []) (bor := []) (bobjs := []) (show Eng.Spec Try.prog 47 [.agg [.bs false 2 (List.map enc_si p1), .v (.int .i64 p2)], .v (.int .i64 p4)] [] (.v (.bool true)) [] from by have q := s_impl_IsValue p1 p2 p4 x6 e3; rw [b4] at q; exact q) (.cons (.c1 (.agg (.cons (.same _ (by kernel_rfl) (by kernel_rfl)) (.cons (.same _ (by kernel_rfl) (by kernel_rfl)) (.nil))))) (.cons (.c1 (.c0 (.same _ (by kernel_rfl) (by kernel_rfl)))) (.nil))) (by kernel_rfl) trivial, trivial⟩⟩ ?_
      refine AX.ret ?_
      refine fin_wk (Wk.forget [6] [] (s' := ⟨[(6, .v (.bool (decide ((Go.bits .andNot .i64 p4 p3) = 0))))], []⟩) (by kernel_rfl)) ?_
      have hr := Option.some.inj h
      subst hr
      exact ⟨_, Wk.refl _, .inr rfl, ⟨[], by kernel_rfl, trivial, [.v (.bool (decide ((Go.bits .andNot .i64 p4 p3) = 0)))], by kernel_rfl, by kernel_rfl⟩⟩
    · replace h := cd_f b4 h
      refine AX.reg (its := [.auto {}, .auto {}, .call 47 [.agg [.bs false 2 (List.map enc_si p1), .v (.int .i64 p2)], .v (.int .i64 p3)] (handO (rho ([] ++ [])) [] [] ++ []) (callEv [] [] (.v (.bool true)) []), .auto {}, .auto {}, .auto {}, .call 47 [.agg [.bs false 2 (List.map enc_si p1), .v (.int .i64 p2)], .v (.int .i64 p4)] (handO (rho ([] ++ [])) [] [] ++ []) (callEv [] [] (.v (.bool false)) [])]) [6] [] (s1 := ⟨[(6, .v (.bool false))], []⟩) (C := ((([.agg [.bs false 2 (List.map enc_si p1), .v (.int .i64 p2)], .v (.int .i64 p3)] : List AV) = [.agg [.bs false 2 (List.map enc_si p1), .v (.int .i64 p2)], .v (.int .i64 p3)]) ∧ True) ∧ ((([.agg [.bs false 2 (List.map enc_si p1), .v (.int .i64 p2)], .v (.int .i64 p4)] : List AV) = [.agg [.bs false 2 (List.map enc_si p1), .v (.int .i64 p2)], .v (.int .i64 p4)]) ∧ True) ∧ True) (by kernel_rfl) ⟨⟨rfl, trivial⟩, ⟨⟨rfl, trivial⟩, trivial⟩⟩ ⟨call_ok (ks := []) (ns := []) (bor := []) (bobjs := []) (show Eng.Spec Try.prog 47 [.agg [.bs false 2 (List.map enc_si p1), .v (.int .i64 p2)], .v (.int .i64 p3)] [] (.v (.bool true)) [] from by have q := s_impl_IsValue p1 p2 p3 x5 e1; rw [b2] at q; exact q) (.cons (.c1 (.agg (.cons (.same _ (by kernel_rfl) (by kernel_rfl)) (.cons (.same _ (by kernel_rfl) (by kernel_rfl)) (.nil))))) (.cons (.c1 (.c0 (.same _ (by kernel_rfl) (by kernel_rfl)))) (.nil))) (by kernel_rfl) trivial, ⟨call_ok (ks := []) (ns := []) (bor := []) (bobjs := []) (show Eng.Spec Try.prog 47 [.agg [.bs false 2 (List.map enc_si p1), .v (.int .i64 p2)], .v (.int .i64 p4)] [] (.v (.bool false)) [] from by have q := s_impl_IsValue p1 p2 p4 x6 e3; rw [b4] at q; exact q) (.cons (.c1 (.agg (.cons (.same _ (by kernel_rfl) (by kernel_rfl)) (.cons (.same _ (by kernel_rfl) (by kernel_rfl)) (.nil))))) (.cons (.c1 (.c0 (.same _ (by kernel_rfl) (by kernel_rfl)))) (.nil))) (by kernel_rfl) trivial, trivial⟩⟩ ?_
      refine AX.ret ?_
      refine fin_wk (Wk.forget [6] [] (s' := ⟨[(6, .v (.bool false))], []⟩) (by kernel_rfl)) ?_
      have hr := Option.some.inj h
      subst hr
      exact ⟨_, Wk.refl _, .inr rfl, ⟨[], by kernel_rfl, trivial, [.v (.bool false)], by kernel_rfl, by kernel_rfl⟩⟩
  · replace h := cd_f b2 h
    refine AX.reg (its := [.auto {}, .auto {}, .call 47 [.agg [.bs false 2 (List.map enc_si p1), .v (.int .i64 p2)], .v (.int .i64 p3)] (handO (rho ([] ++ [])) [] [] ++ []) (callEv [] [] (.v (.bool false)) [])]) [6] [] (s1 := ⟨[(6, .v (.bool false))], []⟩) (C := ((([.agg [.bs false 2 (List.map enc_si p1), .v (.int .i64 p2)], .v (.int .i64 p3)] : List AV) = [.agg [.bs false 2 (List.map enc_si p1), .v (.int .i64 p2)], .v (.int .i64 p3)]) ∧ True) ∧ True) (by kernel_rfl) ⟨⟨rfl, trivial⟩, trivial⟩ ⟨call_ok (ks := []) (ns := []) (bor := []) (bobjs := []) (show Eng.Spec Try.prog 47 [.agg [.bs false 2 (List.map enc_si p1), .v (.int .i64 p2)], .v (.int .i64 p3)] [] (.v (.bool false)) [] from by have q := s_impl_IsValue p1 p2 p3 x5 e1; rw [b2] at q; exact q) (.cons (.c1 (.agg (.cons (.same _ (by kernel_rfl) (by kernel_rfl)) (.cons (.same _ (by kernel_rfl) (by kernel_rfl)) (.nil))))) (.cons (.c1 (.c0 (.same _ (by kernel_rfl) (by kernel_rfl)))) (.nil))) (by kernel_rfl) trivial, trivial⟩ ?_
    refine AX.ret ?_
    refine fin_wk (Wk.forget [6] [] (s' := ⟨[(6, .v (.bool false))], []⟩) (by kernel_rfl)) ?_
    have hr := Option.some.inj h
    subst hr
    exact ⟨_, Wk.refl _, .inr rfl, ⟨[], by kernel_rfl, trivial, [.v (.bool false)], by kernel_rfl, by kernel_rfl⟩⟩

theorem s_impl_OrValues_1 (p1 : Int) (p2 : Int) (r : Unit) (h : m_impl_OrValues_1 p1 p2 = some r) :
    Eng.Spec Try.prog 74 [.v (.int .i64 p1), .v (.int .i64 p2)] [] (.v (.int .i64 (Go.bits .or .i64 p1 p2))) [] := by
  unfold m_impl_OrValues_1 at h
  refine Eng.Spec.body Try.func74 (by kernel_rfl) rfl (by kernel_rfl) ?_
  refine AX.wkpost ?_
  refine AX.seq ?_
  refine AX.reg (its := []) [0, 1] [] (s1 := ⟨[(0, .v (.int .i64 p1)), (1, .v (.int .i64 p2))], []⟩) (C := True) (by kernel_rfl) trivial trivial ?_
  refine AX.seq ?_
  refine AX.reg (its := []) [4] [] (s1 := ⟨[(4, .v (.int .i64 (Go.bits .or .i64 p1 p2)))], []⟩) (C := True) (by kernel_rfl) trivial trivial ?_
  refine AX.ret ?_
  refine fin_wk (Wk.forget [4] [] (s' := ⟨[(4, .v (.int .i64 (Go.bits .or .i64 p1 p2)))], []⟩) (by kernel_rfl)) ?_
  have hr := Option.some.inj h
  subst hr
  exact ⟨_, Wk.refl _, .inr rfl, ⟨[], by kernel_rfl, trivial, [.v (.int .i64 (Go.bits .or .i64 p1 p2))], by kernel_rfl, by kernel_rfl⟩⟩

theorem s_impl_join_OrValues_1 (p1 : List (ByteArray × Int)) (p2 : Int) (p3 : Int) (p4 : Int) (r : Int) (h : m_impl_join_OrValues_1 p1 p2 p3 p4 = some r) :
    Eng.Spec Try.prog 73 [.agg [.bs false 2 (List.map enc_si p1), .v (.int .i64 p2)], .v (.int .i64 p3), .v (.int .i64 p4), .fn 74 []] [] (.v (.int .i64 r)) [] := by
  unfold m_impl_join_OrValues_1 at h
  refine Eng.Spec.body Try.func73 (by kernel_rfl) rfl (by kernel_rfl) ?_
  refine AX.wkpost ?_
  refine AX.seq ?_
  refine AX.reg (its := [.auto { nk := 0 }]) [1, 2, 3, 4] [0] (s1 := ⟨[(1, .v (.int .i64 p3)), (2, .v (.int .i64 p4)), (3, .fn 74 []), (4, .pt 0 0)], [(0, .box [.bs false 2 (List.map enc_si p1), .v (.int .i64 p2)])]⟩) (C := True) (by kernel_rfl) trivial trivial ?_
  refine AX.seq ?_
  refine AX.seq ?_
  obtain ⟨x5, e1, h⟩ := bd_e h
  rcases bool_cases ((!x5)) with b2 | b2
  · replace h := cd_t b2 h
    refine AX.reg (its := [.auto {}, .auto {}, .call 47 [.agg [.bs false 2 (List.map enc_si p1), .v (.int .i64 p2)], .v (.int .i64 p3)] (handO (rho ([] ++ [])) [] [] ++ []) (callEv [] [] (.v (.bool x5)) []), .auto { y := some (.v (.bool true)) }]) [1, 2, 3, 18] [] (s1 := ⟨[(1, .v (.int .i64 p3)), (2, .v (.int .i64 p4)), (3, .fn 74 []), (18, .v (.bool true))], []⟩) (C := ((([.agg [.bs false 2 (List.map enc_si p1), .v (.int .i64 p2)], .v (.int .i64 p3)] : List AV) = [.agg [.bs false 2 (List.map enc_si p1), .v (.int .i64 p2)], .v (.int .i64 p3)]) ∧ True) ∧ ((True) ∧ ((.v (.bool (!x5)) : AV) = (.v (.bool true) : AV))) ∧ True) (by kernel_rfl) ⟨⟨rfl, trivial⟩, ⟨⟨trivial, (congrArg (fun z => AV.v (.bool z)) b2)⟩, trivial⟩⟩ ⟨call_ok (ks := []) (ns := []) (bor := []) (bobjs := []) (s_impl_IsValue p1 p2 p3 x5 e1) (.cons (.c1 (.agg (.cons (.same _ (by kernel_rfl) (by kernel_rfl)) (.cons (.same _ (by kernel_rfl) (by kernel_rfl)) (.nil))))) (.cons (.c1 (.c0 (.same _ (by kernel_rfl) (by kernel_rfl)))) (.nil))) (by kernel_rfl) trivial, trivial⟩ ?_
    refine AX.cond_true (by kernel_rfl) ?_
    refine AX.seq ?_
    refine AX.reg (its := []) [8] [] (s1 := ⟨[(8, .v (.int .i64 (-1)))], []⟩) (C := True) (by kernel_rfl) trivial trivial ?_
    refine AX.ret ?_
    refine fin_wk (Wk.forget [8] [] (s' := ⟨[(8, .v (.int .i64 (-1)))], []⟩) (by kernel_rfl)) ?_
    have hr := Option.some.inj h
    subst hr
    exact ⟨_, Wk.refl _, .inr rfl, ⟨[], by kernel_rfl, trivial, [.v (.int .i64 (-1))], by kernel_rfl, by kernel_rfl⟩⟩
  · replace h := cd_f b2 h
    obtain ⟨x6, e3, h⟩ := bd_e h
    refine AX.reg (its := [.auto {}, .auto {}, .call 47 [.agg [.bs false 2 (List.map enc_si p1), .v (.int .i64 p2)], .v (.int .i64 p3)] (handO (rho ([] ++ [])) [] [] ++ []) (callEv [] [] (.v (.bool x5)) []), .auto { y := some (.v (.bool false)) }, .auto {}, .auto {}, .auto {}, .call 47 [.agg [.bs false 2 (List.map enc_si p1), .v (.int .i64 p2)], .v (.int .i64 p4)] (handO (rho ([] ++ [])) [] [] ++ []) (callEv [] [] (.v (.bool x6)) [])]) [1, 2, 3, 18] [] (s1 := ⟨[(1, .v (.int .i64 p3)), (2, .v (.int .i64 p4)), (3, .fn 74 []), (18, .v (.bool (!x6)))], []⟩) (C := ((([.agg [.bs false 2 (List.map enc_si p1), .v (.int .i64 p2)], .v (.int .i64 p3)] : List AV) = [.agg [.bs false 2 (List.map enc_si p1), .v (.int .i64 p2)], .v (.int .i64 p3)]) ∧ True) ∧ ((True) ∧ ((.v (.bool (!x5)) : AV) = (.v (.bool false) : AV))) ∧ ((([.agg [.bs false 2 (List.map enc_si p1), .v (.int .i64 p2)], .v (.int .i64 p4)] : List AV) = [.agg [.bs false 2 (List.map enc_si p1), .v (.int .i64 p2)], .v (.int .i64 p4)]) ∧ True) ∧ True) (by kernel_rfl) ⟨⟨rfl, trivial⟩, ⟨⟨trivial, (congrArg (fun z => AV.v (.bool z)) b2)⟩, ⟨⟨rfl, trivial⟩, trivial⟩⟩⟩ ⟨call_ok (ks := []) (ns := []) (bor := []) (bobjs := []) (s_impl_IsValue p1 p2 p3 x5 e1) (.cons (.c1 (.agg (.cons (.same _ (by kernel_rfl) (by kernel_rfl)) (.cons (.same _ (by kernel_rfl) (by kernel_rfl)) (.nil))))) (.cons (.c1 (.c0 (.same _ (by kernel_rfl) (by kernel_rfl)))) (.nil))) (by kernel_rfl) trivial, ⟨call_ok (ks := []) (ns := []) (bor := []) (bobjs := []) (s_impl_IsValue p1 p2 p4 x6 e3) (.cons (.c1 (.agg (.cons (.same _ (by kernel_rfl) (by kernel_rfl)) (.cons (.same _ (by kernel_rfl) (by kernel_rfl)) (.nil))))) (.cons (.c1 (.c0 (.same _ (by kernel_rfl) (by kernel_rfl)))) (.nil))) (by kernel_rfl) trivial, trivial⟩⟩ ?_
    rcases bool_cases ((!x6)) with b4 | b4
    · replace h := cd_t b4 h
      refine AX.condT ((!x6)) (by kernel_rfl) b4 ?_
      refine AX.seq ?_
      refine AX.reg (its := []) [8] [] (s1 := ⟨[(8, .v (.int .i64 (-1)))], []⟩) (C := True) (by kernel_rfl) trivial trivial ?_
      refine AX.ret ?_
      refine fin_wk (Wk.forget [8] [] (s' := ⟨[(8, .v (.int .i64 (-1)))], []⟩) (by kernel_rfl)) ?_
      have hr := Option.some.inj h
      subst hr
      exact ⟨_, Wk.refl _, .inr rfl, ⟨[], by kernel_rfl, trivial, [.v (.int .i64 (-1))], by kernel_rfl, by kernel_rfl⟩⟩
    · replace h := cd_f b4 h
      refine AX.condF ((!x6)) (by kernel_rfl) b4 ?_
      refine AX.skip ?_
      refine AX.seq ?_
      obtain ⟨x7, e5, h⟩ := bd_e h
      refine AX.reg (its := [.auto {}, .auto {}, .auto {}, .call 74 [.v (.int .i64 p3), .v (.int .i64 p4)] (handO (rho ([] ++ [])) [] [] ++ []) (callEv [] [] (.v (.int .i64 (Go.bits .or .i64 p3 p4))) [])]) [8] [] (s1 := ⟨[(8, .v (.int .i64 (Go.bits .or .i64 p3 p4)))], []⟩) (C := ((([.v (.int .i64 p3), .v (.int .i64 p4)] : List AV) = [.v (.int .i64 p3), .v (.int .i64 p4)]) ∧ True) ∧ True) (by kernel_rfl) ⟨⟨rfl, trivial⟩, trivial⟩ ⟨call_ok (ks := []) (ns := []) (bor := []) (bobjs := []) (s_impl_OrValues_1 p3 p4 x7 e5) (.cons (.c1 (.c0 (.same _ (by kernel_rfl) (by kernel_rfl)))) (.cons (.c1 (.c0 (.same _ (by kernel_rfl) (by kernel_rfl)))) (.nil))) (by kernel_rfl) trivial, trivial⟩ ?_
      refine AX.ret ?_
      refine fin_wk (Wk.forget [8] [] (s' := ⟨[(8, .v (.int .i64 (Go.bits .or .i64 p3 p4)))], []⟩) (by kernel_rfl)) ?_
      have hr := Option.some.inj h
      subst hr
      exact ⟨_, Wk.refl _, .inr rfl, ⟨[], by kernel_rfl, trivial, [.v (.int .i64 (Go.bits .or .i64 p3 p4))], by kernel_rfl, by kernel_rfl⟩⟩

theorem s_impl_OrValues (p1 : List (ByteArray × Int)) (p2 : Int) (p3 : Int) (p4 : Int) (r : Int) (h : m_impl_OrValues p1 p2 p3 p4 = some r) :
    Eng.Spec Try.prog 32 [.agg [.bs false 2 (List.map enc_si p1), .v (.int .i64 p2)], .v (.int .i64 p3), .v (.int .i64 p4)] [] (.v (.int .i64 r)) [] := by
  unfold m_impl_OrValues at h
  refine Eng.Spec.body Try.func32 (by kernel_rfl) rfl (by kernel_rfl) ?_
  refine AX.wkpost ?_
  refine AX.seq ?_
  refine AX.reg (its := [.auto { nk := 0 }]) [1, 2, 3] [0] (s1 := ⟨[(1, .v (.int .i64 p3)), (2, .v (.int .i64 p4)), (3, .pt 0 0)], [(0, .box [.bs false 2 (List.map enc_si p1), .v (.int .i64 p2)])]⟩) (C := True) (by kernel_rfl) trivial trivial ?_
  refine AX.seq ?_
  obtain ⟨x5, e1, h⟩ := bd_e h
  refine AX.reg (its := [.auto {}, .auto {}, .auto {}, .call 73 [.agg [.bs false 2 (List.map enc_si p1), .v (.int .i64 p2)], .v (.int .i64 p3), .v (.int .i64 p4), .fn 74 []] (handO (rho ([] ++ [])) [] [] ++ []) (callEv [] [] (.v (.int .i64 x5)) [])]) [6] [] (s1 := ⟨[(6, .v (.int .i64 x5))], []⟩) (C := ((([.agg [.bs false 2 (List.map enc_si p1), .v (.int .i64 p2)], .v (.int .i64 p3), .v (.int .i64 p4), .fn 74 []] : List AV) = [.agg [.bs false 2 (List.map enc_si p1), .v (.int .i64 p2)], .v (.int .i64 p3), .v (.int .i64 p4), .fn 74 []]) ∧ True) ∧ True) (by kernel_rfl) ⟨⟨rfl, trivial⟩, trivial⟩ ⟨call_ok (ks := []) (ns := []) (bor := []) (bobjs := []) (s_impl_join_OrValues_1 p1 p2 p3 p4 x5 e1) (.cons (.c1 (.agg (.cons (.same _ (by kernel_rfl) (by kernel_rfl)) (.cons (.same _ (by kernel_rfl) (by kernel_rfl)) (.nil))))) (.cons (.c1 (.c0 (.same _ (by kernel_rfl) (by kernel_rfl)))) (.cons (.c1 (.c0 (.same _ (by kernel_rfl) (by kernel_rfl)))) (.cons (.fn (.nil)) (.nil))))) (by kernel_rfl) trivial, trivial⟩ ?_
  refine AX.ret ?_
  refine fin_wk (Wk.forget [6] [] (s' := ⟨[(6, .v (.int .i64 x5))], []⟩) (by kernel_rfl)) ?_
  have hr := Option.some.inj h
  subst hr
  exact ⟨_, Wk.refl _, .inr rfl, ⟨[], by kernel_rfl, trivial, [.v (.int .i64 x5)], by kernel_rfl, by kernel_rfl⟩⟩

theorem s_laws_FnConvertValueOr_L1 (x2 : (List (ByteArray × Int)) × Int × (List (ByteArray × Int)) × Int × Int) (x3 : Int × Bool) (n : Nat) (g : Int × Int) (out : Unit ⊕ Int) (h : m_laws_FnConvertValueOr_L1 x2 x3 n g.1 g.2 = some out) :
    AX Try.prog 83 0 (codeAt [1, 1, 1, 1, 1, 1, 1, 1, 0, 1] (bodyOf Try.f14)) ((fun g : Int × Int => (⟨[(3, .pt 0 0), (4, .pt 2 0), (5, .v (.int .i64 x2.2.2.2.2)), (6, .v (.int .i64 x3.1)), (10, .v (.int .i64 g.1)), (11, .v (.int .i64 g.2))], [(0, .box [.sl 1 0 x2.1.length, .v (.int .i64 x2.2.1)]), (1, .arr 2 (List.map enc_si x2.1)), (2, .box [.sl 3 0 x2.2.2.1.length, .v (.int .i64 x2.2.2.2.1)]), (3, .arr 2 (List.map enc_si x2.2.2.1))]⟩ : S)) g) (fun ex s => (∃ o : Unit, out = Sum.inl o ∧ ex = .ret ∧ s = ⟨[(2, .v (.bool false))], []⟩) ∨ (∃ o : Int, out = Sum.inr o ∧ ex = .exit 0 ∧ s = ⟨[(6, .v (.int .i64 x3.1)), (10, .v (.int .i64 o))], []⟩)) := by
  refine AX.wkpost ?_
  refine AX.loop (G := Nat × (Int × Int)) (fun q => (fun g : Int × Int => (⟨[(3, .pt 0 0), (4, .pt 2 0), (5, .v (.int .i64 x2.2.2.2.2)), (6, .v (.int .i64 x3.1)), (10, .v (.int .i64 g.1)), (11, .v (.int .i64 g.2))], [(0, .box [.sl 1 0 x2.1.length, .v (.int .i64 x2.2.1)]), (1, .arr 2 (List.map enc_si x2.1)), (2, .box [.sl 3 0 x2.2.2.1.length, .v (.int .i64 x2.2.2.2.1)]), (3, .arr 2 (List.map enc_si x2.2.2.1))]⟩ : S)) q.2) (fun q => m_laws_FnConvertValueOr_L1 x2 x3 q.1 q.2.1 q.2.2 = some out) (fun q => q.1) (n, g) h (Wk.refl _) ?_
  clear h
  rintro ⟨fu, v5, v6⟩ h
  cases fu with
  | zero => cases h
  | succ fu =>
    rw [m_laws_FnConvertValueOr_L1] at h
    refine AX.seq ?_
    refine AX.seq ?_
    refine AX.reg (its := []) [3, 4, 5, 6, 10, 11, 59] [0, 1, 2, 3] (s1 := ⟨[(3, .pt 0 0), (4, .pt 2 0), (5, .v (.int .i64 x2.2.2.2.2)), (6, .v (.int .i64 x3.1)), (10, .v (.int .i64 v5)), (11, .v (.int .i64 v6)), (59, .v (.bool (decide (v6 ≤ x2.2.2.2.2))))], [(0, .box [.sl 1 0 x2.1.length, .v (.int .i64 x2.2.1)]), (1, .arr 2 (List.map enc_si x2.1)), (2, .box [.sl 3 0 x2.2.2.1.length, .v (.int .i64 x2.2.2.2.1)]), (3, .arr 2 (List.map enc_si x2.2.2.1))]⟩) (C := True) (by kernel_rfl) trivial trivial ?_
    rcases bool_cases (decide (v6 ≤ x2.2.2.2.2)) with b11 | b11
    · replace h := cd_t b11 h
      refine AX.condT (decide (v6 ≤ x2.2.2.2.2)) (by kernel_rfl) b11 ?_
      refine AX.skip ?_
      refine AX.block ?_
      refine AX.seq ?_
      refine AX.seq ?_
      obtain ⟨x7, e12, h⟩ := bd_e h
      obtain ⟨x8, e13, h⟩ := bd_e h
      refine AX.reg (its := [.auto {}, .call 41 [.agg [.sl 1 0 x2.1.length, .v (.int .i64 x2.2.1)]] (handO (rho ([] ++ [4])) [] [] ++ [(1, .arr 2 (List.map enc_si x2.1))]) (callEv [] [4] (.agg [.sl 0 0 x7.1.length, .v (.int .i64 x7.2)]) [.arr 2 (List.map enc_si x7.1)]), .auto {}, .auto {}, .call 42 [.agg [.sl 4 0 x7.1.length, .v (.int .i64 x7.2)], .v (.int .i64 x2.2.2.2.2), .v (.int .i64 v6)] (handO (rho ([] ++ [])) [] [] ++ [(4, .arr 2 (List.map enc_si x7.1))]) (callEv [] [] (.v (.bool x8)) [])]) [3, 4, 5, 6, 10, 11, 64] [0, 1, 2, 3] (s1 := ⟨[(3, .pt 0 0), (4, .pt 2 0), (5, .v (.int .i64 x2.2.2.2.2)), (6, .v (.int .i64 x3.1)), (10, .v (.int .i64 v5)), (11, .v (.int .i64 v6)), (64, .v (.bool x8))], [(0, .box [.sl 1 0 x2.1.length, .v (.int .i64 x2.2.1)]), (1, .arr 2 (List.map enc_si x2.1)), (2, .box [.sl 3 0 x2.2.2.1.length, .v (.int .i64 x2.2.2.2.1)]), (3, .arr 2 (List.map enc_si x2.2.2.1))]⟩) (C := ((([.agg [.sl 1 0 x2.1.length, .v (.int .i64 x2.2.1)]] : List AV) = [.agg [.sl 1 0 x2.1.length, .v (.int .i64 x2.2.1)]]) ∧ (AO.arr 2 (List.map enc_si x2.1) = AO.arr 2 (List.map enc_si x2.1)) ∧ True) ∧ ((([.agg [.sl 4 0 x7.1.length, .v (.int .i64 x7.2)], .v (.int .i64 x2.2.2.2.2), .v (.int .i64 v6)] : List AV) = [.agg [.sl 4 0 x7.1.length, .v (.int .i64 x7.2)], .v (.int .i64 x2.2.2.2.2), .v (.int .i64 v6)]) ∧ (AO.arr 2 (List.map enc_si x7.1) = AO.arr 2 (List.map enc_si x7.1)) ∧ True) ∧ True) (by kernel_rfl) ⟨⟨rfl, rfl, trivial⟩, ⟨⟨rfl, rfl, trivial⟩, trivial⟩⟩ ⟨call_ok (ks := []) (ns := [4]) (bor := [1]) (bobjs := [(1, .arr 2 (List.map enc_si x2.1))]) (s_laws_kept x2.1 x2.2.1 x7 e12) (.cons (.c1 (.agg (.cons (.arr rfl rfl ((rfl).trans (List.length_map ..).symm)) (.cons (.same _ (by kernel_rfl) (by kernel_rfl)) (.nil))))) (.nil)) (by kernel_rfl) trivial, ⟨call_ok (ks := []) (ns := []) (bor := [4]) (bobjs := [(4, .arr 2 (List.map enc_si x7.1))]) (s_impl_HasAll x7.1 x7.2 x2.2.2.2.2 v6 x8 e13) (.cons (.c1 (.agg (.cons (.arr rfl rfl ((rfl).trans (List.length_map ..).symm)) (.cons (.same _ (by kernel_rfl) (by kernel_rfl)) (.nil))))) (.cons (.c1 (.c0 (.same _ (by kernel_rfl) (by kernel_rfl)))) (.cons (.c1 (.c0 (.same _ (by kernel_rfl) (by kernel_rfl)))) (.nil)))) (by kernel_rfl) trivial, trivial⟩⟩ ?_
      rcases bool_cases (x8) with b14 | b14
      · replace h := cd_t b14 h
        refine AX.condT (x8) (by kernel_rfl) b14 ?_
        refine AX.seq ?_
        obtain ⟨x9, e15, h⟩ := bd_e h
        refine AX.reg (its := [.auto {}, .auto {}, .auto {}, .call 44 [.agg [.sl 1 0 x2.1.length, .v (.int .i64 x2.2.1)], .agg [.sl 3 0 x2.2.2.1.length, .v (.int .i64 x2.2.2.2.1)], .v (.int .i64 v6)] (handO (rho ([] ++ [])) [] [] ++ [(1, .arr 2 (List.map enc_si x2.1)), (3, .arr 2 (List.map enc_si x2.2.2.1))]) (callEv [] [] (.tup [.v (.int .i64 x9.1), .v (.bool x9.2)]) [])]) [3, 4, 5, 6, 10, 11, 12, 13] [0, 1, 2, 3] (s1 := ⟨[(3, .pt 0 0), (4, .pt 2 0), (5, .v (.int .i64 x2.2.2.2.2)), (6, .v (.int .i64 x3.1)), (10, .v (.int .i64 v5)), (11, .v (.int .i64 v6)), (12, .v (.int .i64 x9.1)), (13, .v (.bool x9.2))], [(0, .box [.sl 1 0 x2.1.length, .v (.int .i64 x2.2.1)]), (1, .arr 2 (List.map enc_si x2.1)), (2, .box [.sl 3 0 x2.2.2.1.length, .v (.int .i64 x2.2.2.2.1)]), (3, .arr 2 (List.map enc_si x2.2.2.1))]⟩) (C := ((([.agg [.sl 1 0 x2.1.length, .v (.int .i64 x2.2.1)], .agg [.sl 3 0 x2.2.2.1.length, .v (.int .i64 x2.2.2.2.1)], .v (.int .i64 v6)] : List AV) = [.agg [.sl 1 0 x2.1.length, .v (.int .i64 x2.2.1)], .agg [.sl 3 0 x2.2.2.1.length, .v (.int .i64 x2.2.2.2.1)], .v (.int .i64 v6)]) ∧ (AO.arr 2 (List.map enc_si x2.1) = AO.arr 2 (List.map enc_si x2.1)) ∧ (AO.arr 2 (List.map enc_si x2.2.2.1) = AO.arr 2 (List.map enc_si x2.2.2.1)) ∧ True) ∧ True) (by kernel_rfl) ⟨⟨rfl, rfl, rfl, trivial⟩, trivial⟩ ⟨call_ok (ks := []) (ns := []) (bor := [1, 3]) (bobjs := [(1, .arr 2 (List.map enc_si x2.1)), (3, .arr 2 (List.map enc_si x2.2.2.1))]) (s_impl_ConvertValue x2.1 x2.2.1 x2.2.2.1 x2.2.2.2.1 v6 x9 e15) (.cons (.c1 (.agg (.cons (.arr rfl rfl ((rfl).trans (List.length_map ..).symm)) (.cons (.same _ (by kernel_rfl) (by kernel_rfl)) (.nil))))) (.cons (.c1 (.agg (.cons (.arr rfl rfl ((rfl).trans (List.length_map ..).symm)) (.cons (.same _ (by kernel_rfl) (by kernel_rfl)) (.nil))))) (.cons (.c1 (.c0 (.same _ (by kernel_rfl) (by kernel_rfl)))) (.nil)))) (by kernel_rfl) trivial, trivial⟩ ?_
        refine AX.seq ?_
        refine AX.seq ?_
        refine AX.reg (its := []) [3, 4, 5, 6, 10, 11, 12, 73] [0, 1, 2, 3] (s1 := ⟨[(3, .pt 0 0), (4, .pt 2 0), (5, .v (.int .i64 x2.2.2.2.2)), (6, .v (.int .i64 x3.1)), (10, .v (.int .i64 v5)), (11, .v (.int .i64 v6)), (12, .v (.int .i64 x9.1)), (73, .v (.bool (!x9.2)))], [(0, .box [.sl 1 0 x2.1.length, .v (.int .i64 x2.2.1)]), (1, .arr 2 (List.map enc_si x2.1)), (2, .box [.sl 3 0 x2.2.2.1.length, .v (.int .i64 x2.2.2.2.1)]), (3, .arr 2 (List.map enc_si x2.2.2.1))]⟩) (C := True) (by kernel_rfl) trivial trivial ?_
        rcases bool_cases ((!x9.2)) with b16 | b16
        · replace h := cd_t b16 h
          refine AX.condT ((!x9.2)) (by kernel_rfl) b16 ?_
          refine AX.seq ?_
          refine AX.reg (its := []) [2] [] (s1 := ⟨[(2, .v (.bool false))], []⟩) (C := True) (by kernel_rfl) trivial trivial ?_
          refine AX.ret ?_
          refine fin_wk (Wk.forget [2] [] (s' := ⟨[(2, .v (.bool false))], []⟩) (by kernel_rfl)) ?_
          have hr := Option.some.inj h
          subst hr
          exact ⟨_, Wk.refl _, .inl ⟨(), rfl, rfl, rfl⟩⟩
        · replace h := cd_f b16 h
          refine AX.condF ((!x9.2)) (by kernel_rfl) b16 ?_
          refine AX.skip ?_
          obtain ⟨x10, e17, h⟩ := bd_e h
          refine AX.reg (its := [.auto {}, .auto {}, .auto {}, .call 32 [.agg [.sl 3 0 x2.2.2.1.length, .v (.int .i64 x2.2.2.2.1)], .v (.int .i64 v5), .v (.int .i64 x9.1)] (handO (rho ([] ++ [])) [] [] ++ [(3, .arr 2 (List.map enc_si x2.2.2.1))]) (callEv [] [] (.v (.int .i64 x10)) [])]) [3, 4, 5, 6, 10, 11] [0, 1, 2, 3] (s1 := ⟨[(3, .pt 0 0), (4, .pt 2 0), (5, .v (.int .i64 x2.2.2.2.2)), (6, .v (.int .i64 x3.1)), (10, .v (.int .i64 x10)), (11, .v (.int .i64 v6))], [(0, .box [.sl 1 0 x2.1.length, .v (.int .i64 x2.2.1)]), (1, .arr 2 (List.map enc_si x2.1)), (2, .box [.sl 3 0 x2.2.2.1.length, .v (.int .i64 x2.2.2.2.1)]), (3, .arr 2 (List.map enc_si x2.2.2.1))]⟩) (C := ((([.agg [.sl 3 0 x2.2.2.1.length, .v (.int .i64 x2.2.2.2.1)], .v (.int .i64 v5), .v (.int .i64 x9.1)] : List AV) = [.agg [.sl 3 0 x2.2.2.1.length, .v (.int .i64 x2.2.2.2.1)], .v (.int .i64 v5), .v (.int .i64 x9.1)]) ∧ (AO.arr 2 (List.map enc_si x2.2.2.1) = AO.arr 2 (List.map enc_si x2.2.2.1)) ∧ True) ∧ True) (by kernel_rfl) ⟨⟨rfl, rfl, trivial⟩, trivial⟩ ⟨call_ok (ks := []) (ns := []) (bor := [3]) (bobjs := [(3, .arr 2 (List.map enc_si x2.2.2.1))]) (s_impl_OrValues x2.2.2.1 x2.2.2.2.1 v5 x9.1 x10 e17) (.cons (.c1 (.agg (.cons (.arr rfl rfl ((rfl).trans (List.length_map ..).symm)) (.cons (.same _ (by kernel_rfl) (by kernel_rfl)) (.nil))))) (.cons (.c1 (.c0 (.same _ (by kernel_rfl) (by kernel_rfl)))) (.cons (.c1 (.c0 (.same _ (by kernel_rfl) (by kernel_rfl)))) (.nil)))) (by kernel_rfl) trivial, trivial⟩ ?_
          refine AX.reg (its := [.auto {}, .auto { raw := true }]) [3, 4, 5, 6, 10, 11] [0, 1, 2, 3] (s1 := ⟨[(3, .pt 0 0), (4, .pt 2 0), (5, .v (.int .i64 x2.2.2.2.2)), (6, .v (.int .i64 x3.1)), (10, .v (.int .i64 x10)), (11, .v (.int .i64 (IntKind.wrap .i64 (2 * v6))))], [(0, .box [.sl 1 0 x2.1.length, .v (.int .i64 x2.2.1)]), (1, .arr 2 (List.map enc_si x2.1)), (2, .box [.sl 3 0 x2.2.2.1.length, .v (.int .i64 x2.2.2.2.1)]), (3, .arr 2 (List.map enc_si x2.2.2.1))]⟩) (C := True) (by kernel_rfl) trivial trivial ?_
          refine ⟨(fu, (x10, IntKind.wrap .i64 (2 * v6))), h, Nat.lt_succ_self _, ?_⟩
          refine Wk.trans (Wk.forget [3, 4, 5, 6, 10, 11] [0, 1, 2, 3] (s' := ⟨[(3, .pt 0 0), (4, .pt 2 0), (5, .v (.int .i64 x2.2.2.2.2)), (6, .v (.int .i64 x3.1)), (10, .v (.int .i64 x10)), (11, .v (.int .i64 (IntKind.wrap .i64 (2 * v6))))], [(0, .box [.sl 1 0 x2.1.length, .v (.int .i64 x2.2.1)]), (1, .arr 2 (List.map enc_si x2.1)), (2, .box [.sl 3 0 x2.2.2.1.length, .v (.int .i64 x2.2.2.2.1)]), (3, .arr 2 (List.map enc_si x2.2.2.1))]⟩) (by kernel_rfl)) ?_
          exact Wk.refl _
      · replace h := cd_f b14 h
        refine AX.condF (x8) (by kernel_rfl) b14 ?_
        refine AX.skip ?_
        refine AX.reg (its := [.auto {}, .auto { raw := true }]) [3, 4, 5, 6, 10, 11] [0, 1, 2, 3] (s1 := ⟨[(3, .pt 0 0), (4, .pt 2 0), (5, .v (.int .i64 x2.2.2.2.2)), (6, .v (.int .i64 x3.1)), (10, .v (.int .i64 v5)), (11, .v (.int .i64 (IntKind.wrap .i64 (2 * v6))))], [(0, .box [.sl 1 0 x2.1.length, .v (.int .i64 x2.2.1)]), (1, .arr 2 (List.map enc_si x2.1)), (2, .box [.sl 3 0 x2.2.2.1.length, .v (.int .i64 x2.2.2.2.1)]), (3, .arr 2 (List.map enc_si x2.2.2.1))]⟩) (C := True) (by kernel_rfl) trivial trivial ?_
        refine ⟨(fu, (v5, IntKind.wrap .i64 (2 * v6))), h, Nat.lt_succ_self _, ?_⟩
        refine Wk.trans (Wk.forget [3, 4, 5, 6, 10, 11] [0, 1, 2, 3] (s' := ⟨[(3, .pt 0 0), (4, .pt 2 0), (5, .v (.int .i64 x2.2.2.2.2)), (6, .v (.int .i64 x3.1)), (10, .v (.int .i64 v5)), (11, .v (.int .i64 (IntKind.wrap .i64 (2 * v6))))], [(0, .box [.sl 1 0 x2.1.length, .v (.int .i64 x2.2.1)]), (1, .arr 2 (List.map enc_si x2.1)), (2, .box [.sl 3 0 x2.2.2.1.length, .v (.int .i64 x2.2.2.2.1)]), (3, .arr 2 (List.map enc_si x2.2.2.1))]⟩) (by kernel_rfl)) ?_
        exact Wk.refl _
    · replace h := cd_f b11 h
      refine AX.condF (decide (v6 ≤ x2.2.2.2.2)) (by kernel_rfl) b11 ?_
      refine AX.exit ?_
      refine fin_wk (Wk.forget [6, 10] [] (s' := ⟨[(6, .v (.int .i64 x3.1)), (10, .v (.int .i64 v5))], []⟩) (by kernel_rfl)) ?_
      have hr := Option.some.inj h
      subst hr
      exact ⟨_, Wk.refl _, .inr ⟨v5, rfl, rfl, rfl⟩⟩

theorem s_laws_FnConvertValueOr (p1 : List (Int)) (r : Bool) (h : m_laws_FnConvertValueOr p1 = some r) :
    Eng.Spec Try.prog 14 [.bs true 1 (List.map enc_y p1)] [] (.v (.bool r)) [] := by
  unfold m_laws_FnConvertValueOr at h
  refine Eng.Spec.body Try.func14 (by kernel_rfl) rfl (by kernel_rfl) ?_
  refine AX.wkpost ?_
  refine AX.seq ?_
  refine AX.reg (its := []) [0] [] (s1 := ⟨[(0, .bs true 1 (List.map enc_y p1))], []⟩) (C := True) (by kernel_rfl) trivial trivial ?_
  refine AX.seq ?_
  refine AX.seq ?_
  refine AX.reg (its := [.auto {}, .auto { y := some (.v (.int .i64 (p1.length : Int))) }]) [0, 16] [] (s1 := ⟨[(0, .bs true 1 (List.map enc_y p1)), (16, .v (.bool (decide (1048576 < (p1.length : Int)))))], []⟩) (C := (True ∧ (AV.v (.int .i64 ((List.map enc_y p1).length : Int)) = AV.v (.int .i64 (p1.length : Int)))) ∧ True) (by kernel_rfl) ⟨⟨trivial, len_map enc_y p1⟩, trivial⟩ trivial ?_
  rcases bool_cases (decide (1048576 < (p1.length : Int))) with b1 | b1
  · replace h := cd_t b1 h
    refine AX.condT (decide (1048576 < (p1.length : Int))) (by kernel_rfl) b1 ?_
    refine AX.seq ?_
    refine AX.reg (its := []) [2] [] (s1 := ⟨[(2, .v (.bool true))], []⟩) (C := True) (by kernel_rfl) trivial trivial ?_
    refine AX.ret ?_
    refine fin_wk (Wk.forget [2] [] (s' := ⟨[(2, .v (.bool true))], []⟩) (by kernel_rfl)) ?_
    have hr := Option.some.inj h
    subst hr
    exact ⟨_, Wk.refl _, .inr rfl, ⟨[], by kernel_rfl, trivial, [.v (.bool true)], by kernel_rfl, by kernel_rfl⟩⟩
  · replace h := cd_f b1 h
    refine AX.condF (decide (1048576 < (p1.length : Int))) (by kernel_rfl) b1 ?_
    refine AX.skip ?_
    refine AX.seq ?_
    obtain ⟨x2, e2, h⟩ := bd_e h
    refine AX.reg (its := [.auto {}, .call 46 [.bs true 1 (List.map enc_y p1)] (handO (rho ([] ++ [0, 1])) [] [] ++ []) (callEv [] [0, 1] (.tup [.agg [.sl 0 0 x2.1.length, .v (.int .i64 x2.2.1)], .agg [.sl 1 0 x2.2.2.1.length, .v (.int .i64 x2.2.2.2.1)], .v (.int .i64 x2.2.2.2.2)]) [.arr 2 (List.map enc_si x2.1), .arr 2 (List.map enc_si x2.2.2.1)]), .auto {}, .auto {}, .auto {}, .auto {}, .auto { nk := 2 }, .auto { nk := 3 }]) [3, 4, 5] [0, 1, 2, 3] (s1 := ⟨[(3, .pt 2 0), (4, .pt 3 0), (5, .v (.int .i64 x2.2.2.2.2))], [(0, .arr 2 (List.map enc_si x2.1)), (1, .arr 2 (List.map enc_si x2.2.2.1)), (2, .box [.sl 0 0 x2.1.length, .v (.int .i64 x2.2.1)]), (3, .box [.sl 1 0 x2.2.2.1.length, .v (.int .i64 x2.2.2.2.1)])]⟩) (C := ((([.bs true 1 (List.map enc_y p1)] : List AV) = [.bs true 1 (List.map enc_y p1)]) ∧ True) ∧ True) (by kernel_rfl) ⟨⟨rfl, trivial⟩, trivial⟩ ⟨call_ok (ks := []) (ns := [0, 1]) (bor := []) (bobjs := []) (s_spec_DrawConvertValue p1 x2 e2) (.cons (.c1 (.c0 (.same _ (by kernel_rfl) (by kernel_rfl)))) (.nil)) (by kernel_rfl) trivial, trivial⟩ ?_
    refine AX.seq ?_
    obtain ⟨x3, e3, h⟩ := bd_e h
    refine AX.reg (its := [.auto {}, .auto {}, .auto {}, .call 44 [.agg [.sl 0 0 x2.1.length, .v (.int .i64 x2.2.1)], .agg [.sl 1 0 x2.2.2.1.length, .v (.int .i64 x2.2.2.2.1)], .v (.int .i64 x2.2.2.2.2)] (handO (rho ([] ++ [])) [] [] ++ [(0, .arr 2 (List.map enc_si x2.1)), (1, .arr 2 (List.map enc_si x2.2.2.1))]) (callEv [] [] (.tup [.v (.int .i64 x3.1), .v (.bool x3.2)]) [])]) [3, 4, 5, 6, 7] [0, 1, 2, 3] (s1 := ⟨[(3, .pt 2 0), (4, .pt 3 0), (5, .v (.int .i64 x2.2.2.2.2)), (6, .v (.int .i64 x3.1)), (7, .v (.bool x3.2))], [(0, .arr 2 (List.map enc_si x2.1)), (1, .arr 2 (List.map enc_si x2.2.2.1)), (2, .box [.sl 0 0 x2.1.length, .v (.int .i64 x2.2.1)]), (3, .box [.sl 1 0 x2.2.2.1.length, .v (.int .i64 x2.2.2.2.1)])]⟩) (C := ((([.agg [.sl 0 0 x2.1.length, .v (.int .i64 x2.2.1)], .agg [.sl 1 0 x2.2.2.1.length, .v (.int .i64 x2.2.2.2.1)], .v (.int .i64 x2.2.2.2.2)] : List AV) = [.agg [.sl 0 0 x2.1.length, .v (.int .i64 x2.2.1)], .agg [.sl 1 0 x2.2.2.1.length, .v (.int .i64 x2.2.2.2.1)], .v (.int .i64 x2.2.2.2.2)]) ∧ (AO.arr 2 (List.map enc_si x2.1) = AO.arr 2 (List.map enc_si x2.1)) ∧ (AO.arr 2 (List.map enc_si x2.2.2.1) = AO.arr 2 (List.map enc_si x2.2.2.1)) ∧ True) ∧ True) (by kernel_rfl) ⟨⟨rfl, rfl, rfl, trivial⟩, trivial⟩ ⟨call_ok (ks := []) (ns := []) (bor := [0, 1]) (bobjs := [(0, .arr 2 (List.map enc_si x2.1)), (1, .arr 2 (List.map enc_si x2.2.2.1))]) (s_impl_ConvertValue x2.1 x2.2.1 x2.2.2.1 x2.2.2.2.1 x2.2.2.2.2 x3 e3) (.cons (.c1 (.agg (.cons (.arr rfl rfl ((rfl).trans (List.length_map ..).symm)) (.cons (.same _ (by kernel_rfl) (by kernel_rfl)) (.nil))))) (.cons (.c1 (.agg (.cons (.arr rfl rfl ((rfl).trans (List.length_map ..).symm)) (.cons (.same _ (by kernel_rfl) (by kernel_rfl)) (.nil))))) (.cons (.c1 (.c0 (.same _ (by kernel_rfl) (by kernel_rfl)))) (.nil)))) (by kernel_rfl) trivial, trivial⟩ ?_
    refine AX.seq ?_
    obtain ⟨x4, e4, h⟩ := bd_e h
    refine AX.reg (its := [.auto {}, .auto {}, .auto {}, .call 43 [.agg [.sl 0 0 x2.1.length, .v (.int .i64 x2.2.1)], .agg [.sl 1 0 x2.2.2.1.length, .v (.int .i64 x2.2.2.2.1)], .v (.int .i64 x2.2.2.2.2)] (handO (rho ([] ++ [])) [] [] ++ [(0, .arr 2 (List.map enc_si x2.1)), (1, .arr 2 (List.map enc_si x2.2.2.1))]) (callEv [] [] (.tup [.v (.int .i64 x4.1), .v (.bool x4.2)]) [])]) [3, 4, 5, 6, 7, 8, 9] [0, 1, 2, 3] (s1 := ⟨[(3, .pt 2 0), (4, .pt 3 0), (5, .v (.int .i64 x2.2.2.2.2)), (6, .v (.int .i64 x3.1)), (7, .v (.bool x3.2)), (8, .v (.int .i64 x4.1)), (9, .v (.bool x4.2))], [(0, .arr 2 (List.map enc_si x2.1)), (1, .arr 2 (List.map enc_si x2.2.2.1)), (2, .box [.sl 0 0 x2.1.length, .v (.int .i64 x2.2.1)]), (3, .box [.sl 1 0 x2.2.2.1.length, .v (.int .i64 x2.2.2.2.1)])]⟩) (C := ((([.agg [.sl 0 0 x2.1.length, .v (.int .i64 x2.2.1)], .agg [.sl 1 0 x2.2.2.1.length, .v (.int .i64 x2.2.2.2.1)], .v (.int .i64 x2.2.2.2.2)] : List AV) = [.agg [.sl 0 0 x2.1.length, .v (.int .i64 x2.2.1)], .agg [.sl 1 0 x2.2.2.1.length, .v (.int .i64 x2.2.2.2.1)], .v (.int .i64 x2.2.2.2.2)]) ∧ (AO.arr 2 (List.map enc_si x2.1) = AO.arr 2 (List.map enc_si x2.1)) ∧ (AO.arr 2 (List.map enc_si x2.2.2.1) = AO.arr 2 (List.map enc_si x2.2.2.1)) ∧ True) ∧ True) (by kernel_rfl) ⟨⟨rfl, rfl, rfl, trivial⟩, trivial⟩ ⟨call_ok (ks := []) (ns := []) (bor := [0, 1]) (bobjs := [(0, .arr 2 (List.map enc_si x2.1)), (1, .arr 2 (List.map enc_si x2.2.2.1))]) (s_spec_ConvertValue x2.1 x2.2.1 x2.2.2.1 x2.2.2.2.1 x2.2.2.2.2 x4 e4) (.cons (.c1 (.agg (.cons (.arr rfl rfl ((rfl).trans (List.length_map ..).symm)) (.cons (.same _ (by kernel_rfl) (by kernel_rfl)) (.nil))))) (.cons (.c1 (.agg (.cons (.arr rfl rfl ((rfl).trans (List.length_map ..).symm)) (.cons (.same _ (by kernel_rfl) (by kernel_rfl)) (.nil))))) (.cons (.c1 (.c0 (.same _ (by kernel_rfl) (by kernel_rfl)))) (.nil)))) (by kernel_rfl) trivial, trivial⟩ ?_
    refine AX.seq ?_
    refine AX.seq ?_
    rcases bool_cases ((!decide (x3.1 = x4.1))) with b5 | b5
    · replace h := cd_t b5 h
      refine AX.reg (its := [.auto {}, .auto {}, .auto { y := some (.v (.bool true)) }]) [3, 4, 5, 6, 7, 8, 9, 48] [0, 1, 2, 3] (s1 := ⟨[(3, .pt 2 0), (4, .pt 3 0), (5, .v (.int .i64 x2.2.2.2.2)), (6, .v (.int .i64 x3.1)), (7, .v (.bool x3.2)), (8, .v (.int .i64 x4.1)), (9, .v (.bool x4.2)), (48, .v (.bool true))], [(0, .arr 2 (List.map enc_si x2.1)), (1, .arr 2 (List.map enc_si x2.2.2.1)), (2, .box [.sl 0 0 x2.1.length, .v (.int .i64 x2.2.1)]), (3, .box [.sl 1 0 x2.2.2.1.length, .v (.int .i64 x2.2.2.2.1)])]⟩) (C := ((True) ∧ ((.v (.bool (!decide (x3.1 = x4.1))) : AV) = (.v (.bool true) : AV))) ∧ True) (by kernel_rfl) ⟨⟨trivial, (congrArg (fun z => AV.v (.bool z)) b5)⟩, trivial⟩ trivial ?_
      refine AX.cond_true (by kernel_rfl) ?_
      refine AX.seq ?_
      rcases bool_cases (decide (x3.1 = x4.1)) with b6 | b6
      · replace h := cd_t b6 h
        refine AX.reg (its := [.auto {}, .auto {}, .auto { y := some (.v (.bool true)) }]) [2] [] (s1 := ⟨[(2, .v (.bool (x3.2 == x4.2)))], []⟩) (C := ((True) ∧ ((.v (.bool (decide (x3.1 = x4.1))) : AV) = (.v (.bool true) : AV))) ∧ True) (by kernel_rfl) ⟨⟨trivial, (congrArg (fun z => AV.v (.bool z)) b6)⟩, trivial⟩ trivial ?_
        refine AX.ret ?_
        refine fin_wk (Wk.forget [2] [] (s' := ⟨[(2, .v (.bool (x3.2 == x4.2)))], []⟩) (by kernel_rfl)) ?_
        have hr := Option.some.inj h
        subst hr
        exact ⟨_, Wk.refl _, .inr rfl, ⟨[], by kernel_rfl, trivial, [.v (.bool (x3.2 == x4.2))], by kernel_rfl, by kernel_rfl⟩⟩
      · replace h := cd_f b6 h
        refine AX.reg (its := [.auto {}, .auto {}, .auto { y := some (.v (.bool false)) }]) [2] [] (s1 := ⟨[(2, .v (.bool false))], []⟩) (C := ((True) ∧ ((.v (.bool (decide (x3.1 = x4.1))) : AV) = (.v (.bool false) : AV))) ∧ True) (by kernel_rfl) ⟨⟨trivial, (congrArg (fun z => AV.v (.bool z)) b6)⟩, trivial⟩ trivial ?_
        refine AX.ret ?_
        refine fin_wk (Wk.forget [2] [] (s' := ⟨[(2, .v (.bool false))], []⟩) (by kernel_rfl)) ?_
        have hr := Option.some.inj h
        subst hr
        exact ⟨_, Wk.refl _, .inr rfl, ⟨[], by kernel_rfl, trivial, [.v (.bool false)], by kernel_rfl, by kernel_rfl⟩⟩
    · replace h := cd_f b5 h
      rcases bool_cases ((!(x3.2 == x4.2))) with b7 | b7
      · replace h := cd_t b7 h
        refine AX.reg (its := [.auto {}, .auto {}, .auto { y := some (.v (.bool false)) }, .auto {}, .auto {}, .auto {}, .auto { y := some (.v (.bool true)) }]) [3, 4, 5, 6, 7, 8, 9, 48] [0, 1, 2, 3] (s1 := ⟨[(3, .pt 2 0), (4, .pt 3 0), (5, .v (.int .i64 x2.2.2.2.2)), (6, .v (.int .i64 x3.1)), (7, .v (.bool x3.2)), (8, .v (.int .i64 x4.1)), (9, .v (.bool x4.2)), (48, .v (.bool true))], [(0, .arr 2 (List.map enc_si x2.1)), (1, .arr 2 (List.map enc_si x2.2.2.1)), (2, .box [.sl 0 0 x2.1.length, .v (.int .i64 x2.2.1)]), (3, .box [.sl 1 0 x2.2.2.1.length, .v (.int .i64 x2.2.2.2.1)])]⟩) (C := ((True) ∧ ((.v (.bool (!decide (x3.1 = x4.1))) : AV) = (.v (.bool false) : AV))) ∧ ((True) ∧ ((.v (.bool (!(x3.2 == x4.2))) : AV) = (.v (.bool true) : AV))) ∧ True) (by kernel_rfl) ⟨⟨trivial, (congrArg (fun z => AV.v (.bool z)) b5)⟩, ⟨⟨trivial, (congrArg (fun z => AV.v (.bool z)) b7)⟩, trivial⟩⟩ trivial ?_
        refine AX.cond_true (by kernel_rfl) ?_
        refine AX.seq ?_
        rcases bool_cases (decide (x3.1 = x4.1)) with b8 | b8
        · replace h := cd_t b8 h
          refine AX.reg (its := [.auto {}, .auto {}, .auto { y := some (.v (.bool true)) }]) [2] [] (s1 := ⟨[(2, .v (.bool (x3.2 == x4.2)))], []⟩) (C := ((True) ∧ ((.v (.bool (decide (x3.1 = x4.1))) : AV) = (.v (.bool true) : AV))) ∧ True) (by kernel_rfl) ⟨⟨trivial, (congrArg (fun z => AV.v (.bool z)) b8)⟩, trivial⟩ trivial ?_
          refine AX.ret ?_
          refine fin_wk (Wk.forget [2] [] (s' := ⟨[(2, .v (.bool (x3.2 == x4.2)))], []⟩) (by kernel_rfl)) ?_
          have hr := Option.some.inj h
          subst hr
          exact ⟨_, Wk.refl _, .inr rfl, ⟨[], by kernel_rfl, trivial, [.v (.bool (x3.2 == x4.2))], by kernel_rfl, by kernel_rfl⟩⟩
        · replace h := cd_f b8 h
          refine AX.reg (its := [.auto {}, .auto {}, .auto { y := some (.v (.bool false)) }]) [2] [] (s1 := ⟨[(2, .v (.bool false))], []⟩) (C := ((True) ∧ ((.v (.bool (decide (x3.1 = x4.1))) : AV) = (.v (.bool false) : AV))) ∧ True) (by kernel_rfl) ⟨⟨trivial, (congrArg (fun z => AV.v (.bool z)) b8)⟩, trivial⟩ trivial ?_
          refine AX.ret ?_
          refine fin_wk (Wk.forget [2] [] (s' := ⟨[(2, .v (.bool false))], []⟩) (by kernel_rfl)) ?_
          have hr := Option.some.inj h
          subst hr
          exact ⟨_, Wk.refl _, .inr rfl, ⟨[], by kernel_rfl, trivial, [.v (.bool false)], by kernel_rfl, by kernel_rfl⟩⟩
      · replace h := cd_f b7 h
        refine AX.reg (its := [.auto {}, .auto {}, .auto { y := some (.v (.bool false)) }, .auto {}, .auto {}, .auto {}, .auto { y := some (.v (.bool false)) }]) [3, 4, 5, 6, 7, 8, 9, 48] [0, 1, 2, 3] (s1 := ⟨[(3, .pt 2 0), (4, .pt 3 0), (5, .v (.int .i64 x2.2.2.2.2)), (6, .v (.int .i64 x3.1)), (7, .v (.bool x3.2)), (8, .v (.int .i64 x4.1)), (9, .v (.bool x4.2)), (48, .v (.bool (!x3.2)))], [(0, .arr 2 (List.map enc_si x2.1)), (1, .arr 2 (List.map enc_si x2.2.2.1)), (2, .box [.sl 0 0 x2.1.length, .v (.int .i64 x2.2.1)]), (3, .box [.sl 1 0 x2.2.2.1.length, .v (.int .i64 x2.2.2.2.1)])]⟩) (C := ((True) ∧ ((.v (.bool (!decide (x3.1 = x4.1))) : AV) = (.v (.bool false) : AV))) ∧ ((True) ∧ ((.v (.bool (!(x3.2 == x4.2))) : AV) = (.v (.bool false) : AV))) ∧ True) (by kernel_rfl) ⟨⟨trivial, (congrArg (fun z => AV.v (.bool z)) b5)⟩, ⟨⟨trivial, (congrArg (fun z => AV.v (.bool z)) b7)⟩, trivial⟩⟩ trivial ?_
        rcases bool_cases ((!x3.2)) with b9 | b9
        · replace h := cd_t b9 h
          refine AX.condT ((!x3.2)) (by kernel_rfl) b9 ?_
          refine AX.seq ?_
          rcases bool_cases (decide (x3.1 = x4.1)) with b10 | b10
          · replace h := cd_t b10 h
            refine AX.reg (its := [.auto {}, .auto {}, .auto { y := some (.v (.bool true)) }]) [2] [] (s1 := ⟨[(2, .v (.bool (x3.2 == x4.2)))], []⟩) (C := ((True) ∧ ((.v (.bool (decide (x3.1 = x4.1))) : AV) = (.v (.bool true) : AV))) ∧ True) (by kernel_rfl) ⟨⟨trivial, (congrArg (fun z => AV.v (.bool z)) b10)⟩, trivial⟩ trivial ?_
            refine AX.ret ?_
            refine fin_wk (Wk.forget [2] [] (s' := ⟨[(2, .v (.bool (x3.2 == x4.2)))], []⟩) (by kernel_rfl)) ?_
            have hr := Option.some.inj h
            subst hr
            exact ⟨_, Wk.refl _, .inr rfl, ⟨[], by kernel_rfl, trivial, [.v (.bool (x3.2 == x4.2))], by kernel_rfl, by kernel_rfl⟩⟩
          · replace h := cd_f b10 h
            refine AX.reg (its := [.auto {}, .auto {}, .auto { y := some (.v (.bool false)) }]) [2] [] (s1 := ⟨[(2, .v (.bool false))], []⟩) (C := ((True) ∧ ((.v (.bool (decide (x3.1 = x4.1))) : AV) = (.v (.bool false) : AV))) ∧ True) (by kernel_rfl) ⟨⟨trivial, (congrArg (fun z => AV.v (.bool z)) b10)⟩, trivial⟩ trivial ?_
            refine AX.ret ?_
            refine fin_wk (Wk.forget [2] [] (s' := ⟨[(2, .v (.bool false))], []⟩) (by kernel_rfl)) ?_
            have hr := Option.some.inj h
            subst hr
            exact ⟨_, Wk.refl _, .inr rfl, ⟨[], by kernel_rfl, trivial, [.v (.bool false)], by kernel_rfl, by kernel_rfl⟩⟩
        · replace h := cd_f b9 h
          refine AX.condF ((!x3.2)) (by kernel_rfl) b9 ?_
          refine AX.skip ?_
          refine AX.seq ?_
          refine AX.reg (its := []) [3, 4, 5, 6, 10] [0, 1, 2, 3] (s1 := ⟨[(3, .pt 2 0), (4, .pt 3 0), (5, .v (.int .i64 x2.2.2.2.2)), (6, .v (.int .i64 x3.1)), (10, .v (.int .i64 0))], [(0, .arr 2 (List.map enc_si x2.1)), (1, .arr 2 (List.map enc_si x2.2.2.1)), (2, .box [.sl 0 0 x2.1.length, .v (.int .i64 x2.2.1)]), (3, .box [.sl 1 0 x2.2.2.1.length, .v (.int .i64 x2.2.2.2.1)])]⟩) (C := True) (by kernel_rfl) trivial trivial ?_
          refine AX.seq ?_
          refine AX.reg (its := []) [3, 4, 5, 6, 10, 11] [0, 1, 2, 3] (s1 := ⟨[(3, .pt 2 0), (4, .pt 3 0), (5, .v (.int .i64 x2.2.2.2.2)), (6, .v (.int .i64 x3.1)), (10, .v (.int .i64 0)), (11, .v (.int .i64 1))], [(0, .arr 2 (List.map enc_si x2.1)), (1, .arr 2 (List.map enc_si x2.2.2.1)), (2, .box [.sl 0 0 x2.1.length, .v (.int .i64 x2.2.1)]), (3, .box [.sl 1 0 x2.2.2.1.length, .v (.int .i64 x2.2.2.2.1)])]⟩) (C := True) (by kernel_rfl) trivial trivial ?_
          refine AX.seq ?_
          refine AX.block ?_
          obtain ⟨x11, e18, h⟩ := bd_e h
          refine AX.wk (Wk.swap 0 2 (Nat.le_of_ble_eq_true (by kernel_rfl)) (Nat.le_of_ble_eq_true (by kernel_rfl)) rfl) ?_
          refine AX.wk (Wk.swap 1 2 (Nat.le_of_ble_eq_true (by kernel_rfl)) (Nat.le_of_ble_eq_true (by kernel_rfl)) rfl) ?_
          refine AX.wk (Wk.swap 2 3 (Nat.le_of_ble_eq_true (by kernel_rfl)) (Nat.le_of_ble_eq_true (by kernel_rfl)) rfl) ?_
          refine AX.wk (Wk.forget [3, 4, 5, 6, 10, 11] [0, 1, 2, 3] (s' := ⟨[(3, .pt 0 0), (4, .pt 2 0), (5, .v (.int .i64 x2.2.2.2.2)), (6, .v (.int .i64 x3.1)), (10, .v (.int .i64 0)), (11, .v (.int .i64 1))], [(0, .box [.sl 1 0 x2.1.length, .v (.int .i64 x2.2.1)]), (1, .arr 2 (List.map enc_si x2.1)), (2, .box [.sl 3 0 x2.2.2.1.length, .v (.int .i64 x2.2.2.2.1)]), (3, .arr 2 (List.map enc_si x2.2.2.1))]⟩) (by kernel_rfl)) ?_
          refine AX.mono (s_laws_FnConvertValueOr_L1 x2 x3 FU (0, 1) x11 e18) ?_
          rintro _ _ (⟨x12, rfl, rfl, rfl⟩ | ⟨x13, rfl, rfl, rfl⟩)
          · replace h := sm_l h
            refine fin_wk (Wk.forget [2] [] (s' := ⟨[(2, .v (.bool false))], []⟩) (by kernel_rfl)) ?_
            have hr := Option.some.inj h
            subst hr
            exact ⟨_, Wk.refl _, .inr rfl, ⟨[], by kernel_rfl, trivial, [.v (.bool false)], by kernel_rfl, by kernel_rfl⟩⟩
          · replace h := sm_r h
            refine AX.seq ?_
            refine AX.reg (its := []) [2] [] (s1 := ⟨[(2, .v (.bool (decide (x13 = x3.1))))], []⟩) (C := True) (by kernel_rfl) trivial trivial ?_
            refine AX.ret ?_
            refine fin_wk (Wk.forget [2] [] (s' := ⟨[(2, .v (.bool (decide (x13 = x3.1))))], []⟩) (by kernel_rfl)) ?_
            have hr := Option.some.inj h
            subst hr
            exact ⟨_, Wk.refl _, .inr rfl, ⟨[], by kernel_rfl, trivial, [.v (.bool (decide (x13 = x3.1)))], by kernel_rfl, by kernel_rfl⟩⟩

end Go.Eng
