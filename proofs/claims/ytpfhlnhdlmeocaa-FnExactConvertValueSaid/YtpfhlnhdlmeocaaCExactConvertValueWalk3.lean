/- What is proved here: each function keeps to its model, whatever its arguments, wherever the model has an answer. Printed by gen.py. -/
import Derived.Test.YtpfhlnhdlmeocaaCExactConvertValueWalk2
import Derived.Test.YtpfhlnhdlmeocaaProg
import Derived.KernelRfl
set_option linter.unusedVariables false
namespace Go.Eng
open Go Go.Proofs


theorem s_impl_NamesIn (p1 : List (ByteArray × Int)) (p2 : Int) (p3 : Int) (r : List (ByteArray)) (h : m_impl_NamesIn p1 p2 p3 = some r) :
    Eng.Spec Try.prog 34 [.agg [.bs false 2 (List.map enc_si p1), .v (.int .i64 p2)], .v (.int .i64 p3)] [] (.sl 0 0 r.length) [.arr 1 (List.map enc_s r)] := by
  unfold m_impl_NamesIn at h
  refine Eng.Spec.body Try.func34 (by kernel_rfl) rfl (by kernel_rfl) ?_
  refine AX.wkpost ?_
  refine AX.seq ?_
  refine AX.reg (its := [.auto { nk := 0 }]) [1, 2] [0] (s1 := ⟨[(1, .v (.int .i64 p3)), (2, .pt 0 0)], [(0, .box [.bs false 2 (List.map enc_si p1), .v (.int .i64 p2)])]⟩) (C := True) (by kernel_rfl) trivial trivial ?_
  refine AX.seq ?_
  refine AX.seq ?_
  obtain ⟨x4, e1, h⟩ := bd_e h
  refine AX.reg (its := [.auto {}, .auto {}, .call 47 [.agg [.bs false 2 (List.map enc_si p1), .v (.int .i64 p2)], .v (.int .i64 p3)] (handO (rho ([] ++ [])) [] [] ++ []) (callEv [] [] (.v (.bool x4)) [])]) [1, 2, 10] [0] (s1 := ⟨[(1, .v (.int .i64 p3)), (2, .pt 0 0), (10, .v (.bool (!x4)))], [(0, .box [.bs false 2 (List.map enc_si p1), .v (.int .i64 p2)])]⟩) (C := ((([.agg [.bs false 2 (List.map enc_si p1), .v (.int .i64 p2)], .v (.int .i64 p3)] : List AV) = [.agg [.bs false 2 (List.map enc_si p1), .v (.int .i64 p2)], .v (.int .i64 p3)]) ∧ True) ∧ True) (by kernel_rfl) ⟨⟨rfl, trivial⟩, trivial⟩ ⟨call_ok (ks := []) (ns := []) (bor := []) (bobjs := []) (s_impl_IsValue p1 p2 p3 x4 e1) (.cons (.c1 (.agg (.cons (.same _ (by kernel_rfl) (by kernel_rfl)) (.cons (.same _ (by kernel_rfl) (by kernel_rfl)) (.nil))))) (.cons (.c1 (.c0 (.same _ (by kernel_rfl) (by kernel_rfl)))) (.nil))) (by kernel_rfl) trivial, trivial⟩ ?_
  rcases bool_cases ((!x4)) with b2 | b2
  · replace h := cd_t b2 h
    refine AX.condT ((!x4)) (by kernel_rfl) b2 ?_
    refine AX.seq ?_
    refine AX.reg (its := []) [4] [] (s1 := ⟨[(4, .v (.slice none 0 0))], []⟩) (C := True) (by kernel_rfl) trivial trivial ?_
    refine AX.ret ?_
    refine fin_wk (Wk.mat 4 0 1 (by kernel_rfl) (Nat.le_of_ble_eq_true (by kernel_rfl)) (by kernel_rfl) rfl) ?_
    refine fin_wk (Wk.forget [4] [0] (s' := ⟨[(4, .sl 0 0 (([] : List (ByteArray)).length))], [(0, .arr 1 (List.map enc_s ([] : List (ByteArray))))]⟩) (by kernel_rfl)) ?_
    have hr := Option.some.inj h
    subst hr
    exact ⟨_, Wk.refl _, .inr rfl, ⟨[0], by kernel_rfl, ⟨rfl, trivial⟩, [.sl 0 0 (([] : List (ByteArray)).length)], by kernel_rfl, by kernel_rfl⟩⟩
  · replace h := cd_f b2 h
    refine AX.condF ((!x4)) (by kernel_rfl) b2 ?_
    refine AX.skip ?_
    refine AX.seq ?_
    obtain ⟨x5, e3, h⟩ := bd_e h
    refine AX.reg (its := [.auto {}, .auto {}, .call 62 [.agg [.bs false 2 (List.map enc_si p1), .v (.int .i64 p2)], .v (.int .i64 p3)] (handO (rho ([] ++ [1])) [] [] ++ []) (callEv [] [1] (.tup [.sl 0 0 x5.1.length, .v (.int .i64 x5.2)]) [.arr 1 (List.map enc_s x5.1)])]) [5] [1] (s1 := ⟨[(5, .sl 1 0 x5.1.length)], [(1, .arr 1 (List.map enc_s x5.1))]⟩) (C := ((([.agg [.bs false 2 (List.map enc_si p1), .v (.int .i64 p2)], .v (.int .i64 p3)] : List AV) = [.agg [.bs false 2 (List.map enc_si p1), .v (.int .i64 p2)], .v (.int .i64 p3)]) ∧ True) ∧ True) (by kernel_rfl) ⟨⟨rfl, trivial⟩, trivial⟩ ⟨call_ok (ks := []) (ns := [1]) (bor := []) (bobjs := []) (s_impl_Flag_namesIn p1 p2 p3 x5 e3) (.cons (.c1 (.agg (.cons (.same _ (by kernel_rfl) (by kernel_rfl)) (.cons (.same _ (by kernel_rfl) (by kernel_rfl)) (.nil))))) (.cons (.c1 (.c0 (.same _ (by kernel_rfl) (by kernel_rfl)))) (.nil))) (by kernel_rfl) trivial, trivial⟩ ?_
    refine AX.seq ?_
    refine AX.reg (its := []) [4] [1] (s1 := ⟨[(4, .sl 1 0 x5.1.length)], [(1, .arr 1 (List.map enc_s x5.1))]⟩) (C := True) (by kernel_rfl) trivial trivial ?_
    refine AX.ret ?_
    refine fin_wk (Wk.swap 0 1 (Nat.le_of_ble_eq_true (by kernel_rfl)) (Nat.le_of_ble_eq_true (by kernel_rfl)) rfl) ?_
    refine fin_wk (Wk.forget [4] [0] (s' := ⟨[(4, .sl 0 0 x5.1.length)], [(0, .arr 1 (List.map enc_s x5.1))]⟩) (by kernel_rfl)) ?_
    have hr := Option.some.inj h
    subst hr
    exact ⟨_, Wk.refl _, .inr rfl, ⟨[0], by kernel_rfl, ⟨rfl, trivial⟩, [.sl 0 0 x5.1.length], by kernel_rfl, by kernel_rfl⟩⟩

theorem s_impl_FromNames_L1 (p1 : List (ByteArray × Int)) (p2 : Int) (p3 : List (ByteArray)) (n : Nat) (g : Int × Int) (out : Unit ⊕ Int) (h : m_impl_FromNames_L1 p1 p2 p3 n g.1 g.2 = some out) :
    AX Try.prog 35 0 (codeAt [1, 1, 1, 0, 1, 1] (bodyOf Try.f39)) ((fun g : Int × Int => (⟨[(2, .pt 0 0), (6, .v (.int .i64 g.1)), (13, .bs false 1 (List.map enc_s p3)), (14, .v (.int .i64 (p3.length : Int))), (15, .v (.int .i64 g.2))], [(0, .box [.bs false 2 (List.map enc_si p1), .v (.int .i64 p2)])]⟩ : S)) g) (fun ex s => (∃ o : Unit, out = Sum.inl o ∧ ex = .ret ∧ s = ⟨[(4, .v (.int .i64 0)), (5, .v (.bool false))], []⟩) ∨ (∃ o : Int, out = Sum.inr o ∧ ex = .exit 0 ∧ s = ⟨[(6, .v (.int .i64 o))], []⟩)) := by
  refine AX.wkpost ?_
  refine AX.loop (G := Nat × (Int × Int)) (fun q => (fun g : Int × Int => (⟨[(2, .pt 0 0), (6, .v (.int .i64 g.1)), (13, .bs false 1 (List.map enc_s p3)), (14, .v (.int .i64 (p3.length : Int))), (15, .v (.int .i64 g.2))], [(0, .box [.bs false 2 (List.map enc_si p1), .v (.int .i64 p2)])]⟩ : S)) q.2) (fun q => m_impl_FromNames_L1 p1 p2 p3 q.1 q.2.1 q.2.2 = some out) (fun q => q.1) (n, g) h (Wk.refl _) ?_
  clear h
  rintro ⟨fu, v5, v6⟩ h
  cases fu with
  | zero => cases h
  | succ fu =>
    rw [m_impl_FromNames_L1] at h
    refine AX.seq ?_
    refine AX.reg (its := []) [2, 6, 13, 14, 15, 16] [0] (s1 := ⟨[(2, .pt 0 0), (6, .v (.int .i64 v5)), (13, .bs false 1 (List.map enc_s p3)), (14, .v (.int .i64 (p3.length : Int))), (15, .v (.int .i64 v6)), (16, .v (.bool (decide (v6 < (p3.length : Int)))))], [(0, .box [.bs false 2 (List.map enc_si p1), .v (.int .i64 p2)])]⟩) (C := True) (by kernel_rfl) trivial trivial ?_
    refine AX.seq ?_
    rcases bool_cases (decide (v6 < (p3.length : Int))) with b3 | b3
    · replace h := cd_t b3 h
      refine AX.condT (decide (v6 < (p3.length : Int))) (by kernel_rfl) b3 ?_
      refine AX.skip ?_
      refine AX.seq ?_
      refine AX.block ?_
      refine AX.seq ?_
      obtain ⟨g4, h⟩ := gd_e h
      refine AX.reg (its := [.auto { y := some (.be 1 (enc_s (gt p3 v6)) 0) }]) [2, 6, 8, 13, 14, 15] [0] (s1 := ⟨[(2, .pt 0 0), (6, .v (.int .i64 v5)), (8, .v (.string (gt p3 v6))), (13, .bs false 1 (List.map enc_s p3)), (14, .v (.int .i64 (p3.length : Int))), (15, .v (.int .i64 v6))], [(0, .box [.bs false 2 (List.map enc_si p1), .v (.int .i64 p2)])]⟩) (C := ((0 ≤ v6 ∧ v6 < ((List.map enc_s p3).length : Int)) ∧ (AV.be 1 ((List.map enc_s p3).getD v6.toNat []) 0 = AV.be 1 (enc_s (gt p3 v6)) 0)) ∧ True) (by kernel_rfl) ⟨idx_bs enc_s p3 v6 1 g4, trivial⟩ trivial ?_
      refine AX.seq ?_
      obtain ⟨x7, e5, h⟩ := bd_e h
      refine AX.reg (its := [.auto {}, .auto {}, .auto {}, .call 80 [.bs false 2 (List.map enc_si p1), .v (.string (gt p3 v6))] (handO (rho ([] ++ [])) [] [] ++ []) (callEv [] [] (.v (.int .i64 x7)) [])]) [2, 6, 9, 13, 14, 15] [0] (s1 := ⟨[(2, .pt 0 0), (6, .v (.int .i64 v5)), (9, .v (.int .i64 x7)), (13, .bs false 1 (List.map enc_s p3)), (14, .v (.int .i64 (p3.length : Int))), (15, .v (.int .i64 v6))], [(0, .box [.bs false 2 (List.map enc_si p1), .v (.int .i64 p2)])]⟩) (C := ((([.bs false 2 (List.map enc_si p1), .v (.string (gt p3 v6))] : List AV) = [.bs false 2 (List.map enc_si p1), .v (.string (gt p3 v6))]) ∧ True) ∧ True) (by kernel_rfl) ⟨⟨rfl, trivial⟩, trivial⟩ ⟨call_ok (ks := []) (ns := []) (bor := []) (bobjs := []) (s_impl_named p1 (gt p3 v6) x7 e5) (.cons (.c1 (.c0 (.same _ (by kernel_rfl) (by kernel_rfl)))) (.cons (.c1 (.c0 (.same _ (by kernel_rfl) (by kernel_rfl)))) (.nil))) (by kernel_rfl) trivial, trivial⟩ ?_
      refine AX.seq ?_
      refine AX.seq ?_
      refine AX.reg (its := []) [2, 6, 9, 13, 14, 15, 24] [0] (s1 := ⟨[(2, .pt 0 0), (6, .v (.int .i64 v5)), (9, .v (.int .i64 x7)), (13, .bs false 1 (List.map enc_s p3)), (14, .v (.int .i64 (p3.length : Int))), (15, .v (.int .i64 v6)), (24, .v (.bool (decide (x7 < 0))))], [(0, .box [.bs false 2 (List.map enc_si p1), .v (.int .i64 p2)])]⟩) (C := True) (by kernel_rfl) trivial trivial ?_
      rcases bool_cases (decide (x7 < 0)) with b6 | b6
      · replace h := cd_t b6 h
        refine AX.condT (decide (x7 < 0)) (by kernel_rfl) b6 ?_
        refine AX.seq ?_
        refine AX.reg (its := []) [4, 5] [] (s1 := ⟨[(4, .v (.int .i64 0)), (5, .v (.bool false))], []⟩) (C := True) (by kernel_rfl) trivial trivial ?_
        refine AX.ret ?_
        refine fin_wk (Wk.forget [4, 5] [] (s' := ⟨[(4, .v (.int .i64 0)), (5, .v (.bool false))], []⟩) (by kernel_rfl)) ?_
        have hr := Option.some.inj h
        subst hr
        exact ⟨_, Wk.refl _, .inl ⟨(), rfl, rfl, rfl⟩⟩
      · replace h := cd_f b6 h
        refine AX.condF (decide (x7 < 0)) (by kernel_rfl) b6 ?_
        refine AX.skip ?_
        obtain ⟨g7, h⟩ := gd_e h
        refine AX.reg (its := [.auto {}, .auto {}, .auto {}, .auto {}, .auto { y := some (.be 2 (enc_si (gt p1 x7)) 0) }]) [2, 6, 13, 14, 15] [0] (s1 := ⟨[(2, .pt 0 0), (6, .v (.int .i64 (Go.bits .or .i64 v5 ((gt p1 x7).2)))), (13, .bs false 1 (List.map enc_s p3)), (14, .v (.int .i64 (p3.length : Int))), (15, .v (.int .i64 v6))], [(0, .box [.bs false 2 (List.map enc_si p1), .v (.int .i64 p2)])]⟩) (C := ((0 ≤ x7 ∧ x7 < ((List.map enc_si p1).length : Int)) ∧ (AV.be 2 ((List.map enc_si p1).getD x7.toNat []) 0 = AV.be 2 (enc_si (gt p1 x7)) 0)) ∧ True) (by kernel_rfl) ⟨idx_bs enc_si p1 x7 2 g7, trivial⟩ trivial ?_
        refine AX.reg (its := [.auto { raw := true }]) [2, 6, 13, 14, 15] [0] (s1 := ⟨[(2, .pt 0 0), (6, .v (.int .i64 (Go.bits .or .i64 v5 ((gt p1 x7).2)))), (13, .bs false 1 (List.map enc_s p3)), (14, .v (.int .i64 (p3.length : Int))), (15, .v (.int .i64 (IntKind.wrap .i64 (v6 + 1))))], [(0, .box [.bs false 2 (List.map enc_si p1), .v (.int .i64 p2)])]⟩) (C := True) (by kernel_rfl) trivial trivial ?_
        refine ⟨(fu, (Go.bits .or .i64 v5 ((gt p1 x7).2), IntKind.wrap .i64 (v6 + 1))), h, Nat.lt_succ_self _, ?_⟩
        refine Wk.trans (Wk.forget [2, 6, 13, 14, 15] [0] (s' := ⟨[(2, .pt 0 0), (6, .v (.int .i64 (Go.bits .or .i64 v5 ((gt p1 x7).2)))), (13, .bs false 1 (List.map enc_s p3)), (14, .v (.int .i64 (p3.length : Int))), (15, .v (.int .i64 (IntKind.wrap .i64 (v6 + 1))))], [(0, .box [.bs false 2 (List.map enc_si p1), .v (.int .i64 p2)])]⟩) (by kernel_rfl)) ?_
        exact Wk.refl _
    · replace h := cd_f b3 h
      refine AX.condF (decide (v6 < (p3.length : Int))) (by kernel_rfl) b3 ?_
      refine AX.exit ?_
      refine fin_wk (Wk.forget [6] [] (s' := ⟨[(6, .v (.int .i64 v5))], []⟩) (by kernel_rfl)) ?_
      have hr := Option.some.inj h
      subst hr
      exact ⟨_, Wk.refl _, .inr ⟨v5, rfl, rfl, rfl⟩⟩

theorem s_impl_FromNames (p1 : List (ByteArray × Int)) (p2 : Int) (p3 : List (ByteArray)) (r : Int × Bool) (h : m_impl_FromNames p1 p2 p3 = some r) :
    Eng.Spec Try.prog 39 [.agg [.bs false 2 (List.map enc_si p1), .v (.int .i64 p2)], .bs false 1 (List.map enc_s p3)] [] (.tup [.v (.int .i64 r.1), .v (.bool r.2)]) [] := by
  unfold m_impl_FromNames at h
  refine Eng.Spec.body Try.func39 (by kernel_rfl) rfl (by kernel_rfl) ?_
  refine AX.wkpost ?_
  refine AX.seq ?_
  refine AX.reg (its := [.auto { nk := 0 }]) [1, 2] [0] (s1 := ⟨[(1, .bs false 1 (List.map enc_s p3)), (2, .pt 0 0)], [(0, .box [.bs false 2 (List.map enc_si p1), .v (.int .i64 p2)])]⟩) (C := True) (by kernel_rfl) trivial trivial ?_
  refine AX.seq ?_
  refine AX.seq ?_
  obtain ⟨x4, e1, h⟩ := bd_e h
  refine AX.reg (its := [.auto {}, .call 54 [.agg [.bs false 2 (List.map enc_si p1), .v (.int .i64 p2)]] (handO (rho ([] ++ [])) [] [] ++ []) (callEv [] [] (.v (.bool x4)) [])]) [1, 2, 12] [0] (s1 := ⟨[(1, .bs false 1 (List.map enc_s p3)), (2, .pt 0 0), (12, .v (.bool (!x4)))], [(0, .box [.bs false 2 (List.map enc_si p1), .v (.int .i64 p2)])]⟩) (C := ((([.agg [.bs false 2 (List.map enc_si p1), .v (.int .i64 p2)]] : List AV) = [.agg [.bs false 2 (List.map enc_si p1), .v (.int .i64 p2)]]) ∧ True) ∧ True) (by kernel_rfl) ⟨⟨rfl, trivial⟩, trivial⟩ ⟨call_ok (ks := []) (ns := []) (bor := []) (bobjs := []) (s_impl_ValidFlag p1 p2 x4 e1) (.cons (.c1 (.agg (.cons (.same _ (by kernel_rfl) (by kernel_rfl)) (.cons (.same _ (by kernel_rfl) (by kernel_rfl)) (.nil))))) (.nil)) (by kernel_rfl) trivial, trivial⟩ ?_
  rcases bool_cases ((!x4)) with b2 | b2
  · replace h := cd_t b2 h
    refine AX.condT ((!x4)) (by kernel_rfl) b2 ?_
    refine AX.seq ?_
    refine AX.reg (its := []) [4, 5] [] (s1 := ⟨[(4, .v (.int .i64 0)), (5, .v (.bool false))], []⟩) (C := True) (by kernel_rfl) trivial trivial ?_
    refine AX.ret ?_
    refine fin_wk (Wk.forget [4, 5] [] (s' := ⟨[(4, .v (.int .i64 0)), (5, .v (.bool false))], []⟩) (by kernel_rfl)) ?_
    have hr := Option.some.inj h
    subst hr
    exact ⟨_, Wk.refl _, .inr rfl, ⟨[], by kernel_rfl, trivial, [.v (.int .i64 0), .v (.bool false)], by kernel_rfl, by kernel_rfl⟩⟩
  · replace h := cd_f b2 h
    refine AX.condF ((!x4)) (by kernel_rfl) b2 ?_
    refine AX.skip ?_
    refine AX.seq ?_
    refine AX.reg (its := []) [1, 2, 6] [0] (s1 := ⟨[(1, .bs false 1 (List.map enc_s p3)), (2, .pt 0 0), (6, .v (.int .i64 0))], [(0, .box [.bs false 2 (List.map enc_si p1), .v (.int .i64 p2)])]⟩) (C := True) (by kernel_rfl) trivial trivial ?_
    refine AX.seq ?_
    refine AX.seq ?_
    refine AX.reg (its := [.auto {}, .auto { y := some (.v (.int .i64 (p3.length : Int))) }]) [2, 6, 13, 14, 15] [0] (s1 := ⟨[(2, .pt 0 0), (6, .v (.int .i64 0)), (13, .bs false 1 (List.map enc_s p3)), (14, .v (.int .i64 (p3.length : Int))), (15, .v (.int .i64 0))], [(0, .box [.bs false 2 (List.map enc_si p1), .v (.int .i64 p2)])]⟩) (C := (True ∧ (AV.v (.int .i64 ((List.map enc_s p3).length : Int)) = AV.v (.int .i64 (p3.length : Int)))) ∧ True) (by kernel_rfl) ⟨⟨trivial, len_map enc_s p3⟩, trivial⟩ trivial ?_
    refine AX.block ?_
    obtain ⟨x8, e8, h⟩ := bd_e h
    refine AX.wk (Wk.forget [2, 6, 13, 14, 15] [0] (s' := ⟨[(2, .pt 0 0), (6, .v (.int .i64 0)), (13, .bs false 1 (List.map enc_s p3)), (14, .v (.int .i64 (p3.length : Int))), (15, .v (.int .i64 0))], [(0, .box [.bs false 2 (List.map enc_si p1), .v (.int .i64 p2)])]⟩) (by kernel_rfl)) ?_
    refine AX.mono (s_impl_FromNames_L1 p1 p2 p3 FU (0, 0) x8 e8) ?_
    rintro _ _ (⟨x9, rfl, rfl, rfl⟩ | ⟨x10, rfl, rfl, rfl⟩)
    · replace h := sm_l h
      refine fin_wk (Wk.forget [4, 5] [] (s' := ⟨[(4, .v (.int .i64 0)), (5, .v (.bool false))], []⟩) (by kernel_rfl)) ?_
      have hr := Option.some.inj h
      subst hr
      exact ⟨_, Wk.refl _, .inr rfl, ⟨[], by kernel_rfl, trivial, [.v (.int .i64 0), .v (.bool false)], by kernel_rfl, by kernel_rfl⟩⟩
    · replace h := sm_r h
      refine AX.seq ?_
      refine AX.reg (its := []) [4, 5] [] (s1 := ⟨[(4, .v (.int .i64 x10)), (5, .v (.bool true))], []⟩) (C := True) (by kernel_rfl) trivial trivial ?_
      refine AX.ret ?_
      refine fin_wk (Wk.forget [4, 5] [] (s' := ⟨[(4, .v (.int .i64 x10)), (5, .v (.bool true))], []⟩) (by kernel_rfl)) ?_
      have hr := Option.some.inj h
      subst hr
      exact ⟨_, Wk.refl _, .inr rfl, ⟨[], by kernel_rfl, trivial, [.v (.int .i64 x10), .v (.bool true)], by kernel_rfl, by kernel_rfl⟩⟩

theorem s_impl_ConvertValue (p1 : List (ByteArray × Int)) (p2 : Int) (p3 : List (ByteArray × Int)) (p4 : Int) (p5 : Int) (r : Int × Bool) (h : m_impl_ConvertValue p1 p2 p3 p4 p5 = some r) :
    Eng.Spec Try.prog 44 [.agg [.bs false 2 (List.map enc_si p1), .v (.int .i64 p2)], .agg [.bs false 2 (List.map enc_si p3), .v (.int .i64 p4)], .v (.int .i64 p5)] [] (.tup [.v (.int .i64 r.1), .v (.bool r.2)]) [] := by
  unfold m_impl_ConvertValue at h
  refine Eng.Spec.body Try.func44 (by kernel_rfl) rfl (by kernel_rfl) ?_
  refine AX.wkpost ?_
  refine AX.seq ?_
  refine AX.reg (its := [.auto { nk := 0 }, .auto { nk := 1 }]) [2, 3, 4] [0, 1] (s1 := ⟨[(2, .v (.int .i64 p5)), (3, .pt 0 0), (4, .pt 1 0)], [(0, .box [.bs false 2 (List.map enc_si p1), .v (.int .i64 p2)]), (1, .box [.bs false 2 (List.map enc_si p3), .v (.int .i64 p4)])]⟩) (C := True) (by kernel_rfl) trivial trivial ?_
  refine AX.seq ?_
  refine AX.seq ?_
  obtain ⟨x6, e1, h⟩ := bd_e h
  rcases bool_cases ((!x6)) with b2 | b2
  · replace h := cd_t b2 h
    refine AX.reg (its := [.auto {}, .auto {}, .call 47 [.agg [.bs false 2 (List.map enc_si p1), .v (.int .i64 p2)], .v (.int .i64 p5)] (handO (rho ([] ++ [])) [] [] ++ []) (callEv [] [] (.v (.bool x6)) []), .auto { y := some (.v (.bool true)) }]) [2, 3, 4, 17] [0, 1] (s1 := ⟨[(2, .v (.int .i64 p5)), (3, .pt 0 0), (4, .pt 1 0), (17, .v (.bool true))], [(0, .box [.bs false 2 (List.map enc_si p1), .v (.int .i64 p2)]), (1, .box [.bs false 2 (List.map enc_si p3), .v (.int .i64 p4)])]⟩) (C := ((([.agg [.bs false 2 (List.map enc_si p1), .v (.int .i64 p2)], .v (.int .i64 p5)] : List AV) = [.agg [.bs false 2 (List.map enc_si p1), .v (.int .i64 p2)], .v (.int .i64 p5)]) ∧ True) ∧ ((True) ∧ ((.v (.bool (!x6)) : AV) = (.v (.bool true) : AV))) ∧ True) (by kernel_rfl) ⟨⟨rfl, trivial⟩, ⟨⟨trivial, (congrArg (fun z => AV.v (.bool z)) b2)⟩, trivial⟩⟩ ⟨call_ok (ks := []) (ns := []) (bor := []) (bobjs := []) (s_impl_IsValue p1 p2 p5 x6 e1) (.cons (.c1 (.agg (.cons (.same _ (by kernel_rfl) (by kernel_rfl)) (.cons (.same _ (by kernel_rfl) (by kernel_rfl)) (.nil))))) (.cons (.c1 (.c0 (.same _ (by kernel_rfl) (by kernel_rfl)))) (.nil))) (by kernel_rfl) trivial, trivial⟩ ?_
    refine AX.cond_true (by kernel_rfl) ?_
    refine AX.seq ?_
    refine AX.reg (its := []) [6, 7] [] (s1 := ⟨[(6, .v (.int .i64 0)), (7, .v (.bool false))], []⟩) (C := True) (by kernel_rfl) trivial trivial ?_
    refine AX.ret ?_
    refine fin_wk (Wk.forget [6, 7] [] (s' := ⟨[(6, .v (.int .i64 0)), (7, .v (.bool false))], []⟩) (by kernel_rfl)) ?_
    have hr := Option.some.inj h
    subst hr
    exact ⟨_, Wk.refl _, .inr rfl, ⟨[], by kernel_rfl, trivial, [.v (.int .i64 0), .v (.bool false)], by kernel_rfl, by kernel_rfl⟩⟩
  · replace h := cd_f b2 h
    obtain ⟨x7, e3, h⟩ := bd_e h
    refine AX.reg (its := [.auto {}, .auto {}, .call 47 [.agg [.bs false 2 (List.map enc_si p1), .v (.int .i64 p2)], .v (.int .i64 p5)] (handO (rho ([] ++ [])) [] [] ++ []) (callEv [] [] (.v (.bool x6)) []), .auto { y := some (.v (.bool false)) }, .auto {}, .auto {}, .auto {}, .call 21 [.agg [.bs false 2 (List.map enc_si p1), .v (.int .i64 p2)], .v (.int .i64 p5)] (handO (rho ([] ++ [])) [] [] ++ []) (callEv [] [] (.v (.int .i64 x7)) [])]) [2, 3, 4, 17] [0, 1] (s1 := ⟨[(2, .v (.int .i64 p5)), (3, .pt 0 0), (4, .pt 1 0), (17, .v (.bool (!decide (x7 = 0))))], [(0, .box [.bs false 2 (List.map enc_si p1), .v (.int .i64 p2)]), (1, .box [.bs false 2 (List.map enc_si p3), .v (.int .i64 p4)])]⟩) (C := ((([.agg [.bs false 2 (List.map enc_si p1), .v (.int .i64 p2)], .v (.int .i64 p5)] : List AV) = [.agg [.bs false 2 (List.map enc_si p1), .v (.int .i64 p2)], .v (.int .i64 p5)]) ∧ True) ∧ ((True) ∧ ((.v (.bool (!x6)) : AV) = (.v (.bool false) : AV))) ∧ ((([.agg [.bs false 2 (List.map enc_si p1), .v (.int .i64 p2)], .v (.int .i64 p5)] : List AV) = [.agg [.bs false 2 (List.map enc_si p1), .v (.int .i64 p2)], .v (.int .i64 p5)]) ∧ True) ∧ True) (by kernel_rfl) ⟨⟨rfl, trivial⟩, ⟨⟨trivial, (congrArg (fun z => AV.v (.bool z)) b2)⟩, ⟨⟨rfl, trivial⟩, trivial⟩⟩⟩ ⟨call_ok (ks := []) (ns := []) (bor := []) (bobjs := []) (s_impl_IsValue p1 p2 p5 x6 e1) (.cons (.c1 (.agg (.cons (.same _ (by kernel_rfl) (by kernel_rfl)) (.cons (.same _ (by kernel_rfl) (by kernel_rfl)) (.nil))))) (.cons (.c1 (.c0 (.same _ (by kernel_rfl) (by kernel_rfl)))) (.nil))) (by kernel_rfl) trivial, ⟨call_ok (ks := []) (ns := []) (bor := []) (bobjs := []) (s_impl_RestIn p1 p2 p5 x7 e3) (.cons (.c1 (.agg (.cons (.same _ (by kernel_rfl) (by kernel_rfl)) (.cons (.same _ (by kernel_rfl) (by kernel_rfl)) (.nil))))) (.cons (.c1 (.c0 (.same _ (by kernel_rfl) (by kernel_rfl)))) (.nil))) (by kernel_rfl) trivial, trivial⟩⟩ ?_
    rcases bool_cases ((!decide (x7 = 0))) with b4 | b4
    · replace h := cd_t b4 h
      refine AX.condT ((!decide (x7 = 0))) (by kernel_rfl) b4 ?_
      refine AX.seq ?_
      refine AX.reg (its := []) [6, 7] [] (s1 := ⟨[(6, .v (.int .i64 0)), (7, .v (.bool false))], []⟩) (C := True) (by kernel_rfl) trivial trivial ?_
      refine AX.ret ?_
      refine fin_wk (Wk.forget [6, 7] [] (s' := ⟨[(6, .v (.int .i64 0)), (7, .v (.bool false))], []⟩) (by kernel_rfl)) ?_
      have hr := Option.some.inj h
      subst hr
      exact ⟨_, Wk.refl _, .inr rfl, ⟨[], by kernel_rfl, trivial, [.v (.int .i64 0), .v (.bool false)], by kernel_rfl, by kernel_rfl⟩⟩
    · replace h := cd_f b4 h
      refine AX.condF ((!decide (x7 = 0))) (by kernel_rfl) b4 ?_
      refine AX.skip ?_
      refine AX.seq ?_
      obtain ⟨x8, e5, h⟩ := bd_e h
      obtain ⟨x9, e6, h⟩ := bd_e h
      refine AX.drw mixed (its := [.auto {}, .auto {}, .auto {}, .call 34 [.agg [.bs false 2 (List.map enc_si p1), .v (.int .i64 p2)], .v (.int .i64 p5)] (handO (rho ([] ++ [2])) [] [] ++ []) (callEv [] [2] (.sl 0 0 x8.length) [.arr 1 (List.map enc_s x8)]), .call 39 [.agg [.bs false 2 (List.map enc_si p3), .v (.int .i64 p4)], .sl 2 0 x8.length] (handO (rho ([] ++ [])) [] [] ++ [(2, .arr 1 (List.map enc_s x8))]) (callEv [] [] (.tup [.v (.int .i64 x9.1), .v (.bool x9.2)]) [])]) [6, 7] [] (s1 := ⟨[(6, .v (.int .i64 x9.1)), (7, .v (.bool x9.2))], []⟩) (C := ((([.agg [.bs false 2 (List.map enc_si p1), .v (.int .i64 p2)], .v (.int .i64 p5)] : List AV) = [.agg [.bs false 2 (List.map enc_si p1), .v (.int .i64 p2)], .v (.int .i64 p5)]) ∧ True) ∧ ((([.agg [.bs false 2 (List.map enc_si p3), .v (.int .i64 p4)], .sl 2 0 x8.length] : List AV) = [.agg [.bs false 2 (List.map enc_si p3), .v (.int .i64 p4)], .sl 2 0 x8.length]) ∧ (AO.arr 1 (List.map enc_s x8) = AO.arr 1 (List.map enc_s x8)) ∧ True) ∧ True) (by kernel_rfl) ⟨⟨rfl, trivial⟩, ⟨⟨rfl, rfl, trivial⟩, trivial⟩⟩ ⟨call_ok (ks := []) (ns := [2]) (bor := []) (bobjs := []) (s_impl_NamesIn p1 p2 p5 x8 e5) (.cons (.c1 (.agg (.cons (.same _ (by kernel_rfl) (by kernel_rfl)) (.cons (.same _ (by kernel_rfl) (by kernel_rfl)) (.nil))))) (.cons (.c1 (.c0 (.same _ (by kernel_rfl) (by kernel_rfl)))) (.nil))) (by kernel_rfl) trivial, ⟨call_ok (ks := []) (ns := []) (bor := [2]) (bobjs := [(2, .arr 1 (List.map enc_s x8))]) (s_impl_FromNames p3 p4 x8 x9 e6) (.cons (.c1 (.agg (.cons (.same _ (by kernel_rfl) (by kernel_rfl)) (.cons (.same _ (by kernel_rfl) (by kernel_rfl)) (.nil))))) (.cons (.c1 (.c0 (.arr rfl rfl ((rfl).trans (List.length_map ..).symm)))) (.nil))) (by kernel_rfl) trivial, trivial⟩⟩ ?_
      refine AX.ret ?_
      refine fin_wk (Wk.forget [6, 7] [] (s' := ⟨[(6, .v (.int .i64 x9.1)), (7, .v (.bool x9.2))], []⟩) (by kernel_rfl)) ?_
      have hr := Option.some.inj h
      subst hr
      exact ⟨_, Wk.refl _, .inr rfl, ⟨[], by kernel_rfl, trivial, [.v (.int .i64 x9.1), .v (.bool x9.2)], by kernel_rfl, by kernel_rfl⟩⟩

theorem s_laws_eqDef (p1 : ByteArray) (p2 : Int) (p3 : ByteArray) (p4 : Int) (r : Bool) (h : m_laws_eqDef p1 p2 p3 p4 = some r) :
    Eng.Spec Try.prog 97 [.agg [.v (.string p1), .v (.int .i64 p2)], .agg [.v (.string p3), .v (.int .i64 p4)]] [] (.v (.bool r)) [] := by
  unfold m_laws_eqDef at h
  refine Eng.Spec.body Try.func97 (by kernel_rfl) rfl (by kernel_rfl) ?_
  refine AX.wkpost ?_
  refine AX.seq ?_
  refine AX.reg (its := [.auto { nk := 0 }, .auto { nk := 1 }]) [2, 3] [0, 1] (s1 := ⟨[(2, .pt 0 0), (3, .pt 1 0)], [(0, .box [.v (.string p1), .v (.int .i64 p2)]), (1, .box [.v (.string p3), .v (.int .i64 p4)])]⟩) (C := True) (by kernel_rfl) trivial trivial ?_
  refine AX.seq ?_
  refine AX.seq ?_
  refine AX.reg (its := []) [2, 3, 9] [0, 1] (s1 := ⟨[(2, .pt 0 0), (3, .pt 1 0), (9, .v (.bool (!decide (p1 = p3))))], [(0, .box [.v (.string p1), .v (.int .i64 p2)]), (1, .box [.v (.string p3), .v (.int .i64 p4)])]⟩) (C := True) (by kernel_rfl) trivial trivial ?_
  rcases bool_cases ((!decide (p1 = p3))) with b1 | b1
  · replace h := cd_t b1 h
    refine AX.condT ((!decide (p1 = p3))) (by kernel_rfl) b1 ?_
    refine AX.seq ?_
    refine AX.reg (its := []) [4] [] (s1 := ⟨[(4, .v (.bool false))], []⟩) (C := True) (by kernel_rfl) trivial trivial ?_
    refine AX.ret ?_
    refine fin_wk (Wk.forget [4] [] (s' := ⟨[(4, .v (.bool false))], []⟩) (by kernel_rfl)) ?_
    have hr := Option.some.inj h
    subst hr
    exact ⟨_, Wk.refl _, .inr rfl, ⟨[], by kernel_rfl, trivial, [.v (.bool false)], by kernel_rfl, by kernel_rfl⟩⟩
  · replace h := cd_f b1 h
    refine AX.condF ((!decide (p1 = p3))) (by kernel_rfl) b1 ?_
    refine AX.skip ?_
    refine AX.seq ?_
    refine AX.seq ?_
    refine AX.reg (its := []) [14] [] (s1 := ⟨[(14, .v (.bool (!decide (p2 = p4))))], []⟩) (C := True) (by kernel_rfl) trivial trivial ?_
    rcases bool_cases ((!decide (p2 = p4))) with b2 | b2
    · replace h := cd_t b2 h
      refine AX.condT ((!decide (p2 = p4))) (by kernel_rfl) b2 ?_
      refine AX.seq ?_
      refine AX.reg (its := []) [4] [] (s1 := ⟨[(4, .v (.bool false))], []⟩) (C := True) (by kernel_rfl) trivial trivial ?_
      refine AX.ret ?_
      refine fin_wk (Wk.forget [4] [] (s' := ⟨[(4, .v (.bool false))], []⟩) (by kernel_rfl)) ?_
      have hr := Option.some.inj h
      subst hr
      exact ⟨_, Wk.refl _, .inr rfl, ⟨[], by kernel_rfl, trivial, [.v (.bool false)], by kernel_rfl, by kernel_rfl⟩⟩
    · replace h := cd_f b2 h
      refine AX.condF ((!decide (p2 = p4))) (by kernel_rfl) b2 ?_
      refine AX.skip ?_
      refine AX.seq ?_
      refine AX.reg (its := []) [4] [] (s1 := ⟨[(4, .v (.bool true))], []⟩) (C := True) (by kernel_rfl) trivial trivial ?_
      refine AX.ret ?_
      refine fin_wk (Wk.forget [4] [] (s' := ⟨[(4, .v (.bool true))], []⟩) (by kernel_rfl)) ?_
      have hr := Option.some.inj h
      subst hr
      exact ⟨_, Wk.refl _, .inr rfl, ⟨[], by kernel_rfl, trivial, [.v (.bool true)], by kernel_rfl, by kernel_rfl⟩⟩

theorem s_laws_eqDefS_L1 (p1 : List (ByteArray × Int)) (p2 : List (ByteArray × Int)) (n : Nat) (g : Int) (out : Unit ⊕ Unit) (h : m_laws_eqDefS_L1 p1 p2 n g = some out) :
    AX Try.prog 27 0 (codeAt [1, 1, 0, 1, 1] (bodyOf Try.f57)) ((fun g : Int => (⟨[(0, .bs false 2 (List.map enc_si p1)), (1, .bs false 2 (List.map enc_si p2)), (5, .v (.int .i64 g))], []⟩ : S)) g) (fun ex s => (∃ o : Unit, out = Sum.inl o ∧ ex = .ret ∧ s = ⟨[(4, .v (.bool false))], []⟩) ∨ (∃ o : Unit, out = Sum.inr o ∧ ex = .exit 0 ∧ s = ⟨[], []⟩)) := by
  refine AX.wkpost ?_
  refine AX.loop (G := Nat × (Int)) (fun q => (fun g : Int => (⟨[(0, .bs false 2 (List.map enc_si p1)), (1, .bs false 2 (List.map enc_si p2)), (5, .v (.int .i64 g))], []⟩ : S)) q.2) (fun q => m_laws_eqDefS_L1 p1 p2 q.1 q.2 = some out) (fun q => q.1) (n, g) h (Wk.refl _) ?_
  clear h
  rintro ⟨fu, v3⟩ h
  cases fu with
  | zero => cases h
  | succ fu =>
    rw [m_laws_eqDefS_L1] at h
    refine AX.seq ?_
    refine AX.seq ?_
    refine AX.reg (its := [.auto {}, .auto {}, .auto { y := some (.v (.int .i64 (p1.length : Int))) }]) [0, 1, 5, 14] [] (s1 := ⟨[(0, .bs false 2 (List.map enc_si p1)), (1, .bs false 2 (List.map enc_si p2)), (5, .v (.int .i64 v3)), (14, .v (.bool (decide (v3 < (p1.length : Int)))))], []⟩) (C := (True ∧ (AV.v (.int .i64 ((List.map enc_si p1).length : Int)) = AV.v (.int .i64 (p1.length : Int)))) ∧ True) (by kernel_rfl) ⟨⟨trivial, len_map enc_si p1⟩, trivial⟩ trivial ?_
    rcases bool_cases (decide (v3 < (p1.length : Int))) with b2 | b2
    · replace h := cd_t b2 h
      refine AX.condT (decide (v3 < (p1.length : Int))) (by kernel_rfl) b2 ?_
      refine AX.skip ?_
      refine AX.seq ?_
      refine AX.block ?_
      refine AX.seq ?_
      obtain ⟨g3, h⟩ := gd_e h
      obtain ⟨g4, h⟩ := gd_e h
      obtain ⟨x4, e5, h⟩ := bd_e h
      refine AX.drw mixed (its := [.auto {}, .auto {}, .auto { y := some (.be 2 (enc_si (gt p1 v3)) 0) }, .auto {}, .auto {}, .auto {}, .auto { y := some (.be 2 (enc_si (gt p2 v3)) 0) }, .auto {}, .call 97 [.agg [.v (.string ((gt p1 v3).1)), .v (.int .i64 ((gt p1 v3).2))], .agg [.v (.string ((gt p2 v3).1)), .v (.int .i64 ((gt p2 v3).2))]] (handO (rho ([] ++ [])) [] [] ++ []) (callEv [] [] (.v (.bool x4)) [])]) [0, 1, 5, 26] [] (s1 := ⟨[(0, .bs false 2 (List.map enc_si p1)), (1, .bs false 2 (List.map enc_si p2)), (5, .v (.int .i64 v3)), (26, .v (.bool (!x4)))], []⟩) (C := ((0 ≤ v3 ∧ v3 < ((List.map enc_si p1).length : Int)) ∧ (AV.be 2 ((List.map enc_si p1).getD v3.toNat []) 0 = AV.be 2 (enc_si (gt p1 v3)) 0)) ∧ ((0 ≤ v3 ∧ v3 < ((List.map enc_si p2).length : Int)) ∧ (AV.be 2 ((List.map enc_si p2).getD v3.toNat []) 0 = AV.be 2 (enc_si (gt p2 v3)) 0)) ∧ ((([.agg [.v (.string ((gt p1 v3).1)), .v (.int .i64 ((gt p1 v3).2))], .agg [.v (.string ((gt p2 v3).1)), .v (.int .i64 ((gt p2 v3).2))]] : List AV) = [.agg [.v (.string ((gt p1 v3).1)), .v (.int .i64 ((gt p1 v3).2))], .agg [.v (.string ((gt p2 v3).1)), .v (.int .i64 ((gt p2 v3).2))]]) ∧ True) ∧ True) (by kernel_rfl) ⟨idx_bs enc_si p1 v3 2 g3, ⟨idx_bs enc_si p2 v3 2 g4, ⟨⟨rfl, trivial⟩, trivial⟩⟩⟩ ⟨call_ok (ks := []) (ns := []) (bor := []) (bobjs := []) (s_laws_eqDef ((gt p1 v3).1) ((gt p1 v3).2) ((gt p2 v3).1) ((gt p2 v3).2) x4 e5) (.cons (.c1 (.agg (.cons (.same _ (by kernel_rfl) (by kernel_rfl)) (.cons (.same _ (by kernel_rfl) (by kernel_rfl)) (.nil))))) (.cons (.c1 (.agg (.cons (.same _ (by kernel_rfl) (by kernel_rfl)) (.cons (.same _ (by kernel_rfl) (by kernel_rfl)) (.nil))))) (.nil))) (by kernel_rfl) trivial, trivial⟩ ?_
      rcases bool_cases ((!x4)) with b6 | b6
      · replace h := cd_t b6 h
        refine AX.condT ((!x4)) (by kernel_rfl) b6 ?_
        refine AX.seq ?_
        refine AX.reg (its := []) [4] [] (s1 := ⟨[(4, .v (.bool false))], []⟩) (C := True) (by kernel_rfl) trivial trivial ?_
        refine AX.ret ?_
        refine fin_wk (Wk.forget [4] [] (s' := ⟨[(4, .v (.bool false))], []⟩) (by kernel_rfl)) ?_
        have hr := Option.some.inj h
        subst hr
        exact ⟨_, Wk.refl _, .inl ⟨(), rfl, rfl, rfl⟩⟩
      · replace h := cd_f b6 h
        refine AX.condF ((!x4)) (by kernel_rfl) b6 ?_
        refine AX.skip ?_
        refine AX.reg (its := [.auto {}, .auto { raw := true }]) [0, 1, 5] [] (s1 := ⟨[(0, .bs false 2 (List.map enc_si p1)), (1, .bs false 2 (List.map enc_si p2)), (5, .v (.int .i64 (IntKind.wrap .i64 (v3 + 1))))], []⟩) (C := True) (by kernel_rfl) trivial trivial ?_
        refine ⟨(fu, IntKind.wrap .i64 (v3 + 1)), h, Nat.lt_succ_self _, ?_⟩
        refine Wk.trans (Wk.forget [0, 1, 5] [] (s' := ⟨[(0, .bs false 2 (List.map enc_si p1)), (1, .bs false 2 (List.map enc_si p2)), (5, .v (.int .i64 (IntKind.wrap .i64 (v3 + 1))))], []⟩) (by kernel_rfl)) ?_
        exact Wk.refl _
    · replace h := cd_f b2 h
      refine AX.condF (decide (v3 < (p1.length : Int))) (by kernel_rfl) b2 ?_
      refine AX.exit ?_
      refine fin_wk (Wk.forget [] [] (s' := ⟨[], []⟩) (by kernel_rfl)) ?_
      have hr := Option.some.inj h
      subst hr
      exact ⟨_, Wk.refl _, .inr ⟨(), rfl, rfl, rfl⟩⟩

theorem s_laws_eqDefS (p1 : List (ByteArray × Int)) (p2 : List (ByteArray × Int)) (r : Bool) (h : m_laws_eqDefS p1 p2 = some r) :
    Eng.Spec Try.prog 57 [.bs false 2 (List.map enc_si p1), .bs false 2 (List.map enc_si p2)] [] (.v (.bool r)) [] := by
  unfold m_laws_eqDefS at h
  refine Eng.Spec.body Try.func57 (by kernel_rfl) rfl (by kernel_rfl) ?_
  refine AX.wkpost ?_
  refine AX.seq ?_
  refine AX.reg (its := []) [0, 1] [] (s1 := ⟨[(0, .bs false 2 (List.map enc_si p1)), (1, .bs false 2 (List.map enc_si p2))], []⟩) (C := True) (by kernel_rfl) trivial trivial ?_
  refine AX.seq ?_
  refine AX.seq ?_
  refine AX.reg (its := [.auto {}, .auto { y := some (.v (.int .i64 (p1.length : Int))) }, .auto {}, .auto { y := some (.v (.int .i64 (p2.length : Int))) }]) [0, 1, 10] [] (s1 := ⟨[(0, .bs false 2 (List.map enc_si p1)), (1, .bs false 2 (List.map enc_si p2)), (10, .v (.bool (!decide ((p1.length : Int) = (p2.length : Int)))))], []⟩) (C := (True ∧ (AV.v (.int .i64 ((List.map enc_si p1).length : Int)) = AV.v (.int .i64 (p1.length : Int)))) ∧ (True ∧ (AV.v (.int .i64 ((List.map enc_si p2).length : Int)) = AV.v (.int .i64 (p2.length : Int)))) ∧ True) (by kernel_rfl) ⟨⟨trivial, len_map enc_si p1⟩, ⟨⟨trivial, len_map enc_si p2⟩, trivial⟩⟩ trivial ?_
  rcases bool_cases ((!decide ((p1.length : Int) = (p2.length : Int)))) with b1 | b1
  · replace h := cd_t b1 h
    refine AX.condT ((!decide ((p1.length : Int) = (p2.length : Int)))) (by kernel_rfl) b1 ?_
    refine AX.seq ?_
    refine AX.reg (its := []) [4] [] (s1 := ⟨[(4, .v (.bool false))], []⟩) (C := True) (by kernel_rfl) trivial trivial ?_
    refine AX.ret ?_
    refine fin_wk (Wk.forget [4] [] (s' := ⟨[(4, .v (.bool false))], []⟩) (by kernel_rfl)) ?_
    have hr := Option.some.inj h
    subst hr
    exact ⟨_, Wk.refl _, .inr rfl, ⟨[], by kernel_rfl, trivial, [.v (.bool false)], by kernel_rfl, by kernel_rfl⟩⟩
  · replace h := cd_f b1 h
    refine AX.condF ((!decide ((p1.length : Int) = (p2.length : Int)))) (by kernel_rfl) b1 ?_
    refine AX.skip ?_
    refine AX.seq ?_
    refine AX.seq ?_
    refine AX.reg (its := []) [0, 1, 5] [] (s1 := ⟨[(0, .bs false 2 (List.map enc_si p1)), (1, .bs false 2 (List.map enc_si p2)), (5, .v (.int .i64 0))], []⟩) (C := True) (by kernel_rfl) trivial trivial ?_
    refine AX.block ?_
    obtain ⟨x5, e7, h⟩ := bd_e h
    refine AX.wk (Wk.forget [0, 1, 5] [] (s' := ⟨[(0, .bs false 2 (List.map enc_si p1)), (1, .bs false 2 (List.map enc_si p2)), (5, .v (.int .i64 0))], []⟩) (by kernel_rfl)) ?_
    refine AX.mono (s_laws_eqDefS_L1 p1 p2 FU 0 x5 e7) ?_
    rintro _ _ (⟨x6, rfl, rfl, rfl⟩ | ⟨x7, rfl, rfl, rfl⟩)
    · replace h := sm_l h
      refine fin_wk (Wk.forget [4] [] (s' := ⟨[(4, .v (.bool false))], []⟩) (by kernel_rfl)) ?_
      have hr := Option.some.inj h
      subst hr
      exact ⟨_, Wk.refl _, .inr rfl, ⟨[], by kernel_rfl, trivial, [.v (.bool false)], by kernel_rfl, by kernel_rfl⟩⟩
    · replace h := sm_r h
      refine AX.seq ?_
      refine AX.reg (its := []) [4] [] (s1 := ⟨[(4, .v (.bool true))], []⟩) (C := True) (by kernel_rfl) trivial trivial ?_
      refine AX.ret ?_
      refine fin_wk (Wk.forget [4] [] (s' := ⟨[(4, .v (.bool true))], []⟩) (by kernel_rfl)) ?_
      have hr := Option.some.inj h
      subst hr
      exact ⟨_, Wk.refl _, .inr rfl, ⟨[], by kernel_rfl, trivial, [.v (.bool true)], by kernel_rfl, by kernel_rfl⟩⟩

theorem s_laws_eqFlag (p1 : List (ByteArray × Int)) (p2 : Int) (p3 : List (ByteArray × Int)) (p4 : Int) (r : Bool) (h : m_laws_eqFlag p1 p2 p3 p4 = some r) :
    Eng.Spec Try.prog 19 [.agg [.bs false 2 (List.map enc_si p1), .v (.int .i64 p2)], .agg [.bs false 2 (List.map enc_si p3), .v (.int .i64 p4)]] [] (.v (.bool r)) [] := by
  unfold m_laws_eqFlag at h
  refine Eng.Spec.body Try.func19 (by kernel_rfl) rfl (by kernel_rfl) ?_
  refine AX.wkpost ?_
  refine AX.seq ?_
  refine AX.reg (its := [.auto { nk := 0 }, .auto { nk := 1 }]) [2, 3] [0, 1] (s1 := ⟨[(2, .pt 0 0), (3, .pt 1 0)], [(0, .box [.bs false 2 (List.map enc_si p1), .v (.int .i64 p2)]), (1, .box [.bs false 2 (List.map enc_si p3), .v (.int .i64 p4)])]⟩) (C := True) (by kernel_rfl) trivial trivial ?_
  refine AX.seq ?_
  refine AX.seq ?_
  obtain ⟨x5, e1, h⟩ := bd_e h
  refine AX.reg (its := [.auto {}, .auto {}, .auto {}, .auto {}, .call 57 [.bs false 2 (List.map enc_si p1), .bs false 2 (List.map enc_si p3)] (handO (rho ([] ++ [])) [] [] ++ []) (callEv [] [] (.v (.bool x5)) [])]) [2, 3, 10] [0, 1] (s1 := ⟨[(2, .pt 0 0), (3, .pt 1 0), (10, .v (.bool (!x5)))], [(0, .box [.bs false 2 (List.map enc_si p1), .v (.int .i64 p2)]), (1, .box [.bs false 2 (List.map enc_si p3), .v (.int .i64 p4)])]⟩) (C := ((([.bs false 2 (List.map enc_si p1), .bs false 2 (List.map enc_si p3)] : List AV) = [.bs false 2 (List.map enc_si p1), .bs false 2 (List.map enc_si p3)]) ∧ True) ∧ True) (by kernel_rfl) ⟨⟨rfl, trivial⟩, trivial⟩ ⟨call_ok (ks := []) (ns := []) (bor := []) (bobjs := []) (s_laws_eqDefS p1 p3 x5 e1) (.cons (.c1 (.c0 (.same _ (by kernel_rfl) (by kernel_rfl)))) (.cons (.c1 (.c0 (.same _ (by kernel_rfl) (by kernel_rfl)))) (.nil))) (by kernel_rfl) trivial, trivial⟩ ?_
  rcases bool_cases ((!x5)) with b2 | b2
  · replace h := cd_t b2 h
    refine AX.condT ((!x5)) (by kernel_rfl) b2 ?_
    refine AX.seq ?_
    refine AX.reg (its := []) [4] [] (s1 := ⟨[(4, .v (.bool false))], []⟩) (C := True) (by kernel_rfl) trivial trivial ?_
    refine AX.ret ?_
    refine fin_wk (Wk.forget [4] [] (s' := ⟨[(4, .v (.bool false))], []⟩) (by kernel_rfl)) ?_
    have hr := Option.some.inj h
    subst hr
    exact ⟨_, Wk.refl _, .inr rfl, ⟨[], by kernel_rfl, trivial, [.v (.bool false)], by kernel_rfl, by kernel_rfl⟩⟩
  · replace h := cd_f b2 h
    refine AX.condF ((!x5)) (by kernel_rfl) b2 ?_
    refine AX.skip ?_
    refine AX.seq ?_
    refine AX.seq ?_
    refine AX.reg (its := []) [15] [] (s1 := ⟨[(15, .v (.bool (!decide (p2 = p4))))], []⟩) (C := True) (by kernel_rfl) trivial trivial ?_
    rcases bool_cases ((!decide (p2 = p4))) with b3 | b3
    · replace h := cd_t b3 h
      refine AX.condT ((!decide (p2 = p4))) (by kernel_rfl) b3 ?_
      refine AX.seq ?_
      refine AX.reg (its := []) [4] [] (s1 := ⟨[(4, .v (.bool false))], []⟩) (C := True) (by kernel_rfl) trivial trivial ?_
      refine AX.ret ?_
      refine fin_wk (Wk.forget [4] [] (s' := ⟨[(4, .v (.bool false))], []⟩) (by kernel_rfl)) ?_
      have hr := Option.some.inj h
      subst hr
      exact ⟨_, Wk.refl _, .inr rfl, ⟨[], by kernel_rfl, trivial, [.v (.bool false)], by kernel_rfl, by kernel_rfl⟩⟩
    · replace h := cd_f b3 h
      refine AX.condF ((!decide (p2 = p4))) (by kernel_rfl) b3 ?_
      refine AX.skip ?_
      refine AX.seq ?_
      refine AX.reg (its := []) [4] [] (s1 := ⟨[(4, .v (.bool true))], []⟩) (C := True) (by kernel_rfl) trivial trivial ?_
      refine AX.ret ?_
      refine fin_wk (Wk.forget [4] [] (s' := ⟨[(4, .v (.bool true))], []⟩) (by kernel_rfl)) ?_
      have hr := Option.some.inj h
      subst hr
      exact ⟨_, Wk.refl _, .inr rfl, ⟨[], by kernel_rfl, trivial, [.v (.bool true)], by kernel_rfl, by kernel_rfl⟩⟩

theorem s_laws_FnExactConvertValue (p1 : List (ByteArray × Int)) (p2 : Int) (p3 : List (ByteArray × Int)) (p4 : Int) (p5 : Int) (r : Bool) (h : m_laws_FnExactConvertValue p1 p2 p3 p4 p5 = some r) :
    Eng.Spec Try.prog 10 [.agg [.bs true 2 (List.map enc_si p1), .v (.int .i64 p2)], .agg [.bs true 2 (List.map enc_si p3), .v (.int .i64 p4)], .v (.int .i64 p5)] [] (.v (.bool r)) [] := by
  unfold m_laws_FnExactConvertValue at h
  refine Eng.Spec.body Try.func10 (by kernel_rfl) rfl (by kernel_rfl) ?_
  refine AX.wkpost ?_
  refine AX.seq ?_
  refine AX.reg (its := [.auto { nk := 0 }, .auto { nk := 1 }]) [2, 3, 4] [0, 1] (s1 := ⟨[(2, .v (.int .i64 p5)), (3, .pt 0 0), (4, .pt 1 0)], [(0, .box [.bs true 2 (List.map enc_si p1), .v (.int .i64 p2)]), (1, .box [.bs true 2 (List.map enc_si p3), .v (.int .i64 p4)])]⟩) (C := True) (by kernel_rfl) trivial trivial ?_
  refine AX.seq ?_
  refine AX.reg (its := []) [2, 3, 4, 7] [0, 1] (s1 := ⟨[(2, .v (.int .i64 p5)), (3, .pt 0 0), (4, .pt 1 0), (7, .v (.int .i64 1048576))], [(0, .box [.bs true 2 (List.map enc_si p1), .v (.int .i64 p2)]), (1, .box [.bs true 2 (List.map enc_si p3), .v (.int .i64 p4)])]⟩) (C := True) (by kernel_rfl) trivial trivial ?_
  refine AX.seq ?_
  obtain ⟨x6, e1, h⟩ := bd_e h
  refine AX.reg (its := [.auto {}, .auto {}, .call 15 [.agg [.bs true 2 (List.map enc_si p1), .v (.int .i64 p2)], .v (.int .i64 1048576)] (handO (rho ([] ++ [])) [] [] ++ []) (callEv [] [] (.v (.int .i64 x6)) [])]) [2, 3, 4, 7] [0, 1] (s1 := ⟨[(2, .v (.int .i64 p5)), (3, .pt 0 0), (4, .pt 1 0), (7, .v (.int .i64 x6))], [(0, .box [.bs true 2 (List.map enc_si p1), .v (.int .i64 p2)]), (1, .box [.bs true 2 (List.map enc_si p3), .v (.int .i64 p4)])]⟩) (C := ((([.agg [.bs true 2 (List.map enc_si p1), .v (.int .i64 p2)], .v (.int .i64 1048576)] : List AV) = [.agg [.bs true 2 (List.map enc_si p1), .v (.int .i64 p2)], .v (.int .i64 1048576)]) ∧ True) ∧ True) (by kernel_rfl) ⟨⟨rfl, trivial⟩, trivial⟩ ⟨call_ok (ks := []) (ns := []) (bor := []) (bobjs := []) (s_laws_szFlag p1 p2 1048576 x6 e1) (.cons (.c1 (.agg (.cons (.same _ (by kernel_rfl) (by kernel_rfl)) (.cons (.same _ (by kernel_rfl) (by kernel_rfl)) (.nil))))) (.cons (.c1 (.c0 (.same _ (by kernel_rfl) (by kernel_rfl)))) (.nil))) (by kernel_rfl) trivial, trivial⟩ ?_
  refine AX.seq ?_
  refine AX.seq ?_
  refine AX.reg (its := []) [2, 3, 4, 7, 18] [0, 1] (s1 := ⟨[(2, .v (.int .i64 p5)), (3, .pt 0 0), (4, .pt 1 0), (7, .v (.int .i64 x6)), (18, .v (.bool (decide (x6 < 0))))], [(0, .box [.bs true 2 (List.map enc_si p1), .v (.int .i64 p2)]), (1, .box [.bs true 2 (List.map enc_si p3), .v (.int .i64 p4)])]⟩) (C := True) (by kernel_rfl) trivial trivial ?_
  rcases bool_cases (decide (x6 < 0)) with b2 | b2
  · replace h := cd_t b2 h
    refine AX.condT (decide (x6 < 0)) (by kernel_rfl) b2 ?_
    refine AX.seq ?_
    refine AX.reg (its := []) [6] [] (s1 := ⟨[(6, .v (.bool true))], []⟩) (C := True) (by kernel_rfl) trivial trivial ?_
    refine AX.ret ?_
    refine fin_wk (Wk.forget [6] [] (s' := ⟨[(6, .v (.bool true))], []⟩) (by kernel_rfl)) ?_
    have hr := Option.some.inj h
    subst hr
    exact ⟨_, Wk.refl _, .inr rfl, ⟨[], by kernel_rfl, trivial, [.v (.bool true)], by kernel_rfl, by kernel_rfl⟩⟩
  · replace h := cd_f b2 h
    refine AX.condF (decide (x6 < 0)) (by kernel_rfl) b2 ?_
    refine AX.skip ?_
    refine AX.seq ?_
    obtain ⟨x7, e3, h⟩ := bd_e h
    refine AX.reg (its := [.auto {}, .auto {}, .call 15 [.agg [.bs true 2 (List.map enc_si p3), .v (.int .i64 p4)], .v (.int .i64 x6)] (handO (rho ([] ++ [])) [] [] ++ []) (callEv [] [] (.v (.int .i64 x7)) [])]) [2, 3, 4, 7] [0, 1] (s1 := ⟨[(2, .v (.int .i64 p5)), (3, .pt 0 0), (4, .pt 1 0), (7, .v (.int .i64 x7))], [(0, .box [.bs true 2 (List.map enc_si p1), .v (.int .i64 p2)]), (1, .box [.bs true 2 (List.map enc_si p3), .v (.int .i64 p4)])]⟩) (C := ((([.agg [.bs true 2 (List.map enc_si p3), .v (.int .i64 p4)], .v (.int .i64 x6)] : List AV) = [.agg [.bs true 2 (List.map enc_si p3), .v (.int .i64 p4)], .v (.int .i64 x6)]) ∧ True) ∧ True) (by kernel_rfl) ⟨⟨rfl, trivial⟩, trivial⟩ ⟨call_ok (ks := []) (ns := []) (bor := []) (bobjs := []) (s_laws_szFlag p3 p4 x6 x7 e3) (.cons (.c1 (.agg (.cons (.same _ (by kernel_rfl) (by kernel_rfl)) (.cons (.same _ (by kernel_rfl) (by kernel_rfl)) (.nil))))) (.cons (.c1 (.c0 (.same _ (by kernel_rfl) (by kernel_rfl)))) (.nil))) (by kernel_rfl) trivial, trivial⟩ ?_
    refine AX.seq ?_
    refine AX.seq ?_
    refine AX.reg (its := []) [2, 3, 4, 23] [0, 1] (s1 := ⟨[(2, .v (.int .i64 p5)), (3, .pt 0 0), (4, .pt 1 0), (23, .v (.bool (decide (x7 < 0))))], [(0, .box [.bs true 2 (List.map enc_si p1), .v (.int .i64 p2)]), (1, .box [.bs true 2 (List.map enc_si p3), .v (.int .i64 p4)])]⟩) (C := True) (by kernel_rfl) trivial trivial ?_
    rcases bool_cases (decide (x7 < 0)) with b4 | b4
    · replace h := cd_t b4 h
      refine AX.condT (decide (x7 < 0)) (by kernel_rfl) b4 ?_
      refine AX.seq ?_
      refine AX.reg (its := []) [6] [] (s1 := ⟨[(6, .v (.bool true))], []⟩) (C := True) (by kernel_rfl) trivial trivial ?_
      refine AX.ret ?_
      refine fin_wk (Wk.forget [6] [] (s' := ⟨[(6, .v (.bool true))], []⟩) (by kernel_rfl)) ?_
      have hr := Option.some.inj h
      subst hr
      exact ⟨_, Wk.refl _, .inr rfl, ⟨[], by kernel_rfl, trivial, [.v (.bool true)], by kernel_rfl, by kernel_rfl⟩⟩
    · replace h := cd_f b4 h
      refine AX.condF (decide (x7 < 0)) (by kernel_rfl) b4 ?_
      refine AX.skip ?_
      refine AX.seq ?_
      obtain ⟨x8, e5, h⟩ := bd_e h
      obtain ⟨x9, e6, h⟩ := bd_e h
      obtain ⟨x10, e7, h⟩ := bd_e h
      refine AX.drw mixed (its := [.auto {}, .call 17 [.agg [.bs true 2 (List.map enc_si p1), .v (.int .i64 p2)]] (handO (rho ([] ++ [2])) [] [] ++ []) (callEv [] [2] (.agg [.sl 0 0 x8.length, .v (.int .i64 p2)]) [.arr 2 (List.map enc_si x8)]), .auto {}, .call 17 [.agg [.bs true 2 (List.map enc_si p3), .v (.int .i64 p4)]] (handO (rho ([] ++ [3])) [] [] ++ []) (callEv [] [3] (.agg [.sl 0 0 x9.length, .v (.int .i64 p4)]) [.arr 2 (List.map enc_si x9)]), .auto {}, .call 43 [.agg [.sl 2 0 x8.length, .v (.int .i64 p2)], .agg [.sl 3 0 x9.length, .v (.int .i64 p4)], .v (.int .i64 p5)] (handO (rho ([] ++ [])) [] [] ++ [(2, .arr 2 (List.map enc_si x8)), (3, .arr 2 (List.map enc_si x9))]) (callEv [] [] (.tup [.v (.int .i64 x10.1), .v (.bool x10.2)]) [])]) [2, 3, 4, 8, 9] [0, 1] (s1 := ⟨[(2, .v (.int .i64 p5)), (3, .pt 0 0), (4, .pt 1 0), (8, .v (.int .i64 x10.1)), (9, .v (.bool x10.2))], [(0, .box [.bs true 2 (List.map enc_si p1), .v (.int .i64 p2)]), (1, .box [.bs true 2 (List.map enc_si p3), .v (.int .i64 p4)])]⟩) (C := ((([.agg [.bs true 2 (List.map enc_si p1), .v (.int .i64 p2)]] : List AV) = [.agg [.bs true 2 (List.map enc_si p1), .v (.int .i64 p2)]]) ∧ True) ∧ ((([.agg [.bs true 2 (List.map enc_si p3), .v (.int .i64 p4)]] : List AV) = [.agg [.bs true 2 (List.map enc_si p3), .v (.int .i64 p4)]]) ∧ True) ∧ ((([.agg [.sl 2 0 x8.length, .v (.int .i64 p2)], .agg [.sl 3 0 x9.length, .v (.int .i64 p4)], .v (.int .i64 p5)] : List AV) = [.agg [.sl 2 0 x8.length, .v (.int .i64 p2)], .agg [.sl 3 0 x9.length, .v (.int .i64 p4)], .v (.int .i64 p5)]) ∧ (AO.arr 2 (List.map enc_si x8) = AO.arr 2 (List.map enc_si x8)) ∧ (AO.arr 2 (List.map enc_si x9) = AO.arr 2 (List.map enc_si x9)) ∧ True) ∧ True) (by kernel_rfl) ⟨⟨rfl, trivial⟩, ⟨⟨rfl, trivial⟩, ⟨⟨rfl, rfl, rfl, trivial⟩, trivial⟩⟩⟩ ⟨call_ok (ks := []) (ns := [2]) (bor := []) (bobjs := []) (s_laws_toFlag p1 p2 x8 e5) (.cons (.c1 (.agg (.cons (.same _ (by kernel_rfl) (by kernel_rfl)) (.cons (.same _ (by kernel_rfl) (by kernel_rfl)) (.nil))))) (.nil)) (by kernel_rfl) trivial, ⟨call_ok (ks := []) (ns := [3]) (bor := []) (bobjs := []) (s_laws_toFlag p3 p4 x9 e6) (.cons (.c1 (.agg (.cons (.same _ (by kernel_rfl) (by kernel_rfl)) (.cons (.same _ (by kernel_rfl) (by kernel_rfl)) (.nil))))) (.nil)) (by kernel_rfl) trivial, ⟨call_ok (ks := []) (ns := []) (bor := [2, 3]) (bobjs := [(2, .arr 2 (List.map enc_si x8)), (3, .arr 2 (List.map enc_si x9))]) (s_spec_ConvertValue x8 p2 x9 p4 p5 x10 e7) (.cons (.c1 (.agg (.cons (.arr rfl rfl ((rfl).trans (List.length_map ..).symm)) (.cons (.same _ (by kernel_rfl) (by kernel_rfl)) (.nil))))) (.cons (.c1 (.agg (.cons (.arr rfl rfl ((rfl).trans (List.length_map ..).symm)) (.cons (.same _ (by kernel_rfl) (by kernel_rfl)) (.nil))))) (.cons (.c1 (.c0 (.same _ (by kernel_rfl) (by kernel_rfl)))) (.nil)))) (by kernel_rfl) trivial, trivial⟩⟩⟩ ?_
      refine AX.seq ?_
      obtain ⟨x11, e8, h⟩ := bd_e h
      refine AX.reg (its := [.auto {}, .call 17 [.agg [.bs true 2 (List.map enc_si p1), .v (.int .i64 p2)]] (handO (rho ([] ++ [2])) [] [] ++ []) (callEv [] [2] (.agg [.sl 0 0 x11.length, .v (.int .i64 p2)]) [.arr 2 (List.map enc_si x11)]), .auto { nk := 3 }]) [2, 3, 4, 8, 9, 10] [0, 1, 2, 3] (s1 := ⟨[(2, .v (.int .i64 p5)), (3, .pt 0 0), (4, .pt 1 0), (8, .v (.int .i64 x10.1)), (9, .v (.bool x10.2)), (10, .pt 3 0)], [(0, .box [.bs true 2 (List.map enc_si p1), .v (.int .i64 p2)]), (1, .box [.bs true 2 (List.map enc_si p3), .v (.int .i64 p4)]), (2, .arr 2 (List.map enc_si x11)), (3, .box [.sl 2 0 x11.length, .v (.int .i64 p2)])]⟩) (C := ((([.agg [.bs true 2 (List.map enc_si p1), .v (.int .i64 p2)]] : List AV) = [.agg [.bs true 2 (List.map enc_si p1), .v (.int .i64 p2)]]) ∧ True) ∧ True) (by kernel_rfl) ⟨⟨rfl, trivial⟩, trivial⟩ ⟨call_ok (ks := []) (ns := [2]) (bor := []) (bobjs := []) (s_laws_toFlag p1 p2 x11 e8) (.cons (.c1 (.agg (.cons (.same _ (by kernel_rfl) (by kernel_rfl)) (.cons (.same _ (by kernel_rfl) (by kernel_rfl)) (.nil))))) (.nil)) (by kernel_rfl) trivial, trivial⟩ ?_
      refine AX.seq ?_
      obtain ⟨x12, e9, h⟩ := bd_e h
      refine AX.reg (its := [.auto {}, .call 17 [.agg [.bs true 2 (List.map enc_si p3), .v (.int .i64 p4)]] (handO (rho ([] ++ [4])) [] [] ++ []) (callEv [] [4] (.agg [.sl 0 0 x12.length, .v (.int .i64 p4)]) [.arr 2 (List.map enc_si x12)]), .auto { nk := 5 }]) [2, 3, 4, 8, 9, 10, 11] [0, 1, 2, 3, 4, 5] (s1 := ⟨[(2, .v (.int .i64 p5)), (3, .pt 0 0), (4, .pt 1 0), (8, .v (.int .i64 x10.1)), (9, .v (.bool x10.2)), (10, .pt 3 0), (11, .pt 5 0)], [(0, .box [.bs true 2 (List.map enc_si p1), .v (.int .i64 p2)]), (1, .box [.bs true 2 (List.map enc_si p3), .v (.int .i64 p4)]), (2, .arr 2 (List.map enc_si x11)), (3, .box [.sl 2 0 x11.length, .v (.int .i64 p2)]), (4, .arr 2 (List.map enc_si x12)), (5, .box [.sl 4 0 x12.length, .v (.int .i64 p4)])]⟩) (C := ((([.agg [.bs true 2 (List.map enc_si p3), .v (.int .i64 p4)]] : List AV) = [.agg [.bs true 2 (List.map enc_si p3), .v (.int .i64 p4)]]) ∧ True) ∧ True) (by kernel_rfl) ⟨⟨rfl, trivial⟩, trivial⟩ ⟨call_ok (ks := []) (ns := [4]) (bor := []) (bobjs := []) (s_laws_toFlag p3 p4 x12 e9) (.cons (.c1 (.agg (.cons (.same _ (by kernel_rfl) (by kernel_rfl)) (.cons (.same _ (by kernel_rfl) (by kernel_rfl)) (.nil))))) (.nil)) (by kernel_rfl) trivial, trivial⟩ ?_
      refine AX.seq ?_
      obtain ⟨x13, e10, h⟩ := bd_e h
      refine AX.reg (its := [.auto {}, .auto {}, .auto {}, .call 44 [.agg [.sl 2 0 x11.length, .v (.int .i64 p2)], .agg [.sl 4 0 x12.length, .v (.int .i64 p4)], .v (.int .i64 p5)] (handO (rho ([] ++ [])) [] [] ++ [(2, .arr 2 (List.map enc_si x11)), (4, .arr 2 (List.map enc_si x12))]) (callEv [] [] (.tup [.v (.int .i64 x13.1), .v (.bool x13.2)]) [])]) [3, 4, 8, 9, 10, 11, 12, 13] [0, 1, 2, 3, 4, 5] (s1 := ⟨[(3, .pt 0 0), (4, .pt 1 0), (8, .v (.int .i64 x10.1)), (9, .v (.bool x10.2)), (10, .pt 3 0), (11, .pt 5 0), (12, .v (.int .i64 x13.1)), (13, .v (.bool x13.2))], [(0, .box [.bs true 2 (List.map enc_si p1), .v (.int .i64 p2)]), (1, .box [.bs true 2 (List.map enc_si p3), .v (.int .i64 p4)]), (2, .arr 2 (List.map enc_si x11)), (3, .box [.sl 2 0 x11.length, .v (.int .i64 p2)]), (4, .arr 2 (List.map enc_si x12)), (5, .box [.sl 4 0 x12.length, .v (.int .i64 p4)])]⟩) (C := ((([.agg [.sl 2 0 x11.length, .v (.int .i64 p2)], .agg [.sl 4 0 x12.length, .v (.int .i64 p4)], .v (.int .i64 p5)] : List AV) = [.agg [.sl 2 0 x11.length, .v (.int .i64 p2)], .agg [.sl 4 0 x12.length, .v (.int .i64 p4)], .v (.int .i64 p5)]) ∧ (AO.arr 2 (List.map enc_si x11) = AO.arr 2 (List.map enc_si x11)) ∧ (AO.arr 2 (List.map enc_si x12) = AO.arr 2 (List.map enc_si x12)) ∧ True) ∧ True) (by kernel_rfl) ⟨⟨rfl, rfl, rfl, trivial⟩, trivial⟩ ⟨call_ok (ks := []) (ns := []) (bor := [2, 4]) (bobjs := [(2, .arr 2 (List.map enc_si x11)), (4, .arr 2 (List.map enc_si x12))]) (s_impl_ConvertValue x11 p2 x12 p4 p5 x13 e10) (.cons (.c1 (.agg (.cons (.arr rfl rfl ((rfl).trans (List.length_map ..).symm)) (.cons (.same _ (by kernel_rfl) (by kernel_rfl)) (.nil))))) (.cons (.c1 (.agg (.cons (.arr rfl rfl ((rfl).trans (List.length_map ..).symm)) (.cons (.same _ (by kernel_rfl) (by kernel_rfl)) (.nil))))) (.cons (.c1 (.c0 (.same _ (by kernel_rfl) (by kernel_rfl)))) (.nil)))) (by kernel_rfl) trivial, trivial⟩ ?_
      refine AX.seq ?_
      refine AX.seq ?_
      rcases bool_cases ((!decide (x13.1 = x10.1))) with b11 | b11
      · replace h := cd_t b11 h
        refine AX.reg (its := [.auto {}, .auto {}, .auto { y := some (.v (.bool true)) }]) [3, 4, 10, 11, 51] [0, 1, 2, 3, 4, 5] (s1 := ⟨[(3, .pt 0 0), (4, .pt 1 0), (10, .pt 3 0), (11, .pt 5 0), (51, .v (.bool true))], [(0, .box [.bs true 2 (List.map enc_si p1), .v (.int .i64 p2)]), (1, .box [.bs true 2 (List.map enc_si p3), .v (.int .i64 p4)]), (2, .arr 2 (List.map enc_si x11)), (3, .box [.sl 2 0 x11.length, .v (.int .i64 p2)]), (4, .arr 2 (List.map enc_si x12)), (5, .box [.sl 4 0 x12.length, .v (.int .i64 p4)])]⟩) (C := ((True) ∧ ((.v (.bool (!decide (x13.1 = x10.1))) : AV) = (.v (.bool true) : AV))) ∧ True) (by kernel_rfl) ⟨⟨trivial, (congrArg (fun z => AV.v (.bool z)) b11)⟩, trivial⟩ trivial ?_
        refine AX.cond_true (by kernel_rfl) ?_
        refine AX.seq ?_
        refine AX.reg (its := []) [6] [] (s1 := ⟨[(6, .v (.bool false))], []⟩) (C := True) (by kernel_rfl) trivial trivial ?_
        refine AX.ret ?_
        refine fin_wk (Wk.forget [6] [] (s' := ⟨[(6, .v (.bool false))], []⟩) (by kernel_rfl)) ?_
        have hr := Option.some.inj h
        subst hr
        exact ⟨_, Wk.refl _, .inr rfl, ⟨[], by kernel_rfl, trivial, [.v (.bool false)], by kernel_rfl, by kernel_rfl⟩⟩
      · replace h := cd_f b11 h
        refine AX.reg (its := [.auto {}, .auto {}, .auto { y := some (.v (.bool false)) }]) [3, 4, 10, 11, 51] [0, 1, 2, 3, 4, 5] (s1 := ⟨[(3, .pt 0 0), (4, .pt 1 0), (10, .pt 3 0), (11, .pt 5 0), (51, .v (.bool (!(x13.2 == x10.2))))], [(0, .box [.bs true 2 (List.map enc_si p1), .v (.int .i64 p2)]), (1, .box [.bs true 2 (List.map enc_si p3), .v (.int .i64 p4)]), (2, .arr 2 (List.map enc_si x11)), (3, .box [.sl 2 0 x11.length, .v (.int .i64 p2)]), (4, .arr 2 (List.map enc_si x12)), (5, .box [.sl 4 0 x12.length, .v (.int .i64 p4)])]⟩) (C := ((True) ∧ ((.v (.bool (!decide (x13.1 = x10.1))) : AV) = (.v (.bool false) : AV))) ∧ True) (by kernel_rfl) ⟨⟨trivial, (congrArg (fun z => AV.v (.bool z)) b11)⟩, trivial⟩ trivial ?_
        rcases bool_cases ((!(x13.2 == x10.2))) with b12 | b12
        · replace h := cd_t b12 h
          refine AX.condT ((!(x13.2 == x10.2))) (by kernel_rfl) b12 ?_
          refine AX.seq ?_
          refine AX.reg (its := []) [6] [] (s1 := ⟨[(6, .v (.bool false))], []⟩) (C := True) (by kernel_rfl) trivial trivial ?_
          refine AX.ret ?_
          refine fin_wk (Wk.forget [6] [] (s' := ⟨[(6, .v (.bool false))], []⟩) (by kernel_rfl)) ?_
          have hr := Option.some.inj h
          subst hr
          exact ⟨_, Wk.refl _, .inr rfl, ⟨[], by kernel_rfl, trivial, [.v (.bool false)], by kernel_rfl, by kernel_rfl⟩⟩
        · replace h := cd_f b12 h
          refine AX.condF ((!(x13.2 == x10.2))) (by kernel_rfl) b12 ?_
          refine AX.skip ?_
          refine AX.seq ?_
          refine AX.seq ?_
          obtain ⟨x14, e13, h⟩ := bd_e h
          obtain ⟨x15, e14, h⟩ := bd_e h
          refine AX.drw mixed (its := [.auto {}, .auto {}, .call 17 [.agg [.bs true 2 (List.map enc_si p1), .v (.int .i64 p2)]] (handO (rho ([] ++ [6])) [] [] ++ []) (callEv [] [6] (.agg [.sl 0 0 x14.length, .v (.int .i64 p2)]) [.arr 2 (List.map enc_si x14)]), .call 19 [.agg [.sl 2 0 x11.length, .v (.int .i64 p2)], .agg [.sl 6 0 x14.length, .v (.int .i64 p2)]] (handO (rho ([] ++ [])) [] [] ++ [(2, .arr 2 (List.map enc_si x11)), (6, .arr 2 (List.map enc_si x14))]) (callEv [] [] (.v (.bool x15)) [])]) [4, 11, 56] [1, 4, 5] (s1 := ⟨[(4, .pt 1 0), (11, .pt 5 0), (56, .v (.bool (!x15)))], [(1, .box [.bs true 2 (List.map enc_si p3), .v (.int .i64 p4)]), (4, .arr 2 (List.map enc_si x12)), (5, .box [.sl 4 0 x12.length, .v (.int .i64 p4)])]⟩) (C := ((([.agg [.bs true 2 (List.map enc_si p1), .v (.int .i64 p2)]] : List AV) = [.agg [.bs true 2 (List.map enc_si p1), .v (.int .i64 p2)]]) ∧ True) ∧ ((([.agg [.sl 2 0 x11.length, .v (.int .i64 p2)], .agg [.sl 6 0 x14.length, .v (.int .i64 p2)]] : List AV) = [.agg [.sl 2 0 x11.length, .v (.int .i64 p2)], .agg [.sl 6 0 x14.length, .v (.int .i64 p2)]]) ∧ (AO.arr 2 (List.map enc_si x11) = AO.arr 2 (List.map enc_si x11)) ∧ (AO.arr 2 (List.map enc_si x14) = AO.arr 2 (List.map enc_si x14)) ∧ True) ∧ True) (by kernel_rfl) ⟨⟨rfl, trivial⟩, ⟨⟨rfl, rfl, rfl, trivial⟩, trivial⟩⟩ ⟨call_ok (ks := []) (ns := [6]) (bor := []) (bobjs := []) (s_laws_toFlag p1 p2 x14 e13) (.cons (.c1 (.agg (.cons (.same _ (by kernel_rfl) (by kernel_rfl)) (.cons (.same _ (by kernel_rfl) (by kernel_rfl)) (.nil))))) (.nil)) (by kernel_rfl) trivial, ⟨call_ok (ks := []) (ns := []) (bor := [2, 6]) (bobjs := [(2, .arr 2 (List.map enc_si x11)), (6, .arr 2 (List.map enc_si x14))]) (s_laws_eqFlag x11 p2 x14 p2 x15 e14) (.cons (.c1 (.agg (.cons (.arr rfl rfl ((rfl).trans (List.length_map ..).symm)) (.cons (.same _ (by kernel_rfl) (by kernel_rfl)) (.nil))))) (.cons (.c1 (.agg (.cons (.arr rfl rfl ((rfl).trans (List.length_map ..).symm)) (.cons (.same _ (by kernel_rfl) (by kernel_rfl)) (.nil))))) (.nil))) (by kernel_rfl) trivial, trivial⟩⟩ ?_
          rcases bool_cases ((!x15)) with b15 | b15
          · replace h := cd_t b15 h
            refine AX.condT ((!x15)) (by kernel_rfl) b15 ?_
            refine AX.seq ?_
            refine AX.reg (its := []) [6] [] (s1 := ⟨[(6, .v (.bool false))], []⟩) (C := True) (by kernel_rfl) trivial trivial ?_
            refine AX.ret ?_
            refine fin_wk (Wk.forget [6] [] (s' := ⟨[(6, .v (.bool false))], []⟩) (by kernel_rfl)) ?_
            have hr := Option.some.inj h
            subst hr
            exact ⟨_, Wk.refl _, .inr rfl, ⟨[], by kernel_rfl, trivial, [.v (.bool false)], by kernel_rfl, by kernel_rfl⟩⟩
          · replace h := cd_f b15 h
            refine AX.condF ((!x15)) (by kernel_rfl) b15 ?_
            refine AX.skip ?_
            refine AX.seq ?_
            refine AX.seq ?_
            obtain ⟨x16, e16, h⟩ := bd_e h
            obtain ⟨x17, e17, h⟩ := bd_e h
            refine AX.drw mixed (its := [.auto {}, .auto {}, .call 17 [.agg [.bs true 2 (List.map enc_si p3), .v (.int .i64 p4)]] (handO (rho ([] ++ [6])) [] [] ++ []) (callEv [] [6] (.agg [.sl 0 0 x16.length, .v (.int .i64 p4)]) [.arr 2 (List.map enc_si x16)]), .call 19 [.agg [.sl 4 0 x12.length, .v (.int .i64 p4)], .agg [.sl 6 0 x16.length, .v (.int .i64 p4)]] (handO (rho ([] ++ [])) [] [] ++ [(4, .arr 2 (List.map enc_si x12)), (6, .arr 2 (List.map enc_si x16))]) (callEv [] [] (.v (.bool x17)) [])]) [61] [] (s1 := ⟨[(61, .v (.bool (!x17)))], []⟩) (C := ((([.agg [.bs true 2 (List.map enc_si p3), .v (.int .i64 p4)]] : List AV) = [.agg [.bs true 2 (List.map enc_si p3), .v (.int .i64 p4)]]) ∧ True) ∧ ((([.agg [.sl 4 0 x12.length, .v (.int .i64 p4)], .agg [.sl 6 0 x16.length, .v (.int .i64 p4)]] : List AV) = [.agg [.sl 4 0 x12.length, .v (.int .i64 p4)], .agg [.sl 6 0 x16.length, .v (.int .i64 p4)]]) ∧ (AO.arr 2 (List.map enc_si x12) = AO.arr 2 (List.map enc_si x12)) ∧ (AO.arr 2 (List.map enc_si x16) = AO.arr 2 (List.map enc_si x16)) ∧ True) ∧ True) (by kernel_rfl) ⟨⟨rfl, trivial⟩, ⟨⟨rfl, rfl, rfl, trivial⟩, trivial⟩⟩ ⟨call_ok (ks := []) (ns := [6]) (bor := []) (bobjs := []) (s_laws_toFlag p3 p4 x16 e16) (.cons (.c1 (.agg (.cons (.same _ (by kernel_rfl) (by kernel_rfl)) (.cons (.same _ (by kernel_rfl) (by kernel_rfl)) (.nil))))) (.nil)) (by kernel_rfl) trivial, ⟨call_ok (ks := []) (ns := []) (bor := [4, 6]) (bobjs := [(4, .arr 2 (List.map enc_si x12)), (6, .arr 2 (List.map enc_si x16))]) (s_laws_eqFlag x12 p4 x16 p4 x17 e17) (.cons (.c1 (.agg (.cons (.arr rfl rfl ((rfl).trans (List.length_map ..).symm)) (.cons (.same _ (by kernel_rfl) (by kernel_rfl)) (.nil))))) (.cons (.c1 (.agg (.cons (.arr rfl rfl ((rfl).trans (List.length_map ..).symm)) (.cons (.same _ (by kernel_rfl) (by kernel_rfl)) (.nil))))) (.nil))) (by kernel_rfl) trivial, trivial⟩⟩ ?_
            rcases bool_cases ((!x17)) with b18 | b18
            · replace h := cd_t b18 h
              refine AX.condT ((!x17)) (by kernel_rfl) b18 ?_
              refine AX.seq ?_
              refine AX.reg (its := []) [6] [] (s1 := ⟨[(6, .v (.bool false))], []⟩) (C := True) (by kernel_rfl) trivial trivial ?_
              refine AX.ret ?_
              refine fin_wk (Wk.forget [6] [] (s' := ⟨[(6, .v (.bool false))], []⟩) (by kernel_rfl)) ?_
              have hr := Option.some.inj h
              subst hr
              exact ⟨_, Wk.refl _, .inr rfl, ⟨[], by kernel_rfl, trivial, [.v (.bool false)], by kernel_rfl, by kernel_rfl⟩⟩
            · replace h := cd_f b18 h
              refine AX.condF ((!x17)) (by kernel_rfl) b18 ?_
              refine AX.skip ?_
              refine AX.seq ?_
              refine AX.reg (its := []) [6] [] (s1 := ⟨[(6, .v (.bool true))], []⟩) (C := True) (by kernel_rfl) trivial trivial ?_
              refine AX.ret ?_
              refine fin_wk (Wk.forget [6] [] (s' := ⟨[(6, .v (.bool true))], []⟩) (by kernel_rfl)) ?_
              have hr := Option.some.inj h
              subst hr
              exact ⟨_, Wk.refl _, .inr rfl, ⟨[], by kernel_rfl, trivial, [.v (.bool true)], by kernel_rfl, by kernel_rfl⟩⟩

end Go.Eng
