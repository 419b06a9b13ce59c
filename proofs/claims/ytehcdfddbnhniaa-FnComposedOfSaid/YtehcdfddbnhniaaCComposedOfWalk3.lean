/- What is proved here: each function keeps to its model, whatever its arguments, wherever the model has an answer. Printed by gen.py. -/
import Derived.Test.YtehcdfddbnhniaaCComposedOfWalk2
import Derived.Test.YtehcdfddbnhniaaProg
import Derived.KernelRfl
set_option linter.unusedVariables false
namespace Go.Eng
open Go Go.Proofs


theorem s_impl_names_anyDef (p1 : List (ByteArray × Int)) (r : List (ByteArray)) (h : m_impl_names_anyDef p1 = some r) :
    Eng.Spec Try.prog 120 [.bs false 2 (List.map enc_si p1), .fn 122 []] [] (.sl 0 0 r.length) [.arr 1 (List.map enc_s r)] := by
  unfold m_impl_names_anyDef at h
  refine Eng.Spec.body Try.func120 (by kernel_rfl) rfl (by kernel_rfl) ?_
  refine AX.wkpost ?_
  refine AX.seq ?_
  refine AX.reg (its := []) [0, 1] [] (s1 := ⟨[(0, .bs false 2 (List.map enc_si p1)), (1, .fn 122 [])], []⟩) (C := True) (by kernel_rfl) trivial trivial ?_
  refine AX.seq ?_
  refine AX.reg (its := []) [0, 1, 5] [] (s1 := ⟨[(0, .bs false 2 (List.map enc_si p1)), (1, .fn 122 []), (5, .v (.slice none 0 0))], []⟩) (C := True) (by kernel_rfl) trivial trivial ?_
  refine AX.seq ?_
  refine AX.seq ?_
  refine AX.reg (its := [.auto {}, .auto { y := some (.v (.int .i64 (p1.length : Int))) }]) [1, 5, 8, 9, 10] [] (s1 := ⟨[(1, .fn 122 []), (5, .v (.slice none 0 0)), (8, .bs false 2 (List.map enc_si p1)), (9, .v (.int .i64 (p1.length : Int))), (10, .v (.int .i64 0))], []⟩) (C := (True ∧ (AV.v (.int .i64 ((List.map enc_si p1).length : Int)) = AV.v (.int .i64 (p1.length : Int)))) ∧ True) (by kernel_rfl) ⟨⟨trivial, len_map enc_si p1⟩, trivial⟩ trivial ?_
  refine AX.block ?_
  obtain ⟨x5, e5, h⟩ := bd_e h
  refine AX.wk (Wk.mat 5 0 1 (by kernel_rfl) (Nat.le_of_ble_eq_true (by kernel_rfl)) (by kernel_rfl) rfl) ?_
  refine AX.wk (Wk.forget [1, 5, 8, 9, 10] [0] (s' := ⟨[(1, .fn 122 []), (5, .sl 0 0 (([] : List (ByteArray)).length)), (8, .bs false 2 (List.map enc_si p1)), (9, .v (.int .i64 (p1.length : Int))), (10, .v (.int .i64 0))], [(0, .arr 1 (List.map enc_s ([] : List (ByteArray))))]⟩) (by kernel_rfl)) ?_
  refine AX.mono (s_impl_names_anyDef_L1 p1 FU (([] : List (ByteArray)), 0) x5 e5) ?_
  rintro _ _ ⟨rfl, rfl⟩
  skip
  refine AX.seq ?_
  obtain ⟨x6, e6, h⟩ := bd_e h
  refine AX.reg (its := [.auto {}, .call 118 [.sl 0 0 x5.length] (handO (rho ([0] ++ [])) [0] [.arr 1 (List.map enc_s x5)] ++ []) (callEv [0] [] (.sl 0 0 x5.length) [.arr 1 (List.map enc_s x5)])]) [4] [0] (s1 := ⟨[(4, .sl 0 0 x5.length)], [(0, .arr 1 (List.map enc_s x5))]⟩) (C := ((([.sl 0 0 x5.length] : List AV) = [.sl 0 0 x5.length]) ∧ (AO.arr 1 (List.map enc_s x5) = AO.arr 1 (List.map enc_s x5)) ∧ True) ∧ True) (by kernel_rfl) ⟨⟨rfl, rfl, trivial⟩, trivial⟩ ⟨call_ok (ks := [0]) (ns := []) (bor := []) (bobjs := []) (s_slices_Clip_hs x5 x6 e6) (.cons (.c1 (.c0 (.same _ (by kernel_rfl) (by kernel_rfl)))) (.nil)) (by kernel_rfl) ⟨.inr rfl, trivial⟩, trivial⟩ ?_
  refine AX.ret ?_
  refine fin_wk (Wk.forget [4] [0] (s' := ⟨[(4, .sl 0 0 x5.length)], [(0, .arr 1 (List.map enc_s x5))]⟩) (by kernel_rfl)) ?_
  have hr := Option.some.inj h
  subst hr
  exact ⟨_, Wk.refl _, .inr rfl, ⟨[0], by kernel_rfl, ⟨rfl, trivial⟩, [.sl 0 0 x5.length], by kernel_rfl, by kernel_rfl⟩⟩

theorem s_impl_SinglesOf (p1 : List (ByteArray × Int)) (p2 : Int) (r : List (ByteArray)) (h : m_impl_SinglesOf p1 p2 = some r) :
    Eng.Spec Try.prog 57 [.agg [.bs false 2 (List.map enc_si p1), .v (.int .i64 p2)]] [] (.sl 0 0 r.length) [.arr 1 (List.map enc_s r)] := by
  unfold m_impl_SinglesOf at h
  refine Eng.Spec.body Try.func57 (by kernel_rfl) rfl (by kernel_rfl) ?_
  refine AX.wkpost ?_
  refine AX.seq ?_
  refine AX.reg (its := [.auto { nk := 0 }]) [1] [0] (s1 := ⟨[(1, .pt 0 0)], [(0, .box [.bs false 2 (List.map enc_si p1), .v (.int .i64 p2)])]⟩) (C := True) (by kernel_rfl) trivial trivial ?_
  refine AX.seq ?_
  refine AX.seq ?_
  obtain ⟨x3, e1, h⟩ := bd_e h
  refine AX.reg (its := [.auto {}, .call 60 [.agg [.bs false 2 (List.map enc_si p1), .v (.int .i64 p2)]] (handO (rho ([] ++ [])) [] [] ++ []) (callEv [] [] (.v (.bool x3)) [])]) [1, 5] [0] (s1 := ⟨[(1, .pt 0 0), (5, .v (.bool (!x3)))], [(0, .box [.bs false 2 (List.map enc_si p1), .v (.int .i64 p2)])]⟩) (C := ((([.agg [.bs false 2 (List.map enc_si p1), .v (.int .i64 p2)]] : List AV) = [.agg [.bs false 2 (List.map enc_si p1), .v (.int .i64 p2)]]) ∧ True) ∧ True) (by kernel_rfl) ⟨⟨rfl, trivial⟩, trivial⟩ ⟨call_ok (ks := []) (ns := []) (bor := []) (bobjs := []) (s_impl_ValidFlag p1 p2 x3 e1) (.cons (.c1 (.agg (.cons (.same _ (by kernel_rfl) (by kernel_rfl)) (.cons (.same _ (by kernel_rfl) (by kernel_rfl)) (.nil))))) (.nil)) (by kernel_rfl) trivial, trivial⟩ ?_
  rcases bool_cases ((!x3)) with b2 | b2
  · replace h := cd_t b2 h
    refine AX.condT ((!x3)) (by kernel_rfl) b2 ?_
    refine AX.seq ?_
    refine AX.reg (its := []) [2] [] (s1 := ⟨[(2, .v (.slice none 0 0))], []⟩) (C := True) (by kernel_rfl) trivial trivial ?_
    refine AX.ret ?_
    refine fin_wk (Wk.mat 2 0 1 (by kernel_rfl) (Nat.le_of_ble_eq_true (by kernel_rfl)) (by kernel_rfl) rfl) ?_
    refine fin_wk (Wk.forget [2] [0] (s' := ⟨[(2, .sl 0 0 (([] : List (ByteArray)).length))], [(0, .arr 1 (List.map enc_s ([] : List (ByteArray))))]⟩) (by kernel_rfl)) ?_
    have hr := Option.some.inj h
    subst hr
    exact ⟨_, Wk.refl _, .inr rfl, ⟨[0], by kernel_rfl, ⟨rfl, trivial⟩, [.sl 0 0 (([] : List (ByteArray)).length)], by kernel_rfl, by kernel_rfl⟩⟩
  · replace h := cd_f b2 h
    refine AX.condF ((!x3)) (by kernel_rfl) b2 ?_
    refine AX.skip ?_
    refine AX.seq ?_
    obtain ⟨x4, e3, h⟩ := bd_e h
    obtain ⟨x5, e4, h⟩ := bd_e h
    refine AX.reg (its := [.auto {}, .call 127 [.agg [.bs false 2 (List.map enc_si p1), .v (.int .i64 p2)]] (handO (rho ([] ++ [1])) [] [] ++ []) (callEv [] [1] (.sl 0 0 x4.length) [.arr 2 (List.map enc_si x4)]), .call 120 [.sl 1 0 x4.length, .fn 122 []] (handO (rho ([] ++ [2])) [] [] ++ [(1, .arr 2 (List.map enc_si x4))]) (callEv [] [2] (.sl 0 0 x5.length) [.arr 1 (List.map enc_s x5)])]) [2] [2] (s1 := ⟨[(2, .sl 2 0 x5.length)], [(2, .arr 1 (List.map enc_s x5))]⟩) (C := ((([.agg [.bs false 2 (List.map enc_si p1), .v (.int .i64 p2)]] : List AV) = [.agg [.bs false 2 (List.map enc_si p1), .v (.int .i64 p2)]]) ∧ True) ∧ ((([.sl 1 0 x4.length, .fn 122 []] : List AV) = [.sl 1 0 x4.length, .fn 122 []]) ∧ (AO.arr 2 (List.map enc_si x4) = AO.arr 2 (List.map enc_si x4)) ∧ True) ∧ True) (by kernel_rfl) ⟨⟨rfl, trivial⟩, ⟨⟨rfl, rfl, trivial⟩, trivial⟩⟩ ⟨call_ok (ks := []) (ns := [1]) (bor := []) (bobjs := []) (s_impl_Flag_singles p1 p2 x4 e3) (.cons (.c1 (.agg (.cons (.same _ (by kernel_rfl) (by kernel_rfl)) (.cons (.same _ (by kernel_rfl) (by kernel_rfl)) (.nil))))) (.nil)) (by kernel_rfl) trivial, ⟨call_ok (ks := []) (ns := [2]) (bor := [1]) (bobjs := [(1, .arr 2 (List.map enc_si x4))]) (s_impl_names_anyDef x4 x5 e4) (.cons (.c1 (.c0 (.arr rfl rfl ((rfl).trans (List.length_map ..).symm)))) (.cons (.fn (.nil)) (.nil))) (by kernel_rfl) trivial, trivial⟩⟩ ?_
    refine AX.ret ?_
    refine fin_wk (Wk.swap 0 2 (Nat.le_of_ble_eq_true (by kernel_rfl)) (Nat.le_of_ble_eq_true (by kernel_rfl)) rfl) ?_
    refine fin_wk (Wk.forget [2] [0] (s' := ⟨[(2, .sl 0 0 x5.length)], [(0, .arr 1 (List.map enc_s x5))]⟩) (by kernel_rfl)) ?_
    have hr := Option.some.inj h
    subst hr
    exact ⟨_, Wk.refl _, .inr rfl, ⟨[0], by kernel_rfl, ⟨rfl, trivial⟩, [.sl 0 0 x5.length], by kernel_rfl, by kernel_rfl⟩⟩

theorem s_impl_FromNames_L1 (p1 : List (ByteArray × Int)) (p2 : Int) (p3 : List (ByteArray)) (n : Nat) (g : Int × Int) (out : Unit ⊕ Int) (h : m_impl_FromNames_L1 p1 p2 p3 n g.1 g.2 = some out) :
    AX Try.prog 35 0 (codeAt [1, 1, 1, 0, 1, 1] (bodyOf Try.f61)) ((fun g : Int × Int => (⟨[(2, .pt 0 0), (6, .v (.int .i64 g.1)), (13, .bs false 1 (List.map enc_s p3)), (14, .v (.int .i64 (p3.length : Int))), (15, .v (.int .i64 g.2))], [(0, .box [.bs false 2 (List.map enc_si p1), .v (.int .i64 p2)])]⟩ : S)) g) (fun ex s => (∃ o : Unit, out = Sum.inl o ∧ ex = .ret ∧ s = ⟨[(4, .v (.int .i64 0)), (5, .v (.bool false))], []⟩) ∨ (∃ o : Int, out = Sum.inr o ∧ ex = .exit 0 ∧ s = ⟨[(6, .v (.int .i64 o))], []⟩)) := by
  refine AX.wkpost ?_
  refine AX.loop (G := Nat × (Int × Int)) (fun q => (fun g : Int × Int => (⟨[(2, .pt 0 0), (6, .v (.int .i64 g.1)), (13, .bs false 1 (List.map enc_s p3)), (14, .v (.int .i64 (p3.length : Int))), (15, .v (.int .i64 g.2))], [(0, .box [.bs false 2 (List.map enc_si p1), .v (.int .i64 p2)])]⟩ : S)) q.2) (fun q => m_impl_FromNames_L1 p1 p2 p3 q.1 q.2.1 q.2.2 = some out) (fun q => q.1) (n, g) h (Wk.refl _) ?_
  clear h
  rintro ⟨fu, v5, v6⟩ h
  cases fu with
  | zero => cases h
  | succ fu =>
    rw [m_impl_FromNames_L1] at h
    refine AX.seq ?_
    refine AX.reg (its := []) [2, 6, 13, 14, 15, 16] [0] (s1 := ⟨[(2, .pt 0 0), (6, .v (.int .i64 v5)), (13, .bs false 1 (List.map enc_s p3)), (14, .v (.int .i64 (p3.length : Int))), (15, .v (.int .i64 v6)), (16, .v (.bool (decide (v6 < (p3.length : Int)))))], [(0, .box [.bs false 2 (List.map enc_si p1), .v (.int .i64 p2)])]⟩) (C := True) (by kernel_rfl) trivial trivial ?_
    refine AX.seq ?_
    rcases bool_cases (decide (v6 < (p3.length : Int))) with b3 | b3
    · replace h := cd_t b3 h
      refine AX.condT (decide (v6 < (p3.length : Int))) (by kernel_rfl) b3 ?_
      refine AX.skip ?_
      refine AX.seq ?_
      refine AX.block ?_
      refine AX.seq ?_
      obtain ⟨g4, h⟩ := gd_e h
      refine AX.reg (its := [.auto { y := some (.be 1 (enc_s (gt p3 v6)) 0) }]) [2, 6, 8, 13, 14, 15] [0] (s1 := ⟨[(2, .pt 0 0), (6, .v (.int .i64 v5)), (8, .v (.string (gt p3 v6))), (13, .bs false 1 (List.map enc_s p3)), (14, .v (.int .i64 (p3.length : Int))), (15, .v (.int .i64 v6))], [(0, .box [.bs false 2 (List.map enc_si p1), .v (.int .i64 p2)])]⟩) (C := ((0 ≤ v6 ∧ v6 < ((List.map enc_s p3).length : Int)) ∧ (AV.be 1 ((List.map enc_s p3).getD v6.toNat []) 0 = AV.be 1 (enc_s (gt p3 v6)) 0)) ∧ True) (by kernel_rfl) ⟨idx_bs enc_s p3 v6 1 g4, trivial⟩ trivial ?_
      refine AX.seq ?_
      obtain ⟨x7, e5, h⟩ := bd_e h
      refine AX.reg (its := [.auto {}, .auto {}, .auto {}, .call 131 [.bs false 2 (List.map enc_si p1), .v (.string (gt p3 v6))] (handO (rho ([] ++ [])) [] [] ++ []) (callEv [] [] (.v (.int .i64 x7)) [])]) [2, 6, 9, 13, 14, 15] [0] (s1 := ⟨[(2, .pt 0 0), (6, .v (.int .i64 v5)), (9, .v (.int .i64 x7)), (13, .bs false 1 (List.map enc_s p3)), (14, .v (.int .i64 (p3.length : Int))), (15, .v (.int .i64 v6))], [(0, .box [.bs false 2 (List.map enc_si p1), .v (.int .i64 p2)])]⟩) (C := ((([.bs false 2 (List.map enc_si p1), .v (.string (gt p3 v6))] : List AV) = [.bs false 2 (List.map enc_si p1), .v (.string (gt p3 v6))]) ∧ True) ∧ True) (by kernel_rfl) ⟨⟨rfl, trivial⟩, trivial⟩ ⟨call_ok (ks := []) (ns := []) (bor := []) (bobjs := []) (s_impl_named p1 (gt p3 v6) x7 e5) (.cons (.c1 (.c0 (.same _ (by kernel_rfl) (by kernel_rfl)))) (.cons (.c1 (.c0 (.same _ (by kernel_rfl) (by kernel_rfl)))) (.nil))) (by kernel_rfl) trivial, trivial⟩ ?_
      refine AX.seq ?_
      refine AX.seq ?_
      refine AX.reg (its := []) [2, 6, 9, 13, 14, 15, 24] [0] (s1 := ⟨[(2, .pt 0 0), (6, .v (.int .i64 v5)), (9, .v (.int .i64 x7)), (13, .bs false 1 (List.map enc_s p3)), (14, .v (.int .i64 (p3.length : Int))), (15, .v (.int .i64 v6)), (24, .v (.bool (decide (x7 < 0))))], [(0, .box [.bs false 2 (List.map enc_si p1), .v (.int .i64 p2)])]⟩) (C := True) (by kernel_rfl) trivial trivial ?_
      rcases bool_cases (decide (x7 < 0)) with b6 | b6
      · replace h := cd_t b6 h
        refine AX.condT (decide (x7 < 0)) (by kernel_rfl) b6 ?_
        refine AX.seq ?_
        refine AX.reg (its := []) [4, 5] [] (s1 := ⟨[(4, .v (.int .i64 0)), (5, .v (.bool false))], []⟩) (C := True) (by kernel_rfl) trivial trivial ?_
        refine AX.ret ?_
        refine fin_wk (Wk.forget [4, 5] [] (s' := ⟨[(4, .v (.int .i64 0)), (5, .v (.bool false))], []⟩) (by kernel_rfl)) ?_
        have hr := Option.some.inj h
        subst hr
        exact ⟨_, Wk.refl _, .inl ⟨(), rfl, rfl, rfl⟩⟩
      · replace h := cd_f b6 h
        refine AX.condF (decide (x7 < 0)) (by kernel_rfl) b6 ?_
        refine AX.skip ?_
        obtain ⟨g7, h⟩ := gd_e h
        refine AX.reg (its := [.auto {}, .auto {}, .auto {}, .auto {}, .auto { y := some (.be 2 (enc_si (gt p1 x7)) 0) }]) [2, 6, 13, 14, 15] [0] (s1 := ⟨[(2, .pt 0 0), (6, .v (.int .i64 (Go.bits .or .i64 v5 ((gt p1 x7).2)))), (13, .bs false 1 (List.map enc_s p3)), (14, .v (.int .i64 (p3.length : Int))), (15, .v (.int .i64 v6))], [(0, .box [.bs false 2 (List.map enc_si p1), .v (.int .i64 p2)])]⟩) (C := ((0 ≤ x7 ∧ x7 < ((List.map enc_si p1).length : Int)) ∧ (AV.be 2 ((List.map enc_si p1).getD x7.toNat []) 0 = AV.be 2 (enc_si (gt p1 x7)) 0)) ∧ True) (by kernel_rfl) ⟨idx_bs enc_si p1 x7 2 g7, trivial⟩ trivial ?_
        refine AX.reg (its := [.auto { raw := true }]) [2, 6, 13, 14, 15] [0] (s1 := ⟨[(2, .pt 0 0), (6, .v (.int .i64 (Go.bits .or .i64 v5 ((gt p1 x7).2)))), (13, .bs false 1 (List.map enc_s p3)), (14, .v (.int .i64 (p3.length : Int))), (15, .v (.int .i64 (IntKind.wrap .i64 (v6 + 1))))], [(0, .box [.bs false 2 (List.map enc_si p1), .v (.int .i64 p2)])]⟩) (C := True) (by kernel_rfl) trivial trivial ?_
        refine ⟨(fu, (Go.bits .or .i64 v5 ((gt p1 x7).2), IntKind.wrap .i64 (v6 + 1))), h, Nat.lt_succ_self _, ?_⟩
        refine Wk.trans (Wk.forget [2, 6, 13, 14, 15] [0] (s' := ⟨[(2, .pt 0 0), (6, .v (.int .i64 (Go.bits .or .i64 v5 ((gt p1 x7).2)))), (13, .bs false 1 (List.map enc_s p3)), (14, .v (.int .i64 (p3.length : Int))), (15, .v (.int .i64 (IntKind.wrap .i64 (v6 + 1))))], [(0, .box [.bs false 2 (List.map enc_si p1), .v (.int .i64 p2)])]⟩) (by kernel_rfl)) ?_
        exact Wk.refl _
    · replace h := cd_f b3 h
      refine AX.condF (decide (v6 < (p3.length : Int))) (by kernel_rfl) b3 ?_
      refine AX.exit ?_
      refine fin_wk (Wk.forget [6] [] (s' := ⟨[(6, .v (.int .i64 v5))], []⟩) (by kernel_rfl)) ?_
      have hr := Option.some.inj h
      subst hr
      exact ⟨_, Wk.refl _, .inr ⟨v5, rfl, rfl, rfl⟩⟩

theorem s_impl_FromNames (p1 : List (ByteArray × Int)) (p2 : Int) (p3 : List (ByteArray)) (r : Int × Bool) (h : m_impl_FromNames p1 p2 p3 = some r) :
    Eng.Spec Try.prog 61 [.agg [.bs false 2 (List.map enc_si p1), .v (.int .i64 p2)], .bs false 1 (List.map enc_s p3)] [] (.tup [.v (.int .i64 r.1), .v (.bool r.2)]) [] := by
  unfold m_impl_FromNames at h
  refine Eng.Spec.body Try.func61 (by kernel_rfl) rfl (by kernel_rfl) ?_
  refine AX.wkpost ?_
  refine AX.seq ?_
  refine AX.reg (its := [.auto { nk := 0 }]) [1, 2] [0] (s1 := ⟨[(1, .bs false 1 (List.map enc_s p3)), (2, .pt 0 0)], [(0, .box [.bs false 2 (List.map enc_si p1), .v (.int .i64 p2)])]⟩) (C := True) (by kernel_rfl) trivial trivial ?_
  refine AX.seq ?_
  refine AX.seq ?_
  obtain ⟨x4, e1, h⟩ := bd_e h
  refine AX.reg (its := [.auto {}, .call 60 [.agg [.bs false 2 (List.map enc_si p1), .v (.int .i64 p2)]] (handO (rho ([] ++ [])) [] [] ++ []) (callEv [] [] (.v (.bool x4)) [])]) [1, 2, 12] [0] (s1 := ⟨[(1, .bs false 1 (List.map enc_s p3)), (2, .pt 0 0), (12, .v (.bool (!x4)))], [(0, .box [.bs false 2 (List.map enc_si p1), .v (.int .i64 p2)])]⟩) (C := ((([.agg [.bs false 2 (List.map enc_si p1), .v (.int .i64 p2)]] : List AV) = [.agg [.bs false 2 (List.map enc_si p1), .v (.int .i64 p2)]]) ∧ True) ∧ True) (by kernel_rfl) ⟨⟨rfl, trivial⟩, trivial⟩ ⟨call_ok (ks := []) (ns := []) (bor := []) (bobjs := []) (s_impl_ValidFlag p1 p2 x4 e1) (.cons (.c1 (.agg (.cons (.same _ (by kernel_rfl) (by kernel_rfl)) (.cons (.same _ (by kernel_rfl) (by kernel_rfl)) (.nil))))) (.nil)) (by kernel_rfl) trivial, trivial⟩ ?_
  rcases bool_cases ((!x4)) with b2 | b2
  · replace h := cd_t b2 h
    refine AX.condT ((!x4)) (by kernel_rfl) b2 ?_
    refine AX.seq ?_
    refine AX.reg (its := []) [4, 5] [] (s1 := ⟨[(4, .v (.int .i64 0)), (5, .v (.bool false))], []⟩) (C := True) (by kernel_rfl) trivial trivial ?_
    refine AX.ret ?_
    refine fin_wk (Wk.forget [4, 5] [] (s' := ⟨[(4, .v (.int .i64 0)), (5, .v (.bool false))], []⟩) (by kernel_rfl)) ?_
    have hr := Option.some.inj h
    subst hr
    exact ⟨_, Wk.refl _, .inr rfl, ⟨[], by kernel_rfl, trivial, [.v (.int .i64 0), .v (.bool false)], by kernel_rfl, by kernel_rfl⟩⟩
  · replace h := cd_f b2 h
    refine AX.condF ((!x4)) (by kernel_rfl) b2 ?_
    refine AX.skip ?_
    refine AX.seq ?_
    refine AX.reg (its := []) [1, 2, 6] [0] (s1 := ⟨[(1, .bs false 1 (List.map enc_s p3)), (2, .pt 0 0), (6, .v (.int .i64 0))], [(0, .box [.bs false 2 (List.map enc_si p1), .v (.int .i64 p2)])]⟩) (C := True) (by kernel_rfl) trivial trivial ?_
    refine AX.seq ?_
    refine AX.seq ?_
    refine AX.reg (its := [.auto {}, .auto { y := some (.v (.int .i64 (p3.length : Int))) }]) [2, 6, 13, 14, 15] [0] (s1 := ⟨[(2, .pt 0 0), (6, .v (.int .i64 0)), (13, .bs false 1 (List.map enc_s p3)), (14, .v (.int .i64 (p3.length : Int))), (15, .v (.int .i64 0))], [(0, .box [.bs false 2 (List.map enc_si p1), .v (.int .i64 p2)])]⟩) (C := (True ∧ (AV.v (.int .i64 ((List.map enc_s p3).length : Int)) = AV.v (.int .i64 (p3.length : Int)))) ∧ True) (by kernel_rfl) ⟨⟨trivial, len_map enc_s p3⟩, trivial⟩ trivial ?_
    refine AX.block ?_
    obtain ⟨x8, e8, h⟩ := bd_e h
    refine AX.wk (Wk.forget [2, 6, 13, 14, 15] [0] (s' := ⟨[(2, .pt 0 0), (6, .v (.int .i64 0)), (13, .bs false 1 (List.map enc_s p3)), (14, .v (.int .i64 (p3.length : Int))), (15, .v (.int .i64 0))], [(0, .box [.bs false 2 (List.map enc_si p1), .v (.int .i64 p2)])]⟩) (by kernel_rfl)) ?_
    refine AX.mono (s_impl_FromNames_L1 p1 p2 p3 FU (0, 0) x8 e8) ?_
    rintro _ _ (⟨x9, rfl, rfl, rfl⟩ | ⟨x10, rfl, rfl, rfl⟩)
    · replace h := sm_l h
      refine fin_wk (Wk.forget [4, 5] [] (s' := ⟨[(4, .v (.int .i64 0)), (5, .v (.bool false))], []⟩) (by kernel_rfl)) ?_
      have hr := Option.some.inj h
      subst hr
      exact ⟨_, Wk.refl _, .inr rfl, ⟨[], by kernel_rfl, trivial, [.v (.int .i64 0), .v (.bool false)], by kernel_rfl, by kernel_rfl⟩⟩
    · replace h := sm_r h
      refine AX.seq ?_
      refine AX.reg (its := []) [4, 5] [] (s1 := ⟨[(4, .v (.int .i64 x10)), (5, .v (.bool true))], []⟩) (C := True) (by kernel_rfl) trivial trivial ?_
      refine AX.ret ?_
      refine fin_wk (Wk.forget [4, 5] [] (s' := ⟨[(4, .v (.int .i64 x10)), (5, .v (.bool true))], []⟩) (by kernel_rfl)) ?_
      have hr := Option.some.inj h
      subst hr
      exact ⟨_, Wk.refl _, .inr rfl, ⟨[], by kernel_rfl, trivial, [.v (.int .i64 x10), .v (.bool true)], by kernel_rfl, by kernel_rfl⟩⟩

theorem s_impl_Flag_mask_L1 (p1 : List (ByteArray × Int)) (n : Nat) (g : Int × Int) (out : Int) (h : m_impl_Flag_mask_L1 p1 n g.1 g.2 = some out) :
    AX Try.prog 19 0 (codeAt [1, 1, 0, 1, 1] (bodyOf Try.f81)) ((fun g : Int × Int => (⟨[(3, .v (.int .i64 g.1)), (7, .bs false 2 (List.map enc_si p1)), (8, .v (.int .i64 (p1.length : Int))), (9, .v (.int .i64 g.2))], []⟩ : S)) g) (fun ex s => ex = .exit 0 ∧ s = (fun o : Int => (⟨[(3, .v (.int .i64 o))], []⟩ : S)) out) := by
  refine AX.wkpost ?_
  refine AX.loop (G := Nat × (Int × Int)) (fun q => (fun g : Int × Int => (⟨[(3, .v (.int .i64 g.1)), (7, .bs false 2 (List.map enc_si p1)), (8, .v (.int .i64 (p1.length : Int))), (9, .v (.int .i64 g.2))], []⟩ : S)) q.2) (fun q => m_impl_Flag_mask_L1 p1 q.1 q.2.1 q.2.2 = some out) (fun q => q.1) (n, g) h (Wk.refl _) ?_
  clear h
  rintro ⟨fu, v3, v4⟩ h
  cases fu with
  | zero => cases h
  | succ fu =>
    rw [m_impl_Flag_mask_L1] at h
    refine AX.seq ?_
    refine AX.reg (its := []) [3, 7, 8, 9, 10] [] (s1 := ⟨[(3, .v (.int .i64 v3)), (7, .bs false 2 (List.map enc_si p1)), (8, .v (.int .i64 (p1.length : Int))), (9, .v (.int .i64 v4)), (10, .v (.bool (decide (v4 < (p1.length : Int)))))], []⟩) (C := True) (by kernel_rfl) trivial trivial ?_
    refine AX.seq ?_
    rcases bool_cases (decide (v4 < (p1.length : Int))) with b1 | b1
    · replace h := cd_t b1 h
      refine AX.condT (decide (v4 < (p1.length : Int))) (by kernel_rfl) b1 ?_
      refine AX.skip ?_
      refine AX.seq ?_
      refine AX.block ?_
      refine AX.seq ?_
      obtain ⟨g2, h⟩ := gd_e h
      refine AX.reg (its := [.auto { y := some (.be 2 (enc_si (gt p1 v4)) 0) }, .auto {}, .auto { nk := 0 }]) [3, 5, 7, 8, 9] [0] (s1 := ⟨[(3, .v (.int .i64 v3)), (5, .pt 0 0), (7, .bs false 2 (List.map enc_si p1)), (8, .v (.int .i64 (p1.length : Int))), (9, .v (.int .i64 v4))], [(0, .box [.v (.string ((gt p1 v4).1)), .v (.int .i64 ((gt p1 v4).2))])]⟩) (C := ((0 ≤ v4 ∧ v4 < ((List.map enc_si p1).length : Int)) ∧ (AV.be 2 ((List.map enc_si p1).getD v4.toNat []) 0 = AV.be 2 (enc_si (gt p1 v4)) 0)) ∧ True) (by kernel_rfl) ⟨idx_bs enc_si p1 v4 2 g2, trivial⟩ trivial ?_
      refine AX.reg (its := []) [3, 7, 8, 9] [] (s1 := ⟨[(3, .v (.int .i64 (Go.bits .or .i64 v3 ((gt p1 v4).2)))), (7, .bs false 2 (List.map enc_si p1)), (8, .v (.int .i64 (p1.length : Int))), (9, .v (.int .i64 v4))], []⟩) (C := True) (by kernel_rfl) trivial trivial ?_
      refine AX.reg (its := [.auto { raw := true }]) [3, 7, 8, 9] [] (s1 := ⟨[(3, .v (.int .i64 (Go.bits .or .i64 v3 ((gt p1 v4).2)))), (7, .bs false 2 (List.map enc_si p1)), (8, .v (.int .i64 (p1.length : Int))), (9, .v (.int .i64 (IntKind.wrap .i64 (v4 + 1))))], []⟩) (C := True) (by kernel_rfl) trivial trivial ?_
      refine ⟨(fu, (Go.bits .or .i64 v3 ((gt p1 v4).2), IntKind.wrap .i64 (v4 + 1))), h, Nat.lt_succ_self _, ?_⟩
      refine Wk.trans (Wk.forget [3, 7, 8, 9] [] (s' := ⟨[(3, .v (.int .i64 (Go.bits .or .i64 v3 ((gt p1 v4).2)))), (7, .bs false 2 (List.map enc_si p1)), (8, .v (.int .i64 (p1.length : Int))), (9, .v (.int .i64 (IntKind.wrap .i64 (v4 + 1))))], []⟩) (by kernel_rfl)) ?_
      exact Wk.refl _
    · replace h := cd_f b1 h
      refine AX.condF (decide (v4 < (p1.length : Int))) (by kernel_rfl) b1 ?_
      refine AX.exit ?_
      refine fin_wk (Wk.forget [3] [] (s' := ⟨[(3, .v (.int .i64 v3))], []⟩) (by kernel_rfl)) ?_
      have hr := Option.some.inj h
      subst hr
      exact ⟨_, Wk.refl _, ⟨rfl, rfl⟩⟩

theorem s_impl_Flag_mask (p1 : List (ByteArray × Int)) (p2 : Int) (r : Int) (h : m_impl_Flag_mask p1 p2 = some r) :
    Eng.Spec Try.prog 81 [.agg [.bs false 2 (List.map enc_si p1), .v (.int .i64 p2)]] [] (.v (.int .i64 r)) [] := by
  unfold m_impl_Flag_mask at h
  refine Eng.Spec.body Try.func81 (by kernel_rfl) rfl (by kernel_rfl) ?_
  refine AX.wkpost ?_
  refine AX.seq ?_
  refine AX.reg (its := [.auto { nk := 0 }]) [1] [0] (s1 := ⟨[(1, .pt 0 0)], [(0, .box [.bs false 2 (List.map enc_si p1), .v (.int .i64 p2)])]⟩) (C := True) (by kernel_rfl) trivial trivial ?_
  refine AX.seq ?_
  refine AX.reg (its := []) [1, 3] [0] (s1 := ⟨[(1, .pt 0 0), (3, .v (.int .i64 0))], [(0, .box [.bs false 2 (List.map enc_si p1), .v (.int .i64 p2)])]⟩) (C := True) (by kernel_rfl) trivial trivial ?_
  refine AX.seq ?_
  refine AX.seq ?_
  refine AX.reg (its := [.auto {}, .auto {}, .auto { y := some (.v (.int .i64 (p1.length : Int))) }]) [3, 7, 8, 9] [] (s1 := ⟨[(3, .v (.int .i64 0)), (7, .bs false 2 (List.map enc_si p1)), (8, .v (.int .i64 (p1.length : Int))), (9, .v (.int .i64 0))], []⟩) (C := (True ∧ (AV.v (.int .i64 ((List.map enc_si p1).length : Int)) = AV.v (.int .i64 (p1.length : Int)))) ∧ True) (by kernel_rfl) ⟨⟨trivial, len_map enc_si p1⟩, trivial⟩ trivial ?_
  refine AX.block ?_
  obtain ⟨x5, e3, h⟩ := bd_e h
  refine AX.wk (Wk.forget [3, 7, 8, 9] [] (s' := ⟨[(3, .v (.int .i64 0)), (7, .bs false 2 (List.map enc_si p1)), (8, .v (.int .i64 (p1.length : Int))), (9, .v (.int .i64 0))], []⟩) (by kernel_rfl)) ?_
  refine AX.mono (s_impl_Flag_mask_L1 p1 FU (0, 0) x5 e3) ?_
  rintro _ _ ⟨rfl, rfl⟩
  skip
  refine AX.seq ?_
  refine AX.reg (its := []) [2] [] (s1 := ⟨[(2, .v (.int .i64 x5))], []⟩) (C := True) (by kernel_rfl) trivial trivial ?_
  refine AX.ret ?_
  refine fin_wk (Wk.forget [2] [] (s' := ⟨[(2, .v (.int .i64 x5))], []⟩) (by kernel_rfl)) ?_
  have hr := Option.some.inj h
  subst hr
  exact ⟨_, Wk.refl _, .inr rfl, ⟨[], by kernel_rfl, trivial, [.v (.int .i64 x5)], by kernel_rfl, by kernel_rfl⟩⟩

theorem s_impl_IsValue (p1 : List (ByteArray × Int)) (p2 : Int) (p3 : Int) (r : Bool) (h : m_impl_IsValue p1 p2 p3 = some r) :
    Eng.Spec Try.prog 70 [.agg [.bs false 2 (List.map enc_si p1), .v (.int .i64 p2)], .v (.int .i64 p3)] [] (.v (.bool r)) [] := by
  unfold m_impl_IsValue at h
  refine Eng.Spec.body Try.func70 (by kernel_rfl) rfl (by kernel_rfl) ?_
  refine AX.wkpost ?_
  refine AX.seq ?_
  refine AX.reg (its := [.auto { nk := 0 }]) [1, 2] [0] (s1 := ⟨[(1, .v (.int .i64 p3)), (2, .pt 0 0)], [(0, .box [.bs false 2 (List.map enc_si p1), .v (.int .i64 p2)])]⟩) (C := True) (by kernel_rfl) trivial trivial ?_
  refine AX.seq ?_
  obtain ⟨x4, e1, h⟩ := bd_e h
  rcases bool_cases (x4) with b2 | b2
  · replace h := cd_t b2 h
    obtain ⟨x5, e3, h⟩ := bd_e h
    rcases bool_cases (x5) with b4 | b4
    · replace h := cd_t b4 h
      rcases bool_cases (decide (p2 = 3)) with b5 | b5
      · replace h := cd_t b5 h
        refine AX.reg (its := [.auto {}, .call 60 [.agg [.bs false 2 (List.map enc_si p1), .v (.int .i64 p2)]] (handO (rho ([] ++ [])) [] [] ++ []) (callEv [] [] (.v (.bool true)) []), .auto {}, .auto {}, .call 130 [.v (.int .i64 p3), .v (.int .i64 0), .v (.int .i64 4095)] (handO (rho ([] ++ [])) [] [] ++ []) (callEv [] [] (.v (.bool true)) []), .auto {}, .auto {}, .auto {}, .auto {}, .auto { y := some (.v (.bool true)) }]) [4] [] (s1 := ⟨[(4, .v (.bool true))], []⟩) (C := ((([.agg [.bs false 2 (List.map enc_si p1), .v (.int .i64 p2)]] : List AV) = [.agg [.bs false 2 (List.map enc_si p1), .v (.int .i64 p2)]]) ∧ True) ∧ ((([.v (.int .i64 p3), .v (.int .i64 0), .v (.int .i64 4095)] : List AV) = [.v (.int .i64 p3), .v (.int .i64 0), .v (.int .i64 4095)]) ∧ True) ∧ ((True) ∧ ((.v (.bool (decide (p2 = 3))) : AV) = (.v (.bool true) : AV))) ∧ True) (by kernel_rfl) ⟨⟨rfl, trivial⟩, ⟨⟨rfl, trivial⟩, ⟨⟨trivial, (congrArg (fun z => AV.v (.bool z)) b5)⟩, trivial⟩⟩⟩ ⟨call_ok (ks := []) (ns := []) (bor := []) (bobjs := []) (show Eng.Spec Try.prog 60 [.agg [.bs false 2 (List.map enc_si p1), .v (.int .i64 p2)]] [] (.v (.bool true)) [] from by have q := s_impl_ValidFlag p1 p2 x4 e1; rw [b2] at q; exact q) (.cons (.c1 (.agg (.cons (.same _ (by kernel_rfl) (by kernel_rfl)) (.cons (.same _ (by kernel_rfl) (by kernel_rfl)) (.nil))))) (.nil)) (by kernel_rfl) trivial, ⟨call_ok (ks := []) (ns := []) (bor := []) (bobjs := []) (show Eng.Spec Try.prog 130 [.v (.int .i64 p3), .v (.int .i64 0), .v (.int .i64 4095)] [] (.v (.bool true)) [] from by have q := s_impl_in p3 0 4095 x5 e3; rw [b4] at q; exact q) (.cons (.c1 (.c0 (.same _ (by kernel_rfl) (by kernel_rfl)))) (.cons (.c1 (.c0 (.same _ (by kernel_rfl) (by kernel_rfl)))) (.cons (.c1 (.c0 (.same _ (by kernel_rfl) (by kernel_rfl)))) (.nil)))) (by kernel_rfl) trivial, trivial⟩⟩ ?_
        refine AX.ret ?_
        refine fin_wk (Wk.forget [4] [] (s' := ⟨[(4, .v (.bool true))], []⟩) (by kernel_rfl)) ?_
        have hr := Option.some.inj h
        subst hr
        exact ⟨_, Wk.refl _, .inr rfl, ⟨[], by kernel_rfl, trivial, [.v (.bool true)], by kernel_rfl, by kernel_rfl⟩⟩
      · replace h := cd_f b5 h
        obtain ⟨x6, e6, h⟩ := bd_e h
        refine AX.reg (its := [.auto {}, .call 60 [.agg [.bs false 2 (List.map enc_si p1), .v (.int .i64 p2)]] (handO (rho ([] ++ [])) [] [] ++ []) (callEv [] [] (.v (.bool true)) []), .auto {}, .auto {}, .call 130 [.v (.int .i64 p3), .v (.int .i64 0), .v (.int .i64 4095)] (handO (rho ([] ++ [])) [] [] ++ []) (callEv [] [] (.v (.bool true)) []), .auto {}, .auto {}, .auto {}, .auto {}, .auto { y := some (.v (.bool false)) }, .auto {}, .auto {}, .auto {}, .call 81 [.agg [.bs false 2 (List.map enc_si p1), .v (.int .i64 p2)]] (handO (rho ([] ++ [])) [] [] ++ []) (callEv [] [] (.v (.int .i64 x6)) [])]) [4] [] (s1 := ⟨[(4, .v (.bool (decide ((Go.bits .andNot .i64 p3 x6) = 0))))], []⟩) (C := ((([.agg [.bs false 2 (List.map enc_si p1), .v (.int .i64 p2)]] : List AV) = [.agg [.bs false 2 (List.map enc_si p1), .v (.int .i64 p2)]]) ∧ True) ∧ ((([.v (.int .i64 p3), .v (.int .i64 0), .v (.int .i64 4095)] : List AV) = [.v (.int .i64 p3), .v (.int .i64 0), .v (.int .i64 4095)]) ∧ True) ∧ ((True) ∧ ((.v (.bool (decide (p2 = 3))) : AV) = (.v (.bool false) : AV))) ∧ ((([.agg [.bs false 2 (List.map enc_si p1), .v (.int .i64 p2)]] : List AV) = [.agg [.bs false 2 (List.map enc_si p1), .v (.int .i64 p2)]]) ∧ True) ∧ True) (by kernel_rfl) ⟨⟨rfl, trivial⟩, ⟨⟨rfl, trivial⟩, ⟨⟨trivial, (congrArg (fun z => AV.v (.bool z)) b5)⟩, ⟨⟨rfl, trivial⟩, trivial⟩⟩⟩⟩ ⟨call_ok (ks := []) (ns := []) (bor := []) (bobjs := []) (show Eng.Spec Try.prog 60 [.agg [.bs false 2 (List.map enc_si p1), .v (.int .i64 p2)]] [] (.v (.bool true)) [] from by have q := s_impl_ValidFlag p1 p2 x4 e1; rw [b2] at q; exact q) (.cons (.c1 (.agg (.cons (.same _ (by kernel_rfl) (by kernel_rfl)) (.cons (.same _ (by kernel_rfl) (by kernel_rfl)) (.nil))))) (.nil)) (by kernel_rfl) trivial, ⟨call_ok (ks := []) (ns := []) (bor := []) (bobjs := []) (show Eng.Spec Try.prog 130 [.v (.int .i64 p3), .v (.int .i64 0), .v (.int .i64 4095)] [] (.v (.bool true)) [] from by have q := s_impl_in p3 0 4095 x5 e3; rw [b4] at q; exact q) (.cons (.c1 (.c0 (.same _ (by kernel_rfl) (by kernel_rfl)))) (.cons (.c1 (.c0 (.same _ (by kernel_rfl) (by kernel_rfl)))) (.cons (.c1 (.c0 (.same _ (by kernel_rfl) (by kernel_rfl)))) (.nil)))) (by kernel_rfl) trivial, ⟨call_ok (ks := []) (ns := []) (bor := []) (bobjs := []) (s_impl_Flag_mask p1 p2 x6 e6) (.cons (.c1 (.agg (.cons (.same _ (by kernel_rfl) (by kernel_rfl)) (.cons (.same _ (by kernel_rfl) (by kernel_rfl)) (.nil))))) (.nil)) (by kernel_rfl) trivial, trivial⟩⟩⟩ ?_
        refine AX.ret ?_
        refine fin_wk (Wk.forget [4] [] (s' := ⟨[(4, .v (.bool (decide ((Go.bits .andNot .i64 p3 x6) = 0))))], []⟩) (by kernel_rfl)) ?_
        have hr := Option.some.inj h
        subst hr
        exact ⟨_, Wk.refl _, .inr rfl, ⟨[], by kernel_rfl, trivial, [.v (.bool (decide ((Go.bits .andNot .i64 p3 x6) = 0)))], by kernel_rfl, by kernel_rfl⟩⟩
    · replace h := cd_f b4 h
      refine AX.reg (its := [.auto {}, .call 60 [.agg [.bs false 2 (List.map enc_si p1), .v (.int .i64 p2)]] (handO (rho ([] ++ [])) [] [] ++ []) (callEv [] [] (.v (.bool true)) []), .auto {}, .auto {}, .call 130 [.v (.int .i64 p3), .v (.int .i64 0), .v (.int .i64 4095)] (handO (rho ([] ++ [])) [] [] ++ []) (callEv [] [] (.v (.bool false)) [])]) [4] [] (s1 := ⟨[(4, .v (.bool false))], []⟩) (C := ((([.agg [.bs false 2 (List.map enc_si p1), .v (.int .i64 p2)]] : List AV) = [.agg [.bs false 2 (List.map enc_si p1), .v (.int .i64 p2)]]) ∧ True) ∧ ((([.v (.int .i64 p3), .v (.int .i64 0), .v (.int .i64 4095)] : List AV) = [.v (.int .i64 p3), .v (.int .i64 0), .v (.int .i64 4095)]) ∧ True) ∧ True) (by kernel_rfl) ⟨⟨rfl, trivial⟩, ⟨⟨rfl, trivial⟩, trivial⟩⟩ ⟨call_ok (ks := []) (ns := []) (bor := []) (bobjs := []) (show Eng.Spec Try.prog 60 [.agg [.bs false 2 (List.map enc_si p1), .v (.int .i64 p2)]] [] (.v (.bool true)) [] from by have q := s_impl_ValidFlag p1 p2 x4 e1; rw [b2] at q; exact q) (.cons (.c1 (.agg (.cons (.same _ (by kernel_rfl) (by kernel_rfl)) (.cons (.same _ (by kernel_rfl) (by kernel_rfl)) (.nil))))) (.nil)) (by kernel_rfl) trivial, ⟨call_ok (ks := []) (ns := []) (bor := []) (bobjs := []) (show Eng.Spec Try.prog 130 [.v (.int .i64 p3), .v (.int .i64 0), .v (.int .i64 4095)] [] (.v (.bool false)) [] from by have q := s_impl_in p3 0 4095 x5 e3; rw [b4] at q; exact q) (.cons (.c1 (.c0 (.same _ (by kernel_rfl) (by kernel_rfl)))) (.cons (.c1 (.c0 (.same _ (by kernel_rfl) (by kernel_rfl)))) (.cons (.c1 (.c0 (.same _ (by kernel_rfl) (by kernel_rfl)))) (.nil)))) (by kernel_rfl) trivial, trivial⟩⟩ ?_
      refine AX.ret ?_
      refine fin_wk (Wk.forget [4] [] (s' := ⟨[(4, .v (.bool false))], []⟩) (by kernel_rfl)) ?_
      have hr := Option.some.inj h
      subst hr
      exact ⟨_, Wk.refl _, .inr rfl, ⟨[], by kernel_rfl, trivial, [.v (.bool false)], by kernel_rfl, by kernel_rfl⟩⟩
  · replace h := cd_f b2 h
    refine AX.reg (its := [.auto {}, .call 60 [.agg [.bs false 2 (List.map enc_si p1), .v (.int .i64 p2)]] (handO (rho ([] ++ [])) [] [] ++ []) (callEv [] [] (.v (.bool false)) [])]) [4] [] (s1 := ⟨[(4, .v (.bool false))], []⟩) (C := ((([.agg [.bs false 2 (List.map enc_si p1), .v (.int .i64 p2)]] : List AV) = [.agg [.bs false 2 (List.map enc_si p1), .v (.int .i64 p2)]]) ∧ True) ∧ True) (by kernel_rfl) ⟨⟨rfl, trivial⟩, trivial⟩ ⟨call_ok (ks := []) (ns := []) (bor := []) (bobjs := []) (show Eng.Spec Try.prog 60 [.agg [.bs false 2 (List.map enc_si p1), .v (.int .i64 p2)]] [] (.v (.bool false)) [] from by have q := s_impl_ValidFlag p1 p2 x4 e1; rw [b2] at q; exact q) (.cons (.c1 (.agg (.cons (.same _ (by kernel_rfl) (by kernel_rfl)) (.cons (.same _ (by kernel_rfl) (by kernel_rfl)) (.nil))))) (.nil)) (by kernel_rfl) trivial, trivial⟩ ?_
    refine AX.ret ?_
    refine fin_wk (Wk.forget [4] [] (s' := ⟨[(4, .v (.bool false))], []⟩) (by kernel_rfl)) ?_
    have hr := Option.some.inj h
    subst hr
    exact ⟨_, Wk.refl _, .inr rfl, ⟨[], by kernel_rfl, trivial, [.v (.bool false)], by kernel_rfl, by kernel_rfl⟩⟩

theorem s_impl_CountBits (p1 : List (ByteArray × Int)) (p2 : Int) (p3 : Int) (r : Int) (h : m_impl_CountBits p1 p2 p3 = some r) :
    Eng.Spec Try.prog 62 [.agg [.bs false 2 (List.map enc_si p1), .v (.int .i64 p2)], .v (.int .i64 p3)] [] (.v (.int .i64 r)) [] := by
  unfold m_impl_CountBits at h
  refine Eng.Spec.body Try.func62 (by kernel_rfl) rfl (by kernel_rfl) ?_
  refine AX.wkpost ?_
  refine AX.seq ?_
  refine AX.reg (its := [.auto { nk := 0 }]) [1, 2] [0] (s1 := ⟨[(1, .v (.int .i64 p3)), (2, .pt 0 0)], [(0, .box [.bs false 2 (List.map enc_si p1), .v (.int .i64 p2)])]⟩) (C := True) (by kernel_rfl) trivial trivial ?_
  refine AX.seq ?_
  refine AX.seq ?_
  obtain ⟨x4, e1, h⟩ := bd_e h
  refine AX.reg (its := [.auto {}, .auto {}, .call 70 [.agg [.bs false 2 (List.map enc_si p1), .v (.int .i64 p2)], .v (.int .i64 p3)] (handO (rho ([] ++ [])) [] [] ++ []) (callEv [] [] (.v (.bool x4)) [])]) [1, 8] [] (s1 := ⟨[(1, .v (.int .i64 p3)), (8, .v (.bool (!x4)))], []⟩) (C := ((([.agg [.bs false 2 (List.map enc_si p1), .v (.int .i64 p2)], .v (.int .i64 p3)] : List AV) = [.agg [.bs false 2 (List.map enc_si p1), .v (.int .i64 p2)], .v (.int .i64 p3)]) ∧ True) ∧ True) (by kernel_rfl) ⟨⟨rfl, trivial⟩, trivial⟩ ⟨call_ok (ks := []) (ns := []) (bor := []) (bobjs := []) (s_impl_IsValue p1 p2 p3 x4 e1) (.cons (.c1 (.agg (.cons (.same _ (by kernel_rfl) (by kernel_rfl)) (.cons (.same _ (by kernel_rfl) (by kernel_rfl)) (.nil))))) (.cons (.c1 (.c0 (.same _ (by kernel_rfl) (by kernel_rfl)))) (.nil))) (by kernel_rfl) trivial, trivial⟩ ?_
  rcases bool_cases ((!x4)) with b2 | b2
  · replace h := cd_t b2 h
    refine AX.condT ((!x4)) (by kernel_rfl) b2 ?_
    refine AX.seq ?_
    refine AX.reg (its := []) [4] [] (s1 := ⟨[(4, .v (.int .i64 (-1)))], []⟩) (C := True) (by kernel_rfl) trivial trivial ?_
    refine AX.ret ?_
    refine fin_wk (Wk.forget [4] [] (s' := ⟨[(4, .v (.int .i64 (-1)))], []⟩) (by kernel_rfl)) ?_
    have hr := Option.some.inj h
    subst hr
    exact ⟨_, Wk.refl _, .inr rfl, ⟨[], by kernel_rfl, trivial, [.v (.int .i64 (-1))], by kernel_rfl, by kernel_rfl⟩⟩
  · replace h := cd_f b2 h
    refine AX.condF ((!x4)) (by kernel_rfl) b2 ?_
    refine AX.skip ?_
    refine AX.seq ?_
    obtain ⟨x5, e3, h⟩ := bd_e h
    refine AX.reg (its := [.auto {}, .auto { raw := true }, .call 80 [.v (.int .u64 (IntKind.wrap .u64 (p3)))] (handO (rho ([] ++ [])) [] [] ++ []) (callEv [] [] (.v (.int .i64 x5)) [])]) [4] [] (s1 := ⟨[(4, .v (.int .i64 x5))], []⟩) (C := ((([.v (.int .u64 (IntKind.wrap .u64 (p3)))] : List AV) = [.v (.int .u64 (IntKind.wrap .u64 (p3)))]) ∧ True) ∧ True) (by kernel_rfl) ⟨⟨rfl, trivial⟩, trivial⟩ ⟨call_ok (ks := []) (ns := []) (bor := []) (bobjs := []) (s_math_bits_OnesCount (IntKind.wrap .u64 (p3)) x5 e3) (.cons (.c1 (.c0 (.same _ (by kernel_rfl) (by kernel_rfl)))) (.nil)) (by kernel_rfl) trivial, trivial⟩ ?_
    refine AX.ret ?_
    refine fin_wk (Wk.forget [4] [] (s' := ⟨[(4, .v (.int .i64 x5))], []⟩) (by kernel_rfl)) ?_
    have hr := Option.some.inj h
    subst hr
    exact ⟨_, Wk.refl _, .inr rfl, ⟨[], by kernel_rfl, trivial, [.v (.int .i64 x5)], by kernel_rfl, by kernel_rfl⟩⟩

theorem s_laws_hasText_L1 (p1 : List (ByteArray)) (p2 : ByteArray) (n : Nat) (g : Int) (out : Unit ⊕ Unit) (h : m_laws_hasText_L1 p1 p2 n g = some out) :
    AX Try.prog 18 0 (codeAt [1, 0, 1, 1] (bodyOf Try.f47)) ((fun g : Int => (⟨[(0, .bs false 1 (List.map enc_s p1)), (1, .v (.string p2)), (5, .v (.int .i64 g))], []⟩ : S)) g) (fun ex s => (∃ o : Unit, out = Sum.inl o ∧ ex = .ret ∧ s = ⟨[(4, .v (.bool true))], []⟩) ∨ (∃ o : Unit, out = Sum.inr o ∧ ex = .exit 0 ∧ s = ⟨[], []⟩)) := by
  refine AX.wkpost ?_
  refine AX.loop (G := Nat × (Int)) (fun q => (fun g : Int => (⟨[(0, .bs false 1 (List.map enc_s p1)), (1, .v (.string p2)), (5, .v (.int .i64 g))], []⟩ : S)) q.2) (fun q => m_laws_hasText_L1 p1 p2 q.1 q.2 = some out) (fun q => q.1) (n, g) h (Wk.refl _) ?_
  clear h
  rintro ⟨fu, v3⟩ h
  cases fu with
  | zero => cases h
  | succ fu =>
    rw [m_laws_hasText_L1] at h
    refine AX.seq ?_
    refine AX.seq ?_
    refine AX.reg (its := [.auto {}, .auto {}, .auto { y := some (.v (.int .i64 (p1.length : Int))) }]) [0, 1, 5, 9] [] (s1 := ⟨[(0, .bs false 1 (List.map enc_s p1)), (1, .v (.string p2)), (5, .v (.int .i64 v3)), (9, .v (.bool (decide (v3 < (p1.length : Int)))))], []⟩) (C := (True ∧ (AV.v (.int .i64 ((List.map enc_s p1).length : Int)) = AV.v (.int .i64 (p1.length : Int)))) ∧ True) (by kernel_rfl) ⟨⟨trivial, len_map enc_s p1⟩, trivial⟩ trivial ?_
    rcases bool_cases (decide (v3 < (p1.length : Int))) with b1 | b1
    · replace h := cd_t b1 h
      refine AX.condT (decide (v3 < (p1.length : Int))) (by kernel_rfl) b1 ?_
      refine AX.skip ?_
      refine AX.seq ?_
      refine AX.block ?_
      refine AX.seq ?_
      obtain ⟨g2, h⟩ := gd_e h
      refine AX.reg (its := [.auto {}, .auto {}, .auto { y := some (.be 1 (enc_s (gt p1 v3)) 0) }]) [0, 1, 5, 17] [] (s1 := ⟨[(0, .bs false 1 (List.map enc_s p1)), (1, .v (.string p2)), (5, .v (.int .i64 v3)), (17, .v (.bool (decide ((gt p1 v3) = p2))))], []⟩) (C := ((0 ≤ v3 ∧ v3 < ((List.map enc_s p1).length : Int)) ∧ (AV.be 1 ((List.map enc_s p1).getD v3.toNat []) 0 = AV.be 1 (enc_s (gt p1 v3)) 0)) ∧ True) (by kernel_rfl) ⟨idx_bs enc_s p1 v3 1 g2, trivial⟩ trivial ?_
      rcases bool_cases (decide ((gt p1 v3) = p2)) with b3 | b3
      · replace h := cd_t b3 h
        refine AX.condT (decide ((gt p1 v3) = p2)) (by kernel_rfl) b3 ?_
        refine AX.seq ?_
        refine AX.reg (its := []) [4] [] (s1 := ⟨[(4, .v (.bool true))], []⟩) (C := True) (by kernel_rfl) trivial trivial ?_
        refine AX.ret ?_
        refine fin_wk (Wk.forget [4] [] (s' := ⟨[(4, .v (.bool true))], []⟩) (by kernel_rfl)) ?_
        have hr := Option.some.inj h
        subst hr
        exact ⟨_, Wk.refl _, .inl ⟨(), rfl, rfl, rfl⟩⟩
      · replace h := cd_f b3 h
        refine AX.condF (decide ((gt p1 v3) = p2)) (by kernel_rfl) b3 ?_
        refine AX.skip ?_
        refine AX.reg (its := [.auto {}, .auto { raw := true }]) [0, 1, 5] [] (s1 := ⟨[(0, .bs false 1 (List.map enc_s p1)), (1, .v (.string p2)), (5, .v (.int .i64 (IntKind.wrap .i64 (v3 + 1))))], []⟩) (C := True) (by kernel_rfl) trivial trivial ?_
        refine ⟨(fu, IntKind.wrap .i64 (v3 + 1)), h, Nat.lt_succ_self _, ?_⟩
        refine Wk.trans (Wk.forget [0, 1, 5] [] (s' := ⟨[(0, .bs false 1 (List.map enc_s p1)), (1, .v (.string p2)), (5, .v (.int .i64 (IntKind.wrap .i64 (v3 + 1))))], []⟩) (by kernel_rfl)) ?_
        exact Wk.refl _
    · replace h := cd_f b1 h
      refine AX.condF (decide (v3 < (p1.length : Int))) (by kernel_rfl) b1 ?_
      refine AX.exit ?_
      refine fin_wk (Wk.forget [] [] (s' := ⟨[], []⟩) (by kernel_rfl)) ?_
      have hr := Option.some.inj h
      subst hr
      exact ⟨_, Wk.refl _, .inr ⟨(), rfl, rfl, rfl⟩⟩

theorem s_laws_hasText (p1 : List (ByteArray)) (p2 : ByteArray) (r : Bool) (h : m_laws_hasText p1 p2 = some r) :
    Eng.Spec Try.prog 47 [.bs false 1 (List.map enc_s p1), .v (.string p2)] [] (.v (.bool r)) [] := by
  unfold m_laws_hasText at h
  refine Eng.Spec.body Try.func47 (by kernel_rfl) rfl (by kernel_rfl) ?_
  refine AX.wkpost ?_
  refine AX.seq ?_
  refine AX.reg (its := []) [0, 1] [] (s1 := ⟨[(0, .bs false 1 (List.map enc_s p1)), (1, .v (.string p2))], []⟩) (C := True) (by kernel_rfl) trivial trivial ?_
  refine AX.seq ?_
  refine AX.seq ?_
  refine AX.reg (its := []) [0, 1, 5] [] (s1 := ⟨[(0, .bs false 1 (List.map enc_s p1)), (1, .v (.string p2)), (5, .v (.int .i64 0))], []⟩) (C := True) (by kernel_rfl) trivial trivial ?_
  refine AX.block ?_
  obtain ⟨x4, e4, h⟩ := bd_e h
  refine AX.wk (Wk.forget [0, 1, 5] [] (s' := ⟨[(0, .bs false 1 (List.map enc_s p1)), (1, .v (.string p2)), (5, .v (.int .i64 0))], []⟩) (by kernel_rfl)) ?_
  refine AX.mono (s_laws_hasText_L1 p1 p2 FU 0 x4 e4) ?_
  rintro _ _ (⟨x5, rfl, rfl, rfl⟩ | ⟨x6, rfl, rfl, rfl⟩)
  · replace h := sm_l h
    refine fin_wk (Wk.forget [4] [] (s' := ⟨[(4, .v (.bool true))], []⟩) (by kernel_rfl)) ?_
    have hr := Option.some.inj h
    subst hr
    exact ⟨_, Wk.refl _, .inr rfl, ⟨[], by kernel_rfl, trivial, [.v (.bool true)], by kernel_rfl, by kernel_rfl⟩⟩
  · replace h := sm_r h
    refine AX.seq ?_
    refine AX.reg (its := []) [4] [] (s1 := ⟨[(4, .v (.bool false))], []⟩) (C := True) (by kernel_rfl) trivial trivial ?_
    refine AX.ret ?_
    refine fin_wk (Wk.forget [4] [] (s' := ⟨[(4, .v (.bool false))], []⟩) (by kernel_rfl)) ?_
    have hr := Option.some.inj h
    subst hr
    exact ⟨_, Wk.refl _, .inr rfl, ⟨[], by kernel_rfl, trivial, [.v (.bool false)], by kernel_rfl, by kernel_rfl⟩⟩

theorem s_laws_FnComposedOf_L1 (x2 : (List (ByteArray × Int)) × Int) (x3 : List (ByteArray)) (x11 : List (ByteArray)) (n : Nat) (g : Int) (out : Unit ⊕ Unit) (h : m_laws_FnComposedOf_L1 x2 x3 x11 n g = some out) :
    AX Try.prog 73 0 (codeAt [1, 1, 1, 1, 1, 1, 0, 1, 1] (bodyOf Try.f11)) ((fun g : Int => (⟨[(3, .pt 0 0), (4, .sl 2 0 x3.length), (5, .sl 3 0 x11.length), (6, .v (.int .i64 g))], [(0, .box [.sl 1 0 x2.1.length, .v (.int .i64 x2.2)]), (1, .arr 2 (List.map enc_si x2.1)), (2, .arr 1 (List.map enc_s x3)), (3, .arr 1 (List.map enc_s x11))]⟩ : S)) g) (fun ex s => (∃ o : Unit, out = Sum.inl o ∧ ex = .ret ∧ s = ⟨[(2, .v (.bool false))], []⟩) ∨ (∃ o : Unit, out = Sum.inr o ∧ ex = .exit 0 ∧ s = ⟨[(3, .pt 0 0), (4, .sl 2 0 x3.length), (5, .sl 3 0 x11.length)], [(0, .box [.sl 1 0 x2.1.length, .v (.int .i64 x2.2)]), (1, .arr 2 (List.map enc_si x2.1)), (2, .arr 1 (List.map enc_s x3)), (3, .arr 1 (List.map enc_s x11))]⟩)) := by
  refine AX.wkpost ?_
  refine AX.loop (G := Nat × (Int)) (fun q => (fun g : Int => (⟨[(3, .pt 0 0), (4, .sl 2 0 x3.length), (5, .sl 3 0 x11.length), (6, .v (.int .i64 g))], [(0, .box [.sl 1 0 x2.1.length, .v (.int .i64 x2.2)]), (1, .arr 2 (List.map enc_si x2.1)), (2, .arr 1 (List.map enc_s x3)), (3, .arr 1 (List.map enc_s x11))]⟩ : S)) q.2) (fun q => m_laws_FnComposedOf_L1 x2 x3 x11 q.1 q.2 = some out) (fun q => q.1) (n, g) h (Wk.refl _) ?_
  clear h
  rintro ⟨fu, v12⟩ h
  cases fu with
  | zero => cases h
  | succ fu =>
    rw [m_laws_FnComposedOf_L1] at h
    refine AX.seq ?_
    refine AX.seq ?_
    refine AX.reg (its := []) [3, 4, 5, 6, 35] [0, 1, 2, 3] (s1 := ⟨[(3, .pt 0 0), (4, .sl 2 0 x3.length), (5, .sl 3 0 x11.length), (6, .v (.int .i64 v12)), (35, .v (.bool (decide (v12 < (x3.length : Int)))))], [(0, .box [.sl 1 0 x2.1.length, .v (.int .i64 x2.2)]), (1, .arr 2 (List.map enc_si x2.1)), (2, .arr 1 (List.map enc_s x3)), (3, .arr 1 (List.map enc_s x11))]⟩) (C := True) (by kernel_rfl) trivial trivial ?_
    rcases bool_cases (decide (v12 < (x3.length : Int))) with b14 | b14
    · replace h := cd_t b14 h
      refine AX.condT (decide (v12 < (x3.length : Int))) (by kernel_rfl) b14 ?_
      refine AX.skip ?_
      refine AX.seq ?_
      refine AX.block ?_
      refine AX.seq ?_
      obtain ⟨g15, h⟩ := gd_e h
      obtain ⟨x13, e16, h⟩ := bd_e h
      refine AX.drw mixed (its := [.auto {}, .auto {}, .auto {}, .auto {}, .auto { raw := true }, .auto {}, .call 61 [.agg [.sl 1 0 x2.1.length, .v (.int .i64 x2.2)], .sl 2 (0 + v12.toNat) ((IntKind.wrap .i64 (v12 + 1)).toNat - v12.toNat)] (handO (rho ([] ++ [])) [] [] ++ [(1, .arr 2 (List.map enc_si x2.1)), (2, .arr 1 (List.map enc_s x3))]) (callEv [] [] (.tup [.v (.int .i64 x13.1), .v (.bool x13.2)]) [])]) [3, 4, 5, 6, 7, 8] [0, 1, 2, 3] (s1 := ⟨[(3, .pt 0 0), (4, .sl 2 0 x3.length), (5, .sl 3 0 x11.length), (6, .v (.int .i64 v12)), (7, .v (.int .i64 x13.1)), (8, .v (.bool x13.2))], [(0, .box [.sl 1 0 x2.1.length, .v (.int .i64 x2.2)]), (1, .arr 2 (List.map enc_si x2.1)), (2, .arr 1 (List.map enc_s x3)), (3, .arr 1 (List.map enc_s x11))]⟩) (C := (0 ≤ v12 ∧ v12 ≤ (IntKind.wrap .i64 (v12 + 1)) ∧ (IntKind.wrap .i64 (v12 + 1)) ≤ (x3.length : Int) ∧ (x3.length : Int) ≤ (x3.length : Int)) ∧ ((([.agg [.sl 1 0 x2.1.length, .v (.int .i64 x2.2)], .sl 2 (0 + v12.toNat) ((IntKind.wrap .i64 (v12 + 1)).toNat - v12.toNat)] : List AV) = [.agg [.sl 1 0 x2.1.length, .v (.int .i64 x2.2)], .sl 2 (0 + v12.toNat) ((IntKind.wrap .i64 (v12 + 1)).toNat - v12.toNat)]) ∧ (AO.arr 2 (List.map enc_si x2.1) = AO.arr 2 (List.map enc_si x2.1)) ∧ (AO.arr 1 (List.map enc_s x3) = AO.arr 1 (List.map enc_s x3)) ∧ True) ∧ True) (by kernel_rfl) ⟨g15, ⟨⟨rfl, rfl, rfl, trivial⟩, trivial⟩⟩ ⟨call_ok (ks := []) (ns := []) (bor := [1, 2]) (bobjs := [(1, .arr 2 (List.map enc_si x2.1)), (2, .arr 1 (List.map enc_s x3))]) (s_impl_FromNames x2.1 x2.2 (sub x3 v12 (IntKind.wrap .i64 (v12 + 1))) x13 e16) (.cons (.c1 (.agg (.cons (.arr rfl rfl ((rfl).trans (List.length_map ..).symm)) (.cons (.same _ (by kernel_rfl) (by kernel_rfl)) (.nil))))) (.cons (.c1 (.c0 (.part (List.map enc_s (sub x3 v12 (IntKind.wrap .i64 (v12 + 1)))) rfl rfl (part_can (enc := enc_s) rfl v12 (IntKind.wrap .i64 (v12 + 1)))))) (.nil))) (by kernel_rfl) trivial, trivial⟩ ?_
      refine AX.seq ?_
      rcases bool_cases ((!x13.2)) with b17 | b17
      · replace h := cd_t b17 h
        refine AX.reg (its := [.auto {}, .auto { y := some (.v (.bool true)) }]) [3, 4, 5, 6, 63] [0, 1, 2, 3] (s1 := ⟨[(3, .pt 0 0), (4, .sl 2 0 x3.length), (5, .sl 3 0 x11.length), (6, .v (.int .i64 v12)), (63, .v (.bool true))], [(0, .box [.sl 1 0 x2.1.length, .v (.int .i64 x2.2)]), (1, .arr 2 (List.map enc_si x2.1)), (2, .arr 1 (List.map enc_s x3)), (3, .arr 1 (List.map enc_s x11))]⟩) (C := ((True) ∧ ((.v (.bool (!x13.2)) : AV) = (.v (.bool true) : AV))) ∧ True) (by kernel_rfl) ⟨⟨trivial, (congrArg (fun z => AV.v (.bool z)) b17)⟩, trivial⟩ trivial ?_
        refine AX.cond_true (by kernel_rfl) ?_
        refine AX.seq ?_
        refine AX.reg (its := []) [2] [] (s1 := ⟨[(2, .v (.bool false))], []⟩) (C := True) (by kernel_rfl) trivial trivial ?_
        refine AX.ret ?_
        refine fin_wk (Wk.forget [2] [] (s' := ⟨[(2, .v (.bool false))], []⟩) (by kernel_rfl)) ?_
        have hr := Option.some.inj h
        subst hr
        exact ⟨_, Wk.refl _, .inl ⟨(), rfl, rfl, rfl⟩⟩
      · replace h := cd_f b17 h
        obtain ⟨x14, e18, h⟩ := bd_e h
        rcases bool_cases (decide (x14 < 2)) with b19 | b19
        · replace h := cd_t b19 h
          refine AX.reg (its := [.auto {}, .auto { y := some (.v (.bool false)) }, .auto {}, .auto {}, .auto {}, .call 62 [.agg [.sl 1 0 x2.1.length, .v (.int .i64 x2.2)], .v (.int .i64 x13.1)] (handO (rho ([] ++ [])) [] [] ++ [(1, .arr 2 (List.map enc_si x2.1))]) (callEv [] [] (.v (.int .i64 x14)) []), .auto { y := some (.v (.bool true)) }]) [3, 4, 5, 6, 63] [0, 1, 2, 3] (s1 := ⟨[(3, .pt 0 0), (4, .sl 2 0 x3.length), (5, .sl 3 0 x11.length), (6, .v (.int .i64 v12)), (63, .v (.bool true))], [(0, .box [.sl 1 0 x2.1.length, .v (.int .i64 x2.2)]), (1, .arr 2 (List.map enc_si x2.1)), (2, .arr 1 (List.map enc_s x3)), (3, .arr 1 (List.map enc_s x11))]⟩) (C := ((True) ∧ ((.v (.bool (!x13.2)) : AV) = (.v (.bool false) : AV))) ∧ ((([.agg [.sl 1 0 x2.1.length, .v (.int .i64 x2.2)], .v (.int .i64 x13.1)] : List AV) = [.agg [.sl 1 0 x2.1.length, .v (.int .i64 x2.2)], .v (.int .i64 x13.1)]) ∧ (AO.arr 2 (List.map enc_si x2.1) = AO.arr 2 (List.map enc_si x2.1)) ∧ True) ∧ ((True) ∧ ((.v (.bool (decide (x14 < 2))) : AV) = (.v (.bool true) : AV))) ∧ True) (by kernel_rfl) ⟨⟨trivial, (congrArg (fun z => AV.v (.bool z)) b17)⟩, ⟨⟨rfl, rfl, trivial⟩, ⟨⟨trivial, (congrArg (fun z => AV.v (.bool z)) b19)⟩, trivial⟩⟩⟩ ⟨call_ok (ks := []) (ns := []) (bor := [1]) (bobjs := [(1, .arr 2 (List.map enc_si x2.1))]) (s_impl_CountBits x2.1 x2.2 x13.1 x14 e18) (.cons (.c1 (.agg (.cons (.arr rfl rfl ((rfl).trans (List.length_map ..).symm)) (.cons (.same _ (by kernel_rfl) (by kernel_rfl)) (.nil))))) (.cons (.c1 (.c0 (.same _ (by kernel_rfl) (by kernel_rfl)))) (.nil))) (by kernel_rfl) trivial, trivial⟩ ?_
          refine AX.cond_true (by kernel_rfl) ?_
          refine AX.seq ?_
          refine AX.reg (its := []) [2] [] (s1 := ⟨[(2, .v (.bool false))], []⟩) (C := True) (by kernel_rfl) trivial trivial ?_
          refine AX.ret ?_
          refine fin_wk (Wk.forget [2] [] (s' := ⟨[(2, .v (.bool false))], []⟩) (by kernel_rfl)) ?_
          have hr := Option.some.inj h
          subst hr
          exact ⟨_, Wk.refl _, .inl ⟨(), rfl, rfl, rfl⟩⟩
        · replace h := cd_f b19 h
          obtain ⟨g20, h⟩ := gd_e h
          obtain ⟨x15, e21, h⟩ := bd_e h
          refine AX.reg (its := [.auto {}, .auto { y := some (.v (.bool false)) }, .auto {}, .auto {}, .auto {}, .call 62 [.agg [.sl 1 0 x2.1.length, .v (.int .i64 x2.2)], .v (.int .i64 x13.1)] (handO (rho ([] ++ [])) [] [] ++ [(1, .arr 2 (List.map enc_si x2.1))]) (callEv [] [] (.v (.int .i64 x14)) []), .auto { y := some (.v (.bool false)) }, .auto {}, .auto {}, .auto {}, .auto {}, .auto {}, .auto {}, .auto { y := some (.v (.string (gt x3 v12))) }, .call 47 [.sl 3 0 x11.length, .v (.string (gt x3 v12))] (handO (rho ([] ++ [])) [] [] ++ [(3, .arr 1 (List.map enc_s x11))]) (callEv [] [] (.v (.bool x15)) [])]) [3, 4, 5, 6, 63] [0, 1, 2, 3] (s1 := ⟨[(3, .pt 0 0), (4, .sl 2 0 x3.length), (5, .sl 3 0 x11.length), (6, .v (.int .i64 v12)), (63, .v (.bool x15))], [(0, .box [.sl 1 0 x2.1.length, .v (.int .i64 x2.2)]), (1, .arr 2 (List.map enc_si x2.1)), (2, .arr 1 (List.map enc_s x3)), (3, .arr 1 (List.map enc_s x11))]⟩) (C := ((True) ∧ ((.v (.bool (!x13.2)) : AV) = (.v (.bool false) : AV))) ∧ ((([.agg [.sl 1 0 x2.1.length, .v (.int .i64 x2.2)], .v (.int .i64 x13.1)] : List AV) = [.agg [.sl 1 0 x2.1.length, .v (.int .i64 x2.2)], .v (.int .i64 x13.1)]) ∧ (AO.arr 2 (List.map enc_si x2.1) = AO.arr 2 (List.map enc_si x2.1)) ∧ True) ∧ ((True) ∧ ((.v (.bool (decide (x14 < 2))) : AV) = (.v (.bool false) : AV))) ∧ (0 ≤ v12 ∧ v12 < (x3.length : Int)) ∧ (True ∧ (AV.v (((List.map enc_s x3).getD (0 + v12.toNat) []).getD 0 undef) = .v (.string (gt x3 v12)))) ∧ ((([.sl 3 0 x11.length, .v (.string (gt x3 v12))] : List AV) = [.sl 3 0 x11.length, .v (.string (gt x3 v12))]) ∧ (AO.arr 1 (List.map enc_s x11) = AO.arr 1 (List.map enc_s x11)) ∧ True) ∧ True) (by kernel_rfl) ⟨⟨trivial, (congrArg (fun z => AV.v (.bool z)) b17)⟩, ⟨⟨rfl, rfl, trivial⟩, ⟨⟨trivial, (congrArg (fun z => AV.v (.bool z)) b19)⟩, ⟨g20, ⟨⟨trivial, (congrArg (fun z : List Value => AV.v (z.getD 0 undef)) (idx_arr (enc := enc_s) rfl g20))⟩, ⟨⟨rfl, rfl, trivial⟩, trivial⟩⟩⟩⟩⟩⟩ ⟨call_ok (ks := []) (ns := []) (bor := [1]) (bobjs := [(1, .arr 2 (List.map enc_si x2.1))]) (s_impl_CountBits x2.1 x2.2 x13.1 x14 e18) (.cons (.c1 (.agg (.cons (.arr rfl rfl ((rfl).trans (List.length_map ..).symm)) (.cons (.same _ (by kernel_rfl) (by kernel_rfl)) (.nil))))) (.cons (.c1 (.c0 (.same _ (by kernel_rfl) (by kernel_rfl)))) (.nil))) (by kernel_rfl) trivial, ⟨call_ok (ks := []) (ns := []) (bor := [3]) (bobjs := [(3, .arr 1 (List.map enc_s x11))]) (s_laws_hasText x11 (gt x3 v12) x15 e21) (.cons (.c1 (.c0 (.arr rfl rfl ((rfl).trans (List.length_map ..).symm)))) (.cons (.c1 (.c0 (.same _ (by kernel_rfl) (by kernel_rfl)))) (.nil))) (by kernel_rfl) trivial, trivial⟩⟩ ?_
          rcases bool_cases (x15) with b22 | b22
          · replace h := cd_t b22 h
            refine AX.condT (x15) (by kernel_rfl) b22 ?_
            refine AX.seq ?_
            refine AX.reg (its := []) [2] [] (s1 := ⟨[(2, .v (.bool false))], []⟩) (C := True) (by kernel_rfl) trivial trivial ?_
            refine AX.ret ?_
            refine fin_wk (Wk.forget [2] [] (s' := ⟨[(2, .v (.bool false))], []⟩) (by kernel_rfl)) ?_
            have hr := Option.some.inj h
            subst hr
            exact ⟨_, Wk.refl _, .inl ⟨(), rfl, rfl, rfl⟩⟩
          · replace h := cd_f b22 h
            refine AX.condF (x15) (by kernel_rfl) b22 ?_
            refine AX.skip ?_
            refine AX.reg (its := [.auto {}, .auto { raw := true }]) [3, 4, 5, 6] [0, 1, 2, 3] (s1 := ⟨[(3, .pt 0 0), (4, .sl 2 0 x3.length), (5, .sl 3 0 x11.length), (6, .v (.int .i64 (IntKind.wrap .i64 (v12 + 1))))], [(0, .box [.sl 1 0 x2.1.length, .v (.int .i64 x2.2)]), (1, .arr 2 (List.map enc_si x2.1)), (2, .arr 1 (List.map enc_s x3)), (3, .arr 1 (List.map enc_s x11))]⟩) (C := True) (by kernel_rfl) trivial trivial ?_
            refine ⟨(fu, IntKind.wrap .i64 (v12 + 1)), h, Nat.lt_succ_self _, ?_⟩
            refine Wk.trans (Wk.forget [3, 4, 5, 6] [0, 1, 2, 3] (s' := ⟨[(3, .pt 0 0), (4, .sl 2 0 x3.length), (5, .sl 3 0 x11.length), (6, .v (.int .i64 (IntKind.wrap .i64 (v12 + 1))))], [(0, .box [.sl 1 0 x2.1.length, .v (.int .i64 x2.2)]), (1, .arr 2 (List.map enc_si x2.1)), (2, .arr 1 (List.map enc_s x3)), (3, .arr 1 (List.map enc_s x11))]⟩) (by kernel_rfl)) ?_
            exact Wk.refl _
    · replace h := cd_f b14 h
      refine AX.condF (decide (v12 < (x3.length : Int))) (by kernel_rfl) b14 ?_
      refine AX.exit ?_
      refine fin_wk (Wk.forget [3, 4, 5] [0, 1, 2, 3] (s' := ⟨[(3, .pt 0 0), (4, .sl 2 0 x3.length), (5, .sl 3 0 x11.length)], [(0, .box [.sl 1 0 x2.1.length, .v (.int .i64 x2.2)]), (1, .arr 2 (List.map enc_si x2.1)), (2, .arr 1 (List.map enc_s x3)), (3, .arr 1 (List.map enc_s x11))]⟩) (by kernel_rfl)) ?_
      have hr := Option.some.inj h
      subst hr
      exact ⟨_, Wk.refl _, .inr ⟨(), rfl, rfl, rfl⟩⟩

theorem s_laws_FnComposedOf (p1 : List (Int)) (r : Bool) (h : m_laws_FnComposedOf p1 = some r) :
    Eng.Spec Try.prog 11 [.bs true 1 (List.map enc_y p1)] [] (.v (.bool r)) [] := by
  unfold m_laws_FnComposedOf at h
  refine Eng.Spec.body Try.func11 (by kernel_rfl) rfl (by kernel_rfl) ?_
  refine AX.wkpost ?_
  refine AX.seq ?_
  refine AX.reg (its := []) [0] [] (s1 := ⟨[(0, .bs true 1 (List.map enc_y p1))], []⟩) (C := True) (by kernel_rfl) trivial trivial ?_
  refine AX.seq ?_
  refine AX.seq ?_
  refine AX.reg (its := [.auto {}, .auto { y := some (.v (.int .i64 (p1.length : Int))) }]) [0, 11] [] (s1 := ⟨[(0, .bs true 1 (List.map enc_y p1)), (11, .v (.bool (decide (1048576 < (p1.length : Int)))))], []⟩) (C := (True ∧ (AV.v (.int .i64 ((List.map enc_y p1).length : Int)) = AV.v (.int .i64 (p1.length : Int)))) ∧ True) (by kernel_rfl) ⟨⟨trivial, len_map enc_y p1⟩, trivial⟩ trivial ?_
  rcases bool_cases (decide (1048576 < (p1.length : Int))) with b1 | b1
  · replace h := cd_t b1 h
    refine AX.condT (decide (1048576 < (p1.length : Int))) (by kernel_rfl) b1 ?_
    refine AX.seq ?_
    refine AX.reg (its := []) [2] [] (s1 := ⟨[(2, .v (.bool true))], []⟩) (C := True) (by kernel_rfl) trivial trivial ?_
    refine AX.ret ?_
    refine fin_wk (Wk.forget [2] [] (s' := ⟨[(2, .v (.bool true))], []⟩) (by kernel_rfl)) ?_
    have hr := Option.some.inj h
    subst hr
    exact ⟨_, Wk.refl _, .inr rfl, ⟨[], by kernel_rfl, trivial, [.v (.bool true)], by kernel_rfl, by kernel_rfl⟩⟩
  · replace h := cd_f b1 h
    refine AX.condF (decide (1048576 < (p1.length : Int))) (by kernel_rfl) b1 ?_
    refine AX.skip ?_
    refine AX.seq ?_
    obtain ⟨x2, e2, h⟩ := bd_e h
    refine AX.reg (its := [.auto {}, .call 64 [.bs true 1 (List.map enc_y p1)] (handO (rho ([] ++ [0])) [] [] ++ []) (callEv [] [0] (.agg [.sl 0 0 x2.1.length, .v (.int .i64 x2.2)]) [.arr 2 (List.map enc_si x2.1)]), .auto { nk := 1 }]) [3] [0, 1] (s1 := ⟨[(3, .pt 1 0)], [(0, .arr 2 (List.map enc_si x2.1)), (1, .box [.sl 0 0 x2.1.length, .v (.int .i64 x2.2)])]⟩) (C := ((([.bs true 1 (List.map enc_y p1)] : List AV) = [.bs true 1 (List.map enc_y p1)]) ∧ True) ∧ True) (by kernel_rfl) ⟨⟨rfl, trivial⟩, trivial⟩ ⟨call_ok (ks := []) (ns := [0]) (bor := []) (bobjs := []) (s_spec_DrawComposedOf p1 x2 e2) (.cons (.c1 (.c0 (.same _ (by kernel_rfl) (by kernel_rfl)))) (.nil)) (by kernel_rfl) trivial, trivial⟩ ?_
    refine AX.seq ?_
    obtain ⟨x3, e3, h⟩ := bd_e h
    refine AX.reg (its := [.auto {}, .call 65 [.agg [.sl 0 0 x2.1.length, .v (.int .i64 x2.2)]] (handO (rho ([] ++ [2])) [] [] ++ [(0, .arr 2 (List.map enc_si x2.1))]) (callEv [] [2] (.sl 0 0 x3.length) [.arr 1 (List.map enc_s x3)])]) [3, 4] [0, 1, 2] (s1 := ⟨[(3, .pt 1 0), (4, .sl 2 0 x3.length)], [(0, .arr 2 (List.map enc_si x2.1)), (1, .box [.sl 0 0 x2.1.length, .v (.int .i64 x2.2)]), (2, .arr 1 (List.map enc_s x3))]⟩) (C := ((([.agg [.sl 0 0 x2.1.length, .v (.int .i64 x2.2)]] : List AV) = [.agg [.sl 0 0 x2.1.length, .v (.int .i64 x2.2)]]) ∧ (AO.arr 2 (List.map enc_si x2.1) = AO.arr 2 (List.map enc_si x2.1)) ∧ True) ∧ True) (by kernel_rfl) ⟨⟨rfl, rfl, trivial⟩, trivial⟩ ⟨call_ok (ks := []) (ns := [2]) (bor := [0]) (bobjs := [(0, .arr 2 (List.map enc_si x2.1))]) (s_impl_ComposedOf x2.1 x2.2 x3 e3) (.cons (.c1 (.agg (.cons (.arr rfl rfl ((rfl).trans (List.length_map ..).symm)) (.cons (.same _ (by kernel_rfl) (by kernel_rfl)) (.nil))))) (.nil)) (by kernel_rfl) trivial, trivial⟩ ?_
    refine AX.seq ?_
    refine AX.seq ?_
    obtain ⟨x4, e4, h⟩ := bd_e h
    obtain ⟨x5, e5, h⟩ := bd_e h
    rcases bool_cases ((!x5)) with b6 | b6
    · replace h := cd_t b6 h
      refine AX.reg (its := [.auto {}, .auto {}, .call 66 [.agg [.sl 0 0 x2.1.length, .v (.int .i64 x2.2)]] (handO (rho ([] ++ [3])) [] [] ++ [(0, .arr 2 (List.map enc_si x2.1))]) (callEv [] [3] (.sl 0 0 x4.length) [.arr 1 (List.map enc_s x4)]), .call 58 [.sl 2 0 x3.length, .sl 3 0 x4.length] (handO (rho ([] ++ [])) [] [] ++ [(2, .arr 1 (List.map enc_s x3)), (3, .arr 1 (List.map enc_s x4))]) (callEv [] [] (.v (.bool x5)) []), .auto { y := some (.v (.bool true)) }]) [3, 4, 25] [0, 1, 2] (s1 := ⟨[(3, .pt 1 0), (4, .sl 2 0 x3.length), (25, .v (.bool true))], [(0, .arr 2 (List.map enc_si x2.1)), (1, .box [.sl 0 0 x2.1.length, .v (.int .i64 x2.2)]), (2, .arr 1 (List.map enc_s x3))]⟩) (C := ((([.agg [.sl 0 0 x2.1.length, .v (.int .i64 x2.2)]] : List AV) = [.agg [.sl 0 0 x2.1.length, .v (.int .i64 x2.2)]]) ∧ (AO.arr 2 (List.map enc_si x2.1) = AO.arr 2 (List.map enc_si x2.1)) ∧ True) ∧ ((([.sl 2 0 x3.length, .sl 3 0 x4.length] : List AV) = [.sl 2 0 x3.length, .sl 3 0 x4.length]) ∧ (AO.arr 1 (List.map enc_s x3) = AO.arr 1 (List.map enc_s x3)) ∧ (AO.arr 1 (List.map enc_s x4) = AO.arr 1 (List.map enc_s x4)) ∧ True) ∧ ((True) ∧ ((.v (.bool (!x5)) : AV) = (.v (.bool true) : AV))) ∧ True) (by kernel_rfl) ⟨⟨rfl, rfl, trivial⟩, ⟨⟨rfl, rfl, rfl, trivial⟩, ⟨⟨trivial, (congrArg (fun z => AV.v (.bool z)) b6)⟩, trivial⟩⟩⟩ ⟨call_ok (ks := []) (ns := [3]) (bor := [0]) (bobjs := [(0, .arr 2 (List.map enc_si x2.1))]) (s_spec_ComposedOf x2.1 x2.2 x4 e4) (.cons (.c1 (.agg (.cons (.arr rfl rfl ((rfl).trans (List.length_map ..).symm)) (.cons (.same _ (by kernel_rfl) (by kernel_rfl)) (.nil))))) (.nil)) (by kernel_rfl) trivial, ⟨call_ok (ks := []) (ns := []) (bor := [2, 3]) (bobjs := [(2, .arr 1 (List.map enc_s x3)), (3, .arr 1 (List.map enc_s x4))]) (s_laws_equalTexts x3 x4 x5 e5) (.cons (.c1 (.c0 (.arr rfl rfl ((rfl).trans (List.length_map ..).symm)))) (.cons (.c1 (.c0 (.arr rfl rfl ((rfl).trans (List.length_map ..).symm)))) (.nil))) (by kernel_rfl) trivial, trivial⟩⟩ ?_
      refine AX.cond_true (by kernel_rfl) ?_
      refine AX.seq ?_
      obtain ⟨x6, e7, h⟩ := bd_e h
      obtain ⟨x7, e8, h⟩ := bd_e h
      refine AX.reg (its := [.auto {}, .auto {}, .call 66 [.agg [.sl 0 0 x2.1.length, .v (.int .i64 x2.2)]] (handO (rho ([] ++ [3])) [] [] ++ [(0, .arr 2 (List.map enc_si x2.1))]) (callEv [] [3] (.sl 0 0 x6.length) [.arr 1 (List.map enc_s x6)]), .call 58 [.sl 2 0 x3.length, .sl 3 0 x6.length] (handO (rho ([] ++ [])) [] [] ++ [(2, .arr 1 (List.map enc_s x3)), (3, .arr 1 (List.map enc_s x6))]) (callEv [] [] (.v (.bool x7)) [])]) [2] [] (s1 := ⟨[(2, .v (.bool x7))], []⟩) (C := ((([.agg [.sl 0 0 x2.1.length, .v (.int .i64 x2.2)]] : List AV) = [.agg [.sl 0 0 x2.1.length, .v (.int .i64 x2.2)]]) ∧ (AO.arr 2 (List.map enc_si x2.1) = AO.arr 2 (List.map enc_si x2.1)) ∧ True) ∧ ((([.sl 2 0 x3.length, .sl 3 0 x6.length] : List AV) = [.sl 2 0 x3.length, .sl 3 0 x6.length]) ∧ (AO.arr 1 (List.map enc_s x3) = AO.arr 1 (List.map enc_s x3)) ∧ (AO.arr 1 (List.map enc_s x6) = AO.arr 1 (List.map enc_s x6)) ∧ True) ∧ True) (by kernel_rfl) ⟨⟨rfl, rfl, trivial⟩, ⟨⟨rfl, rfl, rfl, trivial⟩, trivial⟩⟩ ⟨call_ok (ks := []) (ns := [3]) (bor := [0]) (bobjs := [(0, .arr 2 (List.map enc_si x2.1))]) (s_spec_ComposedOf x2.1 x2.2 x6 e7) (.cons (.c1 (.agg (.cons (.arr rfl rfl ((rfl).trans (List.length_map ..).symm)) (.cons (.same _ (by kernel_rfl) (by kernel_rfl)) (.nil))))) (.nil)) (by kernel_rfl) trivial, ⟨call_ok (ks := []) (ns := []) (bor := [2, 3]) (bobjs := [(2, .arr 1 (List.map enc_s x3)), (3, .arr 1 (List.map enc_s x6))]) (s_laws_equalTexts x3 x6 x7 e8) (.cons (.c1 (.c0 (.arr rfl rfl ((rfl).trans (List.length_map ..).symm)))) (.cons (.c1 (.c0 (.arr rfl rfl ((rfl).trans (List.length_map ..).symm)))) (.nil))) (by kernel_rfl) trivial, trivial⟩⟩ ?_
      refine AX.ret ?_
      refine fin_wk (Wk.forget [2] [] (s' := ⟨[(2, .v (.bool x7))], []⟩) (by kernel_rfl)) ?_
      have hr := Option.some.inj h
      subst hr
      exact ⟨_, Wk.refl _, .inr rfl, ⟨[], by kernel_rfl, trivial, [.v (.bool x7)], by kernel_rfl, by kernel_rfl⟩⟩
    · replace h := cd_f b6 h
      obtain ⟨x8, e9, h⟩ := bd_e h
      refine AX.reg (its := [.auto {}, .auto {}, .call 66 [.agg [.sl 0 0 x2.1.length, .v (.int .i64 x2.2)]] (handO (rho ([] ++ [3])) [] [] ++ [(0, .arr 2 (List.map enc_si x2.1))]) (callEv [] [3] (.sl 0 0 x4.length) [.arr 1 (List.map enc_s x4)]), .call 58 [.sl 2 0 x3.length, .sl 3 0 x4.length] (handO (rho ([] ++ [])) [] [] ++ [(2, .arr 1 (List.map enc_s x3)), (3, .arr 1 (List.map enc_s x4))]) (callEv [] [] (.v (.bool x5)) []), .auto { y := some (.v (.bool false)) }, .auto {}, .auto {}, .call 60 [.agg [.sl 0 0 x2.1.length, .v (.int .i64 x2.2)]] (handO (rho ([] ++ [])) [] [] ++ [(0, .arr 2 (List.map enc_si x2.1))]) (callEv [] [] (.v (.bool x8)) [])]) [3, 4, 25] [0, 1, 2] (s1 := ⟨[(3, .pt 1 0), (4, .sl 2 0 x3.length), (25, .v (.bool (!x8)))], [(0, .arr 2 (List.map enc_si x2.1)), (1, .box [.sl 0 0 x2.1.length, .v (.int .i64 x2.2)]), (2, .arr 1 (List.map enc_s x3))]⟩) (C := ((([.agg [.sl 0 0 x2.1.length, .v (.int .i64 x2.2)]] : List AV) = [.agg [.sl 0 0 x2.1.length, .v (.int .i64 x2.2)]]) ∧ (AO.arr 2 (List.map enc_si x2.1) = AO.arr 2 (List.map enc_si x2.1)) ∧ True) ∧ ((([.sl 2 0 x3.length, .sl 3 0 x4.length] : List AV) = [.sl 2 0 x3.length, .sl 3 0 x4.length]) ∧ (AO.arr 1 (List.map enc_s x3) = AO.arr 1 (List.map enc_s x3)) ∧ (AO.arr 1 (List.map enc_s x4) = AO.arr 1 (List.map enc_s x4)) ∧ True) ∧ ((True) ∧ ((.v (.bool (!x5)) : AV) = (.v (.bool false) : AV))) ∧ ((([.agg [.sl 0 0 x2.1.length, .v (.int .i64 x2.2)]] : List AV) = [.agg [.sl 0 0 x2.1.length, .v (.int .i64 x2.2)]]) ∧ (AO.arr 2 (List.map enc_si x2.1) = AO.arr 2 (List.map enc_si x2.1)) ∧ True) ∧ True) (by kernel_rfl) ⟨⟨rfl, rfl, trivial⟩, ⟨⟨rfl, rfl, rfl, trivial⟩, ⟨⟨trivial, (congrArg (fun z => AV.v (.bool z)) b6)⟩, ⟨⟨rfl, rfl, trivial⟩, trivial⟩⟩⟩⟩ ⟨call_ok (ks := []) (ns := [3]) (bor := [0]) (bobjs := [(0, .arr 2 (List.map enc_si x2.1))]) (s_spec_ComposedOf x2.1 x2.2 x4 e4) (.cons (.c1 (.agg (.cons (.arr rfl rfl ((rfl).trans (List.length_map ..).symm)) (.cons (.same _ (by kernel_rfl) (by kernel_rfl)) (.nil))))) (.nil)) (by kernel_rfl) trivial, ⟨call_ok (ks := []) (ns := []) (bor := [2, 3]) (bobjs := [(2, .arr 1 (List.map enc_s x3)), (3, .arr 1 (List.map enc_s x4))]) (s_laws_equalTexts x3 x4 x5 e5) (.cons (.c1 (.c0 (.arr rfl rfl ((rfl).trans (List.length_map ..).symm)))) (.cons (.c1 (.c0 (.arr rfl rfl ((rfl).trans (List.length_map ..).symm)))) (.nil))) (by kernel_rfl) trivial, ⟨call_ok (ks := []) (ns := []) (bor := [0]) (bobjs := [(0, .arr 2 (List.map enc_si x2.1))]) (s_impl_ValidFlag x2.1 x2.2 x8 e9) (.cons (.c1 (.agg (.cons (.arr rfl rfl ((rfl).trans (List.length_map ..).symm)) (.cons (.same _ (by kernel_rfl) (by kernel_rfl)) (.nil))))) (.nil)) (by kernel_rfl) trivial, trivial⟩⟩⟩ ?_
      rcases bool_cases ((!x8)) with b10 | b10
      · replace h := cd_t b10 h
        refine AX.condT ((!x8)) (by kernel_rfl) b10 ?_
        refine AX.seq ?_
        obtain ⟨x9, e11, h⟩ := bd_e h
        obtain ⟨x10, e12, h⟩ := bd_e h
        refine AX.reg (its := [.auto {}, .auto {}, .call 66 [.agg [.sl 0 0 x2.1.length, .v (.int .i64 x2.2)]] (handO (rho ([] ++ [3])) [] [] ++ [(0, .arr 2 (List.map enc_si x2.1))]) (callEv [] [3] (.sl 0 0 x9.length) [.arr 1 (List.map enc_s x9)]), .call 58 [.sl 2 0 x3.length, .sl 3 0 x9.length] (handO (rho ([] ++ [])) [] [] ++ [(2, .arr 1 (List.map enc_s x3)), (3, .arr 1 (List.map enc_s x9))]) (callEv [] [] (.v (.bool x10)) [])]) [2] [] (s1 := ⟨[(2, .v (.bool x10))], []⟩) (C := ((([.agg [.sl 0 0 x2.1.length, .v (.int .i64 x2.2)]] : List AV) = [.agg [.sl 0 0 x2.1.length, .v (.int .i64 x2.2)]]) ∧ (AO.arr 2 (List.map enc_si x2.1) = AO.arr 2 (List.map enc_si x2.1)) ∧ True) ∧ ((([.sl 2 0 x3.length, .sl 3 0 x9.length] : List AV) = [.sl 2 0 x3.length, .sl 3 0 x9.length]) ∧ (AO.arr 1 (List.map enc_s x3) = AO.arr 1 (List.map enc_s x3)) ∧ (AO.arr 1 (List.map enc_s x9) = AO.arr 1 (List.map enc_s x9)) ∧ True) ∧ True) (by kernel_rfl) ⟨⟨rfl, rfl, trivial⟩, ⟨⟨rfl, rfl, rfl, trivial⟩, trivial⟩⟩ ⟨call_ok (ks := []) (ns := [3]) (bor := [0]) (bobjs := [(0, .arr 2 (List.map enc_si x2.1))]) (s_spec_ComposedOf x2.1 x2.2 x9 e11) (.cons (.c1 (.agg (.cons (.arr rfl rfl ((rfl).trans (List.length_map ..).symm)) (.cons (.same _ (by kernel_rfl) (by kernel_rfl)) (.nil))))) (.nil)) (by kernel_rfl) trivial, ⟨call_ok (ks := []) (ns := []) (bor := [2, 3]) (bobjs := [(2, .arr 1 (List.map enc_s x3)), (3, .arr 1 (List.map enc_s x9))]) (s_laws_equalTexts x3 x9 x10 e12) (.cons (.c1 (.c0 (.arr rfl rfl ((rfl).trans (List.length_map ..).symm)))) (.cons (.c1 (.c0 (.arr rfl rfl ((rfl).trans (List.length_map ..).symm)))) (.nil))) (by kernel_rfl) trivial, trivial⟩⟩ ?_
        refine AX.ret ?_
        refine fin_wk (Wk.forget [2] [] (s' := ⟨[(2, .v (.bool x10))], []⟩) (by kernel_rfl)) ?_
        have hr := Option.some.inj h
        subst hr
        exact ⟨_, Wk.refl _, .inr rfl, ⟨[], by kernel_rfl, trivial, [.v (.bool x10)], by kernel_rfl, by kernel_rfl⟩⟩
      · replace h := cd_f b10 h
        refine AX.condF ((!x8)) (by kernel_rfl) b10 ?_
        refine AX.skip ?_
        refine AX.seq ?_
        obtain ⟨x11, e13, h⟩ := bd_e h
        refine AX.reg (its := [.auto {}, .call 57 [.agg [.sl 0 0 x2.1.length, .v (.int .i64 x2.2)]] (handO (rho ([] ++ [3])) [] [] ++ [(0, .arr 2 (List.map enc_si x2.1))]) (callEv [] [3] (.sl 0 0 x11.length) [.arr 1 (List.map enc_s x11)])]) [3, 4, 5] [0, 1, 2, 3] (s1 := ⟨[(3, .pt 1 0), (4, .sl 2 0 x3.length), (5, .sl 3 0 x11.length)], [(0, .arr 2 (List.map enc_si x2.1)), (1, .box [.sl 0 0 x2.1.length, .v (.int .i64 x2.2)]), (2, .arr 1 (List.map enc_s x3)), (3, .arr 1 (List.map enc_s x11))]⟩) (C := ((([.agg [.sl 0 0 x2.1.length, .v (.int .i64 x2.2)]] : List AV) = [.agg [.sl 0 0 x2.1.length, .v (.int .i64 x2.2)]]) ∧ (AO.arr 2 (List.map enc_si x2.1) = AO.arr 2 (List.map enc_si x2.1)) ∧ True) ∧ True) (by kernel_rfl) ⟨⟨rfl, rfl, trivial⟩, trivial⟩ ⟨call_ok (ks := []) (ns := [3]) (bor := [0]) (bobjs := [(0, .arr 2 (List.map enc_si x2.1))]) (s_impl_SinglesOf x2.1 x2.2 x11 e13) (.cons (.c1 (.agg (.cons (.arr rfl rfl ((rfl).trans (List.length_map ..).symm)) (.cons (.same _ (by kernel_rfl) (by kernel_rfl)) (.nil))))) (.nil)) (by kernel_rfl) trivial, trivial⟩ ?_
        refine AX.seq ?_
        refine AX.seq ?_
        refine AX.reg (its := []) [3, 4, 5, 6] [0, 1, 2, 3] (s1 := ⟨[(3, .pt 1 0), (4, .sl 2 0 x3.length), (5, .sl 3 0 x11.length), (6, .v (.int .i64 0))], [(0, .arr 2 (List.map enc_si x2.1)), (1, .box [.sl 0 0 x2.1.length, .v (.int .i64 x2.2)]), (2, .arr 1 (List.map enc_s x3)), (3, .arr 1 (List.map enc_s x11))]⟩) (C := True) (by kernel_rfl) trivial trivial ?_
        refine AX.block ?_
        obtain ⟨x16, e23, h⟩ := bd_e h
        refine AX.wk (Wk.swap 0 1 (Nat.le_of_ble_eq_true (by kernel_rfl)) (Nat.le_of_ble_eq_true (by kernel_rfl)) rfl) ?_
        refine AX.wk (Wk.forget [3, 4, 5, 6] [0, 1, 2, 3] (s' := ⟨[(3, .pt 0 0), (4, .sl 2 0 x3.length), (5, .sl 3 0 x11.length), (6, .v (.int .i64 0))], [(0, .box [.sl 1 0 x2.1.length, .v (.int .i64 x2.2)]), (1, .arr 2 (List.map enc_si x2.1)), (2, .arr 1 (List.map enc_s x3)), (3, .arr 1 (List.map enc_s x11))]⟩) (by kernel_rfl)) ?_
        refine AX.mono (s_laws_FnComposedOf_L1 x2 x3 x11 FU 0 x16 e23) ?_
        rintro _ _ (⟨x17, rfl, rfl, rfl⟩ | ⟨x18, rfl, rfl, rfl⟩)
        · replace h := sm_l h
          refine fin_wk (Wk.forget [2] [] (s' := ⟨[(2, .v (.bool false))], []⟩) (by kernel_rfl)) ?_
          have hr := Option.some.inj h
          subst hr
          exact ⟨_, Wk.refl _, .inr rfl, ⟨[], by kernel_rfl, trivial, [.v (.bool false)], by kernel_rfl, by kernel_rfl⟩⟩
        · replace h := sm_r h
          refine AX.seq ?_
          obtain ⟨v19, q24, h⟩ := nm_e h
          refine AX.reg (its := [.auto {}, .auto {}, .auto {}, .auto {}, .auto { raw := true }, .auto {}, .auto {}, .auto {}, .auto { y := some (.v (.bool v19)) }]) [2] [] (s1 := ⟨[(2, .v (.bool v19))], []⟩) (C := ((True) ∧ ((.v (.bool (decide ((IntKind.wrap .i64 ((x3.length : Int) + (x11.length : Int))) ≤ (x2.1.length : Int)))) : AV) = (.v (.bool v19) : AV))) ∧ True) (by kernel_rfl) ⟨⟨trivial, (congrArg (fun z => AV.v (.bool z)) q24)⟩, trivial⟩ trivial ?_
          refine AX.ret ?_
          refine fin_wk (Wk.forget [2] [] (s' := ⟨[(2, .v (.bool v19))], []⟩) (by kernel_rfl)) ?_
          have hr := Option.some.inj h
          subst hr
          exact ⟨_, Wk.refl _, .inr rfl, ⟨[], by kernel_rfl, trivial, [.v (.bool v19)], by kernel_rfl, by kernel_rfl⟩⟩

end Go.Eng
