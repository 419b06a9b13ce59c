/- What is proved here: each function keeps to its model, whatever its arguments, wherever the model has an answer. Printed by gen.py. -/
import Derived.Test.YtpoaggicbnldhaaCSameMeaningWalk2
import Derived.Test.YtpoaggicbnldhaaProg
import Derived.KernelRfl
set_option linter.unusedVariables false
namespace Go.Eng
open Go Go.Proofs


theorem s_impl_SameMeaning (p1 : List (ByteArray × Int)) (p2 : List (ByteArray × Int)) (r : Bool) (h : m_impl_SameMeaning p1 p2 = some r) :
    Eng.Spec Try.prog 14 [.agg [.bs false 2 (List.map enc_si p1)], .agg [.bs false 2 (List.map enc_si p2)]] [] (.v (.bool r)) [] := by
  unfold m_impl_SameMeaning at h
  refine Eng.Spec.body Try.func14 (by kernel_rfl) rfl (by kernel_rfl) ?_
  refine AX.wkpost ?_
  refine AX.seq ?_
  refine AX.reg (its := [.auto { nk := 0 }, .auto { nk := 1 }]) [2, 3] [0, 1] (s1 := ⟨[(2, .pt 0 0), (3, .pt 1 0)], [(0, .box [.bs false 2 (List.map enc_si p1)]), (1, .box [.bs false 2 (List.map enc_si p2)])]⟩) (C := True) (by kernel_rfl) trivial trivial ?_
  refine AX.seq ?_
  obtain ⟨x3, e1, h⟩ := bd_e h
  rcases bool_cases (x3) with b2 | b2
  · replace h := cd_t b2 h
    obtain ⟨x4, e3, h⟩ := bd_e h
    rcases bool_cases (x4) with b4 | b4
    · replace h := cd_t b4 h
      obtain ⟨x5, e5, h⟩ := bd_e h
      refine AX.reg (its := [.auto {}, .call 13 [.agg [.bs false 2 (List.map enc_si p1)]] (handO (rho ([] ++ [])) [] [] ++ []) (callEv [] [] (.v (.bool true)) []), .auto {}, .auto {}, .call 13 [.agg [.bs false 2 (List.map enc_si p2)]] (handO (rho ([] ++ [])) [] [] ++ []) (callEv [] [] (.v (.bool true)) []), .auto {}, .auto {}, .auto {}, .auto {}, .call 43 [.agg [.bs false 2 (List.map enc_si p1)], .agg [.bs false 2 (List.map enc_si p2)]] (handO (rho ([] ++ [2])) [] [] ++ []) (callEv [] [2] (.sl 0 0 x5.length) [.arr 4 (List.map enc_isii x5)])]) [4] [] (s1 := ⟨[(4, .v (.bool (decide ((x5.length : Int) = 0))))], []⟩) (C := ((([.agg [.bs false 2 (List.map enc_si p1)]] : List AV) = [.agg [.bs false 2 (List.map enc_si p1)]]) ∧ True) ∧ ((([.agg [.bs false 2 (List.map enc_si p2)]] : List AV) = [.agg [.bs false 2 (List.map enc_si p2)]]) ∧ True) ∧ ((([.agg [.bs false 2 (List.map enc_si p1)], .agg [.bs false 2 (List.map enc_si p2)]] : List AV) = [.agg [.bs false 2 (List.map enc_si p1)], .agg [.bs false 2 (List.map enc_si p2)]]) ∧ True) ∧ True) (by kernel_rfl) ⟨⟨rfl, trivial⟩, ⟨⟨rfl, trivial⟩, ⟨⟨rfl, trivial⟩, trivial⟩⟩⟩ ⟨call_ok (ks := []) (ns := []) (bor := []) (bobjs := []) (show Eng.Spec Try.prog 13 [.agg [.bs false 2 (List.map enc_si p1)]] [] (.v (.bool true)) [] from by have q := s_impl_ValidEnum p1 x3 e1; rw [b2] at q; exact q) (.cons (.c1 (.agg (.cons (.same _ (by kernel_rfl) (by kernel_rfl)) (.nil)))) (.nil)) (by kernel_rfl) trivial, ⟨call_ok (ks := []) (ns := []) (bor := []) (bobjs := []) (show Eng.Spec Try.prog 13 [.agg [.bs false 2 (List.map enc_si p2)]] [] (.v (.bool true)) [] from by have q := s_impl_ValidEnum p2 x4 e3; rw [b4] at q; exact q) (.cons (.c1 (.agg (.cons (.same _ (by kernel_rfl) (by kernel_rfl)) (.nil)))) (.nil)) (by kernel_rfl) trivial, ⟨call_ok (ks := []) (ns := [2]) (bor := []) (bobjs := []) (s_impl_DiffEnums p1 p2 x5 e5) (.cons (.c1 (.agg (.cons (.same _ (by kernel_rfl) (by kernel_rfl)) (.nil)))) (.cons (.c1 (.agg (.cons (.same _ (by kernel_rfl) (by kernel_rfl)) (.nil)))) (.nil))) (by kernel_rfl) trivial, trivial⟩⟩⟩ ?_
      refine AX.ret ?_
      refine fin_wk (Wk.forget [4] [] (s' := ⟨[(4, .v (.bool (decide ((x5.length : Int) = 0))))], []⟩) (by kernel_rfl)) ?_
      have hr := Option.some.inj h
      subst hr
      exact ⟨_, Wk.refl _, .inr rfl, ⟨[], by kernel_rfl, trivial, [.v (.bool (decide ((x5.length : Int) = 0)))], by kernel_rfl, by kernel_rfl⟩⟩
    · replace h := cd_f b4 h
      refine AX.reg (its := [.auto {}, .call 13 [.agg [.bs false 2 (List.map enc_si p1)]] (handO (rho ([] ++ [])) [] [] ++ []) (callEv [] [] (.v (.bool true)) []), .auto {}, .auto {}, .call 13 [.agg [.bs false 2 (List.map enc_si p2)]] (handO (rho ([] ++ [])) [] [] ++ []) (callEv [] [] (.v (.bool false)) [])]) [4] [] (s1 := ⟨[(4, .v (.bool false))], []⟩) (C := ((([.agg [.bs false 2 (List.map enc_si p1)]] : List AV) = [.agg [.bs false 2 (List.map enc_si p1)]]) ∧ True) ∧ ((([.agg [.bs false 2 (List.map enc_si p2)]] : List AV) = [.agg [.bs false 2 (List.map enc_si p2)]]) ∧ True) ∧ True) (by kernel_rfl) ⟨⟨rfl, trivial⟩, ⟨⟨rfl, trivial⟩, trivial⟩⟩ ⟨call_ok (ks := []) (ns := []) (bor := []) (bobjs := []) (show Eng.Spec Try.prog 13 [.agg [.bs false 2 (List.map enc_si p1)]] [] (.v (.bool true)) [] from by have q := s_impl_ValidEnum p1 x3 e1; rw [b2] at q; exact q) (.cons (.c1 (.agg (.cons (.same _ (by kernel_rfl) (by kernel_rfl)) (.nil)))) (.nil)) (by kernel_rfl) trivial, ⟨call_ok (ks := []) (ns := []) (bor := []) (bobjs := []) (show Eng.Spec Try.prog 13 [.agg [.bs false 2 (List.map enc_si p2)]] [] (.v (.bool false)) [] from by have q := s_impl_ValidEnum p2 x4 e3; rw [b4] at q; exact q) (.cons (.c1 (.agg (.cons (.same _ (by kernel_rfl) (by kernel_rfl)) (.nil)))) (.nil)) (by kernel_rfl) trivial, trivial⟩⟩ ?_
      refine AX.ret ?_
      refine fin_wk (Wk.forget [4] [] (s' := ⟨[(4, .v (.bool false))], []⟩) (by kernel_rfl)) ?_
      have hr := Option.some.inj h
      subst hr
      exact ⟨_, Wk.refl _, .inr rfl, ⟨[], by kernel_rfl, trivial, [.v (.bool false)], by kernel_rfl, by kernel_rfl⟩⟩
  · replace h := cd_f b2 h
    refine AX.reg (its := [.auto {}, .call 13 [.agg [.bs false 2 (List.map enc_si p1)]] (handO (rho ([] ++ [])) [] [] ++ []) (callEv [] [] (.v (.bool false)) [])]) [4] [] (s1 := ⟨[(4, .v (.bool false))], []⟩) (C := ((([.agg [.bs false 2 (List.map enc_si p1)]] : List AV) = [.agg [.bs false 2 (List.map enc_si p1)]]) ∧ True) ∧ True) (by kernel_rfl) ⟨⟨rfl, trivial⟩, trivial⟩ ⟨call_ok (ks := []) (ns := []) (bor := []) (bobjs := []) (show Eng.Spec Try.prog 13 [.agg [.bs false 2 (List.map enc_si p1)]] [] (.v (.bool false)) [] from by have q := s_impl_ValidEnum p1 x3 e1; rw [b2] at q; exact q) (.cons (.c1 (.agg (.cons (.same _ (by kernel_rfl) (by kernel_rfl)) (.nil)))) (.nil)) (by kernel_rfl) trivial, trivial⟩ ?_
    refine AX.ret ?_
    refine fin_wk (Wk.forget [4] [] (s' := ⟨[(4, .v (.bool false))], []⟩) (by kernel_rfl)) ?_
    have hr := Option.some.inj h
    subst hr
    exact ⟨_, Wk.refl _, .inr rfl, ⟨[], by kernel_rfl, trivial, [.v (.bool false)], by kernel_rfl, by kernel_rfl⟩⟩

theorem s_spec_differ_L1 (p1 : List (ByteArray × Int)) (p2 : List (ByteArray × Int)) (n : Nat) (g : (List (Int × ByteArray × Int × Int)) × Int) (out : List (Int × ByteArray × Int × Int)) (h : m_spec_differ_L1 p1 p2 n g.1 g.2 = some out) :
    AX Try.prog 115 0 (codeAt [1, 1, 0, 1, 1] (bodyOf Try.f61)) ((fun g : (List (Int × ByteArray × Int × Int)) × Int => (⟨[(0, .bs false 2 (List.map enc_si p1)), (1, .bs false 2 (List.map enc_si p2)), (5, .sl 0 0 g.1.length), (6, .v (.int .i64 g.2))], [(0, .arr 4 (List.map enc_isii g.1))]⟩ : S)) g) (fun ex s => ex = .exit 0 ∧ s = (fun o : List (Int × ByteArray × Int × Int) => (⟨[(0, .bs false 2 (List.map enc_si p1)), (1, .bs false 2 (List.map enc_si p2)), (5, .sl 0 0 o.length)], [(0, .arr 4 (List.map enc_isii o))]⟩ : S)) out) := by
  refine AX.wkpost ?_
  refine AX.loop (G := Nat × ((List (Int × ByteArray × Int × Int)) × Int)) (fun q => (fun g : (List (Int × ByteArray × Int × Int)) × Int => (⟨[(0, .bs false 2 (List.map enc_si p1)), (1, .bs false 2 (List.map enc_si p2)), (5, .sl 0 0 g.1.length), (6, .v (.int .i64 g.2))], [(0, .arr 4 (List.map enc_isii g.1))]⟩ : S)) q.2) (fun q => m_spec_differ_L1 p1 p2 q.1 q.2.1 q.2.2 = some out) (fun q => q.1) (n, g) h (Wk.refl _) ?_
  clear h
  rintro ⟨fu, v3, v4⟩ h
  cases fu with
  | zero => cases h
  | succ fu =>
    rw [m_spec_differ_L1] at h
    refine AX.seq ?_
    refine AX.seq ?_
    refine AX.reg (its := [.auto {}, .auto {}, .auto { y := some (.v (.int .i64 (p1.length : Int))) }]) [0, 1, 5, 6, 14] [0] (s1 := ⟨[(0, .bs false 2 (List.map enc_si p1)), (1, .bs false 2 (List.map enc_si p2)), (5, .sl 0 0 v3.length), (6, .v (.int .i64 v4)), (14, .v (.bool (decide (v4 < (p1.length : Int)))))], [(0, .arr 4 (List.map enc_isii v3))]⟩) (C := (True ∧ (AV.v (.int .i64 ((List.map enc_si p1).length : Int)) = AV.v (.int .i64 (p1.length : Int)))) ∧ True) (by kernel_rfl) ⟨⟨trivial, len_map enc_si p1⟩, trivial⟩ trivial ?_
    rcases bool_cases (decide (v4 < (p1.length : Int))) with b1 | b1
    · replace h := cd_t b1 h
      refine AX.condT (decide (v4 < (p1.length : Int))) (by kernel_rfl) b1 ?_
      refine AX.skip ?_
      refine AX.seq ?_
      refine AX.block ?_
      refine AX.seq ?_
      obtain ⟨g2, h⟩ := gd_e h
      obtain ⟨x5, e3, h⟩ := bd_e h
      refine AX.reg (its := [.auto {}, .auto {}, .auto {}, .auto { y := some (.be 2 (enc_si (gt p1 v4)) 0) }, .auto {}, .auto {}, .call 73 [.bs false 2 (List.map enc_si p2), .v (.string ((gt p1 v4).1))] (handO (rho ([] ++ [])) [] [] ++ []) (callEv [] [] (.v (.int .i64 x5)) [])]) [0, 1, 5, 6, 24] [0] (s1 := ⟨[(0, .bs false 2 (List.map enc_si p1)), (1, .bs false 2 (List.map enc_si p2)), (5, .sl 0 0 v3.length), (6, .v (.int .i64 v4)), (24, .v (.bool (decide (x5 < 0))))], [(0, .arr 4 (List.map enc_isii v3))]⟩) (C := ((0 ≤ v4 ∧ v4 < ((List.map enc_si p1).length : Int)) ∧ (AV.be 2 ((List.map enc_si p1).getD v4.toNat []) 0 = AV.be 2 (enc_si (gt p1 v4)) 0)) ∧ ((([.bs false 2 (List.map enc_si p2), .v (.string ((gt p1 v4).1))] : List AV) = [.bs false 2 (List.map enc_si p2), .v (.string ((gt p1 v4).1))]) ∧ True) ∧ True) (by kernel_rfl) ⟨idx_bs enc_si p1 v4 2 g2, ⟨⟨rfl, trivial⟩, trivial⟩⟩ ⟨call_ok (ks := []) (ns := []) (bor := []) (bobjs := []) (s_spec_indexOf p2 ((gt p1 v4).1) x5 e3) (.cons (.c1 (.c0 (.same _ (by kernel_rfl) (by kernel_rfl)))) (.cons (.c1 (.c0 (.same _ (by kernel_rfl) (by kernel_rfl)))) (.nil))) (by kernel_rfl) trivial, trivial⟩ ?_
      rcases bool_cases (decide (x5 < 0)) with b4 | b4
      · replace h := cd_t b4 h
        refine AX.condT (decide (x5 < 0)) (by kernel_rfl) b4 ?_
        obtain ⟨g5, h⟩ := gd_e h
        refine AX.drw mixed (its := [.auto {}, .auto {}, .auto {}, .auto { y := some (.be 2 (enc_si (gt p1 v4)) 0) }, .auto {}, .auto {}, .auto {}, .auto {}, .auto { y := some (.be 2 (enc_si (gt p1 v4)) 0) }, .auto {}, .auto {}, .auto {}, .auto { nk := 1 }, .auto { y := some (.sl 2 0 ((v3 ++ ([(1, (gt p1 v4).1, (gt p1 v4).2, 0)] : List (Int × ByteArray × Int × Int))).length)), els := some (List.map enc_isii v3), els2 := some (List.map enc_isii ([(1, (gt p1 v4).1, (gt p1 v4).2, 0)] : List (Int × ByteArray × Int × Int))), nk := 2 }]) [0, 1, 5, 6] [2] (s1 := ⟨[(0, .bs false 2 (List.map enc_si p1)), (1, .bs false 2 (List.map enc_si p2)), (5, .sl 2 0 ((v3 ++ ([(1, (gt p1 v4).1, (gt p1 v4).2, 0)] : List (Int × ByteArray × Int × Int))).length)), (6, .v (.int .i64 v4))], [(2, .arr 4 (List.map enc_isii v3 ++ List.map enc_isii ([(1, (gt p1 v4).1, (gt p1 v4).2, 0)] : List (Int × ByteArray × Int × Int))))]⟩) (C := ((0 ≤ v4 ∧ v4 < ((List.map enc_si p1).length : Int)) ∧ (AV.be 2 ((List.map enc_si p1).getD v4.toNat []) 0 = AV.be 2 (enc_si (gt p1 v4)) 0)) ∧ ((0 ≤ v4 ∧ v4 < ((List.map enc_si p1).length : Int)) ∧ (AV.be 2 ((List.map enc_si p1).getD v4.toNat []) 0 = AV.be 2 (enc_si (gt p1 v4)) 0)) ∧ ((((((List.map enc_isii v3).drop 0).take (v3.length) = List.map enc_isii v3) ∧ (((List.map enc_isii ([(1, (gt p1 v4).1, (gt p1 v4).2, 0)] : List (Int × ByteArray × Int × Int))).drop 0).take (([(1, (gt p1 v4).1, (gt p1 v4).2, 0)] : List (Int × ByteArray × Int × Int)).length) = List.map enc_isii ([(1, (gt p1 v4).1, (gt p1 v4).2, 0)] : List (Int × ByteArray × Int × Int)))) ∧ (List.map enc_isii v3).length + (List.map enc_isii ([(1, (gt p1 v4).1, (gt p1 v4).2, 0)] : List (Int × ByteArray × Int × Int))).length ≤ 1099511627776) ∧ (AV.sl 2 0 (List.map enc_isii v3 ++ List.map enc_isii ([(1, (gt p1 v4).1, (gt p1 v4).2, 0)] : List (Int × ByteArray × Int × Int))).length = AV.sl 2 0 (v3 ++ ([(1, (gt p1 v4).1, (gt p1 v4).2, 0)] : List (Int × ByteArray × Int × Int))).length)) ∧ True) (by kernel_rfl) ⟨idx_bs enc_si p1 v4 2 g2, ⟨idx_bs enc_si p1 v4 2 g2, ⟨⟨⟨⟨(dt_all (enc := enc_isii) rfl rfl), (dt_all (enc := enc_isii) rfl rfl)⟩, (by simp only [List.length_map, List.length_nil, List.length_replicate]; simpa using g5)⟩, sl_len (enc := enc_isii) (app_can (enc := enc_isii) rfl (rfl))⟩, trivial⟩⟩⟩ trivial ?_
        refine AX.reg (its := [.auto {}, .auto { raw := true }]) [0, 1, 5, 6] [2] (s1 := ⟨[(0, .bs false 2 (List.map enc_si p1)), (1, .bs false 2 (List.map enc_si p2)), (5, .sl 2 0 ((v3 ++ ([(1, (gt p1 v4).1, (gt p1 v4).2, 0)] : List (Int × ByteArray × Int × Int))).length)), (6, .v (.int .i64 (IntKind.wrap .i64 (v4 + 1))))], [(2, .arr 4 (List.map enc_isii v3 ++ List.map enc_isii ([(1, (gt p1 v4).1, (gt p1 v4).2, 0)] : List (Int × ByteArray × Int × Int))))]⟩) (C := True) (by kernel_rfl) trivial trivial ?_
        refine ⟨(fu, (v3 ++ ([(1, (gt p1 v4).1, (gt p1 v4).2, 0)] : List (Int × ByteArray × Int × Int)), IntKind.wrap .i64 (v4 + 1))), h, Nat.lt_succ_self _, ?_⟩
        refine Wk.trans (Wk.swap 0 2 (Nat.le_of_ble_eq_true (by kernel_rfl)) (Nat.le_of_ble_eq_true (by kernel_rfl)) rfl) ?_
        refine Wk.trans (Wk.forget [0, 1, 5, 6] [0] (s' := ⟨[(0, .bs false 2 (List.map enc_si p1)), (1, .bs false 2 (List.map enc_si p2)), (5, .sl 0 0 ((v3 ++ ([(1, (gt p1 v4).1, (gt p1 v4).2, 0)] : List (Int × ByteArray × Int × Int))).length)), (6, .v (.int .i64 (IntKind.wrap .i64 (v4 + 1))))], [(0, .arr 4 (List.map enc_isii v3 ++ List.map enc_isii ([(1, (gt p1 v4).1, (gt p1 v4).2, 0)] : List (Int × ByteArray × Int × Int))))]⟩) (by kernel_rfl)) ?_
        refine Wk.trans (Wk.of_eq (congrArg (fun z => (⟨[(0, .bs false 2 (List.map enc_si p1)), (1, .bs false 2 (List.map enc_si p2)), (5, .sl 0 0 ((v3 ++ ([(1, (gt p1 v4).1, (gt p1 v4).2, 0)] : List (Int × ByteArray × Int × Int))).length)), (6, .v (.int .i64 (IntKind.wrap .i64 (v4 + 1))))], [(0, .arr 4 (z))]⟩ : S)) (app_can (enc := enc_isii) rfl (rfl) : List.map enc_isii v3 ++ List.map enc_isii ([(1, (gt p1 v4).1, (gt p1 v4).2, 0)] : List (Int × ByteArray × Int × Int)) = List.map enc_isii (v3 ++ ([(1, (gt p1 v4).1, (gt p1 v4).2, 0)] : List (Int × ByteArray × Int × Int)))))) ?_
        exact Wk.refl _
      · replace h := cd_f b4 h
        refine AX.condF (decide (x5 < 0)) (by kernel_rfl) b4 ?_
        refine AX.skip ?_
        refine AX.reg (its := [.auto {}, .auto { raw := true }]) [0, 1, 5, 6] [0] (s1 := ⟨[(0, .bs false 2 (List.map enc_si p1)), (1, .bs false 2 (List.map enc_si p2)), (5, .sl 0 0 v3.length), (6, .v (.int .i64 (IntKind.wrap .i64 (v4 + 1))))], [(0, .arr 4 (List.map enc_isii v3))]⟩) (C := True) (by kernel_rfl) trivial trivial ?_
        refine ⟨(fu, (v3, IntKind.wrap .i64 (v4 + 1))), h, Nat.lt_succ_self _, ?_⟩
        refine Wk.trans (Wk.forget [0, 1, 5, 6] [0] (s' := ⟨[(0, .bs false 2 (List.map enc_si p1)), (1, .bs false 2 (List.map enc_si p2)), (5, .sl 0 0 v3.length), (6, .v (.int .i64 (IntKind.wrap .i64 (v4 + 1))))], [(0, .arr 4 (List.map enc_isii v3))]⟩) (by kernel_rfl)) ?_
        exact Wk.refl _
    · replace h := cd_f b1 h
      refine AX.condF (decide (v4 < (p1.length : Int))) (by kernel_rfl) b1 ?_
      refine AX.exit ?_
      refine fin_wk (Wk.forget [0, 1, 5] [0] (s' := ⟨[(0, .bs false 2 (List.map enc_si p1)), (1, .bs false 2 (List.map enc_si p2)), (5, .sl 0 0 v3.length)], [(0, .arr 4 (List.map enc_isii v3))]⟩) (by kernel_rfl)) ?_
      have hr := Option.some.inj h
      subst hr
      exact ⟨_, Wk.refl _, ⟨rfl, rfl⟩⟩

theorem s_spec_differ_L2 (p1 : List (ByteArray × Int)) (p2 : List (ByteArray × Int)) (n : Nat) (g : (List (Int × ByteArray × Int × Int)) × Int) (out : List (Int × ByteArray × Int × Int)) (h : m_spec_differ_L2 p1 p2 n g.1 g.2 = some out) :
    AX Try.prog 115 0 (codeAt [1, 1, 1, 0, 1, 1] (bodyOf Try.f61)) ((fun g : (List (Int × ByteArray × Int × Int)) × Int => (⟨[(0, .bs false 2 (List.map enc_si p1)), (1, .bs false 2 (List.map enc_si p2)), (5, .sl 0 0 g.1.length), (7, .v (.int .i64 g.2))], [(0, .arr 4 (List.map enc_isii g.1))]⟩ : S)) g) (fun ex s => ex = .exit 2 ∧ s = (fun o : List (Int × ByteArray × Int × Int) => (⟨[(0, .bs false 2 (List.map enc_si p1)), (1, .bs false 2 (List.map enc_si p2)), (5, .sl 0 0 o.length)], [(0, .arr 4 (List.map enc_isii o))]⟩ : S)) out) := by
  refine AX.wkpost ?_
  refine AX.loop (G := Nat × ((List (Int × ByteArray × Int × Int)) × Int)) (fun q => (fun g : (List (Int × ByteArray × Int × Int)) × Int => (⟨[(0, .bs false 2 (List.map enc_si p1)), (1, .bs false 2 (List.map enc_si p2)), (5, .sl 0 0 g.1.length), (7, .v (.int .i64 g.2))], [(0, .arr 4 (List.map enc_isii g.1))]⟩ : S)) q.2) (fun q => m_spec_differ_L2 p1 p2 q.1 q.2.1 q.2.2 = some out) (fun q => q.1) (n, g) h (Wk.refl _) ?_
  clear h
  rintro ⟨fu, v7, v8⟩ h
  cases fu with
  | zero => cases h
  | succ fu =>
    rw [m_spec_differ_L2] at h
    refine AX.seq ?_
    refine AX.seq ?_
    refine AX.reg (its := [.auto {}, .auto {}, .auto { y := some (.v (.int .i64 (p1.length : Int))) }]) [0, 1, 5, 7, 42] [0] (s1 := ⟨[(0, .bs false 2 (List.map enc_si p1)), (1, .bs false 2 (List.map enc_si p2)), (5, .sl 0 0 v7.length), (7, .v (.int .i64 v8)), (42, .v (.bool (decide (v8 < (p1.length : Int)))))], [(0, .arr 4 (List.map enc_isii v7))]⟩) (C := (True ∧ (AV.v (.int .i64 ((List.map enc_si p1).length : Int)) = AV.v (.int .i64 (p1.length : Int)))) ∧ True) (by kernel_rfl) ⟨⟨trivial, len_map enc_si p1⟩, trivial⟩ trivial ?_
    rcases bool_cases (decide (v8 < (p1.length : Int))) with b7 | b7
    · replace h := cd_t b7 h
      refine AX.condT (decide (v8 < (p1.length : Int))) (by kernel_rfl) b7 ?_
      refine AX.skip ?_
      refine AX.seq ?_
      refine AX.block ?_
      refine AX.seq ?_
      obtain ⟨g8, h⟩ := gd_e h
      obtain ⟨x9, e9, h⟩ := bd_e h
      refine AX.reg (its := [.auto {}, .auto {}, .auto {}, .auto { y := some (.be 2 (enc_si (gt p1 v8)) 0) }, .auto {}, .auto {}, .call 73 [.bs false 2 (List.map enc_si p2), .v (.string ((gt p1 v8).1))] (handO (rho ([] ++ [])) [] [] ++ []) (callEv [] [] (.v (.int .i64 x9)) [])]) [0, 1, 5, 7, 8] [0] (s1 := ⟨[(0, .bs false 2 (List.map enc_si p1)), (1, .bs false 2 (List.map enc_si p2)), (5, .sl 0 0 v7.length), (7, .v (.int .i64 v8)), (8, .v (.int .i64 x9))], [(0, .arr 4 (List.map enc_isii v7))]⟩) (C := ((0 ≤ v8 ∧ v8 < ((List.map enc_si p1).length : Int)) ∧ (AV.be 2 ((List.map enc_si p1).getD v8.toNat []) 0 = AV.be 2 (enc_si (gt p1 v8)) 0)) ∧ ((([.bs false 2 (List.map enc_si p2), .v (.string ((gt p1 v8).1))] : List AV) = [.bs false 2 (List.map enc_si p2), .v (.string ((gt p1 v8).1))]) ∧ True) ∧ True) (by kernel_rfl) ⟨idx_bs enc_si p1 v8 2 g8, ⟨⟨rfl, trivial⟩, trivial⟩⟩ ⟨call_ok (ks := []) (ns := []) (bor := []) (bobjs := []) (s_spec_indexOf p2 ((gt p1 v8).1) x9 e9) (.cons (.c1 (.c0 (.same _ (by kernel_rfl) (by kernel_rfl)))) (.cons (.c1 (.c0 (.same _ (by kernel_rfl) (by kernel_rfl)))) (.nil))) (by kernel_rfl) trivial, trivial⟩ ?_
      refine AX.seq ?_
      rcases bool_cases (decide (0 ≤ x9)) with b10 | b10
      · replace h := cd_t b10 h
        obtain ⟨g11, h⟩ := gd_e h
        refine AX.drw mixed (its := [.auto {}, .auto { y := some (.v (.bool true)) }, .auto {}, .auto {}, .auto {}, .auto { y := some (.be 2 (enc_si (gt p2 x9)) 0) }, .auto {}, .auto {}, .auto {}, .auto {}, .auto { y := some (.be 2 (enc_si (gt p1 v8)) 0) }]) [0, 1, 5, 7, 8, 66] [0] (s1 := ⟨[(0, .bs false 2 (List.map enc_si p1)), (1, .bs false 2 (List.map enc_si p2)), (5, .sl 0 0 v7.length), (7, .v (.int .i64 v8)), (8, .v (.int .i64 x9)), (66, .v (.bool (!decide (((gt p2 x9).2) = ((gt p1 v8).2)))))], [(0, .arr 4 (List.map enc_isii v7))]⟩) (C := ((True) ∧ ((.v (.bool (decide (0 ≤ x9))) : AV) = (.v (.bool true) : AV))) ∧ ((0 ≤ x9 ∧ x9 < ((List.map enc_si p2).length : Int)) ∧ (AV.be 2 ((List.map enc_si p2).getD x9.toNat []) 0 = AV.be 2 (enc_si (gt p2 x9)) 0)) ∧ ((0 ≤ v8 ∧ v8 < ((List.map enc_si p1).length : Int)) ∧ (AV.be 2 ((List.map enc_si p1).getD v8.toNat []) 0 = AV.be 2 (enc_si (gt p1 v8)) 0)) ∧ True) (by kernel_rfl) ⟨⟨trivial, (congrArg (fun z => AV.v (.bool z)) b10)⟩, ⟨idx_bs enc_si p2 x9 2 g11, ⟨idx_bs enc_si p1 v8 2 g8, trivial⟩⟩⟩ trivial ?_
        rcases bool_cases ((!decide (((gt p2 x9).2) = ((gt p1 v8).2)))) with b12 | b12
        · replace h := cd_t b12 h
          refine AX.condT ((!decide (((gt p2 x9).2) = ((gt p1 v8).2)))) (by kernel_rfl) b12 ?_
          obtain ⟨g13, h⟩ := gd_e h
          refine AX.drw mixed (its := [.auto {}, .auto {}, .auto {}, .auto { y := some (.be 2 (enc_si (gt p1 v8)) 0) }, .auto {}, .auto {}, .auto {}, .auto {}, .auto { y := some (.be 2 (enc_si (gt p1 v8)) 0) }, .auto {}, .auto {}, .auto {}, .auto {}, .auto { y := some (.be 2 (enc_si (gt p2 x9)) 0) }, .auto {}, .auto {}, .auto {}, .auto { nk := 1 }, .auto { y := some (.sl 2 0 ((v7 ++ ([(2, (gt p1 v8).1, (gt p1 v8).2, (gt p2 x9).2)] : List (Int × ByteArray × Int × Int))).length)), els := some (List.map enc_isii v7), els2 := some (List.map enc_isii ([(2, (gt p1 v8).1, (gt p1 v8).2, (gt p2 x9).2)] : List (Int × ByteArray × Int × Int))), nk := 2 }]) [0, 1, 5, 7] [2] (s1 := ⟨[(0, .bs false 2 (List.map enc_si p1)), (1, .bs false 2 (List.map enc_si p2)), (5, .sl 2 0 ((v7 ++ ([(2, (gt p1 v8).1, (gt p1 v8).2, (gt p2 x9).2)] : List (Int × ByteArray × Int × Int))).length)), (7, .v (.int .i64 v8))], [(2, .arr 4 (List.map enc_isii v7 ++ List.map enc_isii ([(2, (gt p1 v8).1, (gt p1 v8).2, (gt p2 x9).2)] : List (Int × ByteArray × Int × Int))))]⟩) (C := ((0 ≤ v8 ∧ v8 < ((List.map enc_si p1).length : Int)) ∧ (AV.be 2 ((List.map enc_si p1).getD v8.toNat []) 0 = AV.be 2 (enc_si (gt p1 v8)) 0)) ∧ ((0 ≤ v8 ∧ v8 < ((List.map enc_si p1).length : Int)) ∧ (AV.be 2 ((List.map enc_si p1).getD v8.toNat []) 0 = AV.be 2 (enc_si (gt p1 v8)) 0)) ∧ ((0 ≤ x9 ∧ x9 < ((List.map enc_si p2).length : Int)) ∧ (AV.be 2 ((List.map enc_si p2).getD x9.toNat []) 0 = AV.be 2 (enc_si (gt p2 x9)) 0)) ∧ ((((((List.map enc_isii v7).drop 0).take (v7.length) = List.map enc_isii v7) ∧ (((List.map enc_isii ([(2, (gt p1 v8).1, (gt p1 v8).2, (gt p2 x9).2)] : List (Int × ByteArray × Int × Int))).drop 0).take (([(2, (gt p1 v8).1, (gt p1 v8).2, (gt p2 x9).2)] : List (Int × ByteArray × Int × Int)).length) = List.map enc_isii ([(2, (gt p1 v8).1, (gt p1 v8).2, (gt p2 x9).2)] : List (Int × ByteArray × Int × Int)))) ∧ (List.map enc_isii v7).length + (List.map enc_isii ([(2, (gt p1 v8).1, (gt p1 v8).2, (gt p2 x9).2)] : List (Int × ByteArray × Int × Int))).length ≤ 1099511627776) ∧ (AV.sl 2 0 (List.map enc_isii v7 ++ List.map enc_isii ([(2, (gt p1 v8).1, (gt p1 v8).2, (gt p2 x9).2)] : List (Int × ByteArray × Int × Int))).length = AV.sl 2 0 (v7 ++ ([(2, (gt p1 v8).1, (gt p1 v8).2, (gt p2 x9).2)] : List (Int × ByteArray × Int × Int))).length)) ∧ True) (by kernel_rfl) ⟨idx_bs enc_si p1 v8 2 g8, ⟨idx_bs enc_si p1 v8 2 g8, ⟨idx_bs enc_si p2 x9 2 g11, ⟨⟨⟨⟨(dt_all (enc := enc_isii) rfl rfl), (dt_all (enc := enc_isii) rfl rfl)⟩, (by simp only [List.length_map, List.length_nil, List.length_replicate]; simpa using g13)⟩, sl_len (enc := enc_isii) (app_can (enc := enc_isii) rfl (rfl))⟩, trivial⟩⟩⟩⟩ trivial ?_
          refine AX.reg (its := [.auto {}, .auto { raw := true }]) [0, 1, 5, 7] [2] (s1 := ⟨[(0, .bs false 2 (List.map enc_si p1)), (1, .bs false 2 (List.map enc_si p2)), (5, .sl 2 0 ((v7 ++ ([(2, (gt p1 v8).1, (gt p1 v8).2, (gt p2 x9).2)] : List (Int × ByteArray × Int × Int))).length)), (7, .v (.int .i64 (IntKind.wrap .i64 (v8 + 1))))], [(2, .arr 4 (List.map enc_isii v7 ++ List.map enc_isii ([(2, (gt p1 v8).1, (gt p1 v8).2, (gt p2 x9).2)] : List (Int × ByteArray × Int × Int))))]⟩) (C := True) (by kernel_rfl) trivial trivial ?_
          refine ⟨(fu, (v7 ++ ([(2, (gt p1 v8).1, (gt p1 v8).2, (gt p2 x9).2)] : List (Int × ByteArray × Int × Int)), IntKind.wrap .i64 (v8 + 1))), h, Nat.lt_succ_self _, ?_⟩
          refine Wk.trans (Wk.swap 0 2 (Nat.le_of_ble_eq_true (by kernel_rfl)) (Nat.le_of_ble_eq_true (by kernel_rfl)) rfl) ?_
          refine Wk.trans (Wk.forget [0, 1, 5, 7] [0] (s' := ⟨[(0, .bs false 2 (List.map enc_si p1)), (1, .bs false 2 (List.map enc_si p2)), (5, .sl 0 0 ((v7 ++ ([(2, (gt p1 v8).1, (gt p1 v8).2, (gt p2 x9).2)] : List (Int × ByteArray × Int × Int))).length)), (7, .v (.int .i64 (IntKind.wrap .i64 (v8 + 1))))], [(0, .arr 4 (List.map enc_isii v7 ++ List.map enc_isii ([(2, (gt p1 v8).1, (gt p1 v8).2, (gt p2 x9).2)] : List (Int × ByteArray × Int × Int))))]⟩) (by kernel_rfl)) ?_
          refine Wk.trans (Wk.of_eq (congrArg (fun z => (⟨[(0, .bs false 2 (List.map enc_si p1)), (1, .bs false 2 (List.map enc_si p2)), (5, .sl 0 0 ((v7 ++ ([(2, (gt p1 v8).1, (gt p1 v8).2, (gt p2 x9).2)] : List (Int × ByteArray × Int × Int))).length)), (7, .v (.int .i64 (IntKind.wrap .i64 (v8 + 1))))], [(0, .arr 4 (z))]⟩ : S)) (app_can (enc := enc_isii) rfl (rfl) : List.map enc_isii v7 ++ List.map enc_isii ([(2, (gt p1 v8).1, (gt p1 v8).2, (gt p2 x9).2)] : List (Int × ByteArray × Int × Int)) = List.map enc_isii (v7 ++ ([(2, (gt p1 v8).1, (gt p1 v8).2, (gt p2 x9).2)] : List (Int × ByteArray × Int × Int)))))) ?_
          exact Wk.refl _
        · replace h := cd_f b12 h
          refine AX.condF ((!decide (((gt p2 x9).2) = ((gt p1 v8).2)))) (by kernel_rfl) b12 ?_
          refine AX.skip ?_
          refine AX.reg (its := [.auto {}, .auto { raw := true }]) [0, 1, 5, 7] [0] (s1 := ⟨[(0, .bs false 2 (List.map enc_si p1)), (1, .bs false 2 (List.map enc_si p2)), (5, .sl 0 0 v7.length), (7, .v (.int .i64 (IntKind.wrap .i64 (v8 + 1))))], [(0, .arr 4 (List.map enc_isii v7))]⟩) (C := True) (by kernel_rfl) trivial trivial ?_
          refine ⟨(fu, (v7, IntKind.wrap .i64 (v8 + 1))), h, Nat.lt_succ_self _, ?_⟩
          refine Wk.trans (Wk.forget [0, 1, 5, 7] [0] (s' := ⟨[(0, .bs false 2 (List.map enc_si p1)), (1, .bs false 2 (List.map enc_si p2)), (5, .sl 0 0 v7.length), (7, .v (.int .i64 (IntKind.wrap .i64 (v8 + 1))))], [(0, .arr 4 (List.map enc_isii v7))]⟩) (by kernel_rfl)) ?_
          exact Wk.refl _
      · replace h := cd_f b10 h
        refine AX.drw mixed (its := [.auto {}, .auto { y := some (.v (.bool false)) }]) [0, 1, 5, 7, 8, 66] [0] (s1 := ⟨[(0, .bs false 2 (List.map enc_si p1)), (1, .bs false 2 (List.map enc_si p2)), (5, .sl 0 0 v7.length), (7, .v (.int .i64 v8)), (8, .v (.int .i64 x9)), (66, .v (.bool false))], [(0, .arr 4 (List.map enc_isii v7))]⟩) (C := ((True) ∧ ((.v (.bool (decide (0 ≤ x9))) : AV) = (.v (.bool false) : AV))) ∧ True) (by kernel_rfl) ⟨⟨trivial, (congrArg (fun z => AV.v (.bool z)) b10)⟩, trivial⟩ trivial ?_
        refine AX.cond_false (by kernel_rfl) ?_
        refine AX.skip ?_
        refine AX.reg (its := [.auto {}, .auto { raw := true }]) [0, 1, 5, 7] [0] (s1 := ⟨[(0, .bs false 2 (List.map enc_si p1)), (1, .bs false 2 (List.map enc_si p2)), (5, .sl 0 0 v7.length), (7, .v (.int .i64 (IntKind.wrap .i64 (v8 + 1))))], [(0, .arr 4 (List.map enc_isii v7))]⟩) (C := True) (by kernel_rfl) trivial trivial ?_
        refine ⟨(fu, (v7, IntKind.wrap .i64 (v8 + 1))), h, Nat.lt_succ_self _, ?_⟩
        refine Wk.trans (Wk.forget [0, 1, 5, 7] [0] (s' := ⟨[(0, .bs false 2 (List.map enc_si p1)), (1, .bs false 2 (List.map enc_si p2)), (5, .sl 0 0 v7.length), (7, .v (.int .i64 (IntKind.wrap .i64 (v8 + 1))))], [(0, .arr 4 (List.map enc_isii v7))]⟩) (by kernel_rfl)) ?_
        exact Wk.refl _
    · replace h := cd_f b7 h
      refine AX.condF (decide (v8 < (p1.length : Int))) (by kernel_rfl) b7 ?_
      refine AX.exit ?_
      refine fin_wk (Wk.forget [0, 1, 5] [0] (s' := ⟨[(0, .bs false 2 (List.map enc_si p1)), (1, .bs false 2 (List.map enc_si p2)), (5, .sl 0 0 v7.length)], [(0, .arr 4 (List.map enc_isii v7))]⟩) (by kernel_rfl)) ?_
      have hr := Option.some.inj h
      subst hr
      exact ⟨_, Wk.refl _, ⟨rfl, rfl⟩⟩

theorem s_spec_differ_L3 (p1 : List (ByteArray × Int)) (p2 : List (ByteArray × Int)) (n : Nat) (g : (List (Int × ByteArray × Int × Int)) × Int) (out : List (Int × ByteArray × Int × Int)) (h : m_spec_differ_L3 p1 p2 n g.1 g.2 = some out) :
    AX Try.prog 115 0 (codeAt [1, 1, 1, 1, 0, 1, 1] (bodyOf Try.f61)) ((fun g : (List (Int × ByteArray × Int × Int)) × Int => (⟨[(0, .bs false 2 (List.map enc_si p1)), (1, .bs false 2 (List.map enc_si p2)), (5, .sl 0 0 g.1.length), (9, .v (.int .i64 g.2))], [(0, .arr 4 (List.map enc_isii g.1))]⟩ : S)) g) (fun ex s => ex = .exit 4 ∧ s = (fun o : List (Int × ByteArray × Int × Int) => (⟨[(5, .sl 0 0 o.length)], [(0, .arr 4 (List.map enc_isii o))]⟩ : S)) out) := by
  refine AX.wkpost ?_
  refine AX.loop (G := Nat × ((List (Int × ByteArray × Int × Int)) × Int)) (fun q => (fun g : (List (Int × ByteArray × Int × Int)) × Int => (⟨[(0, .bs false 2 (List.map enc_si p1)), (1, .bs false 2 (List.map enc_si p2)), (5, .sl 0 0 g.1.length), (9, .v (.int .i64 g.2))], [(0, .arr 4 (List.map enc_isii g.1))]⟩ : S)) q.2) (fun q => m_spec_differ_L3 p1 p2 q.1 q.2.1 q.2.2 = some out) (fun q => q.1) (n, g) h (Wk.refl _) ?_
  clear h
  rintro ⟨fu, v11, v12⟩ h
  cases fu with
  | zero => cases h
  | succ fu =>
    rw [m_spec_differ_L3] at h
    refine AX.seq ?_
    refine AX.seq ?_
    refine AX.reg (its := [.auto {}, .auto {}, .auto { y := some (.v (.int .i64 (p2.length : Int))) }]) [0, 1, 5, 9, 89] [0] (s1 := ⟨[(0, .bs false 2 (List.map enc_si p1)), (1, .bs false 2 (List.map enc_si p2)), (5, .sl 0 0 v11.length), (9, .v (.int .i64 v12)), (89, .v (.bool (decide (v12 < (p2.length : Int)))))], [(0, .arr 4 (List.map enc_isii v11))]⟩) (C := (True ∧ (AV.v (.int .i64 ((List.map enc_si p2).length : Int)) = AV.v (.int .i64 (p2.length : Int)))) ∧ True) (by kernel_rfl) ⟨⟨trivial, len_map enc_si p2⟩, trivial⟩ trivial ?_
    rcases bool_cases (decide (v12 < (p2.length : Int))) with b15 | b15
    · replace h := cd_t b15 h
      refine AX.condT (decide (v12 < (p2.length : Int))) (by kernel_rfl) b15 ?_
      refine AX.skip ?_
      refine AX.seq ?_
      refine AX.block ?_
      refine AX.seq ?_
      obtain ⟨g16, h⟩ := gd_e h
      obtain ⟨x13, e17, h⟩ := bd_e h
      refine AX.reg (its := [.auto {}, .auto {}, .auto {}, .auto { y := some (.be 2 (enc_si (gt p2 v12)) 0) }, .auto {}, .auto {}, .call 73 [.bs false 2 (List.map enc_si p1), .v (.string ((gt p2 v12).1))] (handO (rho ([] ++ [])) [] [] ++ []) (callEv [] [] (.v (.int .i64 x13)) [])]) [0, 1, 5, 9, 99] [0] (s1 := ⟨[(0, .bs false 2 (List.map enc_si p1)), (1, .bs false 2 (List.map enc_si p2)), (5, .sl 0 0 v11.length), (9, .v (.int .i64 v12)), (99, .v (.bool (decide (x13 < 0))))], [(0, .arr 4 (List.map enc_isii v11))]⟩) (C := ((0 ≤ v12 ∧ v12 < ((List.map enc_si p2).length : Int)) ∧ (AV.be 2 ((List.map enc_si p2).getD v12.toNat []) 0 = AV.be 2 (enc_si (gt p2 v12)) 0)) ∧ ((([.bs false 2 (List.map enc_si p1), .v (.string ((gt p2 v12).1))] : List AV) = [.bs false 2 (List.map enc_si p1), .v (.string ((gt p2 v12).1))]) ∧ True) ∧ True) (by kernel_rfl) ⟨idx_bs enc_si p2 v12 2 g16, ⟨⟨rfl, trivial⟩, trivial⟩⟩ ⟨call_ok (ks := []) (ns := []) (bor := []) (bobjs := []) (s_spec_indexOf p1 ((gt p2 v12).1) x13 e17) (.cons (.c1 (.c0 (.same _ (by kernel_rfl) (by kernel_rfl)))) (.cons (.c1 (.c0 (.same _ (by kernel_rfl) (by kernel_rfl)))) (.nil))) (by kernel_rfl) trivial, trivial⟩ ?_
      rcases bool_cases (decide (x13 < 0)) with b18 | b18
      · replace h := cd_t b18 h
        refine AX.condT (decide (x13 < 0)) (by kernel_rfl) b18 ?_
        obtain ⟨g19, h⟩ := gd_e h
        refine AX.drw mixed (its := [.auto {}, .auto {}, .auto {}, .auto { y := some (.be 2 (enc_si (gt p2 v12)) 0) }, .auto {}, .auto {}, .auto {}, .auto {}, .auto { y := some (.be 2 (enc_si (gt p2 v12)) 0) }, .auto {}, .auto {}, .auto {}, .auto { nk := 1 }, .auto { y := some (.sl 2 0 ((v11 ++ ([(0, (gt p2 v12).1, 0, (gt p2 v12).2)] : List (Int × ByteArray × Int × Int))).length)), els := some (List.map enc_isii v11), els2 := some (List.map enc_isii ([(0, (gt p2 v12).1, 0, (gt p2 v12).2)] : List (Int × ByteArray × Int × Int))), nk := 2 }]) [0, 1, 5, 9] [2] (s1 := ⟨[(0, .bs false 2 (List.map enc_si p1)), (1, .bs false 2 (List.map enc_si p2)), (5, .sl 2 0 ((v11 ++ ([(0, (gt p2 v12).1, 0, (gt p2 v12).2)] : List (Int × ByteArray × Int × Int))).length)), (9, .v (.int .i64 v12))], [(2, .arr 4 (List.map enc_isii v11 ++ List.map enc_isii ([(0, (gt p2 v12).1, 0, (gt p2 v12).2)] : List (Int × ByteArray × Int × Int))))]⟩) (C := ((0 ≤ v12 ∧ v12 < ((List.map enc_si p2).length : Int)) ∧ (AV.be 2 ((List.map enc_si p2).getD v12.toNat []) 0 = AV.be 2 (enc_si (gt p2 v12)) 0)) ∧ ((0 ≤ v12 ∧ v12 < ((List.map enc_si p2).length : Int)) ∧ (AV.be 2 ((List.map enc_si p2).getD v12.toNat []) 0 = AV.be 2 (enc_si (gt p2 v12)) 0)) ∧ ((((((List.map enc_isii v11).drop 0).take (v11.length) = List.map enc_isii v11) ∧ (((List.map enc_isii ([(0, (gt p2 v12).1, 0, (gt p2 v12).2)] : List (Int × ByteArray × Int × Int))).drop 0).take (([(0, (gt p2 v12).1, 0, (gt p2 v12).2)] : List (Int × ByteArray × Int × Int)).length) = List.map enc_isii ([(0, (gt p2 v12).1, 0, (gt p2 v12).2)] : List (Int × ByteArray × Int × Int)))) ∧ (List.map enc_isii v11).length + (List.map enc_isii ([(0, (gt p2 v12).1, 0, (gt p2 v12).2)] : List (Int × ByteArray × Int × Int))).length ≤ 1099511627776) ∧ (AV.sl 2 0 (List.map enc_isii v11 ++ List.map enc_isii ([(0, (gt p2 v12).1, 0, (gt p2 v12).2)] : List (Int × ByteArray × Int × Int))).length = AV.sl 2 0 (v11 ++ ([(0, (gt p2 v12).1, 0, (gt p2 v12).2)] : List (Int × ByteArray × Int × Int))).length)) ∧ True) (by kernel_rfl) ⟨idx_bs enc_si p2 v12 2 g16, ⟨idx_bs enc_si p2 v12 2 g16, ⟨⟨⟨⟨(dt_all (enc := enc_isii) rfl rfl), (dt_all (enc := enc_isii) rfl rfl)⟩, (by simp only [List.length_map, List.length_nil, List.length_replicate]; simpa using g19)⟩, sl_len (enc := enc_isii) (app_can (enc := enc_isii) rfl (rfl))⟩, trivial⟩⟩⟩ trivial ?_
        refine AX.reg (its := [.auto {}, .auto { raw := true }]) [0, 1, 5, 9] [2] (s1 := ⟨[(0, .bs false 2 (List.map enc_si p1)), (1, .bs false 2 (List.map enc_si p2)), (5, .sl 2 0 ((v11 ++ ([(0, (gt p2 v12).1, 0, (gt p2 v12).2)] : List (Int × ByteArray × Int × Int))).length)), (9, .v (.int .i64 (IntKind.wrap .i64 (v12 + 1))))], [(2, .arr 4 (List.map enc_isii v11 ++ List.map enc_isii ([(0, (gt p2 v12).1, 0, (gt p2 v12).2)] : List (Int × ByteArray × Int × Int))))]⟩) (C := True) (by kernel_rfl) trivial trivial ?_
        refine ⟨(fu, (v11 ++ ([(0, (gt p2 v12).1, 0, (gt p2 v12).2)] : List (Int × ByteArray × Int × Int)), IntKind.wrap .i64 (v12 + 1))), h, Nat.lt_succ_self _, ?_⟩
        refine Wk.trans (Wk.swap 0 2 (Nat.le_of_ble_eq_true (by kernel_rfl)) (Nat.le_of_ble_eq_true (by kernel_rfl)) rfl) ?_
        refine Wk.trans (Wk.forget [0, 1, 5, 9] [0] (s' := ⟨[(0, .bs false 2 (List.map enc_si p1)), (1, .bs false 2 (List.map enc_si p2)), (5, .sl 0 0 ((v11 ++ ([(0, (gt p2 v12).1, 0, (gt p2 v12).2)] : List (Int × ByteArray × Int × Int))).length)), (9, .v (.int .i64 (IntKind.wrap .i64 (v12 + 1))))], [(0, .arr 4 (List.map enc_isii v11 ++ List.map enc_isii ([(0, (gt p2 v12).1, 0, (gt p2 v12).2)] : List (Int × ByteArray × Int × Int))))]⟩) (by kernel_rfl)) ?_
        refine Wk.trans (Wk.of_eq (congrArg (fun z => (⟨[(0, .bs false 2 (List.map enc_si p1)), (1, .bs false 2 (List.map enc_si p2)), (5, .sl 0 0 ((v11 ++ ([(0, (gt p2 v12).1, 0, (gt p2 v12).2)] : List (Int × ByteArray × Int × Int))).length)), (9, .v (.int .i64 (IntKind.wrap .i64 (v12 + 1))))], [(0, .arr 4 (z))]⟩ : S)) (app_can (enc := enc_isii) rfl (rfl) : List.map enc_isii v11 ++ List.map enc_isii ([(0, (gt p2 v12).1, 0, (gt p2 v12).2)] : List (Int × ByteArray × Int × Int)) = List.map enc_isii (v11 ++ ([(0, (gt p2 v12).1, 0, (gt p2 v12).2)] : List (Int × ByteArray × Int × Int)))))) ?_
        exact Wk.refl _
      · replace h := cd_f b18 h
        refine AX.condF (decide (x13 < 0)) (by kernel_rfl) b18 ?_
        refine AX.skip ?_
        refine AX.reg (its := [.auto {}, .auto { raw := true }]) [0, 1, 5, 9] [0] (s1 := ⟨[(0, .bs false 2 (List.map enc_si p1)), (1, .bs false 2 (List.map enc_si p2)), (5, .sl 0 0 v11.length), (9, .v (.int .i64 (IntKind.wrap .i64 (v12 + 1))))], [(0, .arr 4 (List.map enc_isii v11))]⟩) (C := True) (by kernel_rfl) trivial trivial ?_
        refine ⟨(fu, (v11, IntKind.wrap .i64 (v12 + 1))), h, Nat.lt_succ_self _, ?_⟩
        refine Wk.trans (Wk.forget [0, 1, 5, 9] [0] (s' := ⟨[(0, .bs false 2 (List.map enc_si p1)), (1, .bs false 2 (List.map enc_si p2)), (5, .sl 0 0 v11.length), (9, .v (.int .i64 (IntKind.wrap .i64 (v12 + 1))))], [(0, .arr 4 (List.map enc_isii v11))]⟩) (by kernel_rfl)) ?_
        exact Wk.refl _
    · replace h := cd_f b15 h
      refine AX.condF (decide (v12 < (p2.length : Int))) (by kernel_rfl) b15 ?_
      refine AX.exit ?_
      refine fin_wk (Wk.forget [5] [0] (s' := ⟨[(5, .sl 0 0 v11.length)], [(0, .arr 4 (List.map enc_isii v11))]⟩) (by kernel_rfl)) ?_
      have hr := Option.some.inj h
      subst hr
      exact ⟨_, Wk.refl _, ⟨rfl, rfl⟩⟩

theorem s_spec_differ (p1 : List (ByteArray × Int)) (p2 : List (ByteArray × Int)) (r : List (Int × ByteArray × Int × Int)) (h : m_spec_differ p1 p2 = some r) :
    Eng.Spec Try.prog 61 [.bs false 2 (List.map enc_si p1), .bs false 2 (List.map enc_si p2)] [] (.sl 0 0 r.length) [.arr 4 (List.map enc_isii r)] := by
  unfold m_spec_differ at h
  refine Eng.Spec.body Try.func61 (by kernel_rfl) rfl (by kernel_rfl) ?_
  refine AX.wkpost ?_
  refine AX.seq ?_
  refine AX.reg (its := []) [0, 1] [] (s1 := ⟨[(0, .bs false 2 (List.map enc_si p1)), (1, .bs false 2 (List.map enc_si p2))], []⟩) (C := True) (by kernel_rfl) trivial trivial ?_
  refine AX.seq ?_
  refine AX.reg (its := [.auto { nk := 0 }]) [0, 1, 5] [0] (s1 := ⟨[(0, .bs false 2 (List.map enc_si p1)), (1, .bs false 2 (List.map enc_si p2)), (5, .sl 0 0 (([] : List (Int × ByteArray × Int × Int)).length))], [(0, .arr 4 (List.map enc_isii ([] : List (Int × ByteArray × Int × Int))))]⟩) (C := True) (by kernel_rfl) trivial trivial ?_
  refine AX.seq ?_
  refine AX.seq ?_
  refine AX.reg (its := []) [0, 1, 5, 6] [0] (s1 := ⟨[(0, .bs false 2 (List.map enc_si p1)), (1, .bs false 2 (List.map enc_si p2)), (5, .sl 0 0 (([] : List (Int × ByteArray × Int × Int)).length)), (6, .v (.int .i64 0))], [(0, .arr 4 (List.map enc_isii ([] : List (Int × ByteArray × Int × Int))))]⟩) (C := True) (by kernel_rfl) trivial trivial ?_
  refine AX.block ?_
  obtain ⟨x6, e6, h⟩ := bd_e h
  refine AX.wk (Wk.forget [0, 1, 5, 6] [0] (s' := ⟨[(0, .bs false 2 (List.map enc_si p1)), (1, .bs false 2 (List.map enc_si p2)), (5, .sl 0 0 (([] : List (Int × ByteArray × Int × Int)).length)), (6, .v (.int .i64 0))], [(0, .arr 4 (List.map enc_isii ([] : List (Int × ByteArray × Int × Int))))]⟩) (by kernel_rfl)) ?_
  refine AX.mono (s_spec_differ_L1 p1 p2 FU (([] : List (Int × ByteArray × Int × Int)), 0) x6 e6) ?_
  rintro _ _ ⟨rfl, rfl⟩
  skip
  refine AX.seq ?_
  refine AX.seq ?_
  refine AX.reg (its := []) [0, 1, 5, 7] [0] (s1 := ⟨[(0, .bs false 2 (List.map enc_si p1)), (1, .bs false 2 (List.map enc_si p2)), (5, .sl 0 0 x6.length), (7, .v (.int .i64 0))], [(0, .arr 4 (List.map enc_isii x6))]⟩) (C := True) (by kernel_rfl) trivial trivial ?_
  refine AX.block ?_
  obtain ⟨x10, e14, h⟩ := bd_e h
  refine AX.wk (Wk.forget [0, 1, 5, 7] [0] (s' := ⟨[(0, .bs false 2 (List.map enc_si p1)), (1, .bs false 2 (List.map enc_si p2)), (5, .sl 0 0 x6.length), (7, .v (.int .i64 0))], [(0, .arr 4 (List.map enc_isii x6))]⟩) (by kernel_rfl)) ?_
  refine AX.mono (s_spec_differ_L2 p1 p2 FU (x6, 0) x10 e14) ?_
  rintro _ _ ⟨rfl, rfl⟩
  skip
  refine AX.seq ?_
  refine AX.seq ?_
  refine AX.reg (its := []) [0, 1, 5, 9] [0] (s1 := ⟨[(0, .bs false 2 (List.map enc_si p1)), (1, .bs false 2 (List.map enc_si p2)), (5, .sl 0 0 x10.length), (9, .v (.int .i64 0))], [(0, .arr 4 (List.map enc_isii x10))]⟩) (C := True) (by kernel_rfl) trivial trivial ?_
  refine AX.block ?_
  obtain ⟨x14, e20, h⟩ := bd_e h
  refine AX.wk (Wk.forget [0, 1, 5, 9] [0] (s' := ⟨[(0, .bs false 2 (List.map enc_si p1)), (1, .bs false 2 (List.map enc_si p2)), (5, .sl 0 0 x10.length), (9, .v (.int .i64 0))], [(0, .arr 4 (List.map enc_isii x10))]⟩) (by kernel_rfl)) ?_
  refine AX.mono (s_spec_differ_L3 p1 p2 FU (x10, 0) x14 e20) ?_
  rintro _ _ ⟨rfl, rfl⟩
  skip
  refine AX.seq ?_
  refine AX.reg (its := []) [4] [0] (s1 := ⟨[(4, .sl 0 0 x14.length)], [(0, .arr 4 (List.map enc_isii x14))]⟩) (C := True) (by kernel_rfl) trivial trivial ?_
  refine AX.ret ?_
  refine fin_wk (Wk.forget [4] [0] (s' := ⟨[(4, .sl 0 0 x14.length)], [(0, .arr 4 (List.map enc_isii x14))]⟩) (by kernel_rfl)) ?_
  have hr := Option.some.inj h
  subst hr
  exact ⟨_, Wk.refl _, .inr rfl, ⟨[0], by kernel_rfl, ⟨rfl, trivial⟩, [.sl 0 0 x14.length], by kernel_rfl, by kernel_rfl⟩⟩

theorem s_spec_SameMeaning (p1 : List (ByteArray × Int)) (p2 : List (ByteArray × Int)) (r : Bool) (h : m_spec_SameMeaning p1 p2 = some r) :
    Eng.Spec Try.prog 30 [.agg [.bs false 2 (List.map enc_si p1)], .agg [.bs false 2 (List.map enc_si p2)]] [] (.v (.bool r)) [] := by
  unfold m_spec_SameMeaning at h
  refine Eng.Spec.body Try.func30 (by kernel_rfl) rfl (by kernel_rfl) ?_
  refine AX.wkpost ?_
  refine AX.seq ?_
  refine AX.reg (its := [.auto { nk := 0 }, .auto { nk := 1 }]) [2, 3] [0, 1] (s1 := ⟨[(2, .pt 0 0), (3, .pt 1 0)], [(0, .box [.bs false 2 (List.map enc_si p1)]), (1, .box [.bs false 2 (List.map enc_si p2)])]⟩) (C := True) (by kernel_rfl) trivial trivial ?_
  refine AX.seq ?_
  obtain ⟨x3, e1, h⟩ := bd_e h
  rcases bool_cases (x3) with b2 | b2
  · replace h := cd_t b2 h
    obtain ⟨x4, e3, h⟩ := bd_e h
    rcases bool_cases (x4) with b4 | b4
    · replace h := cd_t b4 h
      obtain ⟨x5, e5, h⟩ := bd_e h
      refine AX.reg (its := [.auto {}, .call 36 [.agg [.bs false 2 (List.map enc_si p1)]] (handO (rho ([] ++ [])) [] [] ++ []) (callEv [] [] (.v (.bool true)) []), .auto {}, .auto {}, .call 36 [.agg [.bs false 2 (List.map enc_si p2)]] (handO (rho ([] ++ [])) [] [] ++ []) (callEv [] [] (.v (.bool true)) []), .auto {}, .auto {}, .auto {}, .auto {}, .auto {}, .auto {}, .call 61 [.bs false 2 (List.map enc_si p1), .bs false 2 (List.map enc_si p2)] (handO (rho ([] ++ [2])) [] [] ++ []) (callEv [] [2] (.sl 0 0 x5.length) [.arr 4 (List.map enc_isii x5)])]) [4] [] (s1 := ⟨[(4, .v (.bool (decide ((x5.length : Int) = 0))))], []⟩) (C := ((([.agg [.bs false 2 (List.map enc_si p1)]] : List AV) = [.agg [.bs false 2 (List.map enc_si p1)]]) ∧ True) ∧ ((([.agg [.bs false 2 (List.map enc_si p2)]] : List AV) = [.agg [.bs false 2 (List.map enc_si p2)]]) ∧ True) ∧ ((([.bs false 2 (List.map enc_si p1), .bs false 2 (List.map enc_si p2)] : List AV) = [.bs false 2 (List.map enc_si p1), .bs false 2 (List.map enc_si p2)]) ∧ True) ∧ True) (by kernel_rfl) ⟨⟨rfl, trivial⟩, ⟨⟨rfl, trivial⟩, ⟨⟨rfl, trivial⟩, trivial⟩⟩⟩ ⟨call_ok (ks := []) (ns := []) (bor := []) (bobjs := []) (show Eng.Spec Try.prog 36 [.agg [.bs false 2 (List.map enc_si p1)]] [] (.v (.bool true)) [] from by have q := s_spec_validEnum p1 x3 e1; rw [b2] at q; exact q) (.cons (.c1 (.agg (.cons (.same _ (by kernel_rfl) (by kernel_rfl)) (.nil)))) (.nil)) (by kernel_rfl) trivial, ⟨call_ok (ks := []) (ns := []) (bor := []) (bobjs := []) (show Eng.Spec Try.prog 36 [.agg [.bs false 2 (List.map enc_si p2)]] [] (.v (.bool true)) [] from by have q := s_spec_validEnum p2 x4 e3; rw [b4] at q; exact q) (.cons (.c1 (.agg (.cons (.same _ (by kernel_rfl) (by kernel_rfl)) (.nil)))) (.nil)) (by kernel_rfl) trivial, ⟨call_ok (ks := []) (ns := [2]) (bor := []) (bobjs := []) (s_spec_differ p1 p2 x5 e5) (.cons (.c1 (.c0 (.same _ (by kernel_rfl) (by kernel_rfl)))) (.cons (.c1 (.c0 (.same _ (by kernel_rfl) (by kernel_rfl)))) (.nil))) (by kernel_rfl) trivial, trivial⟩⟩⟩ ?_
      refine AX.ret ?_
      refine fin_wk (Wk.forget [4] [] (s' := ⟨[(4, .v (.bool (decide ((x5.length : Int) = 0))))], []⟩) (by kernel_rfl)) ?_
      have hr := Option.some.inj h
      subst hr
      exact ⟨_, Wk.refl _, .inr rfl, ⟨[], by kernel_rfl, trivial, [.v (.bool (decide ((x5.length : Int) = 0)))], by kernel_rfl, by kernel_rfl⟩⟩
    · replace h := cd_f b4 h
      refine AX.reg (its := [.auto {}, .call 36 [.agg [.bs false 2 (List.map enc_si p1)]] (handO (rho ([] ++ [])) [] [] ++ []) (callEv [] [] (.v (.bool true)) []), .auto {}, .auto {}, .call 36 [.agg [.bs false 2 (List.map enc_si p2)]] (handO (rho ([] ++ [])) [] [] ++ []) (callEv [] [] (.v (.bool false)) [])]) [4] [] (s1 := ⟨[(4, .v (.bool false))], []⟩) (C := ((([.agg [.bs false 2 (List.map enc_si p1)]] : List AV) = [.agg [.bs false 2 (List.map enc_si p1)]]) ∧ True) ∧ ((([.agg [.bs false 2 (List.map enc_si p2)]] : List AV) = [.agg [.bs false 2 (List.map enc_si p2)]]) ∧ True) ∧ True) (by kernel_rfl) ⟨⟨rfl, trivial⟩, ⟨⟨rfl, trivial⟩, trivial⟩⟩ ⟨call_ok (ks := []) (ns := []) (bor := []) (bobjs := []) (show Eng.Spec Try.prog 36 [.agg [.bs false 2 (List.map enc_si p1)]] [] (.v (.bool true)) [] from by have q := s_spec_validEnum p1 x3 e1; rw [b2] at q; exact q) (.cons (.c1 (.agg (.cons (.same _ (by kernel_rfl) (by kernel_rfl)) (.nil)))) (.nil)) (by kernel_rfl) trivial, ⟨call_ok (ks := []) (ns := []) (bor := []) (bobjs := []) (show Eng.Spec Try.prog 36 [.agg [.bs false 2 (List.map enc_si p2)]] [] (.v (.bool false)) [] from by have q := s_spec_validEnum p2 x4 e3; rw [b4] at q; exact q) (.cons (.c1 (.agg (.cons (.same _ (by kernel_rfl) (by kernel_rfl)) (.nil)))) (.nil)) (by kernel_rfl) trivial, trivial⟩⟩ ?_
      refine AX.ret ?_
      refine fin_wk (Wk.forget [4] [] (s' := ⟨[(4, .v (.bool false))], []⟩) (by kernel_rfl)) ?_
      have hr := Option.some.inj h
      subst hr
      exact ⟨_, Wk.refl _, .inr rfl, ⟨[], by kernel_rfl, trivial, [.v (.bool false)], by kernel_rfl, by kernel_rfl⟩⟩
  · replace h := cd_f b2 h
    refine AX.reg (its := [.auto {}, .call 36 [.agg [.bs false 2 (List.map enc_si p1)]] (handO (rho ([] ++ [])) [] [] ++ []) (callEv [] [] (.v (.bool false)) [])]) [4] [] (s1 := ⟨[(4, .v (.bool false))], []⟩) (C := ((([.agg [.bs false 2 (List.map enc_si p1)]] : List AV) = [.agg [.bs false 2 (List.map enc_si p1)]]) ∧ True) ∧ True) (by kernel_rfl) ⟨⟨rfl, trivial⟩, trivial⟩ ⟨call_ok (ks := []) (ns := []) (bor := []) (bobjs := []) (show Eng.Spec Try.prog 36 [.agg [.bs false 2 (List.map enc_si p1)]] [] (.v (.bool false)) [] from by have q := s_spec_validEnum p1 x3 e1; rw [b2] at q; exact q) (.cons (.c1 (.agg (.cons (.same _ (by kernel_rfl) (by kernel_rfl)) (.nil)))) (.nil)) (by kernel_rfl) trivial, trivial⟩ ?_
    refine AX.ret ?_
    refine fin_wk (Wk.forget [4] [] (s' := ⟨[(4, .v (.bool false))], []⟩) (by kernel_rfl)) ?_
    have hr := Option.some.inj h
    subst hr
    exact ⟨_, Wk.refl _, .inr rfl, ⟨[], by kernel_rfl, trivial, [.v (.bool false)], by kernel_rfl, by kernel_rfl⟩⟩

theorem s_slices_Clone_si (p1 : List (ByteArray × Int)) (r : List (ByteArray × Int)) (h : m_slices_Clone_si p1 = some r) :
    Eng.Spec Try.prog 67 [.bs false 2 (List.map enc_si p1)] [] (.sl 0 0 r.length) [.arr 2 (List.map enc_si r)] := by
  unfold m_slices_Clone_si at h
  obtain ⟨g1, h⟩ := gd_e h
  have hr := Option.some.inj h
  subst hr
  refine Eng.Spec.body Try.func67 (by kernel_rfl) rfl (by kernel_rfl) ?_
  refine AX.wkpost ?_
  refine AX.seq ?_
  refine AX.reg (its := []) [0] [] (s1 := ⟨[(0, .bs false 2 (List.map enc_si p1))], []⟩) (C := True) (by kernel_rfl) trivial trivial ?_
  refine AX.nilEq (l := false) (sz := 2) (es := (List.map enc_si p1)) (s0 := (⟨[(2, .sl 1 0 p1.length)], [(1, .arr 2 (List.map enc_si p1))]⟩ : S)) .ret rfl rfl rfl rfl rfl rfl Try.underlying23 (by kernel_rfl) (by kernel_rfl) (by kernel_rfl) ⟨_, Wk.refl _, .inr rfl, ⟨[1], by kernel_rfl, ⟨rfl, trivial⟩, [.sl 1 0 p1.length], by kernel_rfl, by kernel_rfl⟩⟩ ?_
  intro b hb
  rcases bool_cases b with h1 | h1
  · subst h1
    have hp : p1 = [] := by simpa using hb rfl
    subst hp
    refine AX.condT true (by kernel_rfl) rfl ?_
    refine AX.seq ?_
    refine AX.reg (its := []) [2] [] (s1 := ⟨[(2, .v (.slice none 0 0))], []⟩) (C := True) (by kernel_rfl) trivial trivial ?_
    refine AX.wk (Wk.mat 2 1 2 (by kernel_rfl) (Nat.le_of_ble_eq_true (by kernel_rfl)) (by kernel_rfl) rfl) ?_
    refine AX.wk (Wk.forget [2] [1] (s' := ⟨[(2, .sl 1 0 0)], [(1, .arr 2 [])]⟩) (by kernel_rfl)) ?_
    exact AX.ret ⟨rfl, rfl⟩
  · subst h1
    refine AX.condF false (by kernel_rfl) rfl ?_
    refine AX.skip ?_
    refine AX.seq ?_
    refine AX.reg (its := [.auto { nk := 0 }, .auto {}, .auto { y := some (.sl 1 0 p1.length), nk := 1 }]) [2] [1] (s1 := ⟨[(2, .sl 1 0 p1.length)], [(1, .arr 2 (List.map enc_si p1))]⟩) (C := ((((True) ∧ (True)) ∧ (([] : List (List Value)).length + (List.map enc_si p1).length ≤ 1099511627776)) ∧ (AV.sl 1 0 (List.map enc_si p1).length = AV.sl 1 0 p1.length)) ∧ True) (by kernel_rfl) ⟨⟨⟨⟨trivial, trivial⟩, by simpa using g1⟩, sl_len (enc := enc_si) rfl⟩, trivial⟩ trivial ?_
    exact AX.ret ⟨rfl, rfl⟩

theorem s_slices_Clip_si (p1 : List (ByteArray × Int)) (r : Unit) (h : m_slices_Clip_si p1 = some r) :
    Eng.Spec Try.prog 66 [.bs false 2 (List.map enc_si p1)] [] (.bs false 2 (List.map enc_si (sub p1 (0 : Int) (p1.length : Int)))) [] := by
  unfold m_slices_Clip_si at h
  refine Eng.Spec.body Try.func66 (by kernel_rfl) rfl (by kernel_rfl) ?_
  refine AX.wkpost ?_
  refine AX.seq ?_
  refine AX.reg (its := []) [0] [] (s1 := ⟨[(0, .bs false 2 (List.map enc_si p1))], []⟩) (C := True) (by kernel_rfl) trivial trivial ?_
  refine AX.seq ?_
  obtain ⟨g1, h⟩ := gd_e h
  refine AX.reg (its := [.auto {}, .auto {}, .auto { y := some (.v (.int .i64 (p1.length : Int))) }, .auto {}, .auto { y := some (.v (.int .i64 (p1.length : Int))) }, .auto { y := some (.bs false 2 (List.map enc_si (sub p1 (0 : Int) (p1.length : Int)))) }]) [2] [] (s1 := ⟨[(2, .bs false 2 (List.map enc_si (sub p1 (0 : Int) (p1.length : Int))))], []⟩) (C := (True ∧ (AV.v (.int .i64 ((List.map enc_si p1).length : Int)) = AV.v (.int .i64 (p1.length : Int)))) ∧ (True ∧ (AV.v (.int .i64 ((List.map enc_si p1).length : Int)) = AV.v (.int .i64 (p1.length : Int)))) ∧ ((0 ≤ (0 : Int) ∧ (0 : Int) ≤ (p1.length : Int) ∧ (p1.length : Int) ≤ (p1.length : Int) ∧ (p1.length : Int) ≤ ((List.map enc_si p1).length : Int)) ∧ (AV.bs false 2 (((List.map enc_si p1).drop (0 : Int).toNat).take ((p1.length : Int).toNat - (0 : Int).toNat)) = (.bs false 2 (List.map enc_si (sub p1 (0 : Int) (p1.length : Int))) : AV))) ∧ True) (by kernel_rfl) ⟨⟨trivial, len_map enc_si p1⟩, ⟨⟨trivial, len_map enc_si p1⟩, ⟨⟨by first | exact g1 | simpa only [List.length_map] using g1, by first | exact sub_can enc_si p1 (0 : Int) (p1.length : Int) false 2 | (simp only [List.length_map]; exact sub_can enc_si p1 (0 : Int) (p1.length : Int) false 2)⟩, trivial⟩⟩⟩ trivial ?_
  refine AX.ret ?_
  refine fin_wk (Wk.forget [2] [] (s' := ⟨[(2, .bs false 2 (List.map enc_si (sub p1 (0 : Int) (p1.length : Int))))], []⟩) (by kernel_rfl)) ?_
  have hr := Option.some.inj h
  subst hr
  exact ⟨_, Wk.refl _, .inr rfl, ⟨[], by kernel_rfl, trivial, [.bs false 2 (List.map enc_si (sub p1 (0 : Int) (p1.length : Int)))], by kernel_rfl, by kernel_rfl⟩⟩

theorem s_slices_Clip_hsi (p1 : List (ByteArray × Int)) (r : Unit) (h : m_slices_Clip_hsi p1 = some r) :
    Eng.Spec Try.prog 66 [.sl 0 0 p1.length] [.arr 2 (List.map enc_si p1)] (.sl 0 0 p1.length) [.arr 2 (List.map enc_si p1)] := by
  unfold m_slices_Clip_hsi at h
  refine Eng.Spec.body Try.func66 (by kernel_rfl) rfl (by kernel_rfl) ?_
  refine AX.wkpost ?_
  refine AX.seq ?_
  refine AX.reg (its := []) [0] [0] (s1 := ⟨[(0, .sl 0 0 p1.length)], [(0, .arr 2 (List.map enc_si p1))]⟩) (C := True) (by kernel_rfl) trivial trivial ?_
  refine AX.seq ?_
  refine AX.reg (its := [.auto {}, .auto {}, .auto {}, .auto {}, .auto {}, .auto { y := some (.sl 0 0 p1.length) }]) [2] [0] (s1 := ⟨[(2, .sl 0 0 p1.length)], [(0, .arr 2 (List.map enc_si p1))]⟩) (C := ((0 ≤ (0 : Int) ∧ (0 : Int) ≤ (p1.length : Int) ∧ (p1.length : Int) ≤ (p1.length : Int) ∧ (p1.length : Int) ≤ (p1.length : Int)) ∧ (AV.sl 0 (0 + (0 : Int).toNat) ((p1.length : Int).toNat - (0 : Int).toNat) = AV.sl 0 0 p1.length)) ∧ True) (by kernel_rfl) ⟨⟨⟨by omega, by omega, by omega, by omega⟩, rfl⟩, trivial⟩ trivial ?_
  refine AX.ret ?_
  refine fin_wk (Wk.forget [2] [0] (s' := ⟨[(2, .sl 0 0 p1.length)], [(0, .arr 2 (List.map enc_si p1))]⟩) (by kernel_rfl)) ?_
  have hr := Option.some.inj h
  subst hr
  exact ⟨_, Wk.refl _, .inr rfl, ⟨[], by kernel_rfl, ⟨rfl, trivial⟩, [.sl 0 0 p1.length], by kernel_rfl, by kernel_rfl⟩⟩

theorem s_impl_clone_si (p1 : List (ByteArray × Int)) (r : List (ByteArray × Int)) (h : m_impl_clone_si p1 = some r) :
    Eng.Spec Try.prog 34 [.bs false 2 (List.map enc_si p1)] [] (.sl 0 0 r.length) [.arr 2 (List.map enc_si r)] := by
  unfold m_impl_clone_si at h
  refine Eng.Spec.body Try.func34 (by kernel_rfl) rfl (by kernel_rfl) ?_
  refine AX.wkpost ?_
  refine AX.seq ?_
  refine AX.reg (its := []) [0] [] (s1 := ⟨[(0, .bs false 2 (List.map enc_si p1))], []⟩) (C := True) (by kernel_rfl) trivial trivial ?_
  refine AX.seq ?_
  obtain ⟨x2, e1, h⟩ := bd_e h
  obtain ⟨x3, e2, h⟩ := bd_e h
  refine AX.reg (its := [.auto {}, .call 67 [.bs false 2 (List.map enc_si p1)] (handO (rho ([] ++ [0])) [] [] ++ []) (callEv [] [0] (.sl 0 0 x2.length) [.arr 2 (List.map enc_si x2)]), .call 66 [.sl 0 0 x2.length] (handO (rho ([0] ++ [])) [0] [.arr 2 (List.map enc_si x2)] ++ []) (callEv [0] [] (.sl 0 0 x2.length) [.arr 2 (List.map enc_si x2)])]) [2] [0] (s1 := ⟨[(2, .sl 0 0 x2.length)], [(0, .arr 2 (List.map enc_si x2))]⟩) (C := ((([.bs false 2 (List.map enc_si p1)] : List AV) = [.bs false 2 (List.map enc_si p1)]) ∧ True) ∧ ((([.sl 0 0 x2.length] : List AV) = [.sl 0 0 x2.length]) ∧ (AO.arr 2 (List.map enc_si x2) = AO.arr 2 (List.map enc_si x2)) ∧ True) ∧ True) (by kernel_rfl) ⟨⟨rfl, trivial⟩, ⟨⟨rfl, rfl, trivial⟩, trivial⟩⟩ ⟨call_ok (ks := []) (ns := [0]) (bor := []) (bobjs := []) (s_slices_Clone_si p1 x2 e1) (.cons (.c1 (.c0 (.same _ (by kernel_rfl) (by kernel_rfl)))) (.nil)) (by kernel_rfl) trivial, ⟨call_ok (ks := [0]) (ns := []) (bor := []) (bobjs := []) (s_slices_Clip_hsi x2 x3 e2) (.cons (.c1 (.c0 (.same _ (by kernel_rfl) (by kernel_rfl)))) (.nil)) (by kernel_rfl) ⟨.inr rfl, trivial⟩, trivial⟩⟩ ?_
  refine AX.ret ?_
  refine fin_wk (Wk.forget [2] [0] (s' := ⟨[(2, .sl 0 0 x2.length)], [(0, .arr 2 (List.map enc_si x2))]⟩) (by kernel_rfl)) ?_
  have hr := Option.some.inj h
  subst hr
  exact ⟨_, Wk.refl _, .inr rfl, ⟨[0], by kernel_rfl, ⟨rfl, trivial⟩, [.sl 0 0 x2.length], by kernel_rfl, by kernel_rfl⟩⟩

theorem s_cmp_isNaN (p1 : Int) (r : Unit) (h : m_cmp_isNaN p1 = some r) :
    Eng.Spec Try.prog 83 [.v (.int .i64 p1)] [] (.v (.bool (!decide (p1 = p1)))) [] := by
  unfold m_cmp_isNaN at h
  refine Eng.Spec.body Try.func83 (by kernel_rfl) rfl (by kernel_rfl) ?_
  refine AX.wkpost ?_
  refine AX.seq ?_
  refine AX.reg (its := []) [0] [] (s1 := ⟨[(0, .v (.int .i64 p1))], []⟩) (C := True) (by kernel_rfl) trivial trivial ?_
  refine AX.seq ?_
  refine AX.reg (its := []) [2] [] (s1 := ⟨[(2, .v (.bool (!decide (p1 = p1))))], []⟩) (C := True) (by kernel_rfl) trivial trivial ?_
  refine AX.ret ?_
  refine fin_wk (Wk.forget [2] [] (s' := ⟨[(2, .v (.bool (!decide (p1 = p1))))], []⟩) (by kernel_rfl)) ?_
  have hr := Option.some.inj h
  subst hr
  exact ⟨_, Wk.refl _, .inr rfl, ⟨[], by kernel_rfl, trivial, [.v (.bool (!decide (p1 = p1)))], by kernel_rfl, by kernel_rfl⟩⟩

theorem s_cmp_Compare (p1 : Int) (p2 : Int) (r : Int) (h : m_cmp_Compare p1 p2 = some r) :
    Eng.Spec Try.prog 55 [.v (.int .i64 p1), .v (.int .i64 p2)] [] (.v (.int .i64 r)) [] := by
  unfold m_cmp_Compare at h
  refine Eng.Spec.body Try.func55 (by kernel_rfl) rfl (by kernel_rfl) ?_
  refine AX.wkpost ?_
  refine AX.seq ?_
  refine AX.reg (its := []) [0, 1] [] (s1 := ⟨[(0, .v (.int .i64 p1)), (1, .v (.int .i64 p2))], []⟩) (C := True) (by kernel_rfl) trivial trivial ?_
  refine AX.seq ?_
  obtain ⟨x3, e1, h⟩ := bd_e h
  refine AX.reg (its := [.auto {}, .call 83 [.v (.int .i64 p1)] (handO (rho ([] ++ [])) [] [] ++ []) (callEv [] [] (.v (.bool (!decide (p1 = p1)))) [])]) [0, 1, 5] [] (s1 := ⟨[(0, .v (.int .i64 p1)), (1, .v (.int .i64 p2)), (5, .v (.bool (!decide (p1 = p1))))], []⟩) (C := ((([.v (.int .i64 p1)] : List AV) = [.v (.int .i64 p1)]) ∧ True) ∧ True) (by kernel_rfl) ⟨⟨rfl, trivial⟩, trivial⟩ ⟨call_ok (ks := []) (ns := []) (bor := []) (bobjs := []) (s_cmp_isNaN p1 x3 e1) (.cons (.c1 (.c0 (.same _ (by kernel_rfl) (by kernel_rfl)))) (.nil)) (by kernel_rfl) trivial, trivial⟩ ?_
  refine AX.seq ?_
  obtain ⟨x4, e2, h⟩ := bd_e h
  refine AX.reg (its := [.auto {}, .call 83 [.v (.int .i64 p2)] (handO (rho ([] ++ [])) [] [] ++ []) (callEv [] [] (.v (.bool (!decide (p2 = p2)))) [])]) [0, 1, 5, 6] [] (s1 := ⟨[(0, .v (.int .i64 p1)), (1, .v (.int .i64 p2)), (5, .v (.bool (!decide (p1 = p1)))), (6, .v (.bool (!decide (p2 = p2))))], []⟩) (C := ((([.v (.int .i64 p2)] : List AV) = [.v (.int .i64 p2)]) ∧ True) ∧ True) (by kernel_rfl) ⟨⟨rfl, trivial⟩, trivial⟩ ⟨call_ok (ks := []) (ns := []) (bor := []) (bobjs := []) (s_cmp_isNaN p2 x4 e2) (.cons (.c1 (.c0 (.same _ (by kernel_rfl) (by kernel_rfl)))) (.nil)) (by kernel_rfl) trivial, trivial⟩ ?_
  refine AX.seq ?_
  refine AX.seq ?_
  refine AX.reg (its := []) [0, 1, 6, 11] [] (s1 := ⟨[(0, .v (.int .i64 p1)), (1, .v (.int .i64 p2)), (6, .v (.bool (!decide (p2 = p2)))), (11, .v (.bool (!decide (p1 = p1))))], []⟩) (C := True) (by kernel_rfl) trivial trivial ?_
  rcases bool_cases ((!decide (p1 = p1))) with b3 | b3
  · replace h := cd_t b3 h
    refine AX.condT ((!decide (p1 = p1))) (by kernel_rfl) b3 ?_
    refine AX.seq ?_
    refine AX.seq ?_
    refine AX.reg (its := []) [12] [] (s1 := ⟨[(12, .v (.bool (!decide (p2 = p2))))], []⟩) (C := True) (by kernel_rfl) trivial trivial ?_
    rcases bool_cases ((!decide (p2 = p2))) with b4 | b4
    · replace h := cd_t b4 h
      refine AX.condT ((!decide (p2 = p2))) (by kernel_rfl) b4 ?_
      refine AX.seq ?_
      refine AX.reg (its := []) [4] [] (s1 := ⟨[(4, .v (.int .i64 0))], []⟩) (C := True) (by kernel_rfl) trivial trivial ?_
      refine AX.ret ?_
      refine fin_wk (Wk.forget [4] [] (s' := ⟨[(4, .v (.int .i64 0))], []⟩) (by kernel_rfl)) ?_
      have hr := Option.some.inj h
      subst hr
      exact ⟨_, Wk.refl _, .inr rfl, ⟨[], by kernel_rfl, trivial, [.v (.int .i64 0)], by kernel_rfl, by kernel_rfl⟩⟩
    · replace h := cd_f b4 h
      refine AX.condF ((!decide (p2 = p2))) (by kernel_rfl) b4 ?_
      refine AX.skip ?_
      refine AX.seq ?_
      refine AX.reg (its := []) [4] [] (s1 := ⟨[(4, .v (.int .i64 (-1)))], []⟩) (C := True) (by kernel_rfl) trivial trivial ?_
      refine AX.ret ?_
      refine fin_wk (Wk.forget [4] [] (s' := ⟨[(4, .v (.int .i64 (-1)))], []⟩) (by kernel_rfl)) ?_
      have hr := Option.some.inj h
      subst hr
      exact ⟨_, Wk.refl _, .inr rfl, ⟨[], by kernel_rfl, trivial, [.v (.int .i64 (-1))], by kernel_rfl, by kernel_rfl⟩⟩
  · replace h := cd_f b3 h
    refine AX.condF ((!decide (p1 = p1))) (by kernel_rfl) b3 ?_
    refine AX.skip ?_
    refine AX.seq ?_
    refine AX.seq ?_
    refine AX.reg (its := []) [0, 1, 13] [] (s1 := ⟨[(0, .v (.int .i64 p1)), (1, .v (.int .i64 p2)), (13, .v (.bool (!decide (p2 = p2))))], []⟩) (C := True) (by kernel_rfl) trivial trivial ?_
    rcases bool_cases ((!decide (p2 = p2))) with b5 | b5
    · replace h := cd_t b5 h
      refine AX.condT ((!decide (p2 = p2))) (by kernel_rfl) b5 ?_
      refine AX.seq ?_
      refine AX.reg (its := []) [4] [] (s1 := ⟨[(4, .v (.int .i64 1))], []⟩) (C := True) (by kernel_rfl) trivial trivial ?_
      refine AX.ret ?_
      refine fin_wk (Wk.forget [4] [] (s' := ⟨[(4, .v (.int .i64 1))], []⟩) (by kernel_rfl)) ?_
      have hr := Option.some.inj h
      subst hr
      exact ⟨_, Wk.refl _, .inr rfl, ⟨[], by kernel_rfl, trivial, [.v (.int .i64 1)], by kernel_rfl, by kernel_rfl⟩⟩
    · replace h := cd_f b5 h
      refine AX.condF ((!decide (p2 = p2))) (by kernel_rfl) b5 ?_
      refine AX.skip ?_
      refine AX.seq ?_
      refine AX.seq ?_
      refine AX.reg (its := []) [0, 1, 16] [] (s1 := ⟨[(0, .v (.int .i64 p1)), (1, .v (.int .i64 p2)), (16, .v (.bool (decide (p1 < p2))))], []⟩) (C := True) (by kernel_rfl) trivial trivial ?_
      rcases bool_cases (decide (p1 < p2)) with b6 | b6
      · replace h := cd_t b6 h
        refine AX.condT (decide (p1 < p2)) (by kernel_rfl) b6 ?_
        refine AX.seq ?_
        refine AX.reg (its := []) [4] [] (s1 := ⟨[(4, .v (.int .i64 (-1)))], []⟩) (C := True) (by kernel_rfl) trivial trivial ?_
        refine AX.ret ?_
        refine fin_wk (Wk.forget [4] [] (s' := ⟨[(4, .v (.int .i64 (-1)))], []⟩) (by kernel_rfl)) ?_
        have hr := Option.some.inj h
        subst hr
        exact ⟨_, Wk.refl _, .inr rfl, ⟨[], by kernel_rfl, trivial, [.v (.int .i64 (-1))], by kernel_rfl, by kernel_rfl⟩⟩
      · replace h := cd_f b6 h
        refine AX.condF (decide (p1 < p2)) (by kernel_rfl) b6 ?_
        refine AX.skip ?_
        refine AX.seq ?_
        refine AX.seq ?_
        refine AX.reg (its := []) [19] [] (s1 := ⟨[(19, .v (.bool (decide (p2 < p1))))], []⟩) (C := True) (by kernel_rfl) trivial trivial ?_
        rcases bool_cases (decide (p2 < p1)) with b7 | b7
        · replace h := cd_t b7 h
          refine AX.condT (decide (p2 < p1)) (by kernel_rfl) b7 ?_
          refine AX.seq ?_
          refine AX.reg (its := []) [4] [] (s1 := ⟨[(4, .v (.int .i64 1))], []⟩) (C := True) (by kernel_rfl) trivial trivial ?_
          refine AX.ret ?_
          refine fin_wk (Wk.forget [4] [] (s' := ⟨[(4, .v (.int .i64 1))], []⟩) (by kernel_rfl)) ?_
          have hr := Option.some.inj h
          subst hr
          exact ⟨_, Wk.refl _, .inr rfl, ⟨[], by kernel_rfl, trivial, [.v (.int .i64 1)], by kernel_rfl, by kernel_rfl⟩⟩
        · replace h := cd_f b7 h
          refine AX.condF (decide (p2 < p1)) (by kernel_rfl) b7 ?_
          refine AX.skip ?_
          refine AX.seq ?_
          refine AX.reg (its := []) [4] [] (s1 := ⟨[(4, .v (.int .i64 0))], []⟩) (C := True) (by kernel_rfl) trivial trivial ?_
          refine AX.ret ?_
          refine fin_wk (Wk.forget [4] [] (s' := ⟨[(4, .v (.int .i64 0))], []⟩) (by kernel_rfl)) ?_
          have hr := Option.some.inj h
          subst hr
          exact ⟨_, Wk.refl _, .inr rfl, ⟨[], by kernel_rfl, trivial, [.v (.int .i64 0)], by kernel_rfl, by kernel_rfl⟩⟩

theorem s_impl_SortEnum_1 (p1 : ByteArray) (p2 : Int) (p3 : ByteArray) (p4 : Int) (r : Int) (h : m_impl_SortEnum_1 p1 p2 p3 p4 = some r) :
    Eng.Spec Try.prog 54 [.agg [.v (.string p1), .v (.int .i64 p2)], .agg [.v (.string p3), .v (.int .i64 p4)]] [] (.v (.int .i64 r)) [] := by
  unfold m_impl_SortEnum_1 at h
  refine Eng.Spec.body Try.func54 (by kernel_rfl) rfl (by kernel_rfl) ?_
  refine AX.wkpost ?_
  refine AX.seq ?_
  refine AX.reg (its := [.auto { nk := 0 }, .auto { nk := 1 }]) [2, 3] [0, 1] (s1 := ⟨[(2, .pt 0 0), (3, .pt 1 0)], [(0, .box [.v (.string p1), .v (.int .i64 p2)]), (1, .box [.v (.string p3), .v (.int .i64 p4)])]⟩) (C := True) (by kernel_rfl) trivial trivial ?_
  refine AX.seq ?_
  obtain ⟨x5, e1, h⟩ := bd_e h
  refine AX.reg (its := [.auto {}, .auto {}, .auto {}, .auto {}, .call 55 [.v (.int .i64 p2), .v (.int .i64 p4)] (handO (rho ([] ++ [])) [] [] ++ []) (callEv [] [] (.v (.int .i64 x5)) [])]) [4] [] (s1 := ⟨[(4, .v (.int .i64 x5))], []⟩) (C := ((([.v (.int .i64 p2), .v (.int .i64 p4)] : List AV) = [.v (.int .i64 p2), .v (.int .i64 p4)]) ∧ True) ∧ True) (by kernel_rfl) ⟨⟨rfl, trivial⟩, trivial⟩ ⟨call_ok (ks := []) (ns := []) (bor := []) (bobjs := []) (s_cmp_Compare p2 p4 x5 e1) (.cons (.c1 (.c0 (.same _ (by kernel_rfl) (by kernel_rfl)))) (.cons (.c1 (.c0 (.same _ (by kernel_rfl) (by kernel_rfl)))) (.nil))) (by kernel_rfl) trivial, trivial⟩ ?_
  refine AX.ret ?_
  refine fin_wk (Wk.forget [4] [] (s' := ⟨[(4, .v (.int .i64 x5))], []⟩) (by kernel_rfl)) ?_
  have hr := Option.some.inj h
  subst hr
  exact ⟨_, Wk.refl _, .inr rfl, ⟨[], by kernel_rfl, trivial, [.v (.int .i64 x5)], by kernel_rfl, by kernel_rfl⟩⟩

theorem s_slices_insertionSortCmpFunc_h_SortEnum_1_si_L2 (p1 : Int) (p2 : Int) (v4 : Int) (n : Nat) (g : Int × (List (ByteArray × Int))) (out : List (ByteArray × Int)) (h : m_slices_insertionSortCmpFunc_h_SortEnum_1_si_L2 p1 p2 v4 n g.1 g.2 = some out) :
    AX Try.prog 53 1 (codeAt [1, 1, 1, 1, 0, 1, 1, 1] (bodyOf Try.f93)) ((fun g : Int × (List (ByteArray × Int)) => (⟨[(0, .sl 0 0 g.2.length), (1, .v (.int .i64 p1)), (2, .v (.int .i64 p2)), (3, .fn 54 []), (8, .v (.int .i64 v4)), (9, .v (.int .i64 g.1))], [(0, .arr 2 (List.map enc_si g.2))]⟩ : S)) g) (fun ex s => ex = .exit 2 ∧ s = (fun o : List (ByteArray × Int) => (⟨[(0, .sl 0 0 o.length), (1, .v (.int .i64 p1)), (2, .v (.int .i64 p2)), (3, .fn 54 []), (8, .v (.int .i64 v4))], [(0, .arr 2 (List.map enc_si o))]⟩ : S)) out) := by
  refine AX.wkpost ?_
  refine AX.loop (G := Nat × (Int × (List (ByteArray × Int)))) (fun q => (fun g : Int × (List (ByteArray × Int)) => (⟨[(0, .sl 0 0 g.2.length), (1, .v (.int .i64 p1)), (2, .v (.int .i64 p2)), (3, .fn 54 []), (8, .v (.int .i64 v4)), (9, .v (.int .i64 g.1))], [(0, .arr 2 (List.map enc_si g.2))]⟩ : S)) q.2) (fun q => m_slices_insertionSortCmpFunc_h_SortEnum_1_si_L2 p1 p2 v4 q.1 q.2.1 q.2.2 = some out) (fun q => q.1) (n, g) h (Wk.refl _) ?_
  clear h
  rintro ⟨fu, v6, v7⟩ h
  cases fu with
  | zero => cases h
  | succ fu =>
    rw [m_slices_insertionSortCmpFunc_h_SortEnum_1_si_L2] at h
    refine AX.seq ?_
    refine AX.seq ?_
    rcases bool_cases (decide (p1 < v6)) with b2 | b2
    · replace h := cd_t b2 h
      obtain ⟨g3, h⟩ := gd_e h
      obtain ⟨g4, h⟩ := gd_e h
      obtain ⟨x8, e5, h⟩ := bd_e h
      refine AX.drw mixed (its := [.auto {}, .auto {}, .auto { y := some (.v (.bool true)) }, .auto {}, .auto {}, .auto {}, .auto {}, .auto {}, .auto { y := some (.agg [.v (.string ((gt v7 v6).1)), .v (.int .i64 ((gt v7 v6).2))]) }, .auto {}, .auto {}, .auto { raw := true }, .auto {}, .auto { y := some (.agg [.v (.string ((gt v7 (IntKind.wrap .i64 (v6 - 1))).1)), .v (.int .i64 ((gt v7 (IntKind.wrap .i64 (v6 - 1))).2))]) }, .call 54 [.agg [.v (.string ((gt v7 v6).1)), .v (.int .i64 ((gt v7 v6).2))], .agg [.v (.string ((gt v7 (IntKind.wrap .i64 (v6 - 1))).1)), .v (.int .i64 ((gt v7 (IntKind.wrap .i64 (v6 - 1))).2))]] (handO (rho ([] ++ [])) [] [] ++ []) (callEv [] [] (.v (.int .i64 x8)) [])]) [0, 1, 2, 3, 8, 9, 34] [0] (s1 := ⟨[(0, .sl 0 0 v7.length), (1, .v (.int .i64 p1)), (2, .v (.int .i64 p2)), (3, .fn 54 []), (8, .v (.int .i64 v4)), (9, .v (.int .i64 v6)), (34, .v (.bool (decide (x8 < 0))))], [(0, .arr 2 (List.map enc_si v7))]⟩) (C := ((True) ∧ ((.v (.bool (decide (p1 < v6))) : AV) = (.v (.bool true) : AV))) ∧ (0 ≤ v6 ∧ v6 < (v7.length : Int)) ∧ (True ∧ (AV.agg ((((List.map enc_si v7).getD (0 + v6.toNat) []).drop 0 |>.take 2).map .v) = .agg [.v (.string ((gt v7 v6).1)), .v (.int .i64 ((gt v7 v6).2))])) ∧ (0 ≤ (IntKind.wrap .i64 (v6 - 1)) ∧ (IntKind.wrap .i64 (v6 - 1)) < (v7.length : Int)) ∧ (True ∧ (AV.agg ((((List.map enc_si v7).getD (0 + (IntKind.wrap .i64 (v6 - 1)).toNat) []).drop 0 |>.take 2).map .v) = .agg [.v (.string ((gt v7 (IntKind.wrap .i64 (v6 - 1))).1)), .v (.int .i64 ((gt v7 (IntKind.wrap .i64 (v6 - 1))).2))])) ∧ ((([.agg [.v (.string ((gt v7 v6).1)), .v (.int .i64 ((gt v7 v6).2))], .agg [.v (.string ((gt v7 (IntKind.wrap .i64 (v6 - 1))).1)), .v (.int .i64 ((gt v7 (IntKind.wrap .i64 (v6 - 1))).2))]] : List AV) = [.agg [.v (.string ((gt v7 v6).1)), .v (.int .i64 ((gt v7 v6).2))], .agg [.v (.string ((gt v7 (IntKind.wrap .i64 (v6 - 1))).1)), .v (.int .i64 ((gt v7 (IntKind.wrap .i64 (v6 - 1))).2))]]) ∧ True) ∧ True) (by kernel_rfl) ⟨⟨trivial, (congrArg (fun z => AV.v (.bool z)) b2)⟩, ⟨g3, ⟨⟨trivial, (congrArg (fun z : List Value => AV.agg (((z.drop 0).take 2).map .v)) (idx_arr (enc := enc_si) rfl g3))⟩, ⟨g4, ⟨⟨trivial, (congrArg (fun z : List Value => AV.agg (((z.drop 0).take 2).map .v)) (idx_arr (enc := enc_si) rfl g4))⟩, ⟨⟨rfl, trivial⟩, trivial⟩⟩⟩⟩⟩⟩ ⟨call_ok (ks := []) (ns := []) (bor := []) (bobjs := []) (s_impl_SortEnum_1 ((gt v7 v6).1) ((gt v7 v6).2) ((gt v7 (IntKind.wrap .i64 (v6 - 1))).1) ((gt v7 (IntKind.wrap .i64 (v6 - 1))).2) x8 e5) (.cons (.c1 (.agg (.cons (.same _ (by kernel_rfl) (by kernel_rfl)) (.cons (.same _ (by kernel_rfl) (by kernel_rfl)) (.nil))))) (.cons (.c1 (.agg (.cons (.same _ (by kernel_rfl) (by kernel_rfl)) (.cons (.same _ (by kernel_rfl) (by kernel_rfl)) (.nil))))) (.nil))) (by kernel_rfl) trivial, trivial⟩ ?_
      rcases bool_cases (decide (x8 < 0)) with b6 | b6
      · replace h := cd_t b6 h
        refine AX.condT (decide (x8 < 0)) (by kernel_rfl) b6 ?_
        refine AX.skip ?_
        refine AX.seq ?_
        refine AX.block ?_
        refine AX.drw mixed (its := [.auto {}, .auto {}, .auto {}, .auto {}, .auto { raw := true }, .auto {}, .auto {}, .auto { raw := true }, .auto {}, .auto { y := some (.agg [.v (.string ((gt v7 (IntKind.wrap .i64 (v6 - 1))).1)), .v (.int .i64 ((gt v7 (IntKind.wrap .i64 (v6 - 1))).2))]) }, .auto {}, .auto {}, .auto {}, .auto { y := some (.agg [.v (.string ((gt v7 v6).1)), .v (.int .i64 ((gt v7 v6).2))]) }]) [0, 1, 2, 3, 8, 9] [0] (s1 := ⟨[(0, .sl 0 0 v7.length), (1, .v (.int .i64 p1)), (2, .v (.int .i64 p2)), (3, .fn 54 []), (8, .v (.int .i64 v4)), (9, .v (.int .i64 v6))], [(0, .arr 2 (((List.map enc_si v7).set (0 + v6.toNat) [(.string ((gt v7 (IntKind.wrap .i64 (v6 - 1))).1)), (.int .i64 ((gt v7 (IntKind.wrap .i64 (v6 - 1))).2))]).set (0 + (IntKind.wrap .i64 (v6 - 1)).toNat) [(.string ((gt v7 v6).1)), (.int .i64 ((gt v7 v6).2))]))]⟩) (C := (0 ≤ (IntKind.wrap .i64 (v6 - 1)) ∧ (IntKind.wrap .i64 (v6 - 1)) < (v7.length : Int)) ∧ (True ∧ (AV.agg ((((List.map enc_si v7).getD (0 + (IntKind.wrap .i64 (v6 - 1)).toNat) []).drop 0 |>.take 2).map .v) = .agg [.v (.string ((gt v7 (IntKind.wrap .i64 (v6 - 1))).1)), .v (.int .i64 ((gt v7 (IntKind.wrap .i64 (v6 - 1))).2))])) ∧ (0 ≤ v6 ∧ v6 < (v7.length : Int)) ∧ (True ∧ (AV.agg ((((List.map enc_si v7).getD (0 + v6.toNat) []).drop 0 |>.take 2).map .v) = .agg [.v (.string ((gt v7 v6).1)), .v (.int .i64 ((gt v7 v6).2))])) ∧ (0 ≤ v6 ∧ v6 < (v7.length : Int)) ∧ (0 ≤ (IntKind.wrap .i64 (v6 - 1)) ∧ (IntKind.wrap .i64 (v6 - 1)) < (v7.length : Int)) ∧ True) (by kernel_rfl) ⟨g4, ⟨⟨trivial, (congrArg (fun z : List Value => AV.agg (((z.drop 0).take 2).map .v)) (idx_arr (enc := enc_si) rfl g4))⟩, ⟨g3, ⟨⟨trivial, (congrArg (fun z : List Value => AV.agg (((z.drop 0).take 2).map .v)) (idx_arr (enc := enc_si) rfl g3))⟩, ⟨g3, ⟨g4, trivial⟩⟩⟩⟩⟩⟩ trivial ?_
        refine AX.reg (its := [.auto {}, .auto { raw := true }]) [0, 1, 2, 3, 8, 9] [0] (s1 := ⟨[(0, .sl 0 0 v7.length), (1, .v (.int .i64 p1)), (2, .v (.int .i64 p2)), (3, .fn 54 []), (8, .v (.int .i64 v4)), (9, .v (.int .i64 (IntKind.wrap .i64 (v6 - 1))))], [(0, .arr 2 (((List.map enc_si v7).set (0 + v6.toNat) [(.string ((gt v7 (IntKind.wrap .i64 (v6 - 1))).1)), (.int .i64 ((gt v7 (IntKind.wrap .i64 (v6 - 1))).2))]).set (0 + (IntKind.wrap .i64 (v6 - 1)).toNat) [(.string ((gt v7 v6).1)), (.int .i64 ((gt v7 v6).2))]))]⟩) (C := True) (by kernel_rfl) trivial trivial ?_
        refine ⟨(fu, (IntKind.wrap .i64 (v6 - 1), (v7.set (0 + v6.toNat) ((gt v7 (IntKind.wrap .i64 (v6 - 1))).1, (gt v7 (IntKind.wrap .i64 (v6 - 1))).2)).set (0 + (IntKind.wrap .i64 (v6 - 1)).toNat) ((gt v7 v6).1, (gt v7 v6).2))), h, Nat.lt_succ_self _, ?_⟩
        refine Wk.trans (Wk.forget [0, 1, 2, 3, 8, 9] [0] (s' := ⟨[(0, .sl 0 0 v7.length), (1, .v (.int .i64 p1)), (2, .v (.int .i64 p2)), (3, .fn 54 []), (8, .v (.int .i64 v4)), (9, .v (.int .i64 (IntKind.wrap .i64 (v6 - 1))))], [(0, .arr 2 (((List.map enc_si v7).set (0 + v6.toNat) [(.string ((gt v7 (IntKind.wrap .i64 (v6 - 1))).1)), (.int .i64 ((gt v7 (IntKind.wrap .i64 (v6 - 1))).2))]).set (0 + (IntKind.wrap .i64 (v6 - 1)).toNat) [(.string ((gt v7 v6).1)), (.int .i64 ((gt v7 v6).2))]))]⟩) (by kernel_rfl)) ?_
        refine Wk.trans (Wk.of_eq (congrArg (fun z => (⟨[(0, .sl 0 0 v7.length), (1, .v (.int .i64 p1)), (2, .v (.int .i64 p2)), (3, .fn 54 []), (8, .v (.int .i64 v4)), (9, .v (.int .i64 (IntKind.wrap .i64 (v6 - 1))))], [(0, .arr 2 (z))]⟩ : S)) (set_can (enc := enc_si) (set_can (enc := enc_si) rfl (0 + v6.toNat) ((gt v7 (IntKind.wrap .i64 (v6 - 1))).1, (gt v7 (IntKind.wrap .i64 (v6 - 1))).2)) (0 + (IntKind.wrap .i64 (v6 - 1)).toNat) ((gt v7 v6).1, (gt v7 v6).2)))) ?_
        refine Wk.trans (Wk.of_eq (congrArg (fun z => (⟨[(0, .sl 0 0 z), (1, .v (.int .i64 p1)), (2, .v (.int .i64 p2)), (3, .fn 54 []), (8, .v (.int .i64 v4)), (9, .v (.int .i64 (IntKind.wrap .i64 (v6 - 1))))], [(0, .arr 2 (List.map enc_si ((v7.set (0 + v6.toNat) ((gt v7 (IntKind.wrap .i64 (v6 - 1))).1, (gt v7 (IntKind.wrap .i64 (v6 - 1))).2)).set (0 + (IntKind.wrap .i64 (v6 - 1)).toNat) ((gt v7 v6).1, (gt v7 v6).2))))]⟩ : S)) (set_len ((set_len ((rfl : v7.length = v7.length)) (0 + v6.toNat) ((gt v7 (IntKind.wrap .i64 (v6 - 1))).1, (gt v7 (IntKind.wrap .i64 (v6 - 1))).2) : v7.length = (v7.set (0 + v6.toNat) ((gt v7 (IntKind.wrap .i64 (v6 - 1))).1, (gt v7 (IntKind.wrap .i64 (v6 - 1))).2)).length)) (0 + (IntKind.wrap .i64 (v6 - 1)).toNat) ((gt v7 v6).1, (gt v7 v6).2)))) ?_
        exact Wk.refl _
      · replace h := cd_f b6 h
        refine AX.condF (decide (x8 < 0)) (by kernel_rfl) b6 ?_
        refine AX.exit ?_
        refine fin_wk (Wk.forget [0, 1, 2, 3, 8] [0] (s' := ⟨[(0, .sl 0 0 v7.length), (1, .v (.int .i64 p1)), (2, .v (.int .i64 p2)), (3, .fn 54 []), (8, .v (.int .i64 v4))], [(0, .arr 2 (List.map enc_si v7))]⟩) (by kernel_rfl)) ?_
        have hr := Option.some.inj h
        subst hr
        exact ⟨_, Wk.refl _, ⟨rfl, rfl⟩⟩
    · replace h := cd_f b2 h
      refine AX.drw mixed (its := [.auto {}, .auto {}, .auto { y := some (.v (.bool false)) }]) [0, 1, 2, 3, 8, 9, 34] [0] (s1 := ⟨[(0, .sl 0 0 v7.length), (1, .v (.int .i64 p1)), (2, .v (.int .i64 p2)), (3, .fn 54 []), (8, .v (.int .i64 v4)), (9, .v (.int .i64 v6)), (34, .v (.bool false))], [(0, .arr 2 (List.map enc_si v7))]⟩) (C := ((True) ∧ ((.v (.bool (decide (p1 < v6))) : AV) = (.v (.bool false) : AV))) ∧ True) (by kernel_rfl) ⟨⟨trivial, (congrArg (fun z => AV.v (.bool z)) b2)⟩, trivial⟩ trivial ?_
      refine AX.cond_false (by kernel_rfl) ?_
      refine AX.exit ?_
      refine fin_wk (Wk.forget [0, 1, 2, 3, 8] [0] (s' := ⟨[(0, .sl 0 0 v7.length), (1, .v (.int .i64 p1)), (2, .v (.int .i64 p2)), (3, .fn 54 []), (8, .v (.int .i64 v4))], [(0, .arr 2 (List.map enc_si v7))]⟩) (by kernel_rfl)) ?_
      have hr := Option.some.inj h
      subst hr
      exact ⟨_, Wk.refl _, ⟨rfl, rfl⟩⟩

theorem s_slices_insertionSortCmpFunc_h_SortEnum_1_si_L1 (p1 : Int) (p2 : Int) (n : Nat) (g : Int × (List (ByteArray × Int))) (out : List (ByteArray × Int)) (h : m_slices_insertionSortCmpFunc_h_SortEnum_1_si_L1 p1 p2 n g.1 g.2 = some out) :
    AX Try.prog 53 1 (codeAt [1, 1] (bodyOf Try.f93)) ((fun g : Int × (List (ByteArray × Int)) => (⟨[(0, .sl 0 0 g.2.length), (1, .v (.int .i64 p1)), (2, .v (.int .i64 p2)), (3, .fn 54 []), (8, .v (.int .i64 g.1))], [(0, .arr 2 (List.map enc_si g.2))]⟩ : S)) g) (fun ex s => ex = .exit 0 ∧ s = (fun o : List (ByteArray × Int) => (⟨[], [(0, .arr 2 (List.map enc_si o))]⟩ : S)) out) := by
  refine AX.wkpost ?_
  refine AX.loop (G := Nat × (Int × (List (ByteArray × Int)))) (fun q => (fun g : Int × (List (ByteArray × Int)) => (⟨[(0, .sl 0 0 g.2.length), (1, .v (.int .i64 p1)), (2, .v (.int .i64 p2)), (3, .fn 54 []), (8, .v (.int .i64 g.1))], [(0, .arr 2 (List.map enc_si g.2))]⟩ : S)) q.2) (fun q => m_slices_insertionSortCmpFunc_h_SortEnum_1_si_L1 p1 p2 q.1 q.2.1 q.2.2 = some out) (fun q => q.1) (n, g) h (Wk.refl _) ?_
  clear h
  rintro ⟨fu, v4, v5⟩ h
  cases fu with
  | zero => cases h
  | succ fu =>
    rw [m_slices_insertionSortCmpFunc_h_SortEnum_1_si_L1] at h
    refine AX.seq ?_
    refine AX.seq ?_
    refine AX.reg (its := []) [0, 1, 2, 3, 8, 14] [0] (s1 := ⟨[(0, .sl 0 0 v5.length), (1, .v (.int .i64 p1)), (2, .v (.int .i64 p2)), (3, .fn 54 []), (8, .v (.int .i64 v4)), (14, .v (.bool (decide (v4 < p2))))], [(0, .arr 2 (List.map enc_si v5))]⟩) (C := True) (by kernel_rfl) trivial trivial ?_
    rcases bool_cases (decide (v4 < p2)) with b1 | b1
    · replace h := cd_t b1 h
      refine AX.condT (decide (v4 < p2)) (by kernel_rfl) b1 ?_
      refine AX.skip ?_
      refine AX.seq ?_
      refine AX.block ?_
      refine AX.seq ?_
      refine AX.reg (its := []) [0, 1, 2, 3, 8, 9] [0] (s1 := ⟨[(0, .sl 0 0 v5.length), (1, .v (.int .i64 p1)), (2, .v (.int .i64 p2)), (3, .fn 54 []), (8, .v (.int .i64 v4)), (9, .v (.int .i64 v4))], [(0, .arr 2 (List.map enc_si v5))]⟩) (C := True) (by kernel_rfl) trivial trivial ?_
      refine AX.block ?_
      obtain ⟨x9, e7, h⟩ := bd_e h
      refine AX.wk (Wk.forget [0, 1, 2, 3, 8, 9] [0] (s' := ⟨[(0, .sl 0 0 v5.length), (1, .v (.int .i64 p1)), (2, .v (.int .i64 p2)), (3, .fn 54 []), (8, .v (.int .i64 v4)), (9, .v (.int .i64 v4))], [(0, .arr 2 (List.map enc_si v5))]⟩) (by kernel_rfl)) ?_
      refine AX.mono (s_slices_insertionSortCmpFunc_h_SortEnum_1_si_L2 p1 p2 v4 FU (v4, v5) x9 e7) ?_
      rintro _ _ ⟨rfl, rfl⟩
      skip
      refine AX.reg (its := [.auto {}, .auto { raw := true }]) [0, 1, 2, 3, 8] [0] (s1 := ⟨[(0, .sl 0 0 x9.length), (1, .v (.int .i64 p1)), (2, .v (.int .i64 p2)), (3, .fn 54 []), (8, .v (.int .i64 (IntKind.wrap .i64 (v4 + 1))))], [(0, .arr 2 (List.map enc_si x9))]⟩) (C := True) (by kernel_rfl) trivial trivial ?_
      refine ⟨(fu, (IntKind.wrap .i64 (v4 + 1), x9)), h, Nat.lt_succ_self _, ?_⟩
      refine Wk.trans (Wk.forget [0, 1, 2, 3, 8] [0] (s' := ⟨[(0, .sl 0 0 x9.length), (1, .v (.int .i64 p1)), (2, .v (.int .i64 p2)), (3, .fn 54 []), (8, .v (.int .i64 (IntKind.wrap .i64 (v4 + 1))))], [(0, .arr 2 (List.map enc_si x9))]⟩) (by kernel_rfl)) ?_
      exact Wk.refl _
    · replace h := cd_f b1 h
      refine AX.condF (decide (v4 < p2)) (by kernel_rfl) b1 ?_
      refine AX.exit ?_
      refine fin_wk (Wk.forget [] [0] (s' := ⟨[], [(0, .arr 2 (List.map enc_si v5))]⟩) (by kernel_rfl)) ?_
      have hr := Option.some.inj h
      subst hr
      exact ⟨_, Wk.refl _, ⟨rfl, rfl⟩⟩

theorem s_slices_insertionSortCmpFunc_h_SortEnum_1_si (p1 : Int) (p2 : Int) (p3 : List (ByteArray × Int)) (r : List (ByteArray × Int)) (h : m_slices_insertionSortCmpFunc_h_SortEnum_1_si p1 p2 p3 = some r) :
    Eng.Spec Try.prog 93 [.sl 0 0 p3.length, .v (.int .i64 p1), .v (.int .i64 p2), .fn 54 []] [.arr 2 (List.map enc_si p3)] (.tup []) [.arr 2 (List.map enc_si r)] := by
  unfold m_slices_insertionSortCmpFunc_h_SortEnum_1_si at h
  refine Eng.Spec.body Try.func93 (by kernel_rfl) rfl (by kernel_rfl) ?_
  refine AX.wkpost ?_
  refine AX.seq ?_
  refine AX.reg (its := [.auto {}, .auto { raw := true }]) [0, 1, 2, 3, 8] [0] (s1 := ⟨[(0, .sl 0 0 p3.length), (1, .v (.int .i64 p1)), (2, .v (.int .i64 p2)), (3, .fn 54 []), (8, .v (.int .i64 (IntKind.wrap .i64 (p1 + 1))))], [(0, .arr 2 (List.map enc_si p3))]⟩) (C := True) (by kernel_rfl) trivial trivial ?_
  refine AX.block ?_
  obtain ⟨x10, e8, h⟩ := bd_e h
  refine AX.wk (Wk.forget [0, 1, 2, 3, 8] [0] (s' := ⟨[(0, .sl 0 0 p3.length), (1, .v (.int .i64 p1)), (2, .v (.int .i64 p2)), (3, .fn 54 []), (8, .v (.int .i64 (IntKind.wrap .i64 (p1 + 1))))], [(0, .arr 2 (List.map enc_si p3))]⟩) (by kernel_rfl)) ?_
  refine AX.mono (s_slices_insertionSortCmpFunc_h_SortEnum_1_si_L1 p1 p2 FU (IntKind.wrap .i64 (p1 + 1), p3) x10 e8) ?_
  rintro _ _ ⟨rfl, rfl⟩
  skip
  refine fin_wk (Wk.forget [] [0] (s' := ⟨[], [(0, .arr 2 (List.map enc_si x10))]⟩) (by kernel_rfl)) ?_
  have hr := Option.some.inj h
  subst hr
  exact ⟨_, Wk.refl _, .inl rfl, ⟨[], by kernel_rfl, ⟨rfl, trivial⟩, [], by kernel_rfl, by kernel_rfl⟩⟩

theorem s_slices_stableCmpFunc_h_SortEnum_1_si_L1 (p1 : Int) (n : Nat) (g : Int × Int × (List (ByteArray × Int))) (out : Int × (List (ByteArray × Int))) (h : m_slices_stableCmpFunc_h_SortEnum_1_si_L1 p1 n g.1 g.2.1 g.2.2 = some out) :
    AX Try.prog 63 1 (codeAt [1, 1, 0, 1] (bodyOf Try.f82)) ((fun g : Int × Int × (List (ByteArray × Int)) => (⟨[(0, .sl 0 0 g.2.2.length), (1, .v (.int .i64 p1)), (2, .fn 54 []), (6, .v (.int .i64 20)), (7, .v (.int .i64 g.1)), (8, .v (.int .i64 g.2.1))], [(0, .arr 2 (List.map enc_si g.2.2))]⟩ : S)) g) (fun ex s => ex = .exit 0 ∧ s = (fun o : Int × (List (ByteArray × Int)) => (⟨[(0, .sl 0 0 o.2.length), (1, .v (.int .i64 p1)), (2, .fn 54 []), (6, .v (.int .i64 20)), (7, .v (.int .i64 o.1))], [(0, .arr 2 (List.map enc_si o.2))]⟩ : S)) out) := by
  refine AX.wkpost ?_
  refine AX.loop (G := Nat × (Int × Int × (List (ByteArray × Int)))) (fun q => (fun g : Int × Int × (List (ByteArray × Int)) => (⟨[(0, .sl 0 0 g.2.2.length), (1, .v (.int .i64 p1)), (2, .fn 54 []), (6, .v (.int .i64 20)), (7, .v (.int .i64 g.1)), (8, .v (.int .i64 g.2.1))], [(0, .arr 2 (List.map enc_si g.2.2))]⟩ : S)) q.2) (fun q => m_slices_stableCmpFunc_h_SortEnum_1_si_L1 p1 q.1 q.2.1 q.2.2.1 q.2.2.2 = some out) (fun q => q.1) (n, g) h (Wk.refl _) ?_
  clear h
  rintro ⟨fu, v3, v4, v5⟩ h
  cases fu with
  | zero => cases h
  | succ fu =>
    rw [m_slices_stableCmpFunc_h_SortEnum_1_si_L1] at h
    refine AX.seq ?_
    refine AX.seq ?_
    refine AX.reg (its := []) [0, 1, 2, 6, 7, 8, 13] [0] (s1 := ⟨[(0, .sl 0 0 v5.length), (1, .v (.int .i64 p1)), (2, .fn 54 []), (6, .v (.int .i64 20)), (7, .v (.int .i64 v3)), (8, .v (.int .i64 v4)), (13, .v (.bool (decide (v4 ≤ p1))))], [(0, .arr 2 (List.map enc_si v5))]⟩) (C := True) (by kernel_rfl) trivial trivial ?_
    rcases bool_cases (decide (v4 ≤ p1)) with b1 | b1
    · replace h := cd_t b1 h
      refine AX.condT (decide (v4 ≤ p1)) (by kernel_rfl) b1 ?_
      refine AX.skip ?_
      refine AX.block ?_
      refine AX.seq ?_
      obtain ⟨x6, e2, h⟩ := bd_e h
      obtain ⟨g3, h⟩ := gd_e h
      refine AX.reg (its := [.auto {}, .auto {}, .auto {}, .auto {}, .call 93 [.sl 0 0 v5.length, .v (.int .i64 v3), .v (.int .i64 v4), .fn 54 []] (handO (rho ([0] ++ [])) [0] [.arr 2 (List.map enc_si v5)] ++ []) (callEv [0] [] (.tup []) [.arr 2 (List.map enc_si x6)])]) [0, 1, 2, 6, 8] [0] (s1 := ⟨[(0, .sl 0 0 v5.length), (1, .v (.int .i64 p1)), (2, .fn 54 []), (6, .v (.int .i64 20)), (8, .v (.int .i64 v4))], [(0, .arr 2 (List.map enc_si x6))]⟩) (C := ((([.sl 0 0 v5.length, .v (.int .i64 v3), .v (.int .i64 v4), .fn 54 []] : List AV) = [.sl 0 0 v5.length, .v (.int .i64 v3), .v (.int .i64 v4), .fn 54 []]) ∧ (AO.arr 2 (List.map enc_si v5) = AO.arr 2 (List.map enc_si v5)) ∧ True) ∧ True) (by kernel_rfl) ⟨⟨rfl, rfl, trivial⟩, trivial⟩ ⟨call_ok (ks := [0]) (ns := []) (bor := []) (bobjs := []) (s_slices_insertionSortCmpFunc_h_SortEnum_1_si v3 v4 v5 x6 e2) (.cons (.c1 (.c0 (.same _ (by kernel_rfl) (by kernel_rfl)))) (.cons (.c1 (.c0 (.same _ (by kernel_rfl) (by kernel_rfl)))) (.cons (.c1 (.c0 (.same _ (by kernel_rfl) (by kernel_rfl)))) (.cons (.fn (.nil)) (.nil))))) (by kernel_rfl) ⟨.inr (arr_sh (enc := enc_si) g3), trivial⟩, trivial⟩ ?_
      refine AX.seq ?_
      refine AX.reg (its := []) [0, 1, 2, 6, 7, 8] [0] (s1 := ⟨[(0, .sl 0 0 v5.length), (1, .v (.int .i64 p1)), (2, .fn 54 []), (6, .v (.int .i64 20)), (7, .v (.int .i64 v4)), (8, .v (.int .i64 v4))], [(0, .arr 2 (List.map enc_si x6))]⟩) (C := True) (by kernel_rfl) trivial trivial ?_
      refine AX.reg (its := [.auto {}, .auto {}, .auto { raw := true }]) [0, 1, 2, 6, 7, 8] [0] (s1 := ⟨[(0, .sl 0 0 v5.length), (1, .v (.int .i64 p1)), (2, .fn 54 []), (6, .v (.int .i64 20)), (7, .v (.int .i64 v4)), (8, .v (.int .i64 (IntKind.wrap .i64 (v4 + 20))))], [(0, .arr 2 (List.map enc_si x6))]⟩) (C := True) (by kernel_rfl) trivial trivial ?_
      refine ⟨(fu, (v4, IntKind.wrap .i64 (v4 + 20), x6)), h, Nat.lt_succ_self _, ?_⟩
      refine Wk.trans (Wk.forget [0, 1, 2, 6, 7, 8] [0] (s' := ⟨[(0, .sl 0 0 v5.length), (1, .v (.int .i64 p1)), (2, .fn 54 []), (6, .v (.int .i64 20)), (7, .v (.int .i64 v4)), (8, .v (.int .i64 (IntKind.wrap .i64 (v4 + 20))))], [(0, .arr 2 (List.map enc_si x6))]⟩) (by kernel_rfl)) ?_
      refine Wk.trans (Wk.of_eq (congrArg (fun z => (⟨[(0, .sl 0 0 z), (1, .v (.int .i64 p1)), (2, .fn 54 []), (6, .v (.int .i64 20)), (7, .v (.int .i64 v4)), (8, .v (.int .i64 (IntKind.wrap .i64 (v4 + 20))))], [(0, .arr 2 (List.map enc_si x6))]⟩ : S)) (((rfl : v5.length = v5.length)).trans (g3).symm))) ?_
      exact Wk.refl _
    · replace h := cd_f b1 h
      refine AX.condF (decide (v4 ≤ p1)) (by kernel_rfl) b1 ?_
      refine AX.exit ?_
      refine fin_wk (Wk.forget [0, 1, 2, 6, 7] [0] (s' := ⟨[(0, .sl 0 0 v5.length), (1, .v (.int .i64 p1)), (2, .fn 54 []), (6, .v (.int .i64 20)), (7, .v (.int .i64 v3))], [(0, .arr 2 (List.map enc_si v5))]⟩) (by kernel_rfl)) ?_
      have hr := Option.some.inj h
      subst hr
      exact ⟨_, Wk.refl _, ⟨rfl, rfl⟩⟩

theorem s_slices_stableCmpFunc_h_SortEnum_1_si_L3 (p1 : Int) (x8 : List (ByteArray × Int)) (v9 : Int) (n : Nat) (g : Unit) (out : Unit) (h : m_slices_stableCmpFunc_h_SortEnum_1_si_L3 p1 x8 v9 n = some out) :
    AX Try.prog 63 1 (codeAt [1, 1, 1, 1, 1, 1, 1, 1, 1, 0, 1] (bodyOf Try.f82)) ((fun g : Unit => (⟨[(0, .sl 0 0 x8.length), (1, .v (.int .i64 p1)), (2, .fn 54 []), (6, .v (.int .i64 v9)), (7, .v (.int .i64 0)), (8, .v (.int .i64 (IntKind.wrap .i64 (2 * v9))))], [(0, .arr 2 (List.map enc_si x8))]⟩ : S)) g) (fun ex s => ex = .exit 4 ∧ s = (fun o : Unit => (⟨[(0, .sl 0 0 x8.length), (1, .v (.int .i64 p1)), (2, .fn 54 []), (6, .v (.int .i64 v9)), (7, .v (.int .i64 0))], [(0, .arr 2 (List.map enc_si x8))]⟩ : S)) out) := by
  refine AX.wkpost ?_
  refine AX.loop (G := Nat × (Unit)) (fun q => (fun g : Unit => (⟨[(0, .sl 0 0 x8.length), (1, .v (.int .i64 p1)), (2, .fn 54 []), (6, .v (.int .i64 v9)), (7, .v (.int .i64 0)), (8, .v (.int .i64 (IntKind.wrap .i64 (2 * v9))))], [(0, .arr 2 (List.map enc_si x8))]⟩ : S)) q.2) (fun q => m_slices_stableCmpFunc_h_SortEnum_1_si_L3 p1 x8 v9 q.1 = some out) (fun q => q.1) (n, g) h (Wk.refl _) ?_
  clear h
  rintro ⟨fu, _⟩ h
  cases fu with
  | zero => cases h
  | succ fu =>
    rw [m_slices_stableCmpFunc_h_SortEnum_1_si_L3] at h
    refine AX.seq ?_
    refine AX.seq ?_
    refine AX.reg (its := []) [0, 1, 2, 6, 7, 8, 35] [0] (s1 := ⟨[(0, .sl 0 0 x8.length), (1, .v (.int .i64 p1)), (2, .fn 54 []), (6, .v (.int .i64 v9)), (7, .v (.int .i64 0)), (8, .v (.int .i64 (IntKind.wrap .i64 (2 * v9)))), (35, .v (.bool (decide ((IntKind.wrap .i64 (2 * v9)) ≤ p1))))], [(0, .arr 2 (List.map enc_si x8))]⟩) (C := True) (by kernel_rfl) trivial trivial ?_
    rcases bool_cases (decide ((IntKind.wrap .i64 (2 * v9)) ≤ p1)) with b8 | b8
    · replace h := cd_t b8 h
      refine AX.condT (decide ((IntKind.wrap .i64 (2 * v9)) ≤ p1)) (by kernel_rfl) b8 ?_
      refine AX.skip ?_
      refine AX.block ?_
      refine AX.seq ?_
      cases h
    · replace h := cd_f b8 h
      refine AX.condF (decide ((IntKind.wrap .i64 (2 * v9)) ≤ p1)) (by kernel_rfl) b8 ?_
      refine AX.exit ?_
      refine fin_wk (Wk.forget [0, 1, 2, 6, 7] [0] (s' := ⟨[(0, .sl 0 0 x8.length), (1, .v (.int .i64 p1)), (2, .fn 54 []), (6, .v (.int .i64 v9)), (7, .v (.int .i64 0))], [(0, .arr 2 (List.map enc_si x8))]⟩) (by kernel_rfl)) ?_
      have hr := Option.some.inj h
      subst hr
      exact ⟨_, Wk.refl _, ⟨rfl, rfl⟩⟩

theorem s_slices_stableCmpFunc_h_SortEnum_1_si_L2 (p1 : Int) (x8 : List (ByteArray × Int)) (n : Nat) (g : Int) (out : Unit) (h : m_slices_stableCmpFunc_h_SortEnum_1_si_L2 p1 x8 n g = some out) :
    AX Try.prog 63 1 (codeAt [1, 1, 1, 1, 1] (bodyOf Try.f82)) ((fun g : Int => (⟨[(0, .sl 0 0 x8.length), (1, .v (.int .i64 p1)), (2, .fn 54 []), (6, .v (.int .i64 g))], [(0, .arr 2 (List.map enc_si x8))]⟩ : S)) g) (fun ex s => ex = .exit 2 ∧ s = (fun o : Unit => (⟨[], [(0, .arr 2 (List.map enc_si x8))]⟩ : S)) out) := by
  refine AX.wkpost ?_
  refine AX.loop (G := Nat × (Int)) (fun q => (fun g : Int => (⟨[(0, .sl 0 0 x8.length), (1, .v (.int .i64 p1)), (2, .fn 54 []), (6, .v (.int .i64 g))], [(0, .arr 2 (List.map enc_si x8))]⟩ : S)) q.2) (fun q => m_slices_stableCmpFunc_h_SortEnum_1_si_L2 p1 x8 q.1 q.2 = some out) (fun q => q.1) (n, g) h (Wk.refl _) ?_
  clear h
  rintro ⟨fu, v9⟩ h
  cases fu with
  | zero => cases h
  | succ fu =>
    rw [m_slices_stableCmpFunc_h_SortEnum_1_si_L2] at h
    refine AX.seq ?_
    refine AX.seq ?_
    refine AX.reg (its := []) [0, 1, 2, 6, 30] [0] (s1 := ⟨[(0, .sl 0 0 x8.length), (1, .v (.int .i64 p1)), (2, .fn 54 []), (6, .v (.int .i64 v9)), (30, .v (.bool (decide (v9 < p1))))], [(0, .arr 2 (List.map enc_si x8))]⟩) (C := True) (by kernel_rfl) trivial trivial ?_
    rcases bool_cases (decide (v9 < p1)) with b7 | b7
    · replace h := cd_t b7 h
      refine AX.condT (decide (v9 < p1)) (by kernel_rfl) b7 ?_
      refine AX.skip ?_
      refine AX.block ?_
      refine AX.seq ?_
      refine AX.reg (its := [.auto {}, .auto { raw := true }]) [0, 1, 2, 6, 7, 8] [0] (s1 := ⟨[(0, .sl 0 0 x8.length), (1, .v (.int .i64 p1)), (2, .fn 54 []), (6, .v (.int .i64 v9)), (7, .v (.int .i64 0)), (8, .v (.int .i64 (IntKind.wrap .i64 (2 * v9))))], [(0, .arr 2 (List.map enc_si x8))]⟩) (C := True) (by kernel_rfl) trivial trivial ?_
      refine AX.seq ?_
      refine AX.block ?_
      obtain ⟨x10, e9, h⟩ := bd_e h
      refine AX.wk (Wk.forget [0, 1, 2, 6, 7, 8] [0] (s' := ⟨[(0, .sl 0 0 x8.length), (1, .v (.int .i64 p1)), (2, .fn 54 []), (6, .v (.int .i64 v9)), (7, .v (.int .i64 0)), (8, .v (.int .i64 (IntKind.wrap .i64 (2 * v9))))], [(0, .arr 2 (List.map enc_si x8))]⟩) (by kernel_rfl)) ?_
      refine AX.mono (s_slices_stableCmpFunc_h_SortEnum_1_si_L3 p1 x8 v9 FU () x10 e9) ?_
      rintro _ _ ⟨rfl, rfl⟩
      skip
      refine AX.seq ?_
      refine AX.seq ?_
      refine AX.reg (its := [.auto {}, .auto {}, .auto { raw := true }]) [0, 1, 2, 6, 7, 9] [0] (s1 := ⟨[(0, .sl 0 0 x8.length), (1, .v (.int .i64 p1)), (2, .fn 54 []), (6, .v (.int .i64 v9)), (7, .v (.int .i64 0)), (9, .v (.int .i64 (IntKind.wrap .i64 (0 + v9))))], [(0, .arr 2 (List.map enc_si x8))]⟩) (C := True) (by kernel_rfl) trivial trivial ?_
      refine AX.seq ?_
      refine AX.reg (its := []) [0, 1, 2, 6, 7, 9, 54] [0] (s1 := ⟨[(0, .sl 0 0 x8.length), (1, .v (.int .i64 p1)), (2, .fn 54 []), (6, .v (.int .i64 v9)), (7, .v (.int .i64 0)), (9, .v (.int .i64 (IntKind.wrap .i64 (0 + v9)))), (54, .v (.bool (decide ((IntKind.wrap .i64 (0 + v9)) < p1))))], [(0, .arr 2 (List.map enc_si x8))]⟩) (C := True) (by kernel_rfl) trivial trivial ?_
      rcases bool_cases (decide ((IntKind.wrap .i64 (0 + v9)) < p1)) with b10 | b10
      · replace h := cd_t b10 h
        refine AX.condT (decide ((IntKind.wrap .i64 (0 + v9)) < p1)) (by kernel_rfl) b10 ?_
        cases h
      · replace h := cd_f b10 h
        refine AX.condF (decide ((IntKind.wrap .i64 (0 + v9)) < p1)) (by kernel_rfl) b10 ?_
        refine AX.skip ?_
        refine AX.reg (its := [.auto {}, .auto { raw := true }]) [0, 1, 2, 6] [0] (s1 := ⟨[(0, .sl 0 0 x8.length), (1, .v (.int .i64 p1)), (2, .fn 54 []), (6, .v (.int .i64 (IntKind.wrap .i64 (v9 * 2))))], [(0, .arr 2 (List.map enc_si x8))]⟩) (C := True) (by kernel_rfl) trivial trivial ?_
        refine ⟨(fu, IntKind.wrap .i64 (v9 * 2)), h, Nat.lt_succ_self _, ?_⟩
        refine Wk.trans (Wk.forget [0, 1, 2, 6] [0] (s' := ⟨[(0, .sl 0 0 x8.length), (1, .v (.int .i64 p1)), (2, .fn 54 []), (6, .v (.int .i64 (IntKind.wrap .i64 (v9 * 2))))], [(0, .arr 2 (List.map enc_si x8))]⟩) (by kernel_rfl)) ?_
        exact Wk.refl _
    · replace h := cd_f b7 h
      refine AX.condF (decide (v9 < p1)) (by kernel_rfl) b7 ?_
      refine AX.exit ?_
      refine fin_wk (Wk.forget [] [0] (s' := ⟨[], [(0, .arr 2 (List.map enc_si x8))]⟩) (by kernel_rfl)) ?_
      have hr := Option.some.inj h
      subst hr
      exact ⟨_, Wk.refl _, ⟨rfl, rfl⟩⟩

theorem s_slices_stableCmpFunc_h_SortEnum_1_si (p1 : Int) (p2 : List (ByteArray × Int)) (r : List (ByteArray × Int)) (h : m_slices_stableCmpFunc_h_SortEnum_1_si p1 p2 = some r) :
    Eng.Spec Try.prog 82 [.sl 0 0 p2.length, .v (.int .i64 p1), .fn 54 []] [.arr 2 (List.map enc_si p2)] (.tup []) [.arr 2 (List.map enc_si r)] := by
  unfold m_slices_stableCmpFunc_h_SortEnum_1_si at h
  refine Eng.Spec.body Try.func82 (by kernel_rfl) rfl (by kernel_rfl) ?_
  refine AX.wkpost ?_
  refine AX.seq ?_
  refine AX.reg (its := []) [0, 1, 2, 6] [0] (s1 := ⟨[(0, .sl 0 0 p2.length), (1, .v (.int .i64 p1)), (2, .fn 54 []), (6, .v (.int .i64 20))], [(0, .arr 2 (List.map enc_si p2))]⟩) (C := True) (by kernel_rfl) trivial trivial ?_
  refine AX.seq ?_
  refine AX.reg (its := []) [0, 1, 2, 6, 7, 8] [0] (s1 := ⟨[(0, .sl 0 0 p2.length), (1, .v (.int .i64 p1)), (2, .fn 54 []), (6, .v (.int .i64 20)), (7, .v (.int .i64 0)), (8, .v (.int .i64 20))], [(0, .arr 2 (List.map enc_si p2))]⟩) (C := True) (by kernel_rfl) trivial trivial ?_
  refine AX.seq ?_
  refine AX.block ?_
  obtain ⟨x7, e4, h⟩ := bd_e h
  refine AX.wk (Wk.forget [0, 1, 2, 6, 7, 8] [0] (s' := ⟨[(0, .sl 0 0 p2.length), (1, .v (.int .i64 p1)), (2, .fn 54 []), (6, .v (.int .i64 20)), (7, .v (.int .i64 0)), (8, .v (.int .i64 20))], [(0, .arr 2 (List.map enc_si p2))]⟩) (by kernel_rfl)) ?_
  refine AX.mono (s_slices_stableCmpFunc_h_SortEnum_1_si_L1 p1 FU (0, 20, p2) x7 e4) ?_
  rintro _ _ ⟨rfl, rfl⟩
  skip
  refine AX.seq ?_
  obtain ⟨x8, e5, h⟩ := bd_e h
  obtain ⟨g6, h⟩ := gd_e h
  refine AX.reg (its := [.auto {}, .auto {}, .auto {}, .auto {}, .call 93 [.sl 0 0 x7.2.length, .v (.int .i64 x7.1), .v (.int .i64 p1), .fn 54 []] (handO (rho ([0] ++ [])) [0] [.arr 2 (List.map enc_si x7.2)] ++ []) (callEv [0] [] (.tup []) [.arr 2 (List.map enc_si x8)])]) [0, 1, 2, 6] [0] (s1 := ⟨[(0, .sl 0 0 x7.2.length), (1, .v (.int .i64 p1)), (2, .fn 54 []), (6, .v (.int .i64 20))], [(0, .arr 2 (List.map enc_si x8))]⟩) (C := ((([.sl 0 0 x7.2.length, .v (.int .i64 x7.1), .v (.int .i64 p1), .fn 54 []] : List AV) = [.sl 0 0 x7.2.length, .v (.int .i64 x7.1), .v (.int .i64 p1), .fn 54 []]) ∧ (AO.arr 2 (List.map enc_si x7.2) = AO.arr 2 (List.map enc_si x7.2)) ∧ True) ∧ True) (by kernel_rfl) ⟨⟨rfl, rfl, trivial⟩, trivial⟩ ⟨call_ok (ks := [0]) (ns := []) (bor := []) (bobjs := []) (s_slices_insertionSortCmpFunc_h_SortEnum_1_si x7.1 p1 x7.2 x8 e5) (.cons (.c1 (.c0 (.same _ (by kernel_rfl) (by kernel_rfl)))) (.cons (.c1 (.c0 (.same _ (by kernel_rfl) (by kernel_rfl)))) (.cons (.c1 (.c0 (.same _ (by kernel_rfl) (by kernel_rfl)))) (.cons (.fn (.nil)) (.nil))))) (by kernel_rfl) ⟨.inr (arr_sh (enc := enc_si) g6), trivial⟩, trivial⟩ ?_
  refine AX.block ?_
  obtain ⟨x11, e11, h⟩ := bd_e h
  refine AX.wk (Wk.forget [0, 1, 2, 6] [0] (s' := ⟨[(0, .sl 0 0 x7.2.length), (1, .v (.int .i64 p1)), (2, .fn 54 []), (6, .v (.int .i64 20))], [(0, .arr 2 (List.map enc_si x8))]⟩) (by kernel_rfl)) ?_
  refine AX.wk (Wk.of_eq (congrArg (fun z => (⟨[(0, .sl 0 0 z), (1, .v (.int .i64 p1)), (2, .fn 54 []), (6, .v (.int .i64 20))], [(0, .arr 2 (List.map enc_si x8))]⟩ : S)) (((rfl : x7.2.length = x7.2.length)).trans (g6).symm))) ?_
  refine AX.mono (s_slices_stableCmpFunc_h_SortEnum_1_si_L2 p1 x8 FU 20 x11 e11) ?_
  rintro _ _ ⟨rfl, rfl⟩
  skip
  refine fin_wk (Wk.forget [] [0] (s' := ⟨[], [(0, .arr 2 (List.map enc_si x8))]⟩) (by kernel_rfl)) ?_
  have hr := Option.some.inj h
  subst hr
  exact ⟨_, Wk.refl _, .inl rfl, ⟨[], by kernel_rfl, ⟨rfl, trivial⟩, [], by kernel_rfl, by kernel_rfl⟩⟩

theorem s_slices_SortStableFunc_h_SortEnum_1_si (p1 : List (ByteArray × Int)) (r : List (ByteArray × Int)) (h : m_slices_SortStableFunc_h_SortEnum_1_si p1 = some r) :
    Eng.Spec Try.prog 53 [.sl 0 0 p1.length, .fn 54 []] [.arr 2 (List.map enc_si p1)] (.tup []) [.arr 2 (List.map enc_si r)] := by
  unfold m_slices_SortStableFunc_h_SortEnum_1_si at h
  refine Eng.Spec.body Try.func53 (by kernel_rfl) rfl (by kernel_rfl) ?_
  refine AX.wkpost ?_
  obtain ⟨x2, e1, h⟩ := bd_e h
  obtain ⟨g2, h⟩ := gd_e h
  refine AX.reg (its := [.auto {}, .auto {}, .auto {}, .auto {}, .call 82 [.sl 0 0 p1.length, .v (.int .i64 (p1.length : Int)), .fn 54 []] (handO (rho ([0] ++ [])) [0] [.arr 2 (List.map enc_si p1)] ++ []) (callEv [0] [] (.tup []) [.arr 2 (List.map enc_si x2)])]) [] [0] (s1 := ⟨[], [(0, .arr 2 (List.map enc_si x2))]⟩) (C := ((([.sl 0 0 p1.length, .v (.int .i64 (p1.length : Int)), .fn 54 []] : List AV) = [.sl 0 0 p1.length, .v (.int .i64 (p1.length : Int)), .fn 54 []]) ∧ (AO.arr 2 (List.map enc_si p1) = AO.arr 2 (List.map enc_si p1)) ∧ True) ∧ True) (by kernel_rfl) ⟨⟨rfl, rfl, trivial⟩, trivial⟩ ⟨call_ok (ks := [0]) (ns := []) (bor := []) (bobjs := []) (s_slices_stableCmpFunc_h_SortEnum_1_si (p1.length : Int) p1 x2 e1) (.cons (.c1 (.c0 (.same _ (by kernel_rfl) (by kernel_rfl)))) (.cons (.c1 (.c0 (.same _ (by kernel_rfl) (by kernel_rfl)))) (.cons (.fn (.nil)) (.nil)))) (by kernel_rfl) ⟨.inr (arr_sh (enc := enc_si) g2), trivial⟩, trivial⟩ ?_
  refine fin_wk (Wk.forget [] [0] (s' := ⟨[], [(0, .arr 2 (List.map enc_si x2))]⟩) (by kernel_rfl)) ?_
  refine fin_wk (Wk.of_eq (congrArg (fun z => (⟨[], [(0, .arr 2 (List.map enc_si x2))]⟩ : S)) (((rfl : p1.length = p1.length)).trans (g2).symm))) ?_
  have hr := Option.some.inj h
  subst hr
  exact ⟨_, Wk.refl _, .inl rfl, ⟨[], by kernel_rfl, ⟨rfl, trivial⟩, [], by kernel_rfl, by kernel_rfl⟩⟩

theorem s_impl_SortEnum (p1 : List (ByteArray × Int)) (r : List (ByteArray × Int)) (h : m_impl_SortEnum p1 = some r) :
    Eng.Spec Try.prog 25 [.agg [.bs false 2 (List.map enc_si p1)]] [] (.agg [.sl 0 0 r.length]) [.arr 2 (List.map enc_si r)] := by
  unfold m_impl_SortEnum at h
  refine Eng.Spec.body Try.func25 (by kernel_rfl) rfl (by kernel_rfl) ?_
  refine AX.wkpost ?_
  refine AX.seq ?_
  refine AX.reg (its := [.auto { nk := 0 }, .auto { nk := 1 }]) [1, 2] [0, 1] (s1 := ⟨[(1, .pt 0 0), (2, .pt 1 0)], [(0, .box [.bs false 2 (List.map enc_si p1)]), (1, .box [.v (.slice none 0 0)])]⟩) (C := True) (by kernel_rfl) trivial trivial ?_
  refine AX.seq ?_
  refine AX.seq ?_
  obtain ⟨x2, e1, h⟩ := bd_e h
  refine AX.reg (its := [.auto {}, .call 13 [.agg [.bs false 2 (List.map enc_si p1)]] (handO (rho ([] ++ [])) [] [] ++ []) (callEv [] [] (.v (.bool x2)) [])]) [1, 2, 6] [0, 1] (s1 := ⟨[(1, .pt 0 0), (2, .pt 1 0), (6, .v (.bool (!x2)))], [(0, .box [.bs false 2 (List.map enc_si p1)]), (1, .box [.v (.slice none 0 0)])]⟩) (C := ((([.agg [.bs false 2 (List.map enc_si p1)]] : List AV) = [.agg [.bs false 2 (List.map enc_si p1)]]) ∧ True) ∧ True) (by kernel_rfl) ⟨⟨rfl, trivial⟩, trivial⟩ ⟨call_ok (ks := []) (ns := []) (bor := []) (bobjs := []) (s_impl_ValidEnum p1 x2 e1) (.cons (.c1 (.agg (.cons (.same _ (by kernel_rfl) (by kernel_rfl)) (.nil)))) (.nil)) (by kernel_rfl) trivial, trivial⟩ ?_
  rcases bool_cases ((!x2)) with b2 | b2
  · replace h := cd_t b2 h
    refine AX.condT ((!x2)) (by kernel_rfl) b2 ?_
    refine AX.seq ?_
    refine AX.reg (its := []) [2] [1] (s1 := ⟨[(2, .pt 1 0)], [(1, .box [.v (.slice none 0 0)])]⟩) (C := True) (by kernel_rfl) trivial trivial ?_
    refine AX.ret ?_
    refine fin_wk (Wk.matB 1 0 2 2 (cs := [.v (.slice none 0 0)]) (by kernel_rfl) (by kernel_rfl) (Nat.le_of_ble_eq_true (by kernel_rfl)) (by kernel_rfl) (by decide) rfl) ?_
    refine fin_wk (Wk.swap 0 1 (Nat.le_of_ble_eq_true (by kernel_rfl)) (Nat.le_of_ble_eq_true (by kernel_rfl)) rfl) ?_
    refine fin_wk (Wk.swap 1 2 (Nat.le_of_ble_eq_true (by kernel_rfl)) (Nat.le_of_ble_eq_true (by kernel_rfl)) rfl) ?_
    refine fin_wk (Wk.forget [2] [0, 1] (s' := ⟨[(2, .pt 0 0)], [(0, .box [.sl 1 0 (([] : List (ByteArray × Int)).length)]), (1, .arr 2 (List.map enc_si ([] : List (ByteArray × Int))))]⟩) (by kernel_rfl)) ?_
    have hr := Option.some.inj h
    subst hr
    exact ⟨_, Wk.refl _, .inr rfl, ⟨[1], by kernel_rfl, ⟨rfl, trivial⟩, [.agg [.sl 1 0 (([] : List (ByteArray × Int)).length)]], by kernel_rfl, by kernel_rfl⟩⟩
  · replace h := cd_f b2 h
    refine AX.condF ((!x2)) (by kernel_rfl) b2 ?_
    refine AX.skip ?_
    refine AX.seq ?_
    obtain ⟨x3, e3, h⟩ := bd_e h
    refine AX.reg (its := [.auto {}, .auto {}, .call 34 [.bs false 2 (List.map enc_si p1)] (handO (rho ([] ++ [2])) [] [] ++ []) (callEv [] [2] (.sl 0 0 x3.length) [.arr 2 (List.map enc_si x3)]), .auto {}, .auto { nk := 3 }]) [2, 3] [1, 2, 3] (s1 := ⟨[(2, .pt 1 0), (3, .pt 3 0)], [(1, .box [.v (.slice none 0 0)]), (2, .arr 2 (List.map enc_si x3)), (3, .box [.sl 2 0 x3.length])]⟩) (C := ((([.bs false 2 (List.map enc_si p1)] : List AV) = [.bs false 2 (List.map enc_si p1)]) ∧ True) ∧ True) (by kernel_rfl) ⟨⟨rfl, trivial⟩, trivial⟩ ⟨call_ok (ks := []) (ns := [2]) (bor := []) (bobjs := []) (s_impl_clone_si p1 x3 e3) (.cons (.c1 (.c0 (.same _ (by kernel_rfl) (by kernel_rfl)))) (.nil)) (by kernel_rfl) trivial, trivial⟩ ?_
    refine AX.seq ?_
    obtain ⟨x4, e4, h⟩ := bd_e h
    obtain ⟨g5, h⟩ := gd_e h
    refine AX.reg (its := [.auto {}, .auto {}, .call 53 [.sl 2 0 x3.length, .fn 54 []] (handO (rho ([2] ++ [])) [2] [.arr 2 (List.map enc_si x3)] ++ []) (callEv [2] [] (.tup []) [.arr 2 (List.map enc_si x4)])]) [2, 3] [1, 2, 3] (s1 := ⟨[(2, .pt 1 0), (3, .pt 3 0)], [(1, .box [.v (.slice none 0 0)]), (2, .arr 2 (List.map enc_si x4)), (3, .box [.sl 2 0 x3.length])]⟩) (C := ((([.sl 2 0 x3.length, .fn 54 []] : List AV) = [.sl 2 0 x3.length, .fn 54 []]) ∧ (AO.arr 2 (List.map enc_si x3) = AO.arr 2 (List.map enc_si x3)) ∧ True) ∧ True) (by kernel_rfl) ⟨⟨rfl, rfl, trivial⟩, trivial⟩ ⟨call_ok (ks := [2]) (ns := []) (bor := []) (bobjs := []) (s_slices_SortStableFunc_h_SortEnum_1_si x3 x4 e4) (.cons (.c1 (.c0 (.same _ (by kernel_rfl) (by kernel_rfl)))) (.cons (.fn (.nil)) (.nil))) (by kernel_rfl) ⟨.inr (arr_sh (enc := enc_si) g5), trivial⟩, trivial⟩ ?_
    refine AX.seq ?_
    refine AX.reg (its := []) [2] [1, 2] (s1 := ⟨[(2, .pt 1 0)], [(1, .box [.sl 2 0 x3.length]), (2, .arr 2 (List.map enc_si x4))]⟩) (C := True) (by kernel_rfl) trivial trivial ?_
    refine AX.ret ?_
    refine fin_wk (Wk.swap 0 1 (Nat.le_of_ble_eq_true (by kernel_rfl)) (Nat.le_of_ble_eq_true (by kernel_rfl)) rfl) ?_
    refine fin_wk (Wk.swap 1 2 (Nat.le_of_ble_eq_true (by kernel_rfl)) (Nat.le_of_ble_eq_true (by kernel_rfl)) rfl) ?_
    refine fin_wk (Wk.forget [2] [0, 1] (s' := ⟨[(2, .pt 0 0)], [(0, .box [.sl 1 0 x3.length]), (1, .arr 2 (List.map enc_si x4))]⟩) (by kernel_rfl)) ?_
    refine fin_wk (Wk.of_eq (congrArg (fun z => (⟨[(2, .pt 0 0)], [(0, .box [.sl 1 0 z]), (1, .arr 2 (List.map enc_si x4))]⟩ : S)) (((rfl : x3.length = x3.length)).trans (g5).symm))) ?_
    have hr := Option.some.inj h
    subst hr
    exact ⟨_, Wk.refl _, .inr rfl, ⟨[1], by kernel_rfl, ⟨rfl, trivial⟩, [.agg [.sl 1 0 x4.length]], by kernel_rfl, by kernel_rfl⟩⟩

theorem s_laws_FnSameMeaning (p1 : List (Int)) (r : Bool) (h : m_laws_FnSameMeaning p1 = some r) :
    Eng.Spec Try.prog 7 [.bs true 1 (List.map enc_y p1)] [] (.v (.bool r)) [] := by
  unfold m_laws_FnSameMeaning at h
  refine Eng.Spec.body Try.func7 (by kernel_rfl) rfl (by kernel_rfl) ?_
  refine AX.wkpost ?_
  refine AX.seq ?_
  refine AX.reg (its := []) [0] [] (s1 := ⟨[(0, .bs true 1 (List.map enc_y p1))], []⟩) (C := True) (by kernel_rfl) trivial trivial ?_
  refine AX.seq ?_
  refine AX.seq ?_
  refine AX.reg (its := [.auto {}, .auto { y := some (.v (.int .i64 (p1.length : Int))) }]) [0, 8] [] (s1 := ⟨[(0, .bs true 1 (List.map enc_y p1)), (8, .v (.bool (decide (1048576 < (p1.length : Int)))))], []⟩) (C := (True ∧ (AV.v (.int .i64 ((List.map enc_y p1).length : Int)) = AV.v (.int .i64 (p1.length : Int)))) ∧ True) (by kernel_rfl) ⟨⟨trivial, len_map enc_y p1⟩, trivial⟩ trivial ?_
  rcases bool_cases (decide (1048576 < (p1.length : Int))) with b1 | b1
  · replace h := cd_t b1 h
    refine AX.condT (decide (1048576 < (p1.length : Int))) (by kernel_rfl) b1 ?_
    refine AX.seq ?_
    refine AX.reg (its := []) [2] [] (s1 := ⟨[(2, .v (.bool true))], []⟩) (C := True) (by kernel_rfl) trivial trivial ?_
    refine AX.ret ?_
    refine fin_wk (Wk.forget [2] [] (s' := ⟨[(2, .v (.bool true))], []⟩) (by kernel_rfl)) ?_
    have hr := Option.some.inj h
    subst hr
    exact ⟨_, Wk.refl _, .inr rfl, ⟨[], by kernel_rfl, trivial, [.v (.bool true)], by kernel_rfl, by kernel_rfl⟩⟩
  · replace h := cd_f b1 h
    refine AX.condF (decide (1048576 < (p1.length : Int))) (by kernel_rfl) b1 ?_
    refine AX.skip ?_
    refine AX.seq ?_
    obtain ⟨x2, e2, h⟩ := bd_e h
    refine AX.reg (its := [.auto {}, .call 29 [.bs true 1 (List.map enc_y p1)] (handO (rho ([] ++ [0, 1])) [] [] ++ []) (callEv [] [0, 1] (.tup [.agg [.sl 0 0 x2.1.length], .agg [.sl 1 0 x2.2.length]]) [.arr 2 (List.map enc_si x2.1), .arr 2 (List.map enc_si x2.2)]), .auto {}, .auto {}, .auto {}, .auto { nk := 2 }, .auto { nk := 3 }]) [3, 4] [0, 1, 2, 3] (s1 := ⟨[(3, .pt 2 0), (4, .pt 3 0)], [(0, .arr 2 (List.map enc_si x2.1)), (1, .arr 2 (List.map enc_si x2.2)), (2, .box [.sl 0 0 x2.1.length]), (3, .box [.sl 1 0 x2.2.length])]⟩) (C := ((([.bs true 1 (List.map enc_y p1)] : List AV) = [.bs true 1 (List.map enc_y p1)]) ∧ True) ∧ True) (by kernel_rfl) ⟨⟨rfl, trivial⟩, trivial⟩ ⟨call_ok (ks := []) (ns := [0, 1]) (bor := []) (bobjs := []) (s_spec_DrawSameMeaning p1 x2 e2) (.cons (.c1 (.c0 (.same _ (by kernel_rfl) (by kernel_rfl)))) (.nil)) (by kernel_rfl) trivial, trivial⟩ ?_
    refine AX.seq ?_
    obtain ⟨x3, e3, h⟩ := bd_e h
    refine AX.reg (its := [.auto {}, .auto {}, .call 14 [.agg [.sl 0 0 x2.1.length], .agg [.sl 1 0 x2.2.length]] (handO (rho ([] ++ [])) [] [] ++ [(0, .arr 2 (List.map enc_si x2.1)), (1, .arr 2 (List.map enc_si x2.2))]) (callEv [] [] (.v (.bool x3)) [])]) [3, 4, 5] [0, 1, 2, 3] (s1 := ⟨[(3, .pt 2 0), (4, .pt 3 0), (5, .v (.bool x3))], [(0, .arr 2 (List.map enc_si x2.1)), (1, .arr 2 (List.map enc_si x2.2)), (2, .box [.sl 0 0 x2.1.length]), (3, .box [.sl 1 0 x2.2.length])]⟩) (C := ((([.agg [.sl 0 0 x2.1.length], .agg [.sl 1 0 x2.2.length]] : List AV) = [.agg [.sl 0 0 x2.1.length], .agg [.sl 1 0 x2.2.length]]) ∧ (AO.arr 2 (List.map enc_si x2.1) = AO.arr 2 (List.map enc_si x2.1)) ∧ (AO.arr 2 (List.map enc_si x2.2) = AO.arr 2 (List.map enc_si x2.2)) ∧ True) ∧ True) (by kernel_rfl) ⟨⟨rfl, rfl, rfl, trivial⟩, trivial⟩ ⟨call_ok (ks := []) (ns := []) (bor := [0, 1]) (bobjs := [(0, .arr 2 (List.map enc_si x2.1)), (1, .arr 2 (List.map enc_si x2.2))]) (s_impl_SameMeaning x2.1 x2.2 x3 e3) (.cons (.c1 (.agg (.cons (.arr rfl rfl ((rfl).trans (List.length_map ..).symm)) (.nil)))) (.cons (.c1 (.agg (.cons (.arr rfl rfl ((rfl).trans (List.length_map ..).symm)) (.nil)))) (.nil))) (by kernel_rfl) trivial, trivial⟩ ?_
    refine AX.seq ?_
    refine AX.seq ?_
    obtain ⟨x4, e4, h⟩ := bd_e h
    rcases bool_cases ((!(x3 == x4))) with b5 | b5
    · replace h := cd_t b5 h
      refine AX.reg (its := [.auto {}, .auto {}, .auto {}, .call 30 [.agg [.sl 0 0 x2.1.length], .agg [.sl 1 0 x2.2.length]] (handO (rho ([] ++ [])) [] [] ++ [(0, .arr 2 (List.map enc_si x2.1)), (1, .arr 2 (List.map enc_si x2.2))]) (callEv [] [] (.v (.bool x4)) []), .auto { y := some (.v (.bool true)) }]) [3, 4, 5, 31] [0, 1, 2, 3] (s1 := ⟨[(3, .pt 2 0), (4, .pt 3 0), (5, .v (.bool x3)), (31, .v (.bool true))], [(0, .arr 2 (List.map enc_si x2.1)), (1, .arr 2 (List.map enc_si x2.2)), (2, .box [.sl 0 0 x2.1.length]), (3, .box [.sl 1 0 x2.2.length])]⟩) (C := ((([.agg [.sl 0 0 x2.1.length], .agg [.sl 1 0 x2.2.length]] : List AV) = [.agg [.sl 0 0 x2.1.length], .agg [.sl 1 0 x2.2.length]]) ∧ (AO.arr 2 (List.map enc_si x2.1) = AO.arr 2 (List.map enc_si x2.1)) ∧ (AO.arr 2 (List.map enc_si x2.2) = AO.arr 2 (List.map enc_si x2.2)) ∧ True) ∧ ((True) ∧ ((.v (.bool (!(x3 == x4))) : AV) = (.v (.bool true) : AV))) ∧ True) (by kernel_rfl) ⟨⟨rfl, rfl, rfl, trivial⟩, ⟨⟨trivial, (congrArg (fun z => AV.v (.bool z)) b5)⟩, trivial⟩⟩ ⟨call_ok (ks := []) (ns := []) (bor := [0, 1]) (bobjs := [(0, .arr 2 (List.map enc_si x2.1)), (1, .arr 2 (List.map enc_si x2.2))]) (s_spec_SameMeaning x2.1 x2.2 x4 e4) (.cons (.c1 (.agg (.cons (.arr rfl rfl ((rfl).trans (List.length_map ..).symm)) (.nil)))) (.cons (.c1 (.agg (.cons (.arr rfl rfl ((rfl).trans (List.length_map ..).symm)) (.nil)))) (.nil))) (by kernel_rfl) trivial, trivial⟩ ?_
      refine AX.cond_true (by kernel_rfl) ?_
      refine AX.seq ?_
      obtain ⟨x5, e6, h⟩ := bd_e h
      refine AX.reg (its := [.auto {}, .auto {}, .auto {}, .call 30 [.agg [.sl 0 0 x2.1.length], .agg [.sl 1 0 x2.2.length]] (handO (rho ([] ++ [])) [] [] ++ [(0, .arr 2 (List.map enc_si x2.1)), (1, .arr 2 (List.map enc_si x2.2))]) (callEv [] [] (.v (.bool x5)) [])]) [2] [] (s1 := ⟨[(2, .v (.bool (x3 == x5)))], []⟩) (C := ((([.agg [.sl 0 0 x2.1.length], .agg [.sl 1 0 x2.2.length]] : List AV) = [.agg [.sl 0 0 x2.1.length], .agg [.sl 1 0 x2.2.length]]) ∧ (AO.arr 2 (List.map enc_si x2.1) = AO.arr 2 (List.map enc_si x2.1)) ∧ (AO.arr 2 (List.map enc_si x2.2) = AO.arr 2 (List.map enc_si x2.2)) ∧ True) ∧ True) (by kernel_rfl) ⟨⟨rfl, rfl, rfl, trivial⟩, trivial⟩ ⟨call_ok (ks := []) (ns := []) (bor := [0, 1]) (bobjs := [(0, .arr 2 (List.map enc_si x2.1)), (1, .arr 2 (List.map enc_si x2.2))]) (s_spec_SameMeaning x2.1 x2.2 x5 e6) (.cons (.c1 (.agg (.cons (.arr rfl rfl ((rfl).trans (List.length_map ..).symm)) (.nil)))) (.cons (.c1 (.agg (.cons (.arr rfl rfl ((rfl).trans (List.length_map ..).symm)) (.nil)))) (.nil))) (by kernel_rfl) trivial, trivial⟩ ?_
      refine AX.ret ?_
      refine fin_wk (Wk.forget [2] [] (s' := ⟨[(2, .v (.bool (x3 == x5)))], []⟩) (by kernel_rfl)) ?_
      have hr := Option.some.inj h
      subst hr
      exact ⟨_, Wk.refl _, .inr rfl, ⟨[], by kernel_rfl, trivial, [.v (.bool (x3 == x5))], by kernel_rfl, by kernel_rfl⟩⟩
    · replace h := cd_f b5 h
      obtain ⟨x6, e7, h⟩ := bd_e h
      rcases bool_cases ((!x6)) with b8 | b8
      · replace h := cd_t b8 h
        refine AX.reg (its := [.auto {}, .auto {}, .auto {}, .call 30 [.agg [.sl 0 0 x2.1.length], .agg [.sl 1 0 x2.2.length]] (handO (rho ([] ++ [])) [] [] ++ [(0, .arr 2 (List.map enc_si x2.1)), (1, .arr 2 (List.map enc_si x2.2))]) (callEv [] [] (.v (.bool x4)) []), .auto { y := some (.v (.bool false)) }, .auto {}, .auto {}, .call 13 [.agg [.sl 0 0 x2.1.length]] (handO (rho ([] ++ [])) [] [] ++ [(0, .arr 2 (List.map enc_si x2.1))]) (callEv [] [] (.v (.bool x6)) []), .auto { y := some (.v (.bool true)) }]) [3, 4, 5, 31] [0, 1, 2, 3] (s1 := ⟨[(3, .pt 2 0), (4, .pt 3 0), (5, .v (.bool x3)), (31, .v (.bool true))], [(0, .arr 2 (List.map enc_si x2.1)), (1, .arr 2 (List.map enc_si x2.2)), (2, .box [.sl 0 0 x2.1.length]), (3, .box [.sl 1 0 x2.2.length])]⟩) (C := ((([.agg [.sl 0 0 x2.1.length], .agg [.sl 1 0 x2.2.length]] : List AV) = [.agg [.sl 0 0 x2.1.length], .agg [.sl 1 0 x2.2.length]]) ∧ (AO.arr 2 (List.map enc_si x2.1) = AO.arr 2 (List.map enc_si x2.1)) ∧ (AO.arr 2 (List.map enc_si x2.2) = AO.arr 2 (List.map enc_si x2.2)) ∧ True) ∧ ((True) ∧ ((.v (.bool (!(x3 == x4))) : AV) = (.v (.bool false) : AV))) ∧ ((([.agg [.sl 0 0 x2.1.length]] : List AV) = [.agg [.sl 0 0 x2.1.length]]) ∧ (AO.arr 2 (List.map enc_si x2.1) = AO.arr 2 (List.map enc_si x2.1)) ∧ True) ∧ ((True) ∧ ((.v (.bool (!x6)) : AV) = (.v (.bool true) : AV))) ∧ True) (by kernel_rfl) ⟨⟨rfl, rfl, rfl, trivial⟩, ⟨⟨trivial, (congrArg (fun z => AV.v (.bool z)) b5)⟩, ⟨⟨rfl, rfl, trivial⟩, ⟨⟨trivial, (congrArg (fun z => AV.v (.bool z)) b8)⟩, trivial⟩⟩⟩⟩ ⟨call_ok (ks := []) (ns := []) (bor := [0, 1]) (bobjs := [(0, .arr 2 (List.map enc_si x2.1)), (1, .arr 2 (List.map enc_si x2.2))]) (s_spec_SameMeaning x2.1 x2.2 x4 e4) (.cons (.c1 (.agg (.cons (.arr rfl rfl ((rfl).trans (List.length_map ..).symm)) (.nil)))) (.cons (.c1 (.agg (.cons (.arr rfl rfl ((rfl).trans (List.length_map ..).symm)) (.nil)))) (.nil))) (by kernel_rfl) trivial, ⟨call_ok (ks := []) (ns := []) (bor := [0]) (bobjs := [(0, .arr 2 (List.map enc_si x2.1))]) (s_impl_ValidEnum x2.1 x6 e7) (.cons (.c1 (.agg (.cons (.arr rfl rfl ((rfl).trans (List.length_map ..).symm)) (.nil)))) (.nil)) (by kernel_rfl) trivial, trivial⟩⟩ ?_
        refine AX.cond_true (by kernel_rfl) ?_
        refine AX.seq ?_
        obtain ⟨x7, e9, h⟩ := bd_e h
        refine AX.reg (its := [.auto {}, .auto {}, .auto {}, .call 30 [.agg [.sl 0 0 x2.1.length], .agg [.sl 1 0 x2.2.length]] (handO (rho ([] ++ [])) [] [] ++ [(0, .arr 2 (List.map enc_si x2.1)), (1, .arr 2 (List.map enc_si x2.2))]) (callEv [] [] (.v (.bool x7)) [])]) [2] [] (s1 := ⟨[(2, .v (.bool (x3 == x7)))], []⟩) (C := ((([.agg [.sl 0 0 x2.1.length], .agg [.sl 1 0 x2.2.length]] : List AV) = [.agg [.sl 0 0 x2.1.length], .agg [.sl 1 0 x2.2.length]]) ∧ (AO.arr 2 (List.map enc_si x2.1) = AO.arr 2 (List.map enc_si x2.1)) ∧ (AO.arr 2 (List.map enc_si x2.2) = AO.arr 2 (List.map enc_si x2.2)) ∧ True) ∧ True) (by kernel_rfl) ⟨⟨rfl, rfl, rfl, trivial⟩, trivial⟩ ⟨call_ok (ks := []) (ns := []) (bor := [0, 1]) (bobjs := [(0, .arr 2 (List.map enc_si x2.1)), (1, .arr 2 (List.map enc_si x2.2))]) (s_spec_SameMeaning x2.1 x2.2 x7 e9) (.cons (.c1 (.agg (.cons (.arr rfl rfl ((rfl).trans (List.length_map ..).symm)) (.nil)))) (.cons (.c1 (.agg (.cons (.arr rfl rfl ((rfl).trans (List.length_map ..).symm)) (.nil)))) (.nil))) (by kernel_rfl) trivial, trivial⟩ ?_
        refine AX.ret ?_
        refine fin_wk (Wk.forget [2] [] (s' := ⟨[(2, .v (.bool (x3 == x7)))], []⟩) (by kernel_rfl)) ?_
        have hr := Option.some.inj h
        subst hr
        exact ⟨_, Wk.refl _, .inr rfl, ⟨[], by kernel_rfl, trivial, [.v (.bool (x3 == x7))], by kernel_rfl, by kernel_rfl⟩⟩
      · replace h := cd_f b8 h
        obtain ⟨x8, e10, h⟩ := bd_e h
        refine AX.reg (its := [.auto {}, .auto {}, .auto {}, .call 30 [.agg [.sl 0 0 x2.1.length], .agg [.sl 1 0 x2.2.length]] (handO (rho ([] ++ [])) [] [] ++ [(0, .arr 2 (List.map enc_si x2.1)), (1, .arr 2 (List.map enc_si x2.2))]) (callEv [] [] (.v (.bool x4)) []), .auto { y := some (.v (.bool false)) }, .auto {}, .auto {}, .call 13 [.agg [.sl 0 0 x2.1.length]] (handO (rho ([] ++ [])) [] [] ++ [(0, .arr 2 (List.map enc_si x2.1))]) (callEv [] [] (.v (.bool x6)) []), .auto { y := some (.v (.bool false)) }, .auto {}, .auto {}, .auto {}, .call 13 [.agg [.sl 1 0 x2.2.length]] (handO (rho ([] ++ [])) [] [] ++ [(1, .arr 2 (List.map enc_si x2.2))]) (callEv [] [] (.v (.bool x8)) [])]) [3, 4, 5, 31] [0, 1, 2, 3] (s1 := ⟨[(3, .pt 2 0), (4, .pt 3 0), (5, .v (.bool x3)), (31, .v (.bool (!x8)))], [(0, .arr 2 (List.map enc_si x2.1)), (1, .arr 2 (List.map enc_si x2.2)), (2, .box [.sl 0 0 x2.1.length]), (3, .box [.sl 1 0 x2.2.length])]⟩) (C := ((([.agg [.sl 0 0 x2.1.length], .agg [.sl 1 0 x2.2.length]] : List AV) = [.agg [.sl 0 0 x2.1.length], .agg [.sl 1 0 x2.2.length]]) ∧ (AO.arr 2 (List.map enc_si x2.1) = AO.arr 2 (List.map enc_si x2.1)) ∧ (AO.arr 2 (List.map enc_si x2.2) = AO.arr 2 (List.map enc_si x2.2)) ∧ True) ∧ ((True) ∧ ((.v (.bool (!(x3 == x4))) : AV) = (.v (.bool false) : AV))) ∧ ((([.agg [.sl 0 0 x2.1.length]] : List AV) = [.agg [.sl 0 0 x2.1.length]]) ∧ (AO.arr 2 (List.map enc_si x2.1) = AO.arr 2 (List.map enc_si x2.1)) ∧ True) ∧ ((True) ∧ ((.v (.bool (!x6)) : AV) = (.v (.bool false) : AV))) ∧ ((([.agg [.sl 1 0 x2.2.length]] : List AV) = [.agg [.sl 1 0 x2.2.length]]) ∧ (AO.arr 2 (List.map enc_si x2.2) = AO.arr 2 (List.map enc_si x2.2)) ∧ True) ∧ True) (by kernel_rfl) ⟨⟨rfl, rfl, rfl, trivial⟩, ⟨⟨trivial, (congrArg (fun z => AV.v (.bool z)) b5)⟩, ⟨⟨rfl, rfl, trivial⟩, ⟨⟨trivial, (congrArg (fun z => AV.v (.bool z)) b8)⟩, ⟨⟨rfl, rfl, trivial⟩, trivial⟩⟩⟩⟩⟩ ⟨call_ok (ks := []) (ns := []) (bor := [0, 1]) (bobjs := [(0, .arr 2 (List.map enc_si x2.1)), (1, .arr 2 (List.map enc_si x2.2))]) (s_spec_SameMeaning x2.1 x2.2 x4 e4) (.cons (.c1 (.agg (.cons (.arr rfl rfl ((rfl).trans (List.length_map ..).symm)) (.nil)))) (.cons (.c1 (.agg (.cons (.arr rfl rfl ((rfl).trans (List.length_map ..).symm)) (.nil)))) (.nil))) (by kernel_rfl) trivial, ⟨call_ok (ks := []) (ns := []) (bor := [0]) (bobjs := [(0, .arr 2 (List.map enc_si x2.1))]) (s_impl_ValidEnum x2.1 x6 e7) (.cons (.c1 (.agg (.cons (.arr rfl rfl ((rfl).trans (List.length_map ..).symm)) (.nil)))) (.nil)) (by kernel_rfl) trivial, ⟨call_ok (ks := []) (ns := []) (bor := [1]) (bobjs := [(1, .arr 2 (List.map enc_si x2.2))]) (s_impl_ValidEnum x2.2 x8 e10) (.cons (.c1 (.agg (.cons (.arr rfl rfl ((rfl).trans (List.length_map ..).symm)) (.nil)))) (.nil)) (by kernel_rfl) trivial, trivial⟩⟩⟩ ?_
        rcases bool_cases ((!x8)) with b11 | b11
        · replace h := cd_t b11 h
          refine AX.condT ((!x8)) (by kernel_rfl) b11 ?_
          refine AX.seq ?_
          obtain ⟨x9, e12, h⟩ := bd_e h
          refine AX.reg (its := [.auto {}, .auto {}, .auto {}, .call 30 [.agg [.sl 0 0 x2.1.length], .agg [.sl 1 0 x2.2.length]] (handO (rho ([] ++ [])) [] [] ++ [(0, .arr 2 (List.map enc_si x2.1)), (1, .arr 2 (List.map enc_si x2.2))]) (callEv [] [] (.v (.bool x9)) [])]) [2] [] (s1 := ⟨[(2, .v (.bool (x3 == x9)))], []⟩) (C := ((([.agg [.sl 0 0 x2.1.length], .agg [.sl 1 0 x2.2.length]] : List AV) = [.agg [.sl 0 0 x2.1.length], .agg [.sl 1 0 x2.2.length]]) ∧ (AO.arr 2 (List.map enc_si x2.1) = AO.arr 2 (List.map enc_si x2.1)) ∧ (AO.arr 2 (List.map enc_si x2.2) = AO.arr 2 (List.map enc_si x2.2)) ∧ True) ∧ True) (by kernel_rfl) ⟨⟨rfl, rfl, rfl, trivial⟩, trivial⟩ ⟨call_ok (ks := []) (ns := []) (bor := [0, 1]) (bobjs := [(0, .arr 2 (List.map enc_si x2.1)), (1, .arr 2 (List.map enc_si x2.2))]) (s_spec_SameMeaning x2.1 x2.2 x9 e12) (.cons (.c1 (.agg (.cons (.arr rfl rfl ((rfl).trans (List.length_map ..).symm)) (.nil)))) (.cons (.c1 (.agg (.cons (.arr rfl rfl ((rfl).trans (List.length_map ..).symm)) (.nil)))) (.nil))) (by kernel_rfl) trivial, trivial⟩ ?_
          refine AX.ret ?_
          refine fin_wk (Wk.forget [2] [] (s' := ⟨[(2, .v (.bool (x3 == x9)))], []⟩) (by kernel_rfl)) ?_
          have hr := Option.some.inj h
          subst hr
          exact ⟨_, Wk.refl _, .inr rfl, ⟨[], by kernel_rfl, trivial, [.v (.bool (x3 == x9))], by kernel_rfl, by kernel_rfl⟩⟩
        · replace h := cd_f b11 h
          refine AX.condF ((!x8)) (by kernel_rfl) b11 ?_
          refine AX.skip ?_
          refine AX.seq ?_
          obtain ⟨x10, e13, h⟩ := bd_e h
          rcases bool_cases ((x10 == x3)) with b14 | b14
          · replace h := cd_t b14 h
            obtain ⟨x11, e15, h⟩ := bd_e h
            obtain ⟨x12, e16, h⟩ := bd_e h
            rcases bool_cases (x12) with b17 | b17
            · replace h := cd_t b17 h
              rcases bool_cases ((!x3)) with b18 | b18
              · replace h := cd_t b18 h
                refine AX.drw mixed (its := [.auto {}, .auto {}, .call 14 [.agg [.sl 1 0 x2.2.length], .agg [.sl 0 0 x2.1.length]] (handO (rho ([] ++ [])) [] [] ++ [(1, .arr 2 (List.map enc_si x2.2)), (0, .arr 2 (List.map enc_si x2.1))]) (callEv [] [] (.v (.bool x10)) []), .auto {}, .auto { y := some (.v (.bool true)) }, .auto {}, .auto {}, .auto {}, .call 25 [.agg [.sl 0 0 x2.1.length]] (handO (rho ([] ++ [4])) [] [] ++ [(0, .arr 2 (List.map enc_si x2.1))]) (callEv [] [4] (.agg [.sl 0 0 x11.length]) [.arr 2 (List.map enc_si x11)]), .call 14 [.agg [.sl 0 0 x2.1.length], .agg [.sl 4 0 x11.length]] (handO (rho ([] ++ [])) [] [] ++ [(0, .arr 2 (List.map enc_si x2.1)), (4, .arr 2 (List.map enc_si x11))]) (callEv [] [] (.v (.bool true)) []), .auto {}, .auto {}, .auto {}, .auto { y := some (.v (.bool true)) }]) [2] [] (s1 := ⟨[(2, .v (.bool true))], []⟩) (C := ((([.agg [.sl 1 0 x2.2.length], .agg [.sl 0 0 x2.1.length]] : List AV) = [.agg [.sl 1 0 x2.2.length], .agg [.sl 0 0 x2.1.length]]) ∧ (AO.arr 2 (List.map enc_si x2.2) = AO.arr 2 (List.map enc_si x2.2)) ∧ (AO.arr 2 (List.map enc_si x2.1) = AO.arr 2 (List.map enc_si x2.1)) ∧ True) ∧ ((True) ∧ ((.v (.bool (x10 == x3)) : AV) = (.v (.bool true) : AV))) ∧ ((([.agg [.sl 0 0 x2.1.length]] : List AV) = [.agg [.sl 0 0 x2.1.length]]) ∧ (AO.arr 2 (List.map enc_si x2.1) = AO.arr 2 (List.map enc_si x2.1)) ∧ True) ∧ ((([.agg [.sl 0 0 x2.1.length], .agg [.sl 4 0 x11.length]] : List AV) = [.agg [.sl 0 0 x2.1.length], .agg [.sl 4 0 x11.length]]) ∧ (AO.arr 2 (List.map enc_si x2.1) = AO.arr 2 (List.map enc_si x2.1)) ∧ (AO.arr 2 (List.map enc_si x11) = AO.arr 2 (List.map enc_si x11)) ∧ True) ∧ ((True) ∧ ((.v (.bool (!x3)) : AV) = (.v (.bool true) : AV))) ∧ True) (by kernel_rfl) ⟨⟨rfl, rfl, rfl, trivial⟩, ⟨⟨trivial, (congrArg (fun z => AV.v (.bool z)) b14)⟩, ⟨⟨rfl, rfl, trivial⟩, ⟨⟨rfl, rfl, rfl, trivial⟩, ⟨⟨trivial, (congrArg (fun z => AV.v (.bool z)) b18)⟩, trivial⟩⟩⟩⟩⟩ ⟨call_ok (ks := []) (ns := []) (bor := [1, 0]) (bobjs := [(1, .arr 2 (List.map enc_si x2.2)), (0, .arr 2 (List.map enc_si x2.1))]) (s_impl_SameMeaning x2.2 x2.1 x10 e13) (.cons (.c1 (.agg (.cons (.arr rfl rfl ((rfl).trans (List.length_map ..).symm)) (.nil)))) (.cons (.c1 (.agg (.cons (.arr rfl rfl ((rfl).trans (List.length_map ..).symm)) (.nil)))) (.nil))) (by kernel_rfl) trivial, ⟨call_ok (ks := []) (ns := [4]) (bor := [0]) (bobjs := [(0, .arr 2 (List.map enc_si x2.1))]) (s_impl_SortEnum x2.1 x11 e15) (.cons (.c1 (.agg (.cons (.arr rfl rfl ((rfl).trans (List.length_map ..).symm)) (.nil)))) (.nil)) (by kernel_rfl) trivial, ⟨call_ok (ks := []) (ns := []) (bor := [0, 4]) (bobjs := [(0, .arr 2 (List.map enc_si x2.1)), (4, .arr 2 (List.map enc_si x11))]) (show Eng.Spec Try.prog 14 [.agg [.bs false 2 (List.map enc_si x2.1)], .agg [.bs false 2 (List.map enc_si x11)]] [] (.v (.bool true)) [] from by have q := s_impl_SameMeaning x2.1 x11 x12 e16; rw [b17] at q; exact q) (.cons (.c1 (.agg (.cons (.arr rfl rfl ((rfl).trans (List.length_map ..).symm)) (.nil)))) (.cons (.c1 (.agg (.cons (.arr rfl rfl ((rfl).trans (List.length_map ..).symm)) (.nil)))) (.nil))) (by kernel_rfl) trivial, trivial⟩⟩⟩ ?_
                refine AX.ret ?_
                refine fin_wk (Wk.forget [2] [] (s' := ⟨[(2, .v (.bool true))], []⟩) (by kernel_rfl)) ?_
                have hr := Option.some.inj h
                subst hr
                exact ⟨_, Wk.refl _, .inr rfl, ⟨[], by kernel_rfl, trivial, [.v (.bool true)], by kernel_rfl, by kernel_rfl⟩⟩
              · replace h := cd_f b18 h
                refine AX.drw mixed (its := [.auto {}, .auto {}, .call 14 [.agg [.sl 1 0 x2.2.length], .agg [.sl 0 0 x2.1.length]] (handO (rho ([] ++ [])) [] [] ++ [(1, .arr 2 (List.map enc_si x2.2)), (0, .arr 2 (List.map enc_si x2.1))]) (callEv [] [] (.v (.bool x10)) []), .auto {}, .auto { y := some (.v (.bool true)) }, .auto {}, .auto {}, .auto {}, .call 25 [.agg [.sl 0 0 x2.1.length]] (handO (rho ([] ++ [4])) [] [] ++ [(0, .arr 2 (List.map enc_si x2.1))]) (callEv [] [4] (.agg [.sl 0 0 x11.length]) [.arr 2 (List.map enc_si x11)]), .call 14 [.agg [.sl 0 0 x2.1.length], .agg [.sl 4 0 x11.length]] (handO (rho ([] ++ [])) [] [] ++ [(0, .arr 2 (List.map enc_si x2.1)), (4, .arr 2 (List.map enc_si x11))]) (callEv [] [] (.v (.bool true)) []), .auto {}, .auto {}, .auto {}, .auto { y := some (.v (.bool false)) }]) [2] [] (s1 := ⟨[(2, .v (.bool (decide ((x2.1.length : Int) = (x2.2.length : Int)))))], []⟩) (C := ((([.agg [.sl 1 0 x2.2.length], .agg [.sl 0 0 x2.1.length]] : List AV) = [.agg [.sl 1 0 x2.2.length], .agg [.sl 0 0 x2.1.length]]) ∧ (AO.arr 2 (List.map enc_si x2.2) = AO.arr 2 (List.map enc_si x2.2)) ∧ (AO.arr 2 (List.map enc_si x2.1) = AO.arr 2 (List.map enc_si x2.1)) ∧ True) ∧ ((True) ∧ ((.v (.bool (x10 == x3)) : AV) = (.v (.bool true) : AV))) ∧ ((([.agg [.sl 0 0 x2.1.length]] : List AV) = [.agg [.sl 0 0 x2.1.length]]) ∧ (AO.arr 2 (List.map enc_si x2.1) = AO.arr 2 (List.map enc_si x2.1)) ∧ True) ∧ ((([.agg [.sl 0 0 x2.1.length], .agg [.sl 4 0 x11.length]] : List AV) = [.agg [.sl 0 0 x2.1.length], .agg [.sl 4 0 x11.length]]) ∧ (AO.arr 2 (List.map enc_si x2.1) = AO.arr 2 (List.map enc_si x2.1)) ∧ (AO.arr 2 (List.map enc_si x11) = AO.arr 2 (List.map enc_si x11)) ∧ True) ∧ ((True) ∧ ((.v (.bool (!x3)) : AV) = (.v (.bool false) : AV))) ∧ True) (by kernel_rfl) ⟨⟨rfl, rfl, rfl, trivial⟩, ⟨⟨trivial, (congrArg (fun z => AV.v (.bool z)) b14)⟩, ⟨⟨rfl, rfl, trivial⟩, ⟨⟨rfl, rfl, rfl, trivial⟩, ⟨⟨trivial, (congrArg (fun z => AV.v (.bool z)) b18)⟩, trivial⟩⟩⟩⟩⟩ ⟨call_ok (ks := []) (ns := []) (bor := [1, 0]) (bobjs := [(1, .arr 2 (List.map enc_si x2.2)), (0, .arr 2 (List.map enc_si x2.1))]) (s_impl_SameMeaning x2.2 x2.1 x10 e13) (.cons (.c1 (.agg (.cons (.arr rfl rfl ((rfl).trans (List.length_map ..).symm)) (.nil)))) (.cons (.c1 (.agg (.cons (.arr rfl rfl ((rfl).trans (List.length_map ..).symm)) (.nil)))) (.nil))) (by kernel_rfl) trivial, ⟨call_ok (ks := []) (ns := [4]) (bor := [0]) (bobjs := [(0, .arr 2 (List.map enc_si x2.1))]) (s_impl_SortEnum x2.1 x11 e15) (.cons (.c1 (.agg (.cons (.arr rfl rfl ((rfl).trans (List.length_map ..).symm)) (.nil)))) (.nil)) (by kernel_rfl) trivial, ⟨call_ok (ks := []) (ns := []) (bor := [0, 4]) (bobjs := [(0, .arr 2 (List.map enc_si x2.1)), (4, .arr 2 (List.map enc_si x11))]) (show Eng.Spec Try.prog 14 [.agg [.bs false 2 (List.map enc_si x2.1)], .agg [.bs false 2 (List.map enc_si x11)]] [] (.v (.bool true)) [] from by have q := s_impl_SameMeaning x2.1 x11 x12 e16; rw [b17] at q; exact q) (.cons (.c1 (.agg (.cons (.arr rfl rfl ((rfl).trans (List.length_map ..).symm)) (.nil)))) (.cons (.c1 (.agg (.cons (.arr rfl rfl ((rfl).trans (List.length_map ..).symm)) (.nil)))) (.nil))) (by kernel_rfl) trivial, trivial⟩⟩⟩ ?_
                refine AX.ret ?_
                refine fin_wk (Wk.forget [2] [] (s' := ⟨[(2, .v (.bool (decide ((x2.1.length : Int) = (x2.2.length : Int)))))], []⟩) (by kernel_rfl)) ?_
                have hr := Option.some.inj h
                subst hr
                exact ⟨_, Wk.refl _, .inr rfl, ⟨[], by kernel_rfl, trivial, [.v (.bool (decide ((x2.1.length : Int) = (x2.2.length : Int))))], by kernel_rfl, by kernel_rfl⟩⟩
            · replace h := cd_f b17 h
              refine AX.drw mixed (its := [.auto {}, .auto {}, .call 14 [.agg [.sl 1 0 x2.2.length], .agg [.sl 0 0 x2.1.length]] (handO (rho ([] ++ [])) [] [] ++ [(1, .arr 2 (List.map enc_si x2.2)), (0, .arr 2 (List.map enc_si x2.1))]) (callEv [] [] (.v (.bool x10)) []), .auto {}, .auto { y := some (.v (.bool true)) }, .auto {}, .auto {}, .auto {}, .call 25 [.agg [.sl 0 0 x2.1.length]] (handO (rho ([] ++ [4])) [] [] ++ [(0, .arr 2 (List.map enc_si x2.1))]) (callEv [] [4] (.agg [.sl 0 0 x11.length]) [.arr 2 (List.map enc_si x11)]), .call 14 [.agg [.sl 0 0 x2.1.length], .agg [.sl 4 0 x11.length]] (handO (rho ([] ++ [])) [] [] ++ [(0, .arr 2 (List.map enc_si x2.1)), (4, .arr 2 (List.map enc_si x11))]) (callEv [] [] (.v (.bool false)) [])]) [2] [] (s1 := ⟨[(2, .v (.bool false))], []⟩) (C := ((([.agg [.sl 1 0 x2.2.length], .agg [.sl 0 0 x2.1.length]] : List AV) = [.agg [.sl 1 0 x2.2.length], .agg [.sl 0 0 x2.1.length]]) ∧ (AO.arr 2 (List.map enc_si x2.2) = AO.arr 2 (List.map enc_si x2.2)) ∧ (AO.arr 2 (List.map enc_si x2.1) = AO.arr 2 (List.map enc_si x2.1)) ∧ True) ∧ ((True) ∧ ((.v (.bool (x10 == x3)) : AV) = (.v (.bool true) : AV))) ∧ ((([.agg [.sl 0 0 x2.1.length]] : List AV) = [.agg [.sl 0 0 x2.1.length]]) ∧ (AO.arr 2 (List.map enc_si x2.1) = AO.arr 2 (List.map enc_si x2.1)) ∧ True) ∧ ((([.agg [.sl 0 0 x2.1.length], .agg [.sl 4 0 x11.length]] : List AV) = [.agg [.sl 0 0 x2.1.length], .agg [.sl 4 0 x11.length]]) ∧ (AO.arr 2 (List.map enc_si x2.1) = AO.arr 2 (List.map enc_si x2.1)) ∧ (AO.arr 2 (List.map enc_si x11) = AO.arr 2 (List.map enc_si x11)) ∧ True) ∧ True) (by kernel_rfl) ⟨⟨rfl, rfl, rfl, trivial⟩, ⟨⟨trivial, (congrArg (fun z => AV.v (.bool z)) b14)⟩, ⟨⟨rfl, rfl, trivial⟩, ⟨⟨rfl, rfl, rfl, trivial⟩, trivial⟩⟩⟩⟩ ⟨call_ok (ks := []) (ns := []) (bor := [1, 0]) (bobjs := [(1, .arr 2 (List.map enc_si x2.2)), (0, .arr 2 (List.map enc_si x2.1))]) (s_impl_SameMeaning x2.2 x2.1 x10 e13) (.cons (.c1 (.agg (.cons (.arr rfl rfl ((rfl).trans (List.length_map ..).symm)) (.nil)))) (.cons (.c1 (.agg (.cons (.arr rfl rfl ((rfl).trans (List.length_map ..).symm)) (.nil)))) (.nil))) (by kernel_rfl) trivial, ⟨call_ok (ks := []) (ns := [4]) (bor := [0]) (bobjs := [(0, .arr 2 (List.map enc_si x2.1))]) (s_impl_SortEnum x2.1 x11 e15) (.cons (.c1 (.agg (.cons (.arr rfl rfl ((rfl).trans (List.length_map ..).symm)) (.nil)))) (.nil)) (by kernel_rfl) trivial, ⟨call_ok (ks := []) (ns := []) (bor := [0, 4]) (bobjs := [(0, .arr 2 (List.map enc_si x2.1)), (4, .arr 2 (List.map enc_si x11))]) (show Eng.Spec Try.prog 14 [.agg [.bs false 2 (List.map enc_si x2.1)], .agg [.bs false 2 (List.map enc_si x11)]] [] (.v (.bool false)) [] from by have q := s_impl_SameMeaning x2.1 x11 x12 e16; rw [b17] at q; exact q) (.cons (.c1 (.agg (.cons (.arr rfl rfl ((rfl).trans (List.length_map ..).symm)) (.nil)))) (.cons (.c1 (.agg (.cons (.arr rfl rfl ((rfl).trans (List.length_map ..).symm)) (.nil)))) (.nil))) (by kernel_rfl) trivial, trivial⟩⟩⟩ ?_
              refine AX.ret ?_
              refine fin_wk (Wk.forget [2] [] (s' := ⟨[(2, .v (.bool false))], []⟩) (by kernel_rfl)) ?_
              have hr := Option.some.inj h
              subst hr
              exact ⟨_, Wk.refl _, .inr rfl, ⟨[], by kernel_rfl, trivial, [.v (.bool false)], by kernel_rfl, by kernel_rfl⟩⟩
          · replace h := cd_f b14 h
            refine AX.drw mixed (its := [.auto {}, .auto {}, .call 14 [.agg [.sl 1 0 x2.2.length], .agg [.sl 0 0 x2.1.length]] (handO (rho ([] ++ [])) [] [] ++ [(1, .arr 2 (List.map enc_si x2.2)), (0, .arr 2 (List.map enc_si x2.1))]) (callEv [] [] (.v (.bool x10)) []), .auto {}, .auto { y := some (.v (.bool false)) }]) [2] [] (s1 := ⟨[(2, .v (.bool false))], []⟩) (C := ((([.agg [.sl 1 0 x2.2.length], .agg [.sl 0 0 x2.1.length]] : List AV) = [.agg [.sl 1 0 x2.2.length], .agg [.sl 0 0 x2.1.length]]) ∧ (AO.arr 2 (List.map enc_si x2.2) = AO.arr 2 (List.map enc_si x2.2)) ∧ (AO.arr 2 (List.map enc_si x2.1) = AO.arr 2 (List.map enc_si x2.1)) ∧ True) ∧ ((True) ∧ ((.v (.bool (x10 == x3)) : AV) = (.v (.bool false) : AV))) ∧ True) (by kernel_rfl) ⟨⟨rfl, rfl, rfl, trivial⟩, ⟨⟨trivial, (congrArg (fun z => AV.v (.bool z)) b14)⟩, trivial⟩⟩ ⟨call_ok (ks := []) (ns := []) (bor := [1, 0]) (bobjs := [(1, .arr 2 (List.map enc_si x2.2)), (0, .arr 2 (List.map enc_si x2.1))]) (s_impl_SameMeaning x2.2 x2.1 x10 e13) (.cons (.c1 (.agg (.cons (.arr rfl rfl ((rfl).trans (List.length_map ..).symm)) (.nil)))) (.cons (.c1 (.agg (.cons (.arr rfl rfl ((rfl).trans (List.length_map ..).symm)) (.nil)))) (.nil))) (by kernel_rfl) trivial, trivial⟩ ?_
            refine AX.ret ?_
            refine fin_wk (Wk.forget [2] [] (s' := ⟨[(2, .v (.bool false))], []⟩) (by kernel_rfl)) ?_
            have hr := Option.some.inj h
            subst hr
            exact ⟨_, Wk.refl _, .inr rfl, ⟨[], by kernel_rfl, trivial, [.v (.bool false)], by kernel_rfl, by kernel_rfl⟩⟩

end Go.Eng
