/- What is proved here: each function keeps to its model, whatever its arguments, wherever the model has an answer. Printed by gen.py. -/
import Derived.Test.YtomemaanjendhaaDoorCExactShowShortWalk2
import Derived.Test.YtomemaanjendhaaDoorProg
import Derived.Test.YtomemaanjendhaaDoorCExactShowShortShelf
import Derived.KernelRfl
set_option linter.unusedVariables false
set_option linter.unusedSimpArgs false
set_option linter.unnecessarySimpa false
namespace Go.Eng
open Go Go.Proofs


theorem s_impl_names_anyDef_L1 (p1 : List (ByteArray × Int)) (n : Nat) (g : List (ByteArray) × Int) (out : List (ByteArray)) (h : m_impl_names_anyDef_L1 p1 n g.1 g.2 = some out) :
    AX Tryd.prog 25 0 (codeAt [1, 1, 0, 1, 1] (bodyOf Tryd.f75)) ((fun g : List (ByteArray) × Int => (⟨[(1, .fn 76 []), (5, .sl 0 0 g.1.length), (8, .bs false 2 (List.map enc_si p1)), (9, .v (.int .i64 (p1.length : Int))), (10, .v (.int .i64 g.2))], [(0, .arr 1 (List.map enc_s g.1))]⟩ : S)) g) (fun ex s => ex = .exit 0 ∧ s = (fun o : List (ByteArray) => (⟨[(5, .sl 0 0 o.length)], [(0, .arr 1 (List.map enc_s o))]⟩ : S)) out) := by
  refine AX.wkpost ?_
  refine AX.loop (G := Nat × (List (ByteArray) × Int)) (fun q => (fun g : List (ByteArray) × Int => (⟨[(1, .fn 76 []), (5, .sl 0 0 g.1.length), (8, .bs false 2 (List.map enc_si p1)), (9, .v (.int .i64 (p1.length : Int))), (10, .v (.int .i64 g.2))], [(0, .arr 1 (List.map enc_s g.1))]⟩ : S)) q.2) (fun q => m_impl_names_anyDef_L1 p1 q.1 q.2.1 q.2.2 = some out) (fun q => q.1) (n, g) h (Wk.refl _) ?_
  clear h
  rintro ⟨fu, v2, v3⟩ h
  cases fu with
  | zero => cases h
  | succ fu =>
    rw [m_impl_names_anyDef_L1] at h
    refine AX.seq ?_
    refine AX.reg (its := []) [1, 5, 8, 9, 10, 11] [0] (s1 := ⟨[(1, .fn 76 []), (5, .sl 0 0 v2.length), (8, .bs false 2 (List.map enc_si p1)), (9, .v (.int .i64 (p1.length : Int))), (10, .v (.int .i64 v3)), (11, .v (.bool (decide (v3 < (p1.length : Int)))))], [(0, .arr 1 (List.map enc_s v2))]⟩) (C := True) (by kernel_rfl) trivial trivial ?_
    refine AX.seq ?_
    rcases bool_cases (decide (v3 < (p1.length : Int))) with b1 | b1
    · replace h := cd_t b1 h
      refine AX.condT (decide (v3 < (p1.length : Int))) (by kernel_rfl) b1 ?_
      refine AX.skip ?_
      refine AX.seq ?_
      refine AX.block ?_
      refine AX.seq ?_
      obtain ⟨g2, h⟩ := gd_e h
      refine AX.reg (its := [.auto { y := some (.be 2 (enc_si (gt p1 v3)) 0) }, .auto {}, .auto { nk := 1 }]) [1, 5, 7, 8, 9, 10] [0, 1] (s1 := ⟨[(1, .fn 76 []), (5, .sl 0 0 v2.length), (7, .pt 1 0), (8, .bs false 2 (List.map enc_si p1)), (9, .v (.int .i64 (p1.length : Int))), (10, .v (.int .i64 v3))], [(0, .arr 1 (List.map enc_s v2)), (1, .box [.v (.string ((gt p1 v3).1)), .v (.int .i64 ((gt p1 v3).2))])]⟩) (C := ((0 ≤ v3 ∧ v3 < ((List.map enc_si p1).length : Int)) ∧ (AV.be 2 ((List.map enc_si p1).getD v3.toNat []) 0 = AV.be 2 (enc_si (gt p1 v3)) 0)) ∧ True) (by kernel_rfl) ⟨idx_bs enc_si p1 v3 2 g2, trivial⟩ trivial ?_
      refine AX.seq ?_
      obtain ⟨x4, e3, h⟩ := bd_e h
      refine AX.reg (its := [.auto {}, .auto {}, .call 76 [.agg [.v (.string ((gt p1 v3).1)), .v (.int .i64 ((gt p1 v3).2))]] (handO (rho ([] ++ [])) [] [] ++ []) (callEv [] [] (.v (.bool true)) [])]) [1, 5, 7, 8, 9, 10, 16] [0, 1] (s1 := ⟨[(1, .fn 76 []), (5, .sl 0 0 v2.length), (7, .pt 1 0), (8, .bs false 2 (List.map enc_si p1)), (9, .v (.int .i64 (p1.length : Int))), (10, .v (.int .i64 v3)), (16, .v (.bool true))], [(0, .arr 1 (List.map enc_s v2)), (1, .box [.v (.string ((gt p1 v3).1)), .v (.int .i64 ((gt p1 v3).2))])]⟩) (C := ((([.agg [.v (.string ((gt p1 v3).1)), .v (.int .i64 ((gt p1 v3).2))]] : List AV) = [.agg [.v (.string ((gt p1 v3).1)), .v (.int .i64 ((gt p1 v3).2))]]) ∧ True) ∧ True) (by kernel_rfl) ⟨⟨rfl, trivial⟩, trivial⟩ ⟨call_ok (ks := []) (ns := []) (bor := []) (bobjs := []) (s_impl_anyDef ((gt p1 v3).1) ((gt p1 v3).2) x4 e3) (.cons (.c1 (.agg (.cons (.same _ (by kernel_rfl) (by kernel_rfl)) (.cons (.same _ (by kernel_rfl) (by kernel_rfl)) (.nil))))) (.nil)) (by kernel_rfl) trivial, trivial⟩ ?_
      refine AX.cond_true (by kernel_rfl) ?_
      obtain ⟨g4, h⟩ := gd_e h
      refine AX.reg (its := [.auto {}, .auto {}, .auto {}, .auto { nk := 2 }, .auto { y := some (.sl 3 0 ((v2 ++ ([(gt p1 v3).1] : List (ByteArray))).length)), els := some (List.map enc_s v2), els2 := some (List.map enc_s ([(gt p1 v3).1] : List (ByteArray))), nk := 3 }]) [1, 5, 8, 9, 10] [3] (s1 := ⟨[(1, .fn 76 []), (5, .sl 3 0 ((v2 ++ ([(gt p1 v3).1] : List (ByteArray))).length)), (8, .bs false 2 (List.map enc_si p1)), (9, .v (.int .i64 (p1.length : Int))), (10, .v (.int .i64 v3))], [(3, .arr 1 (List.map enc_s v2 ++ List.map enc_s ([(gt p1 v3).1] : List (ByteArray))))]⟩) (C := ((((((List.map enc_s v2).drop 0).take (v2.length) = List.map enc_s v2) ∧ (((List.map enc_s ([(gt p1 v3).1] : List (ByteArray))).drop 0).take (([(gt p1 v3).1] : List (ByteArray)).length) = List.map enc_s ([(gt p1 v3).1] : List (ByteArray)))) ∧ (List.map enc_s v2).length + (List.map enc_s ([(gt p1 v3).1] : List (ByteArray))).length ≤ 1099511627776) ∧ (AV.sl 3 0 (List.map enc_s v2 ++ List.map enc_s ([(gt p1 v3).1] : List (ByteArray))).length = AV.sl 3 0 (v2 ++ ([(gt p1 v3).1] : List (ByteArray))).length)) ∧ True) (by kernel_rfl) ⟨⟨⟨⟨(dt_all (enc := enc_s) rfl rfl), (dt_all (enc := enc_s) rfl rfl)⟩, (by simp only [List.length_map, List.length_nil, List.length_replicate]; simpa using g4)⟩, sl_len (enc := enc_s) (app_can (enc := enc_s) rfl (rfl))⟩, trivial⟩ trivial ?_
      refine AX.reg (its := [.auto { raw := true }]) [1, 5, 8, 9, 10] [3] (s1 := ⟨[(1, .fn 76 []), (5, .sl 3 0 ((v2 ++ ([(gt p1 v3).1] : List (ByteArray))).length)), (8, .bs false 2 (List.map enc_si p1)), (9, .v (.int .i64 (p1.length : Int))), (10, .v (.int .i64 (IntKind.wrap .i64 (v3 + 1))))], [(3, .arr 1 (List.map enc_s v2 ++ List.map enc_s ([(gt p1 v3).1] : List (ByteArray))))]⟩) (C := True) (by kernel_rfl) trivial trivial ?_
      refine ⟨(fu, (v2 ++ ([(gt p1 v3).1] : List (ByteArray)), IntKind.wrap .i64 (v3 + 1))), h, Nat.lt_succ_self _, ?_⟩
      refine Wk.trans (Wk.swap 0 3 (Nat.le_of_ble_eq_true (by kernel_rfl)) (Nat.le_of_ble_eq_true (by kernel_rfl)) rfl) ?_
      refine Wk.trans (Wk.forget [1, 5, 8, 9, 10] [0] (s' := ⟨[(1, .fn 76 []), (5, .sl 0 0 ((v2 ++ ([(gt p1 v3).1] : List (ByteArray))).length)), (8, .bs false 2 (List.map enc_si p1)), (9, .v (.int .i64 (p1.length : Int))), (10, .v (.int .i64 (IntKind.wrap .i64 (v3 + 1))))], [(0, .arr 1 (List.map enc_s v2 ++ List.map enc_s ([(gt p1 v3).1] : List (ByteArray))))]⟩) (by kernel_rfl)) ?_
      refine Wk.trans (Wk.of_eq (congrArg (fun z => (⟨[(1, .fn 76 []), (5, .sl 0 0 ((v2 ++ ([(gt p1 v3).1] : List (ByteArray))).length)), (8, .bs false 2 (List.map enc_si p1)), (9, .v (.int .i64 (p1.length : Int))), (10, .v (.int .i64 (IntKind.wrap .i64 (v3 + 1))))], [(0, .arr 1 (z))]⟩ : S)) (app_can (enc := enc_s) rfl (rfl) : List.map enc_s v2 ++ List.map enc_s ([(gt p1 v3).1] : List (ByteArray)) = List.map enc_s (v2 ++ ([(gt p1 v3).1] : List (ByteArray)))))) ?_
      exact Wk.refl _
    · replace h := cd_f b1 h
      refine AX.condF (decide (v3 < (p1.length : Int))) (by kernel_rfl) b1 ?_
      refine AX.exit ?_
      refine fin_wk (Wk.forget [5] [0] (s' := ⟨[(5, .sl 0 0 v2.length)], [(0, .arr 1 (List.map enc_s v2))]⟩) (by kernel_rfl)) ?_
      have hr := Option.some.inj h
      subst hr
      exact ⟨_, Wk.refl _, ⟨rfl, rfl⟩⟩

theorem s_impl_names_anyDef (p1 : List (ByteArray × Int)) (r : List (ByteArray)) (h : m_impl_names_anyDef p1 = some r) :
    Eng.Spec Tryd.prog 75 [.bs false 2 (List.map enc_si p1), .fn 76 []] [] (.sl 0 0 r.length) [.arr 1 (List.map enc_s r)] := by
  unfold m_impl_names_anyDef at h
  refine Eng.Spec.body Tryd.func75 (by kernel_rfl) rfl (by kernel_rfl) ?_
  refine AX.wkpost ?_
  refine AX.seq ?_
  refine AX.reg (its := []) [0, 1] [] (s1 := ⟨[(0, .bs false 2 (List.map enc_si p1)), (1, .fn 76 [])], []⟩) (C := True) (by kernel_rfl) trivial trivial ?_
  refine AX.seq ?_
  refine AX.reg (its := []) [0, 1, 5] [] (s1 := ⟨[(0, .bs false 2 (List.map enc_si p1)), (1, .fn 76 []), (5, .v (.slice none 0 0))], []⟩) (C := True) (by kernel_rfl) trivial trivial ?_
  refine AX.seq ?_
  refine AX.seq ?_
  refine AX.reg (its := [.auto {}, .auto { y := some (.v (.int .i64 (p1.length : Int))) }]) [1, 5, 8, 9, 10] [] (s1 := ⟨[(1, .fn 76 []), (5, .v (.slice none 0 0)), (8, .bs false 2 (List.map enc_si p1)), (9, .v (.int .i64 (p1.length : Int))), (10, .v (.int .i64 0))], []⟩) (C := (True ∧ (AV.v (.int .i64 ((List.map enc_si p1).length : Int)) = AV.v (.int .i64 (p1.length : Int)))) ∧ True) (by kernel_rfl) ⟨⟨trivial, len_map enc_si p1⟩, trivial⟩ trivial ?_
  refine AX.block ?_
  obtain ⟨x5, e5, h⟩ := bd_e h
  refine AX.wk (Wk.mat 5 0 1 (by kernel_rfl) (Nat.le_of_ble_eq_true (by kernel_rfl)) (by kernel_rfl) rfl) ?_
  refine AX.wk (Wk.forget [1, 5, 8, 9, 10] [0] (s' := ⟨[(1, .fn 76 []), (5, .sl 0 0 (([] : List (ByteArray)).length)), (8, .bs false 2 (List.map enc_si p1)), (9, .v (.int .i64 (p1.length : Int))), (10, .v (.int .i64 0))], [(0, .arr 1 (List.map enc_s ([] : List (ByteArray))))]⟩) (by kernel_rfl)) ?_
  refine AX.mono (s_impl_names_anyDef_L1 p1 FU (([] : List (ByteArray)), 0) x5 e5) ?_
  rintro _ _ ⟨rfl, rfl⟩
  skip
  refine AX.seq ?_
  obtain ⟨x6, e6, h⟩ := bd_e h
  refine AX.reg (its := [.auto {}, .call 123 [.sl 0 0 x5.length] (handO (rho ([0] ++ [])) [0] [.arr 1 (List.map enc_s x5)] ++ []) (callEv [0] [] (.sl 0 0 x5.length) [.arr 1 (List.map enc_s x5)])]) [4] [0] (s1 := ⟨[(4, .sl 0 0 x5.length)], [(0, .arr 1 (List.map enc_s x5))]⟩) (C := ((([.sl 0 0 x5.length] : List AV) = [.sl 0 0 x5.length]) ∧ (AO.arr 1 (List.map enc_s x5) = AO.arr 1 (List.map enc_s x5)) ∧ True) ∧ True) (by kernel_rfl) ⟨⟨rfl, rfl, trivial⟩, trivial⟩ ⟨call_ok (ks := [0]) (ns := []) (bor := []) (bobjs := []) (s_slices_Clip_hs x5 x6 e6) (.cons (.c1 (.c0 (.same _ (by kernel_rfl) (by kernel_rfl)))) (.nil)) (by kernel_rfl) ⟨.inr rfl, trivial⟩, trivial⟩ ?_
  refine AX.ret ?_
  refine fin_wk (Wk.forget [4] [0] (s' := ⟨[(4, .sl 0 0 x5.length)], [(0, .arr 1 (List.map enc_s x5))]⟩) (by kernel_rfl)) ?_
  have hr := Option.some.inj h
  subst hr
  exact ⟨_, Wk.refl _, .inr rfl, ⟨[0], by kernel_rfl, ⟨rfl, trivial⟩, [.sl 0 0 x5.length], by kernel_rfl, by kernel_rfl⟩⟩

theorem s_slices_Clone_s (p1 : List (ByteArray)) (r : List (ByteArray)) (h : m_slices_Clone_s p1 = some r) :
    Eng.Spec Tryd.prog 110 [.bs false 1 (List.map enc_s p1)] [] (.sl 0 0 r.length) [.arr 1 (List.map enc_s r)] := by
  unfold m_slices_Clone_s at h
  obtain ⟨g1, h⟩ := gd_e h
  have hr := Option.some.inj h
  subst hr
  refine Eng.Spec.body Tryd.func110 (by kernel_rfl) rfl (by kernel_rfl) ?_
  refine AX.wkpost ?_
  refine AX.seq ?_
  refine AX.reg (its := []) [0] [] (s1 := ⟨[(0, .bs false 1 (List.map enc_s p1))], []⟩) (C := True) (by kernel_rfl) trivial trivial ?_
  refine AX.nilEq (l := false) (sz := 1) (es := (List.map enc_s p1)) (s0 := (⟨[(2, .sl 1 0 p1.length)], [(1, .arr 1 (List.map enc_s p1))]⟩ : S)) .ret rfl rfl rfl rfl rfl rfl Tryd.underlying65 (by kernel_rfl) (by kernel_rfl) (by kernel_rfl) ⟨_, Wk.refl _, .inr rfl, ⟨[1], by kernel_rfl, ⟨rfl, trivial⟩, [.sl 1 0 p1.length], by kernel_rfl, by kernel_rfl⟩⟩ ?_
  intro b hb
  rcases bool_cases b with h1 | h1
  · subst h1
    have hp : p1 = [] := by simpa using hb rfl
    subst hp
    refine AX.condT true (by kernel_rfl) rfl ?_
    refine AX.seq ?_
    refine AX.reg (its := []) [2] [] (s1 := ⟨[(2, .v (.slice none 0 0))], []⟩) (C := True) (by kernel_rfl) trivial trivial ?_
    refine AX.wk (Wk.mat 2 1 1 (by kernel_rfl) (Nat.le_of_ble_eq_true (by kernel_rfl)) (by kernel_rfl) rfl) ?_
    refine AX.wk (Wk.forget [2] [1] (s' := ⟨[(2, .sl 1 0 0)], [(1, .arr 1 [])]⟩) (by kernel_rfl)) ?_
    exact AX.ret ⟨rfl, rfl⟩
  · subst h1
    refine AX.condF false (by kernel_rfl) rfl ?_
    refine AX.skip ?_
    refine AX.seq ?_
    refine AX.reg (its := [.auto { nk := 0 }, .auto {}, .auto { y := some (.sl 1 0 p1.length), nk := 1 }]) [2] [1] (s1 := ⟨[(2, .sl 1 0 p1.length)], [(1, .arr 1 (List.map enc_s p1))]⟩) (C := ((((True) ∧ (True)) ∧ (([] : List (List Value)).length + (List.map enc_s p1).length ≤ 1099511627776)) ∧ (AV.sl 1 0 (List.map enc_s p1).length = AV.sl 1 0 p1.length)) ∧ True) (by kernel_rfl) ⟨⟨⟨⟨trivial, trivial⟩, by simpa using g1⟩, sl_len (enc := enc_s) rfl⟩, trivial⟩ trivial ?_
    exact AX.ret ⟨rfl, rfl⟩

theorem s_strconv_Itoa (p1 : Int) (r : ByteArray) (h : m_strconv_Itoa p1 = some r) :
    Eng.Spec Tryd.prog 63 [.v (.int .i64 p1)] [] (.v (.string r)) [] := by
  unfold m_strconv_Itoa at h
  obtain ⟨g1, h⟩ := gd_e h
  have hr := Option.some.inj h
  refine spec_pure (r := .string r) ⟨_, Tryd.func63, by kernel_rfl, by kernel_rfl⟩ (fun X m sh => by simp only [VR]) ?_
  subst hr
  intro X m vs hv
  simp only [VRs, VR] at hv
  obtain ⟨_, _, rfl, rfl, rfl⟩ := hv
  have hg := (X.hG X.w0 (fun _ _ => rfl)).2
  refine (Tryd.strconv_Itoa p1 g1.1 g1.2 X.w0 (GX_pow10 hg)).mono ?_
  rintro e w' ⟨rfl, k, os, rfl⟩
  exact ⟨rfl, Lib.below_grow _ _ (Nat.le_refl _) _ _⟩

theorem s_strings_Join (p1 : List (ByteArray)) (p2 : ByteArray) (r : ByteArray) (h : m_strings_Join p1 p2 = some r) :
    Eng.Spec Tryd.prog 108 [.bs false 1 (List.map enc_s p1), .v (.string p2)] [] (.v (.string r)) [] := by
  unfold m_strings_Join at h
  obtain ⟨g1, h⟩ := gd_e h
  obtain ⟨g2, h⟩ := gd_e h
  have hr := Option.some.inj h
  subst hr
  refine spec_pure (r := .string ⟨(Lib.join (p1.map (·.data.toList)) p2.data.toList).toArray⟩) ⟨_, Tryd.func108, by kernel_rfl, by kernel_rfl⟩ (fun X m sh => by simp only [VR]) ?_
  intro X m vs hv
  simp only [VRs] at hv
  obtain ⟨v, _, rfl, hb, y, _, rfl, hy, rfl⟩ := hv
  simp only [VR] at hy
  subst hy
  rcases bs_strings hb with ⟨h0, a, c, rfl⟩ | ⟨b, off, c, rfl, hc, hlt, hcells⟩
  · subst h0
    refine (Tryd.strings_Join_none a c p2 X.w0).mono ?_
    rintro e w' ⟨rfl, rfl⟩
    exact ⟨by simp [Lib.join_nil], RowKit.Below.refl _ _⟩
  · refine (Tryd.strings_Join b off c p1 p2 X.w0 hcells hlt g1 hc g2).mono ?_
    rintro e w' ⟨rfl, hw⟩
    exact ⟨rfl, hw⟩

theorem s_impl_valued_1_l (p1 : ByteArray) (p2 : Int) (p3 : Int) (r : Unit) (h : m_impl_valued_1_l p1 p2 p3 = some r) :
    Eng.Spec Tryd.prog 115 [.agg [.v (.string p1), .v (.int .i64 p2)], .bp [.v (.int .i64 p3)] 0] [] (.v (.bool (decide (p2 = p3)))) [] := by
  unfold m_impl_valued_1_l at h
  refine Eng.Spec.body Tryd.func115 (by kernel_rfl) rfl (by kernel_rfl) ?_
  refine AX.wkpost ?_
  refine AX.seq ?_
  refine AX.reg (its := [.auto { nk := 0 }]) [1, 2] [0] (s1 := ⟨[(1, .bp [.v (.int .i64 p3)] 0), (2, .pt 0 0)], [(0, .box [.v (.string p1), .v (.int .i64 p2)])]⟩) (C := True) (by kernel_rfl) trivial trivial ?_
  refine AX.seq ?_
  refine AX.reg (its := []) [3] [] (s1 := ⟨[(3, .v (.bool (decide (p2 = p3))))], []⟩) (C := True) (by kernel_rfl) trivial trivial ?_
  refine AX.ret ?_
  refine fin_wk (Wk.forget [3] [] (s' := ⟨[(3, .v (.bool (decide (p2 = p3))))], []⟩) (by kernel_rfl)) ?_
  have hr := Option.some.inj h
  subst hr
  exact ⟨_, Wk.refl _, .inr rfl, ⟨[], by kernel_rfl, trivial, [.v (.bool (decide (p2 = p3)))], by kernel_rfl, by kernel_rfl⟩⟩

theorem s_slices_IndexFunc_si_valued_1_l_L1 (p1 : List (ByteArray × Int)) (p2 : Int) (n : Nat) (g : Int) (out : Int ⊕ Unit) (h : m_slices_IndexFunc_si_valued_1_l_L1 p1 p2 n g = some out) :
    AX Tryd.prog 19 0 (codeAt [1, 0, 1, 1] (bodyOf Tryd.f86)) ((fun g : Int => (⟨[(0, .bs false 2 (List.map enc_si p1)), (1, .fn 115 [.bp [.v (.int .i64 p2)] 0]), (7, .v (.int .i64 (p1.length : Int))), (8, .v (.int .i64 g))], []⟩ : S)) g) (fun ex s => (∃ o : Int, out = Sum.inl o ∧ ex = .ret ∧ s = ⟨[(4, .v (.int .i64 o))], []⟩) ∨ (∃ o : Unit, out = Sum.inr o ∧ ex = .exit 0 ∧ s = ⟨[], []⟩)) := by
  refine AX.wkpost ?_
  refine AX.loop (G := Nat × (Int)) (fun q => (fun g : Int => (⟨[(0, .bs false 2 (List.map enc_si p1)), (1, .fn 115 [.bp [.v (.int .i64 p2)] 0]), (7, .v (.int .i64 (p1.length : Int))), (8, .v (.int .i64 g))], []⟩ : S)) q.2) (fun q => m_slices_IndexFunc_si_valued_1_l_L1 p1 p2 q.1 q.2 = some out) (fun q => q.1) (n, g) h (Wk.refl _) ?_
  clear h
  rintro ⟨fu, v3⟩ h
  cases fu with
  | zero => cases h
  | succ fu =>
    rw [m_slices_IndexFunc_si_valued_1_l_L1] at h
    refine AX.seq ?_
    refine AX.reg (its := []) [0, 1, 7, 8, 9] [] (s1 := ⟨[(0, .bs false 2 (List.map enc_si p1)), (1, .fn 115 [.bp [.v (.int .i64 p2)] 0]), (7, .v (.int .i64 (p1.length : Int))), (8, .v (.int .i64 v3)), (9, .v (.bool (decide (v3 < (p1.length : Int)))))], []⟩) (C := True) (by kernel_rfl) trivial trivial ?_
    refine AX.seq ?_
    rcases bool_cases (decide (v3 < (p1.length : Int))) with b1 | b1
    · replace h := cd_t b1 h
      refine AX.condT (decide (v3 < (p1.length : Int))) (by kernel_rfl) b1 ?_
      refine AX.skip ?_
      refine AX.seq ?_
      refine AX.block ?_
      refine AX.seq ?_
      refine AX.reg (its := []) [0, 1, 5, 7, 8] [] (s1 := ⟨[(0, .bs false 2 (List.map enc_si p1)), (1, .fn 115 [.bp [.v (.int .i64 p2)] 0]), (5, .v (.int .i64 v3)), (7, .v (.int .i64 (p1.length : Int))), (8, .v (.int .i64 v3))], []⟩) (C := True) (by kernel_rfl) trivial trivial ?_
      refine AX.seq ?_
      obtain ⟨g2, h⟩ := gd_e h
      obtain ⟨x4, e3, h⟩ := bd_e h
      refine AX.reg (its := [.auto {}, .auto {}, .auto {}, .auto { y := some (.be 2 (enc_si (gt p1 v3)) 0) }, .auto {}, .call 115 [.agg [.v (.string ((gt p1 v3).1)), .v (.int .i64 ((gt p1 v3).2))], .bp [.v (.int .i64 p2)] 0] (handO (rho ([] ++ [])) [] [] ++ []) (callEv [] [] (.v (.bool (decide (((gt p1 v3).2) = p2)))) [])]) [0, 1, 5, 7, 8, 16] [] (s1 := ⟨[(0, .bs false 2 (List.map enc_si p1)), (1, .fn 115 [.bp [.v (.int .i64 p2)] 0]), (5, .v (.int .i64 v3)), (7, .v (.int .i64 (p1.length : Int))), (8, .v (.int .i64 v3)), (16, .v (.bool (decide (((gt p1 v3).2) = p2))))], []⟩) (C := ((0 ≤ v3 ∧ v3 < ((List.map enc_si p1).length : Int)) ∧ (AV.be 2 ((List.map enc_si p1).getD v3.toNat []) 0 = AV.be 2 (enc_si (gt p1 v3)) 0)) ∧ ((([.agg [.v (.string ((gt p1 v3).1)), .v (.int .i64 ((gt p1 v3).2))], .bp [.v (.int .i64 p2)] 0] : List AV) = [.agg [.v (.string ((gt p1 v3).1)), .v (.int .i64 ((gt p1 v3).2))], .bp [.v (.int .i64 p2)] 0]) ∧ True) ∧ True) (by kernel_rfl) ⟨idx_bs enc_si p1 v3 2 g2, ⟨⟨rfl, trivial⟩, trivial⟩⟩ ⟨call_ok (ks := []) (ns := []) (bor := []) (bobjs := []) (s_impl_valued_1_l ((gt p1 v3).1) ((gt p1 v3).2) p2 x4 e3) (.cons (.c1 (.agg (.cons (.same _ (by kernel_rfl) (by kernel_rfl)) (.cons (.same _ (by kernel_rfl) (by kernel_rfl)) (.nil))))) (.cons (.c1 (.bp (.cons (.same _ (by kernel_rfl) (by kernel_rfl)) (.nil)))) (.nil))) (by kernel_rfl) trivial, trivial⟩ ?_
      rcases bool_cases (decide (((gt p1 v3).2) = p2)) with b4 | b4
      · replace h := cd_t b4 h
        refine AX.condT (decide (((gt p1 v3).2) = p2)) (by kernel_rfl) b4 ?_
        refine AX.seq ?_
        refine AX.reg (its := []) [4] [] (s1 := ⟨[(4, .v (.int .i64 v3))], []⟩) (C := True) (by kernel_rfl) trivial trivial ?_
        refine AX.ret ?_
        refine fin_wk (Wk.forget [4] [] (s' := ⟨[(4, .v (.int .i64 v3))], []⟩) (by kernel_rfl)) ?_
        have hr := Option.some.inj h
        subst hr
        exact ⟨_, Wk.refl _, .inl ⟨v3, rfl, rfl, rfl⟩⟩
      · replace h := cd_f b4 h
        refine AX.condF (decide (((gt p1 v3).2) = p2)) (by kernel_rfl) b4 ?_
        refine AX.skip ?_
        refine AX.reg (its := [.auto { raw := true }]) [0, 1, 7, 8] [] (s1 := ⟨[(0, .bs false 2 (List.map enc_si p1)), (1, .fn 115 [.bp [.v (.int .i64 p2)] 0]), (7, .v (.int .i64 (p1.length : Int))), (8, .v (.int .i64 (IntKind.wrap .i64 (v3 + 1))))], []⟩) (C := True) (by kernel_rfl) trivial trivial ?_
        refine ⟨(fu, IntKind.wrap .i64 (v3 + 1)), h, Nat.lt_succ_self _, ?_⟩
        refine Wk.trans (Wk.forget [0, 1, 7, 8] [] (s' := ⟨[(0, .bs false 2 (List.map enc_si p1)), (1, .fn 115 [.bp [.v (.int .i64 p2)] 0]), (7, .v (.int .i64 (p1.length : Int))), (8, .v (.int .i64 (IntKind.wrap .i64 (v3 + 1))))], []⟩) (by kernel_rfl)) ?_
        exact Wk.refl _
    · replace h := cd_f b1 h
      refine AX.condF (decide (v3 < (p1.length : Int))) (by kernel_rfl) b1 ?_
      refine AX.exit ?_
      refine fin_wk (Wk.forget [] [] (s' := ⟨[], []⟩) (by kernel_rfl)) ?_
      have hr := Option.some.inj h
      subst hr
      exact ⟨_, Wk.refl _, .inr ⟨(), rfl, rfl, rfl⟩⟩

theorem s_slices_IndexFunc_si_valued_1_l (p1 : List (ByteArray × Int)) (p2 : Int) (r : Int) (h : m_slices_IndexFunc_si_valued_1_l p1 p2 = some r) :
    Eng.Spec Tryd.prog 86 [.bs false 2 (List.map enc_si p1), .fn 115 [.bp [.v (.int .i64 p2)] 0]] [] (.v (.int .i64 r)) [] := by
  unfold m_slices_IndexFunc_si_valued_1_l at h
  refine Eng.Spec.body Tryd.func86 (by kernel_rfl) rfl (by kernel_rfl) ?_
  refine AX.wkpost ?_
  refine AX.seq ?_
  refine AX.reg (its := []) [0, 1] [] (s1 := ⟨[(0, .bs false 2 (List.map enc_si p1)), (1, .fn 115 [.bp [.v (.int .i64 p2)] 0])], []⟩) (C := True) (by kernel_rfl) trivial trivial ?_
  refine AX.seq ?_
  refine AX.seq ?_
  refine AX.reg (its := [.auto {}, .auto { y := some (.v (.int .i64 (p1.length : Int))) }]) [0, 1, 7, 8] [] (s1 := ⟨[(0, .bs false 2 (List.map enc_si p1)), (1, .fn 115 [.bp [.v (.int .i64 p2)] 0]), (7, .v (.int .i64 (p1.length : Int))), (8, .v (.int .i64 0))], []⟩) (C := (True ∧ (AV.v (.int .i64 ((List.map enc_si p1).length : Int)) = AV.v (.int .i64 (p1.length : Int)))) ∧ True) (by kernel_rfl) ⟨⟨trivial, len_map enc_si p1⟩, trivial⟩ trivial ?_
  refine AX.block ?_
  obtain ⟨x5, e5, h⟩ := bd_e h
  refine AX.wk (Wk.forget [0, 1, 7, 8] [] (s' := ⟨[(0, .bs false 2 (List.map enc_si p1)), (1, .fn 115 [.bp [.v (.int .i64 p2)] 0]), (7, .v (.int .i64 (p1.length : Int))), (8, .v (.int .i64 0))], []⟩) (by kernel_rfl)) ?_
  refine AX.mono (s_slices_IndexFunc_si_valued_1_l_L1 p1 p2 FU 0 x5 e5) ?_
  rintro _ _ (⟨x6, rfl, rfl, rfl⟩ | ⟨x7, rfl, rfl, rfl⟩)
  · replace h := sm_l h
    refine fin_wk (Wk.forget [4] [] (s' := ⟨[(4, .v (.int .i64 x6))], []⟩) (by kernel_rfl)) ?_
    have hr := Option.some.inj h
    subst hr
    exact ⟨_, Wk.refl _, .inr rfl, ⟨[], by kernel_rfl, trivial, [.v (.int .i64 x6)], by kernel_rfl, by kernel_rfl⟩⟩
  · replace h := sm_r h
    refine AX.seq ?_
    refine AX.reg (its := []) [4] [] (s1 := ⟨[(4, .v (.int .i64 (-1)))], []⟩) (C := True) (by kernel_rfl) trivial trivial ?_
    refine AX.ret ?_
    refine fin_wk (Wk.forget [4] [] (s' := ⟨[(4, .v (.int .i64 (-1)))], []⟩) (by kernel_rfl)) ?_
    have hr := Option.some.inj h
    subst hr
    exact ⟨_, Wk.refl _, .inr rfl, ⟨[], by kernel_rfl, trivial, [.v (.int .i64 (-1))], by kernel_rfl, by kernel_rfl⟩⟩

theorem s_impl_valued (p1 : List (ByteArray × Int)) (p2 : Int) (r : Int) (h : m_impl_valued p1 p2 = some r) :
    Eng.Spec Tryd.prog 68 [.bs false 2 (List.map enc_si p1), .v (.int .i64 p2)] [] (.v (.int .i64 r)) [] := by
  unfold m_impl_valued at h
  refine Eng.Spec.body Tryd.func68 (by kernel_rfl) rfl (by kernel_rfl) ?_
  refine AX.wkpost ?_
  refine AX.seq ?_
  refine AX.reg (its := [.auto { nk := 0 }]) [0, 3] [0] (s1 := ⟨[(0, .bs false 2 (List.map enc_si p1)), (3, .pt 0 0)], [(0, .box [.v (.int .i64 p2)])]⟩) (C := True) (by kernel_rfl) trivial trivial ?_
  refine AX.seq ?_
  obtain ⟨x3, e1, h⟩ := bd_e h
  refine AX.reg (its := [.auto {}, .auto {}, .call 86 [.bs false 2 (List.map enc_si p1), .fn 115 [.pt 0 0]] (handO (rho ([] ++ [])) [] [] ++ [(0, .box [.v (.int .i64 p2)])]) (callEv [] [] (.v (.int .i64 x3)) [])]) [4] [] (s1 := ⟨[(4, .v (.int .i64 x3))], []⟩) (C := ((([.bs false 2 (List.map enc_si p1), .fn 115 [.pt 0 0]] : List AV) = [.bs false 2 (List.map enc_si p1), .fn 115 [.pt 0 0]]) ∧ (AO.box [.v (.int .i64 p2)] = AO.box [.v (.int .i64 p2)]) ∧ True) ∧ True) (by kernel_rfl) ⟨⟨rfl, rfl, trivial⟩, trivial⟩ ⟨call_ok (ks := []) (ns := []) (bor := [0]) (bobjs := [(0, .box [.v (.int .i64 p2)])]) (s_slices_IndexFunc_si_valued_1_l p1 p2 x3 e1) (.cons (.c1 (.c0 (.same _ (by kernel_rfl) (by kernel_rfl)))) (.cons (.fn (.cons (.box rfl rfl (.cons (.same _ (by kernel_rfl) (by kernel_rfl)) (.nil))) (.nil))) (.nil))) (by kernel_rfl) trivial, trivial⟩ ?_
  refine AX.ret ?_
  refine fin_wk (Wk.forget [4] [] (s' := ⟨[(4, .v (.int .i64 x3))], []⟩) (by kernel_rfl)) ?_
  have hr := Option.some.inj h
  subst hr
  exact ⟨_, Wk.refl _, .inr rfl, ⟨[], by kernel_rfl, trivial, [.v (.int .i64 x3)], by kernel_rfl, by kernel_rfl⟩⟩

theorem s_impl_Flag_show (p1 : List (ByteArray × Int)) (p2 : Int) (p3 : List (ByteArray)) (p4 : Int) (r : ByteArray) (h : m_impl_Flag_show p1 p2 p3 p4 = some r) :
    Eng.Spec Tryd.prog 56 [.agg [.bs false 2 (List.map enc_si p1), .v (.int .i64 p2)], .bs false 1 (List.map enc_s p3), .v (.int .i64 p4)] [] (.v (.string r)) [] := by
  unfold m_impl_Flag_show at h
  refine Eng.Spec.body Tryd.func56 (by kernel_rfl) rfl (by kernel_rfl) ?_
  refine AX.wkpost ?_
  refine AX.seq ?_
  refine AX.reg (its := [.auto { nk := 0 }]) [1, 2, 3] [0] (s1 := ⟨[(1, .bs false 1 (List.map enc_s p3)), (2, .v (.int .i64 p4)), (3, .pt 0 0)], [(0, .box [.bs false 2 (List.map enc_si p1), .v (.int .i64 p2)])]⟩) (C := True) (by kernel_rfl) trivial trivial ?_
  refine AX.seq ?_
  obtain ⟨x5, e1, h⟩ := bd_e h
  refine AX.reg (its := [.auto {}, .call 110 [.bs false 1 (List.map enc_s p3)] (handO (rho ([] ++ [1])) [] [] ++ []) (callEv [] [1] (.sl 0 0 x5.length) [.arr 1 (List.map enc_s x5)])]) [2, 3, 7] [0, 1] (s1 := ⟨[(2, .v (.int .i64 p4)), (3, .pt 0 0), (7, .sl 1 0 x5.length)], [(0, .box [.bs false 2 (List.map enc_si p1), .v (.int .i64 p2)]), (1, .arr 1 (List.map enc_s x5))]⟩) (C := ((([.bs false 1 (List.map enc_s p3)] : List AV) = [.bs false 1 (List.map enc_s p3)]) ∧ True) ∧ True) (by kernel_rfl) ⟨⟨rfl, trivial⟩, trivial⟩ ⟨call_ok (ks := []) (ns := [1]) (bor := []) (bobjs := []) (s_slices_Clone_s p3 x5 e1) (.cons (.c1 (.c0 (.same _ (by kernel_rfl) (by kernel_rfl)))) (.nil)) (by kernel_rfl) trivial, trivial⟩ ?_
  refine AX.seq ?_
  refine AX.seq ?_
  refine AX.reg (its := []) [2, 3, 7, 12] [0, 1] (s1 := ⟨[(2, .v (.int .i64 p4)), (3, .pt 0 0), (7, .sl 1 0 x5.length), (12, .v (.bool (!decide (p4 = 0))))], [(0, .box [.bs false 2 (List.map enc_si p1), .v (.int .i64 p2)]), (1, .arr 1 (List.map enc_s x5))]⟩) (C := True) (by kernel_rfl) trivial trivial ?_
  rcases bool_cases ((!decide (p4 = 0))) with b2 | b2
  · replace h := cd_t b2 h
    refine AX.condT ((!decide (p4 = 0))) (by kernel_rfl) b2 ?_
    obtain ⟨x6, e3, h⟩ := bd_e h
    obtain ⟨g4, h⟩ := gd_e h
    refine AX.reg (its := [.auto {}, .auto {}, .call 63 [.v (.int .i64 p4)] (handO (rho ([] ++ [])) [] [] ++ []) (callEv [] [] (.v (.string x6)) []), .auto { nk := 2 }, .auto { y := some (.sl 3 0 ((x5 ++ ([x6] : List (ByteArray))).length)), els := some (List.map enc_s x5), els2 := some (List.map enc_s ([x6] : List (ByteArray))), nk := 3 }]) [3, 7] [0, 3] (s1 := ⟨[(3, .pt 0 0), (7, .sl 3 0 ((x5 ++ ([x6] : List (ByteArray))).length))], [(0, .box [.bs false 2 (List.map enc_si p1), .v (.int .i64 p2)]), (3, .arr 1 (List.map enc_s x5 ++ List.map enc_s ([x6] : List (ByteArray))))]⟩) (C := ((([.v (.int .i64 p4)] : List AV) = [.v (.int .i64 p4)]) ∧ True) ∧ ((((((List.map enc_s x5).drop 0).take (x5.length) = List.map enc_s x5) ∧ (((List.map enc_s ([x6] : List (ByteArray))).drop 0).take (([x6] : List (ByteArray)).length) = List.map enc_s ([x6] : List (ByteArray)))) ∧ (List.map enc_s x5).length + (List.map enc_s ([x6] : List (ByteArray))).length ≤ 1099511627776) ∧ (AV.sl 3 0 (List.map enc_s x5 ++ List.map enc_s ([x6] : List (ByteArray))).length = AV.sl 3 0 (x5 ++ ([x6] : List (ByteArray))).length)) ∧ True) (by kernel_rfl) ⟨⟨rfl, trivial⟩, ⟨⟨⟨⟨(dt_all (enc := enc_s) rfl rfl), (dt_all (enc := enc_s) rfl rfl)⟩, (by simp only [List.length_map, List.length_nil, List.length_replicate]; simpa using g4)⟩, sl_len (enc := enc_s) (app_can (enc := enc_s) rfl (rfl))⟩, trivial⟩⟩ ⟨call_ok (ks := []) (ns := []) (bor := []) (bobjs := []) (s_strconv_Itoa p4 x6 e3) (.cons (.c1 (.c0 (.same _ (by kernel_rfl) (by kernel_rfl)))) (.nil)) (by kernel_rfl) trivial, trivial⟩ ?_
    refine AX.seq ?_
    refine AX.seq ?_
    obtain ⟨v7, q5, h⟩ := nm_e h
    refine AX.reg (its := [.auto {}, .auto {}, .auto { y := some (.v (.bool v7)) }]) [3, 7, 20] [0, 3] (s1 := ⟨[(3, .pt 0 0), (7, .sl 3 0 ((x5 ++ ([x6] : List (ByteArray))).length)), (20, .v (.bool v7))], [(0, .box [.bs false 2 (List.map enc_si p1), .v (.int .i64 p2)]), (3, .arr 1 (List.map enc_s x5 ++ List.map enc_s ([x6] : List (ByteArray))))]⟩) (C := ((True) ∧ ((.v (.bool (decide (0 < ((x5 ++ ([x6] : List (ByteArray))).length : Int)))) : AV) = (.v (.bool v7) : AV))) ∧ True) (by kernel_rfl) ⟨⟨trivial, (congrArg (fun z => AV.v (.bool z)) q5)⟩, trivial⟩ trivial ?_
    rcases bool_cases (v7) with b6 | b6
    · replace h := cd_t b6 h
      refine AX.condT (v7) (by kernel_rfl) b6 ?_
      refine AX.seq ?_
      obtain ⟨x8, e7, h⟩ := bd_e h
      refine AX.reg (its := [.auto {}, .call 108 [.sl 3 0 ((x5 ++ ([x6] : List (ByteArray))).length), .v (.string (ByteArray.mk #[124]))] (handO (rho ([] ++ [])) [] [] ++ [(3, .arr 1 (List.map enc_s (x5 ++ ([x6] : List (ByteArray)))))]) (callEv [] [] (.v (.string x8)) [])]) [6] [] (s1 := ⟨[(6, .v (.string x8))], []⟩) (C := ((([.sl 3 0 ((x5 ++ ([x6] : List (ByteArray))).length), .v (.string (ByteArray.mk #[124]))] : List AV) = [.sl 3 0 ((x5 ++ ([x6] : List (ByteArray))).length), .v (.string (ByteArray.mk #[124]))]) ∧ (AO.arr 1 (List.map enc_s x5 ++ List.map enc_s ([x6] : List (ByteArray))) = AO.arr 1 (List.map enc_s (x5 ++ ([x6] : List (ByteArray))))) ∧ True) ∧ True) (by kernel_rfl) ⟨⟨rfl, arr_eq (app_can (enc := enc_s) rfl (rfl) : List.map enc_s x5 ++ List.map enc_s ([x6] : List (ByteArray)) = List.map enc_s (x5 ++ ([x6] : List (ByteArray)))), trivial⟩, trivial⟩ ⟨call_ok (ks := []) (ns := []) (bor := [3]) (bobjs := [(3, .arr 1 (List.map enc_s (x5 ++ ([x6] : List (ByteArray)))))]) (s_strings_Join (x5 ++ ([x6] : List (ByteArray))) (ByteArray.mk #[124]) x8 e7) (.cons (.c1 (.c0 (.arr rfl rfl ((rfl).trans (List.length_map ..).symm)))) (.cons (.c1 (.c0 (.same _ (by kernel_rfl) (by kernel_rfl)))) (.nil))) (by kernel_rfl) trivial, trivial⟩ ?_
      refine AX.ret ?_
      refine fin_wk (Wk.forget [6] [] (s' := ⟨[(6, .v (.string x8))], []⟩) (by kernel_rfl)) ?_
      have hr := Option.some.inj h
      subst hr
      exact ⟨_, Wk.refl _, .inr rfl, ⟨[], by kernel_rfl, trivial, [.v (.string x8)], by kernel_rfl, by kernel_rfl⟩⟩
    · replace h := cd_f b6 h
      refine AX.condF (v7) (by kernel_rfl) b6 ?_
      refine AX.skip ?_
      refine AX.seq ?_
      refine AX.seq ?_
      obtain ⟨x9, e8, h⟩ := bd_e h
      refine AX.reg (its := [.auto {}, .auto {}, .call 68 [.bs false 2 (List.map enc_si p1), .v (.int .i64 0)] (handO (rho ([] ++ [])) [] [] ++ []) (callEv [] [] (.v (.int .i64 x9)) [])]) [3, 8] [0] (s1 := ⟨[(3, .pt 0 0), (8, .v (.int .i64 x9))], [(0, .box [.bs false 2 (List.map enc_si p1), .v (.int .i64 p2)])]⟩) (C := ((([.bs false 2 (List.map enc_si p1), .v (.int .i64 0)] : List AV) = [.bs false 2 (List.map enc_si p1), .v (.int .i64 0)]) ∧ True) ∧ True) (by kernel_rfl) ⟨⟨rfl, trivial⟩, trivial⟩ ⟨call_ok (ks := []) (ns := []) (bor := []) (bobjs := []) (s_impl_valued p1 0 x9 e8) (.cons (.c1 (.c0 (.same _ (by kernel_rfl) (by kernel_rfl)))) (.cons (.c1 (.c0 (.same _ (by kernel_rfl) (by kernel_rfl)))) (.nil))) (by kernel_rfl) trivial, trivial⟩ ?_
      refine AX.seq ?_
      refine AX.reg (its := []) [3, 8, 27] [0] (s1 := ⟨[(3, .pt 0 0), (8, .v (.int .i64 x9)), (27, .v (.bool (decide (0 ≤ x9))))], [(0, .box [.bs false 2 (List.map enc_si p1), .v (.int .i64 p2)])]⟩) (C := True) (by kernel_rfl) trivial trivial ?_
      rcases bool_cases (decide (0 ≤ x9)) with b9 | b9
      · replace h := cd_t b9 h
        refine AX.condT (decide (0 ≤ x9)) (by kernel_rfl) b9 ?_
        refine AX.seq ?_
        obtain ⟨g10, h⟩ := gd_e h
        refine AX.reg (its := [.auto {}, .auto {}, .auto {}, .auto { y := some (.be 2 (enc_si (gt p1 x9)) 0) }]) [6] [] (s1 := ⟨[(6, .v (.string ((gt p1 x9).1)))], []⟩) (C := ((0 ≤ x9 ∧ x9 < ((List.map enc_si p1).length : Int)) ∧ (AV.be 2 ((List.map enc_si p1).getD x9.toNat []) 0 = AV.be 2 (enc_si (gt p1 x9)) 0)) ∧ True) (by kernel_rfl) ⟨idx_bs enc_si p1 x9 2 g10, trivial⟩ trivial ?_
        refine AX.ret ?_
        refine fin_wk (Wk.forget [6] [] (s' := ⟨[(6, .v (.string ((gt p1 x9).1)))], []⟩) (by kernel_rfl)) ?_
        have hr := Option.some.inj h
        subst hr
        exact ⟨_, Wk.refl _, .inr rfl, ⟨[], by kernel_rfl, trivial, [.v (.string ((gt p1 x9).1))], by kernel_rfl, by kernel_rfl⟩⟩
      · replace h := cd_f b9 h
        refine AX.condF (decide (0 ≤ x9)) (by kernel_rfl) b9 ?_
        refine AX.skip ?_
        refine AX.seq ?_
        refine AX.reg (its := []) [6] [] (s1 := ⟨[(6, .v (.string (ByteArray.mk #[48])))], []⟩) (C := True) (by kernel_rfl) trivial trivial ?_
        refine AX.ret ?_
        refine fin_wk (Wk.forget [6] [] (s' := ⟨[(6, .v (.string (ByteArray.mk #[48])))], []⟩) (by kernel_rfl)) ?_
        have hr := Option.some.inj h
        subst hr
        exact ⟨_, Wk.refl _, .inr rfl, ⟨[], by kernel_rfl, trivial, [.v (.string (ByteArray.mk #[48]))], by kernel_rfl, by kernel_rfl⟩⟩
  · replace h := cd_f b2 h
    refine AX.condF ((!decide (p4 = 0))) (by kernel_rfl) b2 ?_
    refine AX.skip ?_
    refine AX.seq ?_
    refine AX.seq ?_
    refine AX.reg (its := []) [3, 7, 20] [0, 1] (s1 := ⟨[(3, .pt 0 0), (7, .sl 1 0 x5.length), (20, .v (.bool (decide (0 < (x5.length : Int)))))], [(0, .box [.bs false 2 (List.map enc_si p1), .v (.int .i64 p2)]), (1, .arr 1 (List.map enc_s x5))]⟩) (C := True) (by kernel_rfl) trivial trivial ?_
    rcases bool_cases (decide (0 < (x5.length : Int))) with b11 | b11
    · replace h := cd_t b11 h
      refine AX.condT (decide (0 < (x5.length : Int))) (by kernel_rfl) b11 ?_
      refine AX.seq ?_
      obtain ⟨x10, e12, h⟩ := bd_e h
      refine AX.reg (its := [.auto {}, .call 108 [.sl 1 0 x5.length, .v (.string (ByteArray.mk #[124]))] (handO (rho ([] ++ [])) [] [] ++ [(1, .arr 1 (List.map enc_s x5))]) (callEv [] [] (.v (.string x10)) [])]) [6] [] (s1 := ⟨[(6, .v (.string x10))], []⟩) (C := ((([.sl 1 0 x5.length, .v (.string (ByteArray.mk #[124]))] : List AV) = [.sl 1 0 x5.length, .v (.string (ByteArray.mk #[124]))]) ∧ (AO.arr 1 (List.map enc_s x5) = AO.arr 1 (List.map enc_s x5)) ∧ True) ∧ True) (by kernel_rfl) ⟨⟨rfl, rfl, trivial⟩, trivial⟩ ⟨call_ok (ks := []) (ns := []) (bor := [1]) (bobjs := [(1, .arr 1 (List.map enc_s x5))]) (s_strings_Join x5 (ByteArray.mk #[124]) x10 e12) (.cons (.c1 (.c0 (.arr rfl rfl ((rfl).trans (List.length_map ..).symm)))) (.cons (.c1 (.c0 (.same _ (by kernel_rfl) (by kernel_rfl)))) (.nil))) (by kernel_rfl) trivial, trivial⟩ ?_
      refine AX.ret ?_
      refine fin_wk (Wk.forget [6] [] (s' := ⟨[(6, .v (.string x10))], []⟩) (by kernel_rfl)) ?_
      have hr := Option.some.inj h
      subst hr
      exact ⟨_, Wk.refl _, .inr rfl, ⟨[], by kernel_rfl, trivial, [.v (.string x10)], by kernel_rfl, by kernel_rfl⟩⟩
    · replace h := cd_f b11 h
      refine AX.condF (decide (0 < (x5.length : Int))) (by kernel_rfl) b11 ?_
      refine AX.skip ?_
      refine AX.seq ?_
      refine AX.seq ?_
      obtain ⟨x11, e13, h⟩ := bd_e h
      refine AX.reg (its := [.auto {}, .auto {}, .call 68 [.bs false 2 (List.map enc_si p1), .v (.int .i64 0)] (handO (rho ([] ++ [])) [] [] ++ []) (callEv [] [] (.v (.int .i64 x11)) [])]) [3, 8] [0] (s1 := ⟨[(3, .pt 0 0), (8, .v (.int .i64 x11))], [(0, .box [.bs false 2 (List.map enc_si p1), .v (.int .i64 p2)])]⟩) (C := ((([.bs false 2 (List.map enc_si p1), .v (.int .i64 0)] : List AV) = [.bs false 2 (List.map enc_si p1), .v (.int .i64 0)]) ∧ True) ∧ True) (by kernel_rfl) ⟨⟨rfl, trivial⟩, trivial⟩ ⟨call_ok (ks := []) (ns := []) (bor := []) (bobjs := []) (s_impl_valued p1 0 x11 e13) (.cons (.c1 (.c0 (.same _ (by kernel_rfl) (by kernel_rfl)))) (.cons (.c1 (.c0 (.same _ (by kernel_rfl) (by kernel_rfl)))) (.nil))) (by kernel_rfl) trivial, trivial⟩ ?_
      refine AX.seq ?_
      refine AX.reg (its := []) [3, 8, 27] [0] (s1 := ⟨[(3, .pt 0 0), (8, .v (.int .i64 x11)), (27, .v (.bool (decide (0 ≤ x11))))], [(0, .box [.bs false 2 (List.map enc_si p1), .v (.int .i64 p2)])]⟩) (C := True) (by kernel_rfl) trivial trivial ?_
      rcases bool_cases (decide (0 ≤ x11)) with b14 | b14
      · replace h := cd_t b14 h
        refine AX.condT (decide (0 ≤ x11)) (by kernel_rfl) b14 ?_
        refine AX.seq ?_
        obtain ⟨g15, h⟩ := gd_e h
        refine AX.reg (its := [.auto {}, .auto {}, .auto {}, .auto { y := some (.be 2 (enc_si (gt p1 x11)) 0) }]) [6] [] (s1 := ⟨[(6, .v (.string ((gt p1 x11).1)))], []⟩) (C := ((0 ≤ x11 ∧ x11 < ((List.map enc_si p1).length : Int)) ∧ (AV.be 2 ((List.map enc_si p1).getD x11.toNat []) 0 = AV.be 2 (enc_si (gt p1 x11)) 0)) ∧ True) (by kernel_rfl) ⟨idx_bs enc_si p1 x11 2 g15, trivial⟩ trivial ?_
        refine AX.ret ?_
        refine fin_wk (Wk.forget [6] [] (s' := ⟨[(6, .v (.string ((gt p1 x11).1)))], []⟩) (by kernel_rfl)) ?_
        have hr := Option.some.inj h
        subst hr
        exact ⟨_, Wk.refl _, .inr rfl, ⟨[], by kernel_rfl, trivial, [.v (.string ((gt p1 x11).1))], by kernel_rfl, by kernel_rfl⟩⟩
      · replace h := cd_f b14 h
        refine AX.condF (decide (0 ≤ x11)) (by kernel_rfl) b14 ?_
        refine AX.skip ?_
        refine AX.seq ?_
        refine AX.reg (its := []) [6] [] (s1 := ⟨[(6, .v (.string (ByteArray.mk #[48])))], []⟩) (C := True) (by kernel_rfl) trivial trivial ?_
        refine AX.ret ?_
        refine fin_wk (Wk.forget [6] [] (s' := ⟨[(6, .v (.string (ByteArray.mk #[48])))], []⟩) (by kernel_rfl)) ?_
        have hr := Option.some.inj h
        subst hr
        exact ⟨_, Wk.refl _, .inr rfl, ⟨[], by kernel_rfl, trivial, [.v (.string (ByteArray.mk #[48]))], by kernel_rfl, by kernel_rfl⟩⟩

theorem s_impl_ShowShort (p1 : List (ByteArray × Int)) (p2 : Int) (p3 : Int) (r : ByteArray) (h : m_impl_ShowShort p1 p2 p3 = some r) :
    Eng.Spec Tryd.prog 33 [.agg [.bs false 2 (List.map enc_si p1), .v (.int .i64 p2)], .v (.int .i64 p3)] [] (.v (.string r)) [] := by
  unfold m_impl_ShowShort at h
  refine Eng.Spec.body Tryd.func33 (by kernel_rfl) rfl (by kernel_rfl) ?_
  refine AX.wkpost ?_
  refine AX.seq ?_
  refine AX.reg (its := [.auto { nk := 0 }]) [1, 2] [0] (s1 := ⟨[(1, .v (.int .i64 p3)), (2, .pt 0 0)], [(0, .box [.bs false 2 (List.map enc_si p1), .v (.int .i64 p2)])]⟩) (C := True) (by kernel_rfl) trivial trivial ?_
  refine AX.seq ?_
  refine AX.seq ?_
  obtain ⟨x4, e1, h⟩ := bd_e h
  refine AX.reg (its := [.auto {}, .auto {}, .call 43 [.agg [.bs false 2 (List.map enc_si p1), .v (.int .i64 p2)], .v (.int .i64 p3)] (handO (rho ([] ++ [])) [] [] ++ []) (callEv [] [] (.v (.bool x4)) [])]) [1, 2, 9] [0] (s1 := ⟨[(1, .v (.int .i64 p3)), (2, .pt 0 0), (9, .v (.bool (!x4)))], [(0, .box [.bs false 2 (List.map enc_si p1), .v (.int .i64 p2)])]⟩) (C := ((([.agg [.bs false 2 (List.map enc_si p1), .v (.int .i64 p2)], .v (.int .i64 p3)] : List AV) = [.agg [.bs false 2 (List.map enc_si p1), .v (.int .i64 p2)], .v (.int .i64 p3)]) ∧ True) ∧ True) (by kernel_rfl) ⟨⟨rfl, trivial⟩, trivial⟩ ⟨call_ok (ks := []) (ns := []) (bor := []) (bobjs := []) (s_impl_IsValue p1 p2 p3 x4 e1) (.cons (.c1 (.agg (.cons (.same _ (by kernel_rfl) (by kernel_rfl)) (.cons (.same _ (by kernel_rfl) (by kernel_rfl)) (.nil))))) (.cons (.c1 (.c0 (.same _ (by kernel_rfl) (by kernel_rfl)))) (.nil))) (by kernel_rfl) trivial, trivial⟩ ?_
  rcases bool_cases ((!x4)) with b2 | b2
  · replace h := cd_t b2 h
    refine AX.condT ((!x4)) (by kernel_rfl) b2 ?_
    refine AX.seq ?_
    refine AX.reg (its := []) [4] [] (s1 := ⟨[(4, .v (.string ByteArray.empty))], []⟩) (C := True) (by kernel_rfl) trivial trivial ?_
    refine AX.ret ?_
    refine fin_wk (Wk.forget [4] [] (s' := ⟨[(4, .v (.string ByteArray.empty))], []⟩) (by kernel_rfl)) ?_
    have hr := Option.some.inj h
    subst hr
    exact ⟨_, Wk.refl _, .inr rfl, ⟨[], by kernel_rfl, trivial, [.v (.string ByteArray.empty)], by kernel_rfl, by kernel_rfl⟩⟩
  · replace h := cd_f b2 h
    refine AX.condF ((!x4)) (by kernel_rfl) b2 ?_
    refine AX.skip ?_
    refine AX.seq ?_
    obtain ⟨x5, e3, h⟩ := bd_e h
    refine AX.reg (its := [.auto {}, .auto {}, .call 74 [.agg [.bs false 2 (List.map enc_si p1), .v (.int .i64 p2)], .v (.int .i64 p3)] (handO (rho ([] ++ [1])) [] [] ++ []) (callEv [] [1] (.sl 0 0 x5.length) [.arr 2 (List.map enc_si x5)])]) [1, 2, 5] [0, 1] (s1 := ⟨[(1, .v (.int .i64 p3)), (2, .pt 0 0), (5, .sl 1 0 x5.length)], [(0, .box [.bs false 2 (List.map enc_si p1), .v (.int .i64 p2)]), (1, .arr 2 (List.map enc_si x5))]⟩) (C := ((([.agg [.bs false 2 (List.map enc_si p1), .v (.int .i64 p2)], .v (.int .i64 p3)] : List AV) = [.agg [.bs false 2 (List.map enc_si p1), .v (.int .i64 p2)], .v (.int .i64 p3)]) ∧ True) ∧ True) (by kernel_rfl) ⟨⟨rfl, trivial⟩, trivial⟩ ⟨call_ok (ks := []) (ns := [1]) (bor := []) (bobjs := []) (s_impl_Flag_short p1 p2 p3 x5 e3) (.cons (.c1 (.agg (.cons (.same _ (by kernel_rfl) (by kernel_rfl)) (.cons (.same _ (by kernel_rfl) (by kernel_rfl)) (.nil))))) (.cons (.c1 (.c0 (.same _ (by kernel_rfl) (by kernel_rfl)))) (.nil))) (by kernel_rfl) trivial, trivial⟩ ?_
    refine AX.seq ?_
    obtain ⟨x6, e4, h⟩ := bd_e h
    obtain ⟨x7, e5, h⟩ := bd_e h
    obtain ⟨x8, e6, h⟩ := bd_e h
    refine AX.drw mixed (its := [.auto {}, .auto {}, .call 75 [.sl 1 0 x5.length, .fn 76 []] (handO (rho ([] ++ [2])) [] [] ++ [(1, .arr 2 (List.map enc_si x5))]) (callEv [] [2] (.sl 0 0 x6.length) [.arr 1 (List.map enc_s x6)]), .auto {}, .auto {}, .call 77 [.sl 1 0 x5.length] (handO (rho ([] ++ [])) [] [] ++ [(1, .arr 2 (List.map enc_si x5))]) (callEv [] [] (.v (.int .i64 x7)) []), .auto {}, .call 56 [.agg [.bs false 2 (List.map enc_si p1), .v (.int .i64 p2)], .sl 2 0 x6.length, .v (.int .i64 (Go.bits .andNot .i64 p3 x7))] (handO (rho ([] ++ [])) [] [] ++ [(2, .arr 1 (List.map enc_s x6))]) (callEv [] [] (.v (.string x8)) [])]) [4] [] (s1 := ⟨[(4, .v (.string x8))], []⟩) (C := ((([.sl 1 0 x5.length, .fn 76 []] : List AV) = [.sl 1 0 x5.length, .fn 76 []]) ∧ (AO.arr 2 (List.map enc_si x5) = AO.arr 2 (List.map enc_si x5)) ∧ True) ∧ ((([.sl 1 0 x5.length] : List AV) = [.sl 1 0 x5.length]) ∧ (AO.arr 2 (List.map enc_si x5) = AO.arr 2 (List.map enc_si x5)) ∧ True) ∧ ((([.agg [.bs false 2 (List.map enc_si p1), .v (.int .i64 p2)], .sl 2 0 x6.length, .v (.int .i64 (Go.bits .andNot .i64 p3 x7))] : List AV) = [.agg [.bs false 2 (List.map enc_si p1), .v (.int .i64 p2)], .sl 2 0 x6.length, .v (.int .i64 (Go.bits .andNot .i64 p3 x7))]) ∧ (AO.arr 1 (List.map enc_s x6) = AO.arr 1 (List.map enc_s x6)) ∧ True) ∧ True) (by kernel_rfl) ⟨⟨rfl, rfl, trivial⟩, ⟨⟨rfl, rfl, trivial⟩, ⟨⟨rfl, rfl, trivial⟩, trivial⟩⟩⟩ ⟨call_ok (ks := []) (ns := [2]) (bor := [1]) (bobjs := [(1, .arr 2 (List.map enc_si x5))]) (s_impl_names_anyDef x5 x6 e4) (.cons (.c1 (.c0 (.arr rfl rfl ((rfl).trans (List.length_map ..).symm)))) (.cons (.fn (.nil)) (.nil))) (by kernel_rfl) trivial, ⟨call_ok (ks := []) (ns := []) (bor := [1]) (bobjs := [(1, .arr 2 (List.map enc_si x5))]) (s_impl_together x5 x7 e5) (.cons (.c1 (.c0 (.arr rfl rfl ((rfl).trans (List.length_map ..).symm)))) (.nil)) (by kernel_rfl) trivial, ⟨call_ok (ks := []) (ns := []) (bor := [2]) (bobjs := [(2, .arr 1 (List.map enc_s x6))]) (s_impl_Flag_show p1 p2 x6 (Go.bits .andNot .i64 p3 x7) x8 e6) (.cons (.c1 (.agg (.cons (.same _ (by kernel_rfl) (by kernel_rfl)) (.cons (.same _ (by kernel_rfl) (by kernel_rfl)) (.nil))))) (.cons (.c1 (.c0 (.arr rfl rfl ((rfl).trans (List.length_map ..).symm)))) (.cons (.c1 (.c0 (.same _ (by kernel_rfl) (by kernel_rfl)))) (.nil)))) (by kernel_rfl) trivial, trivial⟩⟩⟩ ?_
    refine AX.ret ?_
    refine fin_wk (Wk.forget [4] [] (s' := ⟨[(4, .v (.string x8))], []⟩) (by kernel_rfl)) ?_
    have hr := Option.some.inj h
    subst hr
    exact ⟨_, Wk.refl _, .inr rfl, ⟨[], by kernel_rfl, trivial, [.v (.string x8)], by kernel_rfl, by kernel_rfl⟩⟩

theorem s_laws_eqDef (p1 : ByteArray) (p2 : Int) (p3 : ByteArray) (p4 : Int) (r : Bool) (h : m_laws_eqDef p1 p2 p3 p4 = some r) :
    Eng.Spec Tryd.prog 90 [.agg [.v (.string p1), .v (.int .i64 p2)], .agg [.v (.string p3), .v (.int .i64 p4)]] [] (.v (.bool r)) [] := by
  unfold m_laws_eqDef at h
  refine Eng.Spec.body Tryd.func90 (by kernel_rfl) rfl (by kernel_rfl) ?_
  refine AX.wkpost ?_
  refine AX.seq ?_
  refine AX.reg (its := [.auto { nk := 0 }, .auto { nk := 1 }]) [2, 3] [0, 1] (s1 := ⟨[(2, .pt 0 0), (3, .pt 1 0)], [(0, .box [.v (.string p1), .v (.int .i64 p2)]), (1, .box [.v (.string p3), .v (.int .i64 p4)])]⟩) (C := True) (by kernel_rfl) trivial trivial ?_
  refine AX.seq ?_
  refine AX.seq ?_
  refine AX.reg (its := []) [2, 3, 9] [0, 1] (s1 := ⟨[(2, .pt 0 0), (3, .pt 1 0), (9, .v (.bool (!decide (p1 = p3))))], [(0, .box [.v (.string p1), .v (.int .i64 p2)]), (1, .box [.v (.string p3), .v (.int .i64 p4)])]⟩) (C := True) (by kernel_rfl) trivial trivial ?_
  rcases bool_cases ((!decide (p1 = p3))) with b1 | b1
  · replace h := cd_t b1 h
    refine AX.condT ((!decide (p1 = p3))) (by kernel_rfl) b1 ?_
    refine AX.seq ?_
    refine AX.reg (its := []) [4] [] (s1 := ⟨[(4, .v (.bool false))], []⟩) (C := True) (by kernel_rfl) trivial trivial ?_
    refine AX.ret ?_
    refine fin_wk (Wk.forget [4] [] (s' := ⟨[(4, .v (.bool false))], []⟩) (by kernel_rfl)) ?_
    have hr := Option.some.inj h
    subst hr
    exact ⟨_, Wk.refl _, .inr rfl, ⟨[], by kernel_rfl, trivial, [.v (.bool false)], by kernel_rfl, by kernel_rfl⟩⟩
  · replace h := cd_f b1 h
    refine AX.condF ((!decide (p1 = p3))) (by kernel_rfl) b1 ?_
    refine AX.skip ?_
    refine AX.seq ?_
    refine AX.seq ?_
    refine AX.reg (its := []) [14] [] (s1 := ⟨[(14, .v (.bool (!decide (p2 = p4))))], []⟩) (C := True) (by kernel_rfl) trivial trivial ?_
    rcases bool_cases ((!decide (p2 = p4))) with b2 | b2
    · replace h := cd_t b2 h
      refine AX.condT ((!decide (p2 = p4))) (by kernel_rfl) b2 ?_
      refine AX.seq ?_
      refine AX.reg (its := []) [4] [] (s1 := ⟨[(4, .v (.bool false))], []⟩) (C := True) (by kernel_rfl) trivial trivial ?_
      refine AX.ret ?_
      refine fin_wk (Wk.forget [4] [] (s' := ⟨[(4, .v (.bool false))], []⟩) (by kernel_rfl)) ?_
      have hr := Option.some.inj h
      subst hr
      exact ⟨_, Wk.refl _, .inr rfl, ⟨[], by kernel_rfl, trivial, [.v (.bool false)], by kernel_rfl, by kernel_rfl⟩⟩
    · replace h := cd_f b2 h
      refine AX.condF ((!decide (p2 = p4))) (by kernel_rfl) b2 ?_
      refine AX.skip ?_
      refine AX.seq ?_
      refine AX.reg (its := []) [4] [] (s1 := ⟨[(4, .v (.bool true))], []⟩) (C := True) (by kernel_rfl) trivial trivial ?_
      refine AX.ret ?_
      refine fin_wk (Wk.forget [4] [] (s' := ⟨[(4, .v (.bool true))], []⟩) (by kernel_rfl)) ?_
      have hr := Option.some.inj h
      subst hr
      exact ⟨_, Wk.refl _, .inr rfl, ⟨[], by kernel_rfl, trivial, [.v (.bool true)], by kernel_rfl, by kernel_rfl⟩⟩

theorem s_laws_eqDefS_L1 (p1 : List (ByteArray × Int)) (p2 : List (ByteArray × Int)) (n : Nat) (g : Int) (out : Unit ⊕ Unit) (h : m_laws_eqDefS_L1 p1 p2 n g = some out) :
    AX Tryd.prog 27 0 (codeAt [1, 1, 0, 1, 1] (bodyOf Tryd.f44)) ((fun g : Int => (⟨[(0, .bs false 2 (List.map enc_si p1)), (1, .bs false 2 (List.map enc_si p2)), (5, .v (.int .i64 g))], []⟩ : S)) g) (fun ex s => (∃ o : Unit, out = Sum.inl o ∧ ex = .ret ∧ s = ⟨[(4, .v (.bool false))], []⟩) ∨ (∃ o : Unit, out = Sum.inr o ∧ ex = .exit 0 ∧ s = ⟨[], []⟩)) := by
  refine AX.wkpost ?_
  refine AX.loop (G := Nat × (Int)) (fun q => (fun g : Int => (⟨[(0, .bs false 2 (List.map enc_si p1)), (1, .bs false 2 (List.map enc_si p2)), (5, .v (.int .i64 g))], []⟩ : S)) q.2) (fun q => m_laws_eqDefS_L1 p1 p2 q.1 q.2 = some out) (fun q => q.1) (n, g) h (Wk.refl _) ?_
  clear h
  rintro ⟨fu, v3⟩ h
  cases fu with
  | zero => cases h
  | succ fu =>
    rw [m_laws_eqDefS_L1] at h
    refine AX.seq ?_
    refine AX.seq ?_
    refine AX.reg (its := [.auto {}, .auto {}, .auto { y := some (.v (.int .i64 (p1.length : Int))) }]) [0, 1, 5, 14] [] (s1 := ⟨[(0, .bs false 2 (List.map enc_si p1)), (1, .bs false 2 (List.map enc_si p2)), (5, .v (.int .i64 v3)), (14, .v (.bool (decide (v3 < (p1.length : Int)))))], []⟩) (C := (True ∧ (AV.v (.int .i64 ((List.map enc_si p1).length : Int)) = AV.v (.int .i64 (p1.length : Int)))) ∧ True) (by kernel_rfl) ⟨⟨trivial, len_map enc_si p1⟩, trivial⟩ trivial ?_
    rcases bool_cases (decide (v3 < (p1.length : Int))) with b2 | b2
    · replace h := cd_t b2 h
      refine AX.condT (decide (v3 < (p1.length : Int))) (by kernel_rfl) b2 ?_
      refine AX.skip ?_
      refine AX.seq ?_
      refine AX.block ?_
      refine AX.seq ?_
      obtain ⟨g3, h⟩ := gd_e h
      obtain ⟨g4, h⟩ := gd_e h
      obtain ⟨x4, e5, h⟩ := bd_e h
      refine AX.drw mixed (its := [.auto {}, .auto {}, .auto { y := some (.be 2 (enc_si (gt p1 v3)) 0) }, .auto {}, .auto {}, .auto {}, .auto { y := some (.be 2 (enc_si (gt p2 v3)) 0) }, .auto {}, .call 90 [.agg [.v (.string ((gt p1 v3).1)), .v (.int .i64 ((gt p1 v3).2))], .agg [.v (.string ((gt p2 v3).1)), .v (.int .i64 ((gt p2 v3).2))]] (handO (rho ([] ++ [])) [] [] ++ []) (callEv [] [] (.v (.bool x4)) [])]) [0, 1, 5, 26] [] (s1 := ⟨[(0, .bs false 2 (List.map enc_si p1)), (1, .bs false 2 (List.map enc_si p2)), (5, .v (.int .i64 v3)), (26, .v (.bool (!x4)))], []⟩) (C := ((0 ≤ v3 ∧ v3 < ((List.map enc_si p1).length : Int)) ∧ (AV.be 2 ((List.map enc_si p1).getD v3.toNat []) 0 = AV.be 2 (enc_si (gt p1 v3)) 0)) ∧ ((0 ≤ v3 ∧ v3 < ((List.map enc_si p2).length : Int)) ∧ (AV.be 2 ((List.map enc_si p2).getD v3.toNat []) 0 = AV.be 2 (enc_si (gt p2 v3)) 0)) ∧ ((([.agg [.v (.string ((gt p1 v3).1)), .v (.int .i64 ((gt p1 v3).2))], .agg [.v (.string ((gt p2 v3).1)), .v (.int .i64 ((gt p2 v3).2))]] : List AV) = [.agg [.v (.string ((gt p1 v3).1)), .v (.int .i64 ((gt p1 v3).2))], .agg [.v (.string ((gt p2 v3).1)), .v (.int .i64 ((gt p2 v3).2))]]) ∧ True) ∧ True) (by kernel_rfl) ⟨idx_bs enc_si p1 v3 2 g3, ⟨idx_bs enc_si p2 v3 2 g4, ⟨⟨rfl, trivial⟩, trivial⟩⟩⟩ ⟨call_ok (ks := []) (ns := []) (bor := []) (bobjs := []) (s_laws_eqDef ((gt p1 v3).1) ((gt p1 v3).2) ((gt p2 v3).1) ((gt p2 v3).2) x4 e5) (.cons (.c1 (.agg (.cons (.same _ (by kernel_rfl) (by kernel_rfl)) (.cons (.same _ (by kernel_rfl) (by kernel_rfl)) (.nil))))) (.cons (.c1 (.agg (.cons (.same _ (by kernel_rfl) (by kernel_rfl)) (.cons (.same _ (by kernel_rfl) (by kernel_rfl)) (.nil))))) (.nil))) (by kernel_rfl) trivial, trivial⟩ ?_
      rcases bool_cases ((!x4)) with b6 | b6
      · replace h := cd_t b6 h
        refine AX.condT ((!x4)) (by kernel_rfl) b6 ?_
        refine AX.seq ?_
        refine AX.reg (its := []) [4] [] (s1 := ⟨[(4, .v (.bool false))], []⟩) (C := True) (by kernel_rfl) trivial trivial ?_
        refine AX.ret ?_
        refine fin_wk (Wk.forget [4] [] (s' := ⟨[(4, .v (.bool false))], []⟩) (by kernel_rfl)) ?_
        have hr := Option.some.inj h
        subst hr
        exact ⟨_, Wk.refl _, .inl ⟨(), rfl, rfl, rfl⟩⟩
      · replace h := cd_f b6 h
        refine AX.condF ((!x4)) (by kernel_rfl) b6 ?_
        refine AX.skip ?_
        refine AX.reg (its := [.auto {}, .auto { raw := true }]) [0, 1, 5] [] (s1 := ⟨[(0, .bs false 2 (List.map enc_si p1)), (1, .bs false 2 (List.map enc_si p2)), (5, .v (.int .i64 (IntKind.wrap .i64 (v3 + 1))))], []⟩) (C := True) (by kernel_rfl) trivial trivial ?_
        refine ⟨(fu, IntKind.wrap .i64 (v3 + 1)), h, Nat.lt_succ_self _, ?_⟩
        refine Wk.trans (Wk.forget [0, 1, 5] [] (s' := ⟨[(0, .bs false 2 (List.map enc_si p1)), (1, .bs false 2 (List.map enc_si p2)), (5, .v (.int .i64 (IntKind.wrap .i64 (v3 + 1))))], []⟩) (by kernel_rfl)) ?_
        exact Wk.refl _
    · replace h := cd_f b2 h
      refine AX.condF (decide (v3 < (p1.length : Int))) (by kernel_rfl) b2 ?_
      refine AX.exit ?_
      refine fin_wk (Wk.forget [] [] (s' := ⟨[], []⟩) (by kernel_rfl)) ?_
      have hr := Option.some.inj h
      subst hr
      exact ⟨_, Wk.refl _, .inr ⟨(), rfl, rfl, rfl⟩⟩

theorem s_laws_eqDefS (p1 : List (ByteArray × Int)) (p2 : List (ByteArray × Int)) (r : Bool) (h : m_laws_eqDefS p1 p2 = some r) :
    Eng.Spec Tryd.prog 44 [.bs false 2 (List.map enc_si p1), .bs false 2 (List.map enc_si p2)] [] (.v (.bool r)) [] := by
  unfold m_laws_eqDefS at h
  refine Eng.Spec.body Tryd.func44 (by kernel_rfl) rfl (by kernel_rfl) ?_
  refine AX.wkpost ?_
  refine AX.seq ?_
  refine AX.reg (its := []) [0, 1] [] (s1 := ⟨[(0, .bs false 2 (List.map enc_si p1)), (1, .bs false 2 (List.map enc_si p2))], []⟩) (C := True) (by kernel_rfl) trivial trivial ?_
  refine AX.seq ?_
  refine AX.seq ?_
  refine AX.reg (its := [.auto {}, .auto { y := some (.v (.int .i64 (p1.length : Int))) }, .auto {}, .auto { y := some (.v (.int .i64 (p2.length : Int))) }]) [0, 1, 10] [] (s1 := ⟨[(0, .bs false 2 (List.map enc_si p1)), (1, .bs false 2 (List.map enc_si p2)), (10, .v (.bool (!decide ((p1.length : Int) = (p2.length : Int)))))], []⟩) (C := (True ∧ (AV.v (.int .i64 ((List.map enc_si p1).length : Int)) = AV.v (.int .i64 (p1.length : Int)))) ∧ (True ∧ (AV.v (.int .i64 ((List.map enc_si p2).length : Int)) = AV.v (.int .i64 (p2.length : Int)))) ∧ True) (by kernel_rfl) ⟨⟨trivial, len_map enc_si p1⟩, ⟨⟨trivial, len_map enc_si p2⟩, trivial⟩⟩ trivial ?_
  rcases bool_cases ((!decide ((p1.length : Int) = (p2.length : Int)))) with b1 | b1
  · replace h := cd_t b1 h
    refine AX.condT ((!decide ((p1.length : Int) = (p2.length : Int)))) (by kernel_rfl) b1 ?_
    refine AX.seq ?_
    refine AX.reg (its := []) [4] [] (s1 := ⟨[(4, .v (.bool false))], []⟩) (C := True) (by kernel_rfl) trivial trivial ?_
    refine AX.ret ?_
    refine fin_wk (Wk.forget [4] [] (s' := ⟨[(4, .v (.bool false))], []⟩) (by kernel_rfl)) ?_
    have hr := Option.some.inj h
    subst hr
    exact ⟨_, Wk.refl _, .inr rfl, ⟨[], by kernel_rfl, trivial, [.v (.bool false)], by kernel_rfl, by kernel_rfl⟩⟩
  · replace h := cd_f b1 h
    refine AX.condF ((!decide ((p1.length : Int) = (p2.length : Int)))) (by kernel_rfl) b1 ?_
    refine AX.skip ?_
    refine AX.seq ?_
    refine AX.seq ?_
    refine AX.reg (its := []) [0, 1, 5] [] (s1 := ⟨[(0, .bs false 2 (List.map enc_si p1)), (1, .bs false 2 (List.map enc_si p2)), (5, .v (.int .i64 0))], []⟩) (C := True) (by kernel_rfl) trivial trivial ?_
    refine AX.block ?_
    obtain ⟨x5, e7, h⟩ := bd_e h
    refine AX.wk (Wk.forget [0, 1, 5] [] (s' := ⟨[(0, .bs false 2 (List.map enc_si p1)), (1, .bs false 2 (List.map enc_si p2)), (5, .v (.int .i64 0))], []⟩) (by kernel_rfl)) ?_
    refine AX.mono (s_laws_eqDefS_L1 p1 p2 FU 0 x5 e7) ?_
    rintro _ _ (⟨x6, rfl, rfl, rfl⟩ | ⟨x7, rfl, rfl, rfl⟩)
    · replace h := sm_l h
      refine fin_wk (Wk.forget [4] [] (s' := ⟨[(4, .v (.bool false))], []⟩) (by kernel_rfl)) ?_
      have hr := Option.some.inj h
      subst hr
      exact ⟨_, Wk.refl _, .inr rfl, ⟨[], by kernel_rfl, trivial, [.v (.bool false)], by kernel_rfl, by kernel_rfl⟩⟩
    · replace h := sm_r h
      refine AX.seq ?_
      refine AX.reg (its := []) [4] [] (s1 := ⟨[(4, .v (.bool true))], []⟩) (C := True) (by kernel_rfl) trivial trivial ?_
      refine AX.ret ?_
      refine fin_wk (Wk.forget [4] [] (s' := ⟨[(4, .v (.bool true))], []⟩) (by kernel_rfl)) ?_
      have hr := Option.some.inj h
      subst hr
      exact ⟨_, Wk.refl _, .inr rfl, ⟨[], by kernel_rfl, trivial, [.v (.bool true)], by kernel_rfl, by kernel_rfl⟩⟩

theorem s_laws_eqFlag (p1 : List (ByteArray × Int)) (p2 : Int) (p3 : List (ByteArray × Int)) (p4 : Int) (r : Bool) (h : m_laws_eqFlag p1 p2 p3 p4 = some r) :
    Eng.Spec Tryd.prog 14 [.agg [.bs false 2 (List.map enc_si p1), .v (.int .i64 p2)], .agg [.bs false 2 (List.map enc_si p3), .v (.int .i64 p4)]] [] (.v (.bool r)) [] := by
  unfold m_laws_eqFlag at h
  refine Eng.Spec.body Tryd.func14 (by kernel_rfl) rfl (by kernel_rfl) ?_
  refine AX.wkpost ?_
  refine AX.seq ?_
  refine AX.reg (its := [.auto { nk := 0 }, .auto { nk := 1 }]) [2, 3] [0, 1] (s1 := ⟨[(2, .pt 0 0), (3, .pt 1 0)], [(0, .box [.bs false 2 (List.map enc_si p1), .v (.int .i64 p2)]), (1, .box [.bs false 2 (List.map enc_si p3), .v (.int .i64 p4)])]⟩) (C := True) (by kernel_rfl) trivial trivial ?_
  refine AX.seq ?_
  refine AX.seq ?_
  obtain ⟨x5, e1, h⟩ := bd_e h
  refine AX.reg (its := [.auto {}, .auto {}, .auto {}, .auto {}, .call 44 [.bs false 2 (List.map enc_si p1), .bs false 2 (List.map enc_si p3)] (handO (rho ([] ++ [])) [] [] ++ []) (callEv [] [] (.v (.bool x5)) [])]) [2, 3, 10] [0, 1] (s1 := ⟨[(2, .pt 0 0), (3, .pt 1 0), (10, .v (.bool (!x5)))], [(0, .box [.bs false 2 (List.map enc_si p1), .v (.int .i64 p2)]), (1, .box [.bs false 2 (List.map enc_si p3), .v (.int .i64 p4)])]⟩) (C := ((([.bs false 2 (List.map enc_si p1), .bs false 2 (List.map enc_si p3)] : List AV) = [.bs false 2 (List.map enc_si p1), .bs false 2 (List.map enc_si p3)]) ∧ True) ∧ True) (by kernel_rfl) ⟨⟨rfl, trivial⟩, trivial⟩ ⟨call_ok (ks := []) (ns := []) (bor := []) (bobjs := []) (s_laws_eqDefS p1 p3 x5 e1) (.cons (.c1 (.c0 (.same _ (by kernel_rfl) (by kernel_rfl)))) (.cons (.c1 (.c0 (.same _ (by kernel_rfl) (by kernel_rfl)))) (.nil))) (by kernel_rfl) trivial, trivial⟩ ?_
  rcases bool_cases ((!x5)) with b2 | b2
  · replace h := cd_t b2 h
    refine AX.condT ((!x5)) (by kernel_rfl) b2 ?_
    refine AX.seq ?_
    refine AX.reg (its := []) [4] [] (s1 := ⟨[(4, .v (.bool false))], []⟩) (C := True) (by kernel_rfl) trivial trivial ?_
    refine AX.ret ?_
    refine fin_wk (Wk.forget [4] [] (s' := ⟨[(4, .v (.bool false))], []⟩) (by kernel_rfl)) ?_
    have hr := Option.some.inj h
    subst hr
    exact ⟨_, Wk.refl _, .inr rfl, ⟨[], by kernel_rfl, trivial, [.v (.bool false)], by kernel_rfl, by kernel_rfl⟩⟩
  · replace h := cd_f b2 h
    refine AX.condF ((!x5)) (by kernel_rfl) b2 ?_
    refine AX.skip ?_
    refine AX.seq ?_
    refine AX.seq ?_
    refine AX.reg (its := []) [15] [] (s1 := ⟨[(15, .v (.bool (!decide (p2 = p4))))], []⟩) (C := True) (by kernel_rfl) trivial trivial ?_
    rcases bool_cases ((!decide (p2 = p4))) with b3 | b3
    · replace h := cd_t b3 h
      refine AX.condT ((!decide (p2 = p4))) (by kernel_rfl) b3 ?_
      refine AX.seq ?_
      refine AX.reg (its := []) [4] [] (s1 := ⟨[(4, .v (.bool false))], []⟩) (C := True) (by kernel_rfl) trivial trivial ?_
      refine AX.ret ?_
      refine fin_wk (Wk.forget [4] [] (s' := ⟨[(4, .v (.bool false))], []⟩) (by kernel_rfl)) ?_
      have hr := Option.some.inj h
      subst hr
      exact ⟨_, Wk.refl _, .inr rfl, ⟨[], by kernel_rfl, trivial, [.v (.bool false)], by kernel_rfl, by kernel_rfl⟩⟩
    · replace h := cd_f b3 h
      refine AX.condF ((!decide (p2 = p4))) (by kernel_rfl) b3 ?_
      refine AX.skip ?_
      refine AX.seq ?_
      refine AX.reg (its := []) [4] [] (s1 := ⟨[(4, .v (.bool true))], []⟩) (C := True) (by kernel_rfl) trivial trivial ?_
      refine AX.ret ?_
      refine fin_wk (Wk.forget [4] [] (s' := ⟨[(4, .v (.bool true))], []⟩) (by kernel_rfl)) ?_
      have hr := Option.some.inj h
      subst hr
      exact ⟨_, Wk.refl _, .inr rfl, ⟨[], by kernel_rfl, trivial, [.v (.bool true)], by kernel_rfl, by kernel_rfl⟩⟩

theorem s_laws_FnExactShowShort (p1 : List (ByteArray × Int)) (p2 : Int) (p3 : Int) (r : Bool) (h : m_laws_FnExactShowShort p1 p2 p3 = some r) :
    Eng.Spec Tryd.prog 9 [.agg [.bs true 2 (List.map enc_si p1), .v (.int .i64 p2)], .v (.int .i64 p3)] [] (.v (.bool r)) [] := by
  unfold m_laws_FnExactShowShort at h
  refine Eng.Spec.body Tryd.func9 (by kernel_rfl) rfl (by kernel_rfl) ?_
  refine AX.wkpost ?_
  refine AX.seq ?_
  refine AX.reg (its := [.auto { nk := 0 }]) [1, 2] [0] (s1 := ⟨[(1, .v (.int .i64 p3)), (2, .pt 0 0)], [(0, .box [.bs true 2 (List.map enc_si p1), .v (.int .i64 p2)])]⟩) (C := True) (by kernel_rfl) trivial trivial ?_
  refine AX.seq ?_
  refine AX.reg (its := []) [1, 2, 5] [0] (s1 := ⟨[(1, .v (.int .i64 p3)), (2, .pt 0 0), (5, .v (.int .i64 1048576))], [(0, .box [.bs true 2 (List.map enc_si p1), .v (.int .i64 p2)])]⟩) (C := True) (by kernel_rfl) trivial trivial ?_
  refine AX.seq ?_
  obtain ⟨x4, e1, h⟩ := bd_e h
  refine AX.reg (its := [.auto {}, .auto {}, .call 10 [.agg [.bs true 2 (List.map enc_si p1), .v (.int .i64 p2)], .v (.int .i64 1048576)] (handO (rho ([] ++ [])) [] [] ++ []) (callEv [] [] (.v (.int .i64 x4)) [])]) [1, 2, 5] [0] (s1 := ⟨[(1, .v (.int .i64 p3)), (2, .pt 0 0), (5, .v (.int .i64 x4))], [(0, .box [.bs true 2 (List.map enc_si p1), .v (.int .i64 p2)])]⟩) (C := ((([.agg [.bs true 2 (List.map enc_si p1), .v (.int .i64 p2)], .v (.int .i64 1048576)] : List AV) = [.agg [.bs true 2 (List.map enc_si p1), .v (.int .i64 p2)], .v (.int .i64 1048576)]) ∧ True) ∧ True) (by kernel_rfl) ⟨⟨rfl, trivial⟩, trivial⟩ ⟨call_ok (ks := []) (ns := []) (bor := []) (bobjs := []) (s_laws_szFlag p1 p2 1048576 x4 e1) (.cons (.c1 (.agg (.cons (.same _ (by kernel_rfl) (by kernel_rfl)) (.cons (.same _ (by kernel_rfl) (by kernel_rfl)) (.nil))))) (.cons (.c1 (.c0 (.same _ (by kernel_rfl) (by kernel_rfl)))) (.nil))) (by kernel_rfl) trivial, trivial⟩ ?_
  refine AX.seq ?_
  refine AX.seq ?_
  refine AX.reg (its := []) [1, 2, 13] [0] (s1 := ⟨[(1, .v (.int .i64 p3)), (2, .pt 0 0), (13, .v (.bool (decide (x4 < 0))))], [(0, .box [.bs true 2 (List.map enc_si p1), .v (.int .i64 p2)])]⟩) (C := True) (by kernel_rfl) trivial trivial ?_
  rcases bool_cases (decide (x4 < 0)) with b2 | b2
  · replace h := cd_t b2 h
    refine AX.condT (decide (x4 < 0)) (by kernel_rfl) b2 ?_
    refine AX.seq ?_
    refine AX.reg (its := []) [4] [] (s1 := ⟨[(4, .v (.bool true))], []⟩) (C := True) (by kernel_rfl) trivial trivial ?_
    refine AX.ret ?_
    refine fin_wk (Wk.forget [4] [] (s' := ⟨[(4, .v (.bool true))], []⟩) (by kernel_rfl)) ?_
    have hr := Option.some.inj h
    subst hr
    exact ⟨_, Wk.refl _, .inr rfl, ⟨[], by kernel_rfl, trivial, [.v (.bool true)], by kernel_rfl, by kernel_rfl⟩⟩
  · replace h := cd_f b2 h
    refine AX.condF (decide (x4 < 0)) (by kernel_rfl) b2 ?_
    refine AX.skip ?_
    refine AX.seq ?_
    obtain ⟨x5, e3, h⟩ := bd_e h
    obtain ⟨x6, e4, h⟩ := bd_e h
    refine AX.reg (its := [.auto {}, .call 12 [.agg [.bs true 2 (List.map enc_si p1), .v (.int .i64 p2)]] (handO (rho ([] ++ [1])) [] [] ++ []) (callEv [] [1] (.agg [.sl 0 0 x5.length, .v (.int .i64 p2)]) [.arr 2 (List.map enc_si x5)]), .auto {}, .call 32 [.agg [.sl 1 0 x5.length, .v (.int .i64 p2)], .v (.int .i64 p3)] (handO (rho ([] ++ [])) [] [] ++ [(1, .arr 2 (List.map enc_si x5))]) (callEv [] [] (.v (.string x6)) [])]) [1, 2, 6] [0] (s1 := ⟨[(1, .v (.int .i64 p3)), (2, .pt 0 0), (6, .v (.string x6))], [(0, .box [.bs true 2 (List.map enc_si p1), .v (.int .i64 p2)])]⟩) (C := ((([.agg [.bs true 2 (List.map enc_si p1), .v (.int .i64 p2)]] : List AV) = [.agg [.bs true 2 (List.map enc_si p1), .v (.int .i64 p2)]]) ∧ True) ∧ ((([.agg [.sl 1 0 x5.length, .v (.int .i64 p2)], .v (.int .i64 p3)] : List AV) = [.agg [.sl 1 0 x5.length, .v (.int .i64 p2)], .v (.int .i64 p3)]) ∧ (AO.arr 2 (List.map enc_si x5) = AO.arr 2 (List.map enc_si x5)) ∧ True) ∧ True) (by kernel_rfl) ⟨⟨rfl, trivial⟩, ⟨⟨rfl, rfl, trivial⟩, trivial⟩⟩ ⟨call_ok (ks := []) (ns := [1]) (bor := []) (bobjs := []) (s_laws_toFlag p1 p2 x5 e3) (.cons (.c1 (.agg (.cons (.same _ (by kernel_rfl) (by kernel_rfl)) (.cons (.same _ (by kernel_rfl) (by kernel_rfl)) (.nil))))) (.nil)) (by kernel_rfl) trivial, ⟨call_ok (ks := []) (ns := []) (bor := [1]) (bobjs := [(1, .arr 2 (List.map enc_si x5))]) (s_spec_ShowShort x5 p2 p3 x6 e4) (.cons (.c1 (.agg (.cons (.arr rfl rfl ((rfl).trans (List.length_map ..).symm)) (.cons (.same _ (by kernel_rfl) (by kernel_rfl)) (.nil))))) (.cons (.c1 (.c0 (.same _ (by kernel_rfl) (by kernel_rfl)))) (.nil))) (by kernel_rfl) trivial, trivial⟩⟩ ?_
    refine AX.seq ?_
    obtain ⟨x7, e5, h⟩ := bd_e h
    refine AX.reg (its := [.auto {}, .call 12 [.agg [.bs true 2 (List.map enc_si p1), .v (.int .i64 p2)]] (handO (rho ([] ++ [1])) [] [] ++ []) (callEv [] [1] (.agg [.sl 0 0 x7.length, .v (.int .i64 p2)]) [.arr 2 (List.map enc_si x7)]), .auto { nk := 2 }]) [1, 2, 6, 7] [0, 1, 2] (s1 := ⟨[(1, .v (.int .i64 p3)), (2, .pt 0 0), (6, .v (.string x6)), (7, .pt 2 0)], [(0, .box [.bs true 2 (List.map enc_si p1), .v (.int .i64 p2)]), (1, .arr 2 (List.map enc_si x7)), (2, .box [.sl 1 0 x7.length, .v (.int .i64 p2)])]⟩) (C := ((([.agg [.bs true 2 (List.map enc_si p1), .v (.int .i64 p2)]] : List AV) = [.agg [.bs true 2 (List.map enc_si p1), .v (.int .i64 p2)]]) ∧ True) ∧ True) (by kernel_rfl) ⟨⟨rfl, trivial⟩, trivial⟩ ⟨call_ok (ks := []) (ns := [1]) (bor := []) (bobjs := []) (s_laws_toFlag p1 p2 x7 e5) (.cons (.c1 (.agg (.cons (.same _ (by kernel_rfl) (by kernel_rfl)) (.cons (.same _ (by kernel_rfl) (by kernel_rfl)) (.nil))))) (.nil)) (by kernel_rfl) trivial, trivial⟩ ?_
    refine AX.seq ?_
    obtain ⟨x8, e6, h⟩ := bd_e h
    refine AX.reg (its := [.auto {}, .auto {}, .call 33 [.agg [.sl 1 0 x7.length, .v (.int .i64 p2)], .v (.int .i64 p3)] (handO (rho ([] ++ [])) [] [] ++ [(1, .arr 2 (List.map enc_si x7))]) (callEv [] [] (.v (.string x8)) [])]) [2, 6, 7, 8] [0, 1, 2] (s1 := ⟨[(2, .pt 0 0), (6, .v (.string x6)), (7, .pt 2 0), (8, .v (.string x8))], [(0, .box [.bs true 2 (List.map enc_si p1), .v (.int .i64 p2)]), (1, .arr 2 (List.map enc_si x7)), (2, .box [.sl 1 0 x7.length, .v (.int .i64 p2)])]⟩) (C := ((([.agg [.sl 1 0 x7.length, .v (.int .i64 p2)], .v (.int .i64 p3)] : List AV) = [.agg [.sl 1 0 x7.length, .v (.int .i64 p2)], .v (.int .i64 p3)]) ∧ (AO.arr 2 (List.map enc_si x7) = AO.arr 2 (List.map enc_si x7)) ∧ True) ∧ True) (by kernel_rfl) ⟨⟨rfl, rfl, trivial⟩, trivial⟩ ⟨call_ok (ks := []) (ns := []) (bor := [1]) (bobjs := [(1, .arr 2 (List.map enc_si x7))]) (s_impl_ShowShort x7 p2 p3 x8 e6) (.cons (.c1 (.agg (.cons (.arr rfl rfl ((rfl).trans (List.length_map ..).symm)) (.cons (.same _ (by kernel_rfl) (by kernel_rfl)) (.nil))))) (.cons (.c1 (.c0 (.same _ (by kernel_rfl) (by kernel_rfl)))) (.nil))) (by kernel_rfl) trivial, trivial⟩ ?_
    refine AX.seq ?_
    refine AX.seq ?_
    refine AX.reg (its := []) [2, 7, 25] [0, 1, 2] (s1 := ⟨[(2, .pt 0 0), (7, .pt 2 0), (25, .v (.bool (!decide (x8 = x6))))], [(0, .box [.bs true 2 (List.map enc_si p1), .v (.int .i64 p2)]), (1, .arr 2 (List.map enc_si x7)), (2, .box [.sl 1 0 x7.length, .v (.int .i64 p2)])]⟩) (C := True) (by kernel_rfl) trivial trivial ?_
    rcases bool_cases ((!decide (x8 = x6))) with b7 | b7
    · replace h := cd_t b7 h
      refine AX.condT ((!decide (x8 = x6))) (by kernel_rfl) b7 ?_
      refine AX.seq ?_
      refine AX.reg (its := []) [4] [] (s1 := ⟨[(4, .v (.bool false))], []⟩) (C := True) (by kernel_rfl) trivial trivial ?_
      refine AX.ret ?_
      refine fin_wk (Wk.forget [4] [] (s' := ⟨[(4, .v (.bool false))], []⟩) (by kernel_rfl)) ?_
      have hr := Option.some.inj h
      subst hr
      exact ⟨_, Wk.refl _, .inr rfl, ⟨[], by kernel_rfl, trivial, [.v (.bool false)], by kernel_rfl, by kernel_rfl⟩⟩
    · replace h := cd_f b7 h
      refine AX.condF ((!decide (x8 = x6))) (by kernel_rfl) b7 ?_
      refine AX.skip ?_
      refine AX.seq ?_
      refine AX.seq ?_
      obtain ⟨x9, e8, h⟩ := bd_e h
      obtain ⟨x10, e9, h⟩ := bd_e h
      refine AX.drw mixed (its := [.auto {}, .auto {}, .call 12 [.agg [.bs true 2 (List.map enc_si p1), .v (.int .i64 p2)]] (handO (rho ([] ++ [3])) [] [] ++ []) (callEv [] [3] (.agg [.sl 0 0 x9.length, .v (.int .i64 p2)]) [.arr 2 (List.map enc_si x9)]), .call 14 [.agg [.sl 1 0 x7.length, .v (.int .i64 p2)], .agg [.sl 3 0 x9.length, .v (.int .i64 p2)]] (handO (rho ([] ++ [])) [] [] ++ [(1, .arr 2 (List.map enc_si x7)), (3, .arr 2 (List.map enc_si x9))]) (callEv [] [] (.v (.bool x10)) [])]) [30] [] (s1 := ⟨[(30, .v (.bool (!x10)))], []⟩) (C := ((([.agg [.bs true 2 (List.map enc_si p1), .v (.int .i64 p2)]] : List AV) = [.agg [.bs true 2 (List.map enc_si p1), .v (.int .i64 p2)]]) ∧ True) ∧ ((([.agg [.sl 1 0 x7.length, .v (.int .i64 p2)], .agg [.sl 3 0 x9.length, .v (.int .i64 p2)]] : List AV) = [.agg [.sl 1 0 x7.length, .v (.int .i64 p2)], .agg [.sl 3 0 x9.length, .v (.int .i64 p2)]]) ∧ (AO.arr 2 (List.map enc_si x7) = AO.arr 2 (List.map enc_si x7)) ∧ (AO.arr 2 (List.map enc_si x9) = AO.arr 2 (List.map enc_si x9)) ∧ True) ∧ True) (by kernel_rfl) ⟨⟨rfl, trivial⟩, ⟨⟨rfl, rfl, rfl, trivial⟩, trivial⟩⟩ ⟨call_ok (ks := []) (ns := [3]) (bor := []) (bobjs := []) (s_laws_toFlag p1 p2 x9 e8) (.cons (.c1 (.agg (.cons (.same _ (by kernel_rfl) (by kernel_rfl)) (.cons (.same _ (by kernel_rfl) (by kernel_rfl)) (.nil))))) (.nil)) (by kernel_rfl) trivial, ⟨call_ok (ks := []) (ns := []) (bor := [1, 3]) (bobjs := [(1, .arr 2 (List.map enc_si x7)), (3, .arr 2 (List.map enc_si x9))]) (s_laws_eqFlag x7 p2 x9 p2 x10 e9) (.cons (.c1 (.agg (.cons (.arr rfl rfl ((rfl).trans (List.length_map ..).symm)) (.cons (.same _ (by kernel_rfl) (by kernel_rfl)) (.nil))))) (.cons (.c1 (.agg (.cons (.arr rfl rfl ((rfl).trans (List.length_map ..).symm)) (.cons (.same _ (by kernel_rfl) (by kernel_rfl)) (.nil))))) (.nil))) (by kernel_rfl) trivial, trivial⟩⟩ ?_
      rcases bool_cases ((!x10)) with b10 | b10
      · replace h := cd_t b10 h
        refine AX.condT ((!x10)) (by kernel_rfl) b10 ?_
        refine AX.seq ?_
        refine AX.reg (its := []) [4] [] (s1 := ⟨[(4, .v (.bool false))], []⟩) (C := True) (by kernel_rfl) trivial trivial ?_
        refine AX.ret ?_
        refine fin_wk (Wk.forget [4] [] (s' := ⟨[(4, .v (.bool false))], []⟩) (by kernel_rfl)) ?_
        have hr := Option.some.inj h
        subst hr
        exact ⟨_, Wk.refl _, .inr rfl, ⟨[], by kernel_rfl, trivial, [.v (.bool false)], by kernel_rfl, by kernel_rfl⟩⟩
      · replace h := cd_f b10 h
        refine AX.condF ((!x10)) (by kernel_rfl) b10 ?_
        refine AX.skip ?_
        refine AX.seq ?_
        refine AX.reg (its := []) [4] [] (s1 := ⟨[(4, .v (.bool true))], []⟩) (C := True) (by kernel_rfl) trivial trivial ?_
        refine AX.ret ?_
        refine fin_wk (Wk.forget [4] [] (s' := ⟨[(4, .v (.bool true))], []⟩) (by kernel_rfl)) ?_
        have hr := Option.some.inj h
        subst hr
        exact ⟨_, Wk.refl _, .inr rfl, ⟨[], by kernel_rfl, trivial, [.v (.bool true)], by kernel_rfl, by kernel_rfl⟩⟩

end Go.Eng
