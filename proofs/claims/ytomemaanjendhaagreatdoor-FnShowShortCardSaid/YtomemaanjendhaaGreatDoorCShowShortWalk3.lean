/- What is proved here: each function keeps to its model, whatever its arguments, wherever the model has an answer. Printed by gen.py. -/
import Derived.Test.YtomemaanjendhaaGreatDoorCShowShortWalk2
import Derived.Test.YtomemaanjendhaaGreatDoorProg
import Derived.Test.YtomemaanjendhaaGreatDoorCShowShortShelf
import Derived.KernelRfl
set_option linter.unusedVariables false
set_option linter.unusedSimpArgs false
set_option linter.unnecessarySimpa false
namespace Go.Eng
open Go Go.Proofs


theorem s_slices_Clip_hs (p1 : List (ByteArray)) (r : Unit) (h : m_slices_Clip_hs p1 = some r) :
    Eng.Spec Tryz.prog 80 [.sl 0 0 p1.length] [.arr 1 (List.map enc_s p1)] (.sl 0 0 p1.length) [.arr 1 (List.map enc_s p1)] := by
  unfold m_slices_Clip_hs at h
  refine Eng.Spec.body Tryz.func80 (by kernel_rfl) rfl (by kernel_rfl) ?_
  refine AX.wkpost ?_
  refine AX.seq ?_
  refine AX.reg (its := []) [0] [0] (s1 := ⟨[(0, .sl 0 0 p1.length)], [(0, .arr 1 (List.map enc_s p1))]⟩) (C := True) (by kernel_rfl) trivial trivial ?_
  refine AX.seq ?_
  refine AX.reg (its := [.auto {}, .auto {}, .auto {}, .auto {}, .auto {}, .auto { y := some (.sl 0 0 p1.length) }]) [2] [0] (s1 := ⟨[(2, .sl 0 0 p1.length)], [(0, .arr 1 (List.map enc_s p1))]⟩) (C := ((0 ≤ (0 : Int) ∧ (0 : Int) ≤ (p1.length : Int) ∧ (p1.length : Int) ≤ (p1.length : Int) ∧ (p1.length : Int) ≤ (p1.length : Int)) ∧ (AV.sl 0 (0 + (0 : Int).toNat) ((p1.length : Int).toNat - (0 : Int).toNat) = AV.sl 0 0 p1.length)) ∧ True) (by kernel_rfl) ⟨⟨⟨by omega, by omega, by omega, by omega⟩, rfl⟩, trivial⟩ trivial ?_
  refine AX.ret ?_
  refine fin_wk (Wk.forget [2] [0] (s' := ⟨[(2, .sl 0 0 p1.length)], [(0, .arr 1 (List.map enc_s p1))]⟩) (by kernel_rfl)) ?_
  have hr := Option.some.inj h
  subst hr
  exact ⟨_, Wk.refl _, .inr rfl, ⟨[], by kernel_rfl, ⟨rfl, trivial⟩, [.sl 0 0 p1.length], by kernel_rfl, by kernel_rfl⟩⟩

theorem s_impl_names_anyDef_L1 (p1 : List (ByteArray × Int)) (n : Nat) (g : List (ByteArray) × Int) (out : List (ByteArray)) (h : m_impl_names_anyDef_L1 p1 n g.1 g.2 = some out) :
    AX Tryz.prog 25 0 (codeAt [1, 1, 0, 1, 1] (bodyOf Tryz.f42)) ((fun g : List (ByteArray) × Int => (⟨[(1, .fn 43 []), (5, .sl 0 0 g.1.length), (8, .bs false 2 (List.map enc_si p1)), (9, .v (.int .i64 (p1.length : Int))), (10, .v (.int .i64 g.2))], [(0, .arr 1 (List.map enc_s g.1))]⟩ : S)) g) (fun ex s => ex = .exit 0 ∧ s = (fun o : List (ByteArray) => (⟨[(5, .sl 0 0 o.length)], [(0, .arr 1 (List.map enc_s o))]⟩ : S)) out) := by
  refine AX.wkpost ?_
  refine AX.loop (G := Nat × (List (ByteArray) × Int)) (fun q => (fun g : List (ByteArray) × Int => (⟨[(1, .fn 43 []), (5, .sl 0 0 g.1.length), (8, .bs false 2 (List.map enc_si p1)), (9, .v (.int .i64 (p1.length : Int))), (10, .v (.int .i64 g.2))], [(0, .arr 1 (List.map enc_s g.1))]⟩ : S)) q.2) (fun q => m_impl_names_anyDef_L1 p1 q.1 q.2.1 q.2.2 = some out) (fun q => q.1) (n, g) h (Wk.refl _) ?_
  clear h
  rintro ⟨fu, v2, v3⟩ h
  cases fu with
  | zero => cases h
  | succ fu =>
    rw [m_impl_names_anyDef_L1] at h
    refine AX.seq ?_
    refine AX.reg (its := []) [1, 5, 8, 9, 10, 11] [0] (s1 := ⟨[(1, .fn 43 []), (5, .sl 0 0 v2.length), (8, .bs false 2 (List.map enc_si p1)), (9, .v (.int .i64 (p1.length : Int))), (10, .v (.int .i64 v3)), (11, .v (.bool (decide (v3 < (p1.length : Int)))))], [(0, .arr 1 (List.map enc_s v2))]⟩) (C := True) (by kernel_rfl) trivial trivial ?_
    refine AX.seq ?_
    rcases bool_cases (decide (v3 < (p1.length : Int))) with b1 | b1
    · replace h := cd_t b1 h
      refine AX.condT (decide (v3 < (p1.length : Int))) (by kernel_rfl) b1 ?_
      refine AX.skip ?_
      refine AX.seq ?_
      refine AX.block ?_
      refine AX.seq ?_
      obtain ⟨g2, h⟩ := gd_e h
      refine AX.reg (its := [.auto { y := some (.be 2 (enc_si (gt p1 v3)) 0) }, .auto {}, .auto { nk := 1 }]) [1, 5, 7, 8, 9, 10] [0, 1] (s1 := ⟨[(1, .fn 43 []), (5, .sl 0 0 v2.length), (7, .pt 1 0), (8, .bs false 2 (List.map enc_si p1)), (9, .v (.int .i64 (p1.length : Int))), (10, .v (.int .i64 v3))], [(0, .arr 1 (List.map enc_s v2)), (1, .box [.v (.string ((gt p1 v3).1)), .v (.int .i64 ((gt p1 v3).2))])]⟩) (C := ((0 ≤ v3 ∧ v3 < ((List.map enc_si p1).length : Int)) ∧ (AV.be 2 ((List.map enc_si p1).getD v3.toNat []) 0 = AV.be 2 (enc_si (gt p1 v3)) 0)) ∧ True) (by kernel_rfl) ⟨idx_bs enc_si p1 v3 2 g2, trivial⟩ trivial ?_
      refine AX.seq ?_
      obtain ⟨x4, e3, h⟩ := bd_e h
      refine AX.reg (its := [.auto {}, .auto {}, .call 43 [.agg [.v (.string ((gt p1 v3).1)), .v (.int .i64 ((gt p1 v3).2))]] (handO (rho ([] ++ [])) [] [] ++ []) (callEv [] [] (.v (.bool true)) [])]) [1, 5, 7, 8, 9, 10, 16] [0, 1] (s1 := ⟨[(1, .fn 43 []), (5, .sl 0 0 v2.length), (7, .pt 1 0), (8, .bs false 2 (List.map enc_si p1)), (9, .v (.int .i64 (p1.length : Int))), (10, .v (.int .i64 v3)), (16, .v (.bool true))], [(0, .arr 1 (List.map enc_s v2)), (1, .box [.v (.string ((gt p1 v3).1)), .v (.int .i64 ((gt p1 v3).2))])]⟩) (C := ((([.agg [.v (.string ((gt p1 v3).1)), .v (.int .i64 ((gt p1 v3).2))]] : List AV) = [.agg [.v (.string ((gt p1 v3).1)), .v (.int .i64 ((gt p1 v3).2))]]) ∧ True) ∧ True) (by kernel_rfl) ⟨⟨rfl, trivial⟩, trivial⟩ ⟨call_ok (ks := []) (ns := []) (bor := []) (bobjs := []) (s_impl_anyDef ((gt p1 v3).1) ((gt p1 v3).2) x4 e3) (.cons (.c1 (.agg (.cons (.same _ (by kernel_rfl) (by kernel_rfl)) (.cons (.same _ (by kernel_rfl) (by kernel_rfl)) (.nil))))) (.nil)) (by kernel_rfl) trivial, trivial⟩ ?_
      refine AX.cond_true (by kernel_rfl) ?_
      obtain ⟨g4, h⟩ := gd_e h
      refine AX.reg (its := [.auto {}, .auto {}, .auto {}, .auto { nk := 2 }, .auto { y := some (.sl 3 0 ((v2 ++ ([(gt p1 v3).1] : List (ByteArray))).length)), els := some (List.map enc_s v2), els2 := some (List.map enc_s ([(gt p1 v3).1] : List (ByteArray))), nk := 3 }]) [1, 5, 8, 9, 10] [3] (s1 := ⟨[(1, .fn 43 []), (5, .sl 3 0 ((v2 ++ ([(gt p1 v3).1] : List (ByteArray))).length)), (8, .bs false 2 (List.map enc_si p1)), (9, .v (.int .i64 (p1.length : Int))), (10, .v (.int .i64 v3))], [(3, .arr 1 (List.map enc_s v2 ++ List.map enc_s ([(gt p1 v3).1] : List (ByteArray))))]⟩) (C := ((((((List.map enc_s v2).drop 0).take (v2.length) = List.map enc_s v2) ∧ (((List.map enc_s ([(gt p1 v3).1] : List (ByteArray))).drop 0).take (([(gt p1 v3).1] : List (ByteArray)).length) = List.map enc_s ([(gt p1 v3).1] : List (ByteArray)))) ∧ (List.map enc_s v2).length + (List.map enc_s ([(gt p1 v3).1] : List (ByteArray))).length ≤ 1099511627776) ∧ (AV.sl 3 0 (List.map enc_s v2 ++ List.map enc_s ([(gt p1 v3).1] : List (ByteArray))).length = AV.sl 3 0 (v2 ++ ([(gt p1 v3).1] : List (ByteArray))).length)) ∧ True) (by kernel_rfl) ⟨⟨⟨⟨(dt_all (enc := enc_s) rfl rfl), (dt_all (enc := enc_s) rfl rfl)⟩, (by simp only [List.length_map, List.length_nil, List.length_replicate]; simpa using g4)⟩, sl_len (enc := enc_s) (app_can (enc := enc_s) rfl (rfl))⟩, trivial⟩ trivial ?_
      refine AX.reg (its := [.auto { raw := true }]) [1, 5, 8, 9, 10] [3] (s1 := ⟨[(1, .fn 43 []), (5, .sl 3 0 ((v2 ++ ([(gt p1 v3).1] : List (ByteArray))).length)), (8, .bs false 2 (List.map enc_si p1)), (9, .v (.int .i64 (p1.length : Int))), (10, .v (.int .i64 (IntKind.wrap .i64 (v3 + 1))))], [(3, .arr 1 (List.map enc_s v2 ++ List.map enc_s ([(gt p1 v3).1] : List (ByteArray))))]⟩) (C := True) (by kernel_rfl) trivial trivial ?_
      refine ⟨(fu, (v2 ++ ([(gt p1 v3).1] : List (ByteArray)), IntKind.wrap .i64 (v3 + 1))), h, Nat.lt_succ_self _, ?_⟩
      refine Wk.trans (Wk.swap 0 3 (Nat.le_of_ble_eq_true (by kernel_rfl)) (Nat.le_of_ble_eq_true (by kernel_rfl)) rfl) ?_
      refine Wk.trans (Wk.forget [1, 5, 8, 9, 10] [0] (s' := ⟨[(1, .fn 43 []), (5, .sl 0 0 ((v2 ++ ([(gt p1 v3).1] : List (ByteArray))).length)), (8, .bs false 2 (List.map enc_si p1)), (9, .v (.int .i64 (p1.length : Int))), (10, .v (.int .i64 (IntKind.wrap .i64 (v3 + 1))))], [(0, .arr 1 (List.map enc_s v2 ++ List.map enc_s ([(gt p1 v3).1] : List (ByteArray))))]⟩) (by kernel_rfl)) ?_
      refine Wk.trans (Wk.of_eq (congrArg (fun z => (⟨[(1, .fn 43 []), (5, .sl 0 0 ((v2 ++ ([(gt p1 v3).1] : List (ByteArray))).length)), (8, .bs false 2 (List.map enc_si p1)), (9, .v (.int .i64 (p1.length : Int))), (10, .v (.int .i64 (IntKind.wrap .i64 (v3 + 1))))], [(0, .arr 1 (z))]⟩ : S)) (app_can (enc := enc_s) rfl (rfl) : List.map enc_s v2 ++ List.map enc_s ([(gt p1 v3).1] : List (ByteArray)) = List.map enc_s (v2 ++ ([(gt p1 v3).1] : List (ByteArray)))))) ?_
      exact Wk.refl _
    · replace h := cd_f b1 h
      refine AX.condF (decide (v3 < (p1.length : Int))) (by kernel_rfl) b1 ?_
      refine AX.exit ?_
      refine fin_wk (Wk.forget [5] [0] (s' := ⟨[(5, .sl 0 0 v2.length)], [(0, .arr 1 (List.map enc_s v2))]⟩) (by kernel_rfl)) ?_
      have hr := Option.some.inj h
      subst hr
      exact ⟨_, Wk.refl _, ⟨rfl, rfl⟩⟩

theorem s_impl_names_anyDef (p1 : List (ByteArray × Int)) (r : List (ByteArray)) (h : m_impl_names_anyDef p1 = some r) :
    Eng.Spec Tryz.prog 42 [.bs false 2 (List.map enc_si p1), .fn 43 []] [] (.sl 0 0 r.length) [.arr 1 (List.map enc_s r)] := by
  unfold m_impl_names_anyDef at h
  refine Eng.Spec.body Tryz.func42 (by kernel_rfl) rfl (by kernel_rfl) ?_
  refine AX.wkpost ?_
  refine AX.seq ?_
  refine AX.reg (its := []) [0, 1] [] (s1 := ⟨[(0, .bs false 2 (List.map enc_si p1)), (1, .fn 43 [])], []⟩) (C := True) (by kernel_rfl) trivial trivial ?_
  refine AX.seq ?_
  refine AX.reg (its := []) [0, 1, 5] [] (s1 := ⟨[(0, .bs false 2 (List.map enc_si p1)), (1, .fn 43 []), (5, .v (.slice none 0 0))], []⟩) (C := True) (by kernel_rfl) trivial trivial ?_
  refine AX.seq ?_
  refine AX.seq ?_
  refine AX.reg (its := [.auto {}, .auto { y := some (.v (.int .i64 (p1.length : Int))) }]) [1, 5, 8, 9, 10] [] (s1 := ⟨[(1, .fn 43 []), (5, .v (.slice none 0 0)), (8, .bs false 2 (List.map enc_si p1)), (9, .v (.int .i64 (p1.length : Int))), (10, .v (.int .i64 0))], []⟩) (C := (True ∧ (AV.v (.int .i64 ((List.map enc_si p1).length : Int)) = AV.v (.int .i64 (p1.length : Int)))) ∧ True) (by kernel_rfl) ⟨⟨trivial, len_map enc_si p1⟩, trivial⟩ trivial ?_
  refine AX.block ?_
  obtain ⟨x5, e5, h⟩ := bd_e h
  refine AX.wk (Wk.mat 5 0 1 (by kernel_rfl) (Nat.le_of_ble_eq_true (by kernel_rfl)) (by kernel_rfl) rfl) ?_
  refine AX.wk (Wk.forget [1, 5, 8, 9, 10] [0] (s' := ⟨[(1, .fn 43 []), (5, .sl 0 0 (([] : List (ByteArray)).length)), (8, .bs false 2 (List.map enc_si p1)), (9, .v (.int .i64 (p1.length : Int))), (10, .v (.int .i64 0))], [(0, .arr 1 (List.map enc_s ([] : List (ByteArray))))]⟩) (by kernel_rfl)) ?_
  refine AX.mono (s_impl_names_anyDef_L1 p1 FU (([] : List (ByteArray)), 0) x5 e5) ?_
  rintro _ _ ⟨rfl, rfl⟩
  skip
  refine AX.seq ?_
  obtain ⟨x6, e6, h⟩ := bd_e h
  refine AX.reg (its := [.auto {}, .call 80 [.sl 0 0 x5.length] (handO (rho ([0] ++ [])) [0] [.arr 1 (List.map enc_s x5)] ++ []) (callEv [0] [] (.sl 0 0 x5.length) [.arr 1 (List.map enc_s x5)])]) [4] [0] (s1 := ⟨[(4, .sl 0 0 x5.length)], [(0, .arr 1 (List.map enc_s x5))]⟩) (C := ((([.sl 0 0 x5.length] : List AV) = [.sl 0 0 x5.length]) ∧ (AO.arr 1 (List.map enc_s x5) = AO.arr 1 (List.map enc_s x5)) ∧ True) ∧ True) (by kernel_rfl) ⟨⟨rfl, rfl, trivial⟩, trivial⟩ ⟨call_ok (ks := [0]) (ns := []) (bor := []) (bobjs := []) (s_slices_Clip_hs x5 x6 e6) (.cons (.c1 (.c0 (.same _ (by kernel_rfl) (by kernel_rfl)))) (.nil)) (by kernel_rfl) ⟨.inr rfl, trivial⟩, trivial⟩ ?_
  refine AX.ret ?_
  refine fin_wk (Wk.forget [4] [0] (s' := ⟨[(4, .sl 0 0 x5.length)], [(0, .arr 1 (List.map enc_s x5))]⟩) (by kernel_rfl)) ?_
  have hr := Option.some.inj h
  subst hr
  exact ⟨_, Wk.refl _, .inr rfl, ⟨[0], by kernel_rfl, ⟨rfl, trivial⟩, [.sl 0 0 x5.length], by kernel_rfl, by kernel_rfl⟩⟩

theorem s_slices_Clone_s (p1 : List (ByteArray)) (r : List (ByteArray)) (h : m_slices_Clone_s p1 = some r) :
    Eng.Spec Tryz.prog 75 [.bs false 1 (List.map enc_s p1)] [] (.sl 0 0 r.length) [.arr 1 (List.map enc_s r)] := by
  unfold m_slices_Clone_s at h
  obtain ⟨g1, h⟩ := gd_e h
  have hr := Option.some.inj h
  subst hr
  refine Eng.Spec.body Tryz.func75 (by kernel_rfl) rfl (by kernel_rfl) ?_
  refine AX.wkpost ?_
  refine AX.seq ?_
  refine AX.reg (its := []) [0] [] (s1 := ⟨[(0, .bs false 1 (List.map enc_s p1))], []⟩) (C := True) (by kernel_rfl) trivial trivial ?_
  refine AX.nilEq (l := false) (sz := 1) (es := (List.map enc_s p1)) (s0 := (⟨[(2, .sl 1 0 p1.length)], [(1, .arr 1 (List.map enc_s p1))]⟩ : S)) .ret rfl rfl rfl rfl rfl rfl Tryz.underlying36 (by kernel_rfl) (by kernel_rfl) (by kernel_rfl) ⟨_, Wk.refl _, .inr rfl, ⟨[1], by kernel_rfl, ⟨rfl, trivial⟩, [.sl 1 0 p1.length], by kernel_rfl, by kernel_rfl⟩⟩ ?_
  intro b hb
  rcases bool_cases b with h1 | h1
  · subst h1
    have hp : p1 = [] := by simpa using hb rfl
    subst hp
    refine AX.condT true (by kernel_rfl) rfl ?_
    refine AX.seq ?_
    refine AX.reg (its := []) [2] [] (s1 := ⟨[(2, .v (.slice none 0 0))], []⟩) (C := True) (by kernel_rfl) trivial trivial ?_
    refine AX.wk (Wk.mat 2 1 1 (by kernel_rfl) (Nat.le_of_ble_eq_true (by kernel_rfl)) (by kernel_rfl) rfl) ?_
    refine AX.wk (Wk.forget [2] [1] (s' := ⟨[(2, .sl 1 0 0)], [(1, .arr 1 [])]⟩) (by kernel_rfl)) ?_
    exact AX.ret ⟨rfl, rfl⟩
  · subst h1
    refine AX.condF false (by kernel_rfl) rfl ?_
    refine AX.skip ?_
    refine AX.seq ?_
    refine AX.reg (its := [.auto { nk := 0 }, .auto {}, .auto { y := some (.sl 1 0 p1.length), nk := 1 }]) [2] [1] (s1 := ⟨[(2, .sl 1 0 p1.length)], [(1, .arr 1 (List.map enc_s p1))]⟩) (C := ((((True) ∧ (True)) ∧ (([] : List (List Value)).length + (List.map enc_s p1).length ≤ 1099511627776)) ∧ (AV.sl 1 0 (List.map enc_s p1).length = AV.sl 1 0 p1.length)) ∧ True) (by kernel_rfl) ⟨⟨⟨⟨trivial, trivial⟩, by simpa using g1⟩, sl_len (enc := enc_s) rfl⟩, trivial⟩ trivial ?_
    exact AX.ret ⟨rfl, rfl⟩

theorem s_strconv_Itoa (p1 : Int) (r : ByteArray) (h : m_strconv_Itoa p1 = some r) :
    Eng.Spec Tryz.prog 70 [.v (.int .i64 p1)] [] (.v (.string r)) [] := by
  unfold m_strconv_Itoa at h
  obtain ⟨g1, h⟩ := gd_e h
  have hr := Option.some.inj h
  refine spec_pure (r := .string r) ⟨_, Tryz.func70, by kernel_rfl, by kernel_rfl⟩ (fun X m sh => by simp only [VR]) ?_
  subst hr
  intro X m vs hv
  simp only [VRs, VR] at hv
  obtain ⟨_, _, rfl, rfl, rfl⟩ := hv
  have hg := (X.hG X.w0 (fun _ _ => rfl)).2
  refine (Tryz.strconv_Itoa p1 g1.1 g1.2 X.w0 (GX_pow10 hg)).mono ?_
  rintro e w' ⟨rfl, k, os, rfl⟩
  exact ⟨rfl, Lib.below_grow _ _ (Nat.le_refl _) _ _⟩

theorem s_strings_Join (p1 : List (ByteArray)) (p2 : ByteArray) (r : ByteArray) (h : m_strings_Join p1 p2 = some r) :
    Eng.Spec Tryz.prog 53 [.bs false 1 (List.map enc_s p1), .v (.string p2)] [] (.v (.string r)) [] := by
  unfold m_strings_Join at h
  obtain ⟨g1, h⟩ := gd_e h
  obtain ⟨g2, h⟩ := gd_e h
  have hr := Option.some.inj h
  subst hr
  refine spec_pure (r := .string ⟨(Lib.join (p1.map (·.data.toList)) p2.data.toList).toArray⟩) ⟨_, Tryz.func53, by kernel_rfl, by kernel_rfl⟩ (fun X m sh => by simp only [VR]) ?_
  intro X m vs hv
  simp only [VRs] at hv
  obtain ⟨v, _, rfl, hb, y, _, rfl, hy, rfl⟩ := hv
  simp only [VR] at hy
  subst hy
  rcases bs_strings hb with ⟨h0, a, c, rfl⟩ | ⟨b, off, c, rfl, hc, hlt, hcells⟩
  · subst h0
    refine (Tryz.strings_Join_none a c p2 X.w0).mono ?_
    rintro e w' ⟨rfl, rfl⟩
    exact ⟨by simp [Lib.join_nil], RowKit.Below.refl _ _⟩
  · refine (Tryz.strings_Join b off c p1 p2 X.w0 hcells hlt g1 hc g2).mono ?_
    rintro e w' ⟨rfl, hw⟩
    exact ⟨rfl, hw⟩

theorem s_impl_valued_1_l (p1 : ByteArray) (p2 : Int) (p3 : Int) (r : Unit) (h : m_impl_valued_1_l p1 p2 p3 = some r) :
    Eng.Spec Tryz.prog 110 [.agg [.v (.string p1), .v (.int .i64 p2)], .bp [.v (.int .i64 p3)] 0] [] (.v (.bool (decide (p2 = p3)))) [] := by
  unfold m_impl_valued_1_l at h
  refine Eng.Spec.body Tryz.func110 (by kernel_rfl) rfl (by kernel_rfl) ?_
  refine AX.wkpost ?_
  refine AX.seq ?_
  refine AX.reg (its := [.auto { nk := 0 }]) [1, 2] [0] (s1 := ⟨[(1, .bp [.v (.int .i64 p3)] 0), (2, .pt 0 0)], [(0, .box [.v (.string p1), .v (.int .i64 p2)])]⟩) (C := True) (by kernel_rfl) trivial trivial ?_
  refine AX.seq ?_
  refine AX.reg (its := []) [3] [] (s1 := ⟨[(3, .v (.bool (decide (p2 = p3))))], []⟩) (C := True) (by kernel_rfl) trivial trivial ?_
  refine AX.ret ?_
  refine fin_wk (Wk.forget [3] [] (s' := ⟨[(3, .v (.bool (decide (p2 = p3))))], []⟩) (by kernel_rfl)) ?_
  have hr := Option.some.inj h
  subst hr
  exact ⟨_, Wk.refl _, .inr rfl, ⟨[], by kernel_rfl, trivial, [.v (.bool (decide (p2 = p3)))], by kernel_rfl, by kernel_rfl⟩⟩

theorem s_slices_IndexFunc_si_valued_1_l_L1 (p1 : List (ByteArray × Int)) (p2 : Int) (n : Nat) (g : Int) (out : Int ⊕ Unit) (h : m_slices_IndexFunc_si_valued_1_l_L1 p1 p2 n g = some out) :
    AX Tryz.prog 19 0 (codeAt [1, 0, 1, 1] (bodyOf Tryz.f67)) ((fun g : Int => (⟨[(0, .bs false 2 (List.map enc_si p1)), (1, .fn 110 [.bp [.v (.int .i64 p2)] 0]), (7, .v (.int .i64 (p1.length : Int))), (8, .v (.int .i64 g))], []⟩ : S)) g) (fun ex s => (∃ o : Int, out = Sum.inl o ∧ ex = .ret ∧ s = ⟨[(4, .v (.int .i64 o))], []⟩) ∨ (∃ o : Unit, out = Sum.inr o ∧ ex = .exit 0 ∧ s = ⟨[], []⟩)) := by
  refine AX.wkpost ?_
  refine AX.loop (G := Nat × (Int)) (fun q => (fun g : Int => (⟨[(0, .bs false 2 (List.map enc_si p1)), (1, .fn 110 [.bp [.v (.int .i64 p2)] 0]), (7, .v (.int .i64 (p1.length : Int))), (8, .v (.int .i64 g))], []⟩ : S)) q.2) (fun q => m_slices_IndexFunc_si_valued_1_l_L1 p1 p2 q.1 q.2 = some out) (fun q => q.1) (n, g) h (Wk.refl _) ?_
  clear h
  rintro ⟨fu, v3⟩ h
  cases fu with
  | zero => cases h
  | succ fu =>
    rw [m_slices_IndexFunc_si_valued_1_l_L1] at h
    refine AX.seq ?_
    refine AX.reg (its := []) [0, 1, 7, 8, 9] [] (s1 := ⟨[(0, .bs false 2 (List.map enc_si p1)), (1, .fn 110 [.bp [.v (.int .i64 p2)] 0]), (7, .v (.int .i64 (p1.length : Int))), (8, .v (.int .i64 v3)), (9, .v (.bool (decide (v3 < (p1.length : Int)))))], []⟩) (C := True) (by kernel_rfl) trivial trivial ?_
    refine AX.seq ?_
    rcases bool_cases (decide (v3 < (p1.length : Int))) with b1 | b1
    · replace h := cd_t b1 h
      refine AX.condT (decide (v3 < (p1.length : Int))) (by kernel_rfl) b1 ?_
      refine AX.skip ?_
      refine AX.seq ?_
      refine AX.block ?_
      refine AX.seq ?_
      refine AX.reg (its := []) [0, 1, 5, 7, 8] [] (s1 := ⟨[(0, .bs false 2 (List.map enc_si p1)), (1, .fn 110 [.bp [.v (.int .i64 p2)] 0]), (5, .v (.int .i64 v3)), (7, .v (.int .i64 (p1.length : Int))), (8, .v (.int .i64 v3))], []⟩) (C := True) (by kernel_rfl) trivial trivial ?_
      refine AX.seq ?_
      obtain ⟨g2, h⟩ := gd_e h
      obtain ⟨x4, e3, h⟩ := bd_e h
      refine AX.reg (its := [.auto {}, .auto {}, .auto {}, .auto { y := some (.be 2 (enc_si (gt p1 v3)) 0) }, .auto {}, .call 110 [.agg [.v (.string ((gt p1 v3).1)), .v (.int .i64 ((gt p1 v3).2))], .bp [.v (.int .i64 p2)] 0] (handO (rho ([] ++ [])) [] [] ++ []) (callEv [] [] (.v (.bool (decide (((gt p1 v3).2) = p2)))) [])]) [0, 1, 5, 7, 8, 16] [] (s1 := ⟨[(0, .bs false 2 (List.map enc_si p1)), (1, .fn 110 [.bp [.v (.int .i64 p2)] 0]), (5, .v (.int .i64 v3)), (7, .v (.int .i64 (p1.length : Int))), (8, .v (.int .i64 v3)), (16, .v (.bool (decide (((gt p1 v3).2) = p2))))], []⟩) (C := ((0 ≤ v3 ∧ v3 < ((List.map enc_si p1).length : Int)) ∧ (AV.be 2 ((List.map enc_si p1).getD v3.toNat []) 0 = AV.be 2 (enc_si (gt p1 v3)) 0)) ∧ ((([.agg [.v (.string ((gt p1 v3).1)), .v (.int .i64 ((gt p1 v3).2))], .bp [.v (.int .i64 p2)] 0] : List AV) = [.agg [.v (.string ((gt p1 v3).1)), .v (.int .i64 ((gt p1 v3).2))], .bp [.v (.int .i64 p2)] 0]) ∧ True) ∧ True) (by kernel_rfl) ⟨idx_bs enc_si p1 v3 2 g2, ⟨⟨rfl, trivial⟩, trivial⟩⟩ ⟨call_ok (ks := []) (ns := []) (bor := []) (bobjs := []) (s_impl_valued_1_l ((gt p1 v3).1) ((gt p1 v3).2) p2 x4 e3) (.cons (.c1 (.agg (.cons (.same _ (by kernel_rfl) (by kernel_rfl)) (.cons (.same _ (by kernel_rfl) (by kernel_rfl)) (.nil))))) (.cons (.c1 (.bp (.cons (.same _ (by kernel_rfl) (by kernel_rfl)) (.nil)))) (.nil))) (by kernel_rfl) trivial, trivial⟩ ?_
      rcases bool_cases (decide (((gt p1 v3).2) = p2)) with b4 | b4
      · replace h := cd_t b4 h
        refine AX.condT (decide (((gt p1 v3).2) = p2)) (by kernel_rfl) b4 ?_
        refine AX.seq ?_
        refine AX.reg (its := []) [4] [] (s1 := ⟨[(4, .v (.int .i64 v3))], []⟩) (C := True) (by kernel_rfl) trivial trivial ?_
        refine AX.ret ?_
        refine fin_wk (Wk.forget [4] [] (s' := ⟨[(4, .v (.int .i64 v3))], []⟩) (by kernel_rfl)) ?_
        have hr := Option.some.inj h
        subst hr
        exact ⟨_, Wk.refl _, .inl ⟨v3, rfl, rfl, rfl⟩⟩
      · replace h := cd_f b4 h
        refine AX.condF (decide (((gt p1 v3).2) = p2)) (by kernel_rfl) b4 ?_
        refine AX.skip ?_
        refine AX.reg (its := [.auto { raw := true }]) [0, 1, 7, 8] [] (s1 := ⟨[(0, .bs false 2 (List.map enc_si p1)), (1, .fn 110 [.bp [.v (.int .i64 p2)] 0]), (7, .v (.int .i64 (p1.length : Int))), (8, .v (.int .i64 (IntKind.wrap .i64 (v3 + 1))))], []⟩) (C := True) (by kernel_rfl) trivial trivial ?_
        refine ⟨(fu, IntKind.wrap .i64 (v3 + 1)), h, Nat.lt_succ_self _, ?_⟩
        refine Wk.trans (Wk.forget [0, 1, 7, 8] [] (s' := ⟨[(0, .bs false 2 (List.map enc_si p1)), (1, .fn 110 [.bp [.v (.int .i64 p2)] 0]), (7, .v (.int .i64 (p1.length : Int))), (8, .v (.int .i64 (IntKind.wrap .i64 (v3 + 1))))], []⟩) (by kernel_rfl)) ?_
        exact Wk.refl _
    · replace h := cd_f b1 h
      refine AX.condF (decide (v3 < (p1.length : Int))) (by kernel_rfl) b1 ?_
      refine AX.exit ?_
      refine fin_wk (Wk.forget [] [] (s' := ⟨[], []⟩) (by kernel_rfl)) ?_
      have hr := Option.some.inj h
      subst hr
      exact ⟨_, Wk.refl _, .inr ⟨(), rfl, rfl, rfl⟩⟩

theorem s_slices_IndexFunc_si_valued_1_l (p1 : List (ByteArray × Int)) (p2 : Int) (r : Int) (h : m_slices_IndexFunc_si_valued_1_l p1 p2 = some r) :
    Eng.Spec Tryz.prog 67 [.bs false 2 (List.map enc_si p1), .fn 110 [.bp [.v (.int .i64 p2)] 0]] [] (.v (.int .i64 r)) [] := by
  unfold m_slices_IndexFunc_si_valued_1_l at h
  refine Eng.Spec.body Tryz.func67 (by kernel_rfl) rfl (by kernel_rfl) ?_
  refine AX.wkpost ?_
  refine AX.seq ?_
  refine AX.reg (its := []) [0, 1] [] (s1 := ⟨[(0, .bs false 2 (List.map enc_si p1)), (1, .fn 110 [.bp [.v (.int .i64 p2)] 0])], []⟩) (C := True) (by kernel_rfl) trivial trivial ?_
  refine AX.seq ?_
  refine AX.seq ?_
  refine AX.reg (its := [.auto {}, .auto { y := some (.v (.int .i64 (p1.length : Int))) }]) [0, 1, 7, 8] [] (s1 := ⟨[(0, .bs false 2 (List.map enc_si p1)), (1, .fn 110 [.bp [.v (.int .i64 p2)] 0]), (7, .v (.int .i64 (p1.length : Int))), (8, .v (.int .i64 0))], []⟩) (C := (True ∧ (AV.v (.int .i64 ((List.map enc_si p1).length : Int)) = AV.v (.int .i64 (p1.length : Int)))) ∧ True) (by kernel_rfl) ⟨⟨trivial, len_map enc_si p1⟩, trivial⟩ trivial ?_
  refine AX.block ?_
  obtain ⟨x5, e5, h⟩ := bd_e h
  refine AX.wk (Wk.forget [0, 1, 7, 8] [] (s' := ⟨[(0, .bs false 2 (List.map enc_si p1)), (1, .fn 110 [.bp [.v (.int .i64 p2)] 0]), (7, .v (.int .i64 (p1.length : Int))), (8, .v (.int .i64 0))], []⟩) (by kernel_rfl)) ?_
  refine AX.mono (s_slices_IndexFunc_si_valued_1_l_L1 p1 p2 FU 0 x5 e5) ?_
  rintro _ _ (⟨x6, rfl, rfl, rfl⟩ | ⟨x7, rfl, rfl, rfl⟩)
  · replace h := sm_l h
    refine fin_wk (Wk.forget [4] [] (s' := ⟨[(4, .v (.int .i64 x6))], []⟩) (by kernel_rfl)) ?_
    have hr := Option.some.inj h
    subst hr
    exact ⟨_, Wk.refl _, .inr rfl, ⟨[], by kernel_rfl, trivial, [.v (.int .i64 x6)], by kernel_rfl, by kernel_rfl⟩⟩
  · replace h := sm_r h
    refine AX.seq ?_
    refine AX.reg (its := []) [4] [] (s1 := ⟨[(4, .v (.int .i64 (-1)))], []⟩) (C := True) (by kernel_rfl) trivial trivial ?_
    refine AX.ret ?_
    refine fin_wk (Wk.forget [4] [] (s' := ⟨[(4, .v (.int .i64 (-1)))], []⟩) (by kernel_rfl)) ?_
    have hr := Option.some.inj h
    subst hr
    exact ⟨_, Wk.refl _, .inr rfl, ⟨[], by kernel_rfl, trivial, [.v (.int .i64 (-1))], by kernel_rfl, by kernel_rfl⟩⟩

theorem s_impl_valued (p1 : List (ByteArray × Int)) (p2 : Int) (r : Int) (h : m_impl_valued p1 p2 = some r) :
    Eng.Spec Tryz.prog 76 [.bs false 2 (List.map enc_si p1), .v (.int .i64 p2)] [] (.v (.int .i64 r)) [] := by
  unfold m_impl_valued at h
  refine Eng.Spec.body Tryz.func76 (by kernel_rfl) rfl (by kernel_rfl) ?_
  refine AX.wkpost ?_
  refine AX.seq ?_
  refine AX.reg (its := [.auto { nk := 0 }]) [0, 3] [0] (s1 := ⟨[(0, .bs false 2 (List.map enc_si p1)), (3, .pt 0 0)], [(0, .box [.v (.int .i64 p2)])]⟩) (C := True) (by kernel_rfl) trivial trivial ?_
  refine AX.seq ?_
  obtain ⟨x3, e1, h⟩ := bd_e h
  refine AX.reg (its := [.auto {}, .auto {}, .call 67 [.bs false 2 (List.map enc_si p1), .fn 110 [.pt 0 0]] (handO (rho ([] ++ [])) [] [] ++ [(0, .box [.v (.int .i64 p2)])]) (callEv [] [] (.v (.int .i64 x3)) [])]) [4] [] (s1 := ⟨[(4, .v (.int .i64 x3))], []⟩) (C := ((([.bs false 2 (List.map enc_si p1), .fn 110 [.pt 0 0]] : List AV) = [.bs false 2 (List.map enc_si p1), .fn 110 [.pt 0 0]]) ∧ (AO.box [.v (.int .i64 p2)] = AO.box [.v (.int .i64 p2)]) ∧ True) ∧ True) (by kernel_rfl) ⟨⟨rfl, rfl, trivial⟩, trivial⟩ ⟨call_ok (ks := []) (ns := []) (bor := [0]) (bobjs := [(0, .box [.v (.int .i64 p2)])]) (s_slices_IndexFunc_si_valued_1_l p1 p2 x3 e1) (.cons (.c1 (.c0 (.same _ (by kernel_rfl) (by kernel_rfl)))) (.cons (.fn (.cons (.box rfl rfl (.cons (.same _ (by kernel_rfl) (by kernel_rfl)) (.nil))) (.nil))) (.nil))) (by kernel_rfl) trivial, trivial⟩ ?_
  refine AX.ret ?_
  refine fin_wk (Wk.forget [4] [] (s' := ⟨[(4, .v (.int .i64 x3))], []⟩) (by kernel_rfl)) ?_
  have hr := Option.some.inj h
  subst hr
  exact ⟨_, Wk.refl _, .inr rfl, ⟨[], by kernel_rfl, trivial, [.v (.int .i64 x3)], by kernel_rfl, by kernel_rfl⟩⟩

theorem s_impl_Flag_show (p1 : List (ByteArray × Int)) (p2 : Int) (p3 : List (ByteArray)) (p4 : Int) (r : ByteArray) (h : m_impl_Flag_show p1 p2 p3 p4 = some r) :
    Eng.Spec Tryz.prog 38 [.agg [.bs false 2 (List.map enc_si p1), .v (.int .i64 p2)], .bs false 1 (List.map enc_s p3), .v (.int .i64 p4)] [] (.v (.string r)) [] := by
  unfold m_impl_Flag_show at h
  refine Eng.Spec.body Tryz.func38 (by kernel_rfl) rfl (by kernel_rfl) ?_
  refine AX.wkpost ?_
  refine AX.seq ?_
  refine AX.reg (its := [.auto { nk := 0 }]) [1, 2, 3] [0] (s1 := ⟨[(1, .bs false 1 (List.map enc_s p3)), (2, .v (.int .i64 p4)), (3, .pt 0 0)], [(0, .box [.bs false 2 (List.map enc_si p1), .v (.int .i64 p2)])]⟩) (C := True) (by kernel_rfl) trivial trivial ?_
  refine AX.seq ?_
  obtain ⟨x5, e1, h⟩ := bd_e h
  refine AX.reg (its := [.auto {}, .call 75 [.bs false 1 (List.map enc_s p3)] (handO (rho ([] ++ [1])) [] [] ++ []) (callEv [] [1] (.sl 0 0 x5.length) [.arr 1 (List.map enc_s x5)])]) [2, 3, 7] [0, 1] (s1 := ⟨[(2, .v (.int .i64 p4)), (3, .pt 0 0), (7, .sl 1 0 x5.length)], [(0, .box [.bs false 2 (List.map enc_si p1), .v (.int .i64 p2)]), (1, .arr 1 (List.map enc_s x5))]⟩) (C := ((([.bs false 1 (List.map enc_s p3)] : List AV) = [.bs false 1 (List.map enc_s p3)]) ∧ True) ∧ True) (by kernel_rfl) ⟨⟨rfl, trivial⟩, trivial⟩ ⟨call_ok (ks := []) (ns := [1]) (bor := []) (bobjs := []) (s_slices_Clone_s p3 x5 e1) (.cons (.c1 (.c0 (.same _ (by kernel_rfl) (by kernel_rfl)))) (.nil)) (by kernel_rfl) trivial, trivial⟩ ?_
  refine AX.seq ?_
  refine AX.seq ?_
  refine AX.reg (its := []) [2, 3, 7, 12] [0, 1] (s1 := ⟨[(2, .v (.int .i64 p4)), (3, .pt 0 0), (7, .sl 1 0 x5.length), (12, .v (.bool (!decide (p4 = 0))))], [(0, .box [.bs false 2 (List.map enc_si p1), .v (.int .i64 p2)]), (1, .arr 1 (List.map enc_s x5))]⟩) (C := True) (by kernel_rfl) trivial trivial ?_
  rcases bool_cases ((!decide (p4 = 0))) with b2 | b2
  · replace h := cd_t b2 h
    refine AX.condT ((!decide (p4 = 0))) (by kernel_rfl) b2 ?_
    obtain ⟨x6, e3, h⟩ := bd_e h
    obtain ⟨g4, h⟩ := gd_e h
    refine AX.reg (its := [.auto {}, .auto {}, .call 70 [.v (.int .i64 p4)] (handO (rho ([] ++ [])) [] [] ++ []) (callEv [] [] (.v (.string x6)) []), .auto { nk := 2 }, .auto { y := some (.sl 3 0 ((x5 ++ ([x6] : List (ByteArray))).length)), els := some (List.map enc_s x5), els2 := some (List.map enc_s ([x6] : List (ByteArray))), nk := 3 }]) [3, 7] [0, 3] (s1 := ⟨[(3, .pt 0 0), (7, .sl 3 0 ((x5 ++ ([x6] : List (ByteArray))).length))], [(0, .box [.bs false 2 (List.map enc_si p1), .v (.int .i64 p2)]), (3, .arr 1 (List.map enc_s x5 ++ List.map enc_s ([x6] : List (ByteArray))))]⟩) (C := ((([.v (.int .i64 p4)] : List AV) = [.v (.int .i64 p4)]) ∧ True) ∧ ((((((List.map enc_s x5).drop 0).take (x5.length) = List.map enc_s x5) ∧ (((List.map enc_s ([x6] : List (ByteArray))).drop 0).take (([x6] : List (ByteArray)).length) = List.map enc_s ([x6] : List (ByteArray)))) ∧ (List.map enc_s x5).length + (List.map enc_s ([x6] : List (ByteArray))).length ≤ 1099511627776) ∧ (AV.sl 3 0 (List.map enc_s x5 ++ List.map enc_s ([x6] : List (ByteArray))).length = AV.sl 3 0 (x5 ++ ([x6] : List (ByteArray))).length)) ∧ True) (by kernel_rfl) ⟨⟨rfl, trivial⟩, ⟨⟨⟨⟨(dt_all (enc := enc_s) rfl rfl), (dt_all (enc := enc_s) rfl rfl)⟩, (by simp only [List.length_map, List.length_nil, List.length_replicate]; simpa using g4)⟩, sl_len (enc := enc_s) (app_can (enc := enc_s) rfl (rfl))⟩, trivial⟩⟩ ⟨call_ok (ks := []) (ns := []) (bor := []) (bobjs := []) (s_strconv_Itoa p4 x6 e3) (.cons (.c1 (.c0 (.same _ (by kernel_rfl) (by kernel_rfl)))) (.nil)) (by kernel_rfl) trivial, trivial⟩ ?_
    refine AX.seq ?_
    refine AX.seq ?_
    obtain ⟨v7, q5, h⟩ := nm_e h
    refine AX.reg (its := [.auto {}, .auto {}, .auto { y := some (.v (.bool v7)) }]) [3, 7, 20] [0, 3] (s1 := ⟨[(3, .pt 0 0), (7, .sl 3 0 ((x5 ++ ([x6] : List (ByteArray))).length)), (20, .v (.bool v7))], [(0, .box [.bs false 2 (List.map enc_si p1), .v (.int .i64 p2)]), (3, .arr 1 (List.map enc_s x5 ++ List.map enc_s ([x6] : List (ByteArray))))]⟩) (C := ((True) ∧ ((.v (.bool (decide (0 < ((x5 ++ ([x6] : List (ByteArray))).length : Int)))) : AV) = (.v (.bool v7) : AV))) ∧ True) (by kernel_rfl) ⟨⟨trivial, (congrArg (fun z => AV.v (.bool z)) q5)⟩, trivial⟩ trivial ?_
    rcases bool_cases (v7) with b6 | b6
    · replace h := cd_t b6 h
      refine AX.condT (v7) (by kernel_rfl) b6 ?_
      refine AX.seq ?_
      obtain ⟨x8, e7, h⟩ := bd_e h
      refine AX.reg (its := [.auto {}, .call 53 [.sl 3 0 ((x5 ++ ([x6] : List (ByteArray))).length), .v (.string (ByteArray.mk #[124]))] (handO (rho ([] ++ [])) [] [] ++ [(3, .arr 1 (List.map enc_s (x5 ++ ([x6] : List (ByteArray)))))]) (callEv [] [] (.v (.string x8)) [])]) [6] [] (s1 := ⟨[(6, .v (.string x8))], []⟩) (C := ((([.sl 3 0 ((x5 ++ ([x6] : List (ByteArray))).length), .v (.string (ByteArray.mk #[124]))] : List AV) = [.sl 3 0 ((x5 ++ ([x6] : List (ByteArray))).length), .v (.string (ByteArray.mk #[124]))]) ∧ (AO.arr 1 (List.map enc_s x5 ++ List.map enc_s ([x6] : List (ByteArray))) = AO.arr 1 (List.map enc_s (x5 ++ ([x6] : List (ByteArray))))) ∧ True) ∧ True) (by kernel_rfl) ⟨⟨rfl, arr_eq (app_can (enc := enc_s) rfl (rfl) : List.map enc_s x5 ++ List.map enc_s ([x6] : List (ByteArray)) = List.map enc_s (x5 ++ ([x6] : List (ByteArray)))), trivial⟩, trivial⟩ ⟨call_ok (ks := []) (ns := []) (bor := [3]) (bobjs := [(3, .arr 1 (List.map enc_s (x5 ++ ([x6] : List (ByteArray)))))]) (s_strings_Join (x5 ++ ([x6] : List (ByteArray))) (ByteArray.mk #[124]) x8 e7) (.cons (.c1 (.c0 (.arr rfl rfl ((rfl).trans (List.length_map ..).symm)))) (.cons (.c1 (.c0 (.same _ (by kernel_rfl) (by kernel_rfl)))) (.nil))) (by kernel_rfl) trivial, trivial⟩ ?_
      refine AX.ret ?_
      refine fin_wk (Wk.forget [6] [] (s' := ⟨[(6, .v (.string x8))], []⟩) (by kernel_rfl)) ?_
      have hr := Option.some.inj h
      subst hr
      exact ⟨_, Wk.refl _, .inr rfl, ⟨[], by kernel_rfl, trivial, [.v (.string x8)], by kernel_rfl, by kernel_rfl⟩⟩
    · replace h := cd_f b6 h
      refine AX.condF (v7) (by kernel_rfl) b6 ?_
      refine AX.skip ?_
      refine AX.seq ?_
      refine AX.seq ?_
      obtain ⟨x9, e8, h⟩ := bd_e h
      refine AX.reg (its := [.auto {}, .auto {}, .call 76 [.bs false 2 (List.map enc_si p1), .v (.int .i64 0)] (handO (rho ([] ++ [])) [] [] ++ []) (callEv [] [] (.v (.int .i64 x9)) [])]) [3, 8] [0] (s1 := ⟨[(3, .pt 0 0), (8, .v (.int .i64 x9))], [(0, .box [.bs false 2 (List.map enc_si p1), .v (.int .i64 p2)])]⟩) (C := ((([.bs false 2 (List.map enc_si p1), .v (.int .i64 0)] : List AV) = [.bs false 2 (List.map enc_si p1), .v (.int .i64 0)]) ∧ True) ∧ True) (by kernel_rfl) ⟨⟨rfl, trivial⟩, trivial⟩ ⟨call_ok (ks := []) (ns := []) (bor := []) (bobjs := []) (s_impl_valued p1 0 x9 e8) (.cons (.c1 (.c0 (.same _ (by kernel_rfl) (by kernel_rfl)))) (.cons (.c1 (.c0 (.same _ (by kernel_rfl) (by kernel_rfl)))) (.nil))) (by kernel_rfl) trivial, trivial⟩ ?_
      refine AX.seq ?_
      refine AX.reg (its := []) [3, 8, 27] [0] (s1 := ⟨[(3, .pt 0 0), (8, .v (.int .i64 x9)), (27, .v (.bool (decide (0 ≤ x9))))], [(0, .box [.bs false 2 (List.map enc_si p1), .v (.int .i64 p2)])]⟩) (C := True) (by kernel_rfl) trivial trivial ?_
      rcases bool_cases (decide (0 ≤ x9)) with b9 | b9
      · replace h := cd_t b9 h
        refine AX.condT (decide (0 ≤ x9)) (by kernel_rfl) b9 ?_
        refine AX.seq ?_
        obtain ⟨g10, h⟩ := gd_e h
        refine AX.reg (its := [.auto {}, .auto {}, .auto {}, .auto { y := some (.be 2 (enc_si (gt p1 x9)) 0) }]) [6] [] (s1 := ⟨[(6, .v (.string ((gt p1 x9).1)))], []⟩) (C := ((0 ≤ x9 ∧ x9 < ((List.map enc_si p1).length : Int)) ∧ (AV.be 2 ((List.map enc_si p1).getD x9.toNat []) 0 = AV.be 2 (enc_si (gt p1 x9)) 0)) ∧ True) (by kernel_rfl) ⟨idx_bs enc_si p1 x9 2 g10, trivial⟩ trivial ?_
        refine AX.ret ?_
        refine fin_wk (Wk.forget [6] [] (s' := ⟨[(6, .v (.string ((gt p1 x9).1)))], []⟩) (by kernel_rfl)) ?_
        have hr := Option.some.inj h
        subst hr
        exact ⟨_, Wk.refl _, .inr rfl, ⟨[], by kernel_rfl, trivial, [.v (.string ((gt p1 x9).1))], by kernel_rfl, by kernel_rfl⟩⟩
      · replace h := cd_f b9 h
        refine AX.condF (decide (0 ≤ x9)) (by kernel_rfl) b9 ?_
        refine AX.skip ?_
        refine AX.seq ?_
        refine AX.reg (its := []) [6] [] (s1 := ⟨[(6, .v (.string (ByteArray.mk #[48])))], []⟩) (C := True) (by kernel_rfl) trivial trivial ?_
        refine AX.ret ?_
        refine fin_wk (Wk.forget [6] [] (s' := ⟨[(6, .v (.string (ByteArray.mk #[48])))], []⟩) (by kernel_rfl)) ?_
        have hr := Option.some.inj h
        subst hr
        exact ⟨_, Wk.refl _, .inr rfl, ⟨[], by kernel_rfl, trivial, [.v (.string (ByteArray.mk #[48]))], by kernel_rfl, by kernel_rfl⟩⟩
  · replace h := cd_f b2 h
    refine AX.condF ((!decide (p4 = 0))) (by kernel_rfl) b2 ?_
    refine AX.skip ?_
    refine AX.seq ?_
    refine AX.seq ?_
    refine AX.reg (its := []) [3, 7, 20] [0, 1] (s1 := ⟨[(3, .pt 0 0), (7, .sl 1 0 x5.length), (20, .v (.bool (decide (0 < (x5.length : Int)))))], [(0, .box [.bs false 2 (List.map enc_si p1), .v (.int .i64 p2)]), (1, .arr 1 (List.map enc_s x5))]⟩) (C := True) (by kernel_rfl) trivial trivial ?_
    rcases bool_cases (decide (0 < (x5.length : Int))) with b11 | b11
    · replace h := cd_t b11 h
      refine AX.condT (decide (0 < (x5.length : Int))) (by kernel_rfl) b11 ?_
      refine AX.seq ?_
      obtain ⟨x10, e12, h⟩ := bd_e h
      refine AX.reg (its := [.auto {}, .call 53 [.sl 1 0 x5.length, .v (.string (ByteArray.mk #[124]))] (handO (rho ([] ++ [])) [] [] ++ [(1, .arr 1 (List.map enc_s x5))]) (callEv [] [] (.v (.string x10)) [])]) [6] [] (s1 := ⟨[(6, .v (.string x10))], []⟩) (C := ((([.sl 1 0 x5.length, .v (.string (ByteArray.mk #[124]))] : List AV) = [.sl 1 0 x5.length, .v (.string (ByteArray.mk #[124]))]) ∧ (AO.arr 1 (List.map enc_s x5) = AO.arr 1 (List.map enc_s x5)) ∧ True) ∧ True) (by kernel_rfl) ⟨⟨rfl, rfl, trivial⟩, trivial⟩ ⟨call_ok (ks := []) (ns := []) (bor := [1]) (bobjs := [(1, .arr 1 (List.map enc_s x5))]) (s_strings_Join x5 (ByteArray.mk #[124]) x10 e12) (.cons (.c1 (.c0 (.arr rfl rfl ((rfl).trans (List.length_map ..).symm)))) (.cons (.c1 (.c0 (.same _ (by kernel_rfl) (by kernel_rfl)))) (.nil))) (by kernel_rfl) trivial, trivial⟩ ?_
      refine AX.ret ?_
      refine fin_wk (Wk.forget [6] [] (s' := ⟨[(6, .v (.string x10))], []⟩) (by kernel_rfl)) ?_
      have hr := Option.some.inj h
      subst hr
      exact ⟨_, Wk.refl _, .inr rfl, ⟨[], by kernel_rfl, trivial, [.v (.string x10)], by kernel_rfl, by kernel_rfl⟩⟩
    · replace h := cd_f b11 h
      refine AX.condF (decide (0 < (x5.length : Int))) (by kernel_rfl) b11 ?_
      refine AX.skip ?_
      refine AX.seq ?_
      refine AX.seq ?_
      obtain ⟨x11, e13, h⟩ := bd_e h
      refine AX.reg (its := [.auto {}, .auto {}, .call 76 [.bs false 2 (List.map enc_si p1), .v (.int .i64 0)] (handO (rho ([] ++ [])) [] [] ++ []) (callEv [] [] (.v (.int .i64 x11)) [])]) [3, 8] [0] (s1 := ⟨[(3, .pt 0 0), (8, .v (.int .i64 x11))], [(0, .box [.bs false 2 (List.map enc_si p1), .v (.int .i64 p2)])]⟩) (C := ((([.bs false 2 (List.map enc_si p1), .v (.int .i64 0)] : List AV) = [.bs false 2 (List.map enc_si p1), .v (.int .i64 0)]) ∧ True) ∧ True) (by kernel_rfl) ⟨⟨rfl, trivial⟩, trivial⟩ ⟨call_ok (ks := []) (ns := []) (bor := []) (bobjs := []) (s_impl_valued p1 0 x11 e13) (.cons (.c1 (.c0 (.same _ (by kernel_rfl) (by kernel_rfl)))) (.cons (.c1 (.c0 (.same _ (by kernel_rfl) (by kernel_rfl)))) (.nil))) (by kernel_rfl) trivial, trivial⟩ ?_
      refine AX.seq ?_
      refine AX.reg (its := []) [3, 8, 27] [0] (s1 := ⟨[(3, .pt 0 0), (8, .v (.int .i64 x11)), (27, .v (.bool (decide (0 ≤ x11))))], [(0, .box [.bs false 2 (List.map enc_si p1), .v (.int .i64 p2)])]⟩) (C := True) (by kernel_rfl) trivial trivial ?_
      rcases bool_cases (decide (0 ≤ x11)) with b14 | b14
      · replace h := cd_t b14 h
        refine AX.condT (decide (0 ≤ x11)) (by kernel_rfl) b14 ?_
        refine AX.seq ?_
        obtain ⟨g15, h⟩ := gd_e h
        refine AX.reg (its := [.auto {}, .auto {}, .auto {}, .auto { y := some (.be 2 (enc_si (gt p1 x11)) 0) }]) [6] [] (s1 := ⟨[(6, .v (.string ((gt p1 x11).1)))], []⟩) (C := ((0 ≤ x11 ∧ x11 < ((List.map enc_si p1).length : Int)) ∧ (AV.be 2 ((List.map enc_si p1).getD x11.toNat []) 0 = AV.be 2 (enc_si (gt p1 x11)) 0)) ∧ True) (by kernel_rfl) ⟨idx_bs enc_si p1 x11 2 g15, trivial⟩ trivial ?_
        refine AX.ret ?_
        refine fin_wk (Wk.forget [6] [] (s' := ⟨[(6, .v (.string ((gt p1 x11).1)))], []⟩) (by kernel_rfl)) ?_
        have hr := Option.some.inj h
        subst hr
        exact ⟨_, Wk.refl _, .inr rfl, ⟨[], by kernel_rfl, trivial, [.v (.string ((gt p1 x11).1))], by kernel_rfl, by kernel_rfl⟩⟩
      · replace h := cd_f b14 h
        refine AX.condF (decide (0 ≤ x11)) (by kernel_rfl) b14 ?_
        refine AX.skip ?_
        refine AX.seq ?_
        refine AX.reg (its := []) [6] [] (s1 := ⟨[(6, .v (.string (ByteArray.mk #[48])))], []⟩) (C := True) (by kernel_rfl) trivial trivial ?_
        refine AX.ret ?_
        refine fin_wk (Wk.forget [6] [] (s' := ⟨[(6, .v (.string (ByteArray.mk #[48])))], []⟩) (by kernel_rfl)) ?_
        have hr := Option.some.inj h
        subst hr
        exact ⟨_, Wk.refl _, .inr rfl, ⟨[], by kernel_rfl, trivial, [.v (.string (ByteArray.mk #[48]))], by kernel_rfl, by kernel_rfl⟩⟩

theorem s_impl_ShowShort (p1 : List (ByteArray × Int)) (p2 : Int) (p3 : Int) (r : ByteArray) (h : m_impl_ShowShort p1 p2 p3 = some r) :
    Eng.Spec Tryz.prog 15 [.agg [.bs false 2 (List.map enc_si p1), .v (.int .i64 p2)], .v (.int .i64 p3)] [] (.v (.string r)) [] := by
  unfold m_impl_ShowShort at h
  refine Eng.Spec.body Tryz.func15 (by kernel_rfl) rfl (by kernel_rfl) ?_
  refine AX.wkpost ?_
  refine AX.seq ?_
  refine AX.reg (its := [.auto { nk := 0 }]) [1, 2] [0] (s1 := ⟨[(1, .v (.int .i64 p3)), (2, .pt 0 0)], [(0, .box [.bs false 2 (List.map enc_si p1), .v (.int .i64 p2)])]⟩) (C := True) (by kernel_rfl) trivial trivial ?_
  refine AX.seq ?_
  refine AX.seq ?_
  obtain ⟨x4, e1, h⟩ := bd_e h
  refine AX.reg (its := [.auto {}, .auto {}, .call 11 [.agg [.bs false 2 (List.map enc_si p1), .v (.int .i64 p2)], .v (.int .i64 p3)] (handO (rho ([] ++ [])) [] [] ++ []) (callEv [] [] (.v (.bool x4)) [])]) [1, 2, 9] [0] (s1 := ⟨[(1, .v (.int .i64 p3)), (2, .pt 0 0), (9, .v (.bool (!x4)))], [(0, .box [.bs false 2 (List.map enc_si p1), .v (.int .i64 p2)])]⟩) (C := ((([.agg [.bs false 2 (List.map enc_si p1), .v (.int .i64 p2)], .v (.int .i64 p3)] : List AV) = [.agg [.bs false 2 (List.map enc_si p1), .v (.int .i64 p2)], .v (.int .i64 p3)]) ∧ True) ∧ True) (by kernel_rfl) ⟨⟨rfl, trivial⟩, trivial⟩ ⟨call_ok (ks := []) (ns := []) (bor := []) (bobjs := []) (s_impl_IsValue p1 p2 p3 x4 e1) (.cons (.c1 (.agg (.cons (.same _ (by kernel_rfl) (by kernel_rfl)) (.cons (.same _ (by kernel_rfl) (by kernel_rfl)) (.nil))))) (.cons (.c1 (.c0 (.same _ (by kernel_rfl) (by kernel_rfl)))) (.nil))) (by kernel_rfl) trivial, trivial⟩ ?_
  rcases bool_cases ((!x4)) with b2 | b2
  · replace h := cd_t b2 h
    refine AX.condT ((!x4)) (by kernel_rfl) b2 ?_
    refine AX.seq ?_
    refine AX.reg (its := []) [4] [] (s1 := ⟨[(4, .v (.string ByteArray.empty))], []⟩) (C := True) (by kernel_rfl) trivial trivial ?_
    refine AX.ret ?_
    refine fin_wk (Wk.forget [4] [] (s' := ⟨[(4, .v (.string ByteArray.empty))], []⟩) (by kernel_rfl)) ?_
    have hr := Option.some.inj h
    subst hr
    exact ⟨_, Wk.refl _, .inr rfl, ⟨[], by kernel_rfl, trivial, [.v (.string ByteArray.empty)], by kernel_rfl, by kernel_rfl⟩⟩
  · replace h := cd_f b2 h
    refine AX.condF ((!x4)) (by kernel_rfl) b2 ?_
    refine AX.skip ?_
    refine AX.seq ?_
    obtain ⟨x5, e3, h⟩ := bd_e h
    refine AX.reg (its := [.auto {}, .auto {}, .call 41 [.agg [.bs false 2 (List.map enc_si p1), .v (.int .i64 p2)], .v (.int .i64 p3)] (handO (rho ([] ++ [1])) [] [] ++ []) (callEv [] [1] (.sl 0 0 x5.length) [.arr 2 (List.map enc_si x5)])]) [1, 2, 5] [0, 1] (s1 := ⟨[(1, .v (.int .i64 p3)), (2, .pt 0 0), (5, .sl 1 0 x5.length)], [(0, .box [.bs false 2 (List.map enc_si p1), .v (.int .i64 p2)]), (1, .arr 2 (List.map enc_si x5))]⟩) (C := ((([.agg [.bs false 2 (List.map enc_si p1), .v (.int .i64 p2)], .v (.int .i64 p3)] : List AV) = [.agg [.bs false 2 (List.map enc_si p1), .v (.int .i64 p2)], .v (.int .i64 p3)]) ∧ True) ∧ True) (by kernel_rfl) ⟨⟨rfl, trivial⟩, trivial⟩ ⟨call_ok (ks := []) (ns := [1]) (bor := []) (bobjs := []) (s_impl_Flag_short p1 p2 p3 x5 e3) (.cons (.c1 (.agg (.cons (.same _ (by kernel_rfl) (by kernel_rfl)) (.cons (.same _ (by kernel_rfl) (by kernel_rfl)) (.nil))))) (.cons (.c1 (.c0 (.same _ (by kernel_rfl) (by kernel_rfl)))) (.nil))) (by kernel_rfl) trivial, trivial⟩ ?_
    refine AX.seq ?_
    obtain ⟨x6, e4, h⟩ := bd_e h
    obtain ⟨x7, e5, h⟩ := bd_e h
    obtain ⟨x8, e6, h⟩ := bd_e h
    refine AX.drw mixed (its := [.auto {}, .auto {}, .call 42 [.sl 1 0 x5.length, .fn 43 []] (handO (rho ([] ++ [2])) [] [] ++ [(1, .arr 2 (List.map enc_si x5))]) (callEv [] [2] (.sl 0 0 x6.length) [.arr 1 (List.map enc_s x6)]), .auto {}, .auto {}, .call 44 [.sl 1 0 x5.length] (handO (rho ([] ++ [])) [] [] ++ [(1, .arr 2 (List.map enc_si x5))]) (callEv [] [] (.v (.int .i64 x7)) []), .auto {}, .call 38 [.agg [.bs false 2 (List.map enc_si p1), .v (.int .i64 p2)], .sl 2 0 x6.length, .v (.int .i64 (Go.bits .andNot .i64 p3 x7))] (handO (rho ([] ++ [])) [] [] ++ [(2, .arr 1 (List.map enc_s x6))]) (callEv [] [] (.v (.string x8)) [])]) [4] [] (s1 := ⟨[(4, .v (.string x8))], []⟩) (C := ((([.sl 1 0 x5.length, .fn 43 []] : List AV) = [.sl 1 0 x5.length, .fn 43 []]) ∧ (AO.arr 2 (List.map enc_si x5) = AO.arr 2 (List.map enc_si x5)) ∧ True) ∧ ((([.sl 1 0 x5.length] : List AV) = [.sl 1 0 x5.length]) ∧ (AO.arr 2 (List.map enc_si x5) = AO.arr 2 (List.map enc_si x5)) ∧ True) ∧ ((([.agg [.bs false 2 (List.map enc_si p1), .v (.int .i64 p2)], .sl 2 0 x6.length, .v (.int .i64 (Go.bits .andNot .i64 p3 x7))] : List AV) = [.agg [.bs false 2 (List.map enc_si p1), .v (.int .i64 p2)], .sl 2 0 x6.length, .v (.int .i64 (Go.bits .andNot .i64 p3 x7))]) ∧ (AO.arr 1 (List.map enc_s x6) = AO.arr 1 (List.map enc_s x6)) ∧ True) ∧ True) (by kernel_rfl) ⟨⟨rfl, rfl, trivial⟩, ⟨⟨rfl, rfl, trivial⟩, ⟨⟨rfl, rfl, trivial⟩, trivial⟩⟩⟩ ⟨call_ok (ks := []) (ns := [2]) (bor := [1]) (bobjs := [(1, .arr 2 (List.map enc_si x5))]) (s_impl_names_anyDef x5 x6 e4) (.cons (.c1 (.c0 (.arr rfl rfl ((rfl).trans (List.length_map ..).symm)))) (.cons (.fn (.nil)) (.nil))) (by kernel_rfl) trivial, ⟨call_ok (ks := []) (ns := []) (bor := [1]) (bobjs := [(1, .arr 2 (List.map enc_si x5))]) (s_impl_together x5 x7 e5) (.cons (.c1 (.c0 (.arr rfl rfl ((rfl).trans (List.length_map ..).symm)))) (.nil)) (by kernel_rfl) trivial, ⟨call_ok (ks := []) (ns := []) (bor := [2]) (bobjs := [(2, .arr 1 (List.map enc_s x6))]) (s_impl_Flag_show p1 p2 x6 (Go.bits .andNot .i64 p3 x7) x8 e6) (.cons (.c1 (.agg (.cons (.same _ (by kernel_rfl) (by kernel_rfl)) (.cons (.same _ (by kernel_rfl) (by kernel_rfl)) (.nil))))) (.cons (.c1 (.c0 (.arr rfl rfl ((rfl).trans (List.length_map ..).symm)))) (.cons (.c1 (.c0 (.same _ (by kernel_rfl) (by kernel_rfl)))) (.nil)))) (by kernel_rfl) trivial, trivial⟩⟩⟩ ?_
    refine AX.ret ?_
    refine fin_wk (Wk.forget [4] [] (s' := ⟨[(4, .v (.string x8))], []⟩) (by kernel_rfl)) ?_
    have hr := Option.some.inj h
    subst hr
    exact ⟨_, Wk.refl _, .inr rfl, ⟨[], by kernel_rfl, trivial, [.v (.string x8)], by kernel_rfl, by kernel_rfl⟩⟩

theorem s_spec_less (p1 : Int) (p2 : Int) (r : Int) (h : m_spec_less p1 p2 = some r) :
    Eng.Spec Tryz.prog 48 [.v (.int .i64 p1), .v (.int .i64 p2)] [] (.v (.int .i64 r)) [] := by
  unfold m_spec_less at h
  refine Eng.Spec.body Tryz.func48 (by kernel_rfl) rfl (by kernel_rfl) ?_
  refine AX.wkpost ?_
  refine AX.seq ?_
  refine AX.reg (its := []) [0, 1] [] (s1 := ⟨[(0, .v (.int .i64 p1)), (1, .v (.int .i64 p2))], []⟩) (C := True) (by kernel_rfl) trivial trivial ?_
  refine AX.seq ?_
  obtain ⟨x3, e1, h⟩ := bd_e h
  refine AX.reg (its := [.auto {}, .auto {}, .auto {}, .call 85 [.v (.int .i64 p1), .v (.int .i64 p2)] (handO (rho ([] ++ [])) [] [] ++ []) (callEv [] [] (.v (.int .i64 x3)) []), .auto { raw := true }]) [4] [] (s1 := ⟨[(4, .v (.int .i64 (IntKind.wrap .i64 (p1 - x3))))], []⟩) (C := ((([.v (.int .i64 p1), .v (.int .i64 p2)] : List AV) = [.v (.int .i64 p1), .v (.int .i64 p2)]) ∧ True) ∧ True) (by kernel_rfl) ⟨⟨rfl, trivial⟩, trivial⟩ ⟨call_ok (ks := []) (ns := []) (bor := []) (bobjs := []) (s_spec_both p1 p2 x3 e1) (.cons (.c1 (.c0 (.same _ (by kernel_rfl) (by kernel_rfl)))) (.cons (.c1 (.c0 (.same _ (by kernel_rfl) (by kernel_rfl)))) (.nil))) (by kernel_rfl) trivial, trivial⟩ ?_
  refine AX.ret ?_
  refine fin_wk (Wk.forget [4] [] (s' := ⟨[(4, .v (.int .i64 (IntKind.wrap .i64 (p1 - x3))))], []⟩) (by kernel_rfl)) ?_
  have hr := Option.some.inj h
  subst hr
  exact ⟨_, Wk.refl _, .inr rfl, ⟨[], by kernel_rfl, trivial, [.v (.int .i64 (IntKind.wrap .i64 (p1 - x3)))], by kernel_rfl, by kernel_rfl⟩⟩

theorem s_spec_isValue (p1 : List (ByteArray × Int)) (p2 : Int) (p3 : Int) (r : Bool) (h : m_spec_isValue p1 p2 p3 = some r) :
    Eng.Spec Tryz.prog 26 [.agg [.bs false 2 (List.map enc_si p1), .v (.int .i64 p2)], .v (.int .i64 p3)] [] (.v (.bool r)) [] := by
  unfold m_spec_isValue at h
  refine Eng.Spec.body Tryz.func26 (by kernel_rfl) rfl (by kernel_rfl) ?_
  refine AX.wkpost ?_
  refine AX.seq ?_
  refine AX.reg (its := [.auto { nk := 0 }]) [1, 2] [0] (s1 := ⟨[(1, .v (.int .i64 p3)), (2, .pt 0 0)], [(0, .box [.bs false 2 (List.map enc_si p1), .v (.int .i64 p2)])]⟩) (C := True) (by kernel_rfl) trivial trivial ?_
  refine AX.seq ?_
  obtain ⟨x4, e1, h⟩ := bd_e h
  rcases bool_cases (x4) with b2 | b2
  · replace h := cd_t b2 h
    obtain ⟨x5, e3, h⟩ := bd_e h
    rcases bool_cases (x5) with b4 | b4
    · replace h := cd_t b4 h
      rcases bool_cases (decide (p2 = 3)) with b5 | b5
      · replace h := cd_t b5 h
        refine AX.reg (its := [.auto {}, .call 36 [.agg [.bs false 2 (List.map enc_si p1), .v (.int .i64 p2)]] (handO (rho ([] ++ [])) [] [] ++ []) (callEv [] [] (.v (.bool true)) []), .auto {}, .auto {}, .call 60 [.v (.int .i64 p3), .v (.int .i64 0), .v (.int .i64 4095)] (handO (rho ([] ++ [])) [] [] ++ []) (callEv [] [] (.v (.bool true)) []), .auto {}, .auto {}, .auto {}, .auto {}, .auto { y := some (.v (.bool true)) }]) [4] [] (s1 := ⟨[(4, .v (.bool true))], []⟩) (C := ((([.agg [.bs false 2 (List.map enc_si p1), .v (.int .i64 p2)]] : List AV) = [.agg [.bs false 2 (List.map enc_si p1), .v (.int .i64 p2)]]) ∧ True) ∧ ((([.v (.int .i64 p3), .v (.int .i64 0), .v (.int .i64 4095)] : List AV) = [.v (.int .i64 p3), .v (.int .i64 0), .v (.int .i64 4095)]) ∧ True) ∧ ((True) ∧ ((.v (.bool (decide (p2 = 3))) : AV) = (.v (.bool true) : AV))) ∧ True) (by kernel_rfl) ⟨⟨rfl, trivial⟩, ⟨⟨rfl, trivial⟩, ⟨⟨trivial, (congrArg (fun z => AV.v (.bool z)) b5)⟩, trivial⟩⟩⟩ ⟨call_ok (ks := []) (ns := []) (bor := []) (bobjs := []) (show Eng.Spec Tryz.prog 36 [.agg [.bs false 2 (List.map enc_si p1), .v (.int .i64 p2)]] [] (.v (.bool true)) [] from by have q := s_spec_validFlag p1 p2 x4 e1; rw [b2] at q; exact q) (.cons (.c1 (.agg (.cons (.same _ (by kernel_rfl) (by kernel_rfl)) (.cons (.same _ (by kernel_rfl) (by kernel_rfl)) (.nil))))) (.nil)) (by kernel_rfl) trivial, ⟨call_ok (ks := []) (ns := []) (bor := []) (bobjs := []) (show Eng.Spec Tryz.prog 60 [.v (.int .i64 p3), .v (.int .i64 0), .v (.int .i64 4095)] [] (.v (.bool true)) [] from by have q := s_spec_inRange p3 0 4095 x5 e3; rw [b4] at q; exact q) (.cons (.c1 (.c0 (.same _ (by kernel_rfl) (by kernel_rfl)))) (.cons (.c1 (.c0 (.same _ (by kernel_rfl) (by kernel_rfl)))) (.cons (.c1 (.c0 (.same _ (by kernel_rfl) (by kernel_rfl)))) (.nil)))) (by kernel_rfl) trivial, trivial⟩⟩ ?_
        refine AX.ret ?_
        refine fin_wk (Wk.forget [4] [] (s' := ⟨[(4, .v (.bool true))], []⟩) (by kernel_rfl)) ?_
        have hr := Option.some.inj h
        subst hr
        exact ⟨_, Wk.refl _, .inr rfl, ⟨[], by kernel_rfl, trivial, [.v (.bool true)], by kernel_rfl, by kernel_rfl⟩⟩
      · replace h := cd_f b5 h
        obtain ⟨x6, e6, h⟩ := bd_e h
        obtain ⟨x7, e7, h⟩ := bd_e h
        refine AX.reg (its := [.auto {}, .call 36 [.agg [.bs false 2 (List.map enc_si p1), .v (.int .i64 p2)]] (handO (rho ([] ++ [])) [] [] ++ []) (callEv [] [] (.v (.bool true)) []), .auto {}, .auto {}, .call 60 [.v (.int .i64 p3), .v (.int .i64 0), .v (.int .i64 4095)] (handO (rho ([] ++ [])) [] [] ++ []) (callEv [] [] (.v (.bool true)) []), .auto {}, .auto {}, .auto {}, .auto {}, .auto { y := some (.v (.bool false)) }, .auto {}, .auto {}, .auto {}, .auto {}, .call 49 [.bs false 2 (List.map enc_si p1)] (handO (rho ([] ++ [])) [] [] ++ []) (callEv [] [] (.v (.int .i64 x6)) []), .call 48 [.v (.int .i64 p3), .v (.int .i64 x6)] (handO (rho ([] ++ [])) [] [] ++ []) (callEv [] [] (.v (.int .i64 x7)) [])]) [4] [] (s1 := ⟨[(4, .v (.bool (decide (x7 = 0))))], []⟩) (C := ((([.agg [.bs false 2 (List.map enc_si p1), .v (.int .i64 p2)]] : List AV) = [.agg [.bs false 2 (List.map enc_si p1), .v (.int .i64 p2)]]) ∧ True) ∧ ((([.v (.int .i64 p3), .v (.int .i64 0), .v (.int .i64 4095)] : List AV) = [.v (.int .i64 p3), .v (.int .i64 0), .v (.int .i64 4095)]) ∧ True) ∧ ((True) ∧ ((.v (.bool (decide (p2 = 3))) : AV) = (.v (.bool false) : AV))) ∧ ((([.bs false 2 (List.map enc_si p1)] : List AV) = [.bs false 2 (List.map enc_si p1)]) ∧ True) ∧ ((([.v (.int .i64 p3), .v (.int .i64 x6)] : List AV) = [.v (.int .i64 p3), .v (.int .i64 x6)]) ∧ True) ∧ True) (by kernel_rfl) ⟨⟨rfl, trivial⟩, ⟨⟨rfl, trivial⟩, ⟨⟨trivial, (congrArg (fun z => AV.v (.bool z)) b5)⟩, ⟨⟨rfl, trivial⟩, ⟨⟨rfl, trivial⟩, trivial⟩⟩⟩⟩⟩ ⟨call_ok (ks := []) (ns := []) (bor := []) (bobjs := []) (show Eng.Spec Tryz.prog 36 [.agg [.bs false 2 (List.map enc_si p1), .v (.int .i64 p2)]] [] (.v (.bool true)) [] from by have q := s_spec_validFlag p1 p2 x4 e1; rw [b2] at q; exact q) (.cons (.c1 (.agg (.cons (.same _ (by kernel_rfl) (by kernel_rfl)) (.cons (.same _ (by kernel_rfl) (by kernel_rfl)) (.nil))))) (.nil)) (by kernel_rfl) trivial, ⟨call_ok (ks := []) (ns := []) (bor := []) (bobjs := []) (show Eng.Spec Tryz.prog 60 [.v (.int .i64 p3), .v (.int .i64 0), .v (.int .i64 4095)] [] (.v (.bool true)) [] from by have q := s_spec_inRange p3 0 4095 x5 e3; rw [b4] at q; exact q) (.cons (.c1 (.c0 (.same _ (by kernel_rfl) (by kernel_rfl)))) (.cons (.c1 (.c0 (.same _ (by kernel_rfl) (by kernel_rfl)))) (.cons (.c1 (.c0 (.same _ (by kernel_rfl) (by kernel_rfl)))) (.nil)))) (by kernel_rfl) trivial, ⟨call_ok (ks := []) (ns := []) (bor := []) (bobjs := []) (s_spec_mask p1 x6 e6) (.cons (.c1 (.c0 (.same _ (by kernel_rfl) (by kernel_rfl)))) (.nil)) (by kernel_rfl) trivial, ⟨call_ok (ks := []) (ns := []) (bor := []) (bobjs := []) (s_spec_less p3 x6 x7 e7) (.cons (.c1 (.c0 (.same _ (by kernel_rfl) (by kernel_rfl)))) (.cons (.c1 (.c0 (.same _ (by kernel_rfl) (by kernel_rfl)))) (.nil))) (by kernel_rfl) trivial, trivial⟩⟩⟩⟩ ?_
        refine AX.ret ?_
        refine fin_wk (Wk.forget [4] [] (s' := ⟨[(4, .v (.bool (decide (x7 = 0))))], []⟩) (by kernel_rfl)) ?_
        have hr := Option.some.inj h
        subst hr
        exact ⟨_, Wk.refl _, .inr rfl, ⟨[], by kernel_rfl, trivial, [.v (.bool (decide (x7 = 0)))], by kernel_rfl, by kernel_rfl⟩⟩
    · replace h := cd_f b4 h
      refine AX.reg (its := [.auto {}, .call 36 [.agg [.bs false 2 (List.map enc_si p1), .v (.int .i64 p2)]] (handO (rho ([] ++ [])) [] [] ++ []) (callEv [] [] (.v (.bool true)) []), .auto {}, .auto {}, .call 60 [.v (.int .i64 p3), .v (.int .i64 0), .v (.int .i64 4095)] (handO (rho ([] ++ [])) [] [] ++ []) (callEv [] [] (.v (.bool false)) [])]) [4] [] (s1 := ⟨[(4, .v (.bool false))], []⟩) (C := ((([.agg [.bs false 2 (List.map enc_si p1), .v (.int .i64 p2)]] : List AV) = [.agg [.bs false 2 (List.map enc_si p1), .v (.int .i64 p2)]]) ∧ True) ∧ ((([.v (.int .i64 p3), .v (.int .i64 0), .v (.int .i64 4095)] : List AV) = [.v (.int .i64 p3), .v (.int .i64 0), .v (.int .i64 4095)]) ∧ True) ∧ True) (by kernel_rfl) ⟨⟨rfl, trivial⟩, ⟨⟨rfl, trivial⟩, trivial⟩⟩ ⟨call_ok (ks := []) (ns := []) (bor := []) (bobjs := []) (show Eng.Spec Tryz.prog 36 [.agg [.bs false 2 (List.map enc_si p1), .v (.int .i64 p2)]] [] (.v (.bool true)) [] from by have q := s_spec_validFlag p1 p2 x4 e1; rw [b2] at q; exact q) (.cons (.c1 (.agg (.cons (.same _ (by kernel_rfl) (by kernel_rfl)) (.cons (.same _ (by kernel_rfl) (by kernel_rfl)) (.nil))))) (.nil)) (by kernel_rfl) trivial, ⟨call_ok (ks := []) (ns := []) (bor := []) (bobjs := []) (show Eng.Spec Tryz.prog 60 [.v (.int .i64 p3), .v (.int .i64 0), .v (.int .i64 4095)] [] (.v (.bool false)) [] from by have q := s_spec_inRange p3 0 4095 x5 e3; rw [b4] at q; exact q) (.cons (.c1 (.c0 (.same _ (by kernel_rfl) (by kernel_rfl)))) (.cons (.c1 (.c0 (.same _ (by kernel_rfl) (by kernel_rfl)))) (.cons (.c1 (.c0 (.same _ (by kernel_rfl) (by kernel_rfl)))) (.nil)))) (by kernel_rfl) trivial, trivial⟩⟩ ?_
      refine AX.ret ?_
      refine fin_wk (Wk.forget [4] [] (s' := ⟨[(4, .v (.bool false))], []⟩) (by kernel_rfl)) ?_
      have hr := Option.some.inj h
      subst hr
      exact ⟨_, Wk.refl _, .inr rfl, ⟨[], by kernel_rfl, trivial, [.v (.bool false)], by kernel_rfl, by kernel_rfl⟩⟩
  · replace h := cd_f b2 h
    refine AX.reg (its := [.auto {}, .call 36 [.agg [.bs false 2 (List.map enc_si p1), .v (.int .i64 p2)]] (handO (rho ([] ++ [])) [] [] ++ []) (callEv [] [] (.v (.bool false)) [])]) [4] [] (s1 := ⟨[(4, .v (.bool false))], []⟩) (C := ((([.agg [.bs false 2 (List.map enc_si p1), .v (.int .i64 p2)]] : List AV) = [.agg [.bs false 2 (List.map enc_si p1), .v (.int .i64 p2)]]) ∧ True) ∧ True) (by kernel_rfl) ⟨⟨rfl, trivial⟩, trivial⟩ ⟨call_ok (ks := []) (ns := []) (bor := []) (bobjs := []) (show Eng.Spec Tryz.prog 36 [.agg [.bs false 2 (List.map enc_si p1), .v (.int .i64 p2)]] [] (.v (.bool false)) [] from by have q := s_spec_validFlag p1 p2 x4 e1; rw [b2] at q; exact q) (.cons (.c1 (.agg (.cons (.same _ (by kernel_rfl) (by kernel_rfl)) (.cons (.same _ (by kernel_rfl) (by kernel_rfl)) (.nil))))) (.nil)) (by kernel_rfl) trivial, trivial⟩ ?_
    refine AX.ret ?_
    refine fin_wk (Wk.forget [4] [] (s' := ⟨[(4, .v (.bool false))], []⟩) (by kernel_rfl)) ?_
    have hr := Option.some.inj h
    subst hr
    exact ⟨_, Wk.refl _, .inr rfl, ⟨[], by kernel_rfl, trivial, [.v (.bool false)], by kernel_rfl, by kernel_rfl⟩⟩

theorem s_spec_fitting_L1 (p1 : List (ByteArray × Int)) (p2 : Int) (n : Nat) (g : (List (ByteArray × Int)) × Int) (out : List (ByteArray × Int)) (h : m_spec_fitting_L1 p1 p2 n g.1 g.2 = some out) :
    AX Tryz.prog 38 0 (codeAt [1, 1, 0, 1, 1] (bodyOf Tryz.f81)) ((fun g : (List (ByteArray × Int)) × Int => (⟨[(0, .bs false 2 (List.map enc_si p1)), (1, .v (.int .i64 p2)), (5, .sl 0 0 g.1.length), (6, .v (.int .i64 g.2))], [(0, .arr 2 (List.map enc_si g.1))]⟩ : S)) g) (fun ex s => ex = .exit 0 ∧ s = (fun o : List (ByteArray × Int) => (⟨[(5, .sl 0 0 o.length)], [(0, .arr 2 (List.map enc_si o))]⟩ : S)) out) := by
  refine AX.wkpost ?_
  refine AX.loop (G := Nat × ((List (ByteArray × Int)) × Int)) (fun q => (fun g : (List (ByteArray × Int)) × Int => (⟨[(0, .bs false 2 (List.map enc_si p1)), (1, .v (.int .i64 p2)), (5, .sl 0 0 g.1.length), (6, .v (.int .i64 g.2))], [(0, .arr 2 (List.map enc_si g.1))]⟩ : S)) q.2) (fun q => m_spec_fitting_L1 p1 p2 q.1 q.2.1 q.2.2 = some out) (fun q => q.1) (n, g) h (Wk.refl _) ?_
  clear h
  rintro ⟨fu, v3, v4⟩ h
  cases fu with
  | zero => cases h
  | succ fu =>
    rw [m_spec_fitting_L1] at h
    refine AX.seq ?_
    refine AX.seq ?_
    refine AX.reg (its := [.auto {}, .auto {}, .auto { y := some (.v (.int .i64 (p1.length : Int))) }]) [0, 1, 5, 6, 11] [0] (s1 := ⟨[(0, .bs false 2 (List.map enc_si p1)), (1, .v (.int .i64 p2)), (5, .sl 0 0 v3.length), (6, .v (.int .i64 v4)), (11, .v (.bool (decide (v4 < (p1.length : Int)))))], [(0, .arr 2 (List.map enc_si v3))]⟩) (C := (True ∧ (AV.v (.int .i64 ((List.map enc_si p1).length : Int)) = AV.v (.int .i64 (p1.length : Int)))) ∧ True) (by kernel_rfl) ⟨⟨trivial, len_map enc_si p1⟩, trivial⟩ trivial ?_
    rcases bool_cases (decide (v4 < (p1.length : Int))) with b1 | b1
    · replace h := cd_t b1 h
      refine AX.condT (decide (v4 < (p1.length : Int))) (by kernel_rfl) b1 ?_
      refine AX.skip ?_
      refine AX.seq ?_
      refine AX.block ?_
      refine AX.seq ?_
      obtain ⟨g2, h⟩ := gd_e h
      rcases bool_cases (decide (0 < ((gt p1 v4).2))) with b3 | b3
      · replace h := cd_t b3 h
        obtain ⟨x5, e4, h⟩ := bd_e h
        refine AX.reg (its := [.auto {}, .auto {}, .auto { y := some (.be 2 (enc_si (gt p1 v4)) 0) }, .auto {}, .auto {}, .auto { y := some (.v (.bool true)) }, .auto {}, .auto {}, .auto {}, .auto { y := some (.be 2 (enc_si (gt p1 v4)) 0) }, .auto {}, .auto {}, .auto {}, .call 48 [.v (.int .i64 ((gt p1 v4).2)), .v (.int .i64 p2)] (handO (rho ([] ++ [])) [] [] ++ []) (callEv [] [] (.v (.int .i64 x5)) [])]) [0, 1, 5, 6, 29] [0] (s1 := ⟨[(0, .bs false 2 (List.map enc_si p1)), (1, .v (.int .i64 p2)), (5, .sl 0 0 v3.length), (6, .v (.int .i64 v4)), (29, .v (.bool (decide (x5 = 0))))], [(0, .arr 2 (List.map enc_si v3))]⟩) (C := ((0 ≤ v4 ∧ v4 < ((List.map enc_si p1).length : Int)) ∧ (AV.be 2 ((List.map enc_si p1).getD v4.toNat []) 0 = AV.be 2 (enc_si (gt p1 v4)) 0)) ∧ ((True) ∧ ((.v (.bool (decide (0 < ((gt p1 v4).2)))) : AV) = (.v (.bool true) : AV))) ∧ ((0 ≤ v4 ∧ v4 < ((List.map enc_si p1).length : Int)) ∧ (AV.be 2 ((List.map enc_si p1).getD v4.toNat []) 0 = AV.be 2 (enc_si (gt p1 v4)) 0)) ∧ ((([.v (.int .i64 ((gt p1 v4).2)), .v (.int .i64 p2)] : List AV) = [.v (.int .i64 ((gt p1 v4).2)), .v (.int .i64 p2)]) ∧ True) ∧ True) (by kernel_rfl) ⟨idx_bs enc_si p1 v4 2 g2, ⟨⟨trivial, (congrArg (fun z => AV.v (.bool z)) b3)⟩, ⟨idx_bs enc_si p1 v4 2 g2, ⟨⟨rfl, trivial⟩, trivial⟩⟩⟩⟩ ⟨call_ok (ks := []) (ns := []) (bor := []) (bobjs := []) (s_spec_less ((gt p1 v4).2) p2 x5 e4) (.cons (.c1 (.c0 (.same _ (by kernel_rfl) (by kernel_rfl)))) (.cons (.c1 (.c0 (.same _ (by kernel_rfl) (by kernel_rfl)))) (.nil))) (by kernel_rfl) trivial, trivial⟩ ?_
        rcases bool_cases (decide (x5 = 0)) with b5 | b5
        · replace h := cd_t b5 h
          refine AX.condT (decide (x5 = 0)) (by kernel_rfl) b5 ?_
          obtain ⟨g6, h⟩ := gd_e h
          refine AX.reg (its := [.auto {}, .auto {}, .auto {}, .auto { y := some (.be 2 (enc_si (gt p1 v4)) 0) }, .auto {}, .auto { nk := 1 }, .auto { y := some (.sl 2 0 ((v3 ++ ([((gt p1 v4).1, (gt p1 v4).2)] : List (ByteArray × Int))).length)), els := some (List.map enc_si v3), els2 := some (List.map enc_si ([((gt p1 v4).1, (gt p1 v4).2)] : List (ByteArray × Int))), nk := 2 }]) [0, 1, 5, 6] [2] (s1 := ⟨[(0, .bs false 2 (List.map enc_si p1)), (1, .v (.int .i64 p2)), (5, .sl 2 0 ((v3 ++ ([((gt p1 v4).1, (gt p1 v4).2)] : List (ByteArray × Int))).length)), (6, .v (.int .i64 v4))], [(2, .arr 2 (List.map enc_si v3 ++ List.map enc_si ([((gt p1 v4).1, (gt p1 v4).2)] : List (ByteArray × Int))))]⟩) (C := ((0 ≤ v4 ∧ v4 < ((List.map enc_si p1).length : Int)) ∧ (AV.be 2 ((List.map enc_si p1).getD v4.toNat []) 0 = AV.be 2 (enc_si (gt p1 v4)) 0)) ∧ ((((((List.map enc_si v3).drop 0).take (v3.length) = List.map enc_si v3) ∧ (((List.map enc_si ([((gt p1 v4).1, (gt p1 v4).2)] : List (ByteArray × Int))).drop 0).take (([((gt p1 v4).1, (gt p1 v4).2)] : List (ByteArray × Int)).length) = List.map enc_si ([((gt p1 v4).1, (gt p1 v4).2)] : List (ByteArray × Int)))) ∧ (List.map enc_si v3).length + (List.map enc_si ([((gt p1 v4).1, (gt p1 v4).2)] : List (ByteArray × Int))).length ≤ 1099511627776) ∧ (AV.sl 2 0 (List.map enc_si v3 ++ List.map enc_si ([((gt p1 v4).1, (gt p1 v4).2)] : List (ByteArray × Int))).length = AV.sl 2 0 (v3 ++ ([((gt p1 v4).1, (gt p1 v4).2)] : List (ByteArray × Int))).length)) ∧ True) (by kernel_rfl) ⟨idx_bs enc_si p1 v4 2 g2, ⟨⟨⟨⟨(dt_all (enc := enc_si) rfl rfl), (dt_all (enc := enc_si) rfl rfl)⟩, (by simp only [List.length_map, List.length_nil, List.length_replicate]; simpa using g6)⟩, sl_len (enc := enc_si) (app_can (enc := enc_si) rfl (rfl))⟩, trivial⟩⟩ trivial ?_
          refine AX.reg (its := [.auto {}, .auto { raw := true }]) [0, 1, 5, 6] [2] (s1 := ⟨[(0, .bs false 2 (List.map enc_si p1)), (1, .v (.int .i64 p2)), (5, .sl 2 0 ((v3 ++ ([((gt p1 v4).1, (gt p1 v4).2)] : List (ByteArray × Int))).length)), (6, .v (.int .i64 (IntKind.wrap .i64 (v4 + 1))))], [(2, .arr 2 (List.map enc_si v3 ++ List.map enc_si ([((gt p1 v4).1, (gt p1 v4).2)] : List (ByteArray × Int))))]⟩) (C := True) (by kernel_rfl) trivial trivial ?_
          refine ⟨(fu, (v3 ++ ([((gt p1 v4).1, (gt p1 v4).2)] : List (ByteArray × Int)), IntKind.wrap .i64 (v4 + 1))), h, Nat.lt_succ_self _, ?_⟩
          refine Wk.trans (Wk.swap 0 2 (Nat.le_of_ble_eq_true (by kernel_rfl)) (Nat.le_of_ble_eq_true (by kernel_rfl)) rfl) ?_
          refine Wk.trans (Wk.forget [0, 1, 5, 6] [0] (s' := ⟨[(0, .bs false 2 (List.map enc_si p1)), (1, .v (.int .i64 p2)), (5, .sl 0 0 ((v3 ++ ([((gt p1 v4).1, (gt p1 v4).2)] : List (ByteArray × Int))).length)), (6, .v (.int .i64 (IntKind.wrap .i64 (v4 + 1))))], [(0, .arr 2 (List.map enc_si v3 ++ List.map enc_si ([((gt p1 v4).1, (gt p1 v4).2)] : List (ByteArray × Int))))]⟩) (by kernel_rfl)) ?_
          refine Wk.trans (Wk.of_eq (congrArg (fun z => (⟨[(0, .bs false 2 (List.map enc_si p1)), (1, .v (.int .i64 p2)), (5, .sl 0 0 ((v3 ++ ([((gt p1 v4).1, (gt p1 v4).2)] : List (ByteArray × Int))).length)), (6, .v (.int .i64 (IntKind.wrap .i64 (v4 + 1))))], [(0, .arr 2 (z))]⟩ : S)) (app_can (enc := enc_si) rfl (rfl) : List.map enc_si v3 ++ List.map enc_si ([((gt p1 v4).1, (gt p1 v4).2)] : List (ByteArray × Int)) = List.map enc_si (v3 ++ ([((gt p1 v4).1, (gt p1 v4).2)] : List (ByteArray × Int)))))) ?_
          exact Wk.refl _
        · replace h := cd_f b5 h
          refine AX.condF (decide (x5 = 0)) (by kernel_rfl) b5 ?_
          refine AX.skip ?_
          refine AX.reg (its := [.auto {}, .auto { raw := true }]) [0, 1, 5, 6] [0] (s1 := ⟨[(0, .bs false 2 (List.map enc_si p1)), (1, .v (.int .i64 p2)), (5, .sl 0 0 v3.length), (6, .v (.int .i64 (IntKind.wrap .i64 (v4 + 1))))], [(0, .arr 2 (List.map enc_si v3))]⟩) (C := True) (by kernel_rfl) trivial trivial ?_
          refine ⟨(fu, (v3, IntKind.wrap .i64 (v4 + 1))), h, Nat.lt_succ_self _, ?_⟩
          refine Wk.trans (Wk.forget [0, 1, 5, 6] [0] (s' := ⟨[(0, .bs false 2 (List.map enc_si p1)), (1, .v (.int .i64 p2)), (5, .sl 0 0 v3.length), (6, .v (.int .i64 (IntKind.wrap .i64 (v4 + 1))))], [(0, .arr 2 (List.map enc_si v3))]⟩) (by kernel_rfl)) ?_
          exact Wk.refl _
      · replace h := cd_f b3 h
        refine AX.reg (its := [.auto {}, .auto {}, .auto { y := some (.be 2 (enc_si (gt p1 v4)) 0) }, .auto {}, .auto {}, .auto { y := some (.v (.bool false)) }]) [0, 1, 5, 6, 29] [0] (s1 := ⟨[(0, .bs false 2 (List.map enc_si p1)), (1, .v (.int .i64 p2)), (5, .sl 0 0 v3.length), (6, .v (.int .i64 v4)), (29, .v (.bool false))], [(0, .arr 2 (List.map enc_si v3))]⟩) (C := ((0 ≤ v4 ∧ v4 < ((List.map enc_si p1).length : Int)) ∧ (AV.be 2 ((List.map enc_si p1).getD v4.toNat []) 0 = AV.be 2 (enc_si (gt p1 v4)) 0)) ∧ ((True) ∧ ((.v (.bool (decide (0 < ((gt p1 v4).2)))) : AV) = (.v (.bool false) : AV))) ∧ True) (by kernel_rfl) ⟨idx_bs enc_si p1 v4 2 g2, ⟨⟨trivial, (congrArg (fun z => AV.v (.bool z)) b3)⟩, trivial⟩⟩ trivial ?_
        refine AX.cond_false (by kernel_rfl) ?_
        refine AX.skip ?_
        refine AX.reg (its := [.auto {}, .auto { raw := true }]) [0, 1, 5, 6] [0] (s1 := ⟨[(0, .bs false 2 (List.map enc_si p1)), (1, .v (.int .i64 p2)), (5, .sl 0 0 v3.length), (6, .v (.int .i64 (IntKind.wrap .i64 (v4 + 1))))], [(0, .arr 2 (List.map enc_si v3))]⟩) (C := True) (by kernel_rfl) trivial trivial ?_
        refine ⟨(fu, (v3, IntKind.wrap .i64 (v4 + 1))), h, Nat.lt_succ_self _, ?_⟩
        refine Wk.trans (Wk.forget [0, 1, 5, 6] [0] (s' := ⟨[(0, .bs false 2 (List.map enc_si p1)), (1, .v (.int .i64 p2)), (5, .sl 0 0 v3.length), (6, .v (.int .i64 (IntKind.wrap .i64 (v4 + 1))))], [(0, .arr 2 (List.map enc_si v3))]⟩) (by kernel_rfl)) ?_
        exact Wk.refl _
    · replace h := cd_f b1 h
      refine AX.condF (decide (v4 < (p1.length : Int))) (by kernel_rfl) b1 ?_
      refine AX.exit ?_
      refine fin_wk (Wk.forget [5] [0] (s' := ⟨[(5, .sl 0 0 v3.length)], [(0, .arr 2 (List.map enc_si v3))]⟩) (by kernel_rfl)) ?_
      have hr := Option.some.inj h
      subst hr
      exact ⟨_, Wk.refl _, ⟨rfl, rfl⟩⟩

theorem s_spec_fitting (p1 : List (ByteArray × Int)) (p2 : Int) (r : List (ByteArray × Int)) (h : m_spec_fitting p1 p2 = some r) :
    Eng.Spec Tryz.prog 81 [.bs false 2 (List.map enc_si p1), .v (.int .i64 p2)] [] (.sl 0 0 r.length) [.arr 2 (List.map enc_si r)] := by
  unfold m_spec_fitting at h
  refine Eng.Spec.body Tryz.func81 (by kernel_rfl) rfl (by kernel_rfl) ?_
  refine AX.wkpost ?_
  refine AX.seq ?_
  refine AX.reg (its := []) [0, 1] [] (s1 := ⟨[(0, .bs false 2 (List.map enc_si p1)), (1, .v (.int .i64 p2))], []⟩) (C := True) (by kernel_rfl) trivial trivial ?_
  refine AX.seq ?_
  refine AX.reg (its := [.auto { nk := 0 }]) [0, 1, 5] [0] (s1 := ⟨[(0, .bs false 2 (List.map enc_si p1)), (1, .v (.int .i64 p2)), (5, .sl 0 0 (([] : List (ByteArray × Int)).length))], [(0, .arr 2 (List.map enc_si ([] : List (ByteArray × Int))))]⟩) (C := True) (by kernel_rfl) trivial trivial ?_
  refine AX.seq ?_
  refine AX.seq ?_
  refine AX.reg (its := []) [0, 1, 5, 6] [0] (s1 := ⟨[(0, .bs false 2 (List.map enc_si p1)), (1, .v (.int .i64 p2)), (5, .sl 0 0 (([] : List (ByteArray × Int)).length)), (6, .v (.int .i64 0))], [(0, .arr 2 (List.map enc_si ([] : List (ByteArray × Int))))]⟩) (C := True) (by kernel_rfl) trivial trivial ?_
  refine AX.block ?_
  obtain ⟨x6, e7, h⟩ := bd_e h
  refine AX.wk (Wk.forget [0, 1, 5, 6] [0] (s' := ⟨[(0, .bs false 2 (List.map enc_si p1)), (1, .v (.int .i64 p2)), (5, .sl 0 0 (([] : List (ByteArray × Int)).length)), (6, .v (.int .i64 0))], [(0, .arr 2 (List.map enc_si ([] : List (ByteArray × Int))))]⟩) (by kernel_rfl)) ?_
  refine AX.mono (s_spec_fitting_L1 p1 p2 FU (([] : List (ByteArray × Int)), 0) x6 e7) ?_
  rintro _ _ ⟨rfl, rfl⟩
  skip
  refine AX.seq ?_
  refine AX.reg (its := []) [4] [0] (s1 := ⟨[(4, .sl 0 0 x6.length)], [(0, .arr 2 (List.map enc_si x6))]⟩) (C := True) (by kernel_rfl) trivial trivial ?_
  refine AX.ret ?_
  refine fin_wk (Wk.forget [4] [0] (s' := ⟨[(4, .sl 0 0 x6.length)], [(0, .arr 2 (List.map enc_si x6))]⟩) (by kernel_rfl)) ?_
  have hr := Option.some.inj h
  subst hr
  exact ⟨_, Wk.refl _, .inr rfl, ⟨[0], by kernel_rfl, ⟨rfl, trivial⟩, [.sl 0 0 x6.length], by kernel_rfl, by kernel_rfl⟩⟩

theorem s_spec_fewest_L1 (rec : (List (ByteArray × Int)) → Int → Int → Int → Option ((List (ByteArray × Int)) × Bool)) (ih : ∀ (p1 : List (ByteArray × Int)) (p2 : Int) (p3 : Int) (p4 : Int) (r : (List (ByteArray × Int)) × Bool) (h : rec p1 p2 p3 p4 = some r), Eng.Spec Tryz.prog 82 [.bs false 2 (List.map enc_si p1), .v (.int .i64 p2), .v (.int .i64 p3), .v (.int .i64 p4)] [] (.tup [.sl 0 0 r.1.length, .v (.bool r.2)]) [.arr 2 (List.map enc_si r.1)]) (p1 : List (ByteArray × Int)) (p3 : Int) (p4 : Int) (n : Nat) (g : Int) (out : List (ByteArray × Int) ⊕ Unit) (h : m_spec_fewest_L1 rec p1 p3 p4 n g = some out) :
    AX Tryz.prog 49 0 (codeAt [1, 1, 0, 1, 1] (bodyOf Tryz.f82)) ((fun g : Int => (⟨[(0, .bs false 2 (List.map enc_si p1)), (2, .v (.int .i64 p3)), (3, .v (.int .i64 p4)), (10, .v (.int .i64 g))], []⟩ : S)) g) (fun ex s => (∃ o : List (ByteArray × Int), out = Sum.inl o ∧ ex = .ret ∧ s = ⟨[(8, .sl 0 0 o.length), (9, .v (.bool true))], [(0, .arr 2 (List.map enc_si o))]⟩) ∨ (∃ o : Unit, out = Sum.inr o ∧ ex = .exit 0 ∧ s = ⟨[], []⟩)) := by
  refine AX.wkpost ?_
  refine AX.loop (G := Nat × (Int)) (fun q => (fun g : Int => (⟨[(0, .bs false 2 (List.map enc_si p1)), (2, .v (.int .i64 p3)), (3, .v (.int .i64 p4)), (10, .v (.int .i64 g))], []⟩ : S)) q.2) (fun q => m_spec_fewest_L1 rec p1 p3 p4 q.1 q.2 = some out) (fun q => q.1) (n, g) h (Wk.refl _) ?_
  clear h
  rintro ⟨fu, v5⟩ h
  cases fu with
  | zero => cases h
  | succ fu =>
    rw [m_spec_fewest_L1] at h
    refine AX.seq ?_
    refine AX.seq ?_
    refine AX.reg (its := [.auto {}, .auto {}, .auto { y := some (.v (.int .i64 (p1.length : Int))) }]) [0, 2, 3, 10, 22] [] (s1 := ⟨[(0, .bs false 2 (List.map enc_si p1)), (2, .v (.int .i64 p3)), (3, .v (.int .i64 p4)), (10, .v (.int .i64 v5)), (22, .v (.bool (decide (v5 < (p1.length : Int)))))], []⟩) (C := (True ∧ (AV.v (.int .i64 ((List.map enc_si p1).length : Int)) = AV.v (.int .i64 (p1.length : Int)))) ∧ True) (by kernel_rfl) ⟨⟨trivial, len_map enc_si p1⟩, trivial⟩ trivial ?_
    rcases bool_cases (decide (v5 < (p1.length : Int))) with b2 | b2
    · replace h := cd_t b2 h
      refine AX.condT (decide (v5 < (p1.length : Int))) (by kernel_rfl) b2 ?_
      refine AX.skip ?_
      refine AX.seq ?_
      refine AX.block ?_
      refine AX.seq ?_
      obtain ⟨g3, h⟩ := gd_e h
      obtain ⟨x6, e4, h⟩ := bd_e h
      obtain ⟨x7, e5, h⟩ := bd_e h
      refine AX.reg (its := [.auto {}, .auto {}, .auto { raw := true }, .auto {}, .auto { raw := true }, .auto {}, .auto {}, .auto {}, .auto { y := some (.be 2 (enc_si (gt p1 v5)) 0) }, .auto {}, .auto {}, .call 48 [.v (.int .i64 p4), .v (.int .i64 ((gt p1 v5).2))] (handO (rho ([] ++ [])) [] [] ++ []) (callEv [] [] (.v (.int .i64 x6)) []), .call 82 [.bs false 2 (List.map enc_si p1), .v (.int .i64 (IntKind.wrap .i64 (v5 + 1))), .v (.int .i64 (IntKind.wrap .i64 (p3 - 1))), .v (.int .i64 x6)] (handO (rho ([] ++ [0])) [] [] ++ []) (callEv [] [0] (.tup [.sl 0 0 x7.1.length, .v (.bool x7.2)]) [.arr 2 (List.map enc_si x7.1)])]) [0, 2, 3, 10, 11, 12] [0] (s1 := ⟨[(0, .bs false 2 (List.map enc_si p1)), (2, .v (.int .i64 p3)), (3, .v (.int .i64 p4)), (10, .v (.int .i64 v5)), (11, .sl 0 0 x7.1.length), (12, .v (.bool x7.2))], [(0, .arr 2 (List.map enc_si x7.1))]⟩) (C := ((0 ≤ v5 ∧ v5 < ((List.map enc_si p1).length : Int)) ∧ (AV.be 2 ((List.map enc_si p1).getD v5.toNat []) 0 = AV.be 2 (enc_si (gt p1 v5)) 0)) ∧ ((([.v (.int .i64 p4), .v (.int .i64 ((gt p1 v5).2))] : List AV) = [.v (.int .i64 p4), .v (.int .i64 ((gt p1 v5).2))]) ∧ True) ∧ ((([.bs false 2 (List.map enc_si p1), .v (.int .i64 (IntKind.wrap .i64 (v5 + 1))), .v (.int .i64 (IntKind.wrap .i64 (p3 - 1))), .v (.int .i64 x6)] : List AV) = [.bs false 2 (List.map enc_si p1), .v (.int .i64 (IntKind.wrap .i64 (v5 + 1))), .v (.int .i64 (IntKind.wrap .i64 (p3 - 1))), .v (.int .i64 x6)]) ∧ True) ∧ True) (by kernel_rfl) ⟨idx_bs enc_si p1 v5 2 g3, ⟨⟨rfl, trivial⟩, ⟨⟨rfl, trivial⟩, trivial⟩⟩⟩ ⟨call_ok (ks := []) (ns := []) (bor := []) (bobjs := []) (s_spec_less p4 ((gt p1 v5).2) x6 e4) (.cons (.c1 (.c0 (.same _ (by kernel_rfl) (by kernel_rfl)))) (.cons (.c1 (.c0 (.same _ (by kernel_rfl) (by kernel_rfl)))) (.nil))) (by kernel_rfl) trivial, ⟨call_ok (ks := []) (ns := [0]) (bor := []) (bobjs := []) (ih p1 (IntKind.wrap .i64 (v5 + 1)) (IntKind.wrap .i64 (p3 - 1)) x6 x7 e5) (.cons (.c1 (.c0 (.same _ (by kernel_rfl) (by kernel_rfl)))) (.cons (.c1 (.c0 (.same _ (by kernel_rfl) (by kernel_rfl)))) (.cons (.c1 (.c0 (.same _ (by kernel_rfl) (by kernel_rfl)))) (.cons (.c1 (.c0 (.same _ (by kernel_rfl) (by kernel_rfl)))) (.nil))))) (by kernel_rfl) trivial, trivial⟩⟩ ?_
      refine AX.seq ?_
      refine AX.reg (its := []) [0, 2, 3, 10, 11, 41] [0] (s1 := ⟨[(0, .bs false 2 (List.map enc_si p1)), (2, .v (.int .i64 p3)), (3, .v (.int .i64 p4)), (10, .v (.int .i64 v5)), (11, .sl 0 0 x7.1.length), (41, .v (.bool x7.2))], [(0, .arr 2 (List.map enc_si x7.1))]⟩) (C := True) (by kernel_rfl) trivial trivial ?_
      rcases bool_cases (x7.2) with b6 | b6
      · replace h := cd_t b6 h
        refine AX.condT (x7.2) (by kernel_rfl) b6 ?_
        refine AX.seq ?_
        obtain ⟨g7, h⟩ := gd_e h
        refine AX.reg (its := [.auto {}, .auto {}, .auto { y := some (.be 2 (enc_si (gt p1 v5)) 0) }, .auto {}, .auto { nk := 1 }, .auto {}, .auto { y := some (.sl 2 0 ((([((gt p1 v5).1, (gt p1 v5).2)] : List (ByteArray × Int)) ++ x7.1).length)), els := some (List.map enc_si ([((gt p1 v5).1, (gt p1 v5).2)] : List (ByteArray × Int))), els2 := some (List.map enc_si x7.1), nk := 2 }]) [8, 9] [2] (s1 := ⟨[(8, .sl 2 0 ((([((gt p1 v5).1, (gt p1 v5).2)] : List (ByteArray × Int)) ++ x7.1).length)), (9, .v (.bool true))], [(2, .arr 2 (List.map enc_si ([((gt p1 v5).1, (gt p1 v5).2)] : List (ByteArray × Int)) ++ List.map enc_si x7.1))]⟩) (C := ((0 ≤ v5 ∧ v5 < ((List.map enc_si p1).length : Int)) ∧ (AV.be 2 ((List.map enc_si p1).getD v5.toNat []) 0 = AV.be 2 (enc_si (gt p1 v5)) 0)) ∧ ((((((List.map enc_si ([((gt p1 v5).1, (gt p1 v5).2)] : List (ByteArray × Int))).drop 0).take (([((gt p1 v5).1, (gt p1 v5).2)] : List (ByteArray × Int)).length) = List.map enc_si ([((gt p1 v5).1, (gt p1 v5).2)] : List (ByteArray × Int))) ∧ (((List.map enc_si x7.1).drop 0).take (x7.1.length) = List.map enc_si x7.1)) ∧ (List.map enc_si ([((gt p1 v5).1, (gt p1 v5).2)] : List (ByteArray × Int))).length + (List.map enc_si x7.1).length ≤ 1099511627776) ∧ (AV.sl 2 0 (List.map enc_si ([((gt p1 v5).1, (gt p1 v5).2)] : List (ByteArray × Int)) ++ List.map enc_si x7.1).length = AV.sl 2 0 (([((gt p1 v5).1, (gt p1 v5).2)] : List (ByteArray × Int)) ++ x7.1).length)) ∧ True) (by kernel_rfl) ⟨idx_bs enc_si p1 v5 2 g3, ⟨⟨⟨⟨(dt_all (enc := enc_si) rfl rfl), (dt_all (enc := enc_si) rfl rfl)⟩, (by simp only [List.length_map, List.length_nil, List.length_replicate]; simpa using g7)⟩, sl_len (enc := enc_si) (app_can (enc := enc_si) rfl (rfl))⟩, trivial⟩⟩ trivial ?_
        refine AX.ret ?_
        refine fin_wk (Wk.swap 0 2 (Nat.le_of_ble_eq_true (by kernel_rfl)) (Nat.le_of_ble_eq_true (by kernel_rfl)) rfl) ?_
        refine fin_wk (Wk.forget [8, 9] [0] (s' := ⟨[(8, .sl 0 0 ((([((gt p1 v5).1, (gt p1 v5).2)] : List (ByteArray × Int)) ++ x7.1).length)), (9, .v (.bool true))], [(0, .arr 2 (List.map enc_si ([((gt p1 v5).1, (gt p1 v5).2)] : List (ByteArray × Int)) ++ List.map enc_si x7.1))]⟩) (by kernel_rfl)) ?_
        refine fin_wk (Wk.of_eq (congrArg (fun z => (⟨[(8, .sl 0 0 ((([((gt p1 v5).1, (gt p1 v5).2)] : List (ByteArray × Int)) ++ x7.1).length)), (9, .v (.bool true))], [(0, .arr 2 (z))]⟩ : S)) (app_can (enc := enc_si) rfl (rfl) : List.map enc_si ([((gt p1 v5).1, (gt p1 v5).2)] : List (ByteArray × Int)) ++ List.map enc_si x7.1 = List.map enc_si (([((gt p1 v5).1, (gt p1 v5).2)] : List (ByteArray × Int)) ++ x7.1)))) ?_
        have hr := Option.some.inj h
        subst hr
        exact ⟨_, Wk.refl _, .inl ⟨([((gt p1 v5).1, (gt p1 v5).2)] : List (ByteArray × Int)) ++ x7.1, rfl, rfl, rfl⟩⟩
      · replace h := cd_f b6 h
        refine AX.condF (x7.2) (by kernel_rfl) b6 ?_
        refine AX.skip ?_
        refine AX.reg (its := [.auto {}, .auto { raw := true }]) [0, 2, 3, 10] [] (s1 := ⟨[(0, .bs false 2 (List.map enc_si p1)), (2, .v (.int .i64 p3)), (3, .v (.int .i64 p4)), (10, .v (.int .i64 (IntKind.wrap .i64 (v5 + 1))))], []⟩) (C := True) (by kernel_rfl) trivial trivial ?_
        refine ⟨(fu, IntKind.wrap .i64 (v5 + 1)), h, Nat.lt_succ_self _, ?_⟩
        refine Wk.trans (Wk.forget [0, 2, 3, 10] [] (s' := ⟨[(0, .bs false 2 (List.map enc_si p1)), (2, .v (.int .i64 p3)), (3, .v (.int .i64 p4)), (10, .v (.int .i64 (IntKind.wrap .i64 (v5 + 1))))], []⟩) (by kernel_rfl)) ?_
        exact Wk.refl _
    · replace h := cd_f b2 h
      refine AX.condF (decide (v5 < (p1.length : Int))) (by kernel_rfl) b2 ?_
      refine AX.exit ?_
      refine fin_wk (Wk.forget [] [] (s' := ⟨[], []⟩) (by kernel_rfl)) ?_
      have hr := Option.some.inj h
      subst hr
      exact ⟨_, Wk.refl _, .inr ⟨(), rfl, rfl, rfl⟩⟩

theorem s_spec_fewest : ∀ (fu : Nat) (p1 : List (ByteArray × Int)) (p2 : Int) (p3 : Int) (p4 : Int) (r : (List (ByteArray × Int)) × Bool) (h : m_spec_fewest fu p1 p2 p3 p4 = some r),
    Eng.Spec Tryz.prog 82 [.bs false 2 (List.map enc_si p1), .v (.int .i64 p2), .v (.int .i64 p3), .v (.int .i64 p4)] [] (.tup [.sl 0 0 r.1.length, .v (.bool r.2)]) [.arr 2 (List.map enc_si r.1)] := by
  intro fu
  induction fu with
  | zero => intro p1 p2 p3 p4 r h; cases h
  | succ fu ih =>
    intro p1 p2 p3 p4 r h
    rw [m_spec_fewest] at h
    refine Eng.Spec.body Tryz.func82 (by kernel_rfl) rfl (by kernel_rfl) ?_
    refine AX.wkpost ?_
    refine AX.seq ?_
    refine AX.reg (its := []) [0, 1, 2, 3] [] (s1 := ⟨[(0, .bs false 2 (List.map enc_si p1)), (1, .v (.int .i64 p2)), (2, .v (.int .i64 p3)), (3, .v (.int .i64 p4))], []⟩) (C := True) (by kernel_rfl) trivial trivial ?_
    refine AX.seq ?_
    refine AX.seq ?_
    refine AX.reg (its := []) [0, 1, 2, 3, 14] [] (s1 := ⟨[(0, .bs false 2 (List.map enc_si p1)), (1, .v (.int .i64 p2)), (2, .v (.int .i64 p3)), (3, .v (.int .i64 p4)), (14, .v (.bool (decide (p3 = 0))))], []⟩) (C := True) (by kernel_rfl) trivial trivial ?_
    rcases bool_cases (decide (p3 = 0)) with b1 | b1
    · replace h := cd_t b1 h
      refine AX.condT (decide (p3 = 0)) (by kernel_rfl) b1 ?_
      refine AX.seq ?_
      refine AX.reg (its := [.auto { nk := 0 }]) [8, 9] [0] (s1 := ⟨[(8, .sl 0 0 (([] : List (ByteArray × Int)).length)), (9, .v (.bool (decide (p4 = 0))))], [(0, .arr 2 (List.map enc_si ([] : List (ByteArray × Int))))]⟩) (C := True) (by kernel_rfl) trivial trivial ?_
      refine AX.ret ?_
      refine fin_wk (Wk.forget [8, 9] [0] (s' := ⟨[(8, .sl 0 0 (([] : List (ByteArray × Int)).length)), (9, .v (.bool (decide (p4 = 0))))], [(0, .arr 2 (List.map enc_si ([] : List (ByteArray × Int))))]⟩) (by kernel_rfl)) ?_
      have hr := Option.some.inj h
      subst hr
      exact ⟨_, Wk.refl _, .inr rfl, ⟨[0], by kernel_rfl, ⟨rfl, trivial⟩, [.sl 0 0 (([] : List (ByteArray × Int)).length), .v (.bool (decide (p4 = 0)))], by kernel_rfl, by kernel_rfl⟩⟩
    · replace h := cd_f b1 h
      refine AX.condF (decide (p3 = 0)) (by kernel_rfl) b1 ?_
      refine AX.skip ?_
      refine AX.seq ?_
      refine AX.seq ?_
      refine AX.reg (its := []) [0, 2, 3, 10] [] (s1 := ⟨[(0, .bs false 2 (List.map enc_si p1)), (2, .v (.int .i64 p3)), (3, .v (.int .i64 p4)), (10, .v (.int .i64 p2))], []⟩) (C := True) (by kernel_rfl) trivial trivial ?_
      refine AX.block ?_
      obtain ⟨x8, e8, h⟩ := bd_e h
      refine AX.wk (Wk.forget [0, 2, 3, 10] [] (s' := ⟨[(0, .bs false 2 (List.map enc_si p1)), (2, .v (.int .i64 p3)), (3, .v (.int .i64 p4)), (10, .v (.int .i64 p2))], []⟩) (by kernel_rfl)) ?_
      refine AX.mono (s_spec_fewest_L1 (m_spec_fewest fu) ih p1 p3 p4 FU p2 x8 e8) ?_
      rintro _ _ (⟨x9, rfl, rfl, rfl⟩ | ⟨x10, rfl, rfl, rfl⟩)
      · replace h := sm_l h
        refine fin_wk (Wk.forget [8, 9] [0] (s' := ⟨[(8, .sl 0 0 x9.length), (9, .v (.bool true))], [(0, .arr 2 (List.map enc_si x9))]⟩) (by kernel_rfl)) ?_
        have hr := Option.some.inj h
        subst hr
        exact ⟨_, Wk.refl _, .inr rfl, ⟨[0], by kernel_rfl, ⟨rfl, trivial⟩, [.sl 0 0 x9.length, .v (.bool true)], by kernel_rfl, by kernel_rfl⟩⟩
      · replace h := sm_r h
        refine AX.seq ?_
        refine AX.reg (its := []) [8, 9] [] (s1 := ⟨[(8, .v (.slice none 0 0)), (9, .v (.bool false))], []⟩) (C := True) (by kernel_rfl) trivial trivial ?_
        refine AX.ret ?_
        refine fin_wk (Wk.mat 8 0 2 (by kernel_rfl) (Nat.le_of_ble_eq_true (by kernel_rfl)) (by kernel_rfl) rfl) ?_
        refine fin_wk (Wk.forget [8, 9] [0] (s' := ⟨[(8, .sl 0 0 (([] : List (ByteArray × Int)).length)), (9, .v (.bool false))], [(0, .arr 2 (List.map enc_si ([] : List (ByteArray × Int))))]⟩) (by kernel_rfl)) ?_
        have hr := Option.some.inj h
        subst hr
        exact ⟨_, Wk.refl _, .inr rfl, ⟨[0], by kernel_rfl, ⟨rfl, trivial⟩, [.sl 0 0 (([] : List (ByteArray × Int)).length), .v (.bool false)], by kernel_rfl, by kernel_rfl⟩⟩

theorem s_spec_short_L1 (x3 : List (ByteArray × Int)) (x4 : Int) (n : Nat) (g : Int) (out : List (ByteArray × Int) ⊕ Unit) (h : m_spec_short_L1 x3 x4 n g = some out) :
    AX Tryz.prog 31 0 (codeAt [1, 1, 1, 0, 1, 1] (bodyOf Tryz.f45)) ((fun g : Int => (⟨[(5, .sl 0 0 x3.length), (6, .v (.int .i64 x4)), (7, .v (.int .i64 g))], [(0, .arr 2 (List.map enc_si x3))]⟩ : S)) g) (fun ex s => (∃ o : List (ByteArray × Int), out = Sum.inl o ∧ ex = .ret ∧ s = ⟨[(4, .sl 0 0 o.length)], [(0, .arr 2 (List.map enc_si o))]⟩) ∨ (∃ o : Unit, out = Sum.inr o ∧ ex = .exit 0 ∧ s = ⟨[], []⟩)) := by
  refine AX.wkpost ?_
  refine AX.loop (G := Nat × (Int)) (fun q => (fun g : Int => (⟨[(5, .sl 0 0 x3.length), (6, .v (.int .i64 x4)), (7, .v (.int .i64 g))], [(0, .arr 2 (List.map enc_si x3))]⟩ : S)) q.2) (fun q => m_spec_short_L1 x3 x4 q.1 q.2 = some out) (fun q => q.1) (n, g) h (Wk.refl _) ?_
  clear h
  rintro ⟨fu, v5⟩ h
  cases fu with
  | zero => cases h
  | succ fu =>
    rw [m_spec_short_L1] at h
    refine AX.seq ?_
    refine AX.seq ?_
    refine AX.reg (its := []) [5, 6, 7, 18] [0] (s1 := ⟨[(5, .sl 0 0 x3.length), (6, .v (.int .i64 x4)), (7, .v (.int .i64 v5)), (18, .v (.bool (decide (v5 ≤ (x3.length : Int)))))], [(0, .arr 2 (List.map enc_si x3))]⟩) (C := True) (by kernel_rfl) trivial trivial ?_
    rcases bool_cases (decide (v5 ≤ (x3.length : Int))) with b3 | b3
    · replace h := cd_t b3 h
      refine AX.condT (decide (v5 ≤ (x3.length : Int))) (by kernel_rfl) b3 ?_
      refine AX.skip ?_
      refine AX.seq ?_
      refine AX.block ?_
      refine AX.seq ?_
      obtain ⟨x6, e4, h⟩ := bd_e h
      refine AX.reg (its := [.auto {}, .auto {}, .auto {}, .call 82 [.sl 0 0 x3.length, .v (.int .i64 0), .v (.int .i64 v5), .v (.int .i64 x4)] (handO (rho ([] ++ [1])) [] [] ++ [(0, .arr 2 (List.map enc_si x3))]) (callEv [] [1] (.tup [.sl 0 0 x6.1.length, .v (.bool x6.2)]) [.arr 2 (List.map enc_si x6.1)])]) [5, 6, 7, 8, 9] [0, 1] (s1 := ⟨[(5, .sl 0 0 x3.length), (6, .v (.int .i64 x4)), (7, .v (.int .i64 v5)), (8, .sl 1 0 x6.1.length), (9, .v (.bool x6.2))], [(0, .arr 2 (List.map enc_si x3)), (1, .arr 2 (List.map enc_si x6.1))]⟩) (C := ((([.sl 0 0 x3.length, .v (.int .i64 0), .v (.int .i64 v5), .v (.int .i64 x4)] : List AV) = [.sl 0 0 x3.length, .v (.int .i64 0), .v (.int .i64 v5), .v (.int .i64 x4)]) ∧ (AO.arr 2 (List.map enc_si x3) = AO.arr 2 (List.map enc_si x3)) ∧ True) ∧ True) (by kernel_rfl) ⟨⟨rfl, rfl, trivial⟩, trivial⟩ ⟨call_ok (ks := []) (ns := [1]) (bor := [0]) (bobjs := [(0, .arr 2 (List.map enc_si x3))]) (s_spec_fewest FU x3 0 v5 x4 x6 e4) (.cons (.c1 (.c0 (.arr rfl rfl ((rfl).trans (List.length_map ..).symm)))) (.cons (.c1 (.c0 (.same _ (by kernel_rfl) (by kernel_rfl)))) (.cons (.c1 (.c0 (.same _ (by kernel_rfl) (by kernel_rfl)))) (.cons (.c1 (.c0 (.same _ (by kernel_rfl) (by kernel_rfl)))) (.nil))))) (by kernel_rfl) trivial, trivial⟩ ?_
      refine AX.seq ?_
      refine AX.reg (its := []) [5, 6, 7, 8, 28] [0, 1] (s1 := ⟨[(5, .sl 0 0 x3.length), (6, .v (.int .i64 x4)), (7, .v (.int .i64 v5)), (8, .sl 1 0 x6.1.length), (28, .v (.bool x6.2))], [(0, .arr 2 (List.map enc_si x3)), (1, .arr 2 (List.map enc_si x6.1))]⟩) (C := True) (by kernel_rfl) trivial trivial ?_
      rcases bool_cases (x6.2) with b5 | b5
      · replace h := cd_t b5 h
        refine AX.condT (x6.2) (by kernel_rfl) b5 ?_
        refine AX.seq ?_
        refine AX.reg (its := []) [4] [1] (s1 := ⟨[(4, .sl 1 0 x6.1.length)], [(1, .arr 2 (List.map enc_si x6.1))]⟩) (C := True) (by kernel_rfl) trivial trivial ?_
        refine AX.ret ?_
        refine fin_wk (Wk.swap 0 1 (Nat.le_of_ble_eq_true (by kernel_rfl)) (Nat.le_of_ble_eq_true (by kernel_rfl)) rfl) ?_
        refine fin_wk (Wk.forget [4] [0] (s' := ⟨[(4, .sl 0 0 x6.1.length)], [(0, .arr 2 (List.map enc_si x6.1))]⟩) (by kernel_rfl)) ?_
        have hr := Option.some.inj h
        subst hr
        exact ⟨_, Wk.refl _, .inl ⟨x6.1, rfl, rfl, rfl⟩⟩
      · replace h := cd_f b5 h
        refine AX.condF (x6.2) (by kernel_rfl) b5 ?_
        refine AX.skip ?_
        refine AX.reg (its := [.auto {}, .auto { raw := true }]) [5, 6, 7] [0] (s1 := ⟨[(5, .sl 0 0 x3.length), (6, .v (.int .i64 x4)), (7, .v (.int .i64 (IntKind.wrap .i64 (v5 + 1))))], [(0, .arr 2 (List.map enc_si x3))]⟩) (C := True) (by kernel_rfl) trivial trivial ?_
        refine ⟨(fu, IntKind.wrap .i64 (v5 + 1)), h, Nat.lt_succ_self _, ?_⟩
        refine Wk.trans (Wk.forget [5, 6, 7] [0] (s' := ⟨[(5, .sl 0 0 x3.length), (6, .v (.int .i64 x4)), (7, .v (.int .i64 (IntKind.wrap .i64 (v5 + 1))))], [(0, .arr 2 (List.map enc_si x3))]⟩) (by kernel_rfl)) ?_
        exact Wk.refl _
    · replace h := cd_f b3 h
      refine AX.condF (decide (v5 ≤ (x3.length : Int))) (by kernel_rfl) b3 ?_
      refine AX.exit ?_
      refine fin_wk (Wk.forget [] [] (s' := ⟨[], []⟩) (by kernel_rfl)) ?_
      have hr := Option.some.inj h
      subst hr
      exact ⟨_, Wk.refl _, .inr ⟨(), rfl, rfl, rfl⟩⟩

theorem s_spec_short (p1 : List (ByteArray × Int)) (p2 : Int) (r : List (ByteArray × Int)) (h : m_spec_short p1 p2 = some r) :
    Eng.Spec Tryz.prog 45 [.bs false 2 (List.map enc_si p1), .v (.int .i64 p2)] [] (.sl 0 0 r.length) [.arr 2 (List.map enc_si r)] := by
  unfold m_spec_short at h
  refine Eng.Spec.body Tryz.func45 (by kernel_rfl) rfl (by kernel_rfl) ?_
  refine AX.wkpost ?_
  refine AX.seq ?_
  refine AX.reg (its := []) [0, 1] [] (s1 := ⟨[(0, .bs false 2 (List.map enc_si p1)), (1, .v (.int .i64 p2))], []⟩) (C := True) (by kernel_rfl) trivial trivial ?_
  refine AX.seq ?_
  obtain ⟨x3, e1, h⟩ := bd_e h
  refine AX.reg (its := [.auto {}, .auto {}, .call 81 [.bs false 2 (List.map enc_si p1), .v (.int .i64 p2)] (handO (rho ([] ++ [0])) [] [] ++ []) (callEv [] [0] (.sl 0 0 x3.length) [.arr 2 (List.map enc_si x3)])]) [5] [0] (s1 := ⟨[(5, .sl 0 0 x3.length)], [(0, .arr 2 (List.map enc_si x3))]⟩) (C := ((([.bs false 2 (List.map enc_si p1), .v (.int .i64 p2)] : List AV) = [.bs false 2 (List.map enc_si p1), .v (.int .i64 p2)]) ∧ True) ∧ True) (by kernel_rfl) ⟨⟨rfl, trivial⟩, trivial⟩ ⟨call_ok (ks := []) (ns := [0]) (bor := []) (bobjs := []) (s_spec_fitting p1 p2 x3 e1) (.cons (.c1 (.c0 (.same _ (by kernel_rfl) (by kernel_rfl)))) (.cons (.c1 (.c0 (.same _ (by kernel_rfl) (by kernel_rfl)))) (.nil))) (by kernel_rfl) trivial, trivial⟩ ?_
  refine AX.seq ?_
  obtain ⟨x4, e2, h⟩ := bd_e h
  refine AX.reg (its := [.auto {}, .call 49 [.sl 0 0 x3.length] (handO (rho ([] ++ [])) [] [] ++ [(0, .arr 2 (List.map enc_si x3))]) (callEv [] [] (.v (.int .i64 x4)) [])]) [5, 6] [0] (s1 := ⟨[(5, .sl 0 0 x3.length), (6, .v (.int .i64 x4))], [(0, .arr 2 (List.map enc_si x3))]⟩) (C := ((([.sl 0 0 x3.length] : List AV) = [.sl 0 0 x3.length]) ∧ (AO.arr 2 (List.map enc_si x3) = AO.arr 2 (List.map enc_si x3)) ∧ True) ∧ True) (by kernel_rfl) ⟨⟨rfl, rfl, trivial⟩, trivial⟩ ⟨call_ok (ks := []) (ns := []) (bor := [0]) (bobjs := [(0, .arr 2 (List.map enc_si x3))]) (s_spec_mask x3 x4 e2) (.cons (.c1 (.c0 (.arr rfl rfl ((rfl).trans (List.length_map ..).symm)))) (.nil)) (by kernel_rfl) trivial, trivial⟩ ?_
  refine AX.seq ?_
  refine AX.seq ?_
  refine AX.reg (its := []) [5, 6, 7] [0] (s1 := ⟨[(5, .sl 0 0 x3.length), (6, .v (.int .i64 x4)), (7, .v (.int .i64 0))], [(0, .arr 2 (List.map enc_si x3))]⟩) (C := True) (by kernel_rfl) trivial trivial ?_
  refine AX.block ?_
  obtain ⟨x7, e6, h⟩ := bd_e h
  refine AX.wk (Wk.forget [5, 6, 7] [0] (s' := ⟨[(5, .sl 0 0 x3.length), (6, .v (.int .i64 x4)), (7, .v (.int .i64 0))], [(0, .arr 2 (List.map enc_si x3))]⟩) (by kernel_rfl)) ?_
  refine AX.mono (s_spec_short_L1 x3 x4 FU 0 x7 e6) ?_
  rintro _ _ (⟨x8, rfl, rfl, rfl⟩ | ⟨x9, rfl, rfl, rfl⟩)
  · replace h := sm_l h
    refine fin_wk (Wk.forget [4] [0] (s' := ⟨[(4, .sl 0 0 x8.length)], [(0, .arr 2 (List.map enc_si x8))]⟩) (by kernel_rfl)) ?_
    have hr := Option.some.inj h
    subst hr
    exact ⟨_, Wk.refl _, .inr rfl, ⟨[0], by kernel_rfl, ⟨rfl, trivial⟩, [.sl 0 0 x8.length], by kernel_rfl, by kernel_rfl⟩⟩
  · replace h := sm_r h
    refine AX.seq ?_
    refine AX.reg (its := [.auto { nk := 0 }]) [4] [0] (s1 := ⟨[(4, .sl 0 0 (([] : List (ByteArray × Int)).length))], [(0, .arr 2 (List.map enc_si ([] : List (ByteArray × Int))))]⟩) (C := True) (by kernel_rfl) trivial trivial ?_
    refine AX.ret ?_
    refine fin_wk (Wk.forget [4] [0] (s' := ⟨[(4, .sl 0 0 (([] : List (ByteArray × Int)).length))], [(0, .arr 2 (List.map enc_si ([] : List (ByteArray × Int))))]⟩) (by kernel_rfl)) ?_
    have hr := Option.some.inj h
    subst hr
    exact ⟨_, Wk.refl _, .inr rfl, ⟨[0], by kernel_rfl, ⟨rfl, trivial⟩, [.sl 0 0 (([] : List (ByteArray × Int)).length)], by kernel_rfl, by kernel_rfl⟩⟩

theorem s_spec_namesOf_L1 (p1 : List (ByteArray × Int)) (n : Nat) (g : List (ByteArray) × Int) (out : List (ByteArray)) (h : m_spec_namesOf_L1 p1 n g.1 g.2 = some out) :
    AX Tryz.prog 21 0 (codeAt [1, 1, 0, 1, 1] (bodyOf Tryz.f47)) ((fun g : List (ByteArray) × Int => (⟨[(0, .bs false 2 (List.map enc_si p1)), (3, .sl 0 0 g.1.length), (4, .v (.int .i64 g.2))], [(0, .arr 1 (List.map enc_s g.1))]⟩ : S)) g) (fun ex s => ex = .exit 0 ∧ s = (fun o : List (ByteArray) => (⟨[(3, .sl 0 0 o.length)], [(0, .arr 1 (List.map enc_s o))]⟩ : S)) out) := by
  refine AX.wkpost ?_
  refine AX.loop (G := Nat × (List (ByteArray) × Int)) (fun q => (fun g : List (ByteArray) × Int => (⟨[(0, .bs false 2 (List.map enc_si p1)), (3, .sl 0 0 g.1.length), (4, .v (.int .i64 g.2))], [(0, .arr 1 (List.map enc_s g.1))]⟩ : S)) q.2) (fun q => m_spec_namesOf_L1 p1 q.1 q.2.1 q.2.2 = some out) (fun q => q.1) (n, g) h (Wk.refl _) ?_
  clear h
  rintro ⟨fu, v2, v3⟩ h
  cases fu with
  | zero => cases h
  | succ fu =>
    rw [m_spec_namesOf_L1] at h
    refine AX.seq ?_
    refine AX.seq ?_
    refine AX.reg (its := [.auto {}, .auto {}, .auto { y := some (.v (.int .i64 (p1.length : Int))) }]) [0, 3, 4, 9] [0] (s1 := ⟨[(0, .bs false 2 (List.map enc_si p1)), (3, .sl 0 0 v2.length), (4, .v (.int .i64 v3)), (9, .v (.bool (decide (v3 < (p1.length : Int)))))], [(0, .arr 1 (List.map enc_s v2))]⟩) (C := (True ∧ (AV.v (.int .i64 ((List.map enc_si p1).length : Int)) = AV.v (.int .i64 (p1.length : Int)))) ∧ True) (by kernel_rfl) ⟨⟨trivial, len_map enc_si p1⟩, trivial⟩ trivial ?_
    rcases bool_cases (decide (v3 < (p1.length : Int))) with b1 | b1
    · replace h := cd_t b1 h
      refine AX.condT (decide (v3 < (p1.length : Int))) (by kernel_rfl) b1 ?_
      refine AX.skip ?_
      refine AX.seq ?_
      refine AX.block ?_
      obtain ⟨g2, h⟩ := gd_e h
      obtain ⟨g3, h⟩ := gd_e h
      refine AX.reg (its := [.auto {}, .auto {}, .auto {}, .auto { y := some (.be 2 (enc_si (gt p1 v3)) 0) }, .auto {}, .auto {}, .auto { nk := 1 }, .auto { y := some (.sl 2 0 ((v2 ++ ([(gt p1 v3).1] : List (ByteArray))).length)), els := some (List.map enc_s v2), els2 := some (List.map enc_s ([(gt p1 v3).1] : List (ByteArray))), nk := 2 }]) [0, 3, 4] [2] (s1 := ⟨[(0, .bs false 2 (List.map enc_si p1)), (3, .sl 2 0 ((v2 ++ ([(gt p1 v3).1] : List (ByteArray))).length)), (4, .v (.int .i64 v3))], [(2, .arr 1 (List.map enc_s v2 ++ List.map enc_s ([(gt p1 v3).1] : List (ByteArray))))]⟩) (C := ((0 ≤ v3 ∧ v3 < ((List.map enc_si p1).length : Int)) ∧ (AV.be 2 ((List.map enc_si p1).getD v3.toNat []) 0 = AV.be 2 (enc_si (gt p1 v3)) 0)) ∧ ((((((List.map enc_s v2).drop 0).take (v2.length) = List.map enc_s v2) ∧ (((List.map enc_s ([(gt p1 v3).1] : List (ByteArray))).drop 0).take (([(gt p1 v3).1] : List (ByteArray)).length) = List.map enc_s ([(gt p1 v3).1] : List (ByteArray)))) ∧ (List.map enc_s v2).length + (List.map enc_s ([(gt p1 v3).1] : List (ByteArray))).length ≤ 1099511627776) ∧ (AV.sl 2 0 (List.map enc_s v2 ++ List.map enc_s ([(gt p1 v3).1] : List (ByteArray))).length = AV.sl 2 0 (v2 ++ ([(gt p1 v3).1] : List (ByteArray))).length)) ∧ True) (by kernel_rfl) ⟨idx_bs enc_si p1 v3 2 g2, ⟨⟨⟨⟨(dt_all (enc := enc_s) rfl rfl), (dt_all (enc := enc_s) rfl rfl)⟩, (by simp only [List.length_map, List.length_nil, List.length_replicate]; simpa using g3)⟩, sl_len (enc := enc_s) (app_can (enc := enc_s) rfl (rfl))⟩, trivial⟩⟩ trivial ?_
      refine AX.reg (its := [.auto {}, .auto { raw := true }]) [0, 3, 4] [2] (s1 := ⟨[(0, .bs false 2 (List.map enc_si p1)), (3, .sl 2 0 ((v2 ++ ([(gt p1 v3).1] : List (ByteArray))).length)), (4, .v (.int .i64 (IntKind.wrap .i64 (v3 + 1))))], [(2, .arr 1 (List.map enc_s v2 ++ List.map enc_s ([(gt p1 v3).1] : List (ByteArray))))]⟩) (C := True) (by kernel_rfl) trivial trivial ?_
      refine ⟨(fu, (v2 ++ ([(gt p1 v3).1] : List (ByteArray)), IntKind.wrap .i64 (v3 + 1))), h, Nat.lt_succ_self _, ?_⟩
      refine Wk.trans (Wk.swap 0 2 (Nat.le_of_ble_eq_true (by kernel_rfl)) (Nat.le_of_ble_eq_true (by kernel_rfl)) rfl) ?_
      refine Wk.trans (Wk.forget [0, 3, 4] [0] (s' := ⟨[(0, .bs false 2 (List.map enc_si p1)), (3, .sl 0 0 ((v2 ++ ([(gt p1 v3).1] : List (ByteArray))).length)), (4, .v (.int .i64 (IntKind.wrap .i64 (v3 + 1))))], [(0, .arr 1 (List.map enc_s v2 ++ List.map enc_s ([(gt p1 v3).1] : List (ByteArray))))]⟩) (by kernel_rfl)) ?_
      refine Wk.trans (Wk.of_eq (congrArg (fun z => (⟨[(0, .bs false 2 (List.map enc_si p1)), (3, .sl 0 0 ((v2 ++ ([(gt p1 v3).1] : List (ByteArray))).length)), (4, .v (.int .i64 (IntKind.wrap .i64 (v3 + 1))))], [(0, .arr 1 (z))]⟩ : S)) (app_can (enc := enc_s) rfl (rfl) : List.map enc_s v2 ++ List.map enc_s ([(gt p1 v3).1] : List (ByteArray)) = List.map enc_s (v2 ++ ([(gt p1 v3).1] : List (ByteArray)))))) ?_
      exact Wk.refl _
    · replace h := cd_f b1 h
      refine AX.condF (decide (v3 < (p1.length : Int))) (by kernel_rfl) b1 ?_
      refine AX.exit ?_
      refine fin_wk (Wk.forget [3] [0] (s' := ⟨[(3, .sl 0 0 v2.length)], [(0, .arr 1 (List.map enc_s v2))]⟩) (by kernel_rfl)) ?_
      have hr := Option.some.inj h
      subst hr
      exact ⟨_, Wk.refl _, ⟨rfl, rfl⟩⟩

theorem s_spec_namesOf (p1 : List (ByteArray × Int)) (r : List (ByteArray)) (h : m_spec_namesOf p1 = some r) :
    Eng.Spec Tryz.prog 47 [.bs false 2 (List.map enc_si p1)] [] (.sl 0 0 r.length) [.arr 1 (List.map enc_s r)] := by
  unfold m_spec_namesOf at h
  refine Eng.Spec.body Tryz.func47 (by kernel_rfl) rfl (by kernel_rfl) ?_
  refine AX.wkpost ?_
  refine AX.seq ?_
  refine AX.reg (its := []) [0] [] (s1 := ⟨[(0, .bs false 2 (List.map enc_si p1))], []⟩) (C := True) (by kernel_rfl) trivial trivial ?_
  refine AX.seq ?_
  refine AX.reg (its := [.auto { nk := 0 }]) [0, 3] [0] (s1 := ⟨[(0, .bs false 2 (List.map enc_si p1)), (3, .sl 0 0 (([] : List (ByteArray)).length))], [(0, .arr 1 (List.map enc_s ([] : List (ByteArray))))]⟩) (C := True) (by kernel_rfl) trivial trivial ?_
  refine AX.seq ?_
  refine AX.seq ?_
  refine AX.reg (its := []) [0, 3, 4] [0] (s1 := ⟨[(0, .bs false 2 (List.map enc_si p1)), (3, .sl 0 0 (([] : List (ByteArray)).length)), (4, .v (.int .i64 0))], [(0, .arr 1 (List.map enc_s ([] : List (ByteArray))))]⟩) (C := True) (by kernel_rfl) trivial trivial ?_
  refine AX.block ?_
  obtain ⟨x4, e4, h⟩ := bd_e h
  refine AX.wk (Wk.forget [0, 3, 4] [0] (s' := ⟨[(0, .bs false 2 (List.map enc_si p1)), (3, .sl 0 0 (([] : List (ByteArray)).length)), (4, .v (.int .i64 0))], [(0, .arr 1 (List.map enc_s ([] : List (ByteArray))))]⟩) (by kernel_rfl)) ?_
  refine AX.mono (s_spec_namesOf_L1 p1 FU (([] : List (ByteArray)), 0) x4 e4) ?_
  rintro _ _ ⟨rfl, rfl⟩
  skip
  refine AX.seq ?_
  refine AX.reg (its := []) [2] [0] (s1 := ⟨[(2, .sl 0 0 x4.length)], [(0, .arr 1 (List.map enc_s x4))]⟩) (C := True) (by kernel_rfl) trivial trivial ?_
  refine AX.ret ?_
  refine fin_wk (Wk.forget [2] [0] (s' := ⟨[(2, .sl 0 0 x4.length)], [(0, .arr 1 (List.map enc_s x4))]⟩) (by kernel_rfl)) ?_
  have hr := Option.some.inj h
  subst hr
  exact ⟨_, Wk.refl _, .inr rfl, ⟨[0], by kernel_rfl, ⟨rfl, trivial⟩, [.sl 0 0 x4.length], by kernel_rfl, by kernel_rfl⟩⟩

theorem s_spec_number : ∀ (fu : Nat) (p1 : Int) (r : ByteArray) (h : m_spec_number fu p1 = some r),
    Eng.Spec Tryz.prog 83 [.v (.int .i64 p1)] [] (.v (.string r)) [] := by
  intro fu
  induction fu with
  | zero => intro p1 r h; cases h
  | succ fu ih =>
    intro p1 r h
    rw [m_spec_number] at h
    refine Eng.Spec.body Tryz.func83 (by kernel_rfl) rfl (by kernel_rfl) ?_
    refine AX.wkpost ?_
    refine AX.seq ?_
    refine AX.reg (its := []) [0] [] (s1 := ⟨[(0, .v (.int .i64 p1))], []⟩) (C := True) (by kernel_rfl) trivial trivial ?_
    refine AX.seq ?_
    refine AX.seq ?_
    refine AX.reg (its := []) [0, 4] [] (s1 := ⟨[(0, .v (.int .i64 p1)), (4, .v (.bool (decide (p1 < 10))))], []⟩) (C := True) (by kernel_rfl) trivial trivial ?_
    rcases bool_cases (decide (p1 < 10)) with b1 | b1
    · replace h := cd_t b1 h
      refine AX.condT (decide (p1 < 10)) (by kernel_rfl) b1 ?_
      refine AX.seq ?_
      obtain ⟨g2, h⟩ := gd_e h
      obtain ⟨v2, q3, h⟩ := nm_e h
      refine AX.reg (its := [.auto {}, .auto {}, .auto { raw := true }, .auto { y := some (.v (.string v2)) }]) [2] [] (s1 := ⟨[(2, .v (.string v2))], []⟩) (C := ((0 ≤ p1 ∧ p1 ≤ (IntKind.wrap .i64 (p1 + 1)) ∧ (IntKind.wrap .i64 (p1 + 1)) ≤ ((ByteArray.mk #[48, 49, 50, 51, 52, 53, 54, 55, 56, 57]).size : Int)) ∧ ((.v (.string ((ByteArray.mk #[48, 49, 50, 51, 52, 53, 54, 55, 56, 57]).extract p1.toNat (IntKind.wrap .i64 (p1 + 1)).toNat)) : AV) = (.v (.string v2) : AV))) ∧ True) (by kernel_rfl) ⟨⟨g2, (congrArg (fun z => AV.v (.string z)) q3)⟩, trivial⟩ trivial ?_
      refine AX.ret ?_
      refine fin_wk (Wk.forget [2] [] (s' := ⟨[(2, .v (.string v2))], []⟩) (by kernel_rfl)) ?_
      have hr := Option.some.inj h
      subst hr
      exact ⟨_, Wk.refl _, .inr rfl, ⟨[], by kernel_rfl, trivial, [.v (.string v2)], by kernel_rfl, by kernel_rfl⟩⟩
    · replace h := cd_f b1 h
      refine AX.condF (decide (p1 < 10)) (by kernel_rfl) b1 ?_
      refine AX.skip ?_
      refine AX.seq ?_
      obtain ⟨g4, h⟩ := gd_e h
      obtain ⟨x3, e5, h⟩ := bd_e h
      obtain ⟨g6, h⟩ := gd_e h
      obtain ⟨x4, e7, h⟩ := bd_e h
      obtain ⟨g8, h⟩ := gd_e h
      refine AX.reg (its := [.auto {}, .auto {}, .call 83 [.v (.int .i64 (Int.tdiv p1 10))] (handO (rho ([] ++ [])) [] [] ++ []) (callEv [] [] (.v (.string x3)) []), .auto {}, .auto {}, .call 83 [.v (.int .i64 (Int.tmod p1 10))] (handO (rho ([] ++ [])) [] [] ++ []) (callEv [] [] (.v (.string x4)) [])]) [2] [] (s1 := ⟨[(2, .v (.string (x3 ++ x4)))], []⟩) (C := ((10 : Int) ≠ 0 ∧ IntKind.wrap .i64 (Int.tdiv p1 10) = Int.tdiv p1 10) ∧ ((([.v (.int .i64 (Int.tdiv p1 10))] : List AV) = [.v (.int .i64 (Int.tdiv p1 10))]) ∧ True) ∧ ((10 : Int) ≠ 0) ∧ ((([.v (.int .i64 (Int.tmod p1 10))] : List AV) = [.v (.int .i64 (Int.tmod p1 10))]) ∧ True) ∧ (x3.size + x4.size ≤ 9223372036854775807) ∧ True) (by kernel_rfl) ⟨g4, ⟨⟨rfl, trivial⟩, ⟨g6, ⟨⟨rfl, trivial⟩, ⟨g8, trivial⟩⟩⟩⟩⟩ ⟨call_ok (ks := []) (ns := []) (bor := []) (bobjs := []) (ih (Int.tdiv p1 10) x3 e5) (.cons (.c1 (.c0 (.same _ (by kernel_rfl) (by kernel_rfl)))) (.nil)) (by kernel_rfl) trivial, ⟨call_ok (ks := []) (ns := []) (bor := []) (bobjs := []) (ih (Int.tmod p1 10) x4 e7) (.cons (.c1 (.c0 (.same _ (by kernel_rfl) (by kernel_rfl)))) (.nil)) (by kernel_rfl) trivial, trivial⟩⟩ ?_
      refine AX.ret ?_
      refine fin_wk (Wk.forget [2] [] (s' := ⟨[(2, .v (.string (x3 ++ x4)))], []⟩) (by kernel_rfl)) ?_
      have hr := Option.some.inj h
      subst hr
      exact ⟨_, Wk.refl _, .inr rfl, ⟨[], by kernel_rfl, trivial, [.v (.string (x3 ++ x4))], by kernel_rfl, by kernel_rfl⟩⟩

theorem s_spec_valueAt_L1 (p1 : List (ByteArray × Int)) (p2 : Int) (n : Nat) (g : Int) (out : Int ⊕ Unit) (h : m_spec_valueAt_L1 p1 p2 n g = some out) :
    AX Tryz.prog 20 0 (codeAt [1, 0, 1, 1] (bodyOf Tryz.f115)) ((fun g : Int => (⟨[(0, .bs false 2 (List.map enc_si p1)), (1, .v (.int .i64 p2)), (5, .v (.int .i64 g))], []⟩ : S)) g) (fun ex s => (∃ o : Int, out = Sum.inl o ∧ ex = .ret ∧ s = ⟨[(4, .v (.int .i64 o))], []⟩) ∨ (∃ o : Unit, out = Sum.inr o ∧ ex = .exit 0 ∧ s = ⟨[], []⟩)) := by
  refine AX.wkpost ?_
  refine AX.loop (G := Nat × (Int)) (fun q => (fun g : Int => (⟨[(0, .bs false 2 (List.map enc_si p1)), (1, .v (.int .i64 p2)), (5, .v (.int .i64 g))], []⟩ : S)) q.2) (fun q => m_spec_valueAt_L1 p1 p2 q.1 q.2 = some out) (fun q => q.1) (n, g) h (Wk.refl _) ?_
  clear h
  rintro ⟨fu, v3⟩ h
  cases fu with
  | zero => cases h
  | succ fu =>
    rw [m_spec_valueAt_L1] at h
    refine AX.seq ?_
    refine AX.seq ?_
    refine AX.reg (its := [.auto {}, .auto {}, .auto { y := some (.v (.int .i64 (p1.length : Int))) }]) [0, 1, 5, 9] [] (s1 := ⟨[(0, .bs false 2 (List.map enc_si p1)), (1, .v (.int .i64 p2)), (5, .v (.int .i64 v3)), (9, .v (.bool (decide (v3 < (p1.length : Int)))))], []⟩) (C := (True ∧ (AV.v (.int .i64 ((List.map enc_si p1).length : Int)) = AV.v (.int .i64 (p1.length : Int)))) ∧ True) (by kernel_rfl) ⟨⟨trivial, len_map enc_si p1⟩, trivial⟩ trivial ?_
    rcases bool_cases (decide (v3 < (p1.length : Int))) with b1 | b1
    · replace h := cd_t b1 h
      refine AX.condT (decide (v3 < (p1.length : Int))) (by kernel_rfl) b1 ?_
      refine AX.skip ?_
      refine AX.seq ?_
      refine AX.block ?_
      refine AX.seq ?_
      obtain ⟨g2, h⟩ := gd_e h
      refine AX.reg (its := [.auto {}, .auto {}, .auto { y := some (.be 2 (enc_si (gt p1 v3)) 0) }]) [0, 1, 5, 18] [] (s1 := ⟨[(0, .bs false 2 (List.map enc_si p1)), (1, .v (.int .i64 p2)), (5, .v (.int .i64 v3)), (18, .v (.bool (decide (((gt p1 v3).2) = p2))))], []⟩) (C := ((0 ≤ v3 ∧ v3 < ((List.map enc_si p1).length : Int)) ∧ (AV.be 2 ((List.map enc_si p1).getD v3.toNat []) 0 = AV.be 2 (enc_si (gt p1 v3)) 0)) ∧ True) (by kernel_rfl) ⟨idx_bs enc_si p1 v3 2 g2, trivial⟩ trivial ?_
      rcases bool_cases (decide (((gt p1 v3).2) = p2)) with b3 | b3
      · replace h := cd_t b3 h
        refine AX.condT (decide (((gt p1 v3).2) = p2)) (by kernel_rfl) b3 ?_
        refine AX.seq ?_
        refine AX.reg (its := []) [4] [] (s1 := ⟨[(4, .v (.int .i64 v3))], []⟩) (C := True) (by kernel_rfl) trivial trivial ?_
        refine AX.ret ?_
        refine fin_wk (Wk.forget [4] [] (s' := ⟨[(4, .v (.int .i64 v3))], []⟩) (by kernel_rfl)) ?_
        have hr := Option.some.inj h
        subst hr
        exact ⟨_, Wk.refl _, .inl ⟨v3, rfl, rfl, rfl⟩⟩
      · replace h := cd_f b3 h
        refine AX.condF (decide (((gt p1 v3).2) = p2)) (by kernel_rfl) b3 ?_
        refine AX.skip ?_
        refine AX.reg (its := [.auto {}, .auto { raw := true }]) [0, 1, 5] [] (s1 := ⟨[(0, .bs false 2 (List.map enc_si p1)), (1, .v (.int .i64 p2)), (5, .v (.int .i64 (IntKind.wrap .i64 (v3 + 1))))], []⟩) (C := True) (by kernel_rfl) trivial trivial ?_
        refine ⟨(fu, IntKind.wrap .i64 (v3 + 1)), h, Nat.lt_succ_self _, ?_⟩
        refine Wk.trans (Wk.forget [0, 1, 5] [] (s' := ⟨[(0, .bs false 2 (List.map enc_si p1)), (1, .v (.int .i64 p2)), (5, .v (.int .i64 (IntKind.wrap .i64 (v3 + 1))))], []⟩) (by kernel_rfl)) ?_
        exact Wk.refl _
    · replace h := cd_f b1 h
      refine AX.condF (decide (v3 < (p1.length : Int))) (by kernel_rfl) b1 ?_
      refine AX.exit ?_
      refine fin_wk (Wk.forget [] [] (s' := ⟨[], []⟩) (by kernel_rfl)) ?_
      have hr := Option.some.inj h
      subst hr
      exact ⟨_, Wk.refl _, .inr ⟨(), rfl, rfl, rfl⟩⟩

theorem s_spec_valueAt (p1 : List (ByteArray × Int)) (p2 : Int) (r : Int) (h : m_spec_valueAt p1 p2 = some r) :
    Eng.Spec Tryz.prog 115 [.bs false 2 (List.map enc_si p1), .v (.int .i64 p2)] [] (.v (.int .i64 r)) [] := by
  unfold m_spec_valueAt at h
  refine Eng.Spec.body Tryz.func115 (by kernel_rfl) rfl (by kernel_rfl) ?_
  refine AX.wkpost ?_
  refine AX.seq ?_
  refine AX.reg (its := []) [0, 1] [] (s1 := ⟨[(0, .bs false 2 (List.map enc_si p1)), (1, .v (.int .i64 p2))], []⟩) (C := True) (by kernel_rfl) trivial trivial ?_
  refine AX.seq ?_
  refine AX.seq ?_
  refine AX.reg (its := []) [0, 1, 5] [] (s1 := ⟨[(0, .bs false 2 (List.map enc_si p1)), (1, .v (.int .i64 p2)), (5, .v (.int .i64 0))], []⟩) (C := True) (by kernel_rfl) trivial trivial ?_
  refine AX.block ?_
  obtain ⟨x4, e4, h⟩ := bd_e h
  refine AX.wk (Wk.forget [0, 1, 5] [] (s' := ⟨[(0, .bs false 2 (List.map enc_si p1)), (1, .v (.int .i64 p2)), (5, .v (.int .i64 0))], []⟩) (by kernel_rfl)) ?_
  refine AX.mono (s_spec_valueAt_L1 p1 p2 FU 0 x4 e4) ?_
  rintro _ _ (⟨x5, rfl, rfl, rfl⟩ | ⟨x6, rfl, rfl, rfl⟩)
  · replace h := sm_l h
    refine fin_wk (Wk.forget [4] [] (s' := ⟨[(4, .v (.int .i64 x5))], []⟩) (by kernel_rfl)) ?_
    have hr := Option.some.inj h
    subst hr
    exact ⟨_, Wk.refl _, .inr rfl, ⟨[], by kernel_rfl, trivial, [.v (.int .i64 x5)], by kernel_rfl, by kernel_rfl⟩⟩
  · replace h := sm_r h
    refine AX.seq ?_
    refine AX.reg (its := []) [4] [] (s1 := ⟨[(4, .v (.int .i64 (-1)))], []⟩) (C := True) (by kernel_rfl) trivial trivial ?_
    refine AX.ret ?_
    refine fin_wk (Wk.forget [4] [] (s' := ⟨[(4, .v (.int .i64 (-1)))], []⟩) (by kernel_rfl)) ?_
    have hr := Option.some.inj h
    subst hr
    exact ⟨_, Wk.refl _, .inr rfl, ⟨[], by kernel_rfl, trivial, [.v (.int .i64 (-1))], by kernel_rfl, by kernel_rfl⟩⟩

theorem s_spec_zeroText (p1 : List (ByteArray × Int)) (r : ByteArray) (h : m_spec_zeroText p1 = some r) :
    Eng.Spec Tryz.prog 84 [.bs false 2 (List.map enc_si p1)] [] (.v (.string r)) [] := by
  unfold m_spec_zeroText at h
  refine Eng.Spec.body Tryz.func84 (by kernel_rfl) rfl (by kernel_rfl) ?_
  refine AX.wkpost ?_
  refine AX.seq ?_
  refine AX.reg (its := []) [0] [] (s1 := ⟨[(0, .bs false 2 (List.map enc_si p1))], []⟩) (C := True) (by kernel_rfl) trivial trivial ?_
  refine AX.seq ?_
  obtain ⟨x2, e1, h⟩ := bd_e h
  refine AX.reg (its := [.auto {}, .call 115 [.bs false 2 (List.map enc_si p1), .v (.int .i64 0)] (handO (rho ([] ++ [])) [] [] ++ []) (callEv [] [] (.v (.int .i64 x2)) [])]) [0, 3] [] (s1 := ⟨[(0, .bs false 2 (List.map enc_si p1)), (3, .v (.int .i64 x2))], []⟩) (C := ((([.bs false 2 (List.map enc_si p1), .v (.int .i64 0)] : List AV) = [.bs false 2 (List.map enc_si p1), .v (.int .i64 0)]) ∧ True) ∧ True) (by kernel_rfl) ⟨⟨rfl, trivial⟩, trivial⟩ ⟨call_ok (ks := []) (ns := []) (bor := []) (bobjs := []) (s_spec_valueAt p1 0 x2 e1) (.cons (.c1 (.c0 (.same _ (by kernel_rfl) (by kernel_rfl)))) (.cons (.c1 (.c0 (.same _ (by kernel_rfl) (by kernel_rfl)))) (.nil))) (by kernel_rfl) trivial, trivial⟩ ?_
  refine AX.seq ?_
  refine AX.seq ?_
  refine AX.reg (its := []) [0, 3, 7] [] (s1 := ⟨[(0, .bs false 2 (List.map enc_si p1)), (3, .v (.int .i64 x2)), (7, .v (.bool (decide (0 ≤ x2))))], []⟩) (C := True) (by kernel_rfl) trivial trivial ?_
  rcases bool_cases (decide (0 ≤ x2)) with b2 | b2
  · replace h := cd_t b2 h
    refine AX.condT (decide (0 ≤ x2)) (by kernel_rfl) b2 ?_
    refine AX.seq ?_
    obtain ⟨g3, h⟩ := gd_e h
    refine AX.reg (its := [.auto {}, .auto {}, .auto { y := some (.be 2 (enc_si (gt p1 x2)) 0) }]) [2] [] (s1 := ⟨[(2, .v (.string ((gt p1 x2).1)))], []⟩) (C := ((0 ≤ x2 ∧ x2 < ((List.map enc_si p1).length : Int)) ∧ (AV.be 2 ((List.map enc_si p1).getD x2.toNat []) 0 = AV.be 2 (enc_si (gt p1 x2)) 0)) ∧ True) (by kernel_rfl) ⟨idx_bs enc_si p1 x2 2 g3, trivial⟩ trivial ?_
    refine AX.ret ?_
    refine fin_wk (Wk.forget [2] [] (s' := ⟨[(2, .v (.string ((gt p1 x2).1)))], []⟩) (by kernel_rfl)) ?_
    have hr := Option.some.inj h
    subst hr
    exact ⟨_, Wk.refl _, .inr rfl, ⟨[], by kernel_rfl, trivial, [.v (.string ((gt p1 x2).1))], by kernel_rfl, by kernel_rfl⟩⟩
  · replace h := cd_f b2 h
    refine AX.condF (decide (0 ≤ x2)) (by kernel_rfl) b2 ?_
    refine AX.skip ?_
    refine AX.seq ?_
    refine AX.reg (its := []) [2] [] (s1 := ⟨[(2, .v (.string (ByteArray.mk #[48])))], []⟩) (C := True) (by kernel_rfl) trivial trivial ?_
    refine AX.ret ?_
    refine fin_wk (Wk.forget [2] [] (s' := ⟨[(2, .v (.string (ByteArray.mk #[48])))], []⟩) (by kernel_rfl)) ?_
    have hr := Option.some.inj h
    subst hr
    exact ⟨_, Wk.refl _, .inr rfl, ⟨[], by kernel_rfl, trivial, [.v (.string (ByteArray.mk #[48]))], by kernel_rfl, by kernel_rfl⟩⟩

theorem s_spec_joinWith_L1 (p1 : List (ByteArray)) (p2 : ByteArray) (n : Nat) (g : ByteArray × Int) (out : ByteArray) (h : m_spec_joinWith_L1 p1 p2 n g.1 g.2 = some out) :
    AX Tryz.prog 25 0 (codeAt [1, 1, 0, 1, 1] (bodyOf Tryz.f64)) ((fun g : ByteArray × Int => (⟨[(0, .bs false 1 (List.map enc_s p1)), (1, .v (.string p2)), (5, .v (.string g.1)), (6, .v (.int .i64 g.2))], []⟩ : S)) g) (fun ex s => ex = .exit 0 ∧ s = (fun o : ByteArray => (⟨[(5, .v (.string o))], []⟩ : S)) out) := by
  refine AX.wkpost ?_
  refine AX.loop (G := Nat × (ByteArray × Int)) (fun q => (fun g : ByteArray × Int => (⟨[(0, .bs false 1 (List.map enc_s p1)), (1, .v (.string p2)), (5, .v (.string g.1)), (6, .v (.int .i64 g.2))], []⟩ : S)) q.2) (fun q => m_spec_joinWith_L1 p1 p2 q.1 q.2.1 q.2.2 = some out) (fun q => q.1) (n, g) h (Wk.refl _) ?_
  clear h
  rintro ⟨fu, v3, v4⟩ h
  cases fu with
  | zero => cases h
  | succ fu =>
    rw [m_spec_joinWith_L1] at h
    refine AX.seq ?_
    refine AX.seq ?_
    refine AX.reg (its := [.auto {}, .auto {}, .auto { y := some (.v (.int .i64 (p1.length : Int))) }]) [0, 1, 5, 6, 10] [] (s1 := ⟨[(0, .bs false 1 (List.map enc_s p1)), (1, .v (.string p2)), (5, .v (.string v3)), (6, .v (.int .i64 v4)), (10, .v (.bool (decide (v4 < (p1.length : Int)))))], []⟩) (C := (True ∧ (AV.v (.int .i64 ((List.map enc_s p1).length : Int)) = AV.v (.int .i64 (p1.length : Int)))) ∧ True) (by kernel_rfl) ⟨⟨trivial, len_map enc_s p1⟩, trivial⟩ trivial ?_
    rcases bool_cases (decide (v4 < (p1.length : Int))) with b1 | b1
    · replace h := cd_t b1 h
      refine AX.condT (decide (v4 < (p1.length : Int))) (by kernel_rfl) b1 ?_
      refine AX.skip ?_
      refine AX.seq ?_
      refine AX.block ?_
      refine AX.seq ?_
      refine AX.seq ?_
      refine AX.reg (its := []) [0, 1, 5, 6, 14] [] (s1 := ⟨[(0, .bs false 1 (List.map enc_s p1)), (1, .v (.string p2)), (5, .v (.string v3)), (6, .v (.int .i64 v4)), (14, .v (.bool (decide (0 < v4))))], []⟩) (C := True) (by kernel_rfl) trivial trivial ?_
      rcases bool_cases (decide (0 < v4)) with b2 | b2
      · replace h := cd_t b2 h
        refine AX.condT (decide (0 < v4)) (by kernel_rfl) b2 ?_
        obtain ⟨g3, h⟩ := gd_e h
        refine AX.reg (its := []) [0, 1, 5, 6] [] (s1 := ⟨[(0, .bs false 1 (List.map enc_s p1)), (1, .v (.string p2)), (5, .v (.string (v3 ++ p2))), (6, .v (.int .i64 v4))], []⟩) (C := (v3.size + p2.size ≤ 9223372036854775807) ∧ True) (by kernel_rfl) ⟨g3, trivial⟩ trivial ?_
        obtain ⟨g4, h⟩ := gd_e h
        obtain ⟨g5, h⟩ := gd_e h
        refine AX.reg (its := [.auto {}, .auto {}, .auto {}, .auto { y := some (.be 1 (enc_s (gt p1 v4)) 0) }]) [0, 1, 5, 6] [] (s1 := ⟨[(0, .bs false 1 (List.map enc_s p1)), (1, .v (.string p2)), (5, .v (.string ((v3 ++ p2) ++ (gt p1 v4)))), (6, .v (.int .i64 v4))], []⟩) (C := ((0 ≤ v4 ∧ v4 < ((List.map enc_s p1).length : Int)) ∧ (AV.be 1 ((List.map enc_s p1).getD v4.toNat []) 0 = AV.be 1 (enc_s (gt p1 v4)) 0)) ∧ ((v3 ++ p2).size + (gt p1 v4).size ≤ 9223372036854775807) ∧ True) (by kernel_rfl) ⟨idx_bs enc_s p1 v4 1 g4, ⟨g5, trivial⟩⟩ trivial ?_
        refine AX.reg (its := [.auto {}, .auto { raw := true }]) [0, 1, 5, 6] [] (s1 := ⟨[(0, .bs false 1 (List.map enc_s p1)), (1, .v (.string p2)), (5, .v (.string ((v3 ++ p2) ++ (gt p1 v4)))), (6, .v (.int .i64 (IntKind.wrap .i64 (v4 + 1))))], []⟩) (C := True) (by kernel_rfl) trivial trivial ?_
        refine ⟨(fu, ((v3 ++ p2) ++ (gt p1 v4), IntKind.wrap .i64 (v4 + 1))), h, Nat.lt_succ_self _, ?_⟩
        refine Wk.trans (Wk.forget [0, 1, 5, 6] [] (s' := ⟨[(0, .bs false 1 (List.map enc_s p1)), (1, .v (.string p2)), (5, .v (.string ((v3 ++ p2) ++ (gt p1 v4)))), (6, .v (.int .i64 (IntKind.wrap .i64 (v4 + 1))))], []⟩) (by kernel_rfl)) ?_
        exact Wk.refl _
      · replace h := cd_f b2 h
        refine AX.condF (decide (0 < v4)) (by kernel_rfl) b2 ?_
        refine AX.skip ?_
        obtain ⟨g6, h⟩ := gd_e h
        obtain ⟨g7, h⟩ := gd_e h
        refine AX.reg (its := [.auto {}, .auto {}, .auto {}, .auto { y := some (.be 1 (enc_s (gt p1 v4)) 0) }]) [0, 1, 5, 6] [] (s1 := ⟨[(0, .bs false 1 (List.map enc_s p1)), (1, .v (.string p2)), (5, .v (.string (v3 ++ (gt p1 v4)))), (6, .v (.int .i64 v4))], []⟩) (C := ((0 ≤ v4 ∧ v4 < ((List.map enc_s p1).length : Int)) ∧ (AV.be 1 ((List.map enc_s p1).getD v4.toNat []) 0 = AV.be 1 (enc_s (gt p1 v4)) 0)) ∧ (v3.size + (gt p1 v4).size ≤ 9223372036854775807) ∧ True) (by kernel_rfl) ⟨idx_bs enc_s p1 v4 1 g6, ⟨g7, trivial⟩⟩ trivial ?_
        refine AX.reg (its := [.auto {}, .auto { raw := true }]) [0, 1, 5, 6] [] (s1 := ⟨[(0, .bs false 1 (List.map enc_s p1)), (1, .v (.string p2)), (5, .v (.string (v3 ++ (gt p1 v4)))), (6, .v (.int .i64 (IntKind.wrap .i64 (v4 + 1))))], []⟩) (C := True) (by kernel_rfl) trivial trivial ?_
        refine ⟨(fu, (v3 ++ (gt p1 v4), IntKind.wrap .i64 (v4 + 1))), h, Nat.lt_succ_self _, ?_⟩
        refine Wk.trans (Wk.forget [0, 1, 5, 6] [] (s' := ⟨[(0, .bs false 1 (List.map enc_s p1)), (1, .v (.string p2)), (5, .v (.string (v3 ++ (gt p1 v4)))), (6, .v (.int .i64 (IntKind.wrap .i64 (v4 + 1))))], []⟩) (by kernel_rfl)) ?_
        exact Wk.refl _
    · replace h := cd_f b1 h
      refine AX.condF (decide (v4 < (p1.length : Int))) (by kernel_rfl) b1 ?_
      refine AX.exit ?_
      refine fin_wk (Wk.forget [5] [] (s' := ⟨[(5, .v (.string v3))], []⟩) (by kernel_rfl)) ?_
      have hr := Option.some.inj h
      subst hr
      exact ⟨_, Wk.refl _, ⟨rfl, rfl⟩⟩

theorem s_spec_joinWith (p1 : List (ByteArray)) (p2 : ByteArray) (r : ByteArray) (h : m_spec_joinWith p1 p2 = some r) :
    Eng.Spec Tryz.prog 64 [.bs false 1 (List.map enc_s p1), .v (.string p2)] [] (.v (.string r)) [] := by
  unfold m_spec_joinWith at h
  refine Eng.Spec.body Tryz.func64 (by kernel_rfl) rfl (by kernel_rfl) ?_
  refine AX.wkpost ?_
  refine AX.seq ?_
  refine AX.reg (its := []) [0, 1] [] (s1 := ⟨[(0, .bs false 1 (List.map enc_s p1)), (1, .v (.string p2))], []⟩) (C := True) (by kernel_rfl) trivial trivial ?_
  refine AX.seq ?_
  refine AX.reg (its := []) [0, 1, 5] [] (s1 := ⟨[(0, .bs false 1 (List.map enc_s p1)), (1, .v (.string p2)), (5, .v (.string ByteArray.empty))], []⟩) (C := True) (by kernel_rfl) trivial trivial ?_
  refine AX.seq ?_
  refine AX.seq ?_
  refine AX.reg (its := []) [0, 1, 5, 6] [] (s1 := ⟨[(0, .bs false 1 (List.map enc_s p1)), (1, .v (.string p2)), (5, .v (.string ByteArray.empty)), (6, .v (.int .i64 0))], []⟩) (C := True) (by kernel_rfl) trivial trivial ?_
  refine AX.block ?_
  obtain ⟨x5, e8, h⟩ := bd_e h
  refine AX.wk (Wk.forget [0, 1, 5, 6] [] (s' := ⟨[(0, .bs false 1 (List.map enc_s p1)), (1, .v (.string p2)), (5, .v (.string ByteArray.empty)), (6, .v (.int .i64 0))], []⟩) (by kernel_rfl)) ?_
  refine AX.mono (s_spec_joinWith_L1 p1 p2 FU (ByteArray.empty, 0) x5 e8) ?_
  rintro _ _ ⟨rfl, rfl⟩
  skip
  refine AX.seq ?_
  refine AX.reg (its := []) [4] [] (s1 := ⟨[(4, .v (.string x5))], []⟩) (C := True) (by kernel_rfl) trivial trivial ?_
  refine AX.ret ?_
  refine fin_wk (Wk.forget [4] [] (s' := ⟨[(4, .v (.string x5))], []⟩) (by kernel_rfl)) ?_
  have hr := Option.some.inj h
  subst hr
  exact ⟨_, Wk.refl _, .inr rfl, ⟨[], by kernel_rfl, trivial, [.v (.string x5)], by kernel_rfl, by kernel_rfl⟩⟩

theorem s_spec_withRest (p1 : List (ByteArray × Int)) (p2 : List (ByteArray)) (p3 : Int) (r : ByteArray) (h : m_spec_withRest p1 p2 p3 = some r) :
    Eng.Spec Tryz.prog 46 [.bs false 2 (List.map enc_si p1), .bs false 1 (List.map enc_s p2), .v (.int .i64 p3)] [] (.v (.string r)) [] := by
  unfold m_spec_withRest at h
  refine Eng.Spec.body Tryz.func46 (by kernel_rfl) rfl (by kernel_rfl) ?_
  refine AX.wkpost ?_
  refine AX.seq ?_
  refine AX.reg (its := []) [0, 1, 2] [] (s1 := ⟨[(0, .bs false 2 (List.map enc_si p1)), (1, .bs false 1 (List.map enc_s p2)), (2, .v (.int .i64 p3))], []⟩) (C := True) (by kernel_rfl) trivial trivial ?_
  refine AX.seq ?_
  refine AX.seq ?_
  refine AX.reg (its := []) [0, 1, 2, 8] [] (s1 := ⟨[(0, .bs false 2 (List.map enc_si p1)), (1, .bs false 1 (List.map enc_s p2)), (2, .v (.int .i64 p3)), (8, .v (.bool (decide (0 < p3))))], []⟩) (C := True) (by kernel_rfl) trivial trivial ?_
  rcases bool_cases (decide (0 < p3)) with b1 | b1
  · replace h := cd_t b1 h
    refine AX.condT (decide (0 < p3)) (by kernel_rfl) b1 ?_
    obtain ⟨g2, h⟩ := gd_e h
    obtain ⟨x4, e3, h⟩ := bd_e h
    obtain ⟨g4, h⟩ := gd_e h
    refine AX.reg (its := [.auto { nk := 0 }, .auto {}, .auto { y := some (.sl 1 0 ((([] : List (ByteArray)) ++ p2).length)), els := some (List.map enc_s ([] : List (ByteArray))), nk := 1 }, .auto {}, .call 83 [.v (.int .i64 p3)] (handO (rho ([] ++ [])) [] [] ++ []) (callEv [] [] (.v (.string x4)) []), .auto { nk := 2 }, .auto { y := some (.sl 3 0 (((([] : List (ByteArray)) ++ p2) ++ ([x4] : List (ByteArray))).length)), els := some (List.map enc_s (([] : List (ByteArray)) ++ p2)), els2 := some (List.map enc_s ([x4] : List (ByteArray))), nk := 3 }]) [0, 1] [3] (s1 := ⟨[(0, .bs false 2 (List.map enc_si p1)), (1, .sl 3 0 (((([] : List (ByteArray)) ++ p2) ++ ([x4] : List (ByteArray))).length))], [(3, .arr 1 (List.map enc_s (([] : List (ByteArray)) ++ p2) ++ List.map enc_s ([x4] : List (ByteArray))))]⟩) (C := ((((((List.map enc_s ([] : List (ByteArray))).drop 0).take (([] : List (ByteArray)).length) = List.map enc_s ([] : List (ByteArray))) ∧ True) ∧ (List.map enc_s ([] : List (ByteArray))).length + (List.map enc_s p2).length ≤ 1099511627776) ∧ (AV.sl 1 0 (List.map enc_s ([] : List (ByteArray)) ++ List.map enc_s p2).length = AV.sl 1 0 (([] : List (ByteArray)) ++ p2).length)) ∧ ((([.v (.int .i64 p3)] : List AV) = [.v (.int .i64 p3)]) ∧ True) ∧ ((((((List.map enc_s ([] : List (ByteArray)) ++ List.map enc_s p2).drop 0).take ((([] : List (ByteArray)) ++ p2).length) = List.map enc_s (([] : List (ByteArray)) ++ p2)) ∧ (((List.map enc_s ([x4] : List (ByteArray))).drop 0).take (([x4] : List (ByteArray)).length) = List.map enc_s ([x4] : List (ByteArray)))) ∧ (List.map enc_s (([] : List (ByteArray)) ++ p2)).length + (List.map enc_s ([x4] : List (ByteArray))).length ≤ 1099511627776) ∧ (AV.sl 3 0 (List.map enc_s (([] : List (ByteArray)) ++ p2) ++ List.map enc_s ([x4] : List (ByteArray))).length = AV.sl 3 0 ((([] : List (ByteArray)) ++ p2) ++ ([x4] : List (ByteArray))).length)) ∧ True) (by kernel_rfl) ⟨⟨⟨⟨(dt_all (enc := enc_s) rfl rfl), trivial⟩, (by simp only [List.length_map, List.length_nil, List.length_replicate]; simpa using g2)⟩, sl_len (enc := enc_s) (app_can (enc := enc_s) rfl (rfl))⟩, ⟨⟨rfl, trivial⟩, ⟨⟨⟨⟨(dt_all (enc := enc_s) (app_can (enc := enc_s) rfl (rfl) : List.map enc_s ([] : List (ByteArray)) ++ List.map enc_s p2 = List.map enc_s (([] : List (ByteArray)) ++ p2)) rfl), (dt_all (enc := enc_s) rfl rfl)⟩, (by simp only [List.length_map, List.length_nil, List.length_replicate]; simpa using g4)⟩, sl_len (enc := enc_s) (app_can (enc := enc_s) rfl (rfl))⟩, trivial⟩⟩⟩ ⟨call_ok (ks := []) (ns := []) (bor := []) (bobjs := []) (s_spec_number FU p3 x4 e3) (.cons (.c1 (.c0 (.same _ (by kernel_rfl) (by kernel_rfl)))) (.nil)) (by kernel_rfl) trivial, trivial⟩ ?_
    refine AX.seq ?_
    refine AX.seq ?_
    obtain ⟨v5, q5, h⟩ := nm_e h
    refine AX.reg (its := [.auto {}, .auto { y := some (.v (.int .i64 v5)) }]) [0, 1, 18] [3] (s1 := ⟨[(0, .bs false 2 (List.map enc_si p1)), (1, .sl 3 0 (((([] : List (ByteArray)) ++ p2) ++ ([x4] : List (ByteArray))).length)), (18, .v (.bool (decide (v5 = 0))))], [(3, .arr 1 (List.map enc_s (([] : List (ByteArray)) ++ p2) ++ List.map enc_s ([x4] : List (ByteArray))))]⟩) (C := ((True) ∧ ((.v (.int .i64 (((([] : List (ByteArray)) ++ p2) ++ ([x4] : List (ByteArray))).length : Int)) : AV) = (.v (.int .i64 v5) : AV))) ∧ True) (by kernel_rfl) ⟨⟨trivial, (congrArg (fun z => AV.v (.int .i64 z)) q5)⟩, trivial⟩ trivial ?_
    rcases bool_cases (decide (v5 = 0)) with b6 | b6
    · replace h := cd_t b6 h
      refine AX.condT (decide (v5 = 0)) (by kernel_rfl) b6 ?_
      refine AX.seq ?_
      obtain ⟨x6, e7, h⟩ := bd_e h
      refine AX.reg (its := [.auto {}, .call 84 [.bs false 2 (List.map enc_si p1)] (handO (rho ([] ++ [])) [] [] ++ []) (callEv [] [] (.v (.string x6)) [])]) [6] [] (s1 := ⟨[(6, .v (.string x6))], []⟩) (C := ((([.bs false 2 (List.map enc_si p1)] : List AV) = [.bs false 2 (List.map enc_si p1)]) ∧ True) ∧ True) (by kernel_rfl) ⟨⟨rfl, trivial⟩, trivial⟩ ⟨call_ok (ks := []) (ns := []) (bor := []) (bobjs := []) (s_spec_zeroText p1 x6 e7) (.cons (.c1 (.c0 (.same _ (by kernel_rfl) (by kernel_rfl)))) (.nil)) (by kernel_rfl) trivial, trivial⟩ ?_
      refine AX.ret ?_
      refine fin_wk (Wk.forget [6] [] (s' := ⟨[(6, .v (.string x6))], []⟩) (by kernel_rfl)) ?_
      have hr := Option.some.inj h
      subst hr
      exact ⟨_, Wk.refl _, .inr rfl, ⟨[], by kernel_rfl, trivial, [.v (.string x6)], by kernel_rfl, by kernel_rfl⟩⟩
    · replace h := cd_f b6 h
      refine AX.condF (decide (v5 = 0)) (by kernel_rfl) b6 ?_
      refine AX.skip ?_
      refine AX.seq ?_
      obtain ⟨x7, e8, h⟩ := bd_e h
      refine AX.reg (its := [.auto {}, .call 64 [.sl 3 0 (((([] : List (ByteArray)) ++ p2) ++ ([x4] : List (ByteArray))).length), .v (.string (ByteArray.mk #[124]))] (handO (rho ([] ++ [])) [] [] ++ [(3, .arr 1 (List.map enc_s ((([] : List (ByteArray)) ++ p2) ++ ([x4] : List (ByteArray)))))]) (callEv [] [] (.v (.string x7)) [])]) [6] [] (s1 := ⟨[(6, .v (.string x7))], []⟩) (C := ((([.sl 3 0 (((([] : List (ByteArray)) ++ p2) ++ ([x4] : List (ByteArray))).length), .v (.string (ByteArray.mk #[124]))] : List AV) = [.sl 3 0 (((([] : List (ByteArray)) ++ p2) ++ ([x4] : List (ByteArray))).length), .v (.string (ByteArray.mk #[124]))]) ∧ (AO.arr 1 (List.map enc_s (([] : List (ByteArray)) ++ p2) ++ List.map enc_s ([x4] : List (ByteArray))) = AO.arr 1 (List.map enc_s ((([] : List (ByteArray)) ++ p2) ++ ([x4] : List (ByteArray))))) ∧ True) ∧ True) (by kernel_rfl) ⟨⟨rfl, arr_eq (app_can (enc := enc_s) rfl (rfl) : List.map enc_s (([] : List (ByteArray)) ++ p2) ++ List.map enc_s ([x4] : List (ByteArray)) = List.map enc_s ((([] : List (ByteArray)) ++ p2) ++ ([x4] : List (ByteArray)))), trivial⟩, trivial⟩ ⟨call_ok (ks := []) (ns := []) (bor := [3]) (bobjs := [(3, .arr 1 (List.map enc_s ((([] : List (ByteArray)) ++ p2) ++ ([x4] : List (ByteArray)))))]) (s_spec_joinWith ((([] : List (ByteArray)) ++ p2) ++ ([x4] : List (ByteArray))) (ByteArray.mk #[124]) x7 e8) (.cons (.c1 (.c0 (.arr rfl rfl ((rfl).trans (List.length_map ..).symm)))) (.cons (.c1 (.c0 (.same _ (by kernel_rfl) (by kernel_rfl)))) (.nil))) (by kernel_rfl) trivial, trivial⟩ ?_
      refine AX.ret ?_
      refine fin_wk (Wk.forget [6] [] (s' := ⟨[(6, .v (.string x7))], []⟩) (by kernel_rfl)) ?_
      have hr := Option.some.inj h
      subst hr
      exact ⟨_, Wk.refl _, .inr rfl, ⟨[], by kernel_rfl, trivial, [.v (.string x7)], by kernel_rfl, by kernel_rfl⟩⟩
  · replace h := cd_f b1 h
    refine AX.condF (decide (0 < p3)) (by kernel_rfl) b1 ?_
    refine AX.skip ?_
    refine AX.seq ?_
    refine AX.seq ?_
    refine AX.reg (its := [.auto {}, .auto { y := some (.v (.int .i64 (p2.length : Int))) }]) [0, 1, 18] [] (s1 := ⟨[(0, .bs false 2 (List.map enc_si p1)), (1, .bs false 1 (List.map enc_s p2)), (18, .v (.bool (decide ((p2.length : Int) = 0))))], []⟩) (C := (True ∧ (AV.v (.int .i64 ((List.map enc_s p2).length : Int)) = AV.v (.int .i64 (p2.length : Int)))) ∧ True) (by kernel_rfl) ⟨⟨trivial, len_map enc_s p2⟩, trivial⟩ trivial ?_
    rcases bool_cases (decide ((p2.length : Int) = 0)) with b9 | b9
    · replace h := cd_t b9 h
      refine AX.condT (decide ((p2.length : Int) = 0)) (by kernel_rfl) b9 ?_
      refine AX.seq ?_
      obtain ⟨x8, e10, h⟩ := bd_e h
      refine AX.reg (its := [.auto {}, .call 84 [.bs false 2 (List.map enc_si p1)] (handO (rho ([] ++ [])) [] [] ++ []) (callEv [] [] (.v (.string x8)) [])]) [6] [] (s1 := ⟨[(6, .v (.string x8))], []⟩) (C := ((([.bs false 2 (List.map enc_si p1)] : List AV) = [.bs false 2 (List.map enc_si p1)]) ∧ True) ∧ True) (by kernel_rfl) ⟨⟨rfl, trivial⟩, trivial⟩ ⟨call_ok (ks := []) (ns := []) (bor := []) (bobjs := []) (s_spec_zeroText p1 x8 e10) (.cons (.c1 (.c0 (.same _ (by kernel_rfl) (by kernel_rfl)))) (.nil)) (by kernel_rfl) trivial, trivial⟩ ?_
      refine AX.ret ?_
      refine fin_wk (Wk.forget [6] [] (s' := ⟨[(6, .v (.string x8))], []⟩) (by kernel_rfl)) ?_
      have hr := Option.some.inj h
      subst hr
      exact ⟨_, Wk.refl _, .inr rfl, ⟨[], by kernel_rfl, trivial, [.v (.string x8)], by kernel_rfl, by kernel_rfl⟩⟩
    · replace h := cd_f b9 h
      refine AX.condF (decide ((p2.length : Int) = 0)) (by kernel_rfl) b9 ?_
      refine AX.skip ?_
      refine AX.seq ?_
      obtain ⟨x9, e11, h⟩ := bd_e h
      refine AX.reg (its := [.auto {}, .call 64 [.bs false 1 (List.map enc_s p2), .v (.string (ByteArray.mk #[124]))] (handO (rho ([] ++ [])) [] [] ++ []) (callEv [] [] (.v (.string x9)) [])]) [6] [] (s1 := ⟨[(6, .v (.string x9))], []⟩) (C := ((([.bs false 1 (List.map enc_s p2), .v (.string (ByteArray.mk #[124]))] : List AV) = [.bs false 1 (List.map enc_s p2), .v (.string (ByteArray.mk #[124]))]) ∧ True) ∧ True) (by kernel_rfl) ⟨⟨rfl, trivial⟩, trivial⟩ ⟨call_ok (ks := []) (ns := []) (bor := []) (bobjs := []) (s_spec_joinWith p2 (ByteArray.mk #[124]) x9 e11) (.cons (.c1 (.c0 (.same _ (by kernel_rfl) (by kernel_rfl)))) (.cons (.c1 (.c0 (.same _ (by kernel_rfl) (by kernel_rfl)))) (.nil))) (by kernel_rfl) trivial, trivial⟩ ?_
      refine AX.ret ?_
      refine fin_wk (Wk.forget [6] [] (s' := ⟨[(6, .v (.string x9))], []⟩) (by kernel_rfl)) ?_
      have hr := Option.some.inj h
      subst hr
      exact ⟨_, Wk.refl _, .inr rfl, ⟨[], by kernel_rfl, trivial, [.v (.string x9)], by kernel_rfl, by kernel_rfl⟩⟩

theorem s_spec_ShowShort (p1 : List (ByteArray × Int)) (p2 : Int) (p3 : Int) (r : ByteArray) (h : m_spec_ShowShort p1 p2 p3 = some r) :
    Eng.Spec Tryz.prog 16 [.agg [.bs false 2 (List.map enc_si p1), .v (.int .i64 p2)], .v (.int .i64 p3)] [] (.v (.string r)) [] := by
  unfold m_spec_ShowShort at h
  refine Eng.Spec.body Tryz.func16 (by kernel_rfl) rfl (by kernel_rfl) ?_
  refine AX.wkpost ?_
  refine AX.seq ?_
  refine AX.reg (its := [.auto { nk := 0 }]) [1, 2] [0] (s1 := ⟨[(1, .v (.int .i64 p3)), (2, .pt 0 0)], [(0, .box [.bs false 2 (List.map enc_si p1), .v (.int .i64 p2)])]⟩) (C := True) (by kernel_rfl) trivial trivial ?_
  refine AX.seq ?_
  refine AX.seq ?_
  obtain ⟨x4, e1, h⟩ := bd_e h
  refine AX.reg (its := [.auto {}, .auto {}, .call 26 [.agg [.bs false 2 (List.map enc_si p1), .v (.int .i64 p2)], .v (.int .i64 p3)] (handO (rho ([] ++ [])) [] [] ++ []) (callEv [] [] (.v (.bool x4)) [])]) [1, 2, 9] [0] (s1 := ⟨[(1, .v (.int .i64 p3)), (2, .pt 0 0), (9, .v (.bool (!x4)))], [(0, .box [.bs false 2 (List.map enc_si p1), .v (.int .i64 p2)])]⟩) (C := ((([.agg [.bs false 2 (List.map enc_si p1), .v (.int .i64 p2)], .v (.int .i64 p3)] : List AV) = [.agg [.bs false 2 (List.map enc_si p1), .v (.int .i64 p2)], .v (.int .i64 p3)]) ∧ True) ∧ True) (by kernel_rfl) ⟨⟨rfl, trivial⟩, trivial⟩ ⟨call_ok (ks := []) (ns := []) (bor := []) (bobjs := []) (s_spec_isValue p1 p2 p3 x4 e1) (.cons (.c1 (.agg (.cons (.same _ (by kernel_rfl) (by kernel_rfl)) (.cons (.same _ (by kernel_rfl) (by kernel_rfl)) (.nil))))) (.cons (.c1 (.c0 (.same _ (by kernel_rfl) (by kernel_rfl)))) (.nil))) (by kernel_rfl) trivial, trivial⟩ ?_
  rcases bool_cases ((!x4)) with b2 | b2
  · replace h := cd_t b2 h
    refine AX.condT ((!x4)) (by kernel_rfl) b2 ?_
    refine AX.seq ?_
    refine AX.reg (its := []) [4] [] (s1 := ⟨[(4, .v (.string ByteArray.empty))], []⟩) (C := True) (by kernel_rfl) trivial trivial ?_
    refine AX.ret ?_
    refine fin_wk (Wk.forget [4] [] (s' := ⟨[(4, .v (.string ByteArray.empty))], []⟩) (by kernel_rfl)) ?_
    have hr := Option.some.inj h
    subst hr
    exact ⟨_, Wk.refl _, .inr rfl, ⟨[], by kernel_rfl, trivial, [.v (.string ByteArray.empty)], by kernel_rfl, by kernel_rfl⟩⟩
  · replace h := cd_f b2 h
    refine AX.condF ((!x4)) (by kernel_rfl) b2 ?_
    refine AX.skip ?_
    refine AX.seq ?_
    obtain ⟨x5, e3, h⟩ := bd_e h
    refine AX.reg (its := [.auto {}, .auto {}, .auto {}, .call 45 [.bs false 2 (List.map enc_si p1), .v (.int .i64 p3)] (handO (rho ([] ++ [1])) [] [] ++ []) (callEv [] [1] (.sl 0 0 x5.length) [.arr 2 (List.map enc_si x5)])]) [1, 2, 5] [0, 1] (s1 := ⟨[(1, .v (.int .i64 p3)), (2, .pt 0 0), (5, .sl 1 0 x5.length)], [(0, .box [.bs false 2 (List.map enc_si p1), .v (.int .i64 p2)]), (1, .arr 2 (List.map enc_si x5))]⟩) (C := ((([.bs false 2 (List.map enc_si p1), .v (.int .i64 p3)] : List AV) = [.bs false 2 (List.map enc_si p1), .v (.int .i64 p3)]) ∧ True) ∧ True) (by kernel_rfl) ⟨⟨rfl, trivial⟩, trivial⟩ ⟨call_ok (ks := []) (ns := [1]) (bor := []) (bobjs := []) (s_spec_short p1 p3 x5 e3) (.cons (.c1 (.c0 (.same _ (by kernel_rfl) (by kernel_rfl)))) (.cons (.c1 (.c0 (.same _ (by kernel_rfl) (by kernel_rfl)))) (.nil))) (by kernel_rfl) trivial, trivial⟩ ?_
    refine AX.seq ?_
    obtain ⟨x6, e4, h⟩ := bd_e h
    obtain ⟨x7, e5, h⟩ := bd_e h
    obtain ⟨x8, e6, h⟩ := bd_e h
    obtain ⟨x9, e7, h⟩ := bd_e h
    refine AX.drw mixed (its := [.auto {}, .auto {}, .auto {}, .call 47 [.sl 1 0 x5.length] (handO (rho ([] ++ [2])) [] [] ++ [(1, .arr 2 (List.map enc_si x5))]) (callEv [] [2] (.sl 0 0 x6.length) [.arr 1 (List.map enc_s x6)]), .auto {}, .auto {}, .call 49 [.sl 1 0 x5.length] (handO (rho ([] ++ [])) [] [] ++ [(1, .arr 2 (List.map enc_si x5))]) (callEv [] [] (.v (.int .i64 x7)) []), .call 48 [.v (.int .i64 p3), .v (.int .i64 x7)] (handO (rho ([] ++ [])) [] [] ++ []) (callEv [] [] (.v (.int .i64 x8)) []), .call 46 [.bs false 2 (List.map enc_si p1), .sl 2 0 x6.length, .v (.int .i64 x8)] (handO (rho ([] ++ [])) [] [] ++ [(2, .arr 1 (List.map enc_s x6))]) (callEv [] [] (.v (.string x9)) [])]) [4] [] (s1 := ⟨[(4, .v (.string x9))], []⟩) (C := ((([.sl 1 0 x5.length] : List AV) = [.sl 1 0 x5.length]) ∧ (AO.arr 2 (List.map enc_si x5) = AO.arr 2 (List.map enc_si x5)) ∧ True) ∧ ((([.sl 1 0 x5.length] : List AV) = [.sl 1 0 x5.length]) ∧ (AO.arr 2 (List.map enc_si x5) = AO.arr 2 (List.map enc_si x5)) ∧ True) ∧ ((([.v (.int .i64 p3), .v (.int .i64 x7)] : List AV) = [.v (.int .i64 p3), .v (.int .i64 x7)]) ∧ True) ∧ ((([.bs false 2 (List.map enc_si p1), .sl 2 0 x6.length, .v (.int .i64 x8)] : List AV) = [.bs false 2 (List.map enc_si p1), .sl 2 0 x6.length, .v (.int .i64 x8)]) ∧ (AO.arr 1 (List.map enc_s x6) = AO.arr 1 (List.map enc_s x6)) ∧ True) ∧ True) (by kernel_rfl) ⟨⟨rfl, rfl, trivial⟩, ⟨⟨rfl, rfl, trivial⟩, ⟨⟨rfl, trivial⟩, ⟨⟨rfl, rfl, trivial⟩, trivial⟩⟩⟩⟩ ⟨call_ok (ks := []) (ns := [2]) (bor := [1]) (bobjs := [(1, .arr 2 (List.map enc_si x5))]) (s_spec_namesOf x5 x6 e4) (.cons (.c1 (.c0 (.arr rfl rfl ((rfl).trans (List.length_map ..).symm)))) (.nil)) (by kernel_rfl) trivial, ⟨call_ok (ks := []) (ns := []) (bor := [1]) (bobjs := [(1, .arr 2 (List.map enc_si x5))]) (s_spec_mask x5 x7 e5) (.cons (.c1 (.c0 (.arr rfl rfl ((rfl).trans (List.length_map ..).symm)))) (.nil)) (by kernel_rfl) trivial, ⟨call_ok (ks := []) (ns := []) (bor := []) (bobjs := []) (s_spec_less p3 x7 x8 e6) (.cons (.c1 (.c0 (.same _ (by kernel_rfl) (by kernel_rfl)))) (.cons (.c1 (.c0 (.same _ (by kernel_rfl) (by kernel_rfl)))) (.nil))) (by kernel_rfl) trivial, ⟨call_ok (ks := []) (ns := []) (bor := [2]) (bobjs := [(2, .arr 1 (List.map enc_s x6))]) (s_spec_withRest p1 x6 x8 x9 e7) (.cons (.c1 (.c0 (.same _ (by kernel_rfl) (by kernel_rfl)))) (.cons (.c1 (.c0 (.arr rfl rfl ((rfl).trans (List.length_map ..).symm)))) (.cons (.c1 (.c0 (.same _ (by kernel_rfl) (by kernel_rfl)))) (.nil)))) (by kernel_rfl) trivial, trivial⟩⟩⟩⟩ ?_
    refine AX.ret ?_
    refine fin_wk (Wk.forget [4] [] (s' := ⟨[(4, .v (.string x9))], []⟩) (by kernel_rfl)) ?_
    have hr := Option.some.inj h
    subst hr
    exact ⟨_, Wk.refl _, .inr rfl, ⟨[], by kernel_rfl, trivial, [.v (.string x9)], by kernel_rfl, by kernel_rfl⟩⟩

theorem s_strings_Split (p1 : ByteArray) (p2 : ByteArray) (r : List (ByteArray)) (h : m_strings_Split p1 p2 = some r) :
    Eng.Spec Tryz.prog 32 [.v (.string p1), .v (.string p2)] [] (.sl 0 0 r.length) [.arr 1 (List.map enc_s r)] := by
  unfold m_strings_Split at h
  obtain ⟨g1, h⟩ := gd_e h
  obtain ⟨g2, h⟩ := gd_e h
  have hr := Option.some.inj h
  subst hr
  have e : List.map enc_s (Lib.splitB p2 0 (Lib.countB p1 p2) p1) = ((Lib.splitB p2 0 (Lib.countB p1 p2) p1).map Value.string).map fun x => [x] := by simp [enc_s]
  have hlen := Lib.splitB_all p2 g2 0 _ p1 rfl
  rw [e, show (Lib.splitB p2 0 (Lib.countB p1 p2) p1).length = ((Lib.splitB p2 0 (Lib.countB p1 p2) p1).map Value.string).length by simp]
  refine spec_row (T := 9) ⟨_, Tryz.func32, by kernel_rfl, by kernel_rfl⟩ (by intro x hx; obtain ⟨y, _, rfl⟩ := List.mem_map.1 hx; rfl) ?_
  intro X m vs hv
  simp only [VRs, VR] at hv
  obtain ⟨_, _, rfl, rfl, _, _, rfl, rfl, rfl⟩ := hv
  have hg := (X.hG X.w0 (fun _ _ => rfl)).2
  obtain ⟨mx, hmx⟩ := GX_maxlen hg
  refine (Tryz.strings_Split p1 p2 mx X.w0 g1 hmx g2).mono ?_
  rintro e w' ⟨rfl, rfl⟩
  exact ⟨by rw [List.length_map, hlen], rfl⟩

theorem s_strconv_Atoi (p1 : ByteArray) (r : Int × Bool) (h : m_strconv_Atoi p1 = some r) :
    Eng.Spec Tryz.prog 69 [.v (.string p1)] [] (.tup [.v (.int .i64 r.1), .er r.2]) [] := by
  unfold m_strconv_Atoi at h
  obtain ⟨g1, h⟩ := gd_e h
  have hr := Option.some.inj h
  subst hr
  refine spec_val ⟨_, Tryz.func69, by kernel_rfl, by kernel_rfl⟩ ?_
  intro X m vs hv
  simp only [VRs, VR] at hv
  obtain ⟨_, _, rfl, rfl, rfl⟩ := hv
  have hg := (X.hG X.w0 (fun _ _ => rfl)).2
  rcases ha : Lib.atoiAll p1.data.toList with v | _ | _
  · have e0 : atoiAns p1 = (v, true) := by unfold atoiAns; rw [ha]
    rw [e0]
    refine (Tryz.strconv_Atoi_ok p1 (by omega) v ha X.w0).mono ?_
    rintro e w' ⟨rfl, hw⟩
    refine ⟨_, rfl, fun m sh => ?_, ?_⟩
    · exact vr_int_err ⟨fun _ => rfl, (fun h => by cases h)⟩
    · rcases hw with rfl | ⟨t, rfl⟩
      · exact RowKit.Below.refl _ _
      · exact Lib.bytesWorld_below _ _ _
  · have e0 : atoiAns p1 = (0, false) := by unfold atoiAns; rw [ha]
    rw [e0]
    obtain ⟨ev, h1, h2⟩ := GX_errsyntax hg
    refine (Tryz.strconv_Atoi_syntax p1 g1 ha ev X.w0 h1 h2).mono ?_
    rintro e w' ⟨N, rfl, _, _, hw⟩
    refine ⟨_, rfl, fun m sh => ?_, hw⟩
    exact vr_int_err ⟨(fun h => by cases h), fun _ => ⟨_, _, rfl⟩⟩
  · have e0 : atoiAns p1 = (Lib.atoiSat p1.data.toList, false) := by unfold atoiAns; rw [ha]
    rw [e0]
    obtain ⟨ev, h1, h2⟩ := GX_errrange hg
    refine (Tryz.strconv_Atoi_range p1 g1 ha ev X.w0 h1 h2).mono ?_
    rintro e w' ⟨N, rfl, _, _, hw⟩
    refine ⟨_, rfl, fun m sh => ?_, hw⟩
    exact vr_int_err ⟨(fun h => by cases h), fun _ => ⟨_, _, rfl⟩⟩

theorem s_impl_decimal (p1 : ByteArray) (r : Int × Bool) (h : m_impl_decimal p1 = some r) :
    Eng.Spec Tryz.prog 34 [.v (.string p1)] [] (.tup [.v (.int .i64 r.1), .v (.bool r.2)]) [] := by
  unfold m_impl_decimal at h
  refine Eng.Spec.body Tryz.func34 (by kernel_rfl) rfl (by kernel_rfl) ?_
  refine AX.wkpost ?_
  refine AX.seq ?_
  refine AX.reg (its := []) [0] [] (s1 := ⟨[(0, .v (.string p1))], []⟩) (C := True) (by kernel_rfl) trivial trivial ?_
  refine AX.seq ?_
  obtain ⟨x2, e1, h⟩ := bd_e h
  refine AX.reg (its := [.auto {}, .call 69 [.v (.string p1)] (handO (rho ([] ++ [])) [] [] ++ []) (callEv [] [] (.tup [.v (.int .i64 x2.1), .er x2.2]) [])]) [0, 4, 5] [] (s1 := ⟨[(0, .v (.string p1)), (4, .v (.int .i64 x2.1)), (5, .er x2.2)], []⟩) (C := ((([.v (.string p1)] : List AV) = [.v (.string p1)]) ∧ True) ∧ True) (by kernel_rfl) ⟨⟨rfl, trivial⟩, trivial⟩ ⟨call_ok (ks := []) (ns := []) (bor := []) (bobjs := []) (s_strconv_Atoi p1 x2 e1) (.cons (.c1 (.c0 (.same _ (by kernel_rfl) (by kernel_rfl)))) (.nil)) (by kernel_rfl) trivial, trivial⟩ ?_
  refine AX.seq ?_
  rcases bool_cases (x2.2) with b2 | b2
  · replace h := cd_t b2 h
    obtain ⟨x3, e3, h⟩ := bd_e h
    refine AX.reg (its := [.auto {}, .auto {}, .auto { y := some (.v (.bool true)) }, .auto {}, .auto {}, .call 70 [.v (.int .i64 x2.1)] (handO (rho ([] ++ [])) [] [] ++ []) (callEv [] [] (.v (.string x3)) [])]) [2, 3] [] (s1 := ⟨[(2, .v (.int .i64 x2.1)), (3, .v (.bool (decide (x3 = p1))))], []⟩) (C := ((True) ∧ ((.v (.bool x2.2) : AV) = (.v (.bool true) : AV))) ∧ ((([.v (.int .i64 x2.1)] : List AV) = [.v (.int .i64 x2.1)]) ∧ True) ∧ True) (by kernel_rfl) ⟨⟨trivial, (congrArg (fun z => AV.v (.bool z)) b2)⟩, ⟨⟨rfl, trivial⟩, trivial⟩⟩ ⟨call_ok (ks := []) (ns := []) (bor := []) (bobjs := []) (s_strconv_Itoa x2.1 x3 e3) (.cons (.c1 (.c0 (.same _ (by kernel_rfl) (by kernel_rfl)))) (.nil)) (by kernel_rfl) trivial, trivial⟩ ?_
    refine AX.ret ?_
    refine fin_wk (Wk.forget [2, 3] [] (s' := ⟨[(2, .v (.int .i64 x2.1)), (3, .v (.bool (decide (x3 = p1))))], []⟩) (by kernel_rfl)) ?_
    have hr := Option.some.inj h
    subst hr
    exact ⟨_, Wk.refl _, .inr rfl, ⟨[], by kernel_rfl, trivial, [.v (.int .i64 x2.1), .v (.bool (decide (x3 = p1)))], by kernel_rfl, by kernel_rfl⟩⟩
  · replace h := cd_f b2 h
    refine AX.reg (its := [.auto {}, .auto {}, .auto { y := some (.v (.bool false)) }]) [2, 3] [] (s1 := ⟨[(2, .v (.int .i64 x2.1)), (3, .v (.bool false))], []⟩) (C := ((True) ∧ ((.v (.bool x2.2) : AV) = (.v (.bool false) : AV))) ∧ True) (by kernel_rfl) ⟨⟨trivial, (congrArg (fun z => AV.v (.bool z)) b2)⟩, trivial⟩ trivial ?_
    refine AX.ret ?_
    refine fin_wk (Wk.forget [2, 3] [] (s' := ⟨[(2, .v (.int .i64 x2.1)), (3, .v (.bool false))], []⟩) (by kernel_rfl)) ?_
    have hr := Option.some.inj h
    subst hr
    exact ⟨_, Wk.refl _, .inr rfl, ⟨[], by kernel_rfl, trivial, [.v (.int .i64 x2.1), .v (.bool false)], by kernel_rfl, by kernel_rfl⟩⟩

theorem s_impl_ReadValue_L1 (p1 : List (ByteArray × Int)) (p2 : Int) (x5 : List (ByteArray)) (n : Nat) (g : Int × Int) (out : Unit ⊕ Int) (h : m_impl_ReadValue_L1 p1 p2 x5 n g.1 g.2 = some out) :
    AX Tryz.prog 57 0 (codeAt [1, 1, 1, 0, 1, 1] (bodyOf Tryz.f8)) ((fun g : Int × Int => (⟨[(2, .pt 0 0), (6, .v (.int .i64 g.1)), (16, .sl 1 0 x5.length), (17, .v (.int .i64 (x5.length : Int))), (18, .v (.int .i64 g.2))], [(0, .box [.bs false 2 (List.map enc_si p1), .v (.int .i64 p2)]), (1, .arr 1 (List.map enc_s x5))]⟩ : S)) g) (fun ex s => (∃ o : Unit, out = Sum.inl o ∧ ex = .ret ∧ s = ⟨[(4, .v (.int .i64 0)), (5, .v (.bool false))], []⟩) ∨ (∃ o : Int, out = Sum.inr o ∧ ex = .exit 0 ∧ s = ⟨[(2, .pt 0 0), (6, .v (.int .i64 o))], [(0, .box [.bs false 2 (List.map enc_si p1), .v (.int .i64 p2)])]⟩)) := by
  refine AX.wkpost ?_
  refine AX.loop (G := Nat × (Int × Int)) (fun q => (fun g : Int × Int => (⟨[(2, .pt 0 0), (6, .v (.int .i64 g.1)), (16, .sl 1 0 x5.length), (17, .v (.int .i64 (x5.length : Int))), (18, .v (.int .i64 g.2))], [(0, .box [.bs false 2 (List.map enc_si p1), .v (.int .i64 p2)]), (1, .arr 1 (List.map enc_s x5))]⟩ : S)) q.2) (fun q => m_impl_ReadValue_L1 p1 p2 x5 q.1 q.2.1 q.2.2 = some out) (fun q => q.1) (n, g) h (Wk.refl _) ?_
  clear h
  rintro ⟨fu, v6, v7⟩ h
  cases fu with
  | zero => cases h
  | succ fu =>
    rw [m_impl_ReadValue_L1] at h
    refine AX.seq ?_
    refine AX.reg (its := []) [2, 6, 16, 17, 18, 19] [0, 1] (s1 := ⟨[(2, .pt 0 0), (6, .v (.int .i64 v6)), (16, .sl 1 0 x5.length), (17, .v (.int .i64 (x5.length : Int))), (18, .v (.int .i64 v7)), (19, .v (.bool (decide (v7 < (x5.length : Int)))))], [(0, .box [.bs false 2 (List.map enc_si p1), .v (.int .i64 p2)]), (1, .arr 1 (List.map enc_s x5))]⟩) (C := True) (by kernel_rfl) trivial trivial ?_
    refine AX.seq ?_
    rcases bool_cases (decide (v7 < (x5.length : Int))) with b4 | b4
    · replace h := cd_t b4 h
      refine AX.condT (decide (v7 < (x5.length : Int))) (by kernel_rfl) b4 ?_
      refine AX.skip ?_
      refine AX.seq ?_
      refine AX.block ?_
      refine AX.seq ?_
      obtain ⟨g5, h⟩ := gd_e h
      refine AX.reg (its := [.auto {}, .auto { y := some (.v (.string (gt x5 v7))) }]) [2, 6, 8, 16, 17, 18] [0, 1] (s1 := ⟨[(2, .pt 0 0), (6, .v (.int .i64 v6)), (8, .v (.string (gt x5 v7))), (16, .sl 1 0 x5.length), (17, .v (.int .i64 (x5.length : Int))), (18, .v (.int .i64 v7))], [(0, .box [.bs false 2 (List.map enc_si p1), .v (.int .i64 p2)]), (1, .arr 1 (List.map enc_s x5))]⟩) (C := (0 ≤ v7 ∧ v7 < (x5.length : Int)) ∧ (True ∧ (AV.v (((List.map enc_s x5).getD (0 + v7.toNat) []).getD 0 undef) = .v (.string (gt x5 v7)))) ∧ True) (by kernel_rfl) ⟨g5, ⟨⟨trivial, (congrArg (fun z : List Value => AV.v (z.getD 0 undef)) (idx_arr (enc := enc_s) rfl g5))⟩, trivial⟩⟩ trivial ?_
      refine AX.seq ?_
      refine AX.seq ?_
      obtain ⟨x8, e6, h⟩ := bd_e h
      refine AX.reg (its := [.auto {}, .auto {}, .auto {}, .call 33 [.bs false 2 (List.map enc_si p1), .v (.string (gt x5 v7))] (handO (rho ([] ++ [])) [] [] ++ []) (callEv [] [] (.v (.int .i64 x8)) [])]) [2, 6, 8, 9, 16, 17, 18] [0, 1] (s1 := ⟨[(2, .pt 0 0), (6, .v (.int .i64 v6)), (8, .v (.string (gt x5 v7))), (9, .v (.int .i64 x8)), (16, .sl 1 0 x5.length), (17, .v (.int .i64 (x5.length : Int))), (18, .v (.int .i64 v7))], [(0, .box [.bs false 2 (List.map enc_si p1), .v (.int .i64 p2)]), (1, .arr 1 (List.map enc_s x5))]⟩) (C := ((([.bs false 2 (List.map enc_si p1), .v (.string (gt x5 v7))] : List AV) = [.bs false 2 (List.map enc_si p1), .v (.string (gt x5 v7))]) ∧ True) ∧ True) (by kernel_rfl) ⟨⟨rfl, trivial⟩, trivial⟩ ⟨call_ok (ks := []) (ns := []) (bor := []) (bobjs := []) (s_impl_named p1 (gt x5 v7) x8 e6) (.cons (.c1 (.c0 (.same _ (by kernel_rfl) (by kernel_rfl)))) (.cons (.c1 (.c0 (.same _ (by kernel_rfl) (by kernel_rfl)))) (.nil))) (by kernel_rfl) trivial, trivial⟩ ?_
      refine AX.seq ?_
      refine AX.reg (its := []) [2, 6, 8, 9, 16, 17, 18, 27] [0, 1] (s1 := ⟨[(2, .pt 0 0), (6, .v (.int .i64 v6)), (8, .v (.string (gt x5 v7))), (9, .v (.int .i64 x8)), (16, .sl 1 0 x5.length), (17, .v (.int .i64 (x5.length : Int))), (18, .v (.int .i64 v7)), (27, .v (.bool (decide (0 ≤ x8))))], [(0, .box [.bs false 2 (List.map enc_si p1), .v (.int .i64 p2)]), (1, .arr 1 (List.map enc_s x5))]⟩) (C := True) (by kernel_rfl) trivial trivial ?_
      rcases bool_cases (decide (0 ≤ x8)) with b7 | b7
      · replace h := cd_t b7 h
        refine AX.condT (decide (0 ≤ x8)) (by kernel_rfl) b7 ?_
        refine AX.seq ?_
        obtain ⟨g8, h⟩ := gd_e h
        refine AX.reg (its := [.auto {}, .auto {}, .auto {}, .auto {}, .auto { y := some (.be 2 (enc_si (gt p1 x8)) 0) }]) [2, 6, 16, 17, 18] [0, 1] (s1 := ⟨[(2, .pt 0 0), (6, .v (.int .i64 (Go.bits .or .i64 v6 ((gt p1 x8).2)))), (16, .sl 1 0 x5.length), (17, .v (.int .i64 (x5.length : Int))), (18, .v (.int .i64 v7))], [(0, .box [.bs false 2 (List.map enc_si p1), .v (.int .i64 p2)]), (1, .arr 1 (List.map enc_s x5))]⟩) (C := ((0 ≤ x8 ∧ x8 < ((List.map enc_si p1).length : Int)) ∧ (AV.be 2 ((List.map enc_si p1).getD x8.toNat []) 0 = AV.be 2 (enc_si (gt p1 x8)) 0)) ∧ True) (by kernel_rfl) ⟨idx_bs enc_si p1 x8 2 g8, trivial⟩ trivial ?_
        refine AX.exit ?_
        refine AX.reg (its := [.auto { raw := true }]) [2, 6, 16, 17, 18] [0, 1] (s1 := ⟨[(2, .pt 0 0), (6, .v (.int .i64 (Go.bits .or .i64 v6 ((gt p1 x8).2)))), (16, .sl 1 0 x5.length), (17, .v (.int .i64 (x5.length : Int))), (18, .v (.int .i64 (IntKind.wrap .i64 (v7 + 1))))], [(0, .box [.bs false 2 (List.map enc_si p1), .v (.int .i64 p2)]), (1, .arr 1 (List.map enc_s x5))]⟩) (C := True) (by kernel_rfl) trivial trivial ?_
        refine ⟨(fu, (Go.bits .or .i64 v6 ((gt p1 x8).2), IntKind.wrap .i64 (v7 + 1))), h, Nat.lt_succ_self _, ?_⟩
        refine Wk.trans (Wk.forget [2, 6, 16, 17, 18] [0, 1] (s' := ⟨[(2, .pt 0 0), (6, .v (.int .i64 (Go.bits .or .i64 v6 ((gt p1 x8).2)))), (16, .sl 1 0 x5.length), (17, .v (.int .i64 (x5.length : Int))), (18, .v (.int .i64 (IntKind.wrap .i64 (v7 + 1))))], [(0, .box [.bs false 2 (List.map enc_si p1), .v (.int .i64 p2)]), (1, .arr 1 (List.map enc_s x5))]⟩) (by kernel_rfl)) ?_
        exact Wk.refl _
      · replace h := cd_f b7 h
        refine AX.condF (decide (0 ≤ x8)) (by kernel_rfl) b7 ?_
        refine AX.skip ?_
        refine AX.seq ?_
        obtain ⟨x9, e9, h⟩ := bd_e h
        refine AX.reg (its := [.auto {}, .call 34 [.v (.string (gt x5 v7))] (handO (rho ([] ++ [])) [] [] ++ []) (callEv [] [] (.tup [.v (.int .i64 x9.1), .v (.bool x9.2)]) [])]) [2, 6, 10, 11, 16, 17, 18] [0, 1] (s1 := ⟨[(2, .pt 0 0), (6, .v (.int .i64 v6)), (10, .v (.int .i64 x9.1)), (11, .v (.bool x9.2)), (16, .sl 1 0 x5.length), (17, .v (.int .i64 (x5.length : Int))), (18, .v (.int .i64 v7))], [(0, .box [.bs false 2 (List.map enc_si p1), .v (.int .i64 p2)]), (1, .arr 1 (List.map enc_s x5))]⟩) (C := ((([.v (.string (gt x5 v7))] : List AV) = [.v (.string (gt x5 v7))]) ∧ True) ∧ True) (by kernel_rfl) ⟨⟨rfl, trivial⟩, trivial⟩ ⟨call_ok (ks := []) (ns := []) (bor := []) (bobjs := []) (s_impl_decimal (gt x5 v7) x9 e9) (.cons (.c1 (.c0 (.same _ (by kernel_rfl) (by kernel_rfl)))) (.nil)) (by kernel_rfl) trivial, trivial⟩ ?_
        refine AX.seq ?_
        refine AX.seq ?_
        rcases bool_cases ((!x9.2)) with b10 | b10
        · replace h := cd_t b10 h
          refine AX.reg (its := [.auto {}, .auto { y := some (.v (.bool true)) }]) [2, 6, 10, 16, 17, 18, 47] [0, 1] (s1 := ⟨[(2, .pt 0 0), (6, .v (.int .i64 v6)), (10, .v (.int .i64 x9.1)), (16, .sl 1 0 x5.length), (17, .v (.int .i64 (x5.length : Int))), (18, .v (.int .i64 v7)), (47, .v (.bool true))], [(0, .box [.bs false 2 (List.map enc_si p1), .v (.int .i64 p2)]), (1, .arr 1 (List.map enc_s x5))]⟩) (C := ((True) ∧ ((.v (.bool (!x9.2)) : AV) = (.v (.bool true) : AV))) ∧ True) (by kernel_rfl) ⟨⟨trivial, (congrArg (fun z => AV.v (.bool z)) b10)⟩, trivial⟩ trivial ?_
          refine AX.cond_true (by kernel_rfl) ?_
          refine AX.seq ?_
          refine AX.reg (its := []) [4, 5] [] (s1 := ⟨[(4, .v (.int .i64 0)), (5, .v (.bool false))], []⟩) (C := True) (by kernel_rfl) trivial trivial ?_
          refine AX.ret ?_
          refine fin_wk (Wk.forget [4, 5] [] (s' := ⟨[(4, .v (.int .i64 0)), (5, .v (.bool false))], []⟩) (by kernel_rfl)) ?_
          have hr := Option.some.inj h
          subst hr
          exact ⟨_, Wk.refl _, .inl ⟨(), rfl, rfl, rfl⟩⟩
        · replace h := cd_f b10 h
          obtain ⟨x10, e11, h⟩ := bd_e h
          refine AX.reg (its := [.auto {}, .auto { y := some (.v (.bool false)) }, .auto {}, .auto {}, .call 35 [.v (.int .i64 x9.1), .v (.int .i64 0), .v (.int .i64 4095)] (handO (rho ([] ++ [])) [] [] ++ []) (callEv [] [] (.v (.bool x10)) [])]) [2, 6, 10, 16, 17, 18, 47] [0, 1] (s1 := ⟨[(2, .pt 0 0), (6, .v (.int .i64 v6)), (10, .v (.int .i64 x9.1)), (16, .sl 1 0 x5.length), (17, .v (.int .i64 (x5.length : Int))), (18, .v (.int .i64 v7)), (47, .v (.bool (!x10)))], [(0, .box [.bs false 2 (List.map enc_si p1), .v (.int .i64 p2)]), (1, .arr 1 (List.map enc_s x5))]⟩) (C := ((True) ∧ ((.v (.bool (!x9.2)) : AV) = (.v (.bool false) : AV))) ∧ ((([.v (.int .i64 x9.1), .v (.int .i64 0), .v (.int .i64 4095)] : List AV) = [.v (.int .i64 x9.1), .v (.int .i64 0), .v (.int .i64 4095)]) ∧ True) ∧ True) (by kernel_rfl) ⟨⟨trivial, (congrArg (fun z => AV.v (.bool z)) b10)⟩, ⟨⟨rfl, trivial⟩, trivial⟩⟩ ⟨call_ok (ks := []) (ns := []) (bor := []) (bobjs := []) (s_impl_in x9.1 0 4095 x10 e11) (.cons (.c1 (.c0 (.same _ (by kernel_rfl) (by kernel_rfl)))) (.cons (.c1 (.c0 (.same _ (by kernel_rfl) (by kernel_rfl)))) (.cons (.c1 (.c0 (.same _ (by kernel_rfl) (by kernel_rfl)))) (.nil)))) (by kernel_rfl) trivial, trivial⟩ ?_
          rcases bool_cases ((!x10)) with b12 | b12
          · replace h := cd_t b12 h
            refine AX.condT ((!x10)) (by kernel_rfl) b12 ?_
            refine AX.seq ?_
            refine AX.reg (its := []) [4, 5] [] (s1 := ⟨[(4, .v (.int .i64 0)), (5, .v (.bool false))], []⟩) (C := True) (by kernel_rfl) trivial trivial ?_
            refine AX.ret ?_
            refine fin_wk (Wk.forget [4, 5] [] (s' := ⟨[(4, .v (.int .i64 0)), (5, .v (.bool false))], []⟩) (by kernel_rfl)) ?_
            have hr := Option.some.inj h
            subst hr
            exact ⟨_, Wk.refl _, .inl ⟨(), rfl, rfl, rfl⟩⟩
          · replace h := cd_f b12 h
            refine AX.condF ((!x10)) (by kernel_rfl) b12 ?_
            refine AX.skip ?_
            refine AX.reg (its := []) [2, 6, 16, 17, 18] [0, 1] (s1 := ⟨[(2, .pt 0 0), (6, .v (.int .i64 (Go.bits .or .i64 v6 x9.1))), (16, .sl 1 0 x5.length), (17, .v (.int .i64 (x5.length : Int))), (18, .v (.int .i64 v7))], [(0, .box [.bs false 2 (List.map enc_si p1), .v (.int .i64 p2)]), (1, .arr 1 (List.map enc_s x5))]⟩) (C := True) (by kernel_rfl) trivial trivial ?_
            refine AX.reg (its := [.auto { raw := true }]) [2, 6, 16, 17, 18] [0, 1] (s1 := ⟨[(2, .pt 0 0), (6, .v (.int .i64 (Go.bits .or .i64 v6 x9.1))), (16, .sl 1 0 x5.length), (17, .v (.int .i64 (x5.length : Int))), (18, .v (.int .i64 (IntKind.wrap .i64 (v7 + 1))))], [(0, .box [.bs false 2 (List.map enc_si p1), .v (.int .i64 p2)]), (1, .arr 1 (List.map enc_s x5))]⟩) (C := True) (by kernel_rfl) trivial trivial ?_
            refine ⟨(fu, (Go.bits .or .i64 v6 x9.1, IntKind.wrap .i64 (v7 + 1))), h, Nat.lt_succ_self _, ?_⟩
            refine Wk.trans (Wk.forget [2, 6, 16, 17, 18] [0, 1] (s' := ⟨[(2, .pt 0 0), (6, .v (.int .i64 (Go.bits .or .i64 v6 x9.1))), (16, .sl 1 0 x5.length), (17, .v (.int .i64 (x5.length : Int))), (18, .v (.int .i64 (IntKind.wrap .i64 (v7 + 1))))], [(0, .box [.bs false 2 (List.map enc_si p1), .v (.int .i64 p2)]), (1, .arr 1 (List.map enc_s x5))]⟩) (by kernel_rfl)) ?_
            exact Wk.refl _
    · replace h := cd_f b4 h
      refine AX.condF (decide (v7 < (x5.length : Int))) (by kernel_rfl) b4 ?_
      refine AX.exit ?_
      refine fin_wk (Wk.forget [2, 6] [0] (s' := ⟨[(2, .pt 0 0), (6, .v (.int .i64 v6))], [(0, .box [.bs false 2 (List.map enc_si p1), .v (.int .i64 p2)])]⟩) (by kernel_rfl)) ?_
      have hr := Option.some.inj h
      subst hr
      exact ⟨_, Wk.refl _, .inr ⟨v6, rfl, rfl, rfl⟩⟩

theorem s_impl_ReadValue (p1 : List (ByteArray × Int)) (p2 : Int) (p3 : ByteArray) (r : Int × Bool) (h : m_impl_ReadValue p1 p2 p3 = some r) :
    Eng.Spec Tryz.prog 8 [.agg [.bs false 2 (List.map enc_si p1), .v (.int .i64 p2)], .v (.string p3)] [] (.tup [.v (.int .i64 r.1), .v (.bool r.2)]) [] := by
  unfold m_impl_ReadValue at h
  refine Eng.Spec.body Tryz.func8 (by kernel_rfl) rfl (by kernel_rfl) ?_
  refine AX.wkpost ?_
  refine AX.seq ?_
  refine AX.reg (its := [.auto { nk := 0 }]) [1, 2] [0] (s1 := ⟨[(1, .v (.string p3)), (2, .pt 0 0)], [(0, .box [.bs false 2 (List.map enc_si p1), .v (.int .i64 p2)])]⟩) (C := True) (by kernel_rfl) trivial trivial ?_
  refine AX.seq ?_
  refine AX.seq ?_
  obtain ⟨x4, e1, h⟩ := bd_e h
  refine AX.reg (its := [.auto {}, .call 31 [.agg [.bs false 2 (List.map enc_si p1), .v (.int .i64 p2)]] (handO (rho ([] ++ [])) [] [] ++ []) (callEv [] [] (.v (.bool x4)) [])]) [1, 2, 14] [0] (s1 := ⟨[(1, .v (.string p3)), (2, .pt 0 0), (14, .v (.bool (!x4)))], [(0, .box [.bs false 2 (List.map enc_si p1), .v (.int .i64 p2)])]⟩) (C := ((([.agg [.bs false 2 (List.map enc_si p1), .v (.int .i64 p2)]] : List AV) = [.agg [.bs false 2 (List.map enc_si p1), .v (.int .i64 p2)]]) ∧ True) ∧ True) (by kernel_rfl) ⟨⟨rfl, trivial⟩, trivial⟩ ⟨call_ok (ks := []) (ns := []) (bor := []) (bobjs := []) (s_impl_ValidFlag p1 p2 x4 e1) (.cons (.c1 (.agg (.cons (.same _ (by kernel_rfl) (by kernel_rfl)) (.cons (.same _ (by kernel_rfl) (by kernel_rfl)) (.nil))))) (.nil)) (by kernel_rfl) trivial, trivial⟩ ?_
  rcases bool_cases ((!x4)) with b2 | b2
  · replace h := cd_t b2 h
    refine AX.condT ((!x4)) (by kernel_rfl) b2 ?_
    refine AX.seq ?_
    refine AX.reg (its := []) [4, 5] [] (s1 := ⟨[(4, .v (.int .i64 0)), (5, .v (.bool false))], []⟩) (C := True) (by kernel_rfl) trivial trivial ?_
    refine AX.ret ?_
    refine fin_wk (Wk.forget [4, 5] [] (s' := ⟨[(4, .v (.int .i64 0)), (5, .v (.bool false))], []⟩) (by kernel_rfl)) ?_
    have hr := Option.some.inj h
    subst hr
    exact ⟨_, Wk.refl _, .inr rfl, ⟨[], by kernel_rfl, trivial, [.v (.int .i64 0), .v (.bool false)], by kernel_rfl, by kernel_rfl⟩⟩
  · replace h := cd_f b2 h
    refine AX.condF ((!x4)) (by kernel_rfl) b2 ?_
    refine AX.skip ?_
    refine AX.seq ?_
    refine AX.reg (its := []) [1, 2, 6] [0] (s1 := ⟨[(1, .v (.string p3)), (2, .pt 0 0), (6, .v (.int .i64 0))], [(0, .box [.bs false 2 (List.map enc_si p1), .v (.int .i64 p2)])]⟩) (C := True) (by kernel_rfl) trivial trivial ?_
    refine AX.seq ?_
    refine AX.seq ?_
    obtain ⟨x5, e3, h⟩ := bd_e h
    refine AX.reg (its := [.auto {}, .call 32 [.v (.string p3), .v (.string (ByteArray.mk #[124]))] (handO (rho ([] ++ [1])) [] [] ++ []) (callEv [] [1] (.sl 0 0 x5.length) [.arr 1 (List.map enc_s x5)])]) [2, 6, 16, 17, 18] [0, 1] (s1 := ⟨[(2, .pt 0 0), (6, .v (.int .i64 0)), (16, .sl 1 0 x5.length), (17, .v (.int .i64 (x5.length : Int))), (18, .v (.int .i64 0))], [(0, .box [.bs false 2 (List.map enc_si p1), .v (.int .i64 p2)]), (1, .arr 1 (List.map enc_s x5))]⟩) (C := ((([.v (.string p3), .v (.string (ByteArray.mk #[124]))] : List AV) = [.v (.string p3), .v (.string (ByteArray.mk #[124]))]) ∧ True) ∧ True) (by kernel_rfl) ⟨⟨rfl, trivial⟩, trivial⟩ ⟨call_ok (ks := []) (ns := [1]) (bor := []) (bobjs := []) (s_strings_Split p3 (ByteArray.mk #[124]) x5 e3) (.cons (.c1 (.c0 (.same _ (by kernel_rfl) (by kernel_rfl)))) (.cons (.c1 (.c0 (.same _ (by kernel_rfl) (by kernel_rfl)))) (.nil))) (by kernel_rfl) trivial, trivial⟩ ?_
    refine AX.block ?_
    obtain ⟨x11, e13, h⟩ := bd_e h
    refine AX.wk (Wk.forget [2, 6, 16, 17, 18] [0, 1] (s' := ⟨[(2, .pt 0 0), (6, .v (.int .i64 0)), (16, .sl 1 0 x5.length), (17, .v (.int .i64 (x5.length : Int))), (18, .v (.int .i64 0))], [(0, .box [.bs false 2 (List.map enc_si p1), .v (.int .i64 p2)]), (1, .arr 1 (List.map enc_s x5))]⟩) (by kernel_rfl)) ?_
    refine AX.mono (s_impl_ReadValue_L1 p1 p2 x5 FU (0, 0) x11 e13) ?_
    rintro _ _ (⟨x12, rfl, rfl, rfl⟩ | ⟨x13, rfl, rfl, rfl⟩)
    · replace h := sm_l h
      refine fin_wk (Wk.forget [4, 5] [] (s' := ⟨[(4, .v (.int .i64 0)), (5, .v (.bool false))], []⟩) (by kernel_rfl)) ?_
      have hr := Option.some.inj h
      subst hr
      exact ⟨_, Wk.refl _, .inr rfl, ⟨[], by kernel_rfl, trivial, [.v (.int .i64 0), .v (.bool false)], by kernel_rfl, by kernel_rfl⟩⟩
    · replace h := sm_r h
      refine AX.seq ?_
      refine AX.seq ?_
      obtain ⟨x14, e14, h⟩ := bd_e h
      refine AX.reg (its := [.auto {}, .auto {}, .call 11 [.agg [.bs false 2 (List.map enc_si p1), .v (.int .i64 p2)], .v (.int .i64 x13)] (handO (rho ([] ++ [])) [] [] ++ []) (callEv [] [] (.v (.bool x14)) [])]) [6, 55] [] (s1 := ⟨[(6, .v (.int .i64 x13)), (55, .v (.bool (!x14)))], []⟩) (C := ((([.agg [.bs false 2 (List.map enc_si p1), .v (.int .i64 p2)], .v (.int .i64 x13)] : List AV) = [.agg [.bs false 2 (List.map enc_si p1), .v (.int .i64 p2)], .v (.int .i64 x13)]) ∧ True) ∧ True) (by kernel_rfl) ⟨⟨rfl, trivial⟩, trivial⟩ ⟨call_ok (ks := []) (ns := []) (bor := []) (bobjs := []) (s_impl_IsValue p1 p2 x13 x14 e14) (.cons (.c1 (.agg (.cons (.same _ (by kernel_rfl) (by kernel_rfl)) (.cons (.same _ (by kernel_rfl) (by kernel_rfl)) (.nil))))) (.cons (.c1 (.c0 (.same _ (by kernel_rfl) (by kernel_rfl)))) (.nil))) (by kernel_rfl) trivial, trivial⟩ ?_
      rcases bool_cases ((!x14)) with b15 | b15
      · replace h := cd_t b15 h
        refine AX.condT ((!x14)) (by kernel_rfl) b15 ?_
        refine AX.seq ?_
        refine AX.reg (its := []) [4, 5] [] (s1 := ⟨[(4, .v (.int .i64 0)), (5, .v (.bool false))], []⟩) (C := True) (by kernel_rfl) trivial trivial ?_
        refine AX.ret ?_
        refine fin_wk (Wk.forget [4, 5] [] (s' := ⟨[(4, .v (.int .i64 0)), (5, .v (.bool false))], []⟩) (by kernel_rfl)) ?_
        have hr := Option.some.inj h
        subst hr
        exact ⟨_, Wk.refl _, .inr rfl, ⟨[], by kernel_rfl, trivial, [.v (.int .i64 0), .v (.bool false)], by kernel_rfl, by kernel_rfl⟩⟩
      · replace h := cd_f b15 h
        refine AX.condF ((!x14)) (by kernel_rfl) b15 ?_
        refine AX.skip ?_
        refine AX.seq ?_
        refine AX.reg (its := []) [4, 5] [] (s1 := ⟨[(4, .v (.int .i64 x13)), (5, .v (.bool true))], []⟩) (C := True) (by kernel_rfl) trivial trivial ?_
        refine AX.ret ?_
        refine fin_wk (Wk.forget [4, 5] [] (s' := ⟨[(4, .v (.int .i64 x13)), (5, .v (.bool true))], []⟩) (by kernel_rfl)) ?_
        have hr := Option.some.inj h
        subst hr
        exact ⟨_, Wk.refl _, .inr rfl, ⟨[], by kernel_rfl, trivial, [.v (.int .i64 x13), .v (.bool true)], by kernel_rfl, by kernel_rfl⟩⟩

end Go.Eng
