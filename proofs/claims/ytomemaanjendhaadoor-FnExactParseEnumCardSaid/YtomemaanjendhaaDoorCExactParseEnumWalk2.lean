/- What is proved here: each function keeps to its model, whatever its arguments, wherever the model has an answer. Printed by gen.py. -/
import Derived.Test.YtomemaanjendhaaDoorCExactParseEnumWalk1
import Derived.Test.YtomemaanjendhaaDoorProg
import Derived.Test.YtomemaanjendhaaDoorCExactParseEnumShelf
import Derived.KernelRfl
set_option linter.unusedVariables false
set_option linter.unusedSimpArgs false
set_option linter.unnecessarySimpa false
namespace Go.Eng
open Go Go.Proofs


theorem s_spec_ParseEnum (p1 : ByteArray) (r : (List (ByteArray × Int)) × Bool) (h : m_spec_ParseEnum p1 = some r) :
    Eng.Spec Tryd.prog 15 [.v (.string p1)] [] (.tup [.agg [.sl 0 0 r.1.length], .v (.bool r.2)]) [.arr 2 (List.map enc_si r.1)] := by
  unfold m_spec_ParseEnum at h
  refine Eng.Spec.body Tryd.func15 (by kernel_rfl) rfl (by kernel_rfl) ?_
  refine AX.wkpost ?_
  refine AX.seq ?_
  refine AX.reg (its := [.auto { nk := 0 }]) [0, 2] [0] (s1 := ⟨[(0, .v (.string p1)), (2, .pt 0 0)], [(0, .box [.v (.slice none 0 0)])]⟩) (C := True) (by kernel_rfl) trivial trivial ?_
  refine AX.seq ?_
  obtain ⟨x2, e1, h⟩ := bd_e h
  refine AX.reg (its := [.auto {}, .call 45 [.v (.string p1)] (handO (rho ([] ++ [1])) [] [] ++ []) (callEv [] [1] (.tup [.v (.string x2.1), .sl 0 0 x2.2.1.length, .v (.bool x2.2.2)]) [.arr 3 (List.map enc_sbi x2.2.1)])]) [2, 4, 5, 6] [0, 1] (s1 := ⟨[(2, .pt 0 0), (4, .v (.string x2.1)), (5, .sl 1 0 x2.2.1.length), (6, .v (.bool x2.2.2))], [(0, .box [.v (.slice none 0 0)]), (1, .arr 3 (List.map enc_sbi x2.2.1))]⟩) (C := ((([.v (.string p1)] : List AV) = [.v (.string p1)]) ∧ True) ∧ True) (by kernel_rfl) ⟨⟨rfl, trivial⟩, trivial⟩ ⟨call_ok (ks := []) (ns := [1]) (bor := []) (bobjs := []) (s_spec_parseItems p1 x2 e1) (.cons (.c1 (.c0 (.same _ (by kernel_rfl) (by kernel_rfl)))) (.nil)) (by kernel_rfl) trivial, trivial⟩ ?_
  refine AX.seq ?_
  refine AX.seq ?_
  rcases bool_cases ((!x2.2.2)) with b2 | b2
  · replace h := cd_t b2 h
    refine AX.reg (its := [.auto {}, .auto { y := some (.v (.bool true)) }]) [2, 5, 18] [0, 1] (s1 := ⟨[(2, .pt 0 0), (5, .sl 1 0 x2.2.1.length), (18, .v (.bool true))], [(0, .box [.v (.slice none 0 0)]), (1, .arr 3 (List.map enc_sbi x2.2.1))]⟩) (C := ((True) ∧ ((.v (.bool (!x2.2.2)) : AV) = (.v (.bool true) : AV))) ∧ True) (by kernel_rfl) ⟨⟨trivial, (congrArg (fun z => AV.v (.bool z)) b2)⟩, trivial⟩ trivial ?_
    refine AX.cond_true (by kernel_rfl) ?_
    refine AX.seq ?_
    refine AX.reg (its := []) [2, 3] [0] (s1 := ⟨[(2, .pt 0 0), (3, .v (.bool false))], [(0, .box [.v (.slice none 0 0)])]⟩) (C := True) (by kernel_rfl) trivial trivial ?_
    refine AX.ret ?_
    refine fin_wk (Wk.matB 0 0 1 2 (cs := [.v (.slice none 0 0)]) (by kernel_rfl) (by kernel_rfl) (Nat.le_of_ble_eq_true (by kernel_rfl)) (by kernel_rfl) (by decide) rfl) ?_
    refine fin_wk (Wk.forget [2, 3] [0, 1] (s' := ⟨[(2, .pt 0 0), (3, .v (.bool false))], [(0, .box [.sl 1 0 (([] : List (ByteArray × Int)).length)]), (1, .arr 2 (List.map enc_si ([] : List (ByteArray × Int))))]⟩) (by kernel_rfl)) ?_
    have hr := Option.some.inj h
    subst hr
    exact ⟨_, Wk.refl _, .inr rfl, ⟨[1], by kernel_rfl, ⟨rfl, trivial⟩, [.agg [.sl 1 0 (([] : List (ByteArray × Int)).length)], .v (.bool false)], by kernel_rfl, by kernel_rfl⟩⟩
  · replace h := cd_f b2 h
    refine AX.reg (its := [.auto {}, .auto { y := some (.v (.bool false)) }]) [2, 5, 18] [0, 1] (s1 := ⟨[(2, .pt 0 0), (5, .sl 1 0 x2.2.1.length), (18, .v (.bool (!decide (x2.1 = (ByteArray.mk #[101, 110, 117, 109])))))], [(0, .box [.v (.slice none 0 0)]), (1, .arr 3 (List.map enc_sbi x2.2.1))]⟩) (C := ((True) ∧ ((.v (.bool (!x2.2.2)) : AV) = (.v (.bool false) : AV))) ∧ True) (by kernel_rfl) ⟨⟨trivial, (congrArg (fun z => AV.v (.bool z)) b2)⟩, trivial⟩ trivial ?_
    rcases bool_cases ((!decide (x2.1 = (ByteArray.mk #[101, 110, 117, 109])))) with b3 | b3
    · replace h := cd_t b3 h
      refine AX.condT ((!decide (x2.1 = (ByteArray.mk #[101, 110, 117, 109])))) (by kernel_rfl) b3 ?_
      refine AX.seq ?_
      refine AX.reg (its := []) [2, 3] [0] (s1 := ⟨[(2, .pt 0 0), (3, .v (.bool false))], [(0, .box [.v (.slice none 0 0)])]⟩) (C := True) (by kernel_rfl) trivial trivial ?_
      refine AX.ret ?_
      refine fin_wk (Wk.matB 0 0 1 2 (cs := [.v (.slice none 0 0)]) (by kernel_rfl) (by kernel_rfl) (Nat.le_of_ble_eq_true (by kernel_rfl)) (by kernel_rfl) (by decide) rfl) ?_
      refine fin_wk (Wk.forget [2, 3] [0, 1] (s' := ⟨[(2, .pt 0 0), (3, .v (.bool false))], [(0, .box [.sl 1 0 (([] : List (ByteArray × Int)).length)]), (1, .arr 2 (List.map enc_si ([] : List (ByteArray × Int))))]⟩) (by kernel_rfl)) ?_
      have hr := Option.some.inj h
      subst hr
      exact ⟨_, Wk.refl _, .inr rfl, ⟨[1], by kernel_rfl, ⟨rfl, trivial⟩, [.agg [.sl 1 0 (([] : List (ByteArray × Int)).length)], .v (.bool false)], by kernel_rfl, by kernel_rfl⟩⟩
    · replace h := cd_f b3 h
      refine AX.condF ((!decide (x2.1 = (ByteArray.mk #[101, 110, 117, 109])))) (by kernel_rfl) b3 ?_
      refine AX.skip ?_
      refine AX.seq ?_
      obtain ⟨x3, e4, h⟩ := bd_e h
      refine AX.reg (its := [.auto {}, .call 46 [.sl 1 0 x2.2.1.length] (handO (rho ([] ++ [2])) [] [] ++ [(1, .arr 3 (List.map enc_sbi x2.2.1))]) (callEv [] [2] (.tup [.agg [.sl 0 0 x3.1.length], .v (.bool x3.2)]) [.arr 2 (List.map enc_si x3.1)])]) [2, 3] [0, 2] (s1 := ⟨[(2, .pt 0 0), (3, .v (.bool x3.2))], [(0, .box [.sl 2 0 x3.1.length]), (2, .arr 2 (List.map enc_si x3.1))]⟩) (C := ((([.sl 1 0 x2.2.1.length] : List AV) = [.sl 1 0 x2.2.1.length]) ∧ (AO.arr 3 (List.map enc_sbi x2.2.1) = AO.arr 3 (List.map enc_sbi x2.2.1)) ∧ True) ∧ True) (by kernel_rfl) ⟨⟨rfl, rfl, trivial⟩, trivial⟩ ⟨call_ok (ks := []) (ns := [2]) (bor := [1]) (bobjs := [(1, .arr 3 (List.map enc_sbi x2.2.1))]) (s_spec_BuildEnum x2.2.1 x3 e4) (.cons (.c1 (.c0 (.arr rfl rfl ((rfl).trans (List.length_map ..).symm)))) (.nil)) (by kernel_rfl) trivial, trivial⟩ ?_
      refine AX.ret ?_
      refine fin_wk (Wk.swap 1 2 (Nat.le_of_ble_eq_true (by kernel_rfl)) (Nat.le_of_ble_eq_true (by kernel_rfl)) rfl) ?_
      refine fin_wk (Wk.forget [2, 3] [0, 1] (s' := ⟨[(2, .pt 0 0), (3, .v (.bool x3.2))], [(0, .box [.sl 1 0 x3.1.length]), (1, .arr 2 (List.map enc_si x3.1))]⟩) (by kernel_rfl)) ?_
      have hr := Option.some.inj h
      subst hr
      exact ⟨_, Wk.refl _, .inr rfl, ⟨[1], by kernel_rfl, ⟨rfl, trivial⟩, [.agg [.sl 1 0 x3.1.length], .v (.bool x3.2)], by kernel_rfl, by kernel_rfl⟩⟩

theorem s_strings_CutSuffix (p1 : ByteArray) (p2 : ByteArray) (r : ByteArray × Bool) (h : m_strings_CutSuffix p1 p2 = some r) :
    Eng.Spec Tryd.prog 94 [.v (.string p1), .v (.string p2)] [] (.tup [.v (.string r.1), .v (.bool r.2)]) [] := by
  unfold m_strings_CutSuffix at h
  obtain ⟨g1, h⟩ := gd_e h
  have hr := Option.some.inj h
  refine spec_pure (r := .tuple ([.string r.1, .bool r.2] : List Value).toArray) ⟨_, Tryd.func94, by kernel_rfl, by kernel_rfl⟩ (fun X m sh => by simp only [VR]; exact ⟨_, rfl, by simp [VRs, VR]⟩) ?_
  subst hr
  intro X m vs hv
  simp only [VRs, VR] at hv
  obtain ⟨_, _, rfl, rfl, _, _, rfl, rfl, rfl⟩ := hv
  have hg := (X.hG X.w0 (fun _ _ => rfl)).2
  refine (Tryd.strings_CutSuffix p1 p2 X.w0 g1).mono ?_
  rintro e w' ⟨rfl, rfl⟩
  exact ⟨rfl, RowKit.Below.refl _ _⟩

theorem s_strings_Split (p1 : ByteArray) (p2 : ByteArray) (r : List (ByteArray)) (h : m_strings_Split p1 p2 = some r) :
    Eng.Spec Tryd.prog 39 [.v (.string p1), .v (.string p2)] [] (.sl 0 0 r.length) [.arr 1 (List.map enc_s r)] := by
  unfold m_strings_Split at h
  obtain ⟨g1, h⟩ := gd_e h
  obtain ⟨g2, h⟩ := gd_e h
  have hr := Option.some.inj h
  subst hr
  have e : List.map enc_s (Lib.splitB p2 0 (Lib.countB p1 p2) p1) = ((Lib.splitB p2 0 (Lib.countB p1 p2) p1).map Value.string).map fun x => [x] := by simp [enc_s]
  have hlen := Lib.splitB_all p2 g2 0 _ p1 rfl
  rw [e, show (Lib.splitB p2 0 (Lib.countB p1 p2) p1).length = ((Lib.splitB p2 0 (Lib.countB p1 p2) p1).map Value.string).length by simp]
  refine spec_row (T := 9) ⟨_, Tryd.func39, by kernel_rfl, by kernel_rfl⟩ (by intro x hx; obtain ⟨y, _, rfl⟩ := List.mem_map.1 hx; rfl) ?_
  intro X m vs hv
  simp only [VRs, VR] at hv
  obtain ⟨_, _, rfl, rfl, _, _, rfl, rfl, rfl⟩ := hv
  have hg := (X.hG X.w0 (fun _ _ => rfl)).2
  obtain ⟨mx, hmx⟩ := GX_maxlen hg
  refine (Tryd.strings_Split p1 p2 mx X.w0 g1 hmx g2).mono ?_
  rintro e w' ⟨rfl, rfl⟩
  exact ⟨by rw [List.length_map, hlen], rfl⟩

theorem s_strings_Cut (p1 : ByteArray) (p2 : ByteArray) (r : ByteArray × ByteArray × Bool) (h : m_strings_Cut p1 p2 = some r) :
    Eng.Spec Tryd.prog 95 [.v (.string p1), .v (.string p2)] [] (.tup [.v (.string r.1), .v (.string r.2.1), .v (.bool r.2.2)]) [] := by
  unfold m_strings_Cut at h
  obtain ⟨g1, h⟩ := gd_e h
  have hr := Option.some.inj h
  refine spec_pure (r := .tuple ([.string r.1, .string r.2.1, .bool r.2.2] : List Value).toArray) ⟨_, Tryd.func95, by kernel_rfl, by kernel_rfl⟩ (fun X m sh => by simp only [VR]; exact ⟨_, rfl, by simp [VRs, VR]⟩) ?_
  subst hr
  intro X m vs hv
  simp only [VRs, VR] at hv
  obtain ⟨_, _, rfl, rfl, _, _, rfl, rfl, rfl⟩ := hv
  have hg := (X.hG X.w0 (fun _ _ => rfl)).2
  obtain ⟨mx, hmx⟩ := GX_maxlen hg
  refine (Tryd.strings_Cut p1 p2 mx X.w0 g1 hmx).mono ?_
  rintro e w' ⟨rfl, n, rfl⟩
  exact ⟨rfl, below_drewN _ _⟩

theorem s_strconv_Atoi (p1 : ByteArray) (r : Int × Bool) (h : m_strconv_Atoi p1 = some r) :
    Eng.Spec Tryd.prog 88 [.v (.string p1)] [] (.tup [.v (.int .i64 r.1), .er r.2]) [] := by
  unfold m_strconv_Atoi at h
  obtain ⟨g1, h⟩ := gd_e h
  have hr := Option.some.inj h
  subst hr
  refine spec_val ⟨_, Tryd.func88, by kernel_rfl, by kernel_rfl⟩ ?_
  intro X m vs hv
  simp only [VRs, VR] at hv
  obtain ⟨_, _, rfl, rfl, rfl⟩ := hv
  have hg := (X.hG X.w0 (fun _ _ => rfl)).2
  rcases ha : Lib.atoiAll p1.data.toList with v | _ | _
  · have e0 : atoiAns p1 = (v, true) := by unfold atoiAns; rw [ha]
    rw [e0]
    refine (Tryd.strconv_Atoi_ok p1 (by omega) v ha X.w0).mono ?_
    rintro e w' ⟨rfl, hw⟩
    refine ⟨_, rfl, fun m sh => ?_, ?_⟩
    · exact vr_int_err ⟨fun _ => rfl, (fun h => by cases h)⟩
    · rcases hw with rfl | ⟨t, rfl⟩
      · exact RowKit.Below.refl _ _
      · exact Lib.bytesWorld_below _ _ _
  · have e0 : atoiAns p1 = (0, false) := by unfold atoiAns; rw [ha]
    rw [e0]
    obtain ⟨ev, h1, h2⟩ := GX_errsyntax hg
    refine (Tryd.strconv_Atoi_syntax p1 g1 ha ev X.w0 h1 h2).mono ?_
    rintro e w' ⟨N, rfl, _, _, hw⟩
    refine ⟨_, rfl, fun m sh => ?_, hw⟩
    exact vr_int_err ⟨(fun h => by cases h), fun _ => ⟨_, _, rfl⟩⟩
  · have e0 : atoiAns p1 = (Lib.atoiSat p1.data.toList, false) := by unfold atoiAns; rw [ha]
    rw [e0]
    obtain ⟨ev, h1, h2⟩ := GX_errrange hg
    refine (Tryd.strconv_Atoi_range p1 g1 ha ev X.w0 h1 h2).mono ?_
    rintro e w' ⟨N, rfl, _, _, hw⟩
    refine ⟨_, rfl, fun m sh => ?_, hw⟩
    exact vr_int_err ⟨(fun h => by cases h), fun _ => ⟨_, _, rfl⟩⟩

theorem s_strconv_Itoa (p1 : Int) (r : ByteArray) (h : m_strconv_Itoa p1 = some r) :
    Eng.Spec Tryd.prog 63 [.v (.int .i64 p1)] [] (.v (.string r)) [] := by
  unfold m_strconv_Itoa at h
  obtain ⟨g1, h⟩ := gd_e h
  have hr := Option.some.inj h
  refine spec_pure (r := .string r) ⟨_, Tryd.func63, by kernel_rfl, by kernel_rfl⟩ (fun X m sh => by simp only [VR]) ?_
  subst hr
  intro X m vs hv
  simp only [VRs, VR] at hv
  obtain ⟨_, _, rfl, rfl, rfl⟩ := hv
  have hg := (X.hG X.w0 (fun _ _ => rfl)).2
  refine (Tryd.strconv_Itoa p1 g1.1 g1.2 X.w0 (GX_pow10 hg)).mono ?_
  rintro e w' ⟨rfl, k, os, rfl⟩
  exact ⟨rfl, Lib.below_grow _ _ (Nat.le_refl _) _ _⟩

theorem s_impl_decimal (p1 : ByteArray) (r : Int × Bool) (h : m_impl_decimal p1 = some r) :
    Eng.Spec Tryd.prog 41 [.v (.string p1)] [] (.tup [.v (.int .i64 r.1), .v (.bool r.2)]) [] := by
  unfold m_impl_decimal at h
  refine Eng.Spec.body Tryd.func41 (by kernel_rfl) rfl (by kernel_rfl) ?_
  refine AX.wkpost ?_
  refine AX.seq ?_
  refine AX.reg (its := []) [0] [] (s1 := ⟨[(0, .v (.string p1))], []⟩) (C := True) (by kernel_rfl) trivial trivial ?_
  refine AX.seq ?_
  obtain ⟨x2, e1, h⟩ := bd_e h
  refine AX.reg (its := [.auto {}, .call 88 [.v (.string p1)] (handO (rho ([] ++ [])) [] [] ++ []) (callEv [] [] (.tup [.v (.int .i64 x2.1), .er x2.2]) [])]) [0, 4, 5] [] (s1 := ⟨[(0, .v (.string p1)), (4, .v (.int .i64 x2.1)), (5, .er x2.2)], []⟩) (C := ((([.v (.string p1)] : List AV) = [.v (.string p1)]) ∧ True) ∧ True) (by kernel_rfl) ⟨⟨rfl, trivial⟩, trivial⟩ ⟨call_ok (ks := []) (ns := []) (bor := []) (bobjs := []) (s_strconv_Atoi p1 x2 e1) (.cons (.c1 (.c0 (.same _ (by kernel_rfl) (by kernel_rfl)))) (.nil)) (by kernel_rfl) trivial, trivial⟩ ?_
  refine AX.seq ?_
  rcases bool_cases (x2.2) with b2 | b2
  · replace h := cd_t b2 h
    obtain ⟨x3, e3, h⟩ := bd_e h
    refine AX.reg (its := [.auto {}, .auto {}, .auto { y := some (.v (.bool true)) }, .auto {}, .auto {}, .call 63 [.v (.int .i64 x2.1)] (handO (rho ([] ++ [])) [] [] ++ []) (callEv [] [] (.v (.string x3)) [])]) [2, 3] [] (s1 := ⟨[(2, .v (.int .i64 x2.1)), (3, .v (.bool (decide (x3 = p1))))], []⟩) (C := ((True) ∧ ((.v (.bool x2.2) : AV) = (.v (.bool true) : AV))) ∧ ((([.v (.int .i64 x2.1)] : List AV) = [.v (.int .i64 x2.1)]) ∧ True) ∧ True) (by kernel_rfl) ⟨⟨trivial, (congrArg (fun z => AV.v (.bool z)) b2)⟩, ⟨⟨rfl, trivial⟩, trivial⟩⟩ ⟨call_ok (ks := []) (ns := []) (bor := []) (bobjs := []) (s_strconv_Itoa x2.1 x3 e3) (.cons (.c1 (.c0 (.same _ (by kernel_rfl) (by kernel_rfl)))) (.nil)) (by kernel_rfl) trivial, trivial⟩ ?_
    refine AX.ret ?_
    refine fin_wk (Wk.forget [2, 3] [] (s' := ⟨[(2, .v (.int .i64 x2.1)), (3, .v (.bool (decide (x3 = p1))))], []⟩) (by kernel_rfl)) ?_
    have hr := Option.some.inj h
    subst hr
    exact ⟨_, Wk.refl _, .inr rfl, ⟨[], by kernel_rfl, trivial, [.v (.int .i64 x2.1), .v (.bool (decide (x3 = p1)))], by kernel_rfl, by kernel_rfl⟩⟩
  · replace h := cd_f b2 h
    refine AX.reg (its := [.auto {}, .auto {}, .auto { y := some (.v (.bool false)) }]) [2, 3] [] (s1 := ⟨[(2, .v (.int .i64 x2.1)), (3, .v (.bool false))], []⟩) (C := ((True) ∧ ((.v (.bool x2.2) : AV) = (.v (.bool false) : AV))) ∧ True) (by kernel_rfl) ⟨⟨trivial, (congrArg (fun z => AV.v (.bool z)) b2)⟩, trivial⟩ trivial ?_
    refine AX.ret ?_
    refine fin_wk (Wk.forget [2, 3] [] (s' := ⟨[(2, .v (.int .i64 x2.1)), (3, .v (.bool false))], []⟩) (by kernel_rfl)) ?_
    have hr := Option.some.inj h
    subst hr
    exact ⟨_, Wk.refl _, .inr rfl, ⟨[], by kernel_rfl, trivial, [.v (.int .i64 x2.1), .v (.bool false)], by kernel_rfl, by kernel_rfl⟩⟩

theorem s_impl_readItems_L1 (x3 : List (ByteArray)) (n : Nat) (g : (List (ByteArray × Bool × Int)) × Int) (out : Unit ⊕ List (ByteArray × Bool × Int)) (h : m_impl_readItems_L1 x3 n g.1 g.2 = some out) :
    AX Tryd.prog 67 0 (codeAt [1, 1, 1, 1, 1, 0, 1, 1] (bodyOf Tryd.f47)) ((fun g : (List (ByteArray × Bool × Int)) × Int => (⟨[(7, .sl 0 0 x3.length), (8, .sl 1 0 g.1.length), (32, .sl 0 (0 + (1 : Int).toNat) ((x3.length : Int).toNat - (1 : Int).toNat)), (33, .v (.int .i64 (((x3.length : Int).toNat - (1 : Int).toNat : Nat) : Int))), (34, .v (.int .i64 g.2))], [(0, .arr 1 (List.map enc_s x3)), (1, .arr 3 (List.map enc_sbi g.1))]⟩ : S)) g) (fun ex s => (∃ o : Unit, out = Sum.inl o ∧ ex = .ret ∧ s = ⟨[(2, .v (.string ByteArray.empty)), (3, .v (.slice none 0 0)), (4, .v (.bool false))], []⟩) ∨ (∃ o : List (ByteArray × Bool × Int), out = Sum.inr o ∧ ex = .exit 0 ∧ s = ⟨[(7, .sl 0 0 x3.length), (8, .sl 1 0 o.length)], [(0, .arr 1 (List.map enc_s x3)), (1, .arr 3 (List.map enc_sbi o))]⟩)) := by
  refine AX.wkpost ?_
  refine AX.loop (G := Nat × ((List (ByteArray × Bool × Int)) × Int)) (fun q => (fun g : (List (ByteArray × Bool × Int)) × Int => (⟨[(7, .sl 0 0 x3.length), (8, .sl 1 0 g.1.length), (32, .sl 0 (0 + (1 : Int).toNat) ((x3.length : Int).toNat - (1 : Int).toNat)), (33, .v (.int .i64 (((x3.length : Int).toNat - (1 : Int).toNat : Nat) : Int))), (34, .v (.int .i64 g.2))], [(0, .arr 1 (List.map enc_s x3)), (1, .arr 3 (List.map enc_sbi g.1))]⟩ : S)) q.2) (fun q => m_impl_readItems_L1 x3 q.1 q.2.1 q.2.2 = some out) (fun q => q.1) (n, g) h (Wk.refl _) ?_
  clear h
  rintro ⟨fu, v4, v5⟩ h
  cases fu with
  | zero => cases h
  | succ fu =>
    rw [m_impl_readItems_L1] at h
    refine AX.seq ?_
    obtain ⟨v6, q6, h⟩ := nm_e h
    refine AX.reg (its := [.auto { y := some (.v (.bool v6)) }]) [7, 8, 32, 33, 34, 35] [0, 1] (s1 := ⟨[(7, .sl 0 0 x3.length), (8, .sl 1 0 v4.length), (32, .sl 0 (0 + (1 : Int).toNat) ((x3.length : Int).toNat - (1 : Int).toNat)), (33, .v (.int .i64 (((x3.length : Int).toNat - (1 : Int).toNat : Nat) : Int))), (34, .v (.int .i64 v5)), (35, .v (.bool v6))], [(0, .arr 1 (List.map enc_s x3)), (1, .arr 3 (List.map enc_sbi v4))]⟩) (C := ((True) ∧ ((.v (.bool (decide (v5 < (((x3.length : Int).toNat - (1 : Int).toNat : Nat) : Int)))) : AV) = (.v (.bool v6) : AV))) ∧ True) (by kernel_rfl) ⟨⟨trivial, (congrArg (fun z => AV.v (.bool z)) q6)⟩, trivial⟩ trivial ?_
    refine AX.seq ?_
    rcases bool_cases (v6) with b7 | b7
    · replace h := cd_t b7 h
      refine AX.condT (v6) (by kernel_rfl) b7 ?_
      refine AX.skip ?_
      refine AX.seq ?_
      refine AX.block ?_
      refine AX.seq ?_
      obtain ⟨g8, h⟩ := gd_e h
      refine AX.reg (its := [.auto {}, .auto { y := some (.v (.string (gt x3 (((1 : Int).toNat + v5.toNat : Nat) : Int)))) }]) [7, 8, 10, 32, 33, 34] [0, 1] (s1 := ⟨[(7, .sl 0 0 x3.length), (8, .sl 1 0 v4.length), (10, .v (.string (gt x3 (((1 : Int).toNat + v5.toNat : Nat) : Int)))), (32, .sl 0 (0 + (1 : Int).toNat) ((x3.length : Int).toNat - (1 : Int).toNat)), (33, .v (.int .i64 (((x3.length : Int).toNat - (1 : Int).toNat : Nat) : Int))), (34, .v (.int .i64 v5))], [(0, .arr 1 (List.map enc_s x3)), (1, .arr 3 (List.map enc_sbi v4))]⟩) (C := (0 ≤ v5 ∧ v5 < (((x3.length : Int).toNat - (1 : Int).toNat : Nat) : Int)) ∧ (True ∧ (AV.v (((List.map enc_s x3).getD (0 + (1 : Int).toNat + v5.toNat) []).getD 0 undef) = .v (.string (gt x3 (((1 : Int).toNat + v5.toNat : Nat) : Int))))) ∧ True) (by kernel_rfl) ⟨g8.1, ⟨⟨trivial, (congrArg (fun z : List Value => AV.v (z.getD 0 undef)) (idx_part (enc := enc_s) rfl g8.2))⟩, trivial⟩⟩ trivial ?_
      refine AX.seq ?_
      obtain ⟨x7, e9, h⟩ := bd_e h
      refine AX.reg (its := [.auto {}, .call 95 [.v (.string (gt x3 (((1 : Int).toNat + v5.toNat : Nat) : Int))), .v (.string (ByteArray.mk #[32, 61, 32]))] (handO (rho ([] ++ [])) [] [] ++ []) (callEv [] [] (.tup [.v (.string x7.1), .v (.string x7.2.1), .v (.bool x7.2.2)]) [])]) [7, 8, 11, 12, 13, 32, 33, 34] [0, 1] (s1 := ⟨[(7, .sl 0 0 x3.length), (8, .sl 1 0 v4.length), (11, .v (.string x7.1)), (12, .v (.string x7.2.1)), (13, .v (.bool x7.2.2)), (32, .sl 0 (0 + (1 : Int).toNat) ((x3.length : Int).toNat - (1 : Int).toNat)), (33, .v (.int .i64 (((x3.length : Int).toNat - (1 : Int).toNat : Nat) : Int))), (34, .v (.int .i64 v5))], [(0, .arr 1 (List.map enc_s x3)), (1, .arr 3 (List.map enc_sbi v4))]⟩) (C := ((([.v (.string (gt x3 (((1 : Int).toNat + v5.toNat : Nat) : Int))), .v (.string (ByteArray.mk #[32, 61, 32]))] : List AV) = [.v (.string (gt x3 (((1 : Int).toNat + v5.toNat : Nat) : Int))), .v (.string (ByteArray.mk #[32, 61, 32]))]) ∧ True) ∧ True) (by kernel_rfl) ⟨⟨rfl, trivial⟩, trivial⟩ ⟨call_ok (ks := []) (ns := []) (bor := []) (bobjs := []) (s_strings_Cut (gt x3 (((1 : Int).toNat + v5.toNat : Nat) : Int)) (ByteArray.mk #[32, 61, 32]) x7 e9) (.cons (.c1 (.c0 (.same _ (by kernel_rfl) (by kernel_rfl)))) (.cons (.c1 (.c0 (.same _ (by kernel_rfl) (by kernel_rfl)))) (.nil))) (by kernel_rfl) trivial, trivial⟩ ?_
      refine AX.seq ?_
      refine AX.reg (its := [.auto {}, .auto {}, .auto {}, .auto {}, .auto { nk := 2 }]) [7, 8, 12, 13, 14, 32, 33, 34] [0, 1, 2] (s1 := ⟨[(7, .sl 0 0 x3.length), (8, .sl 1 0 v4.length), (12, .v (.string x7.2.1)), (13, .v (.bool x7.2.2)), (14, .pt 2 0), (32, .sl 0 (0 + (1 : Int).toNat) ((x3.length : Int).toNat - (1 : Int).toNat)), (33, .v (.int .i64 (((x3.length : Int).toNat - (1 : Int).toNat : Nat) : Int))), (34, .v (.int .i64 v5))], [(0, .arr 1 (List.map enc_s x3)), (1, .arr 3 (List.map enc_sbi v4)), (2, .box [.v (.string x7.1), .v (.bool (!x7.2.2)), .v (.int .i64 0)])]⟩) (C := True) (by kernel_rfl) trivial trivial ?_
      refine AX.seq ?_
      refine AX.seq ?_
      refine AX.reg (its := []) [7, 8, 12, 14, 32, 33, 34, 48] [0, 1, 2] (s1 := ⟨[(7, .sl 0 0 x3.length), (8, .sl 1 0 v4.length), (12, .v (.string x7.2.1)), (14, .pt 2 0), (32, .sl 0 (0 + (1 : Int).toNat) ((x3.length : Int).toNat - (1 : Int).toNat)), (33, .v (.int .i64 (((x3.length : Int).toNat - (1 : Int).toNat : Nat) : Int))), (34, .v (.int .i64 v5)), (48, .v (.bool x7.2.2))], [(0, .arr 1 (List.map enc_s x3)), (1, .arr 3 (List.map enc_sbi v4)), (2, .box [.v (.string x7.1), .v (.bool (!x7.2.2)), .v (.int .i64 0)])]⟩) (C := True) (by kernel_rfl) trivial trivial ?_
      rcases bool_cases (x7.2.2) with b10 | b10
      · replace h := cd_t b10 h
        refine AX.condT (x7.2.2) (by kernel_rfl) b10 ?_
        refine AX.seq ?_
        obtain ⟨x8, e11, h⟩ := bd_e h
        refine AX.reg (its := [.auto {}, .call 41 [.v (.string x7.2.1)] (handO (rho ([] ++ [])) [] [] ++ []) (callEv [] [] (.tup [.v (.int .i64 x8.1), .v (.bool x8.2)]) [])]) [7, 8, 14, 15, 16, 32, 33, 34] [0, 1, 2] (s1 := ⟨[(7, .sl 0 0 x3.length), (8, .sl 1 0 v4.length), (14, .pt 2 0), (15, .v (.int .i64 x8.1)), (16, .v (.bool x8.2)), (32, .sl 0 (0 + (1 : Int).toNat) ((x3.length : Int).toNat - (1 : Int).toNat)), (33, .v (.int .i64 (((x3.length : Int).toNat - (1 : Int).toNat : Nat) : Int))), (34, .v (.int .i64 v5))], [(0, .arr 1 (List.map enc_s x3)), (1, .arr 3 (List.map enc_sbi v4)), (2, .box [.v (.string x7.1), .v (.bool (!x7.2.2)), .v (.int .i64 0)])]⟩) (C := ((([.v (.string x7.2.1)] : List AV) = [.v (.string x7.2.1)]) ∧ True) ∧ True) (by kernel_rfl) ⟨⟨rfl, trivial⟩, trivial⟩ ⟨call_ok (ks := []) (ns := []) (bor := []) (bobjs := []) (s_impl_decimal x7.2.1 x8 e11) (.cons (.c1 (.c0 (.same _ (by kernel_rfl) (by kernel_rfl)))) (.nil)) (by kernel_rfl) trivial, trivial⟩ ?_
        refine AX.seq ?_
        refine AX.seq ?_
        refine AX.reg (its := []) [7, 8, 14, 15, 32, 33, 34, 55] [0, 1, 2] (s1 := ⟨[(7, .sl 0 0 x3.length), (8, .sl 1 0 v4.length), (14, .pt 2 0), (15, .v (.int .i64 x8.1)), (32, .sl 0 (0 + (1 : Int).toNat) ((x3.length : Int).toNat - (1 : Int).toNat)), (33, .v (.int .i64 (((x3.length : Int).toNat - (1 : Int).toNat : Nat) : Int))), (34, .v (.int .i64 v5)), (55, .v (.bool (!x8.2)))], [(0, .arr 1 (List.map enc_s x3)), (1, .arr 3 (List.map enc_sbi v4)), (2, .box [.v (.string x7.1), .v (.bool (!x7.2.2)), .v (.int .i64 0)])]⟩) (C := True) (by kernel_rfl) trivial trivial ?_
        rcases bool_cases ((!x8.2)) with b12 | b12
        · replace h := cd_t b12 h
          refine AX.condT ((!x8.2)) (by kernel_rfl) b12 ?_
          refine AX.seq ?_
          refine AX.reg (its := []) [2, 3, 4] [] (s1 := ⟨[(2, .v (.string ByteArray.empty)), (3, .v (.slice none 0 0)), (4, .v (.bool false))], []⟩) (C := True) (by kernel_rfl) trivial trivial ?_
          refine AX.ret ?_
          refine fin_wk (Wk.forget [2, 3, 4] [] (s' := ⟨[(2, .v (.string ByteArray.empty)), (3, .v (.slice none 0 0)), (4, .v (.bool false))], []⟩) (by kernel_rfl)) ?_
          have hr := Option.some.inj h
          subst hr
          exact ⟨_, Wk.refl _, .inl ⟨(), rfl, rfl, rfl⟩⟩
        · replace h := cd_f b12 h
          refine AX.condF ((!x8.2)) (by kernel_rfl) b12 ?_
          refine AX.skip ?_
          refine AX.reg (its := []) [7, 8, 14, 32, 33, 34] [0, 1, 2] (s1 := ⟨[(7, .sl 0 0 x3.length), (8, .sl 1 0 v4.length), (14, .pt 2 0), (32, .sl 0 (0 + (1 : Int).toNat) ((x3.length : Int).toNat - (1 : Int).toNat)), (33, .v (.int .i64 (((x3.length : Int).toNat - (1 : Int).toNat : Nat) : Int))), (34, .v (.int .i64 v5))], [(0, .arr 1 (List.map enc_s x3)), (1, .arr 3 (List.map enc_sbi v4)), (2, .box [.v (.string x7.1), .v (.bool (!x7.2.2)), .v (.int .i64 x8.1)])]⟩) (C := True) (by kernel_rfl) trivial trivial ?_
          obtain ⟨g13, h⟩ := gd_e h
          refine AX.reg (its := [.auto {}, .auto {}, .auto { nk := 3 }, .auto { y := some (.sl 4 0 ((v4 ++ ([(x7.1, (!x7.2.2), x8.1)] : List (ByteArray × Bool × Int))).length)), els := some (List.map enc_sbi v4), els2 := some (List.map enc_sbi ([(x7.1, (!x7.2.2), x8.1)] : List (ByteArray × Bool × Int))), nk := 4 }]) [7, 8, 32, 33, 34] [0, 4] (s1 := ⟨[(7, .sl 0 0 x3.length), (8, .sl 4 0 ((v4 ++ ([(x7.1, (!x7.2.2), x8.1)] : List (ByteArray × Bool × Int))).length)), (32, .sl 0 (0 + (1 : Int).toNat) ((x3.length : Int).toNat - (1 : Int).toNat)), (33, .v (.int .i64 (((x3.length : Int).toNat - (1 : Int).toNat : Nat) : Int))), (34, .v (.int .i64 v5))], [(0, .arr 1 (List.map enc_s x3)), (4, .arr 3 (List.map enc_sbi v4 ++ List.map enc_sbi ([(x7.1, (!x7.2.2), x8.1)] : List (ByteArray × Bool × Int))))]⟩) (C := ((((((List.map enc_sbi v4).drop 0).take (v4.length) = List.map enc_sbi v4) ∧ (((List.map enc_sbi ([(x7.1, (!x7.2.2), x8.1)] : List (ByteArray × Bool × Int))).drop 0).take (([(x7.1, (!x7.2.2), x8.1)] : List (ByteArray × Bool × Int)).length) = List.map enc_sbi ([(x7.1, (!x7.2.2), x8.1)] : List (ByteArray × Bool × Int)))) ∧ (List.map enc_sbi v4).length + (List.map enc_sbi ([(x7.1, (!x7.2.2), x8.1)] : List (ByteArray × Bool × Int))).length ≤ 1099511627776) ∧ (AV.sl 4 0 (List.map enc_sbi v4 ++ List.map enc_sbi ([(x7.1, (!x7.2.2), x8.1)] : List (ByteArray × Bool × Int))).length = AV.sl 4 0 (v4 ++ ([(x7.1, (!x7.2.2), x8.1)] : List (ByteArray × Bool × Int))).length)) ∧ True) (by kernel_rfl) ⟨⟨⟨⟨(dt_all (enc := enc_sbi) rfl rfl), (dt_all (enc := enc_sbi) rfl rfl)⟩, (by simp only [List.length_map, List.length_nil, List.length_replicate]; simpa using g13)⟩, sl_len (enc := enc_sbi) (app_can (enc := enc_sbi) rfl (rfl))⟩, trivial⟩ trivial ?_
          refine AX.reg (its := [.auto { raw := true }]) [7, 8, 32, 33, 34] [0, 4] (s1 := ⟨[(7, .sl 0 0 x3.length), (8, .sl 4 0 ((v4 ++ ([(x7.1, (!x7.2.2), x8.1)] : List (ByteArray × Bool × Int))).length)), (32, .sl 0 (0 + (1 : Int).toNat) ((x3.length : Int).toNat - (1 : Int).toNat)), (33, .v (.int .i64 (((x3.length : Int).toNat - (1 : Int).toNat : Nat) : Int))), (34, .v (.int .i64 (IntKind.wrap .i64 (v5 + 1))))], [(0, .arr 1 (List.map enc_s x3)), (4, .arr 3 (List.map enc_sbi v4 ++ List.map enc_sbi ([(x7.1, (!x7.2.2), x8.1)] : List (ByteArray × Bool × Int))))]⟩) (C := True) (by kernel_rfl) trivial trivial ?_
          refine ⟨(fu, (v4 ++ ([(x7.1, (!x7.2.2), x8.1)] : List (ByteArray × Bool × Int)), IntKind.wrap .i64 (v5 + 1))), h, Nat.lt_succ_self _, ?_⟩
          refine Wk.trans (Wk.swap 1 4 (Nat.le_of_ble_eq_true (by kernel_rfl)) (Nat.le_of_ble_eq_true (by kernel_rfl)) rfl) ?_
          refine Wk.trans (Wk.forget [7, 8, 32, 33, 34] [0, 1] (s' := ⟨[(7, .sl 0 0 x3.length), (8, .sl 1 0 ((v4 ++ ([(x7.1, (!x7.2.2), x8.1)] : List (ByteArray × Bool × Int))).length)), (32, .sl 0 (0 + (1 : Int).toNat) ((x3.length : Int).toNat - (1 : Int).toNat)), (33, .v (.int .i64 (((x3.length : Int).toNat - (1 : Int).toNat : Nat) : Int))), (34, .v (.int .i64 (IntKind.wrap .i64 (v5 + 1))))], [(0, .arr 1 (List.map enc_s x3)), (1, .arr 3 (List.map enc_sbi v4 ++ List.map enc_sbi ([(x7.1, (!x7.2.2), x8.1)] : List (ByteArray × Bool × Int))))]⟩) (by kernel_rfl)) ?_
          refine Wk.trans (Wk.of_eq (congrArg (fun z => (⟨[(7, .sl 0 0 x3.length), (8, .sl 1 0 ((v4 ++ ([(x7.1, (!x7.2.2), x8.1)] : List (ByteArray × Bool × Int))).length)), (32, .sl 0 (0 + (1 : Int).toNat) ((x3.length : Int).toNat - (1 : Int).toNat)), (33, .v (.int .i64 (((x3.length : Int).toNat - (1 : Int).toNat : Nat) : Int))), (34, .v (.int .i64 (IntKind.wrap .i64 (v5 + 1))))], [(0, .arr 1 (List.map enc_s x3)), (1, .arr 3 (z))]⟩ : S)) (app_can (enc := enc_sbi) rfl (rfl) : List.map enc_sbi v4 ++ List.map enc_sbi ([(x7.1, (!x7.2.2), x8.1)] : List (ByteArray × Bool × Int)) = List.map enc_sbi (v4 ++ ([(x7.1, (!x7.2.2), x8.1)] : List (ByteArray × Bool × Int)))))) ?_
          exact Wk.refl _
      · replace h := cd_f b10 h
        refine AX.condF (x7.2.2) (by kernel_rfl) b10 ?_
        refine AX.skip ?_
        obtain ⟨g14, h⟩ := gd_e h
        refine AX.reg (its := [.auto {}, .auto {}, .auto { nk := 3 }, .auto { y := some (.sl 4 0 ((v4 ++ ([(x7.1, (!x7.2.2), 0)] : List (ByteArray × Bool × Int))).length)), els := some (List.map enc_sbi v4), els2 := some (List.map enc_sbi ([(x7.1, (!x7.2.2), 0)] : List (ByteArray × Bool × Int))), nk := 4 }]) [7, 8, 32, 33, 34] [0, 4] (s1 := ⟨[(7, .sl 0 0 x3.length), (8, .sl 4 0 ((v4 ++ ([(x7.1, (!x7.2.2), 0)] : List (ByteArray × Bool × Int))).length)), (32, .sl 0 (0 + (1 : Int).toNat) ((x3.length : Int).toNat - (1 : Int).toNat)), (33, .v (.int .i64 (((x3.length : Int).toNat - (1 : Int).toNat : Nat) : Int))), (34, .v (.int .i64 v5))], [(0, .arr 1 (List.map enc_s x3)), (4, .arr 3 (List.map enc_sbi v4 ++ List.map enc_sbi ([(x7.1, (!x7.2.2), 0)] : List (ByteArray × Bool × Int))))]⟩) (C := ((((((List.map enc_sbi v4).drop 0).take (v4.length) = List.map enc_sbi v4) ∧ (((List.map enc_sbi ([(x7.1, (!x7.2.2), 0)] : List (ByteArray × Bool × Int))).drop 0).take (([(x7.1, (!x7.2.2), 0)] : List (ByteArray × Bool × Int)).length) = List.map enc_sbi ([(x7.1, (!x7.2.2), 0)] : List (ByteArray × Bool × Int)))) ∧ (List.map enc_sbi v4).length + (List.map enc_sbi ([(x7.1, (!x7.2.2), 0)] : List (ByteArray × Bool × Int))).length ≤ 1099511627776) ∧ (AV.sl 4 0 (List.map enc_sbi v4 ++ List.map enc_sbi ([(x7.1, (!x7.2.2), 0)] : List (ByteArray × Bool × Int))).length = AV.sl 4 0 (v4 ++ ([(x7.1, (!x7.2.2), 0)] : List (ByteArray × Bool × Int))).length)) ∧ True) (by kernel_rfl) ⟨⟨⟨⟨(dt_all (enc := enc_sbi) rfl rfl), (dt_all (enc := enc_sbi) rfl rfl)⟩, (by simp only [List.length_map, List.length_nil, List.length_replicate]; simpa using g14)⟩, sl_len (enc := enc_sbi) (app_can (enc := enc_sbi) rfl (rfl))⟩, trivial⟩ trivial ?_
        refine AX.reg (its := [.auto { raw := true }]) [7, 8, 32, 33, 34] [0, 4] (s1 := ⟨[(7, .sl 0 0 x3.length), (8, .sl 4 0 ((v4 ++ ([(x7.1, (!x7.2.2), 0)] : List (ByteArray × Bool × Int))).length)), (32, .sl 0 (0 + (1 : Int).toNat) ((x3.length : Int).toNat - (1 : Int).toNat)), (33, .v (.int .i64 (((x3.length : Int).toNat - (1 : Int).toNat : Nat) : Int))), (34, .v (.int .i64 (IntKind.wrap .i64 (v5 + 1))))], [(0, .arr 1 (List.map enc_s x3)), (4, .arr 3 (List.map enc_sbi v4 ++ List.map enc_sbi ([(x7.1, (!x7.2.2), 0)] : List (ByteArray × Bool × Int))))]⟩) (C := True) (by kernel_rfl) trivial trivial ?_
        refine ⟨(fu, (v4 ++ ([(x7.1, (!x7.2.2), 0)] : List (ByteArray × Bool × Int)), IntKind.wrap .i64 (v5 + 1))), h, Nat.lt_succ_self _, ?_⟩
        refine Wk.trans (Wk.swap 1 4 (Nat.le_of_ble_eq_true (by kernel_rfl)) (Nat.le_of_ble_eq_true (by kernel_rfl)) rfl) ?_
        refine Wk.trans (Wk.forget [7, 8, 32, 33, 34] [0, 1] (s' := ⟨[(7, .sl 0 0 x3.length), (8, .sl 1 0 ((v4 ++ ([(x7.1, (!x7.2.2), 0)] : List (ByteArray × Bool × Int))).length)), (32, .sl 0 (0 + (1 : Int).toNat) ((x3.length : Int).toNat - (1 : Int).toNat)), (33, .v (.int .i64 (((x3.length : Int).toNat - (1 : Int).toNat : Nat) : Int))), (34, .v (.int .i64 (IntKind.wrap .i64 (v5 + 1))))], [(0, .arr 1 (List.map enc_s x3)), (1, .arr 3 (List.map enc_sbi v4 ++ List.map enc_sbi ([(x7.1, (!x7.2.2), 0)] : List (ByteArray × Bool × Int))))]⟩) (by kernel_rfl)) ?_
        refine Wk.trans (Wk.of_eq (congrArg (fun z => (⟨[(7, .sl 0 0 x3.length), (8, .sl 1 0 ((v4 ++ ([(x7.1, (!x7.2.2), 0)] : List (ByteArray × Bool × Int))).length)), (32, .sl 0 (0 + (1 : Int).toNat) ((x3.length : Int).toNat - (1 : Int).toNat)), (33, .v (.int .i64 (((x3.length : Int).toNat - (1 : Int).toNat : Nat) : Int))), (34, .v (.int .i64 (IntKind.wrap .i64 (v5 + 1))))], [(0, .arr 1 (List.map enc_s x3)), (1, .arr 3 (z))]⟩ : S)) (app_can (enc := enc_sbi) rfl (rfl) : List.map enc_sbi v4 ++ List.map enc_sbi ([(x7.1, (!x7.2.2), 0)] : List (ByteArray × Bool × Int)) = List.map enc_sbi (v4 ++ ([(x7.1, (!x7.2.2), 0)] : List (ByteArray × Bool × Int)))))) ?_
        exact Wk.refl _
    · replace h := cd_f b7 h
      refine AX.condF (v6) (by kernel_rfl) b7 ?_
      refine AX.exit ?_
      refine fin_wk (Wk.forget [7, 8] [0, 1] (s' := ⟨[(7, .sl 0 0 x3.length), (8, .sl 1 0 v4.length)], [(0, .arr 1 (List.map enc_s x3)), (1, .arr 3 (List.map enc_sbi v4))]⟩) (by kernel_rfl)) ?_
      have hr := Option.some.inj h
      subst hr
      exact ⟨_, Wk.refl _, .inr ⟨v4, rfl, rfl, rfl⟩⟩

theorem s_impl_readItems (p1 : ByteArray) (r : ByteArray × (List (ByteArray × Bool × Int)) × Bool) (h : m_impl_readItems p1 = some r) :
    Eng.Spec Tryd.prog 47 [.v (.string p1)] [] (.tup [.v (.string r.1), .sl 0 0 r.2.1.length, .v (.bool r.2.2)]) [.arr 3 (List.map enc_sbi r.2.1)] := by
  unfold m_impl_readItems at h
  refine Eng.Spec.body Tryd.func47 (by kernel_rfl) rfl (by kernel_rfl) ?_
  refine AX.wkpost ?_
  refine AX.seq ?_
  refine AX.reg (its := []) [0] [] (s1 := ⟨[(0, .v (.string p1))], []⟩) (C := True) (by kernel_rfl) trivial trivial ?_
  refine AX.seq ?_
  obtain ⟨x2, e1, h⟩ := bd_e h
  refine AX.reg (its := [.auto {}, .call 94 [.v (.string p1), .v (.string (ByteArray.mk #[10]))] (handO (rho ([] ++ [])) [] [] ++ []) (callEv [] [] (.tup [.v (.string x2.1), .v (.bool x2.2)]) [])]) [5, 6] [] (s1 := ⟨[(5, .v (.string x2.1)), (6, .v (.bool x2.2))], []⟩) (C := ((([.v (.string p1), .v (.string (ByteArray.mk #[10]))] : List AV) = [.v (.string p1), .v (.string (ByteArray.mk #[10]))]) ∧ True) ∧ True) (by kernel_rfl) ⟨⟨rfl, trivial⟩, trivial⟩ ⟨call_ok (ks := []) (ns := []) (bor := []) (bobjs := []) (s_strings_CutSuffix p1 (ByteArray.mk #[10]) x2 e1) (.cons (.c1 (.c0 (.same _ (by kernel_rfl) (by kernel_rfl)))) (.cons (.c1 (.c0 (.same _ (by kernel_rfl) (by kernel_rfl)))) (.nil))) (by kernel_rfl) trivial, trivial⟩ ?_
  refine AX.seq ?_
  obtain ⟨x3, e2, h⟩ := bd_e h
  refine AX.reg (its := [.auto {}, .call 39 [.v (.string x2.1), .v (.string (ByteArray.mk #[10]))] (handO (rho ([] ++ [0])) [] [] ++ []) (callEv [] [0] (.sl 0 0 x3.length) [.arr 1 (List.map enc_s x3)])]) [6, 7] [0] (s1 := ⟨[(6, .v (.bool x2.2)), (7, .sl 0 0 x3.length)], [(0, .arr 1 (List.map enc_s x3))]⟩) (C := ((([.v (.string x2.1), .v (.string (ByteArray.mk #[10]))] : List AV) = [.v (.string x2.1), .v (.string (ByteArray.mk #[10]))]) ∧ True) ∧ True) (by kernel_rfl) ⟨⟨rfl, trivial⟩, trivial⟩ ⟨call_ok (ks := []) (ns := [0]) (bor := []) (bobjs := []) (s_strings_Split x2.1 (ByteArray.mk #[10]) x3 e2) (.cons (.c1 (.c0 (.same _ (by kernel_rfl) (by kernel_rfl)))) (.cons (.c1 (.c0 (.same _ (by kernel_rfl) (by kernel_rfl)))) (.nil))) (by kernel_rfl) trivial, trivial⟩ ?_
  refine AX.seq ?_
  refine AX.seq ?_
  rcases bool_cases ((!x2.2)) with b3 | b3
  · replace h := cd_t b3 h
    refine AX.reg (its := [.auto {}, .auto { y := some (.v (.bool true)) }]) [7, 30] [0] (s1 := ⟨[(7, .sl 0 0 x3.length), (30, .v (.bool true))], [(0, .arr 1 (List.map enc_s x3))]⟩) (C := ((True) ∧ ((.v (.bool (!x2.2)) : AV) = (.v (.bool true) : AV))) ∧ True) (by kernel_rfl) ⟨⟨trivial, (congrArg (fun z => AV.v (.bool z)) b3)⟩, trivial⟩ trivial ?_
    refine AX.cond_true (by kernel_rfl) ?_
    refine AX.seq ?_
    refine AX.reg (its := []) [2, 3, 4] [] (s1 := ⟨[(2, .v (.string ByteArray.empty)), (3, .v (.slice none 0 0)), (4, .v (.bool false))], []⟩) (C := True) (by kernel_rfl) trivial trivial ?_
    refine AX.ret ?_
    refine fin_wk (Wk.mat 3 0 3 (by kernel_rfl) (Nat.le_of_ble_eq_true (by kernel_rfl)) (by kernel_rfl) rfl) ?_
    refine fin_wk (Wk.forget [2, 3, 4] [0] (s' := ⟨[(2, .v (.string ByteArray.empty)), (3, .sl 0 0 (([] : List (ByteArray × Bool × Int)).length)), (4, .v (.bool false))], [(0, .arr 3 (List.map enc_sbi ([] : List (ByteArray × Bool × Int))))]⟩) (by kernel_rfl)) ?_
    have hr := Option.some.inj h
    subst hr
    exact ⟨_, Wk.refl _, .inr rfl, ⟨[0], by kernel_rfl, ⟨rfl, trivial⟩, [.v (.string ByteArray.empty), .sl 0 0 (([] : List (ByteArray × Bool × Int)).length), .v (.bool false)], by kernel_rfl, by kernel_rfl⟩⟩
  · replace h := cd_f b3 h
    refine AX.reg (its := [.auto {}, .auto { y := some (.v (.bool false)) }]) [7, 30] [0] (s1 := ⟨[(7, .sl 0 0 x3.length), (30, .v (.bool (decide (13 < (x3.length : Int)))))], [(0, .arr 1 (List.map enc_s x3))]⟩) (C := ((True) ∧ ((.v (.bool (!x2.2)) : AV) = (.v (.bool false) : AV))) ∧ True) (by kernel_rfl) ⟨⟨trivial, (congrArg (fun z => AV.v (.bool z)) b3)⟩, trivial⟩ trivial ?_
    rcases bool_cases (decide (13 < (x3.length : Int))) with b4 | b4
    · replace h := cd_t b4 h
      refine AX.condT (decide (13 < (x3.length : Int))) (by kernel_rfl) b4 ?_
      refine AX.seq ?_
      refine AX.reg (its := []) [2, 3, 4] [] (s1 := ⟨[(2, .v (.string ByteArray.empty)), (3, .v (.slice none 0 0)), (4, .v (.bool false))], []⟩) (C := True) (by kernel_rfl) trivial trivial ?_
      refine AX.ret ?_
      refine fin_wk (Wk.mat 3 0 3 (by kernel_rfl) (Nat.le_of_ble_eq_true (by kernel_rfl)) (by kernel_rfl) rfl) ?_
      refine fin_wk (Wk.forget [2, 3, 4] [0] (s' := ⟨[(2, .v (.string ByteArray.empty)), (3, .sl 0 0 (([] : List (ByteArray × Bool × Int)).length)), (4, .v (.bool false))], [(0, .arr 3 (List.map enc_sbi ([] : List (ByteArray × Bool × Int))))]⟩) (by kernel_rfl)) ?_
      have hr := Option.some.inj h
      subst hr
      exact ⟨_, Wk.refl _, .inr rfl, ⟨[0], by kernel_rfl, ⟨rfl, trivial⟩, [.v (.string ByteArray.empty), .sl 0 0 (([] : List (ByteArray × Bool × Int)).length), .v (.bool false)], by kernel_rfl, by kernel_rfl⟩⟩
    · replace h := cd_f b4 h
      refine AX.condF (decide (13 < (x3.length : Int))) (by kernel_rfl) b4 ?_
      refine AX.skip ?_
      refine AX.seq ?_
      refine AX.reg (its := []) [7, 8] [0] (s1 := ⟨[(7, .sl 0 0 x3.length), (8, .v (.slice none 0 0))], [(0, .arr 1 (List.map enc_s x3))]⟩) (C := True) (by kernel_rfl) trivial trivial ?_
      refine AX.seq ?_
      refine AX.seq ?_
      obtain ⟨g5, h⟩ := gd_e h
      refine AX.reg (its := []) [7, 8, 32, 33, 34] [0] (s1 := ⟨[(7, .sl 0 0 x3.length), (8, .v (.slice none 0 0)), (32, .sl 0 (0 + (1 : Int).toNat) ((x3.length : Int).toNat - (1 : Int).toNat)), (33, .v (.int .i64 (((x3.length : Int).toNat - (1 : Int).toNat : Nat) : Int))), (34, .v (.int .i64 0))], [(0, .arr 1 (List.map enc_s x3))]⟩) (C := (0 ≤ (1 : Int) ∧ (1 : Int) ≤ (x3.length : Int) ∧ (x3.length : Int) ≤ (x3.length : Int) ∧ (x3.length : Int) ≤ (x3.length : Int)) ∧ True) (by kernel_rfl) ⟨g5, trivial⟩ trivial ?_
      refine AX.block ?_
      obtain ⟨x9, e15, h⟩ := bd_e h
      refine AX.wk (Wk.mat 8 1 3 (by kernel_rfl) (Nat.le_of_ble_eq_true (by kernel_rfl)) (by kernel_rfl) rfl) ?_
      refine AX.wk (Wk.forget [7, 8, 32, 33, 34] [0, 1] (s' := ⟨[(7, .sl 0 0 x3.length), (8, .sl 1 0 (([] : List (ByteArray × Bool × Int)).length)), (32, .sl 0 (0 + (1 : Int).toNat) ((x3.length : Int).toNat - (1 : Int).toNat)), (33, .v (.int .i64 (((x3.length : Int).toNat - (1 : Int).toNat : Nat) : Int))), (34, .v (.int .i64 0))], [(0, .arr 1 (List.map enc_s x3)), (1, .arr 3 (List.map enc_sbi ([] : List (ByteArray × Bool × Int))))]⟩) (by kernel_rfl)) ?_
      refine AX.mono (s_impl_readItems_L1 x3 FU (([] : List (ByteArray × Bool × Int)), 0) x9 e15) ?_
      rintro _ _ (⟨x10, rfl, rfl, rfl⟩ | ⟨x11, rfl, rfl, rfl⟩)
      · replace h := sm_l h
        refine fin_wk (Wk.mat 3 0 3 (by kernel_rfl) (Nat.le_of_ble_eq_true (by kernel_rfl)) (by kernel_rfl) rfl) ?_
        refine fin_wk (Wk.forget [2, 3, 4] [0] (s' := ⟨[(2, .v (.string ByteArray.empty)), (3, .sl 0 0 (([] : List (ByteArray × Bool × Int)).length)), (4, .v (.bool false))], [(0, .arr 3 (List.map enc_sbi ([] : List (ByteArray × Bool × Int))))]⟩) (by kernel_rfl)) ?_
        have hr := Option.some.inj h
        subst hr
        exact ⟨_, Wk.refl _, .inr rfl, ⟨[0], by kernel_rfl, ⟨rfl, trivial⟩, [.v (.string ByteArray.empty), .sl 0 0 (([] : List (ByteArray × Bool × Int)).length), .v (.bool false)], by kernel_rfl, by kernel_rfl⟩⟩
      · replace h := sm_r h
        refine AX.seq ?_
        obtain ⟨g16, h⟩ := gd_e h
        refine AX.reg (its := [.auto {}, .auto {}, .auto { y := some (.v (.string (gt x3 (0 : Int)))) }]) [2, 3, 4] [1] (s1 := ⟨[(2, .v (.string (gt x3 (0 : Int)))), (3, .sl 1 0 x11.length), (4, .v (.bool true))], [(1, .arr 3 (List.map enc_sbi x11))]⟩) (C := (0 ≤ (0 : Int) ∧ (0 : Int) < (x3.length : Int)) ∧ (True ∧ (AV.v (((List.map enc_s x3).getD (0 + (0 : Int).toNat) []).getD 0 undef) = .v (.string (gt x3 (0 : Int))))) ∧ True) (by kernel_rfl) ⟨g16, ⟨⟨trivial, (congrArg (fun z : List Value => AV.v (z.getD 0 undef)) (idx_arr (enc := enc_s) rfl g16))⟩, trivial⟩⟩ trivial ?_
        refine AX.ret ?_
        refine fin_wk (Wk.swap 0 1 (Nat.le_of_ble_eq_true (by kernel_rfl)) (Nat.le_of_ble_eq_true (by kernel_rfl)) rfl) ?_
        refine fin_wk (Wk.forget [2, 3, 4] [0] (s' := ⟨[(2, .v (.string (gt x3 (0 : Int)))), (3, .sl 0 0 x11.length), (4, .v (.bool true))], [(0, .arr 3 (List.map enc_sbi x11))]⟩) (by kernel_rfl)) ?_
        have hr := Option.some.inj h
        subst hr
        exact ⟨_, Wk.refl _, .inr rfl, ⟨[0], by kernel_rfl, ⟨rfl, trivial⟩, [.v (.string (gt x3 (0 : Int))), .sl 0 0 x11.length, .v (.bool true)], by kernel_rfl, by kernel_rfl⟩⟩

theorem s_impl_greatest_L1 (p1 : List (ByteArray × Int)) (n : Nat) (g : Int × Int) (out : Int) (h : m_impl_greatest_L1 p1 n g.1 g.2 = some out) :
    AX Tryd.prog 28 0 (codeAt [1, 1, 0, 1, 1] (bodyOf Tryd.f99)) ((fun g : Int × Int => (⟨[(5, .v (.int .i64 g.1)), (9, .bs false 2 (List.map enc_si p1)), (10, .v (.int .i64 (p1.length : Int))), (11, .v (.int .i64 g.2))], []⟩ : S)) g) (fun ex s => ex = .exit 0 ∧ s = (fun o : Int => (⟨[(5, .v (.int .i64 o))], []⟩ : S)) out) := by
  refine AX.wkpost ?_
  refine AX.loop (G := Nat × (Int × Int)) (fun q => (fun g : Int × Int => (⟨[(5, .v (.int .i64 g.1)), (9, .bs false 2 (List.map enc_si p1)), (10, .v (.int .i64 (p1.length : Int))), (11, .v (.int .i64 g.2))], []⟩ : S)) q.2) (fun q => m_impl_greatest_L1 p1 q.1 q.2.1 q.2.2 = some out) (fun q => q.1) (n, g) h (Wk.refl _) ?_
  clear h
  rintro ⟨fu, v3, v4⟩ h
  cases fu with
  | zero => cases h
  | succ fu =>
    rw [m_impl_greatest_L1] at h
    refine AX.seq ?_
    refine AX.reg (its := []) [5, 9, 10, 11, 12] [] (s1 := ⟨[(5, .v (.int .i64 v3)), (9, .bs false 2 (List.map enc_si p1)), (10, .v (.int .i64 (p1.length : Int))), (11, .v (.int .i64 v4)), (12, .v (.bool (decide (v4 < (p1.length : Int)))))], []⟩) (C := True) (by kernel_rfl) trivial trivial ?_
    refine AX.seq ?_
    rcases bool_cases (decide (v4 < (p1.length : Int))) with b1 | b1
    · replace h := cd_t b1 h
      refine AX.condT (decide (v4 < (p1.length : Int))) (by kernel_rfl) b1 ?_
      refine AX.skip ?_
      refine AX.seq ?_
      refine AX.block ?_
      refine AX.seq ?_
      obtain ⟨g2, h⟩ := gd_e h
      refine AX.reg (its := [.auto {}, .auto { y := some (.be 2 (enc_si (gt p1 v4)) 0) }, .auto {}, .auto { nk := 0 }]) [5, 6, 7, 9, 10, 11] [0] (s1 := ⟨[(5, .v (.int .i64 v3)), (6, .v (.int .i64 v4)), (7, .pt 0 0), (9, .bs false 2 (List.map enc_si p1)), (10, .v (.int .i64 (p1.length : Int))), (11, .v (.int .i64 v4))], [(0, .box [.v (.string ((gt p1 v4).1)), .v (.int .i64 ((gt p1 v4).2))])]⟩) (C := ((0 ≤ v4 ∧ v4 < ((List.map enc_si p1).length : Int)) ∧ (AV.be 2 ((List.map enc_si p1).getD v4.toNat []) 0 = AV.be 2 (enc_si (gt p1 v4)) 0)) ∧ True) (by kernel_rfl) ⟨idx_bs enc_si p1 v4 2 g2, trivial⟩ trivial ?_
      refine AX.seq ?_
      rcases bool_cases (decide (v4 = 0)) with b3 | b3
      · replace h := cd_t b3 h
        refine AX.reg (its := [.auto {}, .auto { y := some (.v (.bool true)) }]) [5, 7, 9, 10, 11, 23] [0] (s1 := ⟨[(5, .v (.int .i64 v3)), (7, .pt 0 0), (9, .bs false 2 (List.map enc_si p1)), (10, .v (.int .i64 (p1.length : Int))), (11, .v (.int .i64 v4)), (23, .v (.bool true))], [(0, .box [.v (.string ((gt p1 v4).1)), .v (.int .i64 ((gt p1 v4).2))])]⟩) (C := ((True) ∧ ((.v (.bool (decide (v4 = 0))) : AV) = (.v (.bool true) : AV))) ∧ True) (by kernel_rfl) ⟨⟨trivial, (congrArg (fun z => AV.v (.bool z)) b3)⟩, trivial⟩ trivial ?_
        refine AX.cond_true (by kernel_rfl) ?_
        refine AX.reg (its := []) [5, 9, 10, 11] [] (s1 := ⟨[(5, .v (.int .i64 ((gt p1 v4).2))), (9, .bs false 2 (List.map enc_si p1)), (10, .v (.int .i64 (p1.length : Int))), (11, .v (.int .i64 v4))], []⟩) (C := True) (by kernel_rfl) trivial trivial ?_
        refine AX.reg (its := [.auto { raw := true }]) [5, 9, 10, 11] [] (s1 := ⟨[(5, .v (.int .i64 ((gt p1 v4).2))), (9, .bs false 2 (List.map enc_si p1)), (10, .v (.int .i64 (p1.length : Int))), (11, .v (.int .i64 (IntKind.wrap .i64 (v4 + 1))))], []⟩) (C := True) (by kernel_rfl) trivial trivial ?_
        refine ⟨(fu, ((gt p1 v4).2, IntKind.wrap .i64 (v4 + 1))), h, Nat.lt_succ_self _, ?_⟩
        refine Wk.trans (Wk.forget [5, 9, 10, 11] [] (s' := ⟨[(5, .v (.int .i64 ((gt p1 v4).2))), (9, .bs false 2 (List.map enc_si p1)), (10, .v (.int .i64 (p1.length : Int))), (11, .v (.int .i64 (IntKind.wrap .i64 (v4 + 1))))], []⟩) (by kernel_rfl)) ?_
        exact Wk.refl _
      · replace h := cd_f b3 h
        refine AX.reg (its := [.auto {}, .auto { y := some (.v (.bool false)) }]) [5, 7, 9, 10, 11, 23] [0] (s1 := ⟨[(5, .v (.int .i64 v3)), (7, .pt 0 0), (9, .bs false 2 (List.map enc_si p1)), (10, .v (.int .i64 (p1.length : Int))), (11, .v (.int .i64 v4)), (23, .v (.bool (decide (v3 < ((gt p1 v4).2)))))], [(0, .box [.v (.string ((gt p1 v4).1)), .v (.int .i64 ((gt p1 v4).2))])]⟩) (C := ((True) ∧ ((.v (.bool (decide (v4 = 0))) : AV) = (.v (.bool false) : AV))) ∧ True) (by kernel_rfl) ⟨⟨trivial, (congrArg (fun z => AV.v (.bool z)) b3)⟩, trivial⟩ trivial ?_
        rcases bool_cases (decide (v3 < ((gt p1 v4).2))) with b4 | b4
        · replace h := cd_t b4 h
          refine AX.condT (decide (v3 < ((gt p1 v4).2))) (by kernel_rfl) b4 ?_
          refine AX.reg (its := []) [5, 9, 10, 11] [] (s1 := ⟨[(5, .v (.int .i64 ((gt p1 v4).2))), (9, .bs false 2 (List.map enc_si p1)), (10, .v (.int .i64 (p1.length : Int))), (11, .v (.int .i64 v4))], []⟩) (C := True) (by kernel_rfl) trivial trivial ?_
          refine AX.reg (its := [.auto { raw := true }]) [5, 9, 10, 11] [] (s1 := ⟨[(5, .v (.int .i64 ((gt p1 v4).2))), (9, .bs false 2 (List.map enc_si p1)), (10, .v (.int .i64 (p1.length : Int))), (11, .v (.int .i64 (IntKind.wrap .i64 (v4 + 1))))], []⟩) (C := True) (by kernel_rfl) trivial trivial ?_
          refine ⟨(fu, ((gt p1 v4).2, IntKind.wrap .i64 (v4 + 1))), h, Nat.lt_succ_self _, ?_⟩
          refine Wk.trans (Wk.forget [5, 9, 10, 11] [] (s' := ⟨[(5, .v (.int .i64 ((gt p1 v4).2))), (9, .bs false 2 (List.map enc_si p1)), (10, .v (.int .i64 (p1.length : Int))), (11, .v (.int .i64 (IntKind.wrap .i64 (v4 + 1))))], []⟩) (by kernel_rfl)) ?_
          exact Wk.refl _
        · replace h := cd_f b4 h
          refine AX.condF (decide (v3 < ((gt p1 v4).2))) (by kernel_rfl) b4 ?_
          refine AX.skip ?_
          refine AX.reg (its := [.auto { raw := true }]) [5, 9, 10, 11] [] (s1 := ⟨[(5, .v (.int .i64 v3)), (9, .bs false 2 (List.map enc_si p1)), (10, .v (.int .i64 (p1.length : Int))), (11, .v (.int .i64 (IntKind.wrap .i64 (v4 + 1))))], []⟩) (C := True) (by kernel_rfl) trivial trivial ?_
          refine ⟨(fu, (v3, IntKind.wrap .i64 (v4 + 1))), h, Nat.lt_succ_self _, ?_⟩
          refine Wk.trans (Wk.forget [5, 9, 10, 11] [] (s' := ⟨[(5, .v (.int .i64 v3)), (9, .bs false 2 (List.map enc_si p1)), (10, .v (.int .i64 (p1.length : Int))), (11, .v (.int .i64 (IntKind.wrap .i64 (v4 + 1))))], []⟩) (by kernel_rfl)) ?_
          exact Wk.refl _
    · replace h := cd_f b1 h
      refine AX.condF (decide (v4 < (p1.length : Int))) (by kernel_rfl) b1 ?_
      refine AX.exit ?_
      refine fin_wk (Wk.forget [5] [] (s' := ⟨[(5, .v (.int .i64 v3))], []⟩) (by kernel_rfl)) ?_
      have hr := Option.some.inj h
      subst hr
      exact ⟨_, Wk.refl _, ⟨rfl, rfl⟩⟩

theorem s_impl_greatest (p1 : List (ByteArray × Int)) (p2 : Int) (r : Int) (h : m_impl_greatest p1 p2 = some r) :
    Eng.Spec Tryd.prog 99 [.bs false 2 (List.map enc_si p1), .v (.int .i64 p2)] [] (.v (.int .i64 r)) [] := by
  unfold m_impl_greatest at h
  refine Eng.Spec.body Tryd.func99 (by kernel_rfl) rfl (by kernel_rfl) ?_
  refine AX.wkpost ?_
  refine AX.seq ?_
  refine AX.reg (its := []) [0, 1] [] (s1 := ⟨[(0, .bs false 2 (List.map enc_si p1)), (1, .v (.int .i64 p2))], []⟩) (C := True) (by kernel_rfl) trivial trivial ?_
  refine AX.seq ?_
  refine AX.reg (its := []) [0, 5] [] (s1 := ⟨[(0, .bs false 2 (List.map enc_si p1)), (5, .v (.int .i64 p2))], []⟩) (C := True) (by kernel_rfl) trivial trivial ?_
  refine AX.seq ?_
  refine AX.seq ?_
  refine AX.reg (its := [.auto {}, .auto { y := some (.v (.int .i64 (p1.length : Int))) }]) [5, 9, 10, 11] [] (s1 := ⟨[(5, .v (.int .i64 p2)), (9, .bs false 2 (List.map enc_si p1)), (10, .v (.int .i64 (p1.length : Int))), (11, .v (.int .i64 0))], []⟩) (C := (True ∧ (AV.v (.int .i64 ((List.map enc_si p1).length : Int)) = AV.v (.int .i64 (p1.length : Int)))) ∧ True) (by kernel_rfl) ⟨⟨trivial, len_map enc_si p1⟩, trivial⟩ trivial ?_
  refine AX.block ?_
  obtain ⟨x5, e5, h⟩ := bd_e h
  refine AX.wk (Wk.forget [5, 9, 10, 11] [] (s' := ⟨[(5, .v (.int .i64 p2)), (9, .bs false 2 (List.map enc_si p1)), (10, .v (.int .i64 (p1.length : Int))), (11, .v (.int .i64 0))], []⟩) (by kernel_rfl)) ?_
  refine AX.mono (s_impl_greatest_L1 p1 FU (p2, 0) x5 e5) ?_
  rintro _ _ ⟨rfl, rfl⟩
  skip
  refine AX.seq ?_
  refine AX.reg (its := []) [4] [] (s1 := ⟨[(4, .v (.int .i64 x5))], []⟩) (C := True) (by kernel_rfl) trivial trivial ?_
  refine AX.ret ?_
  refine fin_wk (Wk.forget [4] [] (s' := ⟨[(4, .v (.int .i64 x5))], []⟩) (by kernel_rfl)) ?_
  have hr := Option.some.inj h
  subst hr
  exact ⟨_, Wk.refl _, .inr rfl, ⟨[], by kernel_rfl, trivial, [.v (.int .i64 x5)], by kernel_rfl, by kernel_rfl⟩⟩

theorem s_impl_BuildEnum_1 (p1 : List (ByteArray × Int)) (r : Int) (h : m_impl_BuildEnum_1 p1 = some r) :
    Eng.Spec Tryd.prog 98 [.bs false 2 (List.map enc_si p1)] [] (.v (.int .i64 r)) [] := by
  unfold m_impl_BuildEnum_1 at h
  refine Eng.Spec.body Tryd.func98 (by kernel_rfl) rfl (by kernel_rfl) ?_
  refine AX.wkpost ?_
  refine AX.seq ?_
  refine AX.reg (its := []) [0] [] (s1 := ⟨[(0, .bs false 2 (List.map enc_si p1))], []⟩) (C := True) (by kernel_rfl) trivial trivial ?_
  refine AX.seq ?_
  obtain ⟨x2, e1, h⟩ := bd_e h
  refine AX.reg (its := [.auto {}, .call 99 [.bs false 2 (List.map enc_si p1), .v (.int .i64 0)] (handO (rho ([] ++ [])) [] [] ++ []) (callEv [] [] (.v (.int .i64 x2)) []), .auto { raw := true }]) [2] [] (s1 := ⟨[(2, .v (.int .i64 (IntKind.wrap .i64 (x2 + 1))))], []⟩) (C := ((([.bs false 2 (List.map enc_si p1), .v (.int .i64 0)] : List AV) = [.bs false 2 (List.map enc_si p1), .v (.int .i64 0)]) ∧ True) ∧ True) (by kernel_rfl) ⟨⟨rfl, trivial⟩, trivial⟩ ⟨call_ok (ks := []) (ns := []) (bor := []) (bobjs := []) (s_impl_greatest p1 0 x2 e1) (.cons (.c1 (.c0 (.same _ (by kernel_rfl) (by kernel_rfl)))) (.cons (.c1 (.c0 (.same _ (by kernel_rfl) (by kernel_rfl)))) (.nil))) (by kernel_rfl) trivial, trivial⟩ ?_
  refine AX.ret ?_
  refine fin_wk (Wk.forget [2] [] (s' := ⟨[(2, .v (.int .i64 (IntKind.wrap .i64 (x2 + 1))))], []⟩) (by kernel_rfl)) ?_
  have hr := Option.some.inj h
  subst hr
  exact ⟨_, Wk.refl _, .inr rfl, ⟨[], by kernel_rfl, trivial, [.v (.int .i64 (IntKind.wrap .i64 (x2 + 1)))], by kernel_rfl, by kernel_rfl⟩⟩

theorem s_slices_Clip_si (p1 : List (ByteArray × Int)) (r : Unit) (h : m_slices_Clip_si p1 = some r) :
    Eng.Spec Tryd.prog 136 [.bs false 2 (List.map enc_si p1)] [] (.bs false 2 (List.map enc_si (sub p1 (0 : Int) (p1.length : Int)))) [] := by
  unfold m_slices_Clip_si at h
  refine Eng.Spec.body Tryd.func136 (by kernel_rfl) rfl (by kernel_rfl) ?_
  refine AX.wkpost ?_
  refine AX.seq ?_
  refine AX.reg (its := []) [0] [] (s1 := ⟨[(0, .bs false 2 (List.map enc_si p1))], []⟩) (C := True) (by kernel_rfl) trivial trivial ?_
  refine AX.seq ?_
  obtain ⟨g1, h⟩ := gd_e h
  refine AX.reg (its := [.auto {}, .auto {}, .auto { y := some (.v (.int .i64 (p1.length : Int))) }, .auto {}, .auto { y := some (.v (.int .i64 (p1.length : Int))) }, .auto { y := some (.bs false 2 (List.map enc_si (sub p1 (0 : Int) (p1.length : Int)))) }]) [2] [] (s1 := ⟨[(2, .bs false 2 (List.map enc_si (sub p1 (0 : Int) (p1.length : Int))))], []⟩) (C := (True ∧ (AV.v (.int .i64 ((List.map enc_si p1).length : Int)) = AV.v (.int .i64 (p1.length : Int)))) ∧ (True ∧ (AV.v (.int .i64 ((List.map enc_si p1).length : Int)) = AV.v (.int .i64 (p1.length : Int)))) ∧ ((0 ≤ (0 : Int) ∧ (0 : Int) ≤ (p1.length : Int) ∧ (p1.length : Int) ≤ (p1.length : Int) ∧ (p1.length : Int) ≤ ((List.map enc_si p1).length : Int)) ∧ (AV.bs false 2 (((List.map enc_si p1).drop (0 : Int).toNat).take ((p1.length : Int).toNat - (0 : Int).toNat)) = (.bs false 2 (List.map enc_si (sub p1 (0 : Int) (p1.length : Int))) : AV))) ∧ True) (by kernel_rfl) ⟨⟨trivial, len_map enc_si p1⟩, ⟨⟨trivial, len_map enc_si p1⟩, ⟨⟨by first | exact g1 | simpa only [List.length_map] using g1, by first | exact sub_can enc_si p1 (0 : Int) (p1.length : Int) false 2 | (simp only [List.length_map]; exact sub_can enc_si p1 (0 : Int) (p1.length : Int) false 2)⟩, trivial⟩⟩⟩ trivial ?_
  refine AX.ret ?_
  refine fin_wk (Wk.forget [2] [] (s' := ⟨[(2, .bs false 2 (List.map enc_si (sub p1 (0 : Int) (p1.length : Int))))], []⟩) (by kernel_rfl)) ?_
  have hr := Option.some.inj h
  subst hr
  exact ⟨_, Wk.refl _, .inr rfl, ⟨[], by kernel_rfl, trivial, [.bs false 2 (List.map enc_si (sub p1 (0 : Int) (p1.length : Int)))], by kernel_rfl, by kernel_rfl⟩⟩

theorem s_slices_Clip_hsi (p1 : List (ByteArray × Int)) (r : Unit) (h : m_slices_Clip_hsi p1 = some r) :
    Eng.Spec Tryd.prog 136 [.sl 0 0 p1.length] [.arr 2 (List.map enc_si p1)] (.sl 0 0 p1.length) [.arr 2 (List.map enc_si p1)] := by
  unfold m_slices_Clip_hsi at h
  refine Eng.Spec.body Tryd.func136 (by kernel_rfl) rfl (by kernel_rfl) ?_
  refine AX.wkpost ?_
  refine AX.seq ?_
  refine AX.reg (its := []) [0] [0] (s1 := ⟨[(0, .sl 0 0 p1.length)], [(0, .arr 2 (List.map enc_si p1))]⟩) (C := True) (by kernel_rfl) trivial trivial ?_
  refine AX.seq ?_
  refine AX.reg (its := [.auto {}, .auto {}, .auto {}, .auto {}, .auto {}, .auto { y := some (.sl 0 0 p1.length) }]) [2] [0] (s1 := ⟨[(2, .sl 0 0 p1.length)], [(0, .arr 2 (List.map enc_si p1))]⟩) (C := ((0 ≤ (0 : Int) ∧ (0 : Int) ≤ (p1.length : Int) ∧ (p1.length : Int) ≤ (p1.length : Int) ∧ (p1.length : Int) ≤ (p1.length : Int)) ∧ (AV.sl 0 (0 + (0 : Int).toNat) ((p1.length : Int).toNat - (0 : Int).toNat) = AV.sl 0 0 p1.length)) ∧ True) (by kernel_rfl) ⟨⟨⟨by omega, by omega, by omega, by omega⟩, rfl⟩, trivial⟩ trivial ?_
  refine AX.ret ?_
  refine fin_wk (Wk.forget [2] [0] (s' := ⟨[(2, .sl 0 0 p1.length)], [(0, .arr 2 (List.map enc_si p1))]⟩) (by kernel_rfl)) ?_
  have hr := Option.some.inj h
  subst hr
  exact ⟨_, Wk.refl _, .inr rfl, ⟨[], by kernel_rfl, ⟨rfl, trivial⟩, [.sl 0 0 p1.length], by kernel_rfl, by kernel_rfl⟩⟩

theorem s_impl_build_BuildEnum_1_L1 (p1 : List (ByteArray × Bool × Int)) (n : Nat) (g : (List (ByteArray × Int)) × Int) (out : Unit ⊕ List (ByteArray × Int)) (h : m_impl_build_BuildEnum_1_L1 p1 n g.1 g.2 = some out) :
    AX Tryd.prog 35 0 (codeAt [1, 1, 0, 1, 1] (bodyOf Tryd.f97)) ((fun g : (List (ByteArray × Int)) × Int => (⟨[(1, .fn 98 []), (6, .sl 0 0 g.1.length), (9, .bs false 3 (List.map enc_sbi p1)), (10, .v (.int .i64 (p1.length : Int))), (11, .v (.int .i64 g.2))], [(0, .arr 2 (List.map enc_si g.1))]⟩ : S)) g) (fun ex s => (∃ o : Unit, out = Sum.inl o ∧ ex = .ret ∧ s = ⟨[(4, .v (.slice none 0 0)), (5, .v (.bool false))], []⟩) ∨ (∃ o : List (ByteArray × Int), out = Sum.inr o ∧ ex = .exit 0 ∧ s = ⟨[(6, .sl 0 0 o.length)], [(0, .arr 2 (List.map enc_si o))]⟩)) := by
  refine AX.wkpost ?_
  refine AX.loop (G := Nat × ((List (ByteArray × Int)) × Int)) (fun q => (fun g : (List (ByteArray × Int)) × Int => (⟨[(1, .fn 98 []), (6, .sl 0 0 g.1.length), (9, .bs false 3 (List.map enc_sbi p1)), (10, .v (.int .i64 (p1.length : Int))), (11, .v (.int .i64 g.2))], [(0, .arr 2 (List.map enc_si g.1))]⟩ : S)) q.2) (fun q => m_impl_build_BuildEnum_1_L1 p1 q.1 q.2.1 q.2.2 = some out) (fun q => q.1) (n, g) h (Wk.refl _) ?_
  clear h
  rintro ⟨fu, v2, v3⟩ h
  cases fu with
  | zero => cases h
  | succ fu =>
    rw [m_impl_build_BuildEnum_1_L1] at h
    refine AX.seq ?_
    refine AX.reg (its := []) [1, 6, 9, 10, 11, 12] [0] (s1 := ⟨[(1, .fn 98 []), (6, .sl 0 0 v2.length), (9, .bs false 3 (List.map enc_sbi p1)), (10, .v (.int .i64 (p1.length : Int))), (11, .v (.int .i64 v3)), (12, .v (.bool (decide (v3 < (p1.length : Int)))))], [(0, .arr 2 (List.map enc_si v2))]⟩) (C := True) (by kernel_rfl) trivial trivial ?_
    refine AX.seq ?_
    rcases bool_cases (decide (v3 < (p1.length : Int))) with b1 | b1
    · replace h := cd_t b1 h
      refine AX.condT (decide (v3 < (p1.length : Int))) (by kernel_rfl) b1 ?_
      refine AX.skip ?_
      refine AX.seq ?_
      refine AX.block ?_
      refine AX.seq ?_
      obtain ⟨g2, h⟩ := gd_e h
      refine AX.reg (its := [.auto { y := some (.be 3 (enc_sbi (gt p1 v3)) 0) }, .auto {}, .auto { nk := 1 }]) [1, 6, 8, 9, 10, 11] [0, 1] (s1 := ⟨[(1, .fn 98 []), (6, .sl 0 0 v2.length), (8, .pt 1 0), (9, .bs false 3 (List.map enc_sbi p1)), (10, .v (.int .i64 (p1.length : Int))), (11, .v (.int .i64 v3))], [(0, .arr 2 (List.map enc_si v2)), (1, .box [.v (.string ((gt p1 v3).1)), .v (.bool ((gt p1 v3).2.1)), .v (.int .i64 ((gt p1 v3).2.2))])]⟩) (C := ((0 ≤ v3 ∧ v3 < ((List.map enc_sbi p1).length : Int)) ∧ (AV.be 3 ((List.map enc_sbi p1).getD v3.toNat []) 0 = AV.be 3 (enc_sbi (gt p1 v3)) 0)) ∧ True) (by kernel_rfl) ⟨idx_bs enc_sbi p1 v3 3 g2, trivial⟩ trivial ?_
      refine AX.seq ?_
      refine AX.seq ?_
      refine AX.reg (its := []) [1, 6, 8, 9, 10, 11, 16] [0, 1] (s1 := ⟨[(1, .fn 98 []), (6, .sl 0 0 v2.length), (8, .pt 1 0), (9, .bs false 3 (List.map enc_sbi p1)), (10, .v (.int .i64 (p1.length : Int))), (11, .v (.int .i64 v3)), (16, .v (.bool ((gt p1 v3).2.1)))], [(0, .arr 2 (List.map enc_si v2)), (1, .box [.v (.string ((gt p1 v3).1)), .v (.bool ((gt p1 v3).2.1)), .v (.int .i64 ((gt p1 v3).2.2))])]⟩) (C := True) (by kernel_rfl) trivial trivial ?_
      rcases bool_cases ((gt p1 v3).2.1) with b3 | b3
      · replace h := cd_t b3 h
        refine AX.condT ((gt p1 v3).2.1) (by kernel_rfl) b3 ?_
        refine AX.seq ?_
        refine AX.seq ?_
        refine AX.reg (its := []) [1, 6, 8, 9, 10, 11, 19] [0, 1] (s1 := ⟨[(1, .fn 98 []), (6, .sl 0 0 v2.length), (8, .pt 1 0), (9, .bs false 3 (List.map enc_sbi p1)), (10, .v (.int .i64 (p1.length : Int))), (11, .v (.int .i64 v3)), (19, .v (.bool (!decide (((gt p1 v3).2.2) = 0))))], [(0, .arr 2 (List.map enc_si v2)), (1, .box [.v (.string ((gt p1 v3).1)), .v (.bool ((gt p1 v3).2.1)), .v (.int .i64 ((gt p1 v3).2.2))])]⟩) (C := True) (by kernel_rfl) trivial trivial ?_
        rcases bool_cases ((!decide (((gt p1 v3).2.2) = 0))) with b4 | b4
        · replace h := cd_t b4 h
          refine AX.condT ((!decide (((gt p1 v3).2.2) = 0))) (by kernel_rfl) b4 ?_
          refine AX.seq ?_
          refine AX.reg (its := []) [4, 5] [] (s1 := ⟨[(4, .v (.slice none 0 0)), (5, .v (.bool false))], []⟩) (C := True) (by kernel_rfl) trivial trivial ?_
          refine AX.ret ?_
          refine fin_wk (Wk.forget [4, 5] [] (s' := ⟨[(4, .v (.slice none 0 0)), (5, .v (.bool false))], []⟩) (by kernel_rfl)) ?_
          have hr := Option.some.inj h
          subst hr
          exact ⟨_, Wk.refl _, .inl ⟨(), rfl, rfl, rfl⟩⟩
        · replace h := cd_f b4 h
          refine AX.condF ((!decide (((gt p1 v3).2.2) = 0))) (by kernel_rfl) b4 ?_
          refine AX.skip ?_
          obtain ⟨x4, e5, h⟩ := bd_e h
          refine AX.reg (its := [.auto {}, .auto {}, .call 98 [.sl 0 0 v2.length] (handO (rho ([] ++ [])) [] [] ++ [(0, .arr 2 (List.map enc_si v2))]) (callEv [] [] (.v (.int .i64 x4)) [])]) [1, 6, 8, 9, 10, 11] [0, 1] (s1 := ⟨[(1, .fn 98 []), (6, .sl 0 0 v2.length), (8, .pt 1 0), (9, .bs false 3 (List.map enc_sbi p1)), (10, .v (.int .i64 (p1.length : Int))), (11, .v (.int .i64 v3))], [(0, .arr 2 (List.map enc_si v2)), (1, .box [.v (.string ((gt p1 v3).1)), .v (.bool ((gt p1 v3).2.1)), .v (.int .i64 x4)])]⟩) (C := ((([.sl 0 0 v2.length] : List AV) = [.sl 0 0 v2.length]) ∧ (AO.arr 2 (List.map enc_si v2) = AO.arr 2 (List.map enc_si v2)) ∧ True) ∧ True) (by kernel_rfl) ⟨⟨rfl, rfl, trivial⟩, trivial⟩ ⟨call_ok (ks := []) (ns := []) (bor := [0]) (bobjs := [(0, .arr 2 (List.map enc_si v2))]) (s_impl_BuildEnum_1 v2 x4 e5) (.cons (.c1 (.c0 (.arr rfl rfl ((rfl).trans (List.length_map ..).symm)))) (.nil)) (by kernel_rfl) trivial, trivial⟩ ?_
          obtain ⟨g6, h⟩ := gd_e h
          refine AX.reg (its := [.auto {}, .auto {}, .auto {}, .auto {}, .auto {}, .auto {}, .auto { nk := 2 }, .auto { y := some (.sl 3 0 ((v2 ++ ([((gt p1 v3).1, x4)] : List (ByteArray × Int))).length)), els := some (List.map enc_si v2), els2 := some (List.map enc_si ([((gt p1 v3).1, x4)] : List (ByteArray × Int))), nk := 3 }]) [1, 6, 9, 10, 11] [3] (s1 := ⟨[(1, .fn 98 []), (6, .sl 3 0 ((v2 ++ ([((gt p1 v3).1, x4)] : List (ByteArray × Int))).length)), (9, .bs false 3 (List.map enc_sbi p1)), (10, .v (.int .i64 (p1.length : Int))), (11, .v (.int .i64 v3))], [(3, .arr 2 (List.map enc_si v2 ++ List.map enc_si ([((gt p1 v3).1, x4)] : List (ByteArray × Int))))]⟩) (C := ((((((List.map enc_si v2).drop 0).take (v2.length) = List.map enc_si v2) ∧ (((List.map enc_si ([((gt p1 v3).1, x4)] : List (ByteArray × Int))).drop 0).take (([((gt p1 v3).1, x4)] : List (ByteArray × Int)).length) = List.map enc_si ([((gt p1 v3).1, x4)] : List (ByteArray × Int)))) ∧ (List.map enc_si v2).length + (List.map enc_si ([((gt p1 v3).1, x4)] : List (ByteArray × Int))).length ≤ 1099511627776) ∧ (AV.sl 3 0 (List.map enc_si v2 ++ List.map enc_si ([((gt p1 v3).1, x4)] : List (ByteArray × Int))).length = AV.sl 3 0 (v2 ++ ([((gt p1 v3).1, x4)] : List (ByteArray × Int))).length)) ∧ True) (by kernel_rfl) ⟨⟨⟨⟨(dt_all (enc := enc_si) rfl rfl), (dt_all (enc := enc_si) rfl rfl)⟩, (by simp only [List.length_map, List.length_nil, List.length_replicate]; simpa using g6)⟩, sl_len (enc := enc_si) (app_can (enc := enc_si) rfl (rfl))⟩, trivial⟩ trivial ?_
          refine AX.reg (its := [.auto { raw := true }]) [1, 6, 9, 10, 11] [3] (s1 := ⟨[(1, .fn 98 []), (6, .sl 3 0 ((v2 ++ ([((gt p1 v3).1, x4)] : List (ByteArray × Int))).length)), (9, .bs false 3 (List.map enc_sbi p1)), (10, .v (.int .i64 (p1.length : Int))), (11, .v (.int .i64 (IntKind.wrap .i64 (v3 + 1))))], [(3, .arr 2 (List.map enc_si v2 ++ List.map enc_si ([((gt p1 v3).1, x4)] : List (ByteArray × Int))))]⟩) (C := True) (by kernel_rfl) trivial trivial ?_
          refine ⟨(fu, (v2 ++ ([((gt p1 v3).1, x4)] : List (ByteArray × Int)), IntKind.wrap .i64 (v3 + 1))), h, Nat.lt_succ_self _, ?_⟩
          refine Wk.trans (Wk.swap 0 3 (Nat.le_of_ble_eq_true (by kernel_rfl)) (Nat.le_of_ble_eq_true (by kernel_rfl)) rfl) ?_
          refine Wk.trans (Wk.forget [1, 6, 9, 10, 11] [0] (s' := ⟨[(1, .fn 98 []), (6, .sl 0 0 ((v2 ++ ([((gt p1 v3).1, x4)] : List (ByteArray × Int))).length)), (9, .bs false 3 (List.map enc_sbi p1)), (10, .v (.int .i64 (p1.length : Int))), (11, .v (.int .i64 (IntKind.wrap .i64 (v3 + 1))))], [(0, .arr 2 (List.map enc_si v2 ++ List.map enc_si ([((gt p1 v3).1, x4)] : List (ByteArray × Int))))]⟩) (by kernel_rfl)) ?_
          refine Wk.trans (Wk.of_eq (congrArg (fun z => (⟨[(1, .fn 98 []), (6, .sl 0 0 ((v2 ++ ([((gt p1 v3).1, x4)] : List (ByteArray × Int))).length)), (9, .bs false 3 (List.map enc_sbi p1)), (10, .v (.int .i64 (p1.length : Int))), (11, .v (.int .i64 (IntKind.wrap .i64 (v3 + 1))))], [(0, .arr 2 (z))]⟩ : S)) (app_can (enc := enc_si) rfl (rfl) : List.map enc_si v2 ++ List.map enc_si ([((gt p1 v3).1, x4)] : List (ByteArray × Int)) = List.map enc_si (v2 ++ ([((gt p1 v3).1, x4)] : List (ByteArray × Int)))))) ?_
          exact Wk.refl _
      · replace h := cd_f b3 h
        refine AX.condF ((gt p1 v3).2.1) (by kernel_rfl) b3 ?_
        refine AX.skip ?_
        obtain ⟨g7, h⟩ := gd_e h
        refine AX.reg (its := [.auto {}, .auto {}, .auto {}, .auto {}, .auto {}, .auto {}, .auto { nk := 2 }, .auto { y := some (.sl 3 0 ((v2 ++ ([((gt p1 v3).1, (gt p1 v3).2.2)] : List (ByteArray × Int))).length)), els := some (List.map enc_si v2), els2 := some (List.map enc_si ([((gt p1 v3).1, (gt p1 v3).2.2)] : List (ByteArray × Int))), nk := 3 }]) [1, 6, 9, 10, 11] [3] (s1 := ⟨[(1, .fn 98 []), (6, .sl 3 0 ((v2 ++ ([((gt p1 v3).1, (gt p1 v3).2.2)] : List (ByteArray × Int))).length)), (9, .bs false 3 (List.map enc_sbi p1)), (10, .v (.int .i64 (p1.length : Int))), (11, .v (.int .i64 v3))], [(3, .arr 2 (List.map enc_si v2 ++ List.map enc_si ([((gt p1 v3).1, (gt p1 v3).2.2)] : List (ByteArray × Int))))]⟩) (C := ((((((List.map enc_si v2).drop 0).take (v2.length) = List.map enc_si v2) ∧ (((List.map enc_si ([((gt p1 v3).1, (gt p1 v3).2.2)] : List (ByteArray × Int))).drop 0).take (([((gt p1 v3).1, (gt p1 v3).2.2)] : List (ByteArray × Int)).length) = List.map enc_si ([((gt p1 v3).1, (gt p1 v3).2.2)] : List (ByteArray × Int)))) ∧ (List.map enc_si v2).length + (List.map enc_si ([((gt p1 v3).1, (gt p1 v3).2.2)] : List (ByteArray × Int))).length ≤ 1099511627776) ∧ (AV.sl 3 0 (List.map enc_si v2 ++ List.map enc_si ([((gt p1 v3).1, (gt p1 v3).2.2)] : List (ByteArray × Int))).length = AV.sl 3 0 (v2 ++ ([((gt p1 v3).1, (gt p1 v3).2.2)] : List (ByteArray × Int))).length)) ∧ True) (by kernel_rfl) ⟨⟨⟨⟨(dt_all (enc := enc_si) rfl rfl), (dt_all (enc := enc_si) rfl rfl)⟩, (by simp only [List.length_map, List.length_nil, List.length_replicate]; simpa using g7)⟩, sl_len (enc := enc_si) (app_can (enc := enc_si) rfl (rfl))⟩, trivial⟩ trivial ?_
        refine AX.reg (its := [.auto { raw := true }]) [1, 6, 9, 10, 11] [3] (s1 := ⟨[(1, .fn 98 []), (6, .sl 3 0 ((v2 ++ ([((gt p1 v3).1, (gt p1 v3).2.2)] : List (ByteArray × Int))).length)), (9, .bs false 3 (List.map enc_sbi p1)), (10, .v (.int .i64 (p1.length : Int))), (11, .v (.int .i64 (IntKind.wrap .i64 (v3 + 1))))], [(3, .arr 2 (List.map enc_si v2 ++ List.map enc_si ([((gt p1 v3).1, (gt p1 v3).2.2)] : List (ByteArray × Int))))]⟩) (C := True) (by kernel_rfl) trivial trivial ?_
        refine ⟨(fu, (v2 ++ ([((gt p1 v3).1, (gt p1 v3).2.2)] : List (ByteArray × Int)), IntKind.wrap .i64 (v3 + 1))), h, Nat.lt_succ_self _, ?_⟩
        refine Wk.trans (Wk.swap 0 3 (Nat.le_of_ble_eq_true (by kernel_rfl)) (Nat.le_of_ble_eq_true (by kernel_rfl)) rfl) ?_
        refine Wk.trans (Wk.forget [1, 6, 9, 10, 11] [0] (s' := ⟨[(1, .fn 98 []), (6, .sl 0 0 ((v2 ++ ([((gt p1 v3).1, (gt p1 v3).2.2)] : List (ByteArray × Int))).length)), (9, .bs false 3 (List.map enc_sbi p1)), (10, .v (.int .i64 (p1.length : Int))), (11, .v (.int .i64 (IntKind.wrap .i64 (v3 + 1))))], [(0, .arr 2 (List.map enc_si v2 ++ List.map enc_si ([((gt p1 v3).1, (gt p1 v3).2.2)] : List (ByteArray × Int))))]⟩) (by kernel_rfl)) ?_
        refine Wk.trans (Wk.of_eq (congrArg (fun z => (⟨[(1, .fn 98 []), (6, .sl 0 0 ((v2 ++ ([((gt p1 v3).1, (gt p1 v3).2.2)] : List (ByteArray × Int))).length)), (9, .bs false 3 (List.map enc_sbi p1)), (10, .v (.int .i64 (p1.length : Int))), (11, .v (.int .i64 (IntKind.wrap .i64 (v3 + 1))))], [(0, .arr 2 (z))]⟩ : S)) (app_can (enc := enc_si) rfl (rfl) : List.map enc_si v2 ++ List.map enc_si ([((gt p1 v3).1, (gt p1 v3).2.2)] : List (ByteArray × Int)) = List.map enc_si (v2 ++ ([((gt p1 v3).1, (gt p1 v3).2.2)] : List (ByteArray × Int)))))) ?_
        exact Wk.refl _
    · replace h := cd_f b1 h
      refine AX.condF (decide (v3 < (p1.length : Int))) (by kernel_rfl) b1 ?_
      refine AX.exit ?_
      refine fin_wk (Wk.forget [6] [0] (s' := ⟨[(6, .sl 0 0 v2.length)], [(0, .arr 2 (List.map enc_si v2))]⟩) (by kernel_rfl)) ?_
      have hr := Option.some.inj h
      subst hr
      exact ⟨_, Wk.refl _, .inr ⟨v2, rfl, rfl, rfl⟩⟩

theorem s_impl_build_BuildEnum_1 (p1 : List (ByteArray × Bool × Int)) (r : (List (ByteArray × Int)) × Bool) (h : m_impl_build_BuildEnum_1 p1 = some r) :
    Eng.Spec Tryd.prog 97 [.bs false 3 (List.map enc_sbi p1), .fn 98 []] [] (.tup [.sl 0 0 r.1.length, .v (.bool r.2)]) [.arr 2 (List.map enc_si r.1)] := by
  unfold m_impl_build_BuildEnum_1 at h
  refine Eng.Spec.body Tryd.func97 (by kernel_rfl) rfl (by kernel_rfl) ?_
  refine AX.wkpost ?_
  refine AX.seq ?_
  refine AX.reg (its := []) [0, 1] [] (s1 := ⟨[(0, .bs false 3 (List.map enc_sbi p1)), (1, .fn 98 [])], []⟩) (C := True) (by kernel_rfl) trivial trivial ?_
  refine AX.seq ?_
  refine AX.reg (its := []) [0, 1, 6] [] (s1 := ⟨[(0, .bs false 3 (List.map enc_sbi p1)), (1, .fn 98 []), (6, .v (.slice none 0 0))], []⟩) (C := True) (by kernel_rfl) trivial trivial ?_
  refine AX.seq ?_
  refine AX.seq ?_
  refine AX.reg (its := [.auto {}, .auto { y := some (.v (.int .i64 (p1.length : Int))) }]) [1, 6, 9, 10, 11] [] (s1 := ⟨[(1, .fn 98 []), (6, .v (.slice none 0 0)), (9, .bs false 3 (List.map enc_sbi p1)), (10, .v (.int .i64 (p1.length : Int))), (11, .v (.int .i64 0))], []⟩) (C := (True ∧ (AV.v (.int .i64 ((List.map enc_sbi p1).length : Int)) = AV.v (.int .i64 (p1.length : Int)))) ∧ True) (by kernel_rfl) ⟨⟨trivial, len_map enc_sbi p1⟩, trivial⟩ trivial ?_
  refine AX.block ?_
  obtain ⟨x5, e8, h⟩ := bd_e h
  refine AX.wk (Wk.mat 6 0 2 (by kernel_rfl) (Nat.le_of_ble_eq_true (by kernel_rfl)) (by kernel_rfl) rfl) ?_
  refine AX.wk (Wk.forget [1, 6, 9, 10, 11] [0] (s' := ⟨[(1, .fn 98 []), (6, .sl 0 0 (([] : List (ByteArray × Int)).length)), (9, .bs false 3 (List.map enc_sbi p1)), (10, .v (.int .i64 (p1.length : Int))), (11, .v (.int .i64 0))], [(0, .arr 2 (List.map enc_si ([] : List (ByteArray × Int))))]⟩) (by kernel_rfl)) ?_
  refine AX.mono (s_impl_build_BuildEnum_1_L1 p1 FU (([] : List (ByteArray × Int)), 0) x5 e8) ?_
  rintro _ _ (⟨x6, rfl, rfl, rfl⟩ | ⟨x7, rfl, rfl, rfl⟩)
  · replace h := sm_l h
    refine fin_wk (Wk.mat 4 0 2 (by kernel_rfl) (Nat.le_of_ble_eq_true (by kernel_rfl)) (by kernel_rfl) rfl) ?_
    refine fin_wk (Wk.forget [4, 5] [0] (s' := ⟨[(4, .sl 0 0 (([] : List (ByteArray × Int)).length)), (5, .v (.bool false))], [(0, .arr 2 (List.map enc_si ([] : List (ByteArray × Int))))]⟩) (by kernel_rfl)) ?_
    have hr := Option.some.inj h
    subst hr
    exact ⟨_, Wk.refl _, .inr rfl, ⟨[0], by kernel_rfl, ⟨rfl, trivial⟩, [.sl 0 0 (([] : List (ByteArray × Int)).length), .v (.bool false)], by kernel_rfl, by kernel_rfl⟩⟩
  · replace h := sm_r h
    refine AX.seq ?_
    obtain ⟨x8, e9, h⟩ := bd_e h
    refine AX.reg (its := [.auto {}, .call 136 [.sl 0 0 x7.length] (handO (rho ([0] ++ [])) [0] [.arr 2 (List.map enc_si x7)] ++ []) (callEv [0] [] (.sl 0 0 x7.length) [.arr 2 (List.map enc_si x7)])]) [4, 5] [0] (s1 := ⟨[(4, .sl 0 0 x7.length), (5, .v (.bool true))], [(0, .arr 2 (List.map enc_si x7))]⟩) (C := ((([.sl 0 0 x7.length] : List AV) = [.sl 0 0 x7.length]) ∧ (AO.arr 2 (List.map enc_si x7) = AO.arr 2 (List.map enc_si x7)) ∧ True) ∧ True) (by kernel_rfl) ⟨⟨rfl, rfl, trivial⟩, trivial⟩ ⟨call_ok (ks := [0]) (ns := []) (bor := []) (bobjs := []) (s_slices_Clip_hsi x7 x8 e9) (.cons (.c1 (.c0 (.same _ (by kernel_rfl) (by kernel_rfl)))) (.nil)) (by kernel_rfl) ⟨.inr rfl, trivial⟩, trivial⟩ ?_
    refine AX.ret ?_
    refine fin_wk (Wk.forget [4, 5] [0] (s' := ⟨[(4, .sl 0 0 x7.length), (5, .v (.bool true))], [(0, .arr 2 (List.map enc_si x7))]⟩) (by kernel_rfl)) ?_
    have hr := Option.some.inj h
    subst hr
    exact ⟨_, Wk.refl _, .inr rfl, ⟨[0], by kernel_rfl, ⟨rfl, trivial⟩, [.sl 0 0 x7.length, .v (.bool true)], by kernel_rfl, by kernel_rfl⟩⟩

theorem s_impl_in (p1 : Int) (p2 : Int) (p3 : Int) (r : Bool) (h : m_impl_in p1 p2 p3 = some r) :
    Eng.Spec Tryd.prog 42 [.v (.int .i64 p1), .v (.int .i64 p2), .v (.int .i64 p3)] [] (.v (.bool r)) [] := by
  unfold m_impl_in at h
  refine Eng.Spec.body Tryd.func42 (by kernel_rfl) rfl (by kernel_rfl) ?_
  refine AX.wkpost ?_
  refine AX.seq ?_
  refine AX.reg (its := []) [0, 1, 2] [] (s1 := ⟨[(0, .v (.int .i64 p1)), (1, .v (.int .i64 p2)), (2, .v (.int .i64 p3))], []⟩) (C := True) (by kernel_rfl) trivial trivial ?_
  refine AX.seq ?_
  rcases bool_cases (decide (p2 ≤ p1)) with b1 | b1
  · replace h := cd_t b1 h
    refine AX.reg (its := [.auto {}, .auto {}, .auto { y := some (.v (.bool true)) }]) [6] [] (s1 := ⟨[(6, .v (.bool (decide (p1 ≤ p3))))], []⟩) (C := ((True) ∧ ((.v (.bool (decide (p2 ≤ p1))) : AV) = (.v (.bool true) : AV))) ∧ True) (by kernel_rfl) ⟨⟨trivial, (congrArg (fun z => AV.v (.bool z)) b1)⟩, trivial⟩ trivial ?_
    refine AX.ret ?_
    refine fin_wk (Wk.forget [6] [] (s' := ⟨[(6, .v (.bool (decide (p1 ≤ p3))))], []⟩) (by kernel_rfl)) ?_
    have hr := Option.some.inj h
    subst hr
    exact ⟨_, Wk.refl _, .inr rfl, ⟨[], by kernel_rfl, trivial, [.v (.bool (decide (p1 ≤ p3)))], by kernel_rfl, by kernel_rfl⟩⟩
  · replace h := cd_f b1 h
    refine AX.reg (its := [.auto {}, .auto {}, .auto { y := some (.v (.bool false)) }]) [6] [] (s1 := ⟨[(6, .v (.bool false))], []⟩) (C := ((True) ∧ ((.v (.bool (decide (p2 ≤ p1))) : AV) = (.v (.bool false) : AV))) ∧ True) (by kernel_rfl) ⟨⟨trivial, (congrArg (fun z => AV.v (.bool z)) b1)⟩, trivial⟩ trivial ?_
    refine AX.ret ?_
    refine fin_wk (Wk.forget [6] [] (s' := ⟨[(6, .v (.bool false))], []⟩) (by kernel_rfl)) ?_
    have hr := Option.some.inj h
    subst hr
    exact ⟨_, Wk.refl _, .inr rfl, ⟨[], by kernel_rfl, trivial, [.v (.bool false)], by kernel_rfl, by kernel_rfl⟩⟩

theorem s_impl_ValidName_L1 (p1 : ByteArray) (n : Nat) (g : Int) (out : Unit ⊕ Unit) (h : m_impl_ValidName_L1 p1 n g = some out) :
    AX Tryd.prog 23 0 (codeAt [1, 0, 1, 1] (bodyOf Tryd.f126)) ((fun g : Int => (⟨[(0, .v (.string p1)), (3, .v (.int .i64 g))], []⟩ : S)) g) (fun ex s => (∃ o : Unit, out = Sum.inl o ∧ ex = .ret ∧ s = ⟨[(2, .v (.bool false))], []⟩) ∨ (∃ o : Unit, out = Sum.inr o ∧ ex = .exit 0 ∧ s = ⟨[(0, .v (.string p1))], []⟩)) := by
  refine AX.wkpost ?_
  refine AX.loop (G := Nat × (Int)) (fun q => (fun g : Int => (⟨[(0, .v (.string p1)), (3, .v (.int .i64 g))], []⟩ : S)) q.2) (fun q => m_impl_ValidName_L1 p1 q.1 q.2 = some out) (fun q => q.1) (n, g) h (Wk.refl _) ?_
  clear h
  rintro ⟨fu, v2⟩ h
  cases fu with
  | zero => cases h
  | succ fu =>
    rw [m_impl_ValidName_L1] at h
    refine AX.seq ?_
    refine AX.seq ?_
    refine AX.reg (its := []) [0, 3, 7] [] (s1 := ⟨[(0, .v (.string p1)), (3, .v (.int .i64 v2)), (7, .v (.bool (decide (v2 < (p1.size : Int)))))], []⟩) (C := True) (by kernel_rfl) trivial trivial ?_
    rcases bool_cases (decide (v2 < (p1.size : Int))) with b1 | b1
    · replace h := cd_t b1 h
      refine AX.condT (decide (v2 < (p1.size : Int))) (by kernel_rfl) b1 ?_
      refine AX.skip ?_
      refine AX.seq ?_
      refine AX.block ?_
      refine AX.seq ?_
      obtain ⟨g2, h⟩ := gd_e h
      rcases bool_cases (decide ((byteAt p1 v2.toNat) < 97)) with b3 | b3
      · replace h := cd_t b3 h
        refine AX.reg (its := [.auto {}, .auto {}, .auto {}, .auto { y := some (.v (.bool true)) }]) [0, 3, 19] [] (s1 := ⟨[(0, .v (.string p1)), (3, .v (.int .i64 v2)), (19, .v (.bool true))], []⟩) (C := (0 ≤ v2 ∧ v2 < (p1.size : Int)) ∧ ((True) ∧ ((.v (.bool (decide ((byteAt p1 v2.toNat) < 97))) : AV) = (.v (.bool true) : AV))) ∧ True) (by kernel_rfl) ⟨g2, ⟨⟨trivial, (congrArg (fun z => AV.v (.bool z)) b3)⟩, trivial⟩⟩ trivial ?_
        refine AX.cond_true (by kernel_rfl) ?_
        refine AX.seq ?_
        refine AX.reg (its := []) [2] [] (s1 := ⟨[(2, .v (.bool false))], []⟩) (C := True) (by kernel_rfl) trivial trivial ?_
        refine AX.ret ?_
        refine fin_wk (Wk.forget [2] [] (s' := ⟨[(2, .v (.bool false))], []⟩) (by kernel_rfl)) ?_
        have hr := Option.some.inj h
        subst hr
        exact ⟨_, Wk.refl _, .inl ⟨(), rfl, rfl, rfl⟩⟩
      · replace h := cd_f b3 h
        refine AX.reg (its := [.auto {}, .auto {}, .auto {}, .auto { y := some (.v (.bool false)) }]) [0, 3, 19] [] (s1 := ⟨[(0, .v (.string p1)), (3, .v (.int .i64 v2)), (19, .v (.bool (decide (122 < (byteAt p1 v2.toNat)))))], []⟩) (C := (0 ≤ v2 ∧ v2 < (p1.size : Int)) ∧ ((True) ∧ ((.v (.bool (decide ((byteAt p1 v2.toNat) < 97))) : AV) = (.v (.bool false) : AV))) ∧ (0 ≤ v2 ∧ v2 < (p1.size : Int)) ∧ True) (by kernel_rfl) ⟨g2, ⟨⟨trivial, (congrArg (fun z => AV.v (.bool z)) b3)⟩, ⟨g2, trivial⟩⟩⟩ trivial ?_
        rcases bool_cases (decide (122 < (byteAt p1 v2.toNat))) with b4 | b4
        · replace h := cd_t b4 h
          refine AX.condT (decide (122 < (byteAt p1 v2.toNat))) (by kernel_rfl) b4 ?_
          refine AX.seq ?_
          refine AX.reg (its := []) [2] [] (s1 := ⟨[(2, .v (.bool false))], []⟩) (C := True) (by kernel_rfl) trivial trivial ?_
          refine AX.ret ?_
          refine fin_wk (Wk.forget [2] [] (s' := ⟨[(2, .v (.bool false))], []⟩) (by kernel_rfl)) ?_
          have hr := Option.some.inj h
          subst hr
          exact ⟨_, Wk.refl _, .inl ⟨(), rfl, rfl, rfl⟩⟩
        · replace h := cd_f b4 h
          refine AX.condF (decide (122 < (byteAt p1 v2.toNat))) (by kernel_rfl) b4 ?_
          refine AX.skip ?_
          refine AX.reg (its := [.auto {}, .auto { raw := true }]) [0, 3] [] (s1 := ⟨[(0, .v (.string p1)), (3, .v (.int .i64 (IntKind.wrap .i64 (v2 + 1))))], []⟩) (C := True) (by kernel_rfl) trivial trivial ?_
          refine ⟨(fu, IntKind.wrap .i64 (v2 + 1)), h, Nat.lt_succ_self _, ?_⟩
          refine Wk.trans (Wk.forget [0, 3] [] (s' := ⟨[(0, .v (.string p1)), (3, .v (.int .i64 (IntKind.wrap .i64 (v2 + 1))))], []⟩) (by kernel_rfl)) ?_
          exact Wk.refl _
    · replace h := cd_f b1 h
      refine AX.condF (decide (v2 < (p1.size : Int))) (by kernel_rfl) b1 ?_
      refine AX.exit ?_
      refine fin_wk (Wk.forget [0] [] (s' := ⟨[(0, .v (.string p1))], []⟩) (by kernel_rfl)) ?_
      have hr := Option.some.inj h
      subst hr
      exact ⟨_, Wk.refl _, .inr ⟨(), rfl, rfl, rfl⟩⟩

theorem s_impl_ValidName (p1 : ByteArray) (r : Bool) (h : m_impl_ValidName p1 = some r) :
    Eng.Spec Tryd.prog 126 [.v (.string p1)] [] (.v (.bool r)) [] := by
  unfold m_impl_ValidName at h
  refine Eng.Spec.body Tryd.func126 (by kernel_rfl) rfl (by kernel_rfl) ?_
  refine AX.wkpost ?_
  refine AX.seq ?_
  refine AX.reg (its := []) [0] [] (s1 := ⟨[(0, .v (.string p1))], []⟩) (C := True) (by kernel_rfl) trivial trivial ?_
  refine AX.seq ?_
  refine AX.seq ?_
  refine AX.reg (its := []) [0, 3] [] (s1 := ⟨[(0, .v (.string p1)), (3, .v (.int .i64 0))], []⟩) (C := True) (by kernel_rfl) trivial trivial ?_
  refine AX.block ?_
  obtain ⟨x3, e5, h⟩ := bd_e h
  refine AX.wk (Wk.forget [0, 3] [] (s' := ⟨[(0, .v (.string p1)), (3, .v (.int .i64 0))], []⟩) (by kernel_rfl)) ?_
  refine AX.mono (s_impl_ValidName_L1 p1 FU 0 x3 e5) ?_
  rintro _ _ (⟨x4, rfl, rfl, rfl⟩ | ⟨x5, rfl, rfl, rfl⟩)
  · replace h := sm_l h
    refine fin_wk (Wk.forget [2] [] (s' := ⟨[(2, .v (.bool false))], []⟩) (by kernel_rfl)) ?_
    have hr := Option.some.inj h
    subst hr
    exact ⟨_, Wk.refl _, .inr rfl, ⟨[], by kernel_rfl, trivial, [.v (.bool false)], by kernel_rfl, by kernel_rfl⟩⟩
  · replace h := sm_r h
    refine AX.seq ?_
    obtain ⟨x6, e6, h⟩ := bd_e h
    refine AX.reg (its := [.auto {}, .auto {}, .call 42 [.v (.int .i64 (p1.size : Int)), .v (.int .i64 1), .v (.int .i64 6)] (handO (rho ([] ++ [])) [] [] ++ []) (callEv [] [] (.v (.bool x6)) [])]) [2] [] (s1 := ⟨[(2, .v (.bool x6))], []⟩) (C := ((([.v (.int .i64 (p1.size : Int)), .v (.int .i64 1), .v (.int .i64 6)] : List AV) = [.v (.int .i64 (p1.size : Int)), .v (.int .i64 1), .v (.int .i64 6)]) ∧ True) ∧ True) (by kernel_rfl) ⟨⟨rfl, trivial⟩, trivial⟩ ⟨call_ok (ks := []) (ns := []) (bor := []) (bobjs := []) (s_impl_in (p1.size : Int) 1 6 x6 e6) (.cons (.c1 (.c0 (.same _ (by kernel_rfl) (by kernel_rfl)))) (.cons (.c1 (.c0 (.same _ (by kernel_rfl) (by kernel_rfl)))) (.cons (.c1 (.c0 (.same _ (by kernel_rfl) (by kernel_rfl)))) (.nil)))) (by kernel_rfl) trivial, trivial⟩ ?_
    refine AX.ret ?_
    refine fin_wk (Wk.forget [2] [] (s' := ⟨[(2, .v (.bool x6))], []⟩) (by kernel_rfl)) ?_
    have hr := Option.some.inj h
    subst hr
    exact ⟨_, Wk.refl _, .inr rfl, ⟨[], by kernel_rfl, trivial, [.v (.bool x6)], by kernel_rfl, by kernel_rfl⟩⟩

theorem s_impl_named_1_l (p1 : ByteArray) (p2 : Int) (p3 : ByteArray) (r : Unit) (h : m_impl_named_1_l p1 p2 p3 = some r) :
    Eng.Spec Tryd.prog 87 [.agg [.v (.string p1), .v (.int .i64 p2)], .bp [.v (.string p3)] 0] [] (.v (.bool (decide (p1 = p3)))) [] := by
  unfold m_impl_named_1_l at h
  refine Eng.Spec.body Tryd.func87 (by kernel_rfl) rfl (by kernel_rfl) ?_
  refine AX.wkpost ?_
  refine AX.seq ?_
  refine AX.reg (its := [.auto { nk := 0 }]) [1, 2] [0] (s1 := ⟨[(1, .bp [.v (.string p3)] 0), (2, .pt 0 0)], [(0, .box [.v (.string p1), .v (.int .i64 p2)])]⟩) (C := True) (by kernel_rfl) trivial trivial ?_
  refine AX.seq ?_
  refine AX.reg (its := []) [3] [] (s1 := ⟨[(3, .v (.bool (decide (p1 = p3))))], []⟩) (C := True) (by kernel_rfl) trivial trivial ?_
  refine AX.ret ?_
  refine fin_wk (Wk.forget [3] [] (s' := ⟨[(3, .v (.bool (decide (p1 = p3))))], []⟩) (by kernel_rfl)) ?_
  have hr := Option.some.inj h
  subst hr
  exact ⟨_, Wk.refl _, .inr rfl, ⟨[], by kernel_rfl, trivial, [.v (.bool (decide (p1 = p3)))], by kernel_rfl, by kernel_rfl⟩⟩

theorem s_slices_IndexFunc_si_named_1_l_L1 (p1 : List (ByteArray × Int)) (p2 : ByteArray) (n : Nat) (g : Int) (out : Int ⊕ Unit) (h : m_slices_IndexFunc_si_named_1_l_L1 p1 p2 n g = some out) :
    AX Tryd.prog 19 0 (codeAt [1, 0, 1, 1] (bodyOf Tryd.f86)) ((fun g : Int => (⟨[(0, .bs false 2 (List.map enc_si p1)), (1, .fn 87 [.bp [.v (.string p2)] 0]), (7, .v (.int .i64 (p1.length : Int))), (8, .v (.int .i64 g))], []⟩ : S)) g) (fun ex s => (∃ o : Int, out = Sum.inl o ∧ ex = .ret ∧ s = ⟨[(4, .v (.int .i64 o))], []⟩) ∨ (∃ o : Unit, out = Sum.inr o ∧ ex = .exit 0 ∧ s = ⟨[], []⟩)) := by
  refine AX.wkpost ?_
  refine AX.loop (G := Nat × (Int)) (fun q => (fun g : Int => (⟨[(0, .bs false 2 (List.map enc_si p1)), (1, .fn 87 [.bp [.v (.string p2)] 0]), (7, .v (.int .i64 (p1.length : Int))), (8, .v (.int .i64 g))], []⟩ : S)) q.2) (fun q => m_slices_IndexFunc_si_named_1_l_L1 p1 p2 q.1 q.2 = some out) (fun q => q.1) (n, g) h (Wk.refl _) ?_
  clear h
  rintro ⟨fu, v3⟩ h
  cases fu with
  | zero => cases h
  | succ fu =>
    rw [m_slices_IndexFunc_si_named_1_l_L1] at h
    refine AX.seq ?_
    refine AX.reg (its := []) [0, 1, 7, 8, 9] [] (s1 := ⟨[(0, .bs false 2 (List.map enc_si p1)), (1, .fn 87 [.bp [.v (.string p2)] 0]), (7, .v (.int .i64 (p1.length : Int))), (8, .v (.int .i64 v3)), (9, .v (.bool (decide (v3 < (p1.length : Int)))))], []⟩) (C := True) (by kernel_rfl) trivial trivial ?_
    refine AX.seq ?_
    rcases bool_cases (decide (v3 < (p1.length : Int))) with b1 | b1
    · replace h := cd_t b1 h
      refine AX.condT (decide (v3 < (p1.length : Int))) (by kernel_rfl) b1 ?_
      refine AX.skip ?_
      refine AX.seq ?_
      refine AX.block ?_
      refine AX.seq ?_
      refine AX.reg (its := []) [0, 1, 5, 7, 8] [] (s1 := ⟨[(0, .bs false 2 (List.map enc_si p1)), (1, .fn 87 [.bp [.v (.string p2)] 0]), (5, .v (.int .i64 v3)), (7, .v (.int .i64 (p1.length : Int))), (8, .v (.int .i64 v3))], []⟩) (C := True) (by kernel_rfl) trivial trivial ?_
      refine AX.seq ?_
      obtain ⟨g2, h⟩ := gd_e h
      obtain ⟨x4, e3, h⟩ := bd_e h
      refine AX.reg (its := [.auto {}, .auto {}, .auto {}, .auto { y := some (.be 2 (enc_si (gt p1 v3)) 0) }, .auto {}, .call 87 [.agg [.v (.string ((gt p1 v3).1)), .v (.int .i64 ((gt p1 v3).2))], .bp [.v (.string p2)] 0] (handO (rho ([] ++ [])) [] [] ++ []) (callEv [] [] (.v (.bool (decide (((gt p1 v3).1) = p2)))) [])]) [0, 1, 5, 7, 8, 16] [] (s1 := ⟨[(0, .bs false 2 (List.map enc_si p1)), (1, .fn 87 [.bp [.v (.string p2)] 0]), (5, .v (.int .i64 v3)), (7, .v (.int .i64 (p1.length : Int))), (8, .v (.int .i64 v3)), (16, .v (.bool (decide (((gt p1 v3).1) = p2))))], []⟩) (C := ((0 ≤ v3 ∧ v3 < ((List.map enc_si p1).length : Int)) ∧ (AV.be 2 ((List.map enc_si p1).getD v3.toNat []) 0 = AV.be 2 (enc_si (gt p1 v3)) 0)) ∧ ((([.agg [.v (.string ((gt p1 v3).1)), .v (.int .i64 ((gt p1 v3).2))], .bp [.v (.string p2)] 0] : List AV) = [.agg [.v (.string ((gt p1 v3).1)), .v (.int .i64 ((gt p1 v3).2))], .bp [.v (.string p2)] 0]) ∧ True) ∧ True) (by kernel_rfl) ⟨idx_bs enc_si p1 v3 2 g2, ⟨⟨rfl, trivial⟩, trivial⟩⟩ ⟨call_ok (ks := []) (ns := []) (bor := []) (bobjs := []) (s_impl_named_1_l ((gt p1 v3).1) ((gt p1 v3).2) p2 x4 e3) (.cons (.c1 (.agg (.cons (.same _ (by kernel_rfl) (by kernel_rfl)) (.cons (.same _ (by kernel_rfl) (by kernel_rfl)) (.nil))))) (.cons (.c1 (.bp (.cons (.same _ (by kernel_rfl) (by kernel_rfl)) (.nil)))) (.nil))) (by kernel_rfl) trivial, trivial⟩ ?_
      rcases bool_cases (decide (((gt p1 v3).1) = p2)) with b4 | b4
      · replace h := cd_t b4 h
        refine AX.condT (decide (((gt p1 v3).1) = p2)) (by kernel_rfl) b4 ?_
        refine AX.seq ?_
        refine AX.reg (its := []) [4] [] (s1 := ⟨[(4, .v (.int .i64 v3))], []⟩) (C := True) (by kernel_rfl) trivial trivial ?_
        refine AX.ret ?_
        refine fin_wk (Wk.forget [4] [] (s' := ⟨[(4, .v (.int .i64 v3))], []⟩) (by kernel_rfl)) ?_
        have hr := Option.some.inj h
        subst hr
        exact ⟨_, Wk.refl _, .inl ⟨v3, rfl, rfl, rfl⟩⟩
      · replace h := cd_f b4 h
        refine AX.condF (decide (((gt p1 v3).1) = p2)) (by kernel_rfl) b4 ?_
        refine AX.skip ?_
        refine AX.reg (its := [.auto { raw := true }]) [0, 1, 7, 8] [] (s1 := ⟨[(0, .bs false 2 (List.map enc_si p1)), (1, .fn 87 [.bp [.v (.string p2)] 0]), (7, .v (.int .i64 (p1.length : Int))), (8, .v (.int .i64 (IntKind.wrap .i64 (v3 + 1))))], []⟩) (C := True) (by kernel_rfl) trivial trivial ?_
        refine ⟨(fu, IntKind.wrap .i64 (v3 + 1)), h, Nat.lt_succ_self _, ?_⟩
        refine Wk.trans (Wk.forget [0, 1, 7, 8] [] (s' := ⟨[(0, .bs false 2 (List.map enc_si p1)), (1, .fn 87 [.bp [.v (.string p2)] 0]), (7, .v (.int .i64 (p1.length : Int))), (8, .v (.int .i64 (IntKind.wrap .i64 (v3 + 1))))], []⟩) (by kernel_rfl)) ?_
        exact Wk.refl _
    · replace h := cd_f b1 h
      refine AX.condF (decide (v3 < (p1.length : Int))) (by kernel_rfl) b1 ?_
      refine AX.exit ?_
      refine fin_wk (Wk.forget [] [] (s' := ⟨[], []⟩) (by kernel_rfl)) ?_
      have hr := Option.some.inj h
      subst hr
      exact ⟨_, Wk.refl _, .inr ⟨(), rfl, rfl, rfl⟩⟩

theorem s_slices_IndexFunc_si_named_1_l (p1 : List (ByteArray × Int)) (p2 : ByteArray) (r : Int) (h : m_slices_IndexFunc_si_named_1_l p1 p2 = some r) :
    Eng.Spec Tryd.prog 86 [.bs false 2 (List.map enc_si p1), .fn 87 [.bp [.v (.string p2)] 0]] [] (.v (.int .i64 r)) [] := by
  unfold m_slices_IndexFunc_si_named_1_l at h
  refine Eng.Spec.body Tryd.func86 (by kernel_rfl) rfl (by kernel_rfl) ?_
  refine AX.wkpost ?_
  refine AX.seq ?_
  refine AX.reg (its := []) [0, 1] [] (s1 := ⟨[(0, .bs false 2 (List.map enc_si p1)), (1, .fn 87 [.bp [.v (.string p2)] 0])], []⟩) (C := True) (by kernel_rfl) trivial trivial ?_
  refine AX.seq ?_
  refine AX.seq ?_
  refine AX.reg (its := [.auto {}, .auto { y := some (.v (.int .i64 (p1.length : Int))) }]) [0, 1, 7, 8] [] (s1 := ⟨[(0, .bs false 2 (List.map enc_si p1)), (1, .fn 87 [.bp [.v (.string p2)] 0]), (7, .v (.int .i64 (p1.length : Int))), (8, .v (.int .i64 0))], []⟩) (C := (True ∧ (AV.v (.int .i64 ((List.map enc_si p1).length : Int)) = AV.v (.int .i64 (p1.length : Int)))) ∧ True) (by kernel_rfl) ⟨⟨trivial, len_map enc_si p1⟩, trivial⟩ trivial ?_
  refine AX.block ?_
  obtain ⟨x5, e5, h⟩ := bd_e h
  refine AX.wk (Wk.forget [0, 1, 7, 8] [] (s' := ⟨[(0, .bs false 2 (List.map enc_si p1)), (1, .fn 87 [.bp [.v (.string p2)] 0]), (7, .v (.int .i64 (p1.length : Int))), (8, .v (.int .i64 0))], []⟩) (by kernel_rfl)) ?_
  refine AX.mono (s_slices_IndexFunc_si_named_1_l_L1 p1 p2 FU 0 x5 e5) ?_
  rintro _ _ (⟨x6, rfl, rfl, rfl⟩ | ⟨x7, rfl, rfl, rfl⟩)
  · replace h := sm_l h
    refine fin_wk (Wk.forget [4] [] (s' := ⟨[(4, .v (.int .i64 x6))], []⟩) (by kernel_rfl)) ?_
    have hr := Option.some.inj h
    subst hr
    exact ⟨_, Wk.refl _, .inr rfl, ⟨[], by kernel_rfl, trivial, [.v (.int .i64 x6)], by kernel_rfl, by kernel_rfl⟩⟩
  · replace h := sm_r h
    refine AX.seq ?_
    refine AX.reg (its := []) [4] [] (s1 := ⟨[(4, .v (.int .i64 (-1)))], []⟩) (C := True) (by kernel_rfl) trivial trivial ?_
    refine AX.ret ?_
    refine fin_wk (Wk.forget [4] [] (s' := ⟨[(4, .v (.int .i64 (-1)))], []⟩) (by kernel_rfl)) ?_
    have hr := Option.some.inj h
    subst hr
    exact ⟨_, Wk.refl _, .inr rfl, ⟨[], by kernel_rfl, trivial, [.v (.int .i64 (-1))], by kernel_rfl, by kernel_rfl⟩⟩

theorem s_impl_named (p1 : List (ByteArray × Int)) (p2 : ByteArray) (r : Int) (h : m_impl_named p1 p2 = some r) :
    Eng.Spec Tryd.prog 40 [.bs false 2 (List.map enc_si p1), .v (.string p2)] [] (.v (.int .i64 r)) [] := by
  unfold m_impl_named at h
  refine Eng.Spec.body Tryd.func40 (by kernel_rfl) rfl (by kernel_rfl) ?_
  refine AX.wkpost ?_
  refine AX.seq ?_
  refine AX.reg (its := [.auto { nk := 0 }]) [0, 3] [0] (s1 := ⟨[(0, .bs false 2 (List.map enc_si p1)), (3, .pt 0 0)], [(0, .box [.v (.string p2)])]⟩) (C := True) (by kernel_rfl) trivial trivial ?_
  refine AX.seq ?_
  obtain ⟨x3, e1, h⟩ := bd_e h
  refine AX.reg (its := [.auto {}, .auto {}, .call 86 [.bs false 2 (List.map enc_si p1), .fn 87 [.pt 0 0]] (handO (rho ([] ++ [])) [] [] ++ [(0, .box [.v (.string p2)])]) (callEv [] [] (.v (.int .i64 x3)) [])]) [4] [] (s1 := ⟨[(4, .v (.int .i64 x3))], []⟩) (C := ((([.bs false 2 (List.map enc_si p1), .fn 87 [.pt 0 0]] : List AV) = [.bs false 2 (List.map enc_si p1), .fn 87 [.pt 0 0]]) ∧ (AO.box [.v (.string p2)] = AO.box [.v (.string p2)]) ∧ True) ∧ True) (by kernel_rfl) ⟨⟨rfl, rfl, trivial⟩, trivial⟩ ⟨call_ok (ks := []) (ns := []) (bor := [0]) (bobjs := [(0, .box [.v (.string p2)])]) (s_slices_IndexFunc_si_named_1_l p1 p2 x3 e1) (.cons (.c1 (.c0 (.same _ (by kernel_rfl) (by kernel_rfl)))) (.cons (.fn (.cons (.box rfl rfl (.cons (.same _ (by kernel_rfl) (by kernel_rfl)) (.nil))) (.nil))) (.nil))) (by kernel_rfl) trivial, trivial⟩ ?_
  refine AX.ret ?_
  refine fin_wk (Wk.forget [4] [] (s' := ⟨[(4, .v (.int .i64 x3))], []⟩) (by kernel_rfl)) ?_
  have hr := Option.some.inj h
  subst hr
  exact ⟨_, Wk.refl _, .inr rfl, ⟨[], by kernel_rfl, trivial, [.v (.int .i64 x3)], by kernel_rfl, by kernel_rfl⟩⟩

theorem s_impl_defsValid_L1 (p1 : List (ByteArray × Int)) (p2 : Int) (p3 : Int) (n : Nat) (g : Int) (out : Unit ⊕ Unit) (h : m_impl_defsValid_L1 p1 p2 p3 n g = some out) :
    AX Tryd.prog 41 0 (codeAt [1, 0, 1, 1] (bodyOf Tryd.f84)) ((fun g : Int => (⟨[(0, .bs false 2 (List.map enc_si p1)), (1, .v (.int .i64 p2)), (2, .v (.int .i64 p3)), (9, .bs false 2 (List.map enc_si p1)), (10, .v (.int .i64 (p1.length : Int))), (11, .v (.int .i64 g))], []⟩ : S)) g) (fun ex s => (∃ o : Unit, out = Sum.inl o ∧ ex = .ret ∧ s = ⟨[(6, .v (.bool false))], []⟩) ∨ (∃ o : Unit, out = Sum.inr o ∧ ex = .exit 0 ∧ s = ⟨[(0, .bs false 2 (List.map enc_si p1))], []⟩)) := by
  refine AX.wkpost ?_
  refine AX.loop (G := Nat × (Int)) (fun q => (fun g : Int => (⟨[(0, .bs false 2 (List.map enc_si p1)), (1, .v (.int .i64 p2)), (2, .v (.int .i64 p3)), (9, .bs false 2 (List.map enc_si p1)), (10, .v (.int .i64 (p1.length : Int))), (11, .v (.int .i64 g))], []⟩ : S)) q.2) (fun q => m_impl_defsValid_L1 p1 p2 p3 q.1 q.2 = some out) (fun q => q.1) (n, g) h (Wk.refl _) ?_
  clear h
  rintro ⟨fu, v4⟩ h
  cases fu with
  | zero => cases h
  | succ fu =>
    rw [m_impl_defsValid_L1] at h
    refine AX.seq ?_
    refine AX.reg (its := []) [0, 1, 2, 9, 10, 11, 12] [] (s1 := ⟨[(0, .bs false 2 (List.map enc_si p1)), (1, .v (.int .i64 p2)), (2, .v (.int .i64 p3)), (9, .bs false 2 (List.map enc_si p1)), (10, .v (.int .i64 (p1.length : Int))), (11, .v (.int .i64 v4)), (12, .v (.bool (decide (v4 < (p1.length : Int)))))], []⟩) (C := True) (by kernel_rfl) trivial trivial ?_
    refine AX.seq ?_
    rcases bool_cases (decide (v4 < (p1.length : Int))) with b1 | b1
    · replace h := cd_t b1 h
      refine AX.condT (decide (v4 < (p1.length : Int))) (by kernel_rfl) b1 ?_
      refine AX.skip ?_
      refine AX.seq ?_
      refine AX.block ?_
      refine AX.seq ?_
      obtain ⟨g2, h⟩ := gd_e h
      refine AX.reg (its := [.auto {}, .auto { y := some (.be 2 (enc_si (gt p1 v4)) 0) }, .auto {}, .auto { nk := 0 }]) [0, 1, 2, 7, 8, 9, 10, 11] [0] (s1 := ⟨[(0, .bs false 2 (List.map enc_si p1)), (1, .v (.int .i64 p2)), (2, .v (.int .i64 p3)), (7, .v (.int .i64 v4)), (8, .pt 0 0), (9, .bs false 2 (List.map enc_si p1)), (10, .v (.int .i64 (p1.length : Int))), (11, .v (.int .i64 v4))], [(0, .box [.v (.string ((gt p1 v4).1)), .v (.int .i64 ((gt p1 v4).2))])]⟩) (C := ((0 ≤ v4 ∧ v4 < ((List.map enc_si p1).length : Int)) ∧ (AV.be 2 ((List.map enc_si p1).getD v4.toNat []) 0 = AV.be 2 (enc_si (gt p1 v4)) 0)) ∧ True) (by kernel_rfl) ⟨idx_bs enc_si p1 v4 2 g2, trivial⟩ trivial ?_
      refine AX.seq ?_
      obtain ⟨x5, e3, h⟩ := bd_e h
      rcases bool_cases ((!x5)) with b4 | b4
      · replace h := cd_t b4 h
        refine AX.drw mixed (its := [.auto {}, .auto {}, .call 126 [.v (.string ((gt p1 v4).1))] (handO (rho ([] ++ [])) [] [] ++ []) (callEv [] [] (.v (.bool x5)) []), .auto { y := some (.v (.bool true)) }]) [0, 1, 2, 9, 10, 11, 36] [] (s1 := ⟨[(0, .bs false 2 (List.map enc_si p1)), (1, .v (.int .i64 p2)), (2, .v (.int .i64 p3)), (9, .bs false 2 (List.map enc_si p1)), (10, .v (.int .i64 (p1.length : Int))), (11, .v (.int .i64 v4)), (36, .v (.bool true))], []⟩) (C := ((([.v (.string ((gt p1 v4).1))] : List AV) = [.v (.string ((gt p1 v4).1))]) ∧ True) ∧ ((True) ∧ ((.v (.bool (!x5)) : AV) = (.v (.bool true) : AV))) ∧ True) (by kernel_rfl) ⟨⟨rfl, trivial⟩, ⟨⟨trivial, (congrArg (fun z => AV.v (.bool z)) b4)⟩, trivial⟩⟩ ⟨call_ok (ks := []) (ns := []) (bor := []) (bobjs := []) (s_impl_ValidName ((gt p1 v4).1) x5 e3) (.cons (.c1 (.c0 (.same _ (by kernel_rfl) (by kernel_rfl)))) (.nil)) (by kernel_rfl) trivial, trivial⟩ ?_
        refine AX.cond_true (by kernel_rfl) ?_
        refine AX.seq ?_
        refine AX.reg (its := []) [6] [] (s1 := ⟨[(6, .v (.bool false))], []⟩) (C := True) (by kernel_rfl) trivial trivial ?_
        refine AX.ret ?_
        refine fin_wk (Wk.forget [6] [] (s' := ⟨[(6, .v (.bool false))], []⟩) (by kernel_rfl)) ?_
        have hr := Option.some.inj h
        subst hr
        exact ⟨_, Wk.refl _, .inl ⟨(), rfl, rfl, rfl⟩⟩
      · replace h := cd_f b4 h
        obtain ⟨x6, e5, h⟩ := bd_e h
        rcases bool_cases ((!x6)) with b6 | b6
        · replace h := cd_t b6 h
          refine AX.drw mixed (its := [.auto {}, .auto {}, .call 126 [.v (.string ((gt p1 v4).1))] (handO (rho ([] ++ [])) [] [] ++ []) (callEv [] [] (.v (.bool x5)) []), .auto { y := some (.v (.bool false)) }, .auto {}, .auto {}, .auto {}, .auto {}, .auto {}, .call 42 [.v (.int .i64 ((gt p1 v4).2)), .v (.int .i64 p2), .v (.int .i64 p3)] (handO (rho ([] ++ [])) [] [] ++ []) (callEv [] [] (.v (.bool x6)) []), .auto { y := some (.v (.bool true)) }]) [0, 1, 2, 9, 10, 11, 36] [] (s1 := ⟨[(0, .bs false 2 (List.map enc_si p1)), (1, .v (.int .i64 p2)), (2, .v (.int .i64 p3)), (9, .bs false 2 (List.map enc_si p1)), (10, .v (.int .i64 (p1.length : Int))), (11, .v (.int .i64 v4)), (36, .v (.bool true))], []⟩) (C := ((([.v (.string ((gt p1 v4).1))] : List AV) = [.v (.string ((gt p1 v4).1))]) ∧ True) ∧ ((True) ∧ ((.v (.bool (!x5)) : AV) = (.v (.bool false) : AV))) ∧ ((([.v (.int .i64 ((gt p1 v4).2)), .v (.int .i64 p2), .v (.int .i64 p3)] : List AV) = [.v (.int .i64 ((gt p1 v4).2)), .v (.int .i64 p2), .v (.int .i64 p3)]) ∧ True) ∧ ((True) ∧ ((.v (.bool (!x6)) : AV) = (.v (.bool true) : AV))) ∧ True) (by kernel_rfl) ⟨⟨rfl, trivial⟩, ⟨⟨trivial, (congrArg (fun z => AV.v (.bool z)) b4)⟩, ⟨⟨rfl, trivial⟩, ⟨⟨trivial, (congrArg (fun z => AV.v (.bool z)) b6)⟩, trivial⟩⟩⟩⟩ ⟨call_ok (ks := []) (ns := []) (bor := []) (bobjs := []) (s_impl_ValidName ((gt p1 v4).1) x5 e3) (.cons (.c1 (.c0 (.same _ (by kernel_rfl) (by kernel_rfl)))) (.nil)) (by kernel_rfl) trivial, ⟨call_ok (ks := []) (ns := []) (bor := []) (bobjs := []) (s_impl_in ((gt p1 v4).2) p2 p3 x6 e5) (.cons (.c1 (.c0 (.same _ (by kernel_rfl) (by kernel_rfl)))) (.cons (.c1 (.c0 (.same _ (by kernel_rfl) (by kernel_rfl)))) (.cons (.c1 (.c0 (.same _ (by kernel_rfl) (by kernel_rfl)))) (.nil)))) (by kernel_rfl) trivial, trivial⟩⟩ ?_
          refine AX.cond_true (by kernel_rfl) ?_
          refine AX.seq ?_
          refine AX.reg (its := []) [6] [] (s1 := ⟨[(6, .v (.bool false))], []⟩) (C := True) (by kernel_rfl) trivial trivial ?_
          refine AX.ret ?_
          refine fin_wk (Wk.forget [6] [] (s' := ⟨[(6, .v (.bool false))], []⟩) (by kernel_rfl)) ?_
          have hr := Option.some.inj h
          subst hr
          exact ⟨_, Wk.refl _, .inl ⟨(), rfl, rfl, rfl⟩⟩
        · replace h := cd_f b6 h
          obtain ⟨g7, h⟩ := gd_e h
          obtain ⟨x7, e8, h⟩ := bd_e h
          refine AX.drw mixed (its := [.auto {}, .auto {}, .call 126 [.v (.string ((gt p1 v4).1))] (handO (rho ([] ++ [])) [] [] ++ []) (callEv [] [] (.v (.bool x5)) []), .auto { y := some (.v (.bool false)) }, .auto {}, .auto {}, .auto {}, .auto {}, .auto {}, .call 42 [.v (.int .i64 ((gt p1 v4).2)), .v (.int .i64 p2), .v (.int .i64 p3)] (handO (rho ([] ++ [])) [] [] ++ []) (callEv [] [] (.v (.bool x6)) []), .auto { y := some (.v (.bool false)) }, .auto {}, .auto {}, .auto {}, .auto {}, .auto { y := some (.bs false 2 (List.map enc_si (sub p1 (0 : Int) v4))) }, .auto {}, .auto {}, .call 40 [.bs false 2 (List.map enc_si (sub p1 (0 : Int) v4)), .v (.string ((gt p1 v4).1))] (handO (rho ([] ++ [])) [] [] ++ []) (callEv [] [] (.v (.int .i64 x7)) [])]) [0, 1, 2, 9, 10, 11, 36] [] (s1 := ⟨[(0, .bs false 2 (List.map enc_si p1)), (1, .v (.int .i64 p2)), (2, .v (.int .i64 p3)), (9, .bs false 2 (List.map enc_si p1)), (10, .v (.int .i64 (p1.length : Int))), (11, .v (.int .i64 v4)), (36, .v (.bool (decide (0 ≤ x7))))], []⟩) (C := ((([.v (.string ((gt p1 v4).1))] : List AV) = [.v (.string ((gt p1 v4).1))]) ∧ True) ∧ ((True) ∧ ((.v (.bool (!x5)) : AV) = (.v (.bool false) : AV))) ∧ ((([.v (.int .i64 ((gt p1 v4).2)), .v (.int .i64 p2), .v (.int .i64 p3)] : List AV) = [.v (.int .i64 ((gt p1 v4).2)), .v (.int .i64 p2), .v (.int .i64 p3)]) ∧ True) ∧ ((True) ∧ ((.v (.bool (!x6)) : AV) = (.v (.bool false) : AV))) ∧ ((0 ≤ (0 : Int) ∧ (0 : Int) ≤ v4 ∧ v4 ≤ ((List.map enc_si p1).length : Int) ∧ ((List.map enc_si p1).length : Int) ≤ ((List.map enc_si p1).length : Int)) ∧ (AV.bs false 2 (((List.map enc_si p1).drop (0 : Int).toNat).take (v4.toNat - (0 : Int).toNat)) = (.bs false 2 (List.map enc_si (sub p1 (0 : Int) v4)) : AV))) ∧ ((([.bs false 2 (List.map enc_si (sub p1 (0 : Int) v4)), .v (.string ((gt p1 v4).1))] : List AV) = [.bs false 2 (List.map enc_si (sub p1 (0 : Int) v4)), .v (.string ((gt p1 v4).1))]) ∧ True) ∧ True) (by kernel_rfl) ⟨⟨rfl, trivial⟩, ⟨⟨trivial, (congrArg (fun z => AV.v (.bool z)) b4)⟩, ⟨⟨rfl, trivial⟩, ⟨⟨trivial, (congrArg (fun z => AV.v (.bool z)) b6)⟩, ⟨⟨by first | exact g7 | simpa only [List.length_map] using g7, by first | exact sub_can enc_si p1 (0 : Int) v4 false 2 | (simp only [List.length_map]; exact sub_can enc_si p1 (0 : Int) v4 false 2)⟩, ⟨⟨rfl, trivial⟩, trivial⟩⟩⟩⟩⟩⟩ ⟨call_ok (ks := []) (ns := []) (bor := []) (bobjs := []) (s_impl_ValidName ((gt p1 v4).1) x5 e3) (.cons (.c1 (.c0 (.same _ (by kernel_rfl) (by kernel_rfl)))) (.nil)) (by kernel_rfl) trivial, ⟨call_ok (ks := []) (ns := []) (bor := []) (bobjs := []) (s_impl_in ((gt p1 v4).2) p2 p3 x6 e5) (.cons (.c1 (.c0 (.same _ (by kernel_rfl) (by kernel_rfl)))) (.cons (.c1 (.c0 (.same _ (by kernel_rfl) (by kernel_rfl)))) (.cons (.c1 (.c0 (.same _ (by kernel_rfl) (by kernel_rfl)))) (.nil)))) (by kernel_rfl) trivial, ⟨call_ok (ks := []) (ns := []) (bor := []) (bobjs := []) (s_impl_named (sub p1 (0 : Int) v4) ((gt p1 v4).1) x7 e8) (.cons (.c1 (.c0 (.same _ (by kernel_rfl) (by kernel_rfl)))) (.cons (.c1 (.c0 (.same _ (by kernel_rfl) (by kernel_rfl)))) (.nil))) (by kernel_rfl) trivial, trivial⟩⟩⟩ ?_
          rcases bool_cases (decide (0 ≤ x7)) with b9 | b9
          · replace h := cd_t b9 h
            refine AX.condT (decide (0 ≤ x7)) (by kernel_rfl) b9 ?_
            refine AX.seq ?_
            refine AX.reg (its := []) [6] [] (s1 := ⟨[(6, .v (.bool false))], []⟩) (C := True) (by kernel_rfl) trivial trivial ?_
            refine AX.ret ?_
            refine fin_wk (Wk.forget [6] [] (s' := ⟨[(6, .v (.bool false))], []⟩) (by kernel_rfl)) ?_
            have hr := Option.some.inj h
            subst hr
            exact ⟨_, Wk.refl _, .inl ⟨(), rfl, rfl, rfl⟩⟩
          · replace h := cd_f b9 h
            refine AX.condF (decide (0 ≤ x7)) (by kernel_rfl) b9 ?_
            refine AX.skip ?_
            refine AX.reg (its := [.auto { raw := true }]) [0, 1, 2, 9, 10, 11] [] (s1 := ⟨[(0, .bs false 2 (List.map enc_si p1)), (1, .v (.int .i64 p2)), (2, .v (.int .i64 p3)), (9, .bs false 2 (List.map enc_si p1)), (10, .v (.int .i64 (p1.length : Int))), (11, .v (.int .i64 (IntKind.wrap .i64 (v4 + 1))))], []⟩) (C := True) (by kernel_rfl) trivial trivial ?_
            refine ⟨(fu, IntKind.wrap .i64 (v4 + 1)), h, Nat.lt_succ_self _, ?_⟩
            refine Wk.trans (Wk.forget [0, 1, 2, 9, 10, 11] [] (s' := ⟨[(0, .bs false 2 (List.map enc_si p1)), (1, .v (.int .i64 p2)), (2, .v (.int .i64 p3)), (9, .bs false 2 (List.map enc_si p1)), (10, .v (.int .i64 (p1.length : Int))), (11, .v (.int .i64 (IntKind.wrap .i64 (v4 + 1))))], []⟩) (by kernel_rfl)) ?_
            exact Wk.refl _
    · replace h := cd_f b1 h
      refine AX.condF (decide (v4 < (p1.length : Int))) (by kernel_rfl) b1 ?_
      refine AX.exit ?_
      refine fin_wk (Wk.forget [0] [] (s' := ⟨[(0, .bs false 2 (List.map enc_si p1))], []⟩) (by kernel_rfl)) ?_
      have hr := Option.some.inj h
      subst hr
      exact ⟨_, Wk.refl _, .inr ⟨(), rfl, rfl, rfl⟩⟩

theorem s_impl_defsValid (p1 : List (ByteArray × Int)) (p2 : Int) (p3 : Int) (r : Bool) (h : m_impl_defsValid p1 p2 p3 = some r) :
    Eng.Spec Tryd.prog 84 [.bs false 2 (List.map enc_si p1), .v (.int .i64 p2), .v (.int .i64 p3)] [] (.v (.bool r)) [] := by
  unfold m_impl_defsValid at h
  refine Eng.Spec.body Tryd.func84 (by kernel_rfl) rfl (by kernel_rfl) ?_
  refine AX.wkpost ?_
  refine AX.seq ?_
  refine AX.reg (its := []) [0, 1, 2] [] (s1 := ⟨[(0, .bs false 2 (List.map enc_si p1)), (1, .v (.int .i64 p2)), (2, .v (.int .i64 p3))], []⟩) (C := True) (by kernel_rfl) trivial trivial ?_
  refine AX.seq ?_
  refine AX.seq ?_
  refine AX.reg (its := [.auto {}, .auto { y := some (.v (.int .i64 (p1.length : Int))) }]) [0, 1, 2, 9, 10, 11] [] (s1 := ⟨[(0, .bs false 2 (List.map enc_si p1)), (1, .v (.int .i64 p2)), (2, .v (.int .i64 p3)), (9, .bs false 2 (List.map enc_si p1)), (10, .v (.int .i64 (p1.length : Int))), (11, .v (.int .i64 0))], []⟩) (C := (True ∧ (AV.v (.int .i64 ((List.map enc_si p1).length : Int)) = AV.v (.int .i64 (p1.length : Int)))) ∧ True) (by kernel_rfl) ⟨⟨trivial, len_map enc_si p1⟩, trivial⟩ trivial ?_
  refine AX.block ?_
  obtain ⟨x8, e10, h⟩ := bd_e h
  refine AX.wk (Wk.forget [0, 1, 2, 9, 10, 11] [] (s' := ⟨[(0, .bs false 2 (List.map enc_si p1)), (1, .v (.int .i64 p2)), (2, .v (.int .i64 p3)), (9, .bs false 2 (List.map enc_si p1)), (10, .v (.int .i64 (p1.length : Int))), (11, .v (.int .i64 0))], []⟩) (by kernel_rfl)) ?_
  refine AX.mono (s_impl_defsValid_L1 p1 p2 p3 FU 0 x8 e10) ?_
  rintro _ _ (⟨x9, rfl, rfl, rfl⟩ | ⟨x10, rfl, rfl, rfl⟩)
  · replace h := sm_l h
    refine fin_wk (Wk.forget [6] [] (s' := ⟨[(6, .v (.bool false))], []⟩) (by kernel_rfl)) ?_
    have hr := Option.some.inj h
    subst hr
    exact ⟨_, Wk.refl _, .inr rfl, ⟨[], by kernel_rfl, trivial, [.v (.bool false)], by kernel_rfl, by kernel_rfl⟩⟩
  · replace h := sm_r h
    refine AX.seq ?_
    refine AX.reg (its := [.auto {}, .auto { y := some (.v (.int .i64 (p1.length : Int))) }]) [6] [] (s1 := ⟨[(6, .v (.bool (decide ((p1.length : Int) ≤ 12))))], []⟩) (C := (True ∧ (AV.v (.int .i64 ((List.map enc_si p1).length : Int)) = AV.v (.int .i64 (p1.length : Int)))) ∧ True) (by kernel_rfl) ⟨⟨trivial, len_map enc_si p1⟩, trivial⟩ trivial ?_
    refine AX.ret ?_
    refine fin_wk (Wk.forget [6] [] (s' := ⟨[(6, .v (.bool (decide ((p1.length : Int) ≤ 12))))], []⟩) (by kernel_rfl)) ?_
    have hr := Option.some.inj h
    subst hr
    exact ⟨_, Wk.refl _, .inr rfl, ⟨[], by kernel_rfl, trivial, [.v (.bool (decide ((p1.length : Int) ≤ 12)))], by kernel_rfl, by kernel_rfl⟩⟩

theorem s_impl_ValidEnum (p1 : List (ByteArray × Int)) (r : Bool) (h : m_impl_ValidEnum p1 = some r) :
    Eng.Spec Tryd.prog 62 [.agg [.bs false 2 (List.map enc_si p1)]] [] (.v (.bool r)) [] := by
  unfold m_impl_ValidEnum at h
  refine Eng.Spec.body Tryd.func62 (by kernel_rfl) rfl (by kernel_rfl) ?_
  refine AX.wkpost ?_
  refine AX.seq ?_
  refine AX.reg (its := [.auto { nk := 0 }]) [1] [0] (s1 := ⟨[(1, .pt 0 0)], [(0, .box [.bs false 2 (List.map enc_si p1)])]⟩) (C := True) (by kernel_rfl) trivial trivial ?_
  refine AX.seq ?_
  obtain ⟨x2, e1, h⟩ := bd_e h
  refine AX.reg (its := [.auto {}, .auto {}, .call 84 [.bs false 2 (List.map enc_si p1), .v (.int .i64 (-1000)), .v (.int .i64 1000)] (handO (rho ([] ++ [])) [] [] ++ []) (callEv [] [] (.v (.bool x2)) [])]) [2] [] (s1 := ⟨[(2, .v (.bool x2))], []⟩) (C := ((([.bs false 2 (List.map enc_si p1), .v (.int .i64 (-1000)), .v (.int .i64 1000)] : List AV) = [.bs false 2 (List.map enc_si p1), .v (.int .i64 (-1000)), .v (.int .i64 1000)]) ∧ True) ∧ True) (by kernel_rfl) ⟨⟨rfl, trivial⟩, trivial⟩ ⟨call_ok (ks := []) (ns := []) (bor := []) (bobjs := []) (s_impl_defsValid p1 (-1000) 1000 x2 e1) (.cons (.c1 (.c0 (.same _ (by kernel_rfl) (by kernel_rfl)))) (.cons (.c1 (.c0 (.same _ (by kernel_rfl) (by kernel_rfl)))) (.cons (.c1 (.c0 (.same _ (by kernel_rfl) (by kernel_rfl)))) (.nil)))) (by kernel_rfl) trivial, trivial⟩ ?_
  refine AX.ret ?_
  refine fin_wk (Wk.forget [2] [] (s' := ⟨[(2, .v (.bool x2))], []⟩) (by kernel_rfl)) ?_
  have hr := Option.some.inj h
  subst hr
  exact ⟨_, Wk.refl _, .inr rfl, ⟨[], by kernel_rfl, trivial, [.v (.bool x2)], by kernel_rfl, by kernel_rfl⟩⟩

theorem s_slices_Clone_si (p1 : List (ByteArray × Int)) (r : List (ByteArray × Int)) (h : m_slices_Clone_si p1 = some r) :
    Eng.Spec Tryd.prog 150 [.bs false 2 (List.map enc_si p1)] [] (.sl 0 0 r.length) [.arr 2 (List.map enc_si r)] := by
  unfold m_slices_Clone_si at h
  obtain ⟨g1, h⟩ := gd_e h
  have hr := Option.some.inj h
  subst hr
  refine Eng.Spec.body Tryd.func150 (by kernel_rfl) rfl (by kernel_rfl) ?_
  refine AX.wkpost ?_
  refine AX.seq ?_
  refine AX.reg (its := []) [0] [] (s1 := ⟨[(0, .bs false 2 (List.map enc_si p1))], []⟩) (C := True) (by kernel_rfl) trivial trivial ?_
  refine AX.nilEq (l := false) (sz := 2) (es := (List.map enc_si p1)) (s0 := (⟨[(2, .sl 1 0 p1.length)], [(1, .arr 2 (List.map enc_si p1))]⟩ : S)) .ret rfl rfl rfl rfl rfl rfl Tryd.underlying28 (by kernel_rfl) (by kernel_rfl) (by kernel_rfl) ⟨_, Wk.refl _, .inr rfl, ⟨[1], by kernel_rfl, ⟨rfl, trivial⟩, [.sl 1 0 p1.length], by kernel_rfl, by kernel_rfl⟩⟩ ?_
  intro b hb
  rcases bool_cases b with h1 | h1
  · subst h1
    have hp : p1 = [] := by simpa using hb rfl
    subst hp
    refine AX.condT true (by kernel_rfl) rfl ?_
    refine AX.seq ?_
    refine AX.reg (its := []) [2] [] (s1 := ⟨[(2, .v (.slice none 0 0))], []⟩) (C := True) (by kernel_rfl) trivial trivial ?_
    refine AX.wk (Wk.mat 2 1 2 (by kernel_rfl) (Nat.le_of_ble_eq_true (by kernel_rfl)) (by kernel_rfl) rfl) ?_
    refine AX.wk (Wk.forget [2] [1] (s' := ⟨[(2, .sl 1 0 0)], [(1, .arr 2 [])]⟩) (by kernel_rfl)) ?_
    exact AX.ret ⟨rfl, rfl⟩
  · subst h1
    refine AX.condF false (by kernel_rfl) rfl ?_
    refine AX.skip ?_
    refine AX.seq ?_
    refine AX.reg (its := [.auto { nk := 0 }, .auto {}, .auto { y := some (.sl 1 0 p1.length), nk := 1 }]) [2] [1] (s1 := ⟨[(2, .sl 1 0 p1.length)], [(1, .arr 2 (List.map enc_si p1))]⟩) (C := ((((True) ∧ (True)) ∧ (([] : List (List Value)).length + (List.map enc_si p1).length ≤ 1099511627776)) ∧ (AV.sl 1 0 (List.map enc_si p1).length = AV.sl 1 0 p1.length)) ∧ True) (by kernel_rfl) ⟨⟨⟨⟨trivial, trivial⟩, by simpa using g1⟩, sl_len (enc := enc_si) rfl⟩, trivial⟩ trivial ?_
    exact AX.ret ⟨rfl, rfl⟩

theorem s_impl_clone_si (p1 : List (ByteArray × Int)) (r : List (ByteArray × Int)) (h : m_impl_clone_si p1 = some r) :
    Eng.Spec Tryd.prog 135 [.bs false 2 (List.map enc_si p1)] [] (.sl 0 0 r.length) [.arr 2 (List.map enc_si r)] := by
  unfold m_impl_clone_si at h
  refine Eng.Spec.body Tryd.func135 (by kernel_rfl) rfl (by kernel_rfl) ?_
  refine AX.wkpost ?_
  refine AX.seq ?_
  refine AX.reg (its := []) [0] [] (s1 := ⟨[(0, .bs false 2 (List.map enc_si p1))], []⟩) (C := True) (by kernel_rfl) trivial trivial ?_
  refine AX.seq ?_
  obtain ⟨x2, e1, h⟩ := bd_e h
  obtain ⟨x3, e2, h⟩ := bd_e h
  refine AX.reg (its := [.auto {}, .call 150 [.bs false 2 (List.map enc_si p1)] (handO (rho ([] ++ [0])) [] [] ++ []) (callEv [] [0] (.sl 0 0 x2.length) [.arr 2 (List.map enc_si x2)]), .call 136 [.sl 0 0 x2.length] (handO (rho ([0] ++ [])) [0] [.arr 2 (List.map enc_si x2)] ++ []) (callEv [0] [] (.sl 0 0 x2.length) [.arr 2 (List.map enc_si x2)])]) [2] [0] (s1 := ⟨[(2, .sl 0 0 x2.length)], [(0, .arr 2 (List.map enc_si x2))]⟩) (C := ((([.bs false 2 (List.map enc_si p1)] : List AV) = [.bs false 2 (List.map enc_si p1)]) ∧ True) ∧ ((([.sl 0 0 x2.length] : List AV) = [.sl 0 0 x2.length]) ∧ (AO.arr 2 (List.map enc_si x2) = AO.arr 2 (List.map enc_si x2)) ∧ True) ∧ True) (by kernel_rfl) ⟨⟨rfl, trivial⟩, ⟨⟨rfl, rfl, trivial⟩, trivial⟩⟩ ⟨call_ok (ks := []) (ns := [0]) (bor := []) (bobjs := []) (s_slices_Clone_si p1 x2 e1) (.cons (.c1 (.c0 (.same _ (by kernel_rfl) (by kernel_rfl)))) (.nil)) (by kernel_rfl) trivial, ⟨call_ok (ks := [0]) (ns := []) (bor := []) (bobjs := []) (s_slices_Clip_hsi x2 x3 e2) (.cons (.c1 (.c0 (.same _ (by kernel_rfl) (by kernel_rfl)))) (.nil)) (by kernel_rfl) ⟨.inr rfl, trivial⟩, trivial⟩⟩ ?_
  refine AX.ret ?_
  refine fin_wk (Wk.forget [2] [0] (s' := ⟨[(2, .sl 0 0 x2.length)], [(0, .arr 2 (List.map enc_si x2))]⟩) (by kernel_rfl)) ?_
  have hr := Option.some.inj h
  subst hr
  exact ⟨_, Wk.refl _, .inr rfl, ⟨[0], by kernel_rfl, ⟨rfl, trivial⟩, [.sl 0 0 x2.length], by kernel_rfl, by kernel_rfl⟩⟩

theorem s_impl_enumOf (p1 : List (ByteArray × Int)) (p2 : Bool) (r : (List (ByteArray × Int)) × Bool) (h : m_impl_enumOf p1 p2 = some r) :
    Eng.Spec Tryd.prog 96 [.bs false 2 (List.map enc_si p1), .v (.bool p2)] [] (.tup [.agg [.sl 0 0 r.1.length], .v (.bool r.2)]) [.arr 2 (List.map enc_si r.1)] := by
  unfold m_impl_enumOf at h
  refine Eng.Spec.body Tryd.func96 (by kernel_rfl) rfl (by kernel_rfl) ?_
  refine AX.wkpost ?_
  refine AX.seq ?_
  refine AX.reg (its := [.auto { nk := 0 }]) [0, 1, 4] [0] (s1 := ⟨[(0, .bs false 2 (List.map enc_si p1)), (1, .v (.bool p2)), (4, .pt 0 0)], [(0, .box [.v (.slice none 0 0)])]⟩) (C := True) (by kernel_rfl) trivial trivial ?_
  refine AX.seq ?_
  refine AX.seq ?_
  rcases bool_cases ((!p2)) with b1 | b1
  · replace h := cd_t b1 h
    refine AX.reg (its := [.auto {}, .auto { y := some (.v (.bool true)) }]) [0, 4, 13] [0] (s1 := ⟨[(0, .bs false 2 (List.map enc_si p1)), (4, .pt 0 0), (13, .v (.bool true))], [(0, .box [.v (.slice none 0 0)])]⟩) (C := ((True) ∧ ((.v (.bool (!p2)) : AV) = (.v (.bool true) : AV))) ∧ True) (by kernel_rfl) ⟨⟨trivial, (congrArg (fun z => AV.v (.bool z)) b1)⟩, trivial⟩ trivial ?_
    refine AX.cond_true (by kernel_rfl) ?_
    refine AX.seq ?_
    refine AX.reg (its := []) [4, 5] [0] (s1 := ⟨[(4, .pt 0 0), (5, .v (.bool false))], [(0, .box [.v (.slice none 0 0)])]⟩) (C := True) (by kernel_rfl) trivial trivial ?_
    refine AX.ret ?_
    refine fin_wk (Wk.matB 0 0 1 2 (cs := [.v (.slice none 0 0)]) (by kernel_rfl) (by kernel_rfl) (Nat.le_of_ble_eq_true (by kernel_rfl)) (by kernel_rfl) (by decide) rfl) ?_
    refine fin_wk (Wk.forget [4, 5] [0, 1] (s' := ⟨[(4, .pt 0 0), (5, .v (.bool false))], [(0, .box [.sl 1 0 (([] : List (ByteArray × Int)).length)]), (1, .arr 2 (List.map enc_si ([] : List (ByteArray × Int))))]⟩) (by kernel_rfl)) ?_
    have hr := Option.some.inj h
    subst hr
    exact ⟨_, Wk.refl _, .inr rfl, ⟨[1], by kernel_rfl, ⟨rfl, trivial⟩, [.agg [.sl 1 0 (([] : List (ByteArray × Int)).length)], .v (.bool false)], by kernel_rfl, by kernel_rfl⟩⟩
  · replace h := cd_f b1 h
    obtain ⟨x3, e2, h⟩ := bd_e h
    refine AX.reg (its := [.auto {}, .auto { y := some (.v (.bool false)) }, .auto {}, .auto {}, .auto {}, .call 62 [.agg [.bs false 2 (List.map enc_si p1)]] (handO (rho ([] ++ [])) [] [] ++ []) (callEv [] [] (.v (.bool x3)) [])]) [0, 4, 13] [0] (s1 := ⟨[(0, .bs false 2 (List.map enc_si p1)), (4, .pt 0 0), (13, .v (.bool (!x3)))], [(0, .box [.v (.slice none 0 0)])]⟩) (C := ((True) ∧ ((.v (.bool (!p2)) : AV) = (.v (.bool false) : AV))) ∧ ((([.agg [.bs false 2 (List.map enc_si p1)]] : List AV) = [.agg [.bs false 2 (List.map enc_si p1)]]) ∧ True) ∧ True) (by kernel_rfl) ⟨⟨trivial, (congrArg (fun z => AV.v (.bool z)) b1)⟩, ⟨⟨rfl, trivial⟩, trivial⟩⟩ ⟨call_ok (ks := []) (ns := []) (bor := []) (bobjs := []) (s_impl_ValidEnum p1 x3 e2) (.cons (.c1 (.agg (.cons (.same _ (by kernel_rfl) (by kernel_rfl)) (.nil)))) (.nil)) (by kernel_rfl) trivial, trivial⟩ ?_
    rcases bool_cases ((!x3)) with b3 | b3
    · replace h := cd_t b3 h
      refine AX.condT ((!x3)) (by kernel_rfl) b3 ?_
      refine AX.seq ?_
      refine AX.reg (its := []) [4, 5] [0] (s1 := ⟨[(4, .pt 0 0), (5, .v (.bool false))], [(0, .box [.v (.slice none 0 0)])]⟩) (C := True) (by kernel_rfl) trivial trivial ?_
      refine AX.ret ?_
      refine fin_wk (Wk.matB 0 0 1 2 (cs := [.v (.slice none 0 0)]) (by kernel_rfl) (by kernel_rfl) (Nat.le_of_ble_eq_true (by kernel_rfl)) (by kernel_rfl) (by decide) rfl) ?_
      refine fin_wk (Wk.forget [4, 5] [0, 1] (s' := ⟨[(4, .pt 0 0), (5, .v (.bool false))], [(0, .box [.sl 1 0 (([] : List (ByteArray × Int)).length)]), (1, .arr 2 (List.map enc_si ([] : List (ByteArray × Int))))]⟩) (by kernel_rfl)) ?_
      have hr := Option.some.inj h
      subst hr
      exact ⟨_, Wk.refl _, .inr rfl, ⟨[1], by kernel_rfl, ⟨rfl, trivial⟩, [.agg [.sl 1 0 (([] : List (ByteArray × Int)).length)], .v (.bool false)], by kernel_rfl, by kernel_rfl⟩⟩
    · replace h := cd_f b3 h
      refine AX.condF ((!x3)) (by kernel_rfl) b3 ?_
      refine AX.skip ?_
      refine AX.seq ?_
      obtain ⟨x4, e4, h⟩ := bd_e h
      refine AX.reg (its := [.auto {}, .call 135 [.bs false 2 (List.map enc_si p1)] (handO (rho ([] ++ [1])) [] [] ++ []) (callEv [] [1] (.sl 0 0 x4.length) [.arr 2 (List.map enc_si x4)])]) [4, 5] [0, 1] (s1 := ⟨[(4, .pt 0 0), (5, .v (.bool true))], [(0, .box [.sl 1 0 x4.length]), (1, .arr 2 (List.map enc_si x4))]⟩) (C := ((([.bs false 2 (List.map enc_si p1)] : List AV) = [.bs false 2 (List.map enc_si p1)]) ∧ True) ∧ True) (by kernel_rfl) ⟨⟨rfl, trivial⟩, trivial⟩ ⟨call_ok (ks := []) (ns := [1]) (bor := []) (bobjs := []) (s_impl_clone_si p1 x4 e4) (.cons (.c1 (.c0 (.same _ (by kernel_rfl) (by kernel_rfl)))) (.nil)) (by kernel_rfl) trivial, trivial⟩ ?_
      refine AX.ret ?_
      refine fin_wk (Wk.forget [4, 5] [0, 1] (s' := ⟨[(4, .pt 0 0), (5, .v (.bool true))], [(0, .box [.sl 1 0 x4.length]), (1, .arr 2 (List.map enc_si x4))]⟩) (by kernel_rfl)) ?_
      have hr := Option.some.inj h
      subst hr
      exact ⟨_, Wk.refl _, .inr rfl, ⟨[1], by kernel_rfl, ⟨rfl, trivial⟩, [.agg [.sl 1 0 x4.length], .v (.bool true)], by kernel_rfl, by kernel_rfl⟩⟩

theorem s_impl_BuildEnum (p1 : List (ByteArray × Bool × Int)) (r : (List (ByteArray × Int)) × Bool) (h : m_impl_BuildEnum p1 = some r) :
    Eng.Spec Tryd.prog 48 [.bs false 3 (List.map enc_sbi p1)] [] (.tup [.agg [.sl 0 0 r.1.length], .v (.bool r.2)]) [.arr 2 (List.map enc_si r.1)] := by
  unfold m_impl_BuildEnum at h
  refine Eng.Spec.body Tryd.func48 (by kernel_rfl) rfl (by kernel_rfl) ?_
  refine AX.wkpost ?_
  refine AX.seq ?_
  refine AX.reg (its := [.auto { nk := 0 }]) [0, 2] [0] (s1 := ⟨[(0, .bs false 3 (List.map enc_sbi p1)), (2, .pt 0 0)], [(0, .box [.v (.slice none 0 0)])]⟩) (C := True) (by kernel_rfl) trivial trivial ?_
  refine AX.seq ?_
  refine AX.seq ?_
  refine AX.reg (its := [.auto {}, .auto { y := some (.v (.int .i64 (p1.length : Int))) }]) [0, 2, 6] [0] (s1 := ⟨[(0, .bs false 3 (List.map enc_sbi p1)), (2, .pt 0 0), (6, .v (.bool (decide (12 < (p1.length : Int)))))], [(0, .box [.v (.slice none 0 0)])]⟩) (C := (True ∧ (AV.v (.int .i64 ((List.map enc_sbi p1).length : Int)) = AV.v (.int .i64 (p1.length : Int)))) ∧ True) (by kernel_rfl) ⟨⟨trivial, len_map enc_sbi p1⟩, trivial⟩ trivial ?_
  rcases bool_cases (decide (12 < (p1.length : Int))) with b1 | b1
  · replace h := cd_t b1 h
    refine AX.condT (decide (12 < (p1.length : Int))) (by kernel_rfl) b1 ?_
    refine AX.seq ?_
    refine AX.reg (its := []) [2, 3] [0] (s1 := ⟨[(2, .pt 0 0), (3, .v (.bool false))], [(0, .box [.v (.slice none 0 0)])]⟩) (C := True) (by kernel_rfl) trivial trivial ?_
    refine AX.ret ?_
    refine fin_wk (Wk.matB 0 0 1 2 (cs := [.v (.slice none 0 0)]) (by kernel_rfl) (by kernel_rfl) (Nat.le_of_ble_eq_true (by kernel_rfl)) (by kernel_rfl) (by decide) rfl) ?_
    refine fin_wk (Wk.forget [2, 3] [0, 1] (s' := ⟨[(2, .pt 0 0), (3, .v (.bool false))], [(0, .box [.sl 1 0 (([] : List (ByteArray × Int)).length)]), (1, .arr 2 (List.map enc_si ([] : List (ByteArray × Int))))]⟩) (by kernel_rfl)) ?_
    have hr := Option.some.inj h
    subst hr
    exact ⟨_, Wk.refl _, .inr rfl, ⟨[1], by kernel_rfl, ⟨rfl, trivial⟩, [.agg [.sl 1 0 (([] : List (ByteArray × Int)).length)], .v (.bool false)], by kernel_rfl, by kernel_rfl⟩⟩
  · replace h := cd_f b1 h
    refine AX.condF (decide (12 < (p1.length : Int))) (by kernel_rfl) b1 ?_
    refine AX.skip ?_
    refine AX.seq ?_
    obtain ⟨x2, e2, h⟩ := bd_e h
    obtain ⟨x3, e3, h⟩ := bd_e h
    refine AX.reg (its := [.auto {}, .call 97 [.bs false 3 (List.map enc_sbi p1), .fn 98 []] (handO (rho ([] ++ [1])) [] [] ++ []) (callEv [] [1] (.tup [.sl 0 0 x2.1.length, .v (.bool x2.2)]) [.arr 2 (List.map enc_si x2.1)]), .auto {}, .auto {}, .call 96 [.sl 1 0 x2.1.length, .v (.bool x2.2)] (handO (rho ([] ++ [2])) [] [] ++ [(1, .arr 2 (List.map enc_si x2.1))]) (callEv [] [2] (.tup [.agg [.sl 0 0 x3.1.length], .v (.bool x3.2)]) [.arr 2 (List.map enc_si x3.1)])]) [2, 3] [0, 2] (s1 := ⟨[(2, .pt 0 0), (3, .v (.bool x3.2))], [(0, .box [.sl 2 0 x3.1.length]), (2, .arr 2 (List.map enc_si x3.1))]⟩) (C := ((([.bs false 3 (List.map enc_sbi p1), .fn 98 []] : List AV) = [.bs false 3 (List.map enc_sbi p1), .fn 98 []]) ∧ True) ∧ ((([.sl 1 0 x2.1.length, .v (.bool x2.2)] : List AV) = [.sl 1 0 x2.1.length, .v (.bool x2.2)]) ∧ (AO.arr 2 (List.map enc_si x2.1) = AO.arr 2 (List.map enc_si x2.1)) ∧ True) ∧ True) (by kernel_rfl) ⟨⟨rfl, trivial⟩, ⟨⟨rfl, rfl, trivial⟩, trivial⟩⟩ ⟨call_ok (ks := []) (ns := [1]) (bor := []) (bobjs := []) (s_impl_build_BuildEnum_1 p1 x2 e2) (.cons (.c1 (.c0 (.same _ (by kernel_rfl) (by kernel_rfl)))) (.cons (.fn (.nil)) (.nil))) (by kernel_rfl) trivial, ⟨call_ok (ks := []) (ns := [2]) (bor := [1]) (bobjs := [(1, .arr 2 (List.map enc_si x2.1))]) (s_impl_enumOf x2.1 x2.2 x3 e3) (.cons (.c1 (.c0 (.arr rfl rfl ((rfl).trans (List.length_map ..).symm)))) (.cons (.c1 (.c0 (.same _ (by kernel_rfl) (by kernel_rfl)))) (.nil))) (by kernel_rfl) trivial, trivial⟩⟩ ?_
    refine AX.ret ?_
    refine fin_wk (Wk.swap 1 2 (Nat.le_of_ble_eq_true (by kernel_rfl)) (Nat.le_of_ble_eq_true (by kernel_rfl)) rfl) ?_
    refine fin_wk (Wk.forget [2, 3] [0, 1] (s' := ⟨[(2, .pt 0 0), (3, .v (.bool x3.2))], [(0, .box [.sl 1 0 x3.1.length]), (1, .arr 2 (List.map enc_si x3.1))]⟩) (by kernel_rfl)) ?_
    have hr := Option.some.inj h
    subst hr
    exact ⟨_, Wk.refl _, .inr rfl, ⟨[1], by kernel_rfl, ⟨rfl, trivial⟩, [.agg [.sl 1 0 x3.1.length], .v (.bool x3.2)], by kernel_rfl, by kernel_rfl⟩⟩

theorem s_impl_ParseEnum (p1 : ByteArray) (r : (List (ByteArray × Int)) × Bool) (h : m_impl_ParseEnum p1 = some r) :
    Eng.Spec Tryd.prog 16 [.v (.string p1)] [] (.tup [.agg [.sl 0 0 r.1.length], .v (.bool r.2)]) [.arr 2 (List.map enc_si r.1)] := by
  unfold m_impl_ParseEnum at h
  refine Eng.Spec.body Tryd.func16 (by kernel_rfl) rfl (by kernel_rfl) ?_
  refine AX.wkpost ?_
  refine AX.seq ?_
  refine AX.reg (its := [.auto { nk := 0 }]) [0, 2] [0] (s1 := ⟨[(0, .v (.string p1)), (2, .pt 0 0)], [(0, .box [.v (.slice none 0 0)])]⟩) (C := True) (by kernel_rfl) trivial trivial ?_
  refine AX.seq ?_
  obtain ⟨x2, e1, h⟩ := bd_e h
  refine AX.reg (its := [.auto {}, .call 47 [.v (.string p1)] (handO (rho ([] ++ [1])) [] [] ++ []) (callEv [] [1] (.tup [.v (.string x2.1), .sl 0 0 x2.2.1.length, .v (.bool x2.2.2)]) [.arr 3 (List.map enc_sbi x2.2.1)])]) [2, 4, 5, 6] [0, 1] (s1 := ⟨[(2, .pt 0 0), (4, .v (.string x2.1)), (5, .sl 1 0 x2.2.1.length), (6, .v (.bool x2.2.2))], [(0, .box [.v (.slice none 0 0)]), (1, .arr 3 (List.map enc_sbi x2.2.1))]⟩) (C := ((([.v (.string p1)] : List AV) = [.v (.string p1)]) ∧ True) ∧ True) (by kernel_rfl) ⟨⟨rfl, trivial⟩, trivial⟩ ⟨call_ok (ks := []) (ns := [1]) (bor := []) (bobjs := []) (s_impl_readItems p1 x2 e1) (.cons (.c1 (.c0 (.same _ (by kernel_rfl) (by kernel_rfl)))) (.nil)) (by kernel_rfl) trivial, trivial⟩ ?_
  refine AX.seq ?_
  refine AX.seq ?_
  rcases bool_cases ((!x2.2.2)) with b2 | b2
  · replace h := cd_t b2 h
    refine AX.reg (its := [.auto {}, .auto { y := some (.v (.bool true)) }]) [2, 5, 18] [0, 1] (s1 := ⟨[(2, .pt 0 0), (5, .sl 1 0 x2.2.1.length), (18, .v (.bool true))], [(0, .box [.v (.slice none 0 0)]), (1, .arr 3 (List.map enc_sbi x2.2.1))]⟩) (C := ((True) ∧ ((.v (.bool (!x2.2.2)) : AV) = (.v (.bool true) : AV))) ∧ True) (by kernel_rfl) ⟨⟨trivial, (congrArg (fun z => AV.v (.bool z)) b2)⟩, trivial⟩ trivial ?_
    refine AX.cond_true (by kernel_rfl) ?_
    refine AX.seq ?_
    refine AX.reg (its := []) [2, 3] [0] (s1 := ⟨[(2, .pt 0 0), (3, .v (.bool false))], [(0, .box [.v (.slice none 0 0)])]⟩) (C := True) (by kernel_rfl) trivial trivial ?_
    refine AX.ret ?_
    refine fin_wk (Wk.matB 0 0 1 2 (cs := [.v (.slice none 0 0)]) (by kernel_rfl) (by kernel_rfl) (Nat.le_of_ble_eq_true (by kernel_rfl)) (by kernel_rfl) (by decide) rfl) ?_
    refine fin_wk (Wk.forget [2, 3] [0, 1] (s' := ⟨[(2, .pt 0 0), (3, .v (.bool false))], [(0, .box [.sl 1 0 (([] : List (ByteArray × Int)).length)]), (1, .arr 2 (List.map enc_si ([] : List (ByteArray × Int))))]⟩) (by kernel_rfl)) ?_
    have hr := Option.some.inj h
    subst hr
    exact ⟨_, Wk.refl _, .inr rfl, ⟨[1], by kernel_rfl, ⟨rfl, trivial⟩, [.agg [.sl 1 0 (([] : List (ByteArray × Int)).length)], .v (.bool false)], by kernel_rfl, by kernel_rfl⟩⟩
  · replace h := cd_f b2 h
    refine AX.reg (its := [.auto {}, .auto { y := some (.v (.bool false)) }]) [2, 5, 18] [0, 1] (s1 := ⟨[(2, .pt 0 0), (5, .sl 1 0 x2.2.1.length), (18, .v (.bool (!decide (x2.1 = (ByteArray.mk #[101, 110, 117, 109])))))], [(0, .box [.v (.slice none 0 0)]), (1, .arr 3 (List.map enc_sbi x2.2.1))]⟩) (C := ((True) ∧ ((.v (.bool (!x2.2.2)) : AV) = (.v (.bool false) : AV))) ∧ True) (by kernel_rfl) ⟨⟨trivial, (congrArg (fun z => AV.v (.bool z)) b2)⟩, trivial⟩ trivial ?_
    rcases bool_cases ((!decide (x2.1 = (ByteArray.mk #[101, 110, 117, 109])))) with b3 | b3
    · replace h := cd_t b3 h
      refine AX.condT ((!decide (x2.1 = (ByteArray.mk #[101, 110, 117, 109])))) (by kernel_rfl) b3 ?_
      refine AX.seq ?_
      refine AX.reg (its := []) [2, 3] [0] (s1 := ⟨[(2, .pt 0 0), (3, .v (.bool false))], [(0, .box [.v (.slice none 0 0)])]⟩) (C := True) (by kernel_rfl) trivial trivial ?_
      refine AX.ret ?_
      refine fin_wk (Wk.matB 0 0 1 2 (cs := [.v (.slice none 0 0)]) (by kernel_rfl) (by kernel_rfl) (Nat.le_of_ble_eq_true (by kernel_rfl)) (by kernel_rfl) (by decide) rfl) ?_
      refine fin_wk (Wk.forget [2, 3] [0, 1] (s' := ⟨[(2, .pt 0 0), (3, .v (.bool false))], [(0, .box [.sl 1 0 (([] : List (ByteArray × Int)).length)]), (1, .arr 2 (List.map enc_si ([] : List (ByteArray × Int))))]⟩) (by kernel_rfl)) ?_
      have hr := Option.some.inj h
      subst hr
      exact ⟨_, Wk.refl _, .inr rfl, ⟨[1], by kernel_rfl, ⟨rfl, trivial⟩, [.agg [.sl 1 0 (([] : List (ByteArray × Int)).length)], .v (.bool false)], by kernel_rfl, by kernel_rfl⟩⟩
    · replace h := cd_f b3 h
      refine AX.condF ((!decide (x2.1 = (ByteArray.mk #[101, 110, 117, 109])))) (by kernel_rfl) b3 ?_
      refine AX.skip ?_
      refine AX.seq ?_
      obtain ⟨x3, e4, h⟩ := bd_e h
      refine AX.reg (its := [.auto {}, .call 48 [.sl 1 0 x2.2.1.length] (handO (rho ([] ++ [2])) [] [] ++ [(1, .arr 3 (List.map enc_sbi x2.2.1))]) (callEv [] [2] (.tup [.agg [.sl 0 0 x3.1.length], .v (.bool x3.2)]) [.arr 2 (List.map enc_si x3.1)])]) [2, 3] [0, 2] (s1 := ⟨[(2, .pt 0 0), (3, .v (.bool x3.2))], [(0, .box [.sl 2 0 x3.1.length]), (2, .arr 2 (List.map enc_si x3.1))]⟩) (C := ((([.sl 1 0 x2.2.1.length] : List AV) = [.sl 1 0 x2.2.1.length]) ∧ (AO.arr 3 (List.map enc_sbi x2.2.1) = AO.arr 3 (List.map enc_sbi x2.2.1)) ∧ True) ∧ True) (by kernel_rfl) ⟨⟨rfl, rfl, trivial⟩, trivial⟩ ⟨call_ok (ks := []) (ns := [2]) (bor := [1]) (bobjs := [(1, .arr 3 (List.map enc_sbi x2.2.1))]) (s_impl_BuildEnum x2.2.1 x3 e4) (.cons (.c1 (.c0 (.arr rfl rfl ((rfl).trans (List.length_map ..).symm)))) (.nil)) (by kernel_rfl) trivial, trivial⟩ ?_
      refine AX.ret ?_
      refine fin_wk (Wk.swap 1 2 (Nat.le_of_ble_eq_true (by kernel_rfl)) (Nat.le_of_ble_eq_true (by kernel_rfl)) rfl) ?_
      refine fin_wk (Wk.forget [2, 3] [0, 1] (s' := ⟨[(2, .pt 0 0), (3, .v (.bool x3.2))], [(0, .box [.sl 1 0 x3.1.length]), (1, .arr 2 (List.map enc_si x3.1))]⟩) (by kernel_rfl)) ?_
      have hr := Option.some.inj h
      subst hr
      exact ⟨_, Wk.refl _, .inr rfl, ⟨[1], by kernel_rfl, ⟨rfl, trivial⟩, [.agg [.sl 1 0 x3.1.length], .v (.bool x3.2)], by kernel_rfl, by kernel_rfl⟩⟩

theorem s_laws_eqDef (p1 : ByteArray) (p2 : Int) (p3 : ByteArray) (p4 : Int) (r : Bool) (h : m_laws_eqDef p1 p2 p3 p4 = some r) :
    Eng.Spec Tryd.prog 90 [.agg [.v (.string p1), .v (.int .i64 p2)], .agg [.v (.string p3), .v (.int .i64 p4)]] [] (.v (.bool r)) [] := by
  unfold m_laws_eqDef at h
  refine Eng.Spec.body Tryd.func90 (by kernel_rfl) rfl (by kernel_rfl) ?_
  refine AX.wkpost ?_
  refine AX.seq ?_
  refine AX.reg (its := [.auto { nk := 0 }, .auto { nk := 1 }]) [2, 3] [0, 1] (s1 := ⟨[(2, .pt 0 0), (3, .pt 1 0)], [(0, .box [.v (.string p1), .v (.int .i64 p2)]), (1, .box [.v (.string p3), .v (.int .i64 p4)])]⟩) (C := True) (by kernel_rfl) trivial trivial ?_
  refine AX.seq ?_
  refine AX.seq ?_
  refine AX.reg (its := []) [2, 3, 9] [0, 1] (s1 := ⟨[(2, .pt 0 0), (3, .pt 1 0), (9, .v (.bool (!decide (p1 = p3))))], [(0, .box [.v (.string p1), .v (.int .i64 p2)]), (1, .box [.v (.string p3), .v (.int .i64 p4)])]⟩) (C := True) (by kernel_rfl) trivial trivial ?_
  rcases bool_cases ((!decide (p1 = p3))) with b1 | b1
  · replace h := cd_t b1 h
    refine AX.condT ((!decide (p1 = p3))) (by kernel_rfl) b1 ?_
    refine AX.seq ?_
    refine AX.reg (its := []) [4] [] (s1 := ⟨[(4, .v (.bool false))], []⟩) (C := True) (by kernel_rfl) trivial trivial ?_
    refine AX.ret ?_
    refine fin_wk (Wk.forget [4] [] (s' := ⟨[(4, .v (.bool false))], []⟩) (by kernel_rfl)) ?_
    have hr := Option.some.inj h
    subst hr
    exact ⟨_, Wk.refl _, .inr rfl, ⟨[], by kernel_rfl, trivial, [.v (.bool false)], by kernel_rfl, by kernel_rfl⟩⟩
  · replace h := cd_f b1 h
    refine AX.condF ((!decide (p1 = p3))) (by kernel_rfl) b1 ?_
    refine AX.skip ?_
    refine AX.seq ?_
    refine AX.seq ?_
    refine AX.reg (its := []) [14] [] (s1 := ⟨[(14, .v (.bool (!decide (p2 = p4))))], []⟩) (C := True) (by kernel_rfl) trivial trivial ?_
    rcases bool_cases ((!decide (p2 = p4))) with b2 | b2
    · replace h := cd_t b2 h
      refine AX.condT ((!decide (p2 = p4))) (by kernel_rfl) b2 ?_
      refine AX.seq ?_
      refine AX.reg (its := []) [4] [] (s1 := ⟨[(4, .v (.bool false))], []⟩) (C := True) (by kernel_rfl) trivial trivial ?_
      refine AX.ret ?_
      refine fin_wk (Wk.forget [4] [] (s' := ⟨[(4, .v (.bool false))], []⟩) (by kernel_rfl)) ?_
      have hr := Option.some.inj h
      subst hr
      exact ⟨_, Wk.refl _, .inr rfl, ⟨[], by kernel_rfl, trivial, [.v (.bool false)], by kernel_rfl, by kernel_rfl⟩⟩
    · replace h := cd_f b2 h
      refine AX.condF ((!decide (p2 = p4))) (by kernel_rfl) b2 ?_
      refine AX.skip ?_
      refine AX.seq ?_
      refine AX.reg (its := []) [4] [] (s1 := ⟨[(4, .v (.bool true))], []⟩) (C := True) (by kernel_rfl) trivial trivial ?_
      refine AX.ret ?_
      refine fin_wk (Wk.forget [4] [] (s' := ⟨[(4, .v (.bool true))], []⟩) (by kernel_rfl)) ?_
      have hr := Option.some.inj h
      subst hr
      exact ⟨_, Wk.refl _, .inr rfl, ⟨[], by kernel_rfl, trivial, [.v (.bool true)], by kernel_rfl, by kernel_rfl⟩⟩

theorem s_laws_eqDefS_L1 (p1 : List (ByteArray × Int)) (p2 : List (ByteArray × Int)) (n : Nat) (g : Int) (out : Unit ⊕ Unit) (h : m_laws_eqDefS_L1 p1 p2 n g = some out) :
    AX Tryd.prog 27 0 (codeAt [1, 1, 0, 1, 1] (bodyOf Tryd.f44)) ((fun g : Int => (⟨[(0, .bs false 2 (List.map enc_si p1)), (1, .bs false 2 (List.map enc_si p2)), (5, .v (.int .i64 g))], []⟩ : S)) g) (fun ex s => (∃ o : Unit, out = Sum.inl o ∧ ex = .ret ∧ s = ⟨[(4, .v (.bool false))], []⟩) ∨ (∃ o : Unit, out = Sum.inr o ∧ ex = .exit 0 ∧ s = ⟨[], []⟩)) := by
  refine AX.wkpost ?_
  refine AX.loop (G := Nat × (Int)) (fun q => (fun g : Int => (⟨[(0, .bs false 2 (List.map enc_si p1)), (1, .bs false 2 (List.map enc_si p2)), (5, .v (.int .i64 g))], []⟩ : S)) q.2) (fun q => m_laws_eqDefS_L1 p1 p2 q.1 q.2 = some out) (fun q => q.1) (n, g) h (Wk.refl _) ?_
  clear h
  rintro ⟨fu, v3⟩ h
  cases fu with
  | zero => cases h
  | succ fu =>
    rw [m_laws_eqDefS_L1] at h
    refine AX.seq ?_
    refine AX.seq ?_
    refine AX.reg (its := [.auto {}, .auto {}, .auto { y := some (.v (.int .i64 (p1.length : Int))) }]) [0, 1, 5, 14] [] (s1 := ⟨[(0, .bs false 2 (List.map enc_si p1)), (1, .bs false 2 (List.map enc_si p2)), (5, .v (.int .i64 v3)), (14, .v (.bool (decide (v3 < (p1.length : Int)))))], []⟩) (C := (True ∧ (AV.v (.int .i64 ((List.map enc_si p1).length : Int)) = AV.v (.int .i64 (p1.length : Int)))) ∧ True) (by kernel_rfl) ⟨⟨trivial, len_map enc_si p1⟩, trivial⟩ trivial ?_
    rcases bool_cases (decide (v3 < (p1.length : Int))) with b2 | b2
    · replace h := cd_t b2 h
      refine AX.condT (decide (v3 < (p1.length : Int))) (by kernel_rfl) b2 ?_
      refine AX.skip ?_
      refine AX.seq ?_
      refine AX.block ?_
      refine AX.seq ?_
      obtain ⟨g3, h⟩ := gd_e h
      obtain ⟨g4, h⟩ := gd_e h
      obtain ⟨x4, e5, h⟩ := bd_e h
      refine AX.drw mixed (its := [.auto {}, .auto {}, .auto { y := some (.be 2 (enc_si (gt p1 v3)) 0) }, .auto {}, .auto {}, .auto {}, .auto { y := some (.be 2 (enc_si (gt p2 v3)) 0) }, .auto {}, .call 90 [.agg [.v (.string ((gt p1 v3).1)), .v (.int .i64 ((gt p1 v3).2))], .agg [.v (.string ((gt p2 v3).1)), .v (.int .i64 ((gt p2 v3).2))]] (handO (rho ([] ++ [])) [] [] ++ []) (callEv [] [] (.v (.bool x4)) [])]) [0, 1, 5, 26] [] (s1 := ⟨[(0, .bs false 2 (List.map enc_si p1)), (1, .bs false 2 (List.map enc_si p2)), (5, .v (.int .i64 v3)), (26, .v (.bool (!x4)))], []⟩) (C := ((0 ≤ v3 ∧ v3 < ((List.map enc_si p1).length : Int)) ∧ (AV.be 2 ((List.map enc_si p1).getD v3.toNat []) 0 = AV.be 2 (enc_si (gt p1 v3)) 0)) ∧ ((0 ≤ v3 ∧ v3 < ((List.map enc_si p2).length : Int)) ∧ (AV.be 2 ((List.map enc_si p2).getD v3.toNat []) 0 = AV.be 2 (enc_si (gt p2 v3)) 0)) ∧ ((([.agg [.v (.string ((gt p1 v3).1)), .v (.int .i64 ((gt p1 v3).2))], .agg [.v (.string ((gt p2 v3).1)), .v (.int .i64 ((gt p2 v3).2))]] : List AV) = [.agg [.v (.string ((gt p1 v3).1)), .v (.int .i64 ((gt p1 v3).2))], .agg [.v (.string ((gt p2 v3).1)), .v (.int .i64 ((gt p2 v3).2))]]) ∧ True) ∧ True) (by kernel_rfl) ⟨idx_bs enc_si p1 v3 2 g3, ⟨idx_bs enc_si p2 v3 2 g4, ⟨⟨rfl, trivial⟩, trivial⟩⟩⟩ ⟨call_ok (ks := []) (ns := []) (bor := []) (bobjs := []) (s_laws_eqDef ((gt p1 v3).1) ((gt p1 v3).2) ((gt p2 v3).1) ((gt p2 v3).2) x4 e5) (.cons (.c1 (.agg (.cons (.same _ (by kernel_rfl) (by kernel_rfl)) (.cons (.same _ (by kernel_rfl) (by kernel_rfl)) (.nil))))) (.cons (.c1 (.agg (.cons (.same _ (by kernel_rfl) (by kernel_rfl)) (.cons (.same _ (by kernel_rfl) (by kernel_rfl)) (.nil))))) (.nil))) (by kernel_rfl) trivial, trivial⟩ ?_
      rcases bool_cases ((!x4)) with b6 | b6
      · replace h := cd_t b6 h
        refine AX.condT ((!x4)) (by kernel_rfl) b6 ?_
        refine AX.seq ?_
        refine AX.reg (its := []) [4] [] (s1 := ⟨[(4, .v (.bool false))], []⟩) (C := True) (by kernel_rfl) trivial trivial ?_
        refine AX.ret ?_
        refine fin_wk (Wk.forget [4] [] (s' := ⟨[(4, .v (.bool false))], []⟩) (by kernel_rfl)) ?_
        have hr := Option.some.inj h
        subst hr
        exact ⟨_, Wk.refl _, .inl ⟨(), rfl, rfl, rfl⟩⟩
      · replace h := cd_f b6 h
        refine AX.condF ((!x4)) (by kernel_rfl) b6 ?_
        refine AX.skip ?_
        refine AX.reg (its := [.auto {}, .auto { raw := true }]) [0, 1, 5] [] (s1 := ⟨[(0, .bs false 2 (List.map enc_si p1)), (1, .bs false 2 (List.map enc_si p2)), (5, .v (.int .i64 (IntKind.wrap .i64 (v3 + 1))))], []⟩) (C := True) (by kernel_rfl) trivial trivial ?_
        refine ⟨(fu, IntKind.wrap .i64 (v3 + 1)), h, Nat.lt_succ_self _, ?_⟩
        refine Wk.trans (Wk.forget [0, 1, 5] [] (s' := ⟨[(0, .bs false 2 (List.map enc_si p1)), (1, .bs false 2 (List.map enc_si p2)), (5, .v (.int .i64 (IntKind.wrap .i64 (v3 + 1))))], []⟩) (by kernel_rfl)) ?_
        exact Wk.refl _
    · replace h := cd_f b2 h
      refine AX.condF (decide (v3 < (p1.length : Int))) (by kernel_rfl) b2 ?_
      refine AX.exit ?_
      refine fin_wk (Wk.forget [] [] (s' := ⟨[], []⟩) (by kernel_rfl)) ?_
      have hr := Option.some.inj h
      subst hr
      exact ⟨_, Wk.refl _, .inr ⟨(), rfl, rfl, rfl⟩⟩

theorem s_laws_eqDefS (p1 : List (ByteArray × Int)) (p2 : List (ByteArray × Int)) (r : Bool) (h : m_laws_eqDefS p1 p2 = some r) :
    Eng.Spec Tryd.prog 44 [.bs false 2 (List.map enc_si p1), .bs false 2 (List.map enc_si p2)] [] (.v (.bool r)) [] := by
  unfold m_laws_eqDefS at h
  refine Eng.Spec.body Tryd.func44 (by kernel_rfl) rfl (by kernel_rfl) ?_
  refine AX.wkpost ?_
  refine AX.seq ?_
  refine AX.reg (its := []) [0, 1] [] (s1 := ⟨[(0, .bs false 2 (List.map enc_si p1)), (1, .bs false 2 (List.map enc_si p2))], []⟩) (C := True) (by kernel_rfl) trivial trivial ?_
  refine AX.seq ?_
  refine AX.seq ?_
  refine AX.reg (its := [.auto {}, .auto { y := some (.v (.int .i64 (p1.length : Int))) }, .auto {}, .auto { y := some (.v (.int .i64 (p2.length : Int))) }]) [0, 1, 10] [] (s1 := ⟨[(0, .bs false 2 (List.map enc_si p1)), (1, .bs false 2 (List.map enc_si p2)), (10, .v (.bool (!decide ((p1.length : Int) = (p2.length : Int)))))], []⟩) (C := (True ∧ (AV.v (.int .i64 ((List.map enc_si p1).length : Int)) = AV.v (.int .i64 (p1.length : Int)))) ∧ (True ∧ (AV.v (.int .i64 ((List.map enc_si p2).length : Int)) = AV.v (.int .i64 (p2.length : Int)))) ∧ True) (by kernel_rfl) ⟨⟨trivial, len_map enc_si p1⟩, ⟨⟨trivial, len_map enc_si p2⟩, trivial⟩⟩ trivial ?_
  rcases bool_cases ((!decide ((p1.length : Int) = (p2.length : Int)))) with b1 | b1
  · replace h := cd_t b1 h
    refine AX.condT ((!decide ((p1.length : Int) = (p2.length : Int)))) (by kernel_rfl) b1 ?_
    refine AX.seq ?_
    refine AX.reg (its := []) [4] [] (s1 := ⟨[(4, .v (.bool false))], []⟩) (C := True) (by kernel_rfl) trivial trivial ?_
    refine AX.ret ?_
    refine fin_wk (Wk.forget [4] [] (s' := ⟨[(4, .v (.bool false))], []⟩) (by kernel_rfl)) ?_
    have hr := Option.some.inj h
    subst hr
    exact ⟨_, Wk.refl _, .inr rfl, ⟨[], by kernel_rfl, trivial, [.v (.bool false)], by kernel_rfl, by kernel_rfl⟩⟩
  · replace h := cd_f b1 h
    refine AX.condF ((!decide ((p1.length : Int) = (p2.length : Int)))) (by kernel_rfl) b1 ?_
    refine AX.skip ?_
    refine AX.seq ?_
    refine AX.seq ?_
    refine AX.reg (its := []) [0, 1, 5] [] (s1 := ⟨[(0, .bs false 2 (List.map enc_si p1)), (1, .bs false 2 (List.map enc_si p2)), (5, .v (.int .i64 0))], []⟩) (C := True) (by kernel_rfl) trivial trivial ?_
    refine AX.block ?_
    obtain ⟨x5, e7, h⟩ := bd_e h
    refine AX.wk (Wk.forget [0, 1, 5] [] (s' := ⟨[(0, .bs false 2 (List.map enc_si p1)), (1, .bs false 2 (List.map enc_si p2)), (5, .v (.int .i64 0))], []⟩) (by kernel_rfl)) ?_
    refine AX.mono (s_laws_eqDefS_L1 p1 p2 FU 0 x5 e7) ?_
    rintro _ _ (⟨x6, rfl, rfl, rfl⟩ | ⟨x7, rfl, rfl, rfl⟩)
    · replace h := sm_l h
      refine fin_wk (Wk.forget [4] [] (s' := ⟨[(4, .v (.bool false))], []⟩) (by kernel_rfl)) ?_
      have hr := Option.some.inj h
      subst hr
      exact ⟨_, Wk.refl _, .inr rfl, ⟨[], by kernel_rfl, trivial, [.v (.bool false)], by kernel_rfl, by kernel_rfl⟩⟩
    · replace h := sm_r h
      refine AX.seq ?_
      refine AX.reg (its := []) [4] [] (s1 := ⟨[(4, .v (.bool true))], []⟩) (C := True) (by kernel_rfl) trivial trivial ?_
      refine AX.ret ?_
      refine fin_wk (Wk.forget [4] [] (s' := ⟨[(4, .v (.bool true))], []⟩) (by kernel_rfl)) ?_
      have hr := Option.some.inj h
      subst hr
      exact ⟨_, Wk.refl _, .inr rfl, ⟨[], by kernel_rfl, trivial, [.v (.bool true)], by kernel_rfl, by kernel_rfl⟩⟩

theorem s_laws_eqEnum (p1 : List (ByteArray × Int)) (p2 : List (ByteArray × Int)) (r : Bool) (h : m_laws_eqEnum p1 p2 = some r) :
    Eng.Spec Tryd.prog 17 [.agg [.bs false 2 (List.map enc_si p1)], .agg [.bs false 2 (List.map enc_si p2)]] [] (.v (.bool r)) [] := by
  unfold m_laws_eqEnum at h
  refine Eng.Spec.body Tryd.func17 (by kernel_rfl) rfl (by kernel_rfl) ?_
  refine AX.wkpost ?_
  refine AX.seq ?_
  refine AX.reg (its := [.auto { nk := 0 }, .auto { nk := 1 }]) [2, 3] [0, 1] (s1 := ⟨[(2, .pt 0 0), (3, .pt 1 0)], [(0, .box [.bs false 2 (List.map enc_si p1)]), (1, .box [.bs false 2 (List.map enc_si p2)])]⟩) (C := True) (by kernel_rfl) trivial trivial ?_
  refine AX.seq ?_
  refine AX.seq ?_
  obtain ⟨x3, e1, h⟩ := bd_e h
  refine AX.reg (its := [.auto {}, .auto {}, .auto {}, .auto {}, .call 44 [.bs false 2 (List.map enc_si p1), .bs false 2 (List.map enc_si p2)] (handO (rho ([] ++ [])) [] [] ++ []) (callEv [] [] (.v (.bool x3)) [])]) [10] [] (s1 := ⟨[(10, .v (.bool (!x3)))], []⟩) (C := ((([.bs false 2 (List.map enc_si p1), .bs false 2 (List.map enc_si p2)] : List AV) = [.bs false 2 (List.map enc_si p1), .bs false 2 (List.map enc_si p2)]) ∧ True) ∧ True) (by kernel_rfl) ⟨⟨rfl, trivial⟩, trivial⟩ ⟨call_ok (ks := []) (ns := []) (bor := []) (bobjs := []) (s_laws_eqDefS p1 p2 x3 e1) (.cons (.c1 (.c0 (.same _ (by kernel_rfl) (by kernel_rfl)))) (.cons (.c1 (.c0 (.same _ (by kernel_rfl) (by kernel_rfl)))) (.nil))) (by kernel_rfl) trivial, trivial⟩ ?_
  rcases bool_cases ((!x3)) with b2 | b2
  · replace h := cd_t b2 h
    refine AX.condT ((!x3)) (by kernel_rfl) b2 ?_
    refine AX.seq ?_
    refine AX.reg (its := []) [4] [] (s1 := ⟨[(4, .v (.bool false))], []⟩) (C := True) (by kernel_rfl) trivial trivial ?_
    refine AX.ret ?_
    refine fin_wk (Wk.forget [4] [] (s' := ⟨[(4, .v (.bool false))], []⟩) (by kernel_rfl)) ?_
    have hr := Option.some.inj h
    subst hr
    exact ⟨_, Wk.refl _, .inr rfl, ⟨[], by kernel_rfl, trivial, [.v (.bool false)], by kernel_rfl, by kernel_rfl⟩⟩
  · replace h := cd_f b2 h
    refine AX.condF ((!x3)) (by kernel_rfl) b2 ?_
    refine AX.skip ?_
    refine AX.seq ?_
    refine AX.reg (its := []) [4] [] (s1 := ⟨[(4, .v (.bool true))], []⟩) (C := True) (by kernel_rfl) trivial trivial ?_
    refine AX.ret ?_
    refine fin_wk (Wk.forget [4] [] (s' := ⟨[(4, .v (.bool true))], []⟩) (by kernel_rfl)) ?_
    have hr := Option.some.inj h
    subst hr
    exact ⟨_, Wk.refl _, .inr rfl, ⟨[], by kernel_rfl, trivial, [.v (.bool true)], by kernel_rfl, by kernel_rfl⟩⟩

theorem s_laws_markText_L1  (n : Nat) (g : Int × ByteArray) (out : ByteArray) (h : m_laws_markText_L1 n g.1 g.2 = some out) :
    AX Tryd.prog 20 0 (codeAt [1, 1, 1, 0, 1] (bodyOf Tryd.f100)) ((fun g : Int × ByteArray => (⟨[(0, .v (.int .i64 g.1)), (3, .v (.string g.2))], []⟩ : S)) g) (fun ex s => ex = .exit 0 ∧ s = (fun o : ByteArray => (⟨[(3, .v (.string o))], []⟩ : S)) out) := by
  refine AX.wkpost ?_
  refine AX.loop (G := Nat × (Int × ByteArray)) (fun q => (fun g : Int × ByteArray => (⟨[(0, .v (.int .i64 g.1)), (3, .v (.string g.2))], []⟩ : S)) q.2) (fun q => m_laws_markText_L1 q.1 q.2.1 q.2.2 = some out) (fun q => q.1) (n, g) h (Wk.refl _) ?_
  clear h
  rintro ⟨fu, v2, v3⟩ h
  cases fu with
  | zero => cases h
  | succ fu =>
    rw [m_laws_markText_L1] at h
    refine AX.seq ?_
    refine AX.seq ?_
    refine AX.reg (its := []) [0, 3, 7] [] (s1 := ⟨[(0, .v (.int .i64 v2)), (3, .v (.string v3)), (7, .v (.bool (decide (0 < v2))))], []⟩) (C := True) (by kernel_rfl) trivial trivial ?_
    rcases bool_cases (decide (0 < v2)) with b2 | b2
    · replace h := cd_t b2 h
      refine AX.condT (decide (0 < v2)) (by kernel_rfl) b2 ?_
      refine AX.skip ?_
      refine AX.block ?_
      refine AX.seq ?_
      obtain ⟨g3, h⟩ := gd_e h
      obtain ⟨v4, q4, h⟩ := nm_e h
      obtain ⟨g5, h⟩ := gd_e h
      refine AX.reg (its := [.auto {}, .auto {}, .auto { raw := true }, .auto { raw := true }, .auto { nk := 0 }, .auto { y := some (.v (.string v4)) }]) [0, 3] [] (s1 := ⟨[(0, .v (.int .i64 v2)), (3, .v (.string (v4 ++ v3)))], []⟩) (C := ((10 : Int) ≠ 0) ∧ ((True) ∧ ((.v (.string (bstr ([IntKind.wrap .u8 (IntKind.wrap .i64 (48 + (Int.tmod v2 10)))] : List (Int)))) : AV) = (.v (.string v4) : AV))) ∧ (v4.size + v3.size ≤ 9223372036854775807) ∧ True) (by kernel_rfl) ⟨g3, ⟨⟨trivial, (congrArg (fun z => AV.v (.string z)) q4)⟩, ⟨g5, trivial⟩⟩⟩ trivial ?_
      obtain ⟨g6, h⟩ := gd_e h
      refine AX.reg (its := []) [0, 3] [] (s1 := ⟨[(0, .v (.int .i64 (Int.tdiv v2 10))), (3, .v (.string (v4 ++ v3)))], []⟩) (C := ((10 : Int) ≠ 0 ∧ IntKind.wrap .i64 (Int.tdiv v2 10) = Int.tdiv v2 10) ∧ True) (by kernel_rfl) ⟨g6, trivial⟩ trivial ?_
      refine ⟨(fu, (Int.tdiv v2 10, v4 ++ v3)), h, Nat.lt_succ_self _, ?_⟩
      refine Wk.trans (Wk.forget [0, 3] [] (s' := ⟨[(0, .v (.int .i64 (Int.tdiv v2 10))), (3, .v (.string (v4 ++ v3)))], []⟩) (by kernel_rfl)) ?_
      exact Wk.refl _
    · replace h := cd_f b2 h
      refine AX.condF (decide (0 < v2)) (by kernel_rfl) b2 ?_
      refine AX.exit ?_
      refine fin_wk (Wk.forget [3] [] (s' := ⟨[(3, .v (.string v3))], []⟩) (by kernel_rfl)) ?_
      have hr := Option.some.inj h
      subst hr
      exact ⟨_, Wk.refl _, ⟨rfl, rfl⟩⟩

theorem s_laws_markText (p1 : Int) (r : ByteArray) (h : m_laws_markText p1 = some r) :
    Eng.Spec Tryd.prog 100 [.v (.int .i64 p1)] [] (.v (.string r)) [] := by
  unfold m_laws_markText at h
  refine Eng.Spec.body Tryd.func100 (by kernel_rfl) rfl (by kernel_rfl) ?_
  refine AX.wkpost ?_
  refine AX.seq ?_
  refine AX.reg (its := []) [0] [] (s1 := ⟨[(0, .v (.int .i64 p1))], []⟩) (C := True) (by kernel_rfl) trivial trivial ?_
  refine AX.seq ?_
  refine AX.seq ?_
  refine AX.reg (its := []) [0, 5] [] (s1 := ⟨[(0, .v (.int .i64 p1)), (5, .v (.bool (decide (p1 ≤ 0))))], []⟩) (C := True) (by kernel_rfl) trivial trivial ?_
  rcases bool_cases (decide (p1 ≤ 0)) with b1 | b1
  · replace h := cd_t b1 h
    refine AX.condT (decide (p1 ≤ 0)) (by kernel_rfl) b1 ?_
    refine AX.seq ?_
    refine AX.reg (its := []) [2] [] (s1 := ⟨[(2, .v (.string (ByteArray.mk #[109, 48])))], []⟩) (C := True) (by kernel_rfl) trivial trivial ?_
    refine AX.ret ?_
    refine fin_wk (Wk.forget [2] [] (s' := ⟨[(2, .v (.string (ByteArray.mk #[109, 48])))], []⟩) (by kernel_rfl)) ?_
    have hr := Option.some.inj h
    subst hr
    exact ⟨_, Wk.refl _, .inr rfl, ⟨[], by kernel_rfl, trivial, [.v (.string (ByteArray.mk #[109, 48]))], by kernel_rfl, by kernel_rfl⟩⟩
  · replace h := cd_f b1 h
    refine AX.condF (decide (p1 ≤ 0)) (by kernel_rfl) b1 ?_
    refine AX.skip ?_
    refine AX.seq ?_
    refine AX.reg (its := []) [0, 3] [] (s1 := ⟨[(0, .v (.int .i64 p1)), (3, .v (.string ByteArray.empty))], []⟩) (C := True) (by kernel_rfl) trivial trivial ?_
    refine AX.seq ?_
    refine AX.block ?_
    obtain ⟨x5, e7, h⟩ := bd_e h
    refine AX.wk (Wk.forget [0, 3] [] (s' := ⟨[(0, .v (.int .i64 p1)), (3, .v (.string ByteArray.empty))], []⟩) (by kernel_rfl)) ?_
    refine AX.mono (s_laws_markText_L1  FU (p1, ByteArray.empty) x5 e7) ?_
    rintro _ _ ⟨rfl, rfl⟩
    skip
    refine AX.seq ?_
    obtain ⟨g8, h⟩ := gd_e h
    refine AX.reg (its := []) [2] [] (s1 := ⟨[(2, .v (.string ((ByteArray.mk #[109]) ++ x5)))], []⟩) (C := ((ByteArray.mk #[109]).size + x5.size ≤ 9223372036854775807) ∧ True) (by kernel_rfl) ⟨g8, trivial⟩ trivial ?_
    refine AX.ret ?_
    refine fin_wk (Wk.forget [2] [] (s' := ⟨[(2, .v (.string ((ByteArray.mk #[109]) ++ x5)))], []⟩) (by kernel_rfl)) ?_
    have hr := Option.some.inj h
    subst hr
    exact ⟨_, Wk.refl _, .inr rfl, ⟨[], by kernel_rfl, trivial, [.v (.string ((ByteArray.mk #[109]) ++ x5))], by kernel_rfl, by kernel_rfl⟩⟩

theorem s_laws_markDefS_h_L1  (n : Nat) (g : Int × Int × (List (ByteArray × Int))) (out : Int × (List (ByteArray × Int))) (h : m_laws_markDefS_h_L1 n g.1 g.2.1 g.2.2 = some out) :
    AX Tryd.prog 28 1 (codeAt [1, 0, 1, 1] (bodyOf Tryd.f49)) ((fun g : Int × Int × (List (ByteArray × Int)) => (⟨[(0, .sl 0 0 g.2.2.length), (1, .v (.int .i64 g.1)), (5, .v (.int .i64 g.2.1))], [(0, .arr 2 (List.map enc_si g.2.2))]⟩ : S)) g) (fun ex s => ex = .exit 0 ∧ s = (fun o : Int × (List (ByteArray × Int)) => (⟨[(1, .v (.int .i64 o.1))], [(0, .arr 2 (List.map enc_si o.2))]⟩ : S)) out) := by
  refine AX.wkpost ?_
  refine AX.loop (G := Nat × (Int × Int × (List (ByteArray × Int)))) (fun q => (fun g : Int × Int × (List (ByteArray × Int)) => (⟨[(0, .sl 0 0 g.2.2.length), (1, .v (.int .i64 g.1)), (5, .v (.int .i64 g.2.1))], [(0, .arr 2 (List.map enc_si g.2.2))]⟩ : S)) q.2) (fun q => m_laws_markDefS_h_L1 q.1 q.2.1 q.2.2.1 q.2.2.2 = some out) (fun q => q.1) (n, g) h (Wk.refl _) ?_
  clear h
  rintro ⟨fu, v3, v4, v5⟩ h
  cases fu with
  | zero => cases h
  | succ fu =>
    rw [m_laws_markDefS_h_L1] at h
    refine AX.seq ?_
    refine AX.seq ?_
    refine AX.reg (its := []) [0, 1, 5, 9] [0] (s1 := ⟨[(0, .sl 0 0 v5.length), (1, .v (.int .i64 v3)), (5, .v (.int .i64 v4)), (9, .v (.bool (decide (v4 < (v5.length : Int)))))], [(0, .arr 2 (List.map enc_si v5))]⟩) (C := True) (by kernel_rfl) trivial trivial ?_
    rcases bool_cases (decide (v4 < (v5.length : Int))) with b1 | b1
    · replace h := cd_t b1 h
      refine AX.condT (decide (v4 < (v5.length : Int))) (by kernel_rfl) b1 ?_
      refine AX.skip ?_
      refine AX.seq ?_
      refine AX.block ?_
      refine AX.seq ?_
      obtain ⟨x6, e2, h⟩ := bd_e h
      obtain ⟨g3, h⟩ := gd_e h
      refine AX.reg (its := [.auto {}, .auto {}, .auto {}, .call 100 [.v (.int .i64 v3)] (handO (rho ([] ++ [])) [] [] ++ []) (callEv [] [] (.v (.string x6)) []), .auto {}, .auto {}, .auto { els := some ([enc_si (x6, (gt v5 v4).2)]) }]) [0, 1, 5] [0] (s1 := ⟨[(0, .sl 0 0 v5.length), (1, .v (.int .i64 v3)), (5, .v (.int .i64 v4))], [(0, .arr 2 ((List.map enc_si v5).set (0 + v4.toNat) (enc_si (x6, (gt v5 v4).2))))]⟩) (C := ((([.v (.int .i64 v3)] : List AV) = [.v (.int .i64 v3)]) ∧ True) ∧ (0 ≤ v4 ∧ v4 < (v5.length : Int)) ∧ ((((List.map enc_si v5).getD (0 + v4.toNat) []).take 0 ++ [(.string x6)] ++ ((List.map enc_si v5).getD (0 + v4.toNat) []).drop 1 = enc_si (x6, (gt v5 v4).2))) ∧ True) (by kernel_rfl) ⟨⟨rfl, trivial⟩, ⟨g3, ⟨(congrArg (fun z : List Value => z.take 0 ++ [(.string x6)] ++ z.drop 1) (idx_arr (enc := enc_si) rfl g3)), trivial⟩⟩⟩ ⟨call_ok (ks := []) (ns := []) (bor := []) (bobjs := []) (s_laws_markText v3 x6 e2) (.cons (.c1 (.c0 (.same _ (by kernel_rfl) (by kernel_rfl)))) (.nil)) (by kernel_rfl) trivial, trivial⟩ ?_
      refine AX.seq ?_
      refine AX.reg (its := [.auto {}, .auto { raw := true }]) [0, 1, 5] [0] (s1 := ⟨[(0, .sl 0 0 v5.length), (1, .v (.int .i64 (IntKind.wrap .i64 (v3 + 1)))), (5, .v (.int .i64 v4))], [(0, .arr 2 ((List.map enc_si v5).set (0 + v4.toNat) (enc_si (x6, (gt v5 v4).2))))]⟩) (C := True) (by kernel_rfl) trivial trivial ?_
      refine AX.seq ?_
      refine AX.reg (its := [.auto {}, .auto {}, .auto {}, .auto {}, .auto {}, .auto { els := some ([enc_si ((gt (v5.set (0 + v4.toNat) (x6, (gt v5 v4).2)) v4).1, IntKind.wrap .i64 (v3 + 1))]) }]) [0, 1, 5] [0] (s1 := ⟨[(0, .sl 0 0 v5.length), (1, .v (.int .i64 (IntKind.wrap .i64 (v3 + 1)))), (5, .v (.int .i64 v4))], [(0, .arr 2 (((List.map enc_si v5).set (0 + v4.toNat) (enc_si (x6, (gt v5 v4).2))).set (0 + v4.toNat) (enc_si ((gt (v5.set (0 + v4.toNat) (x6, (gt v5 v4).2)) v4).1, IntKind.wrap .i64 (v3 + 1)))))]⟩) (C := (0 ≤ v4 ∧ v4 < (v5.length : Int)) ∧ (((((List.map enc_si v5).set (0 + v4.toNat) (enc_si (x6, (gt v5 v4).2))).getD (0 + v4.toNat) []).take 1 ++ [(.int .i64 (IntKind.wrap .i64 (v3 + 1)))] ++ (((List.map enc_si v5).set (0 + v4.toNat) (enc_si (x6, (gt v5 v4).2))).getD (0 + v4.toNat) []).drop 2 = enc_si ((gt (v5.set (0 + v4.toNat) (x6, (gt v5 v4).2)) v4).1, IntKind.wrap .i64 (v3 + 1)))) ∧ True) (by kernel_rfl) ⟨g3, ⟨(congrArg (fun z : List Value => z.take 1 ++ [(.int .i64 (IntKind.wrap .i64 (v3 + 1)))] ++ z.drop 2) (idx_arr (enc := enc_si) (set_can (enc := enc_si) rfl (0 + v4.toNat) (x6, (gt v5 v4).2)) (idx_len (set_len ((rfl : v5.length = v5.length)) (0 + v4.toNat) (x6, (gt v5 v4).2)) g3))), trivial⟩⟩ trivial ?_
      refine AX.reg (its := [.auto {}, .auto { raw := true }]) [0, 1, 5] [0] (s1 := ⟨[(0, .sl 0 0 v5.length), (1, .v (.int .i64 (IntKind.wrap .i64 ((IntKind.wrap .i64 (v3 + 1)) + 1)))), (5, .v (.int .i64 v4))], [(0, .arr 2 (((List.map enc_si v5).set (0 + v4.toNat) (enc_si (x6, (gt v5 v4).2))).set (0 + v4.toNat) (enc_si ((gt (v5.set (0 + v4.toNat) (x6, (gt v5 v4).2)) v4).1, IntKind.wrap .i64 (v3 + 1)))))]⟩) (C := True) (by kernel_rfl) trivial trivial ?_
      refine AX.reg (its := [.auto {}, .auto { raw := true }]) [0, 1, 5] [0] (s1 := ⟨[(0, .sl 0 0 v5.length), (1, .v (.int .i64 (IntKind.wrap .i64 ((IntKind.wrap .i64 (v3 + 1)) + 1)))), (5, .v (.int .i64 (IntKind.wrap .i64 (v4 + 1))))], [(0, .arr 2 (((List.map enc_si v5).set (0 + v4.toNat) (enc_si (x6, (gt v5 v4).2))).set (0 + v4.toNat) (enc_si ((gt (v5.set (0 + v4.toNat) (x6, (gt v5 v4).2)) v4).1, IntKind.wrap .i64 (v3 + 1)))))]⟩) (C := True) (by kernel_rfl) trivial trivial ?_
      refine ⟨(fu, (IntKind.wrap .i64 ((IntKind.wrap .i64 (v3 + 1)) + 1), IntKind.wrap .i64 (v4 + 1), (v5.set (0 + v4.toNat) (x6, (gt v5 v4).2)).set (0 + v4.toNat) ((gt (v5.set (0 + v4.toNat) (x6, (gt v5 v4).2)) v4).1, IntKind.wrap .i64 (v3 + 1)))), h, Nat.lt_succ_self _, ?_⟩
      refine Wk.trans (Wk.forget [0, 1, 5] [0] (s' := ⟨[(0, .sl 0 0 v5.length), (1, .v (.int .i64 (IntKind.wrap .i64 ((IntKind.wrap .i64 (v3 + 1)) + 1)))), (5, .v (.int .i64 (IntKind.wrap .i64 (v4 + 1))))], [(0, .arr 2 (((List.map enc_si v5).set (0 + v4.toNat) (enc_si (x6, (gt v5 v4).2))).set (0 + v4.toNat) (enc_si ((gt (v5.set (0 + v4.toNat) (x6, (gt v5 v4).2)) v4).1, IntKind.wrap .i64 (v3 + 1)))))]⟩) (by kernel_rfl)) ?_
      refine Wk.trans (Wk.of_eq (congrArg (fun z => (⟨[(0, .sl 0 0 v5.length), (1, .v (.int .i64 (IntKind.wrap .i64 ((IntKind.wrap .i64 (v3 + 1)) + 1)))), (5, .v (.int .i64 (IntKind.wrap .i64 (v4 + 1))))], [(0, .arr 2 (z))]⟩ : S)) (set_can (enc := enc_si) (set_can (enc := enc_si) rfl (0 + v4.toNat) (x6, (gt v5 v4).2)) (0 + v4.toNat) ((gt (v5.set (0 + v4.toNat) (x6, (gt v5 v4).2)) v4).1, IntKind.wrap .i64 (v3 + 1))))) ?_
      refine Wk.trans (Wk.of_eq (congrArg (fun z => (⟨[(0, .sl 0 0 z), (1, .v (.int .i64 (IntKind.wrap .i64 ((IntKind.wrap .i64 (v3 + 1)) + 1)))), (5, .v (.int .i64 (IntKind.wrap .i64 (v4 + 1))))], [(0, .arr 2 (List.map enc_si ((v5.set (0 + v4.toNat) (x6, (gt v5 v4).2)).set (0 + v4.toNat) ((gt (v5.set (0 + v4.toNat) (x6, (gt v5 v4).2)) v4).1, IntKind.wrap .i64 (v3 + 1)))))]⟩ : S)) (set_len ((set_len ((rfl : v5.length = v5.length)) (0 + v4.toNat) (x6, (gt v5 v4).2) : v5.length = (v5.set (0 + v4.toNat) (x6, (gt v5 v4).2)).length)) (0 + v4.toNat) ((gt (v5.set (0 + v4.toNat) (x6, (gt v5 v4).2)) v4).1, IntKind.wrap .i64 (v3 + 1))))) ?_
      exact Wk.refl _
    · replace h := cd_f b1 h
      refine AX.condF (decide (v4 < (v5.length : Int))) (by kernel_rfl) b1 ?_
      refine AX.exit ?_
      refine fin_wk (Wk.forget [1] [0] (s' := ⟨[(1, .v (.int .i64 v3))], [(0, .arr 2 (List.map enc_si v5))]⟩) (by kernel_rfl)) ?_
      have hr := Option.some.inj h
      subst hr
      exact ⟨_, Wk.refl _, ⟨rfl, rfl⟩⟩

end Go.Eng
