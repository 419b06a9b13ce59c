/- What is proved here: each function keeps to its model, whatever its arguments, wherever the model has an answer. Printed by gen.py. -/
import Derived.Test.YtgifaamldmoghaaDoorCEnumOfWalk2
import Derived.Test.YtgifaamldmoghaaDoorProg
import Derived.Test.YtgifaamldmoghaaDoorCEnumOfShelf
import Derived.KernelRfl
set_option linter.unusedVariables false
namespace Go.Eng
open Go Go.Proofs


theorem s_impl_anyDef (p1 : ByteArray) (p2 : Int) (r : Unit) (h : m_impl_anyDef p1 p2 = some r) :
    Eng.Spec Tryd.prog 31 [.agg [.v (.string p1), .v (.int .i64 p2)]] [] (.v (.bool true)) [] := by
  unfold m_impl_anyDef at h
  refine Eng.Spec.body Tryd.func31 (by kernel_rfl) rfl (by kernel_rfl) ?_
  refine AX.wkpost ?_
  refine AX.seq ?_
  refine AX.reg (its := [.auto { nk := 0 }]) [] [] (s1 := ⟨[], []⟩) (C := True) (by kernel_rfl) trivial trivial ?_
  refine AX.seq ?_
  refine AX.reg (its := []) [2] [] (s1 := ⟨[(2, .v (.bool true))], []⟩) (C := True) (by kernel_rfl) trivial trivial ?_
  refine AX.ret ?_
  refine fin_wk (Wk.forget [2] [] (s' := ⟨[(2, .v (.bool true))], []⟩) (by kernel_rfl)) ?_
  have hr := Option.some.inj h
  subst hr
  exact ⟨_, Wk.refl _, .inr rfl, ⟨[], by kernel_rfl, trivial, [.v (.bool true)], by kernel_rfl, by kernel_rfl⟩⟩

theorem s_slices_Clip_s (p1 : List (ByteArray)) (r : Unit) (h : m_slices_Clip_s p1 = some r) :
    Eng.Spec Tryd.prog 58 [.bs false 1 (List.map enc_s p1)] [] (.bs false 1 (List.map enc_s (sub p1 (0 : Int) (p1.length : Int)))) [] := by
  unfold m_slices_Clip_s at h
  refine Eng.Spec.body Tryd.func58 (by kernel_rfl) rfl (by kernel_rfl) ?_
  refine AX.wkpost ?_
  refine AX.seq ?_
  refine AX.reg (its := []) [0] [] (s1 := ⟨[(0, .bs false 1 (List.map enc_s p1))], []⟩) (C := True) (by kernel_rfl) trivial trivial ?_
  refine AX.seq ?_
  obtain ⟨g1, h⟩ := gd_e h
  refine AX.reg (its := [.auto {}, .auto {}, .auto { y := some (.v (.int .i64 (p1.length : Int))) }, .auto {}, .auto { y := some (.v (.int .i64 (p1.length : Int))) }, .auto { y := some (.bs false 1 (List.map enc_s (sub p1 (0 : Int) (p1.length : Int)))) }]) [2] [] (s1 := ⟨[(2, .bs false 1 (List.map enc_s (sub p1 (0 : Int) (p1.length : Int))))], []⟩) (C := (True ∧ (AV.v (.int .i64 ((List.map enc_s p1).length : Int)) = AV.v (.int .i64 (p1.length : Int)))) ∧ (True ∧ (AV.v (.int .i64 ((List.map enc_s p1).length : Int)) = AV.v (.int .i64 (p1.length : Int)))) ∧ ((0 ≤ (0 : Int) ∧ (0 : Int) ≤ (p1.length : Int) ∧ (p1.length : Int) ≤ (p1.length : Int) ∧ (p1.length : Int) ≤ ((List.map enc_s p1).length : Int)) ∧ (AV.bs false 1 (((List.map enc_s p1).drop (0 : Int).toNat).take ((p1.length : Int).toNat - (0 : Int).toNat)) = (.bs false 1 (List.map enc_s (sub p1 (0 : Int) (p1.length : Int))) : AV))) ∧ True) (by kernel_rfl) ⟨⟨trivial, len_map enc_s p1⟩, ⟨⟨trivial, len_map enc_s p1⟩, ⟨⟨by first | exact g1 | simpa only [List.length_map] using g1, by first | exact sub_can enc_s p1 (0 : Int) (p1.length : Int) false 1 | (simp only [List.length_map]; exact sub_can enc_s p1 (0 : Int) (p1.length : Int) false 1)⟩, trivial⟩⟩⟩ trivial ?_
  refine AX.ret ?_
  refine fin_wk (Wk.forget [2] [] (s' := ⟨[(2, .bs false 1 (List.map enc_s (sub p1 (0 : Int) (p1.length : Int))))], []⟩) (by kernel_rfl)) ?_
  have hr := Option.some.inj h
  subst hr
  exact ⟨_, Wk.refl _, .inr rfl, ⟨[], by kernel_rfl, trivial, [.bs false 1 (List.map enc_s (sub p1 (0 : Int) (p1.length : Int)))], by kernel_rfl, by kernel_rfl⟩⟩

theorem s_slices_Clip_hs (p1 : List (ByteArray)) (r : Unit) (h : m_slices_Clip_hs p1 = some r) :
    Eng.Spec Tryd.prog 58 [.sl 0 0 p1.length] [.arr 1 (List.map enc_s p1)] (.sl 0 0 p1.length) [.arr 1 (List.map enc_s p1)] := by
  unfold m_slices_Clip_hs at h
  refine Eng.Spec.body Tryd.func58 (by kernel_rfl) rfl (by kernel_rfl) ?_
  refine AX.wkpost ?_
  refine AX.seq ?_
  refine AX.reg (its := []) [0] [0] (s1 := ⟨[(0, .sl 0 0 p1.length)], [(0, .arr 1 (List.map enc_s p1))]⟩) (C := True) (by kernel_rfl) trivial trivial ?_
  refine AX.seq ?_
  refine AX.reg (its := [.auto {}, .auto {}, .auto {}, .auto {}, .auto {}, .auto { y := some (.sl 0 0 p1.length) }]) [2] [0] (s1 := ⟨[(2, .sl 0 0 p1.length)], [(0, .arr 1 (List.map enc_s p1))]⟩) (C := ((0 ≤ (0 : Int) ∧ (0 : Int) ≤ (p1.length : Int) ∧ (p1.length : Int) ≤ (p1.length : Int) ∧ (p1.length : Int) ≤ (p1.length : Int)) ∧ (AV.sl 0 (0 + (0 : Int).toNat) ((p1.length : Int).toNat - (0 : Int).toNat) = AV.sl 0 0 p1.length)) ∧ True) (by kernel_rfl) ⟨⟨⟨by omega, by omega, by omega, by omega⟩, rfl⟩, trivial⟩ trivial ?_
  refine AX.ret ?_
  refine fin_wk (Wk.forget [2] [0] (s' := ⟨[(2, .sl 0 0 p1.length)], [(0, .arr 1 (List.map enc_s p1))]⟩) (by kernel_rfl)) ?_
  have hr := Option.some.inj h
  subst hr
  exact ⟨_, Wk.refl _, .inr rfl, ⟨[], by kernel_rfl, ⟨rfl, trivial⟩, [.sl 0 0 p1.length], by kernel_rfl, by kernel_rfl⟩⟩

theorem s_impl_names_anyDef_L1 (p1 : List (ByteArray × Int)) (n : Nat) (g : List (ByteArray) × Int) (out : List (ByteArray)) (h : m_impl_names_anyDef_L1 p1 n g.1 g.2 = some out) :
    AX Tryd.prog 25 0 (codeAt [1, 1, 0, 1, 1] (bodyOf Tryd.f29)) ((fun g : List (ByteArray) × Int => (⟨[(1, .fn 31 []), (5, .sl 0 0 g.1.length), (8, .bs false 2 (List.map enc_si p1)), (9, .v (.int .i64 (p1.length : Int))), (10, .v (.int .i64 g.2))], [(0, .arr 1 (List.map enc_s g.1))]⟩ : S)) g) (fun ex s => ex = .exit 0 ∧ s = (fun o : List (ByteArray) => (⟨[(5, .sl 0 0 o.length)], [(0, .arr 1 (List.map enc_s o))]⟩ : S)) out) := by
  refine AX.wkpost ?_
  refine AX.loop (G := Nat × (List (ByteArray) × Int)) (fun q => (fun g : List (ByteArray) × Int => (⟨[(1, .fn 31 []), (5, .sl 0 0 g.1.length), (8, .bs false 2 (List.map enc_si p1)), (9, .v (.int .i64 (p1.length : Int))), (10, .v (.int .i64 g.2))], [(0, .arr 1 (List.map enc_s g.1))]⟩ : S)) q.2) (fun q => m_impl_names_anyDef_L1 p1 q.1 q.2.1 q.2.2 = some out) (fun q => q.1) (n, g) h (Wk.refl _) ?_
  clear h
  rintro ⟨fu, v2, v3⟩ h
  cases fu with
  | zero => cases h
  | succ fu =>
    rw [m_impl_names_anyDef_L1] at h
    refine AX.seq ?_
    refine AX.reg (its := []) [1, 5, 8, 9, 10, 11] [0] (s1 := ⟨[(1, .fn 31 []), (5, .sl 0 0 v2.length), (8, .bs false 2 (List.map enc_si p1)), (9, .v (.int .i64 (p1.length : Int))), (10, .v (.int .i64 v3)), (11, .v (.bool (decide (v3 < (p1.length : Int)))))], [(0, .arr 1 (List.map enc_s v2))]⟩) (C := True) (by kernel_rfl) trivial trivial ?_
    refine AX.seq ?_
    rcases bool_cases (decide (v3 < (p1.length : Int))) with b1 | b1
    · replace h := cd_t b1 h
      refine AX.condT (decide (v3 < (p1.length : Int))) (by kernel_rfl) b1 ?_
      refine AX.skip ?_
      refine AX.seq ?_
      refine AX.block ?_
      refine AX.seq ?_
      obtain ⟨g2, h⟩ := gd_e h
      refine AX.reg (its := [.auto { y := some (.be 2 (enc_si (gt p1 v3)) 0) }, .auto {}, .auto { nk := 1 }]) [1, 5, 7, 8, 9, 10] [0, 1] (s1 := ⟨[(1, .fn 31 []), (5, .sl 0 0 v2.length), (7, .pt 1 0), (8, .bs false 2 (List.map enc_si p1)), (9, .v (.int .i64 (p1.length : Int))), (10, .v (.int .i64 v3))], [(0, .arr 1 (List.map enc_s v2)), (1, .box [.v (.string ((gt p1 v3).1)), .v (.int .i64 ((gt p1 v3).2))])]⟩) (C := ((0 ≤ v3 ∧ v3 < ((List.map enc_si p1).length : Int)) ∧ (AV.be 2 ((List.map enc_si p1).getD v3.toNat []) 0 = AV.be 2 (enc_si (gt p1 v3)) 0)) ∧ True) (by kernel_rfl) ⟨idx_bs enc_si p1 v3 2 g2, trivial⟩ trivial ?_
      refine AX.seq ?_
      obtain ⟨x4, e3, h⟩ := bd_e h
      refine AX.reg (its := [.auto {}, .auto {}, .call 31 [.agg [.v (.string ((gt p1 v3).1)), .v (.int .i64 ((gt p1 v3).2))]] (handO (rho ([] ++ [])) [] [] ++ []) (callEv [] [] (.v (.bool true)) [])]) [1, 5, 7, 8, 9, 10, 16] [0, 1] (s1 := ⟨[(1, .fn 31 []), (5, .sl 0 0 v2.length), (7, .pt 1 0), (8, .bs false 2 (List.map enc_si p1)), (9, .v (.int .i64 (p1.length : Int))), (10, .v (.int .i64 v3)), (16, .v (.bool true))], [(0, .arr 1 (List.map enc_s v2)), (1, .box [.v (.string ((gt p1 v3).1)), .v (.int .i64 ((gt p1 v3).2))])]⟩) (C := ((([.agg [.v (.string ((gt p1 v3).1)), .v (.int .i64 ((gt p1 v3).2))]] : List AV) = [.agg [.v (.string ((gt p1 v3).1)), .v (.int .i64 ((gt p1 v3).2))]]) ∧ True) ∧ True) (by kernel_rfl) ⟨⟨rfl, trivial⟩, trivial⟩ ⟨call_ok (ks := []) (ns := []) (bor := []) (bobjs := []) (s_impl_anyDef ((gt p1 v3).1) ((gt p1 v3).2) x4 e3) (.cons (.c1 (.agg (.cons (.same _ (by kernel_rfl) (by kernel_rfl)) (.cons (.same _ (by kernel_rfl) (by kernel_rfl)) (.nil))))) (.nil)) (by kernel_rfl) trivial, trivial⟩ ?_
      refine AX.cond_true (by kernel_rfl) ?_
      obtain ⟨g4, h⟩ := gd_e h
      refine AX.reg (its := [.auto {}, .auto {}, .auto {}, .auto { nk := 2 }, .auto { y := some (.sl 3 0 ((v2 ++ ([(gt p1 v3).1] : List (ByteArray))).length)), els := some (List.map enc_s v2), els2 := some (List.map enc_s ([(gt p1 v3).1] : List (ByteArray))), nk := 3 }]) [1, 5, 8, 9, 10] [3] (s1 := ⟨[(1, .fn 31 []), (5, .sl 3 0 ((v2 ++ ([(gt p1 v3).1] : List (ByteArray))).length)), (8, .bs false 2 (List.map enc_si p1)), (9, .v (.int .i64 (p1.length : Int))), (10, .v (.int .i64 v3))], [(3, .arr 1 (List.map enc_s v2 ++ List.map enc_s ([(gt p1 v3).1] : List (ByteArray))))]⟩) (C := ((((((List.map enc_s v2).drop 0).take (v2.length) = List.map enc_s v2) ∧ (((List.map enc_s ([(gt p1 v3).1] : List (ByteArray))).drop 0).take (([(gt p1 v3).1] : List (ByteArray)).length) = List.map enc_s ([(gt p1 v3).1] : List (ByteArray)))) ∧ (List.map enc_s v2).length + (List.map enc_s ([(gt p1 v3).1] : List (ByteArray))).length ≤ 1099511627776) ∧ (AV.sl 3 0 (List.map enc_s v2 ++ List.map enc_s ([(gt p1 v3).1] : List (ByteArray))).length = AV.sl 3 0 (v2 ++ ([(gt p1 v3).1] : List (ByteArray))).length)) ∧ True) (by kernel_rfl) ⟨⟨⟨⟨(dt_all (enc := enc_s) rfl rfl), (dt_all (enc := enc_s) rfl rfl)⟩, (by simp only [List.length_map, List.length_nil, List.length_replicate]; simpa using g4)⟩, sl_len (enc := enc_s) (app_can (enc := enc_s) rfl (rfl))⟩, trivial⟩ trivial ?_
      refine AX.reg (its := [.auto { raw := true }]) [1, 5, 8, 9, 10] [3] (s1 := ⟨[(1, .fn 31 []), (5, .sl 3 0 ((v2 ++ ([(gt p1 v3).1] : List (ByteArray))).length)), (8, .bs false 2 (List.map enc_si p1)), (9, .v (.int .i64 (p1.length : Int))), (10, .v (.int .i64 (IntKind.wrap .i64 (v3 + 1))))], [(3, .arr 1 (List.map enc_s v2 ++ List.map enc_s ([(gt p1 v3).1] : List (ByteArray))))]⟩) (C := True) (by kernel_rfl) trivial trivial ?_
      refine ⟨(fu, (v2 ++ ([(gt p1 v3).1] : List (ByteArray)), IntKind.wrap .i64 (v3 + 1))), h, Nat.lt_succ_self _, ?_⟩
      refine Wk.trans (Wk.swap 0 3 (Nat.le_of_ble_eq_true (by kernel_rfl)) (Nat.le_of_ble_eq_true (by kernel_rfl)) rfl) ?_
      refine Wk.trans (Wk.forget [1, 5, 8, 9, 10] [0] (s' := ⟨[(1, .fn 31 []), (5, .sl 0 0 ((v2 ++ ([(gt p1 v3).1] : List (ByteArray))).length)), (8, .bs false 2 (List.map enc_si p1)), (9, .v (.int .i64 (p1.length : Int))), (10, .v (.int .i64 (IntKind.wrap .i64 (v3 + 1))))], [(0, .arr 1 (List.map enc_s v2 ++ List.map enc_s ([(gt p1 v3).1] : List (ByteArray))))]⟩) (by kernel_rfl)) ?_
      refine Wk.trans (Wk.of_eq (congrArg (fun z => (⟨[(1, .fn 31 []), (5, .sl 0 0 ((v2 ++ ([(gt p1 v3).1] : List (ByteArray))).length)), (8, .bs false 2 (List.map enc_si p1)), (9, .v (.int .i64 (p1.length : Int))), (10, .v (.int .i64 (IntKind.wrap .i64 (v3 + 1))))], [(0, .arr 1 (z))]⟩ : S)) (app_can (enc := enc_s) rfl (rfl) : List.map enc_s v2 ++ List.map enc_s ([(gt p1 v3).1] : List (ByteArray)) = List.map enc_s (v2 ++ ([(gt p1 v3).1] : List (ByteArray)))))) ?_
      exact Wk.refl _
    · replace h := cd_f b1 h
      refine AX.condF (decide (v3 < (p1.length : Int))) (by kernel_rfl) b1 ?_
      refine AX.exit ?_
      refine fin_wk (Wk.forget [5] [0] (s' := ⟨[(5, .sl 0 0 v2.length)], [(0, .arr 1 (List.map enc_s v2))]⟩) (by kernel_rfl)) ?_
      have hr := Option.some.inj h
      subst hr
      exact ⟨_, Wk.refl _, ⟨rfl, rfl⟩⟩

theorem s_impl_names_anyDef (p1 : List (ByteArray × Int)) (r : List (ByteArray)) (h : m_impl_names_anyDef p1 = some r) :
    Eng.Spec Tryd.prog 29 [.bs false 2 (List.map enc_si p1), .fn 31 []] [] (.sl 0 0 r.length) [.arr 1 (List.map enc_s r)] := by
  unfold m_impl_names_anyDef at h
  refine Eng.Spec.body Tryd.func29 (by kernel_rfl) rfl (by kernel_rfl) ?_
  refine AX.wkpost ?_
  refine AX.seq ?_
  refine AX.reg (its := []) [0, 1] [] (s1 := ⟨[(0, .bs false 2 (List.map enc_si p1)), (1, .fn 31 [])], []⟩) (C := True) (by kernel_rfl) trivial trivial ?_
  refine AX.seq ?_
  refine AX.reg (its := []) [0, 1, 5] [] (s1 := ⟨[(0, .bs false 2 (List.map enc_si p1)), (1, .fn 31 []), (5, .v (.slice none 0 0))], []⟩) (C := True) (by kernel_rfl) trivial trivial ?_
  refine AX.seq ?_
  refine AX.seq ?_
  refine AX.reg (its := [.auto {}, .auto { y := some (.v (.int .i64 (p1.length : Int))) }]) [1, 5, 8, 9, 10] [] (s1 := ⟨[(1, .fn 31 []), (5, .v (.slice none 0 0)), (8, .bs false 2 (List.map enc_si p1)), (9, .v (.int .i64 (p1.length : Int))), (10, .v (.int .i64 0))], []⟩) (C := (True ∧ (AV.v (.int .i64 ((List.map enc_si p1).length : Int)) = AV.v (.int .i64 (p1.length : Int)))) ∧ True) (by kernel_rfl) ⟨⟨trivial, len_map enc_si p1⟩, trivial⟩ trivial ?_
  refine AX.block ?_
  obtain ⟨x5, e5, h⟩ := bd_e h
  refine AX.wk (Wk.mat 5 0 1 (by kernel_rfl) (Nat.le_of_ble_eq_true (by kernel_rfl)) (by kernel_rfl) rfl) ?_
  refine AX.wk (Wk.forget [1, 5, 8, 9, 10] [0] (s' := ⟨[(1, .fn 31 []), (5, .sl 0 0 (([] : List (ByteArray)).length)), (8, .bs false 2 (List.map enc_si p1)), (9, .v (.int .i64 (p1.length : Int))), (10, .v (.int .i64 0))], [(0, .arr 1 (List.map enc_s ([] : List (ByteArray))))]⟩) (by kernel_rfl)) ?_
  refine AX.mono (s_impl_names_anyDef_L1 p1 FU (([] : List (ByteArray)), 0) x5 e5) ?_
  rintro _ _ ⟨rfl, rfl⟩
  skip
  refine AX.seq ?_
  obtain ⟨x6, e6, h⟩ := bd_e h
  refine AX.reg (its := [.auto {}, .call 58 [.sl 0 0 x5.length] (handO (rho ([0] ++ [])) [0] [.arr 1 (List.map enc_s x5)] ++ []) (callEv [0] [] (.sl 0 0 x5.length) [.arr 1 (List.map enc_s x5)])]) [4] [0] (s1 := ⟨[(4, .sl 0 0 x5.length)], [(0, .arr 1 (List.map enc_s x5))]⟩) (C := ((([.sl 0 0 x5.length] : List AV) = [.sl 0 0 x5.length]) ∧ (AO.arr 1 (List.map enc_s x5) = AO.arr 1 (List.map enc_s x5)) ∧ True) ∧ True) (by kernel_rfl) ⟨⟨rfl, rfl, trivial⟩, trivial⟩ ⟨call_ok (ks := [0]) (ns := []) (bor := []) (bobjs := []) (s_slices_Clip_hs x5 x6 e6) (.cons (.c1 (.c0 (.same _ (by kernel_rfl) (by kernel_rfl)))) (.nil)) (by kernel_rfl) ⟨.inr rfl, trivial⟩, trivial⟩ ?_
  refine AX.ret ?_
  refine fin_wk (Wk.forget [4] [0] (s' := ⟨[(4, .sl 0 0 x5.length)], [(0, .arr 1 (List.map enc_s x5))]⟩) (by kernel_rfl)) ?_
  have hr := Option.some.inj h
  subst hr
  exact ⟨_, Wk.refl _, .inr rfl, ⟨[0], by kernel_rfl, ⟨rfl, trivial⟩, [.sl 0 0 x5.length], by kernel_rfl, by kernel_rfl⟩⟩

theorem s_impl_SinglesOf (p1 : List (ByteArray × Int)) (p2 : Int) (r : List (ByteArray)) (h : m_impl_SinglesOf p1 p2 = some r) :
    Eng.Spec Tryd.prog 11 [.agg [.bs false 2 (List.map enc_si p1), .v (.int .i64 p2)]] [] (.sl 0 0 r.length) [.arr 1 (List.map enc_s r)] := by
  unfold m_impl_SinglesOf at h
  refine Eng.Spec.body Tryd.func11 (by kernel_rfl) rfl (by kernel_rfl) ?_
  refine AX.wkpost ?_
  refine AX.seq ?_
  refine AX.reg (its := [.auto { nk := 0 }]) [1] [0] (s1 := ⟨[(1, .pt 0 0)], [(0, .box [.bs false 2 (List.map enc_si p1), .v (.int .i64 p2)])]⟩) (C := True) (by kernel_rfl) trivial trivial ?_
  refine AX.seq ?_
  refine AX.seq ?_
  obtain ⟨x3, e1, h⟩ := bd_e h
  refine AX.reg (its := [.auto {}, .call 19 [.agg [.bs false 2 (List.map enc_si p1), .v (.int .i64 p2)]] (handO (rho ([] ++ [])) [] [] ++ []) (callEv [] [] (.v (.bool x3)) [])]) [1, 5] [0] (s1 := ⟨[(1, .pt 0 0), (5, .v (.bool (!x3)))], [(0, .box [.bs false 2 (List.map enc_si p1), .v (.int .i64 p2)])]⟩) (C := ((([.agg [.bs false 2 (List.map enc_si p1), .v (.int .i64 p2)]] : List AV) = [.agg [.bs false 2 (List.map enc_si p1), .v (.int .i64 p2)]]) ∧ True) ∧ True) (by kernel_rfl) ⟨⟨rfl, trivial⟩, trivial⟩ ⟨call_ok (ks := []) (ns := []) (bor := []) (bobjs := []) (s_impl_ValidFlag p1 p2 x3 e1) (.cons (.c1 (.agg (.cons (.same _ (by kernel_rfl) (by kernel_rfl)) (.cons (.same _ (by kernel_rfl) (by kernel_rfl)) (.nil))))) (.nil)) (by kernel_rfl) trivial, trivial⟩ ?_
  rcases bool_cases ((!x3)) with b2 | b2
  · replace h := cd_t b2 h
    refine AX.condT ((!x3)) (by kernel_rfl) b2 ?_
    refine AX.seq ?_
    refine AX.reg (its := []) [2] [] (s1 := ⟨[(2, .v (.slice none 0 0))], []⟩) (C := True) (by kernel_rfl) trivial trivial ?_
    refine AX.ret ?_
    refine fin_wk (Wk.mat 2 0 1 (by kernel_rfl) (Nat.le_of_ble_eq_true (by kernel_rfl)) (by kernel_rfl) rfl) ?_
    refine fin_wk (Wk.forget [2] [0] (s' := ⟨[(2, .sl 0 0 (([] : List (ByteArray)).length))], [(0, .arr 1 (List.map enc_s ([] : List (ByteArray))))]⟩) (by kernel_rfl)) ?_
    have hr := Option.some.inj h
    subst hr
    exact ⟨_, Wk.refl _, .inr rfl, ⟨[0], by kernel_rfl, ⟨rfl, trivial⟩, [.sl 0 0 (([] : List (ByteArray)).length)], by kernel_rfl, by kernel_rfl⟩⟩
  · replace h := cd_f b2 h
    refine AX.condF ((!x3)) (by kernel_rfl) b2 ?_
    refine AX.skip ?_
    refine AX.seq ?_
    obtain ⟨x4, e3, h⟩ := bd_e h
    obtain ⟨x5, e4, h⟩ := bd_e h
    refine AX.reg (its := [.auto {}, .call 30 [.agg [.bs false 2 (List.map enc_si p1), .v (.int .i64 p2)]] (handO (rho ([] ++ [1])) [] [] ++ []) (callEv [] [1] (.sl 0 0 x4.length) [.arr 2 (List.map enc_si x4)]), .call 29 [.sl 1 0 x4.length, .fn 31 []] (handO (rho ([] ++ [2])) [] [] ++ [(1, .arr 2 (List.map enc_si x4))]) (callEv [] [2] (.sl 0 0 x5.length) [.arr 1 (List.map enc_s x5)])]) [2] [2] (s1 := ⟨[(2, .sl 2 0 x5.length)], [(2, .arr 1 (List.map enc_s x5))]⟩) (C := ((([.agg [.bs false 2 (List.map enc_si p1), .v (.int .i64 p2)]] : List AV) = [.agg [.bs false 2 (List.map enc_si p1), .v (.int .i64 p2)]]) ∧ True) ∧ ((([.sl 1 0 x4.length, .fn 31 []] : List AV) = [.sl 1 0 x4.length, .fn 31 []]) ∧ (AO.arr 2 (List.map enc_si x4) = AO.arr 2 (List.map enc_si x4)) ∧ True) ∧ True) (by kernel_rfl) ⟨⟨rfl, trivial⟩, ⟨⟨rfl, rfl, trivial⟩, trivial⟩⟩ ⟨call_ok (ks := []) (ns := [1]) (bor := []) (bobjs := []) (s_impl_Flag_singles p1 p2 x4 e3) (.cons (.c1 (.agg (.cons (.same _ (by kernel_rfl) (by kernel_rfl)) (.cons (.same _ (by kernel_rfl) (by kernel_rfl)) (.nil))))) (.nil)) (by kernel_rfl) trivial, ⟨call_ok (ks := []) (ns := [2]) (bor := [1]) (bobjs := [(1, .arr 2 (List.map enc_si x4))]) (s_impl_names_anyDef x4 x5 e4) (.cons (.c1 (.c0 (.arr rfl rfl ((rfl).trans (List.length_map ..).symm)))) (.cons (.fn (.nil)) (.nil))) (by kernel_rfl) trivial, trivial⟩⟩ ?_
    refine AX.ret ?_
    refine fin_wk (Wk.swap 0 2 (Nat.le_of_ble_eq_true (by kernel_rfl)) (Nat.le_of_ble_eq_true (by kernel_rfl)) rfl) ?_
    refine fin_wk (Wk.forget [2] [0] (s' := ⟨[(2, .sl 0 0 x5.length)], [(0, .arr 1 (List.map enc_s x5))]⟩) (by kernel_rfl)) ?_
    have hr := Option.some.inj h
    subst hr
    exact ⟨_, Wk.refl _, .inr rfl, ⟨[0], by kernel_rfl, ⟨rfl, trivial⟩, [.sl 0 0 x5.length], by kernel_rfl, by kernel_rfl⟩⟩

theorem s_impl_ValidEnum (p1 : List (ByteArray × Int)) (r : Bool) (h : m_impl_ValidEnum p1 = some r) :
    Eng.Spec Tryd.prog 9 [.agg [.bs false 2 (List.map enc_si p1)]] [] (.v (.bool r)) [] := by
  unfold m_impl_ValidEnum at h
  refine Eng.Spec.body Tryd.func9 (by kernel_rfl) rfl (by kernel_rfl) ?_
  refine AX.wkpost ?_
  refine AX.seq ?_
  refine AX.reg (its := [.auto { nk := 0 }]) [1] [0] (s1 := ⟨[(1, .pt 0 0)], [(0, .box [.bs false 2 (List.map enc_si p1)])]⟩) (C := True) (by kernel_rfl) trivial trivial ?_
  refine AX.seq ?_
  obtain ⟨x2, e1, h⟩ := bd_e h
  refine AX.reg (its := [.auto {}, .auto {}, .call 28 [.bs false 2 (List.map enc_si p1), .v (.int .i64 (-1000)), .v (.int .i64 1000)] (handO (rho ([] ++ [])) [] [] ++ []) (callEv [] [] (.v (.bool x2)) [])]) [2] [] (s1 := ⟨[(2, .v (.bool x2))], []⟩) (C := ((([.bs false 2 (List.map enc_si p1), .v (.int .i64 (-1000)), .v (.int .i64 1000)] : List AV) = [.bs false 2 (List.map enc_si p1), .v (.int .i64 (-1000)), .v (.int .i64 1000)]) ∧ True) ∧ True) (by kernel_rfl) ⟨⟨rfl, trivial⟩, trivial⟩ ⟨call_ok (ks := []) (ns := []) (bor := []) (bobjs := []) (s_impl_defsValid p1 (-1000) 1000 x2 e1) (.cons (.c1 (.c0 (.same _ (by kernel_rfl) (by kernel_rfl)))) (.cons (.c1 (.c0 (.same _ (by kernel_rfl) (by kernel_rfl)))) (.cons (.c1 (.c0 (.same _ (by kernel_rfl) (by kernel_rfl)))) (.nil)))) (by kernel_rfl) trivial, trivial⟩ ?_
  refine AX.ret ?_
  refine fin_wk (Wk.forget [2] [] (s' := ⟨[(2, .v (.bool x2))], []⟩) (by kernel_rfl)) ?_
  have hr := Option.some.inj h
  subst hr
  exact ⟨_, Wk.refl _, .inr rfl, ⟨[], by kernel_rfl, trivial, [.v (.bool x2)], by kernel_rfl, by kernel_rfl⟩⟩

theorem s_slices_Clone_si (p1 : List (ByteArray × Int)) (r : List (ByteArray × Int)) (h : m_slices_Clone_si p1 = some r) :
    Eng.Spec Tryd.prog 68 [.bs false 2 (List.map enc_si p1)] [] (.sl 0 0 r.length) [.arr 2 (List.map enc_si r)] := by
  unfold m_slices_Clone_si at h
  obtain ⟨g1, h⟩ := gd_e h
  have hr := Option.some.inj h
  subst hr
  refine Eng.Spec.body Tryd.func68 (by kernel_rfl) rfl (by kernel_rfl) ?_
  refine AX.wkpost ?_
  refine AX.seq ?_
  refine AX.reg (its := []) [0] [] (s1 := ⟨[(0, .bs false 2 (List.map enc_si p1))], []⟩) (C := True) (by kernel_rfl) trivial trivial ?_
  refine AX.nilEq (l := false) (sz := 2) (es := (List.map enc_si p1)) (s0 := (⟨[(2, .sl 1 0 p1.length)], [(1, .arr 2 (List.map enc_si p1))]⟩ : S)) .ret rfl rfl rfl rfl rfl rfl Tryd.underlying23 (by kernel_rfl) (by kernel_rfl) (by kernel_rfl) ⟨_, Wk.refl _, .inr rfl, ⟨[1], by kernel_rfl, ⟨rfl, trivial⟩, [.sl 1 0 p1.length], by kernel_rfl, by kernel_rfl⟩⟩ ?_
  intro b hb
  rcases bool_cases b with h1 | h1
  · subst h1
    have hp : p1 = [] := by simpa using hb rfl
    subst hp
    refine AX.condT true (by kernel_rfl) rfl ?_
    refine AX.seq ?_
    refine AX.reg (its := []) [2] [] (s1 := ⟨[(2, .v (.slice none 0 0))], []⟩) (C := True) (by kernel_rfl) trivial trivial ?_
    refine AX.wk (Wk.mat 2 1 2 (by kernel_rfl) (Nat.le_of_ble_eq_true (by kernel_rfl)) (by kernel_rfl) rfl) ?_
    refine AX.wk (Wk.forget [2] [1] (s' := ⟨[(2, .sl 1 0 0)], [(1, .arr 2 [])]⟩) (by kernel_rfl)) ?_
    exact AX.ret ⟨rfl, rfl⟩
  · subst h1
    refine AX.condF false (by kernel_rfl) rfl ?_
    refine AX.skip ?_
    refine AX.seq ?_
    refine AX.reg (its := [.auto { nk := 0 }, .auto {}, .auto { y := some (.sl 1 0 p1.length), nk := 1 }]) [2] [1] (s1 := ⟨[(2, .sl 1 0 p1.length)], [(1, .arr 2 (List.map enc_si p1))]⟩) (C := ((((True) ∧ (True)) ∧ (([] : List (List Value)).length + (List.map enc_si p1).length ≤ 1099511627776)) ∧ (AV.sl 1 0 (List.map enc_si p1).length = AV.sl 1 0 p1.length)) ∧ True) (by kernel_rfl) ⟨⟨⟨⟨trivial, trivial⟩, by simpa using g1⟩, sl_len (enc := enc_si) rfl⟩, trivial⟩ trivial ?_
    exact AX.ret ⟨rfl, rfl⟩

theorem s_impl_clone_si (p1 : List (ByteArray × Int)) (r : List (ByteArray × Int)) (h : m_impl_clone_si p1 = some r) :
    Eng.Spec Tryd.prog 43 [.bs false 2 (List.map enc_si p1)] [] (.sl 0 0 r.length) [.arr 2 (List.map enc_si r)] := by
  unfold m_impl_clone_si at h
  refine Eng.Spec.body Tryd.func43 (by kernel_rfl) rfl (by kernel_rfl) ?_
  refine AX.wkpost ?_
  refine AX.seq ?_
  refine AX.reg (its := []) [0] [] (s1 := ⟨[(0, .bs false 2 (List.map enc_si p1))], []⟩) (C := True) (by kernel_rfl) trivial trivial ?_
  refine AX.seq ?_
  obtain ⟨x2, e1, h⟩ := bd_e h
  obtain ⟨x3, e2, h⟩ := bd_e h
  refine AX.reg (its := [.auto {}, .call 68 [.bs false 2 (List.map enc_si p1)] (handO (rho ([] ++ [0])) [] [] ++ []) (callEv [] [0] (.sl 0 0 x2.length) [.arr 2 (List.map enc_si x2)]), .call 35 [.sl 0 0 x2.length] (handO (rho ([0] ++ [])) [0] [.arr 2 (List.map enc_si x2)] ++ []) (callEv [0] [] (.sl 0 0 x2.length) [.arr 2 (List.map enc_si x2)])]) [2] [0] (s1 := ⟨[(2, .sl 0 0 x2.length)], [(0, .arr 2 (List.map enc_si x2))]⟩) (C := ((([.bs false 2 (List.map enc_si p1)] : List AV) = [.bs false 2 (List.map enc_si p1)]) ∧ True) ∧ ((([.sl 0 0 x2.length] : List AV) = [.sl 0 0 x2.length]) ∧ (AO.arr 2 (List.map enc_si x2) = AO.arr 2 (List.map enc_si x2)) ∧ True) ∧ True) (by kernel_rfl) ⟨⟨rfl, trivial⟩, ⟨⟨rfl, rfl, trivial⟩, trivial⟩⟩ ⟨call_ok (ks := []) (ns := [0]) (bor := []) (bobjs := []) (s_slices_Clone_si p1 x2 e1) (.cons (.c1 (.c0 (.same _ (by kernel_rfl) (by kernel_rfl)))) (.nil)) (by kernel_rfl) trivial, ⟨call_ok (ks := [0]) (ns := []) (bor := []) (bobjs := []) (s_slices_Clip_hsi x2 x3 e2) (.cons (.c1 (.c0 (.same _ (by kernel_rfl) (by kernel_rfl)))) (.nil)) (by kernel_rfl) ⟨.inr rfl, trivial⟩, trivial⟩⟩ ?_
  refine AX.ret ?_
  refine fin_wk (Wk.forget [2] [0] (s' := ⟨[(2, .sl 0 0 x2.length)], [(0, .arr 2 (List.map enc_si x2))]⟩) (by kernel_rfl)) ?_
  have hr := Option.some.inj h
  subst hr
  exact ⟨_, Wk.refl _, .inr rfl, ⟨[0], by kernel_rfl, ⟨rfl, trivial⟩, [.sl 0 0 x2.length], by kernel_rfl, by kernel_rfl⟩⟩

theorem s_impl_SortEnum_1 (p1 : ByteArray) (p2 : Int) (p3 : ByteArray) (p4 : Int) (r : Int) (h : m_impl_SortEnum_1 p1 p2 p3 p4 = some r) :
    Eng.Spec Tryd.prog 45 [.agg [.v (.string p1), .v (.int .i64 p2)], .agg [.v (.string p3), .v (.int .i64 p4)]] [] (.v (.int .i64 r)) [] := by
  unfold m_impl_SortEnum_1 at h
  refine Eng.Spec.body Tryd.func45 (by kernel_rfl) rfl (by kernel_rfl) ?_
  refine AX.wkpost ?_
  refine AX.seq ?_
  refine AX.reg (its := [.auto { nk := 0 }, .auto { nk := 1 }]) [2, 3] [0, 1] (s1 := ⟨[(2, .pt 0 0), (3, .pt 1 0)], [(0, .box [.v (.string p1), .v (.int .i64 p2)]), (1, .box [.v (.string p3), .v (.int .i64 p4)])]⟩) (C := True) (by kernel_rfl) trivial trivial ?_
  refine AX.seq ?_
  obtain ⟨x5, e1, h⟩ := bd_e h
  refine AX.reg (its := [.auto {}, .auto {}, .auto {}, .auto {}, .call 46 [.v (.int .i64 p2), .v (.int .i64 p4)] (handO (rho ([] ++ [])) [] [] ++ []) (callEv [] [] (.v (.int .i64 x5)) [])]) [4] [] (s1 := ⟨[(4, .v (.int .i64 x5))], []⟩) (C := ((([.v (.int .i64 p2), .v (.int .i64 p4)] : List AV) = [.v (.int .i64 p2), .v (.int .i64 p4)]) ∧ True) ∧ True) (by kernel_rfl) ⟨⟨rfl, trivial⟩, trivial⟩ ⟨call_ok (ks := []) (ns := []) (bor := []) (bobjs := []) (s_cmp_Compare p2 p4 x5 e1) (.cons (.c1 (.c0 (.same _ (by kernel_rfl) (by kernel_rfl)))) (.cons (.c1 (.c0 (.same _ (by kernel_rfl) (by kernel_rfl)))) (.nil))) (by kernel_rfl) trivial, trivial⟩ ?_
  refine AX.ret ?_
  refine fin_wk (Wk.forget [4] [] (s' := ⟨[(4, .v (.int .i64 x5))], []⟩) (by kernel_rfl)) ?_
  have hr := Option.some.inj h
  subst hr
  exact ⟨_, Wk.refl _, .inr rfl, ⟨[], by kernel_rfl, trivial, [.v (.int .i64 x5)], by kernel_rfl, by kernel_rfl⟩⟩

theorem s_slices_insertionSortCmpFunc_h_SortEnum_1_si_L2 (p1 : Int) (p2 : Int) (v4 : Int) (n : Nat) (g : Int × (List (ByteArray × Int))) (out : List (ByteArray × Int)) (h : m_slices_insertionSortCmpFunc_h_SortEnum_1_si_L2 p1 p2 v4 n g.1 g.2 = some out) :
    AX Tryd.prog 53 1 (codeAt [1, 1, 1, 1, 0, 1, 1, 1] (bodyOf Tryd.f83)) ((fun g : Int × (List (ByteArray × Int)) => (⟨[(0, .sl 0 0 g.2.length), (1, .v (.int .i64 p1)), (2, .v (.int .i64 p2)), (3, .fn 45 []), (8, .v (.int .i64 v4)), (9, .v (.int .i64 g.1))], [(0, .arr 2 (List.map enc_si g.2))]⟩ : S)) g) (fun ex s => ex = .exit 2 ∧ s = (fun o : List (ByteArray × Int) => (⟨[(0, .sl 0 0 o.length), (1, .v (.int .i64 p1)), (2, .v (.int .i64 p2)), (3, .fn 45 []), (8, .v (.int .i64 v4))], [(0, .arr 2 (List.map enc_si o))]⟩ : S)) out) := by
  refine AX.wkpost ?_
  refine AX.loop (G := Nat × (Int × (List (ByteArray × Int)))) (fun q => (fun g : Int × (List (ByteArray × Int)) => (⟨[(0, .sl 0 0 g.2.length), (1, .v (.int .i64 p1)), (2, .v (.int .i64 p2)), (3, .fn 45 []), (8, .v (.int .i64 v4)), (9, .v (.int .i64 g.1))], [(0, .arr 2 (List.map enc_si g.2))]⟩ : S)) q.2) (fun q => m_slices_insertionSortCmpFunc_h_SortEnum_1_si_L2 p1 p2 v4 q.1 q.2.1 q.2.2 = some out) (fun q => q.1) (n, g) h (Wk.refl _) ?_
  clear h
  rintro ⟨fu, v6, v7⟩ h
  cases fu with
  | zero => cases h
  | succ fu =>
    rw [m_slices_insertionSortCmpFunc_h_SortEnum_1_si_L2] at h
    refine AX.seq ?_
    refine AX.seq ?_
    rcases bool_cases (decide (p1 < v6)) with b2 | b2
    · replace h := cd_t b2 h
      obtain ⟨g3, h⟩ := gd_e h
      obtain ⟨g4, h⟩ := gd_e h
      obtain ⟨x8, e5, h⟩ := bd_e h
      refine AX.drw mixed (its := [.auto {}, .auto {}, .auto { y := some (.v (.bool true)) }, .auto {}, .auto {}, .auto {}, .auto {}, .auto {}, .auto { y := some (.agg [.v (.string ((gt v7 v6).1)), .v (.int .i64 ((gt v7 v6).2))]) }, .auto {}, .auto {}, .auto { raw := true }, .auto {}, .auto { y := some (.agg [.v (.string ((gt v7 (IntKind.wrap .i64 (v6 - 1))).1)), .v (.int .i64 ((gt v7 (IntKind.wrap .i64 (v6 - 1))).2))]) }, .call 45 [.agg [.v (.string ((gt v7 v6).1)), .v (.int .i64 ((gt v7 v6).2))], .agg [.v (.string ((gt v7 (IntKind.wrap .i64 (v6 - 1))).1)), .v (.int .i64 ((gt v7 (IntKind.wrap .i64 (v6 - 1))).2))]] (handO (rho ([] ++ [])) [] [] ++ []) (callEv [] [] (.v (.int .i64 x8)) [])]) [0, 1, 2, 3, 8, 9, 34] [0] (s1 := ⟨[(0, .sl 0 0 v7.length), (1, .v (.int .i64 p1)), (2, .v (.int .i64 p2)), (3, .fn 45 []), (8, .v (.int .i64 v4)), (9, .v (.int .i64 v6)), (34, .v (.bool (decide (x8 < 0))))], [(0, .arr 2 (List.map enc_si v7))]⟩) (C := ((True) ∧ ((.v (.bool (decide (p1 < v6))) : AV) = (.v (.bool true) : AV))) ∧ (0 ≤ v6 ∧ v6 < (v7.length : Int)) ∧ (True ∧ (AV.agg ((((List.map enc_si v7).getD (0 + v6.toNat) []).drop 0 |>.take 2).map .v) = .agg [.v (.string ((gt v7 v6).1)), .v (.int .i64 ((gt v7 v6).2))])) ∧ (0 ≤ (IntKind.wrap .i64 (v6 - 1)) ∧ (IntKind.wrap .i64 (v6 - 1)) < (v7.length : Int)) ∧ (True ∧ (AV.agg ((((List.map enc_si v7).getD (0 + (IntKind.wrap .i64 (v6 - 1)).toNat) []).drop 0 |>.take 2).map .v) = .agg [.v (.string ((gt v7 (IntKind.wrap .i64 (v6 - 1))).1)), .v (.int .i64 ((gt v7 (IntKind.wrap .i64 (v6 - 1))).2))])) ∧ ((([.agg [.v (.string ((gt v7 v6).1)), .v (.int .i64 ((gt v7 v6).2))], .agg [.v (.string ((gt v7 (IntKind.wrap .i64 (v6 - 1))).1)), .v (.int .i64 ((gt v7 (IntKind.wrap .i64 (v6 - 1))).2))]] : List AV) = [.agg [.v (.string ((gt v7 v6).1)), .v (.int .i64 ((gt v7 v6).2))], .agg [.v (.string ((gt v7 (IntKind.wrap .i64 (v6 - 1))).1)), .v (.int .i64 ((gt v7 (IntKind.wrap .i64 (v6 - 1))).2))]]) ∧ True) ∧ True) (by kernel_rfl) ⟨⟨trivial, (congrArg (fun z => AV.v (.bool z)) b2)⟩, ⟨g3, ⟨⟨trivial, (congrArg (fun z : List Value => AV.agg (((z.drop 0).take 2).map .v)) (idx_arr (enc := enc_si) rfl g3))⟩, ⟨g4, ⟨⟨trivial, (congrArg (fun z : List Value => AV.agg (((z.drop 0).take 2).map .v)) (idx_arr (enc := enc_si) rfl g4))⟩, ⟨⟨rfl, trivial⟩, trivial⟩⟩⟩⟩⟩⟩ ⟨call_ok (ks := []) (ns := []) (bor := []) (bobjs := []) (s_impl_SortEnum_1 ((gt v7 v6).1) ((gt v7 v6).2) ((gt v7 (IntKind.wrap .i64 (v6 - 1))).1) ((gt v7 (IntKind.wrap .i64 (v6 - 1))).2) x8 e5) (.cons (.c1 (.agg (.cons (.same _ (by kernel_rfl) (by kernel_rfl)) (.cons (.same _ (by kernel_rfl) (by kernel_rfl)) (.nil))))) (.cons (.c1 (.agg (.cons (.same _ (by kernel_rfl) (by kernel_rfl)) (.cons (.same _ (by kernel_rfl) (by kernel_rfl)) (.nil))))) (.nil))) (by kernel_rfl) trivial, trivial⟩ ?_
      rcases bool_cases (decide (x8 < 0)) with b6 | b6
      · replace h := cd_t b6 h
        refine AX.condT (decide (x8 < 0)) (by kernel_rfl) b6 ?_
        refine AX.skip ?_
        refine AX.seq ?_
        refine AX.block ?_
        refine AX.drw mixed (its := [.auto {}, .auto {}, .auto {}, .auto {}, .auto { raw := true }, .auto {}, .auto {}, .auto { raw := true }, .auto {}, .auto { y := some (.agg [.v (.string ((gt v7 (IntKind.wrap .i64 (v6 - 1))).1)), .v (.int .i64 ((gt v7 (IntKind.wrap .i64 (v6 - 1))).2))]) }, .auto {}, .auto {}, .auto {}, .auto { y := some (.agg [.v (.string ((gt v7 v6).1)), .v (.int .i64 ((gt v7 v6).2))]) }]) [0, 1, 2, 3, 8, 9] [0] (s1 := ⟨[(0, .sl 0 0 v7.length), (1, .v (.int .i64 p1)), (2, .v (.int .i64 p2)), (3, .fn 45 []), (8, .v (.int .i64 v4)), (9, .v (.int .i64 v6))], [(0, .arr 2 (((List.map enc_si v7).set (0 + v6.toNat) [(.string ((gt v7 (IntKind.wrap .i64 (v6 - 1))).1)), (.int .i64 ((gt v7 (IntKind.wrap .i64 (v6 - 1))).2))]).set (0 + (IntKind.wrap .i64 (v6 - 1)).toNat) [(.string ((gt v7 v6).1)), (.int .i64 ((gt v7 v6).2))]))]⟩) (C := (0 ≤ (IntKind.wrap .i64 (v6 - 1)) ∧ (IntKind.wrap .i64 (v6 - 1)) < (v7.length : Int)) ∧ (True ∧ (AV.agg ((((List.map enc_si v7).getD (0 + (IntKind.wrap .i64 (v6 - 1)).toNat) []).drop 0 |>.take 2).map .v) = .agg [.v (.string ((gt v7 (IntKind.wrap .i64 (v6 - 1))).1)), .v (.int .i64 ((gt v7 (IntKind.wrap .i64 (v6 - 1))).2))])) ∧ (0 ≤ v6 ∧ v6 < (v7.length : Int)) ∧ (True ∧ (AV.agg ((((List.map enc_si v7).getD (0 + v6.toNat) []).drop 0 |>.take 2).map .v) = .agg [.v (.string ((gt v7 v6).1)), .v (.int .i64 ((gt v7 v6).2))])) ∧ (0 ≤ v6 ∧ v6 < (v7.length : Int)) ∧ (0 ≤ (IntKind.wrap .i64 (v6 - 1)) ∧ (IntKind.wrap .i64 (v6 - 1)) < (v7.length : Int)) ∧ True) (by kernel_rfl) ⟨g4, ⟨⟨trivial, (congrArg (fun z : List Value => AV.agg (((z.drop 0).take 2).map .v)) (idx_arr (enc := enc_si) rfl g4))⟩, ⟨g3, ⟨⟨trivial, (congrArg (fun z : List Value => AV.agg (((z.drop 0).take 2).map .v)) (idx_arr (enc := enc_si) rfl g3))⟩, ⟨g3, ⟨g4, trivial⟩⟩⟩⟩⟩⟩ trivial ?_
        refine AX.reg (its := [.auto {}, .auto { raw := true }]) [0, 1, 2, 3, 8, 9] [0] (s1 := ⟨[(0, .sl 0 0 v7.length), (1, .v (.int .i64 p1)), (2, .v (.int .i64 p2)), (3, .fn 45 []), (8, .v (.int .i64 v4)), (9, .v (.int .i64 (IntKind.wrap .i64 (v6 - 1))))], [(0, .arr 2 (((List.map enc_si v7).set (0 + v6.toNat) [(.string ((gt v7 (IntKind.wrap .i64 (v6 - 1))).1)), (.int .i64 ((gt v7 (IntKind.wrap .i64 (v6 - 1))).2))]).set (0 + (IntKind.wrap .i64 (v6 - 1)).toNat) [(.string ((gt v7 v6).1)), (.int .i64 ((gt v7 v6).2))]))]⟩) (C := True) (by kernel_rfl) trivial trivial ?_
        refine ⟨(fu, (IntKind.wrap .i64 (v6 - 1), (v7.set (0 + v6.toNat) ((gt v7 (IntKind.wrap .i64 (v6 - 1))).1, (gt v7 (IntKind.wrap .i64 (v6 - 1))).2)).set (0 + (IntKind.wrap .i64 (v6 - 1)).toNat) ((gt v7 v6).1, (gt v7 v6).2))), h, Nat.lt_succ_self _, ?_⟩
        refine Wk.trans (Wk.forget [0, 1, 2, 3, 8, 9] [0] (s' := ⟨[(0, .sl 0 0 v7.length), (1, .v (.int .i64 p1)), (2, .v (.int .i64 p2)), (3, .fn 45 []), (8, .v (.int .i64 v4)), (9, .v (.int .i64 (IntKind.wrap .i64 (v6 - 1))))], [(0, .arr 2 (((List.map enc_si v7).set (0 + v6.toNat) [(.string ((gt v7 (IntKind.wrap .i64 (v6 - 1))).1)), (.int .i64 ((gt v7 (IntKind.wrap .i64 (v6 - 1))).2))]).set (0 + (IntKind.wrap .i64 (v6 - 1)).toNat) [(.string ((gt v7 v6).1)), (.int .i64 ((gt v7 v6).2))]))]⟩) (by kernel_rfl)) ?_
        refine Wk.trans (Wk.of_eq (congrArg (fun z => (⟨[(0, .sl 0 0 v7.length), (1, .v (.int .i64 p1)), (2, .v (.int .i64 p2)), (3, .fn 45 []), (8, .v (.int .i64 v4)), (9, .v (.int .i64 (IntKind.wrap .i64 (v6 - 1))))], [(0, .arr 2 (z))]⟩ : S)) (set_can (enc := enc_si) (set_can (enc := enc_si) rfl (0 + v6.toNat) ((gt v7 (IntKind.wrap .i64 (v6 - 1))).1, (gt v7 (IntKind.wrap .i64 (v6 - 1))).2)) (0 + (IntKind.wrap .i64 (v6 - 1)).toNat) ((gt v7 v6).1, (gt v7 v6).2)))) ?_
        refine Wk.trans (Wk.of_eq (congrArg (fun z => (⟨[(0, .sl 0 0 z), (1, .v (.int .i64 p1)), (2, .v (.int .i64 p2)), (3, .fn 45 []), (8, .v (.int .i64 v4)), (9, .v (.int .i64 (IntKind.wrap .i64 (v6 - 1))))], [(0, .arr 2 (List.map enc_si ((v7.set (0 + v6.toNat) ((gt v7 (IntKind.wrap .i64 (v6 - 1))).1, (gt v7 (IntKind.wrap .i64 (v6 - 1))).2)).set (0 + (IntKind.wrap .i64 (v6 - 1)).toNat) ((gt v7 v6).1, (gt v7 v6).2))))]⟩ : S)) (set_len ((set_len ((rfl : v7.length = v7.length)) (0 + v6.toNat) ((gt v7 (IntKind.wrap .i64 (v6 - 1))).1, (gt v7 (IntKind.wrap .i64 (v6 - 1))).2) : v7.length = (v7.set (0 + v6.toNat) ((gt v7 (IntKind.wrap .i64 (v6 - 1))).1, (gt v7 (IntKind.wrap .i64 (v6 - 1))).2)).length)) (0 + (IntKind.wrap .i64 (v6 - 1)).toNat) ((gt v7 v6).1, (gt v7 v6).2)))) ?_
        exact Wk.refl _
      · replace h := cd_f b6 h
        refine AX.condF (decide (x8 < 0)) (by kernel_rfl) b6 ?_
        refine AX.exit ?_
        refine fin_wk (Wk.forget [0, 1, 2, 3, 8] [0] (s' := ⟨[(0, .sl 0 0 v7.length), (1, .v (.int .i64 p1)), (2, .v (.int .i64 p2)), (3, .fn 45 []), (8, .v (.int .i64 v4))], [(0, .arr 2 (List.map enc_si v7))]⟩) (by kernel_rfl)) ?_
        have hr := Option.some.inj h
        subst hr
        exact ⟨_, Wk.refl _, ⟨rfl, rfl⟩⟩
    · replace h := cd_f b2 h
      refine AX.drw mixed (its := [.auto {}, .auto {}, .auto { y := some (.v (.bool false)) }]) [0, 1, 2, 3, 8, 9, 34] [0] (s1 := ⟨[(0, .sl 0 0 v7.length), (1, .v (.int .i64 p1)), (2, .v (.int .i64 p2)), (3, .fn 45 []), (8, .v (.int .i64 v4)), (9, .v (.int .i64 v6)), (34, .v (.bool false))], [(0, .arr 2 (List.map enc_si v7))]⟩) (C := ((True) ∧ ((.v (.bool (decide (p1 < v6))) : AV) = (.v (.bool false) : AV))) ∧ True) (by kernel_rfl) ⟨⟨trivial, (congrArg (fun z => AV.v (.bool z)) b2)⟩, trivial⟩ trivial ?_
      refine AX.cond_false (by kernel_rfl) ?_
      refine AX.exit ?_
      refine fin_wk (Wk.forget [0, 1, 2, 3, 8] [0] (s' := ⟨[(0, .sl 0 0 v7.length), (1, .v (.int .i64 p1)), (2, .v (.int .i64 p2)), (3, .fn 45 []), (8, .v (.int .i64 v4))], [(0, .arr 2 (List.map enc_si v7))]⟩) (by kernel_rfl)) ?_
      have hr := Option.some.inj h
      subst hr
      exact ⟨_, Wk.refl _, ⟨rfl, rfl⟩⟩

theorem s_slices_insertionSortCmpFunc_h_SortEnum_1_si_L1 (p1 : Int) (p2 : Int) (n : Nat) (g : Int × (List (ByteArray × Int))) (out : List (ByteArray × Int)) (h : m_slices_insertionSortCmpFunc_h_SortEnum_1_si_L1 p1 p2 n g.1 g.2 = some out) :
    AX Tryd.prog 53 1 (codeAt [1, 1] (bodyOf Tryd.f83)) ((fun g : Int × (List (ByteArray × Int)) => (⟨[(0, .sl 0 0 g.2.length), (1, .v (.int .i64 p1)), (2, .v (.int .i64 p2)), (3, .fn 45 []), (8, .v (.int .i64 g.1))], [(0, .arr 2 (List.map enc_si g.2))]⟩ : S)) g) (fun ex s => ex = .exit 0 ∧ s = (fun o : List (ByteArray × Int) => (⟨[], [(0, .arr 2 (List.map enc_si o))]⟩ : S)) out) := by
  refine AX.wkpost ?_
  refine AX.loop (G := Nat × (Int × (List (ByteArray × Int)))) (fun q => (fun g : Int × (List (ByteArray × Int)) => (⟨[(0, .sl 0 0 g.2.length), (1, .v (.int .i64 p1)), (2, .v (.int .i64 p2)), (3, .fn 45 []), (8, .v (.int .i64 g.1))], [(0, .arr 2 (List.map enc_si g.2))]⟩ : S)) q.2) (fun q => m_slices_insertionSortCmpFunc_h_SortEnum_1_si_L1 p1 p2 q.1 q.2.1 q.2.2 = some out) (fun q => q.1) (n, g) h (Wk.refl _) ?_
  clear h
  rintro ⟨fu, v4, v5⟩ h
  cases fu with
  | zero => cases h
  | succ fu =>
    rw [m_slices_insertionSortCmpFunc_h_SortEnum_1_si_L1] at h
    refine AX.seq ?_
    refine AX.seq ?_
    refine AX.reg (its := []) [0, 1, 2, 3, 8, 14] [0] (s1 := ⟨[(0, .sl 0 0 v5.length), (1, .v (.int .i64 p1)), (2, .v (.int .i64 p2)), (3, .fn 45 []), (8, .v (.int .i64 v4)), (14, .v (.bool (decide (v4 < p2))))], [(0, .arr 2 (List.map enc_si v5))]⟩) (C := True) (by kernel_rfl) trivial trivial ?_
    rcases bool_cases (decide (v4 < p2)) with b1 | b1
    · replace h := cd_t b1 h
      refine AX.condT (decide (v4 < p2)) (by kernel_rfl) b1 ?_
      refine AX.skip ?_
      refine AX.seq ?_
      refine AX.block ?_
      refine AX.seq ?_
      refine AX.reg (its := []) [0, 1, 2, 3, 8, 9] [0] (s1 := ⟨[(0, .sl 0 0 v5.length), (1, .v (.int .i64 p1)), (2, .v (.int .i64 p2)), (3, .fn 45 []), (8, .v (.int .i64 v4)), (9, .v (.int .i64 v4))], [(0, .arr 2 (List.map enc_si v5))]⟩) (C := True) (by kernel_rfl) trivial trivial ?_
      refine AX.block ?_
      obtain ⟨x9, e7, h⟩ := bd_e h
      refine AX.wk (Wk.forget [0, 1, 2, 3, 8, 9] [0] (s' := ⟨[(0, .sl 0 0 v5.length), (1, .v (.int .i64 p1)), (2, .v (.int .i64 p2)), (3, .fn 45 []), (8, .v (.int .i64 v4)), (9, .v (.int .i64 v4))], [(0, .arr 2 (List.map enc_si v5))]⟩) (by kernel_rfl)) ?_
      refine AX.mono (s_slices_insertionSortCmpFunc_h_SortEnum_1_si_L2 p1 p2 v4 FU (v4, v5) x9 e7) ?_
      rintro _ _ ⟨rfl, rfl⟩
      skip
      refine AX.reg (its := [.auto {}, .auto { raw := true }]) [0, 1, 2, 3, 8] [0] (s1 := ⟨[(0, .sl 0 0 x9.length), (1, .v (.int .i64 p1)), (2, .v (.int .i64 p2)), (3, .fn 45 []), (8, .v (.int .i64 (IntKind.wrap .i64 (v4 + 1))))], [(0, .arr 2 (List.map enc_si x9))]⟩) (C := True) (by kernel_rfl) trivial trivial ?_
      refine ⟨(fu, (IntKind.wrap .i64 (v4 + 1), x9)), h, Nat.lt_succ_self _, ?_⟩
      refine Wk.trans (Wk.forget [0, 1, 2, 3, 8] [0] (s' := ⟨[(0, .sl 0 0 x9.length), (1, .v (.int .i64 p1)), (2, .v (.int .i64 p2)), (3, .fn 45 []), (8, .v (.int .i64 (IntKind.wrap .i64 (v4 + 1))))], [(0, .arr 2 (List.map enc_si x9))]⟩) (by kernel_rfl)) ?_
      exact Wk.refl _
    · replace h := cd_f b1 h
      refine AX.condF (decide (v4 < p2)) (by kernel_rfl) b1 ?_
      refine AX.exit ?_
      refine fin_wk (Wk.forget [] [0] (s' := ⟨[], [(0, .arr 2 (List.map enc_si v5))]⟩) (by kernel_rfl)) ?_
      have hr := Option.some.inj h
      subst hr
      exact ⟨_, Wk.refl _, ⟨rfl, rfl⟩⟩

theorem s_slices_insertionSortCmpFunc_h_SortEnum_1_si (p1 : Int) (p2 : Int) (p3 : List (ByteArray × Int)) (r : List (ByteArray × Int)) (h : m_slices_insertionSortCmpFunc_h_SortEnum_1_si p1 p2 p3 = some r) :
    Eng.Spec Tryd.prog 83 [.sl 0 0 p3.length, .v (.int .i64 p1), .v (.int .i64 p2), .fn 45 []] [.arr 2 (List.map enc_si p3)] (.tup []) [.arr 2 (List.map enc_si r)] := by
  unfold m_slices_insertionSortCmpFunc_h_SortEnum_1_si at h
  refine Eng.Spec.body Tryd.func83 (by kernel_rfl) rfl (by kernel_rfl) ?_
  refine AX.wkpost ?_
  refine AX.seq ?_
  refine AX.reg (its := [.auto {}, .auto { raw := true }]) [0, 1, 2, 3, 8] [0] (s1 := ⟨[(0, .sl 0 0 p3.length), (1, .v (.int .i64 p1)), (2, .v (.int .i64 p2)), (3, .fn 45 []), (8, .v (.int .i64 (IntKind.wrap .i64 (p1 + 1))))], [(0, .arr 2 (List.map enc_si p3))]⟩) (C := True) (by kernel_rfl) trivial trivial ?_
  refine AX.block ?_
  obtain ⟨x10, e8, h⟩ := bd_e h
  refine AX.wk (Wk.forget [0, 1, 2, 3, 8] [0] (s' := ⟨[(0, .sl 0 0 p3.length), (1, .v (.int .i64 p1)), (2, .v (.int .i64 p2)), (3, .fn 45 []), (8, .v (.int .i64 (IntKind.wrap .i64 (p1 + 1))))], [(0, .arr 2 (List.map enc_si p3))]⟩) (by kernel_rfl)) ?_
  refine AX.mono (s_slices_insertionSortCmpFunc_h_SortEnum_1_si_L1 p1 p2 FU (IntKind.wrap .i64 (p1 + 1), p3) x10 e8) ?_
  rintro _ _ ⟨rfl, rfl⟩
  skip
  refine fin_wk (Wk.forget [] [0] (s' := ⟨[], [(0, .arr 2 (List.map enc_si x10))]⟩) (by kernel_rfl)) ?_
  have hr := Option.some.inj h
  subst hr
  exact ⟨_, Wk.refl _, .inl rfl, ⟨[], by kernel_rfl, ⟨rfl, trivial⟩, [], by kernel_rfl, by kernel_rfl⟩⟩

theorem s_slices_stableCmpFunc_h_SortEnum_1_si_L1 (p1 : Int) (n : Nat) (g : Int × Int × (List (ByteArray × Int))) (out : Int × (List (ByteArray × Int))) (h : m_slices_stableCmpFunc_h_SortEnum_1_si_L1 p1 n g.1 g.2.1 g.2.2 = some out) :
    AX Tryd.prog 63 1 (codeAt [1, 1, 0, 1] (bodyOf Tryd.f69)) ((fun g : Int × Int × (List (ByteArray × Int)) => (⟨[(0, .sl 0 0 g.2.2.length), (1, .v (.int .i64 p1)), (2, .fn 45 []), (6, .v (.int .i64 20)), (7, .v (.int .i64 g.1)), (8, .v (.int .i64 g.2.1))], [(0, .arr 2 (List.map enc_si g.2.2))]⟩ : S)) g) (fun ex s => ex = .exit 0 ∧ s = (fun o : Int × (List (ByteArray × Int)) => (⟨[(0, .sl 0 0 o.2.length), (1, .v (.int .i64 p1)), (2, .fn 45 []), (6, .v (.int .i64 20)), (7, .v (.int .i64 o.1))], [(0, .arr 2 (List.map enc_si o.2))]⟩ : S)) out) := by
  refine AX.wkpost ?_
  refine AX.loop (G := Nat × (Int × Int × (List (ByteArray × Int)))) (fun q => (fun g : Int × Int × (List (ByteArray × Int)) => (⟨[(0, .sl 0 0 g.2.2.length), (1, .v (.int .i64 p1)), (2, .fn 45 []), (6, .v (.int .i64 20)), (7, .v (.int .i64 g.1)), (8, .v (.int .i64 g.2.1))], [(0, .arr 2 (List.map enc_si g.2.2))]⟩ : S)) q.2) (fun q => m_slices_stableCmpFunc_h_SortEnum_1_si_L1 p1 q.1 q.2.1 q.2.2.1 q.2.2.2 = some out) (fun q => q.1) (n, g) h (Wk.refl _) ?_
  clear h
  rintro ⟨fu, v3, v4, v5⟩ h
  cases fu with
  | zero => cases h
  | succ fu =>
    rw [m_slices_stableCmpFunc_h_SortEnum_1_si_L1] at h
    refine AX.seq ?_
    refine AX.seq ?_
    refine AX.reg (its := []) [0, 1, 2, 6, 7, 8, 13] [0] (s1 := ⟨[(0, .sl 0 0 v5.length), (1, .v (.int .i64 p1)), (2, .fn 45 []), (6, .v (.int .i64 20)), (7, .v (.int .i64 v3)), (8, .v (.int .i64 v4)), (13, .v (.bool (decide (v4 ≤ p1))))], [(0, .arr 2 (List.map enc_si v5))]⟩) (C := True) (by kernel_rfl) trivial trivial ?_
    rcases bool_cases (decide (v4 ≤ p1)) with b1 | b1
    · replace h := cd_t b1 h
      refine AX.condT (decide (v4 ≤ p1)) (by kernel_rfl) b1 ?_
      refine AX.skip ?_
      refine AX.block ?_
      refine AX.seq ?_
      obtain ⟨x6, e2, h⟩ := bd_e h
      obtain ⟨g3, h⟩ := gd_e h
      refine AX.reg (its := [.auto {}, .auto {}, .auto {}, .auto {}, .call 83 [.sl 0 0 v5.length, .v (.int .i64 v3), .v (.int .i64 v4), .fn 45 []] (handO (rho ([0] ++ [])) [0] [.arr 2 (List.map enc_si v5)] ++ []) (callEv [0] [] (.tup []) [.arr 2 (List.map enc_si x6)])]) [0, 1, 2, 6, 8] [0] (s1 := ⟨[(0, .sl 0 0 v5.length), (1, .v (.int .i64 p1)), (2, .fn 45 []), (6, .v (.int .i64 20)), (8, .v (.int .i64 v4))], [(0, .arr 2 (List.map enc_si x6))]⟩) (C := ((([.sl 0 0 v5.length, .v (.int .i64 v3), .v (.int .i64 v4), .fn 45 []] : List AV) = [.sl 0 0 v5.length, .v (.int .i64 v3), .v (.int .i64 v4), .fn 45 []]) ∧ (AO.arr 2 (List.map enc_si v5) = AO.arr 2 (List.map enc_si v5)) ∧ True) ∧ True) (by kernel_rfl) ⟨⟨rfl, rfl, trivial⟩, trivial⟩ ⟨call_ok (ks := [0]) (ns := []) (bor := []) (bobjs := []) (s_slices_insertionSortCmpFunc_h_SortEnum_1_si v3 v4 v5 x6 e2) (.cons (.c1 (.c0 (.same _ (by kernel_rfl) (by kernel_rfl)))) (.cons (.c1 (.c0 (.same _ (by kernel_rfl) (by kernel_rfl)))) (.cons (.c1 (.c0 (.same _ (by kernel_rfl) (by kernel_rfl)))) (.cons (.fn (.nil)) (.nil))))) (by kernel_rfl) ⟨.inr (arr_sh (enc := enc_si) g3), trivial⟩, trivial⟩ ?_
      refine AX.seq ?_
      refine AX.reg (its := []) [0, 1, 2, 6, 7, 8] [0] (s1 := ⟨[(0, .sl 0 0 v5.length), (1, .v (.int .i64 p1)), (2, .fn 45 []), (6, .v (.int .i64 20)), (7, .v (.int .i64 v4)), (8, .v (.int .i64 v4))], [(0, .arr 2 (List.map enc_si x6))]⟩) (C := True) (by kernel_rfl) trivial trivial ?_
      refine AX.reg (its := [.auto {}, .auto {}, .auto { raw := true }]) [0, 1, 2, 6, 7, 8] [0] (s1 := ⟨[(0, .sl 0 0 v5.length), (1, .v (.int .i64 p1)), (2, .fn 45 []), (6, .v (.int .i64 20)), (7, .v (.int .i64 v4)), (8, .v (.int .i64 (IntKind.wrap .i64 (v4 + 20))))], [(0, .arr 2 (List.map enc_si x6))]⟩) (C := True) (by kernel_rfl) trivial trivial ?_
      refine ⟨(fu, (v4, IntKind.wrap .i64 (v4 + 20), x6)), h, Nat.lt_succ_self _, ?_⟩
      refine Wk.trans (Wk.forget [0, 1, 2, 6, 7, 8] [0] (s' := ⟨[(0, .sl 0 0 v5.length), (1, .v (.int .i64 p1)), (2, .fn 45 []), (6, .v (.int .i64 20)), (7, .v (.int .i64 v4)), (8, .v (.int .i64 (IntKind.wrap .i64 (v4 + 20))))], [(0, .arr 2 (List.map enc_si x6))]⟩) (by kernel_rfl)) ?_
      refine Wk.trans (Wk.of_eq (congrArg (fun z => (⟨[(0, .sl 0 0 z), (1, .v (.int .i64 p1)), (2, .fn 45 []), (6, .v (.int .i64 20)), (7, .v (.int .i64 v4)), (8, .v (.int .i64 (IntKind.wrap .i64 (v4 + 20))))], [(0, .arr 2 (List.map enc_si x6))]⟩ : S)) (((rfl : v5.length = v5.length)).trans (g3).symm))) ?_
      exact Wk.refl _
    · replace h := cd_f b1 h
      refine AX.condF (decide (v4 ≤ p1)) (by kernel_rfl) b1 ?_
      refine AX.exit ?_
      refine fin_wk (Wk.forget [0, 1, 2, 6, 7] [0] (s' := ⟨[(0, .sl 0 0 v5.length), (1, .v (.int .i64 p1)), (2, .fn 45 []), (6, .v (.int .i64 20)), (7, .v (.int .i64 v3))], [(0, .arr 2 (List.map enc_si v5))]⟩) (by kernel_rfl)) ?_
      have hr := Option.some.inj h
      subst hr
      exact ⟨_, Wk.refl _, ⟨rfl, rfl⟩⟩

theorem s_slices_stableCmpFunc_h_SortEnum_1_si_L3 (p1 : Int) (x8 : List (ByteArray × Int)) (v9 : Int) (n : Nat) (g : Unit) (out : Unit) (h : m_slices_stableCmpFunc_h_SortEnum_1_si_L3 p1 x8 v9 n = some out) :
    AX Tryd.prog 63 1 (codeAt [1, 1, 1, 1, 1, 1, 1, 1, 1, 0, 1] (bodyOf Tryd.f69)) ((fun g : Unit => (⟨[(0, .sl 0 0 x8.length), (1, .v (.int .i64 p1)), (2, .fn 45 []), (6, .v (.int .i64 v9)), (7, .v (.int .i64 0)), (8, .v (.int .i64 (IntKind.wrap .i64 (2 * v9))))], [(0, .arr 2 (List.map enc_si x8))]⟩ : S)) g) (fun ex s => ex = .exit 4 ∧ s = (fun o : Unit => (⟨[(0, .sl 0 0 x8.length), (1, .v (.int .i64 p1)), (2, .fn 45 []), (6, .v (.int .i64 v9)), (7, .v (.int .i64 0))], [(0, .arr 2 (List.map enc_si x8))]⟩ : S)) out) := by
  refine AX.wkpost ?_
  refine AX.loop (G := Nat × (Unit)) (fun q => (fun g : Unit => (⟨[(0, .sl 0 0 x8.length), (1, .v (.int .i64 p1)), (2, .fn 45 []), (6, .v (.int .i64 v9)), (7, .v (.int .i64 0)), (8, .v (.int .i64 (IntKind.wrap .i64 (2 * v9))))], [(0, .arr 2 (List.map enc_si x8))]⟩ : S)) q.2) (fun q => m_slices_stableCmpFunc_h_SortEnum_1_si_L3 p1 x8 v9 q.1 = some out) (fun q => q.1) (n, g) h (Wk.refl _) ?_
  clear h
  rintro ⟨fu, _⟩ h
  cases fu with
  | zero => cases h
  | succ fu =>
    rw [m_slices_stableCmpFunc_h_SortEnum_1_si_L3] at h
    refine AX.seq ?_
    refine AX.seq ?_
    refine AX.reg (its := []) [0, 1, 2, 6, 7, 8, 35] [0] (s1 := ⟨[(0, .sl 0 0 x8.length), (1, .v (.int .i64 p1)), (2, .fn 45 []), (6, .v (.int .i64 v9)), (7, .v (.int .i64 0)), (8, .v (.int .i64 (IntKind.wrap .i64 (2 * v9)))), (35, .v (.bool (decide ((IntKind.wrap .i64 (2 * v9)) ≤ p1))))], [(0, .arr 2 (List.map enc_si x8))]⟩) (C := True) (by kernel_rfl) trivial trivial ?_
    rcases bool_cases (decide ((IntKind.wrap .i64 (2 * v9)) ≤ p1)) with b8 | b8
    · replace h := cd_t b8 h
      refine AX.condT (decide ((IntKind.wrap .i64 (2 * v9)) ≤ p1)) (by kernel_rfl) b8 ?_
      refine AX.skip ?_
      refine AX.block ?_
      refine AX.seq ?_
      cases h
    · replace h := cd_f b8 h
      refine AX.condF (decide ((IntKind.wrap .i64 (2 * v9)) ≤ p1)) (by kernel_rfl) b8 ?_
      refine AX.exit ?_
      refine fin_wk (Wk.forget [0, 1, 2, 6, 7] [0] (s' := ⟨[(0, .sl 0 0 x8.length), (1, .v (.int .i64 p1)), (2, .fn 45 []), (6, .v (.int .i64 v9)), (7, .v (.int .i64 0))], [(0, .arr 2 (List.map enc_si x8))]⟩) (by kernel_rfl)) ?_
      have hr := Option.some.inj h
      subst hr
      exact ⟨_, Wk.refl _, ⟨rfl, rfl⟩⟩

theorem s_slices_stableCmpFunc_h_SortEnum_1_si_L2 (p1 : Int) (x8 : List (ByteArray × Int)) (n : Nat) (g : Int) (out : Unit) (h : m_slices_stableCmpFunc_h_SortEnum_1_si_L2 p1 x8 n g = some out) :
    AX Tryd.prog 63 1 (codeAt [1, 1, 1, 1, 1] (bodyOf Tryd.f69)) ((fun g : Int => (⟨[(0, .sl 0 0 x8.length), (1, .v (.int .i64 p1)), (2, .fn 45 []), (6, .v (.int .i64 g))], [(0, .arr 2 (List.map enc_si x8))]⟩ : S)) g) (fun ex s => ex = .exit 2 ∧ s = (fun o : Unit => (⟨[], [(0, .arr 2 (List.map enc_si x8))]⟩ : S)) out) := by
  refine AX.wkpost ?_
  refine AX.loop (G := Nat × (Int)) (fun q => (fun g : Int => (⟨[(0, .sl 0 0 x8.length), (1, .v (.int .i64 p1)), (2, .fn 45 []), (6, .v (.int .i64 g))], [(0, .arr 2 (List.map enc_si x8))]⟩ : S)) q.2) (fun q => m_slices_stableCmpFunc_h_SortEnum_1_si_L2 p1 x8 q.1 q.2 = some out) (fun q => q.1) (n, g) h (Wk.refl _) ?_
  clear h
  rintro ⟨fu, v9⟩ h
  cases fu with
  | zero => cases h
  | succ fu =>
    rw [m_slices_stableCmpFunc_h_SortEnum_1_si_L2] at h
    refine AX.seq ?_
    refine AX.seq ?_
    refine AX.reg (its := []) [0, 1, 2, 6, 30] [0] (s1 := ⟨[(0, .sl 0 0 x8.length), (1, .v (.int .i64 p1)), (2, .fn 45 []), (6, .v (.int .i64 v9)), (30, .v (.bool (decide (v9 < p1))))], [(0, .arr 2 (List.map enc_si x8))]⟩) (C := True) (by kernel_rfl) trivial trivial ?_
    rcases bool_cases (decide (v9 < p1)) with b7 | b7
    · replace h := cd_t b7 h
      refine AX.condT (decide (v9 < p1)) (by kernel_rfl) b7 ?_
      refine AX.skip ?_
      refine AX.block ?_
      refine AX.seq ?_
      refine AX.reg (its := [.auto {}, .auto { raw := true }]) [0, 1, 2, 6, 7, 8] [0] (s1 := ⟨[(0, .sl 0 0 x8.length), (1, .v (.int .i64 p1)), (2, .fn 45 []), (6, .v (.int .i64 v9)), (7, .v (.int .i64 0)), (8, .v (.int .i64 (IntKind.wrap .i64 (2 * v9))))], [(0, .arr 2 (List.map enc_si x8))]⟩) (C := True) (by kernel_rfl) trivial trivial ?_
      refine AX.seq ?_
      refine AX.block ?_
      obtain ⟨x10, e9, h⟩ := bd_e h
      refine AX.wk (Wk.forget [0, 1, 2, 6, 7, 8] [0] (s' := ⟨[(0, .sl 0 0 x8.length), (1, .v (.int .i64 p1)), (2, .fn 45 []), (6, .v (.int .i64 v9)), (7, .v (.int .i64 0)), (8, .v (.int .i64 (IntKind.wrap .i64 (2 * v9))))], [(0, .arr 2 (List.map enc_si x8))]⟩) (by kernel_rfl)) ?_
      refine AX.mono (s_slices_stableCmpFunc_h_SortEnum_1_si_L3 p1 x8 v9 FU () x10 e9) ?_
      rintro _ _ ⟨rfl, rfl⟩
      skip
      refine AX.seq ?_
      refine AX.seq ?_
      refine AX.reg (its := [.auto {}, .auto {}, .auto { raw := true }]) [0, 1, 2, 6, 7, 9] [0] (s1 := ⟨[(0, .sl 0 0 x8.length), (1, .v (.int .i64 p1)), (2, .fn 45 []), (6, .v (.int .i64 v9)), (7, .v (.int .i64 0)), (9, .v (.int .i64 (IntKind.wrap .i64 (0 + v9))))], [(0, .arr 2 (List.map enc_si x8))]⟩) (C := True) (by kernel_rfl) trivial trivial ?_
      refine AX.seq ?_
      refine AX.reg (its := []) [0, 1, 2, 6, 7, 9, 54] [0] (s1 := ⟨[(0, .sl 0 0 x8.length), (1, .v (.int .i64 p1)), (2, .fn 45 []), (6, .v (.int .i64 v9)), (7, .v (.int .i64 0)), (9, .v (.int .i64 (IntKind.wrap .i64 (0 + v9)))), (54, .v (.bool (decide ((IntKind.wrap .i64 (0 + v9)) < p1))))], [(0, .arr 2 (List.map enc_si x8))]⟩) (C := True) (by kernel_rfl) trivial trivial ?_
      rcases bool_cases (decide ((IntKind.wrap .i64 (0 + v9)) < p1)) with b10 | b10
      · replace h := cd_t b10 h
        refine AX.condT (decide ((IntKind.wrap .i64 (0 + v9)) < p1)) (by kernel_rfl) b10 ?_
        cases h
      · replace h := cd_f b10 h
        refine AX.condF (decide ((IntKind.wrap .i64 (0 + v9)) < p1)) (by kernel_rfl) b10 ?_
        refine AX.skip ?_
        refine AX.reg (its := [.auto {}, .auto { raw := true }]) [0, 1, 2, 6] [0] (s1 := ⟨[(0, .sl 0 0 x8.length), (1, .v (.int .i64 p1)), (2, .fn 45 []), (6, .v (.int .i64 (IntKind.wrap .i64 (v9 * 2))))], [(0, .arr 2 (List.map enc_si x8))]⟩) (C := True) (by kernel_rfl) trivial trivial ?_
        refine ⟨(fu, IntKind.wrap .i64 (v9 * 2)), h, Nat.lt_succ_self _, ?_⟩
        refine Wk.trans (Wk.forget [0, 1, 2, 6] [0] (s' := ⟨[(0, .sl 0 0 x8.length), (1, .v (.int .i64 p1)), (2, .fn 45 []), (6, .v (.int .i64 (IntKind.wrap .i64 (v9 * 2))))], [(0, .arr 2 (List.map enc_si x8))]⟩) (by kernel_rfl)) ?_
        exact Wk.refl _
    · replace h := cd_f b7 h
      refine AX.condF (decide (v9 < p1)) (by kernel_rfl) b7 ?_
      refine AX.exit ?_
      refine fin_wk (Wk.forget [] [0] (s' := ⟨[], [(0, .arr 2 (List.map enc_si x8))]⟩) (by kernel_rfl)) ?_
      have hr := Option.some.inj h
      subst hr
      exact ⟨_, Wk.refl _, ⟨rfl, rfl⟩⟩

theorem s_slices_stableCmpFunc_h_SortEnum_1_si (p1 : Int) (p2 : List (ByteArray × Int)) (r : List (ByteArray × Int)) (h : m_slices_stableCmpFunc_h_SortEnum_1_si p1 p2 = some r) :
    Eng.Spec Tryd.prog 69 [.sl 0 0 p2.length, .v (.int .i64 p1), .fn 45 []] [.arr 2 (List.map enc_si p2)] (.tup []) [.arr 2 (List.map enc_si r)] := by
  unfold m_slices_stableCmpFunc_h_SortEnum_1_si at h
  refine Eng.Spec.body Tryd.func69 (by kernel_rfl) rfl (by kernel_rfl) ?_
  refine AX.wkpost ?_
  refine AX.seq ?_
  refine AX.reg (its := []) [0, 1, 2, 6] [0] (s1 := ⟨[(0, .sl 0 0 p2.length), (1, .v (.int .i64 p1)), (2, .fn 45 []), (6, .v (.int .i64 20))], [(0, .arr 2 (List.map enc_si p2))]⟩) (C := True) (by kernel_rfl) trivial trivial ?_
  refine AX.seq ?_
  refine AX.reg (its := []) [0, 1, 2, 6, 7, 8] [0] (s1 := ⟨[(0, .sl 0 0 p2.length), (1, .v (.int .i64 p1)), (2, .fn 45 []), (6, .v (.int .i64 20)), (7, .v (.int .i64 0)), (8, .v (.int .i64 20))], [(0, .arr 2 (List.map enc_si p2))]⟩) (C := True) (by kernel_rfl) trivial trivial ?_
  refine AX.seq ?_
  refine AX.block ?_
  obtain ⟨x7, e4, h⟩ := bd_e h
  refine AX.wk (Wk.forget [0, 1, 2, 6, 7, 8] [0] (s' := ⟨[(0, .sl 0 0 p2.length), (1, .v (.int .i64 p1)), (2, .fn 45 []), (6, .v (.int .i64 20)), (7, .v (.int .i64 0)), (8, .v (.int .i64 20))], [(0, .arr 2 (List.map enc_si p2))]⟩) (by kernel_rfl)) ?_
  refine AX.mono (s_slices_stableCmpFunc_h_SortEnum_1_si_L1 p1 FU (0, 20, p2) x7 e4) ?_
  rintro _ _ ⟨rfl, rfl⟩
  skip
  refine AX.seq ?_
  obtain ⟨x8, e5, h⟩ := bd_e h
  obtain ⟨g6, h⟩ := gd_e h
  refine AX.reg (its := [.auto {}, .auto {}, .auto {}, .auto {}, .call 83 [.sl 0 0 x7.2.length, .v (.int .i64 x7.1), .v (.int .i64 p1), .fn 45 []] (handO (rho ([0] ++ [])) [0] [.arr 2 (List.map enc_si x7.2)] ++ []) (callEv [0] [] (.tup []) [.arr 2 (List.map enc_si x8)])]) [0, 1, 2, 6] [0] (s1 := ⟨[(0, .sl 0 0 x7.2.length), (1, .v (.int .i64 p1)), (2, .fn 45 []), (6, .v (.int .i64 20))], [(0, .arr 2 (List.map enc_si x8))]⟩) (C := ((([.sl 0 0 x7.2.length, .v (.int .i64 x7.1), .v (.int .i64 p1), .fn 45 []] : List AV) = [.sl 0 0 x7.2.length, .v (.int .i64 x7.1), .v (.int .i64 p1), .fn 45 []]) ∧ (AO.arr 2 (List.map enc_si x7.2) = AO.arr 2 (List.map enc_si x7.2)) ∧ True) ∧ True) (by kernel_rfl) ⟨⟨rfl, rfl, trivial⟩, trivial⟩ ⟨call_ok (ks := [0]) (ns := []) (bor := []) (bobjs := []) (s_slices_insertionSortCmpFunc_h_SortEnum_1_si x7.1 p1 x7.2 x8 e5) (.cons (.c1 (.c0 (.same _ (by kernel_rfl) (by kernel_rfl)))) (.cons (.c1 (.c0 (.same _ (by kernel_rfl) (by kernel_rfl)))) (.cons (.c1 (.c0 (.same _ (by kernel_rfl) (by kernel_rfl)))) (.cons (.fn (.nil)) (.nil))))) (by kernel_rfl) ⟨.inr (arr_sh (enc := enc_si) g6), trivial⟩, trivial⟩ ?_
  refine AX.block ?_
  obtain ⟨x11, e11, h⟩ := bd_e h
  refine AX.wk (Wk.forget [0, 1, 2, 6] [0] (s' := ⟨[(0, .sl 0 0 x7.2.length), (1, .v (.int .i64 p1)), (2, .fn 45 []), (6, .v (.int .i64 20))], [(0, .arr 2 (List.map enc_si x8))]⟩) (by kernel_rfl)) ?_
  refine AX.wk (Wk.of_eq (congrArg (fun z => (⟨[(0, .sl 0 0 z), (1, .v (.int .i64 p1)), (2, .fn 45 []), (6, .v (.int .i64 20))], [(0, .arr 2 (List.map enc_si x8))]⟩ : S)) (((rfl : x7.2.length = x7.2.length)).trans (g6).symm))) ?_
  refine AX.mono (s_slices_stableCmpFunc_h_SortEnum_1_si_L2 p1 x8 FU 20 x11 e11) ?_
  rintro _ _ ⟨rfl, rfl⟩
  skip
  refine fin_wk (Wk.forget [] [0] (s' := ⟨[], [(0, .arr 2 (List.map enc_si x8))]⟩) (by kernel_rfl)) ?_
  have hr := Option.some.inj h
  subst hr
  exact ⟨_, Wk.refl _, .inl rfl, ⟨[], by kernel_rfl, ⟨rfl, trivial⟩, [], by kernel_rfl, by kernel_rfl⟩⟩

theorem s_slices_SortStableFunc_h_SortEnum_1_si (p1 : List (ByteArray × Int)) (r : List (ByteArray × Int)) (h : m_slices_SortStableFunc_h_SortEnum_1_si p1 = some r) :
    Eng.Spec Tryd.prog 44 [.sl 0 0 p1.length, .fn 45 []] [.arr 2 (List.map enc_si p1)] (.tup []) [.arr 2 (List.map enc_si r)] := by
  unfold m_slices_SortStableFunc_h_SortEnum_1_si at h
  refine Eng.Spec.body Tryd.func44 (by kernel_rfl) rfl (by kernel_rfl) ?_
  refine AX.wkpost ?_
  obtain ⟨x2, e1, h⟩ := bd_e h
  obtain ⟨g2, h⟩ := gd_e h
  refine AX.reg (its := [.auto {}, .auto {}, .auto {}, .auto {}, .call 69 [.sl 0 0 p1.length, .v (.int .i64 (p1.length : Int)), .fn 45 []] (handO (rho ([0] ++ [])) [0] [.arr 2 (List.map enc_si p1)] ++ []) (callEv [0] [] (.tup []) [.arr 2 (List.map enc_si x2)])]) [] [0] (s1 := ⟨[], [(0, .arr 2 (List.map enc_si x2))]⟩) (C := ((([.sl 0 0 p1.length, .v (.int .i64 (p1.length : Int)), .fn 45 []] : List AV) = [.sl 0 0 p1.length, .v (.int .i64 (p1.length : Int)), .fn 45 []]) ∧ (AO.arr 2 (List.map enc_si p1) = AO.arr 2 (List.map enc_si p1)) ∧ True) ∧ True) (by kernel_rfl) ⟨⟨rfl, rfl, trivial⟩, trivial⟩ ⟨call_ok (ks := [0]) (ns := []) (bor := []) (bobjs := []) (s_slices_stableCmpFunc_h_SortEnum_1_si (p1.length : Int) p1 x2 e1) (.cons (.c1 (.c0 (.same _ (by kernel_rfl) (by kernel_rfl)))) (.cons (.c1 (.c0 (.same _ (by kernel_rfl) (by kernel_rfl)))) (.cons (.fn (.nil)) (.nil)))) (by kernel_rfl) ⟨.inr (arr_sh (enc := enc_si) g2), trivial⟩, trivial⟩ ?_
  refine fin_wk (Wk.forget [] [0] (s' := ⟨[], [(0, .arr 2 (List.map enc_si x2))]⟩) (by kernel_rfl)) ?_
  refine fin_wk (Wk.of_eq (congrArg (fun z => (⟨[], [(0, .arr 2 (List.map enc_si x2))]⟩ : S)) (((rfl : p1.length = p1.length)).trans (g2).symm))) ?_
  have hr := Option.some.inj h
  subst hr
  exact ⟨_, Wk.refl _, .inl rfl, ⟨[], by kernel_rfl, ⟨rfl, trivial⟩, [], by kernel_rfl, by kernel_rfl⟩⟩

theorem s_impl_SortEnum (p1 : List (ByteArray × Int)) (r : List (ByteArray × Int)) (h : m_impl_SortEnum p1 = some r) :
    Eng.Spec Tryd.prog 20 [.agg [.bs false 2 (List.map enc_si p1)]] [] (.agg [.sl 0 0 r.length]) [.arr 2 (List.map enc_si r)] := by
  unfold m_impl_SortEnum at h
  refine Eng.Spec.body Tryd.func20 (by kernel_rfl) rfl (by kernel_rfl) ?_
  refine AX.wkpost ?_
  refine AX.seq ?_
  refine AX.reg (its := [.auto { nk := 0 }, .auto { nk := 1 }]) [1, 2] [0, 1] (s1 := ⟨[(1, .pt 0 0), (2, .pt 1 0)], [(0, .box [.bs false 2 (List.map enc_si p1)]), (1, .box [.v (.slice none 0 0)])]⟩) (C := True) (by kernel_rfl) trivial trivial ?_
  refine AX.seq ?_
  refine AX.seq ?_
  obtain ⟨x2, e1, h⟩ := bd_e h
  refine AX.reg (its := [.auto {}, .call 9 [.agg [.bs false 2 (List.map enc_si p1)]] (handO (rho ([] ++ [])) [] [] ++ []) (callEv [] [] (.v (.bool x2)) [])]) [1, 2, 6] [0, 1] (s1 := ⟨[(1, .pt 0 0), (2, .pt 1 0), (6, .v (.bool (!x2)))], [(0, .box [.bs false 2 (List.map enc_si p1)]), (1, .box [.v (.slice none 0 0)])]⟩) (C := ((([.agg [.bs false 2 (List.map enc_si p1)]] : List AV) = [.agg [.bs false 2 (List.map enc_si p1)]]) ∧ True) ∧ True) (by kernel_rfl) ⟨⟨rfl, trivial⟩, trivial⟩ ⟨call_ok (ks := []) (ns := []) (bor := []) (bobjs := []) (s_impl_ValidEnum p1 x2 e1) (.cons (.c1 (.agg (.cons (.same _ (by kernel_rfl) (by kernel_rfl)) (.nil)))) (.nil)) (by kernel_rfl) trivial, trivial⟩ ?_
  rcases bool_cases ((!x2)) with b2 | b2
  · replace h := cd_t b2 h
    refine AX.condT ((!x2)) (by kernel_rfl) b2 ?_
    refine AX.seq ?_
    refine AX.reg (its := []) [2] [1] (s1 := ⟨[(2, .pt 1 0)], [(1, .box [.v (.slice none 0 0)])]⟩) (C := True) (by kernel_rfl) trivial trivial ?_
    refine AX.ret ?_
    refine fin_wk (Wk.matB 1 0 2 2 (cs := [.v (.slice none 0 0)]) (by kernel_rfl) (by kernel_rfl) (Nat.le_of_ble_eq_true (by kernel_rfl)) (by kernel_rfl) (by decide) rfl) ?_
    refine fin_wk (Wk.swap 0 1 (Nat.le_of_ble_eq_true (by kernel_rfl)) (Nat.le_of_ble_eq_true (by kernel_rfl)) rfl) ?_
    refine fin_wk (Wk.swap 1 2 (Nat.le_of_ble_eq_true (by kernel_rfl)) (Nat.le_of_ble_eq_true (by kernel_rfl)) rfl) ?_
    refine fin_wk (Wk.forget [2] [0, 1] (s' := ⟨[(2, .pt 0 0)], [(0, .box [.sl 1 0 (([] : List (ByteArray × Int)).length)]), (1, .arr 2 (List.map enc_si ([] : List (ByteArray × Int))))]⟩) (by kernel_rfl)) ?_
    have hr := Option.some.inj h
    subst hr
    exact ⟨_, Wk.refl _, .inr rfl, ⟨[1], by kernel_rfl, ⟨rfl, trivial⟩, [.agg [.sl 1 0 (([] : List (ByteArray × Int)).length)]], by kernel_rfl, by kernel_rfl⟩⟩
  · replace h := cd_f b2 h
    refine AX.condF ((!x2)) (by kernel_rfl) b2 ?_
    refine AX.skip ?_
    refine AX.seq ?_
    obtain ⟨x3, e3, h⟩ := bd_e h
    refine AX.reg (its := [.auto {}, .auto {}, .call 43 [.bs false 2 (List.map enc_si p1)] (handO (rho ([] ++ [2])) [] [] ++ []) (callEv [] [2] (.sl 0 0 x3.length) [.arr 2 (List.map enc_si x3)]), .auto {}, .auto { nk := 3 }]) [2, 3] [1, 2, 3] (s1 := ⟨[(2, .pt 1 0), (3, .pt 3 0)], [(1, .box [.v (.slice none 0 0)]), (2, .arr 2 (List.map enc_si x3)), (3, .box [.sl 2 0 x3.length])]⟩) (C := ((([.bs false 2 (List.map enc_si p1)] : List AV) = [.bs false 2 (List.map enc_si p1)]) ∧ True) ∧ True) (by kernel_rfl) ⟨⟨rfl, trivial⟩, trivial⟩ ⟨call_ok (ks := []) (ns := [2]) (bor := []) (bobjs := []) (s_impl_clone_si p1 x3 e3) (.cons (.c1 (.c0 (.same _ (by kernel_rfl) (by kernel_rfl)))) (.nil)) (by kernel_rfl) trivial, trivial⟩ ?_
    refine AX.seq ?_
    obtain ⟨x4, e4, h⟩ := bd_e h
    obtain ⟨g5, h⟩ := gd_e h
    refine AX.reg (its := [.auto {}, .auto {}, .call 44 [.sl 2 0 x3.length, .fn 45 []] (handO (rho ([2] ++ [])) [2] [.arr 2 (List.map enc_si x3)] ++ []) (callEv [2] [] (.tup []) [.arr 2 (List.map enc_si x4)])]) [2, 3] [1, 2, 3] (s1 := ⟨[(2, .pt 1 0), (3, .pt 3 0)], [(1, .box [.v (.slice none 0 0)]), (2, .arr 2 (List.map enc_si x4)), (3, .box [.sl 2 0 x3.length])]⟩) (C := ((([.sl 2 0 x3.length, .fn 45 []] : List AV) = [.sl 2 0 x3.length, .fn 45 []]) ∧ (AO.arr 2 (List.map enc_si x3) = AO.arr 2 (List.map enc_si x3)) ∧ True) ∧ True) (by kernel_rfl) ⟨⟨rfl, rfl, trivial⟩, trivial⟩ ⟨call_ok (ks := [2]) (ns := []) (bor := []) (bobjs := []) (s_slices_SortStableFunc_h_SortEnum_1_si x3 x4 e4) (.cons (.c1 (.c0 (.same _ (by kernel_rfl) (by kernel_rfl)))) (.cons (.fn (.nil)) (.nil))) (by kernel_rfl) ⟨.inr (arr_sh (enc := enc_si) g5), trivial⟩, trivial⟩ ?_
    refine AX.seq ?_
    refine AX.reg (its := []) [2] [1, 2] (s1 := ⟨[(2, .pt 1 0)], [(1, .box [.sl 2 0 x3.length]), (2, .arr 2 (List.map enc_si x4))]⟩) (C := True) (by kernel_rfl) trivial trivial ?_
    refine AX.ret ?_
    refine fin_wk (Wk.swap 0 1 (Nat.le_of_ble_eq_true (by kernel_rfl)) (Nat.le_of_ble_eq_true (by kernel_rfl)) rfl) ?_
    refine fin_wk (Wk.swap 1 2 (Nat.le_of_ble_eq_true (by kernel_rfl)) (Nat.le_of_ble_eq_true (by kernel_rfl)) rfl) ?_
    refine fin_wk (Wk.forget [2] [0, 1] (s' := ⟨[(2, .pt 0 0)], [(0, .box [.sl 1 0 x3.length]), (1, .arr 2 (List.map enc_si x4))]⟩) (by kernel_rfl)) ?_
    refine fin_wk (Wk.of_eq (congrArg (fun z => (⟨[(2, .pt 0 0)], [(0, .box [.sl 1 0 z]), (1, .arr 2 (List.map enc_si x4))]⟩ : S)) (((rfl : x3.length = x3.length)).trans (g5).symm))) ?_
    have hr := Option.some.inj h
    subst hr
    exact ⟨_, Wk.refl _, .inr rfl, ⟨[1], by kernel_rfl, ⟨rfl, trivial⟩, [.agg [.sl 1 0 x4.length]], by kernel_rfl, by kernel_rfl⟩⟩

theorem s_impl_Enum_members_L1 (p1 : List (ByteArray × Int)) (n : Nat) (g : (List (ByteArray × Int)) × Int) (out : List (ByteArray × Int)) (h : m_impl_Enum_members_L1 p1 n g.1 g.2 = some out) :
    AX Tryd.prog 24 0 (codeAt [1, 1, 0, 1, 1] (bodyOf Tryd.f32)) ((fun g : (List (ByteArray × Int)) × Int => (⟨[(3, .sl 0 0 g.1.length), (7, .bs false 2 (List.map enc_si p1)), (8, .v (.int .i64 (p1.length : Int))), (9, .v (.int .i64 g.2))], [(0, .arr 2 (List.map enc_si g.1))]⟩ : S)) g) (fun ex s => ex = .exit 0 ∧ s = (fun o : List (ByteArray × Int) => (⟨[(3, .sl 0 0 o.length)], [(0, .arr 2 (List.map enc_si o))]⟩ : S)) out) := by
  refine AX.wkpost ?_
  refine AX.loop (G := Nat × ((List (ByteArray × Int)) × Int)) (fun q => (fun g : (List (ByteArray × Int)) × Int => (⟨[(3, .sl 0 0 g.1.length), (7, .bs false 2 (List.map enc_si p1)), (8, .v (.int .i64 (p1.length : Int))), (9, .v (.int .i64 g.2))], [(0, .arr 2 (List.map enc_si g.1))]⟩ : S)) q.2) (fun q => m_impl_Enum_members_L1 p1 q.1 q.2.1 q.2.2 = some out) (fun q => q.1) (n, g) h (Wk.refl _) ?_
  clear h
  rintro ⟨fu, v2, v3⟩ h
  cases fu with
  | zero => cases h
  | succ fu =>
    rw [m_impl_Enum_members_L1] at h
    refine AX.seq ?_
    refine AX.reg (its := []) [3, 7, 8, 9, 10] [0] (s1 := ⟨[(3, .sl 0 0 v2.length), (7, .bs false 2 (List.map enc_si p1)), (8, .v (.int .i64 (p1.length : Int))), (9, .v (.int .i64 v3)), (10, .v (.bool (decide (v3 < (p1.length : Int)))))], [(0, .arr 2 (List.map enc_si v2))]⟩) (C := True) (by kernel_rfl) trivial trivial ?_
    refine AX.seq ?_
    rcases bool_cases (decide (v3 < (p1.length : Int))) with b1 | b1
    · replace h := cd_t b1 h
      refine AX.condT (decide (v3 < (p1.length : Int))) (by kernel_rfl) b1 ?_
      refine AX.skip ?_
      refine AX.seq ?_
      refine AX.block ?_
      refine AX.seq ?_
      obtain ⟨g2, h⟩ := gd_e h
      refine AX.reg (its := [.auto { y := some (.be 2 (enc_si (gt p1 v3)) 0) }, .auto {}, .auto { nk := 1 }]) [3, 5, 7, 8, 9] [0, 1] (s1 := ⟨[(3, .sl 0 0 v2.length), (5, .pt 1 0), (7, .bs false 2 (List.map enc_si p1)), (8, .v (.int .i64 (p1.length : Int))), (9, .v (.int .i64 v3))], [(0, .arr 2 (List.map enc_si v2)), (1, .box [.v (.string ((gt p1 v3).1)), .v (.int .i64 ((gt p1 v3).2))])]⟩) (C := ((0 ≤ v3 ∧ v3 < ((List.map enc_si p1).length : Int)) ∧ (AV.be 2 ((List.map enc_si p1).getD v3.toNat []) 0 = AV.be 2 (enc_si (gt p1 v3)) 0)) ∧ True) (by kernel_rfl) ⟨idx_bs enc_si p1 v3 2 g2, trivial⟩ trivial ?_
      refine AX.seq ?_
      obtain ⟨x4, e3, h⟩ := bd_e h
      refine AX.reg (its := [.auto {}, .auto {}, .auto {}, .call 59 [.sl 0 0 v2.length, .v (.int .i64 ((gt p1 v3).2))] (handO (rho ([] ++ [])) [] [] ++ [(0, .arr 2 (List.map enc_si v2))]) (callEv [] [] (.v (.int .i64 x4)) [])]) [3, 5, 7, 8, 9, 17] [0, 1] (s1 := ⟨[(3, .sl 0 0 v2.length), (5, .pt 1 0), (7, .bs false 2 (List.map enc_si p1)), (8, .v (.int .i64 (p1.length : Int))), (9, .v (.int .i64 v3)), (17, .v (.bool (decide (x4 < 0))))], [(0, .arr 2 (List.map enc_si v2)), (1, .box [.v (.string ((gt p1 v3).1)), .v (.int .i64 ((gt p1 v3).2))])]⟩) (C := ((([.sl 0 0 v2.length, .v (.int .i64 ((gt p1 v3).2))] : List AV) = [.sl 0 0 v2.length, .v (.int .i64 ((gt p1 v3).2))]) ∧ (AO.arr 2 (List.map enc_si v2) = AO.arr 2 (List.map enc_si v2)) ∧ True) ∧ True) (by kernel_rfl) ⟨⟨rfl, rfl, trivial⟩, trivial⟩ ⟨call_ok (ks := []) (ns := []) (bor := [0]) (bobjs := [(0, .arr 2 (List.map enc_si v2))]) (s_impl_valued v2 ((gt p1 v3).2) x4 e3) (.cons (.c1 (.c0 (.arr rfl rfl ((rfl).trans (List.length_map ..).symm)))) (.cons (.c1 (.c0 (.same _ (by kernel_rfl) (by kernel_rfl)))) (.nil))) (by kernel_rfl) trivial, trivial⟩ ?_
      rcases bool_cases (decide (x4 < 0)) with b4 | b4
      · replace h := cd_t b4 h
        refine AX.condT (decide (x4 < 0)) (by kernel_rfl) b4 ?_
        obtain ⟨g5, h⟩ := gd_e h
        refine AX.reg (its := [.auto {}, .auto {}, .auto { nk := 2 }, .auto { y := some (.sl 3 0 ((v2 ++ ([((gt p1 v3).1, (gt p1 v3).2)] : List (ByteArray × Int))).length)), els := some (List.map enc_si v2), els2 := some (List.map enc_si ([((gt p1 v3).1, (gt p1 v3).2)] : List (ByteArray × Int))), nk := 3 }]) [3, 7, 8, 9] [3] (s1 := ⟨[(3, .sl 3 0 ((v2 ++ ([((gt p1 v3).1, (gt p1 v3).2)] : List (ByteArray × Int))).length)), (7, .bs false 2 (List.map enc_si p1)), (8, .v (.int .i64 (p1.length : Int))), (9, .v (.int .i64 v3))], [(3, .arr 2 (List.map enc_si v2 ++ List.map enc_si ([((gt p1 v3).1, (gt p1 v3).2)] : List (ByteArray × Int))))]⟩) (C := ((((((List.map enc_si v2).drop 0).take (v2.length) = List.map enc_si v2) ∧ (((List.map enc_si ([((gt p1 v3).1, (gt p1 v3).2)] : List (ByteArray × Int))).drop 0).take (([((gt p1 v3).1, (gt p1 v3).2)] : List (ByteArray × Int)).length) = List.map enc_si ([((gt p1 v3).1, (gt p1 v3).2)] : List (ByteArray × Int)))) ∧ (List.map enc_si v2).length + (List.map enc_si ([((gt p1 v3).1, (gt p1 v3).2)] : List (ByteArray × Int))).length ≤ 1099511627776) ∧ (AV.sl 3 0 (List.map enc_si v2 ++ List.map enc_si ([((gt p1 v3).1, (gt p1 v3).2)] : List (ByteArray × Int))).length = AV.sl 3 0 (v2 ++ ([((gt p1 v3).1, (gt p1 v3).2)] : List (ByteArray × Int))).length)) ∧ True) (by kernel_rfl) ⟨⟨⟨⟨(dt_all (enc := enc_si) rfl rfl), (dt_all (enc := enc_si) rfl rfl)⟩, (by simp only [List.length_map, List.length_nil, List.length_replicate]; simpa using g5)⟩, sl_len (enc := enc_si) (app_can (enc := enc_si) rfl (rfl))⟩, trivial⟩ trivial ?_
        refine AX.reg (its := [.auto { raw := true }]) [3, 7, 8, 9] [3] (s1 := ⟨[(3, .sl 3 0 ((v2 ++ ([((gt p1 v3).1, (gt p1 v3).2)] : List (ByteArray × Int))).length)), (7, .bs false 2 (List.map enc_si p1)), (8, .v (.int .i64 (p1.length : Int))), (9, .v (.int .i64 (IntKind.wrap .i64 (v3 + 1))))], [(3, .arr 2 (List.map enc_si v2 ++ List.map enc_si ([((gt p1 v3).1, (gt p1 v3).2)] : List (ByteArray × Int))))]⟩) (C := True) (by kernel_rfl) trivial trivial ?_
        refine ⟨(fu, (v2 ++ ([((gt p1 v3).1, (gt p1 v3).2)] : List (ByteArray × Int)), IntKind.wrap .i64 (v3 + 1))), h, Nat.lt_succ_self _, ?_⟩
        refine Wk.trans (Wk.swap 0 3 (Nat.le_of_ble_eq_true (by kernel_rfl)) (Nat.le_of_ble_eq_true (by kernel_rfl)) rfl) ?_
        refine Wk.trans (Wk.forget [3, 7, 8, 9] [0] (s' := ⟨[(3, .sl 0 0 ((v2 ++ ([((gt p1 v3).1, (gt p1 v3).2)] : List (ByteArray × Int))).length)), (7, .bs false 2 (List.map enc_si p1)), (8, .v (.int .i64 (p1.length : Int))), (9, .v (.int .i64 (IntKind.wrap .i64 (v3 + 1))))], [(0, .arr 2 (List.map enc_si v2 ++ List.map enc_si ([((gt p1 v3).1, (gt p1 v3).2)] : List (ByteArray × Int))))]⟩) (by kernel_rfl)) ?_
        refine Wk.trans (Wk.of_eq (congrArg (fun z => (⟨[(3, .sl 0 0 ((v2 ++ ([((gt p1 v3).1, (gt p1 v3).2)] : List (ByteArray × Int))).length)), (7, .bs false 2 (List.map enc_si p1)), (8, .v (.int .i64 (p1.length : Int))), (9, .v (.int .i64 (IntKind.wrap .i64 (v3 + 1))))], [(0, .arr 2 (z))]⟩ : S)) (app_can (enc := enc_si) rfl (rfl) : List.map enc_si v2 ++ List.map enc_si ([((gt p1 v3).1, (gt p1 v3).2)] : List (ByteArray × Int)) = List.map enc_si (v2 ++ ([((gt p1 v3).1, (gt p1 v3).2)] : List (ByteArray × Int)))))) ?_
        exact Wk.refl _
      · replace h := cd_f b4 h
        refine AX.condF (decide (x4 < 0)) (by kernel_rfl) b4 ?_
        refine AX.skip ?_
        refine AX.reg (its := [.auto { raw := true }]) [3, 7, 8, 9] [0] (s1 := ⟨[(3, .sl 0 0 v2.length), (7, .bs false 2 (List.map enc_si p1)), (8, .v (.int .i64 (p1.length : Int))), (9, .v (.int .i64 (IntKind.wrap .i64 (v3 + 1))))], [(0, .arr 2 (List.map enc_si v2))]⟩) (C := True) (by kernel_rfl) trivial trivial ?_
        refine ⟨(fu, (v2, IntKind.wrap .i64 (v3 + 1))), h, Nat.lt_succ_self _, ?_⟩
        refine Wk.trans (Wk.forget [3, 7, 8, 9] [0] (s' := ⟨[(3, .sl 0 0 v2.length), (7, .bs false 2 (List.map enc_si p1)), (8, .v (.int .i64 (p1.length : Int))), (9, .v (.int .i64 (IntKind.wrap .i64 (v3 + 1))))], [(0, .arr 2 (List.map enc_si v2))]⟩) (by kernel_rfl)) ?_
        exact Wk.refl _
    · replace h := cd_f b1 h
      refine AX.condF (decide (v3 < (p1.length : Int))) (by kernel_rfl) b1 ?_
      refine AX.exit ?_
      refine fin_wk (Wk.forget [3] [0] (s' := ⟨[(3, .sl 0 0 v2.length)], [(0, .arr 2 (List.map enc_si v2))]⟩) (by kernel_rfl)) ?_
      have hr := Option.some.inj h
      subst hr
      exact ⟨_, Wk.refl _, ⟨rfl, rfl⟩⟩

theorem s_impl_Enum_members (p1 : List (ByteArray × Int)) (r : List (ByteArray × Int)) (h : m_impl_Enum_members p1 = some r) :
    Eng.Spec Tryd.prog 32 [.agg [.bs false 2 (List.map enc_si p1)]] [] (.sl 0 0 r.length) [.arr 2 (List.map enc_si r)] := by
  unfold m_impl_Enum_members at h
  refine Eng.Spec.body Tryd.func32 (by kernel_rfl) rfl (by kernel_rfl) ?_
  refine AX.wkpost ?_
  refine AX.seq ?_
  refine AX.reg (its := [.auto { nk := 0 }]) [1] [0] (s1 := ⟨[(1, .pt 0 0)], [(0, .box [.bs false 2 (List.map enc_si p1)])]⟩) (C := True) (by kernel_rfl) trivial trivial ?_
  refine AX.seq ?_
  refine AX.reg (its := []) [1, 3] [0] (s1 := ⟨[(1, .pt 0 0), (3, .v (.slice none 0 0))], [(0, .box [.bs false 2 (List.map enc_si p1)])]⟩) (C := True) (by kernel_rfl) trivial trivial ?_
  refine AX.seq ?_
  refine AX.seq ?_
  refine AX.reg (its := [.auto {}, .auto {}, .auto { y := some (.v (.int .i64 (p1.length : Int))) }]) [3, 7, 8, 9] [] (s1 := ⟨[(3, .v (.slice none 0 0)), (7, .bs false 2 (List.map enc_si p1)), (8, .v (.int .i64 (p1.length : Int))), (9, .v (.int .i64 0))], []⟩) (C := (True ∧ (AV.v (.int .i64 ((List.map enc_si p1).length : Int)) = AV.v (.int .i64 (p1.length : Int)))) ∧ True) (by kernel_rfl) ⟨⟨trivial, len_map enc_si p1⟩, trivial⟩ trivial ?_
  refine AX.block ?_
  obtain ⟨x5, e6, h⟩ := bd_e h
  refine AX.wk (Wk.mat 3 0 2 (by kernel_rfl) (Nat.le_of_ble_eq_true (by kernel_rfl)) (by kernel_rfl) rfl) ?_
  refine AX.wk (Wk.forget [3, 7, 8, 9] [0] (s' := ⟨[(3, .sl 0 0 (([] : List (ByteArray × Int)).length)), (7, .bs false 2 (List.map enc_si p1)), (8, .v (.int .i64 (p1.length : Int))), (9, .v (.int .i64 0))], [(0, .arr 2 (List.map enc_si ([] : List (ByteArray × Int))))]⟩) (by kernel_rfl)) ?_
  refine AX.mono (s_impl_Enum_members_L1 p1 FU (([] : List (ByteArray × Int)), 0) x5 e6) ?_
  rintro _ _ ⟨rfl, rfl⟩
  skip
  refine AX.seq ?_
  refine AX.reg (its := []) [2] [0] (s1 := ⟨[(2, .sl 0 0 x5.length)], [(0, .arr 2 (List.map enc_si x5))]⟩) (C := True) (by kernel_rfl) trivial trivial ?_
  refine AX.ret ?_
  refine fin_wk (Wk.forget [2] [0] (s' := ⟨[(2, .sl 0 0 x5.length)], [(0, .arr 2 (List.map enc_si x5))]⟩) (by kernel_rfl)) ?_
  have hr := Option.some.inj h
  subst hr
  exact ⟨_, Wk.refl _, .inr rfl, ⟨[0], by kernel_rfl, ⟨rfl, trivial⟩, [.sl 0 0 x5.length], by kernel_rfl, by kernel_rfl⟩⟩

theorem s_impl_MembersOf (p1 : List (ByteArray × Int)) (r : List (ByteArray)) (h : m_impl_MembersOf p1 = some r) :
    Eng.Spec Tryd.prog 12 [.agg [.bs false 2 (List.map enc_si p1)]] [] (.sl 0 0 r.length) [.arr 1 (List.map enc_s r)] := by
  unfold m_impl_MembersOf at h
  refine Eng.Spec.body Tryd.func12 (by kernel_rfl) rfl (by kernel_rfl) ?_
  refine AX.wkpost ?_
  refine AX.seq ?_
  refine AX.reg (its := [.auto { nk := 0 }]) [1] [0] (s1 := ⟨[(1, .pt 0 0)], [(0, .box [.bs false 2 (List.map enc_si p1)])]⟩) (C := True) (by kernel_rfl) trivial trivial ?_
  refine AX.seq ?_
  refine AX.seq ?_
  obtain ⟨x2, e1, h⟩ := bd_e h
  refine AX.reg (its := [.auto {}, .call 9 [.agg [.bs false 2 (List.map enc_si p1)]] (handO (rho ([] ++ [])) [] [] ++ []) (callEv [] [] (.v (.bool x2)) [])]) [1, 5] [0] (s1 := ⟨[(1, .pt 0 0), (5, .v (.bool (!x2)))], [(0, .box [.bs false 2 (List.map enc_si p1)])]⟩) (C := ((([.agg [.bs false 2 (List.map enc_si p1)]] : List AV) = [.agg [.bs false 2 (List.map enc_si p1)]]) ∧ True) ∧ True) (by kernel_rfl) ⟨⟨rfl, trivial⟩, trivial⟩ ⟨call_ok (ks := []) (ns := []) (bor := []) (bobjs := []) (s_impl_ValidEnum p1 x2 e1) (.cons (.c1 (.agg (.cons (.same _ (by kernel_rfl) (by kernel_rfl)) (.nil)))) (.nil)) (by kernel_rfl) trivial, trivial⟩ ?_
  rcases bool_cases ((!x2)) with b2 | b2
  · replace h := cd_t b2 h
    refine AX.condT ((!x2)) (by kernel_rfl) b2 ?_
    refine AX.seq ?_
    refine AX.reg (its := []) [2] [] (s1 := ⟨[(2, .v (.slice none 0 0))], []⟩) (C := True) (by kernel_rfl) trivial trivial ?_
    refine AX.ret ?_
    refine fin_wk (Wk.mat 2 0 1 (by kernel_rfl) (Nat.le_of_ble_eq_true (by kernel_rfl)) (by kernel_rfl) rfl) ?_
    refine fin_wk (Wk.forget [2] [0] (s' := ⟨[(2, .sl 0 0 (([] : List (ByteArray)).length))], [(0, .arr 1 (List.map enc_s ([] : List (ByteArray))))]⟩) (by kernel_rfl)) ?_
    have hr := Option.some.inj h
    subst hr
    exact ⟨_, Wk.refl _, .inr rfl, ⟨[0], by kernel_rfl, ⟨rfl, trivial⟩, [.sl 0 0 (([] : List (ByteArray)).length)], by kernel_rfl, by kernel_rfl⟩⟩
  · replace h := cd_f b2 h
    refine AX.condF ((!x2)) (by kernel_rfl) b2 ?_
    refine AX.skip ?_
    refine AX.seq ?_
    obtain ⟨x3, e3, h⟩ := bd_e h
    obtain ⟨x4, e4, h⟩ := bd_e h
    refine AX.reg (its := [.auto {}, .call 32 [.agg [.bs false 2 (List.map enc_si p1)]] (handO (rho ([] ++ [1])) [] [] ++ []) (callEv [] [1] (.sl 0 0 x3.length) [.arr 2 (List.map enc_si x3)]), .call 29 [.sl 1 0 x3.length, .fn 31 []] (handO (rho ([] ++ [2])) [] [] ++ [(1, .arr 2 (List.map enc_si x3))]) (callEv [] [2] (.sl 0 0 x4.length) [.arr 1 (List.map enc_s x4)])]) [2] [2] (s1 := ⟨[(2, .sl 2 0 x4.length)], [(2, .arr 1 (List.map enc_s x4))]⟩) (C := ((([.agg [.bs false 2 (List.map enc_si p1)]] : List AV) = [.agg [.bs false 2 (List.map enc_si p1)]]) ∧ True) ∧ ((([.sl 1 0 x3.length, .fn 31 []] : List AV) = [.sl 1 0 x3.length, .fn 31 []]) ∧ (AO.arr 2 (List.map enc_si x3) = AO.arr 2 (List.map enc_si x3)) ∧ True) ∧ True) (by kernel_rfl) ⟨⟨rfl, trivial⟩, ⟨⟨rfl, rfl, trivial⟩, trivial⟩⟩ ⟨call_ok (ks := []) (ns := [1]) (bor := []) (bobjs := []) (s_impl_Enum_members p1 x3 e3) (.cons (.c1 (.agg (.cons (.same _ (by kernel_rfl) (by kernel_rfl)) (.nil)))) (.nil)) (by kernel_rfl) trivial, ⟨call_ok (ks := []) (ns := [2]) (bor := [1]) (bobjs := [(1, .arr 2 (List.map enc_si x3))]) (s_impl_names_anyDef x3 x4 e4) (.cons (.c1 (.c0 (.arr rfl rfl ((rfl).trans (List.length_map ..).symm)))) (.cons (.fn (.nil)) (.nil))) (by kernel_rfl) trivial, trivial⟩⟩ ?_
    refine AX.ret ?_
    refine fin_wk (Wk.swap 0 2 (Nat.le_of_ble_eq_true (by kernel_rfl)) (Nat.le_of_ble_eq_true (by kernel_rfl)) rfl) ?_
    refine fin_wk (Wk.forget [2] [0] (s' := ⟨[(2, .sl 0 0 x4.length)], [(0, .arr 1 (List.map enc_s x4))]⟩) (by kernel_rfl)) ?_
    have hr := Option.some.inj h
    subst hr
    exact ⟨_, Wk.refl _, .inr rfl, ⟨[0], by kernel_rfl, ⟨rfl, trivial⟩, [.sl 0 0 x4.length], by kernel_rfl, by kernel_rfl⟩⟩

theorem s_laws_equalTexts_L1 (p1 : List (ByteArray)) (p2 : List (ByteArray)) (n : Nat) (g : Int) (out : Unit ⊕ Unit) (h : m_laws_equalTexts_L1 p1 p2 n g = some out) :
    AX Tryd.prog 26 0 (codeAt [1, 1, 0, 1, 1] (bodyOf Tryd.f10)) ((fun g : Int => (⟨[(0, .bs false 1 (List.map enc_s p1)), (1, .bs false 1 (List.map enc_s p2)), (5, .v (.int .i64 g))], []⟩ : S)) g) (fun ex s => (∃ o : Unit, out = Sum.inl o ∧ ex = .ret ∧ s = ⟨[(4, .v (.bool false))], []⟩) ∨ (∃ o : Unit, out = Sum.inr o ∧ ex = .exit 0 ∧ s = ⟨[], []⟩)) := by
  refine AX.wkpost ?_
  refine AX.loop (G := Nat × (Int)) (fun q => (fun g : Int => (⟨[(0, .bs false 1 (List.map enc_s p1)), (1, .bs false 1 (List.map enc_s p2)), (5, .v (.int .i64 g))], []⟩ : S)) q.2) (fun q => m_laws_equalTexts_L1 p1 p2 q.1 q.2 = some out) (fun q => q.1) (n, g) h (Wk.refl _) ?_
  clear h
  rintro ⟨fu, v3⟩ h
  cases fu with
  | zero => cases h
  | succ fu =>
    rw [m_laws_equalTexts_L1] at h
    refine AX.seq ?_
    refine AX.seq ?_
    refine AX.reg (its := [.auto {}, .auto {}, .auto { y := some (.v (.int .i64 (p1.length : Int))) }]) [0, 1, 5, 14] [] (s1 := ⟨[(0, .bs false 1 (List.map enc_s p1)), (1, .bs false 1 (List.map enc_s p2)), (5, .v (.int .i64 v3)), (14, .v (.bool (decide (v3 < (p1.length : Int)))))], []⟩) (C := (True ∧ (AV.v (.int .i64 ((List.map enc_s p1).length : Int)) = AV.v (.int .i64 (p1.length : Int)))) ∧ True) (by kernel_rfl) ⟨⟨trivial, len_map enc_s p1⟩, trivial⟩ trivial ?_
    rcases bool_cases (decide (v3 < (p1.length : Int))) with b2 | b2
    · replace h := cd_t b2 h
      refine AX.condT (decide (v3 < (p1.length : Int))) (by kernel_rfl) b2 ?_
      refine AX.skip ?_
      refine AX.seq ?_
      refine AX.block ?_
      refine AX.seq ?_
      obtain ⟨g3, h⟩ := gd_e h
      obtain ⟨g4, h⟩ := gd_e h
      refine AX.drw mixed (its := [.auto {}, .auto {}, .auto { y := some (.be 1 (enc_s (gt p1 v3)) 0) }, .auto {}, .auto {}, .auto {}, .auto { y := some (.be 1 (enc_s (gt p2 v3)) 0) }]) [0, 1, 5, 25] [] (s1 := ⟨[(0, .bs false 1 (List.map enc_s p1)), (1, .bs false 1 (List.map enc_s p2)), (5, .v (.int .i64 v3)), (25, .v (.bool (!decide ((gt p1 v3) = (gt p2 v3)))))], []⟩) (C := ((0 ≤ v3 ∧ v3 < ((List.map enc_s p1).length : Int)) ∧ (AV.be 1 ((List.map enc_s p1).getD v3.toNat []) 0 = AV.be 1 (enc_s (gt p1 v3)) 0)) ∧ ((0 ≤ v3 ∧ v3 < ((List.map enc_s p2).length : Int)) ∧ (AV.be 1 ((List.map enc_s p2).getD v3.toNat []) 0 = AV.be 1 (enc_s (gt p2 v3)) 0)) ∧ True) (by kernel_rfl) ⟨idx_bs enc_s p1 v3 1 g3, ⟨idx_bs enc_s p2 v3 1 g4, trivial⟩⟩ trivial ?_
      rcases bool_cases ((!decide ((gt p1 v3) = (gt p2 v3)))) with b5 | b5
      · replace h := cd_t b5 h
        refine AX.condT ((!decide ((gt p1 v3) = (gt p2 v3)))) (by kernel_rfl) b5 ?_
        refine AX.seq ?_
        refine AX.reg (its := []) [4] [] (s1 := ⟨[(4, .v (.bool false))], []⟩) (C := True) (by kernel_rfl) trivial trivial ?_
        refine AX.ret ?_
        refine fin_wk (Wk.forget [4] [] (s' := ⟨[(4, .v (.bool false))], []⟩) (by kernel_rfl)) ?_
        have hr := Option.some.inj h
        subst hr
        exact ⟨_, Wk.refl _, .inl ⟨(), rfl, rfl, rfl⟩⟩
      · replace h := cd_f b5 h
        refine AX.condF ((!decide ((gt p1 v3) = (gt p2 v3)))) (by kernel_rfl) b5 ?_
        refine AX.skip ?_
        refine AX.reg (its := [.auto {}, .auto { raw := true }]) [0, 1, 5] [] (s1 := ⟨[(0, .bs false 1 (List.map enc_s p1)), (1, .bs false 1 (List.map enc_s p2)), (5, .v (.int .i64 (IntKind.wrap .i64 (v3 + 1))))], []⟩) (C := True) (by kernel_rfl) trivial trivial ?_
        refine ⟨(fu, IntKind.wrap .i64 (v3 + 1)), h, Nat.lt_succ_self _, ?_⟩
        refine Wk.trans (Wk.forget [0, 1, 5] [] (s' := ⟨[(0, .bs false 1 (List.map enc_s p1)), (1, .bs false 1 (List.map enc_s p2)), (5, .v (.int .i64 (IntKind.wrap .i64 (v3 + 1))))], []⟩) (by kernel_rfl)) ?_
        exact Wk.refl _
    · replace h := cd_f b2 h
      refine AX.condF (decide (v3 < (p1.length : Int))) (by kernel_rfl) b2 ?_
      refine AX.exit ?_
      refine fin_wk (Wk.forget [] [] (s' := ⟨[], []⟩) (by kernel_rfl)) ?_
      have hr := Option.some.inj h
      subst hr
      exact ⟨_, Wk.refl _, .inr ⟨(), rfl, rfl, rfl⟩⟩

theorem s_laws_equalTexts (p1 : List (ByteArray)) (p2 : List (ByteArray)) (r : Bool) (h : m_laws_equalTexts p1 p2 = some r) :
    Eng.Spec Tryd.prog 10 [.bs false 1 (List.map enc_s p1), .bs false 1 (List.map enc_s p2)] [] (.v (.bool r)) [] := by
  unfold m_laws_equalTexts at h
  refine Eng.Spec.body Tryd.func10 (by kernel_rfl) rfl (by kernel_rfl) ?_
  refine AX.wkpost ?_
  refine AX.seq ?_
  refine AX.reg (its := []) [0, 1] [] (s1 := ⟨[(0, .bs false 1 (List.map enc_s p1)), (1, .bs false 1 (List.map enc_s p2))], []⟩) (C := True) (by kernel_rfl) trivial trivial ?_
  refine AX.seq ?_
  refine AX.seq ?_
  refine AX.reg (its := [.auto {}, .auto { y := some (.v (.int .i64 (p1.length : Int))) }, .auto {}, .auto { y := some (.v (.int .i64 (p2.length : Int))) }]) [0, 1, 10] [] (s1 := ⟨[(0, .bs false 1 (List.map enc_s p1)), (1, .bs false 1 (List.map enc_s p2)), (10, .v (.bool (!decide ((p1.length : Int) = (p2.length : Int)))))], []⟩) (C := (True ∧ (AV.v (.int .i64 ((List.map enc_s p1).length : Int)) = AV.v (.int .i64 (p1.length : Int)))) ∧ (True ∧ (AV.v (.int .i64 ((List.map enc_s p2).length : Int)) = AV.v (.int .i64 (p2.length : Int)))) ∧ True) (by kernel_rfl) ⟨⟨trivial, len_map enc_s p1⟩, ⟨⟨trivial, len_map enc_s p2⟩, trivial⟩⟩ trivial ?_
  rcases bool_cases ((!decide ((p1.length : Int) = (p2.length : Int)))) with b1 | b1
  · replace h := cd_t b1 h
    refine AX.condT ((!decide ((p1.length : Int) = (p2.length : Int)))) (by kernel_rfl) b1 ?_
    refine AX.seq ?_
    refine AX.reg (its := []) [4] [] (s1 := ⟨[(4, .v (.bool false))], []⟩) (C := True) (by kernel_rfl) trivial trivial ?_
    refine AX.ret ?_
    refine fin_wk (Wk.forget [4] [] (s' := ⟨[(4, .v (.bool false))], []⟩) (by kernel_rfl)) ?_
    have hr := Option.some.inj h
    subst hr
    exact ⟨_, Wk.refl _, .inr rfl, ⟨[], by kernel_rfl, trivial, [.v (.bool false)], by kernel_rfl, by kernel_rfl⟩⟩
  · replace h := cd_f b1 h
    refine AX.condF ((!decide ((p1.length : Int) = (p2.length : Int)))) (by kernel_rfl) b1 ?_
    refine AX.skip ?_
    refine AX.seq ?_
    refine AX.seq ?_
    refine AX.reg (its := []) [0, 1, 5] [] (s1 := ⟨[(0, .bs false 1 (List.map enc_s p1)), (1, .bs false 1 (List.map enc_s p2)), (5, .v (.int .i64 0))], []⟩) (C := True) (by kernel_rfl) trivial trivial ?_
    refine AX.block ?_
    obtain ⟨x4, e6, h⟩ := bd_e h
    refine AX.wk (Wk.forget [0, 1, 5] [] (s' := ⟨[(0, .bs false 1 (List.map enc_s p1)), (1, .bs false 1 (List.map enc_s p2)), (5, .v (.int .i64 0))], []⟩) (by kernel_rfl)) ?_
    refine AX.mono (s_laws_equalTexts_L1 p1 p2 FU 0 x4 e6) ?_
    rintro _ _ (⟨x5, rfl, rfl, rfl⟩ | ⟨x6, rfl, rfl, rfl⟩)
    · replace h := sm_l h
      refine fin_wk (Wk.forget [4] [] (s' := ⟨[(4, .v (.bool false))], []⟩) (by kernel_rfl)) ?_
      have hr := Option.some.inj h
      subst hr
      exact ⟨_, Wk.refl _, .inr rfl, ⟨[], by kernel_rfl, trivial, [.v (.bool false)], by kernel_rfl, by kernel_rfl⟩⟩
    · replace h := sm_r h
      refine AX.seq ?_
      refine AX.reg (its := []) [4] [] (s1 := ⟨[(4, .v (.bool true))], []⟩) (C := True) (by kernel_rfl) trivial trivial ?_
      refine AX.ret ?_
      refine fin_wk (Wk.forget [4] [] (s' := ⟨[(4, .v (.bool true))], []⟩) (by kernel_rfl)) ?_
      have hr := Option.some.inj h
      subst hr
      exact ⟨_, Wk.refl _, .inr rfl, ⟨[], by kernel_rfl, trivial, [.v (.bool true)], by kernel_rfl, by kernel_rfl⟩⟩

theorem s_laws_FnEnumOf (p1 : List (Int)) (r : Bool) (h : m_laws_FnEnumOf p1 = some r) :
    Eng.Spec Tryd.prog 4 [.bs true 1 (List.map enc_y p1)] [] (.v (.bool r)) [] := by
  unfold m_laws_FnEnumOf at h
  refine Eng.Spec.body Tryd.func4 (by kernel_rfl) rfl (by kernel_rfl) ?_
  refine AX.wkpost ?_
  refine AX.seq ?_
  refine AX.reg (its := []) [0] [] (s1 := ⟨[(0, .bs true 1 (List.map enc_y p1))], []⟩) (C := True) (by kernel_rfl) trivial trivial ?_
  refine AX.seq ?_
  refine AX.seq ?_
  refine AX.reg (its := [.auto {}, .auto { y := some (.v (.int .i64 (p1.length : Int))) }]) [0, 9] [] (s1 := ⟨[(0, .bs true 1 (List.map enc_y p1)), (9, .v (.bool (decide (1048576 < (p1.length : Int)))))], []⟩) (C := (True ∧ (AV.v (.int .i64 ((List.map enc_y p1).length : Int)) = AV.v (.int .i64 (p1.length : Int)))) ∧ True) (by kernel_rfl) ⟨⟨trivial, len_map enc_y p1⟩, trivial⟩ trivial ?_
  rcases bool_cases (decide (1048576 < (p1.length : Int))) with b1 | b1
  · replace h := cd_t b1 h
    refine AX.condT (decide (1048576 < (p1.length : Int))) (by kernel_rfl) b1 ?_
    refine AX.seq ?_
    refine AX.reg (its := []) [2] [] (s1 := ⟨[(2, .v (.bool true))], []⟩) (C := True) (by kernel_rfl) trivial trivial ?_
    refine AX.ret ?_
    refine fin_wk (Wk.forget [2] [] (s' := ⟨[(2, .v (.bool true))], []⟩) (by kernel_rfl)) ?_
    have hr := Option.some.inj h
    subst hr
    exact ⟨_, Wk.refl _, .inr rfl, ⟨[], by kernel_rfl, trivial, [.v (.bool true)], by kernel_rfl, by kernel_rfl⟩⟩
  · replace h := cd_f b1 h
    refine AX.condF (decide (1048576 < (p1.length : Int))) (by kernel_rfl) b1 ?_
    refine AX.skip ?_
    refine AX.seq ?_
    obtain ⟨x2, e2, h⟩ := bd_e h
    refine AX.reg (its := [.auto {}, .call 17 [.bs true 1 (List.map enc_y p1)] (handO (rho ([] ++ [0])) [] [] ++ []) (callEv [] [0] (.agg [.sl 0 0 x2.1.length, .v (.int .i64 x2.2)]) [.arr 2 (List.map enc_si x2.1)]), .auto { nk := 1 }]) [3] [0, 1] (s1 := ⟨[(3, .pt 1 0)], [(0, .arr 2 (List.map enc_si x2.1)), (1, .box [.sl 0 0 x2.1.length, .v (.int .i64 x2.2)])]⟩) (C := ((([.bs true 1 (List.map enc_y p1)] : List AV) = [.bs true 1 (List.map enc_y p1)]) ∧ True) ∧ True) (by kernel_rfl) ⟨⟨rfl, trivial⟩, trivial⟩ ⟨call_ok (ks := []) (ns := [0]) (bor := []) (bobjs := []) (s_spec_DrawEnumOf p1 x2 e2) (.cons (.c1 (.c0 (.same _ (by kernel_rfl) (by kernel_rfl)))) (.nil)) (by kernel_rfl) trivial, trivial⟩ ?_
    refine AX.seq ?_
    obtain ⟨x3, e3, h⟩ := bd_e h
    refine AX.reg (its := [.auto {}, .call 14 [.agg [.sl 0 0 x2.1.length, .v (.int .i64 x2.2)]] (handO (rho ([] ++ [2])) [] [] ++ [(0, .arr 2 (List.map enc_si x2.1))]) (callEv [] [2] (.agg [.sl 0 0 x3.length]) [.arr 2 (List.map enc_si x3)]), .auto { nk := 3 }]) [3, 4] [0, 1, 2, 3] (s1 := ⟨[(3, .pt 1 0), (4, .pt 3 0)], [(0, .arr 2 (List.map enc_si x2.1)), (1, .box [.sl 0 0 x2.1.length, .v (.int .i64 x2.2)]), (2, .arr 2 (List.map enc_si x3)), (3, .box [.sl 2 0 x3.length])]⟩) (C := ((([.agg [.sl 0 0 x2.1.length, .v (.int .i64 x2.2)]] : List AV) = [.agg [.sl 0 0 x2.1.length, .v (.int .i64 x2.2)]]) ∧ (AO.arr 2 (List.map enc_si x2.1) = AO.arr 2 (List.map enc_si x2.1)) ∧ True) ∧ True) (by kernel_rfl) ⟨⟨rfl, rfl, trivial⟩, trivial⟩ ⟨call_ok (ks := []) (ns := [2]) (bor := [0]) (bobjs := [(0, .arr 2 (List.map enc_si x2.1))]) (s_impl_EnumOf x2.1 x2.2 x3 e3) (.cons (.c1 (.agg (.cons (.arr rfl rfl ((rfl).trans (List.length_map ..).symm)) (.cons (.same _ (by kernel_rfl) (by kernel_rfl)) (.nil))))) (.nil)) (by kernel_rfl) trivial, trivial⟩ ?_
    refine AX.seq ?_
    refine AX.seq ?_
    obtain ⟨x4, e4, h⟩ := bd_e h
    obtain ⟨x5, e5, h⟩ := bd_e h
    rcases bool_cases ((!x5)) with b6 | b6
    · replace h := cd_t b6 h
      refine AX.drw mixed (its := [.auto {}, .auto {}, .call 18 [.agg [.sl 0 0 x2.1.length, .v (.int .i64 x2.2)]] (handO (rho ([] ++ [4])) [] [] ++ [(0, .arr 2 (List.map enc_si x2.1))]) (callEv [] [4] (.agg [.sl 0 0 x4.length]) [.arr 2 (List.map enc_si x4)]), .call 13 [.agg [.sl 2 0 x3.length], .agg [.sl 4 0 x4.length]] (handO (rho ([] ++ [])) [] [] ++ [(2, .arr 2 (List.map enc_si x3)), (4, .arr 2 (List.map enc_si x4))]) (callEv [] [] (.v (.bool x5)) []), .auto { y := some (.v (.bool true)) }]) [3, 4, 23] [0, 1, 2, 3] (s1 := ⟨[(3, .pt 1 0), (4, .pt 3 0), (23, .v (.bool true))], [(0, .arr 2 (List.map enc_si x2.1)), (1, .box [.sl 0 0 x2.1.length, .v (.int .i64 x2.2)]), (2, .arr 2 (List.map enc_si x3)), (3, .box [.sl 2 0 x3.length])]⟩) (C := ((([.agg [.sl 0 0 x2.1.length, .v (.int .i64 x2.2)]] : List AV) = [.agg [.sl 0 0 x2.1.length, .v (.int .i64 x2.2)]]) ∧ (AO.arr 2 (List.map enc_si x2.1) = AO.arr 2 (List.map enc_si x2.1)) ∧ True) ∧ ((([.agg [.sl 2 0 x3.length], .agg [.sl 4 0 x4.length]] : List AV) = [.agg [.sl 2 0 x3.length], .agg [.sl 4 0 x4.length]]) ∧ (AO.arr 2 (List.map enc_si x3) = AO.arr 2 (List.map enc_si x3)) ∧ (AO.arr 2 (List.map enc_si x4) = AO.arr 2 (List.map enc_si x4)) ∧ True) ∧ ((True) ∧ ((.v (.bool (!x5)) : AV) = (.v (.bool true) : AV))) ∧ True) (by kernel_rfl) ⟨⟨rfl, rfl, trivial⟩, ⟨⟨rfl, rfl, rfl, trivial⟩, ⟨⟨trivial, (congrArg (fun z => AV.v (.bool z)) b6)⟩, trivial⟩⟩⟩ ⟨call_ok (ks := []) (ns := [4]) (bor := [0]) (bobjs := [(0, .arr 2 (List.map enc_si x2.1))]) (s_spec_EnumOf x2.1 x2.2 x4 e4) (.cons (.c1 (.agg (.cons (.arr rfl rfl ((rfl).trans (List.length_map ..).symm)) (.cons (.same _ (by kernel_rfl) (by kernel_rfl)) (.nil))))) (.nil)) (by kernel_rfl) trivial, ⟨call_ok (ks := []) (ns := []) (bor := [2, 4]) (bobjs := [(2, .arr 2 (List.map enc_si x3)), (4, .arr 2 (List.map enc_si x4))]) (s_laws_equalEnum x3 x4 x5 e5) (.cons (.c1 (.agg (.cons (.arr rfl rfl ((rfl).trans (List.length_map ..).symm)) (.nil)))) (.cons (.c1 (.agg (.cons (.arr rfl rfl ((rfl).trans (List.length_map ..).symm)) (.nil)))) (.nil))) (by kernel_rfl) trivial, trivial⟩⟩ ?_
      refine AX.cond_true (by kernel_rfl) ?_
      refine AX.seq ?_
      obtain ⟨x6, e7, h⟩ := bd_e h
      obtain ⟨x7, e8, h⟩ := bd_e h
      refine AX.drw mixed (its := [.auto {}, .auto {}, .call 18 [.agg [.sl 0 0 x2.1.length, .v (.int .i64 x2.2)]] (handO (rho ([] ++ [4])) [] [] ++ [(0, .arr 2 (List.map enc_si x2.1))]) (callEv [] [4] (.agg [.sl 0 0 x6.length]) [.arr 2 (List.map enc_si x6)]), .call 13 [.agg [.sl 2 0 x3.length], .agg [.sl 4 0 x6.length]] (handO (rho ([] ++ [])) [] [] ++ [(2, .arr 2 (List.map enc_si x3)), (4, .arr 2 (List.map enc_si x6))]) (callEv [] [] (.v (.bool x7)) [])]) [2] [] (s1 := ⟨[(2, .v (.bool x7))], []⟩) (C := ((([.agg [.sl 0 0 x2.1.length, .v (.int .i64 x2.2)]] : List AV) = [.agg [.sl 0 0 x2.1.length, .v (.int .i64 x2.2)]]) ∧ (AO.arr 2 (List.map enc_si x2.1) = AO.arr 2 (List.map enc_si x2.1)) ∧ True) ∧ ((([.agg [.sl 2 0 x3.length], .agg [.sl 4 0 x6.length]] : List AV) = [.agg [.sl 2 0 x3.length], .agg [.sl 4 0 x6.length]]) ∧ (AO.arr 2 (List.map enc_si x3) = AO.arr 2 (List.map enc_si x3)) ∧ (AO.arr 2 (List.map enc_si x6) = AO.arr 2 (List.map enc_si x6)) ∧ True) ∧ True) (by kernel_rfl) ⟨⟨rfl, rfl, trivial⟩, ⟨⟨rfl, rfl, rfl, trivial⟩, trivial⟩⟩ ⟨call_ok (ks := []) (ns := [4]) (bor := [0]) (bobjs := [(0, .arr 2 (List.map enc_si x2.1))]) (s_spec_EnumOf x2.1 x2.2 x6 e7) (.cons (.c1 (.agg (.cons (.arr rfl rfl ((rfl).trans (List.length_map ..).symm)) (.cons (.same _ (by kernel_rfl) (by kernel_rfl)) (.nil))))) (.nil)) (by kernel_rfl) trivial, ⟨call_ok (ks := []) (ns := []) (bor := [2, 4]) (bobjs := [(2, .arr 2 (List.map enc_si x3)), (4, .arr 2 (List.map enc_si x6))]) (s_laws_equalEnum x3 x6 x7 e8) (.cons (.c1 (.agg (.cons (.arr rfl rfl ((rfl).trans (List.length_map ..).symm)) (.nil)))) (.cons (.c1 (.agg (.cons (.arr rfl rfl ((rfl).trans (List.length_map ..).symm)) (.nil)))) (.nil))) (by kernel_rfl) trivial, trivial⟩⟩ ?_
      refine AX.ret ?_
      refine fin_wk (Wk.forget [2] [] (s' := ⟨[(2, .v (.bool x7))], []⟩) (by kernel_rfl)) ?_
      have hr := Option.some.inj h
      subst hr
      exact ⟨_, Wk.refl _, .inr rfl, ⟨[], by kernel_rfl, trivial, [.v (.bool x7)], by kernel_rfl, by kernel_rfl⟩⟩
    · replace h := cd_f b6 h
      obtain ⟨x8, e9, h⟩ := bd_e h
      refine AX.drw mixed (its := [.auto {}, .auto {}, .call 18 [.agg [.sl 0 0 x2.1.length, .v (.int .i64 x2.2)]] (handO (rho ([] ++ [4])) [] [] ++ [(0, .arr 2 (List.map enc_si x2.1))]) (callEv [] [4] (.agg [.sl 0 0 x4.length]) [.arr 2 (List.map enc_si x4)]), .call 13 [.agg [.sl 2 0 x3.length], .agg [.sl 4 0 x4.length]] (handO (rho ([] ++ [])) [] [] ++ [(2, .arr 2 (List.map enc_si x3)), (4, .arr 2 (List.map enc_si x4))]) (callEv [] [] (.v (.bool x5)) []), .auto { y := some (.v (.bool false)) }, .auto {}, .auto {}, .call 19 [.agg [.sl 0 0 x2.1.length, .v (.int .i64 x2.2)]] (handO (rho ([] ++ [])) [] [] ++ [(0, .arr 2 (List.map enc_si x2.1))]) (callEv [] [] (.v (.bool x8)) [])]) [3, 4, 23] [0, 1, 2, 3] (s1 := ⟨[(3, .pt 1 0), (4, .pt 3 0), (23, .v (.bool (!x8)))], [(0, .arr 2 (List.map enc_si x2.1)), (1, .box [.sl 0 0 x2.1.length, .v (.int .i64 x2.2)]), (2, .arr 2 (List.map enc_si x3)), (3, .box [.sl 2 0 x3.length])]⟩) (C := ((([.agg [.sl 0 0 x2.1.length, .v (.int .i64 x2.2)]] : List AV) = [.agg [.sl 0 0 x2.1.length, .v (.int .i64 x2.2)]]) ∧ (AO.arr 2 (List.map enc_si x2.1) = AO.arr 2 (List.map enc_si x2.1)) ∧ True) ∧ ((([.agg [.sl 2 0 x3.length], .agg [.sl 4 0 x4.length]] : List AV) = [.agg [.sl 2 0 x3.length], .agg [.sl 4 0 x4.length]]) ∧ (AO.arr 2 (List.map enc_si x3) = AO.arr 2 (List.map enc_si x3)) ∧ (AO.arr 2 (List.map enc_si x4) = AO.arr 2 (List.map enc_si x4)) ∧ True) ∧ ((True) ∧ ((.v (.bool (!x5)) : AV) = (.v (.bool false) : AV))) ∧ ((([.agg [.sl 0 0 x2.1.length, .v (.int .i64 x2.2)]] : List AV) = [.agg [.sl 0 0 x2.1.length, .v (.int .i64 x2.2)]]) ∧ (AO.arr 2 (List.map enc_si x2.1) = AO.arr 2 (List.map enc_si x2.1)) ∧ True) ∧ True) (by kernel_rfl) ⟨⟨rfl, rfl, trivial⟩, ⟨⟨rfl, rfl, rfl, trivial⟩, ⟨⟨trivial, (congrArg (fun z => AV.v (.bool z)) b6)⟩, ⟨⟨rfl, rfl, trivial⟩, trivial⟩⟩⟩⟩ ⟨call_ok (ks := []) (ns := [4]) (bor := [0]) (bobjs := [(0, .arr 2 (List.map enc_si x2.1))]) (s_spec_EnumOf x2.1 x2.2 x4 e4) (.cons (.c1 (.agg (.cons (.arr rfl rfl ((rfl).trans (List.length_map ..).symm)) (.cons (.same _ (by kernel_rfl) (by kernel_rfl)) (.nil))))) (.nil)) (by kernel_rfl) trivial, ⟨call_ok (ks := []) (ns := []) (bor := [2, 4]) (bobjs := [(2, .arr 2 (List.map enc_si x3)), (4, .arr 2 (List.map enc_si x4))]) (s_laws_equalEnum x3 x4 x5 e5) (.cons (.c1 (.agg (.cons (.arr rfl rfl ((rfl).trans (List.length_map ..).symm)) (.nil)))) (.cons (.c1 (.agg (.cons (.arr rfl rfl ((rfl).trans (List.length_map ..).symm)) (.nil)))) (.nil))) (by kernel_rfl) trivial, ⟨call_ok (ks := []) (ns := []) (bor := [0]) (bobjs := [(0, .arr 2 (List.map enc_si x2.1))]) (s_impl_ValidFlag x2.1 x2.2 x8 e9) (.cons (.c1 (.agg (.cons (.arr rfl rfl ((rfl).trans (List.length_map ..).symm)) (.cons (.same _ (by kernel_rfl) (by kernel_rfl)) (.nil))))) (.nil)) (by kernel_rfl) trivial, trivial⟩⟩⟩ ?_
      rcases bool_cases ((!x8)) with b10 | b10
      · replace h := cd_t b10 h
        refine AX.condT ((!x8)) (by kernel_rfl) b10 ?_
        refine AX.seq ?_
        obtain ⟨x9, e11, h⟩ := bd_e h
        obtain ⟨x10, e12, h⟩ := bd_e h
        refine AX.drw mixed (its := [.auto {}, .auto {}, .call 18 [.agg [.sl 0 0 x2.1.length, .v (.int .i64 x2.2)]] (handO (rho ([] ++ [4])) [] [] ++ [(0, .arr 2 (List.map enc_si x2.1))]) (callEv [] [4] (.agg [.sl 0 0 x9.length]) [.arr 2 (List.map enc_si x9)]), .call 13 [.agg [.sl 2 0 x3.length], .agg [.sl 4 0 x9.length]] (handO (rho ([] ++ [])) [] [] ++ [(2, .arr 2 (List.map enc_si x3)), (4, .arr 2 (List.map enc_si x9))]) (callEv [] [] (.v (.bool x10)) [])]) [2] [] (s1 := ⟨[(2, .v (.bool x10))], []⟩) (C := ((([.agg [.sl 0 0 x2.1.length, .v (.int .i64 x2.2)]] : List AV) = [.agg [.sl 0 0 x2.1.length, .v (.int .i64 x2.2)]]) ∧ (AO.arr 2 (List.map enc_si x2.1) = AO.arr 2 (List.map enc_si x2.1)) ∧ True) ∧ ((([.agg [.sl 2 0 x3.length], .agg [.sl 4 0 x9.length]] : List AV) = [.agg [.sl 2 0 x3.length], .agg [.sl 4 0 x9.length]]) ∧ (AO.arr 2 (List.map enc_si x3) = AO.arr 2 (List.map enc_si x3)) ∧ (AO.arr 2 (List.map enc_si x9) = AO.arr 2 (List.map enc_si x9)) ∧ True) ∧ True) (by kernel_rfl) ⟨⟨rfl, rfl, trivial⟩, ⟨⟨rfl, rfl, rfl, trivial⟩, trivial⟩⟩ ⟨call_ok (ks := []) (ns := [4]) (bor := [0]) (bobjs := [(0, .arr 2 (List.map enc_si x2.1))]) (s_spec_EnumOf x2.1 x2.2 x9 e11) (.cons (.c1 (.agg (.cons (.arr rfl rfl ((rfl).trans (List.length_map ..).symm)) (.cons (.same _ (by kernel_rfl) (by kernel_rfl)) (.nil))))) (.nil)) (by kernel_rfl) trivial, ⟨call_ok (ks := []) (ns := []) (bor := [2, 4]) (bobjs := [(2, .arr 2 (List.map enc_si x3)), (4, .arr 2 (List.map enc_si x9))]) (s_laws_equalEnum x3 x9 x10 e12) (.cons (.c1 (.agg (.cons (.arr rfl rfl ((rfl).trans (List.length_map ..).symm)) (.nil)))) (.cons (.c1 (.agg (.cons (.arr rfl rfl ((rfl).trans (List.length_map ..).symm)) (.nil)))) (.nil))) (by kernel_rfl) trivial, trivial⟩⟩ ?_
        refine AX.ret ?_
        refine fin_wk (Wk.forget [2] [] (s' := ⟨[(2, .v (.bool x10))], []⟩) (by kernel_rfl)) ?_
        have hr := Option.some.inj h
        subst hr
        exact ⟨_, Wk.refl _, .inr rfl, ⟨[], by kernel_rfl, trivial, [.v (.bool x10)], by kernel_rfl, by kernel_rfl⟩⟩
      · replace h := cd_f b10 h
        refine AX.condF ((!x8)) (by kernel_rfl) b10 ?_
        refine AX.skip ?_
        refine AX.seq ?_
        obtain ⟨x11, e13, h⟩ := bd_e h
        refine AX.reg (its := [.auto {}, .call 11 [.agg [.sl 0 0 x2.1.length, .v (.int .i64 x2.2)]] (handO (rho ([] ++ [4])) [] [] ++ [(0, .arr 2 (List.map enc_si x2.1))]) (callEv [] [4] (.sl 0 0 x11.length) [.arr 1 (List.map enc_s x11)])]) [4, 5] [2, 3, 4] (s1 := ⟨[(4, .pt 3 0), (5, .sl 4 0 x11.length)], [(2, .arr 2 (List.map enc_si x3)), (3, .box [.sl 2 0 x3.length]), (4, .arr 1 (List.map enc_s x11))]⟩) (C := ((([.agg [.sl 0 0 x2.1.length, .v (.int .i64 x2.2)]] : List AV) = [.agg [.sl 0 0 x2.1.length, .v (.int .i64 x2.2)]]) ∧ (AO.arr 2 (List.map enc_si x2.1) = AO.arr 2 (List.map enc_si x2.1)) ∧ True) ∧ True) (by kernel_rfl) ⟨⟨rfl, rfl, trivial⟩, trivial⟩ ⟨call_ok (ks := []) (ns := [4]) (bor := [0]) (bobjs := [(0, .arr 2 (List.map enc_si x2.1))]) (s_impl_SinglesOf x2.1 x2.2 x11 e13) (.cons (.c1 (.agg (.cons (.arr rfl rfl ((rfl).trans (List.length_map ..).symm)) (.cons (.same _ (by kernel_rfl) (by kernel_rfl)) (.nil))))) (.nil)) (by kernel_rfl) trivial, trivial⟩ ?_
        refine AX.seq ?_
        obtain ⟨x12, e14, h⟩ := bd_e h
        obtain ⟨x13, e15, h⟩ := bd_e h
        refine AX.reg (its := [.auto {}, .call 20 [.agg [.sl 2 0 x3.length]] (handO (rho ([] ++ [5])) [] [] ++ [(2, .arr 2 (List.map enc_si x3))]) (callEv [] [5] (.agg [.sl 0 0 x12.length]) [.arr 2 (List.map enc_si x12)]), .call 12 [.agg [.sl 5 0 x12.length]] (handO (rho ([] ++ [6])) [] [] ++ [(5, .arr 2 (List.map enc_si x12))]) (callEv [] [6] (.sl 0 0 x13.length) [.arr 1 (List.map enc_s x13)])]) [4, 5, 6] [2, 3, 4, 6] (s1 := ⟨[(4, .pt 3 0), (5, .sl 4 0 x11.length), (6, .sl 6 0 x13.length)], [(2, .arr 2 (List.map enc_si x3)), (3, .box [.sl 2 0 x3.length]), (4, .arr 1 (List.map enc_s x11)), (6, .arr 1 (List.map enc_s x13))]⟩) (C := ((([.agg [.sl 2 0 x3.length]] : List AV) = [.agg [.sl 2 0 x3.length]]) ∧ (AO.arr 2 (List.map enc_si x3) = AO.arr 2 (List.map enc_si x3)) ∧ True) ∧ ((([.agg [.sl 5 0 x12.length]] : List AV) = [.agg [.sl 5 0 x12.length]]) ∧ (AO.arr 2 (List.map enc_si x12) = AO.arr 2 (List.map enc_si x12)) ∧ True) ∧ True) (by kernel_rfl) ⟨⟨rfl, rfl, trivial⟩, ⟨⟨rfl, rfl, trivial⟩, trivial⟩⟩ ⟨call_ok (ks := []) (ns := [5]) (bor := [2]) (bobjs := [(2, .arr 2 (List.map enc_si x3))]) (s_impl_SortEnum x3 x12 e14) (.cons (.c1 (.agg (.cons (.arr rfl rfl ((rfl).trans (List.length_map ..).symm)) (.nil)))) (.nil)) (by kernel_rfl) trivial, ⟨call_ok (ks := []) (ns := [6]) (bor := [5]) (bobjs := [(5, .arr 2 (List.map enc_si x12))]) (s_impl_MembersOf x12 x13 e15) (.cons (.c1 (.agg (.cons (.arr rfl rfl ((rfl).trans (List.length_map ..).symm)) (.nil)))) (.nil)) (by kernel_rfl) trivial, trivial⟩⟩ ?_
        refine AX.seq ?_
        obtain ⟨x14, e16, h⟩ := bd_e h
        rcases bool_cases (x14) with b17 | b17
        · replace h := cd_t b17 h
          obtain ⟨x15, e18, h⟩ := bd_e h
          refine AX.reg (its := [.auto {}, .call 9 [.agg [.sl 2 0 x3.length]] (handO (rho ([] ++ [])) [] [] ++ [(2, .arr 2 (List.map enc_si x3))]) (callEv [] [] (.v (.bool true)) []), .auto {}, .auto {}, .auto {}, .call 10 [.sl 6 0 x13.length, .sl 4 0 x11.length] (handO (rho ([] ++ [])) [] [] ++ [(6, .arr 1 (List.map enc_s x13)), (4, .arr 1 (List.map enc_s x11))]) (callEv [] [] (.v (.bool x15)) [])]) [2] [] (s1 := ⟨[(2, .v (.bool x15))], []⟩) (C := ((([.agg [.sl 2 0 x3.length]] : List AV) = [.agg [.sl 2 0 x3.length]]) ∧ (AO.arr 2 (List.map enc_si x3) = AO.arr 2 (List.map enc_si x3)) ∧ True) ∧ ((([.sl 6 0 x13.length, .sl 4 0 x11.length] : List AV) = [.sl 6 0 x13.length, .sl 4 0 x11.length]) ∧ (AO.arr 1 (List.map enc_s x13) = AO.arr 1 (List.map enc_s x13)) ∧ (AO.arr 1 (List.map enc_s x11) = AO.arr 1 (List.map enc_s x11)) ∧ True) ∧ True) (by kernel_rfl) ⟨⟨rfl, rfl, trivial⟩, ⟨⟨rfl, rfl, rfl, trivial⟩, trivial⟩⟩ ⟨call_ok (ks := []) (ns := []) (bor := [2]) (bobjs := [(2, .arr 2 (List.map enc_si x3))]) (show Eng.Spec Tryd.prog 9 [.agg [.bs false 2 (List.map enc_si x3)]] [] (.v (.bool true)) [] from by have q := s_impl_ValidEnum x3 x14 e16; rw [b17] at q; exact q) (.cons (.c1 (.agg (.cons (.arr rfl rfl ((rfl).trans (List.length_map ..).symm)) (.nil)))) (.nil)) (by kernel_rfl) trivial, ⟨call_ok (ks := []) (ns := []) (bor := [6, 4]) (bobjs := [(6, .arr 1 (List.map enc_s x13)), (4, .arr 1 (List.map enc_s x11))]) (s_laws_equalTexts x13 x11 x15 e18) (.cons (.c1 (.c0 (.arr rfl rfl ((rfl).trans (List.length_map ..).symm)))) (.cons (.c1 (.c0 (.arr rfl rfl ((rfl).trans (List.length_map ..).symm)))) (.nil))) (by kernel_rfl) trivial, trivial⟩⟩ ?_
          refine AX.ret ?_
          refine fin_wk (Wk.forget [2] [] (s' := ⟨[(2, .v (.bool x15))], []⟩) (by kernel_rfl)) ?_
          have hr := Option.some.inj h
          subst hr
          exact ⟨_, Wk.refl _, .inr rfl, ⟨[], by kernel_rfl, trivial, [.v (.bool x15)], by kernel_rfl, by kernel_rfl⟩⟩
        · replace h := cd_f b17 h
          refine AX.reg (its := [.auto {}, .call 9 [.agg [.sl 2 0 x3.length]] (handO (rho ([] ++ [])) [] [] ++ [(2, .arr 2 (List.map enc_si x3))]) (callEv [] [] (.v (.bool false)) [])]) [2] [] (s1 := ⟨[(2, .v (.bool false))], []⟩) (C := ((([.agg [.sl 2 0 x3.length]] : List AV) = [.agg [.sl 2 0 x3.length]]) ∧ (AO.arr 2 (List.map enc_si x3) = AO.arr 2 (List.map enc_si x3)) ∧ True) ∧ True) (by kernel_rfl) ⟨⟨rfl, rfl, trivial⟩, trivial⟩ ⟨call_ok (ks := []) (ns := []) (bor := [2]) (bobjs := [(2, .arr 2 (List.map enc_si x3))]) (show Eng.Spec Tryd.prog 9 [.agg [.bs false 2 (List.map enc_si x3)]] [] (.v (.bool false)) [] from by have q := s_impl_ValidEnum x3 x14 e16; rw [b17] at q; exact q) (.cons (.c1 (.agg (.cons (.arr rfl rfl ((rfl).trans (List.length_map ..).symm)) (.nil)))) (.nil)) (by kernel_rfl) trivial, trivial⟩ ?_
          refine AX.ret ?_
          refine fin_wk (Wk.forget [2] [] (s' := ⟨[(2, .v (.bool false))], []⟩) (by kernel_rfl)) ?_
          have hr := Option.some.inj h
          subst hr
          exact ⟨_, Wk.refl _, .inr rfl, ⟨[], by kernel_rfl, trivial, [.v (.bool false)], by kernel_rfl, by kernel_rfl⟩⟩

end Go.Eng
