/- What is proved here: each function keeps to its model, whatever its arguments, wherever the model has an answer. Printed by gen.py. -/
import Derived.Test.YtomemaanjendhaaDoorCExactParseEnumWalk2
import Derived.Test.YtomemaanjendhaaDoorProg
import Derived.Test.YtomemaanjendhaaDoorCExactParseEnumShelf
import Derived.KernelRfl
set_option linter.unusedVariables false
set_option linter.unusedSimpArgs false
set_option linter.unnecessarySimpa false
namespace Go.Eng
open Go Go.Proofs


theorem s_laws_markDefS_h (p1 : Int) (p2 : List (ByteArray × Int)) (r : Int × (List (ByteArray × Int))) (h : m_laws_markDefS_h p1 p2 = some r) :
    Eng.Spec Tryd.prog 49 [.sl 0 0 p2.length, .v (.int .i64 p1)] [.arr 2 (List.map enc_si p2)] (.v (.int .i64 r.1)) [.arr 2 (List.map enc_si r.2)] := by
  unfold m_laws_markDefS_h at h
  refine Eng.Spec.body Tryd.func49 (by kernel_rfl) rfl (by kernel_rfl) ?_
  refine AX.wkpost ?_
  refine AX.seq ?_
  refine AX.reg (its := []) [0, 1] [0] (s1 := ⟨[(0, .sl 0 0 p2.length), (1, .v (.int .i64 p1))], [(0, .arr 2 (List.map enc_si p2))]⟩) (C := True) (by kernel_rfl) trivial trivial ?_
  refine AX.seq ?_
  refine AX.seq ?_
  refine AX.reg (its := []) [0, 1, 5] [0] (s1 := ⟨[(0, .sl 0 0 p2.length), (1, .v (.int .i64 p1)), (5, .v (.int .i64 0))], [(0, .arr 2 (List.map enc_si p2))]⟩) (C := True) (by kernel_rfl) trivial trivial ?_
  refine AX.block ?_
  obtain ⟨x7, e4, h⟩ := bd_e h
  refine AX.wk (Wk.forget [0, 1, 5] [0] (s' := ⟨[(0, .sl 0 0 p2.length), (1, .v (.int .i64 p1)), (5, .v (.int .i64 0))], [(0, .arr 2 (List.map enc_si p2))]⟩) (by kernel_rfl)) ?_
  refine AX.mono (s_laws_markDefS_h_L1  FU (p1, 0, p2) x7 e4) ?_
  rintro _ _ ⟨rfl, rfl⟩
  skip
  refine AX.seq ?_
  refine AX.reg (its := []) [4] [0] (s1 := ⟨[(4, .v (.int .i64 x7.1))], [(0, .arr 2 (List.map enc_si x7.2))]⟩) (C := True) (by kernel_rfl) trivial trivial ?_
  refine AX.ret ?_
  refine fin_wk (Wk.forget [4] [0] (s' := ⟨[(4, .v (.int .i64 x7.1))], [(0, .arr 2 (List.map enc_si x7.2))]⟩) (by kernel_rfl)) ?_
  have hr := Option.some.inj h
  subst hr
  exact ⟨_, Wk.refl _, .inr rfl, ⟨[], by kernel_rfl, ⟨rfl, trivial⟩, [.v (.int .i64 x7.1)], by kernel_rfl, by kernel_rfl⟩⟩

theorem s_laws_markEnum_h (p1 : Int) (p2 : List (ByteArray × Int)) (r : Int × (List (ByteArray × Int))) (h : m_laws_markEnum_h p1 p2 = some r) :
    Eng.Spec Tryd.prog 18 [.agg [.sl 0 0 p2.length], .v (.int .i64 p1)] [.arr 2 (List.map enc_si p2)] (.v (.int .i64 r.1)) [.arr 2 (List.map enc_si r.2)] := by
  unfold m_laws_markEnum_h at h
  refine Eng.Spec.body Tryd.func18 (by kernel_rfl) rfl (by kernel_rfl) ?_
  refine AX.wkpost ?_
  refine AX.seq ?_
  refine AX.reg (its := [.auto { nk := 1 }]) [1, 2] [0, 1] (s1 := ⟨[(1, .v (.int .i64 p1)), (2, .pt 1 0)], [(0, .arr 2 (List.map enc_si p2)), (1, .box [.sl 0 0 p2.length])]⟩) (C := True) (by kernel_rfl) trivial trivial ?_
  refine AX.seq ?_
  obtain ⟨x3, e1, h⟩ := bd_e h
  obtain ⟨g2, h⟩ := gd_e h
  refine AX.reg (its := [.auto {}, .auto {}, .auto {}, .call 49 [.sl 0 0 p2.length, .v (.int .i64 p1)] (handO (rho ([0] ++ [])) [0] [.arr 2 (List.map enc_si p2)] ++ []) (callEv [0] [] (.v (.int .i64 x3.1)) [.arr 2 (List.map enc_si x3.2)])]) [1] [0] (s1 := ⟨[(1, .v (.int .i64 x3.1))], [(0, .arr 2 (List.map enc_si x3.2))]⟩) (C := ((([.sl 0 0 p2.length, .v (.int .i64 p1)] : List AV) = [.sl 0 0 p2.length, .v (.int .i64 p1)]) ∧ (AO.arr 2 (List.map enc_si p2) = AO.arr 2 (List.map enc_si p2)) ∧ True) ∧ True) (by kernel_rfl) ⟨⟨rfl, rfl, trivial⟩, trivial⟩ ⟨call_ok (ks := [0]) (ns := []) (bor := []) (bobjs := []) (s_laws_markDefS_h p1 p2 x3 e1) (.cons (.c1 (.c0 (.same _ (by kernel_rfl) (by kernel_rfl)))) (.cons (.c1 (.c0 (.same _ (by kernel_rfl) (by kernel_rfl)))) (.nil))) (by kernel_rfl) ⟨.inr (arr_sh (enc := enc_si) g2), trivial⟩, trivial⟩ ?_
  refine AX.seq ?_
  refine AX.reg (its := []) [4] [0] (s1 := ⟨[(4, .v (.int .i64 x3.1))], [(0, .arr 2 (List.map enc_si x3.2))]⟩) (C := True) (by kernel_rfl) trivial trivial ?_
  refine AX.ret ?_
  refine fin_wk (Wk.forget [4] [0] (s' := ⟨[(4, .v (.int .i64 x3.1))], [(0, .arr 2 (List.map enc_si x3.2))]⟩) (by kernel_rfl)) ?_
  refine fin_wk (Wk.of_eq (congrArg (fun z => (⟨[(4, .v (.int .i64 x3.1))], [(0, .arr 2 (List.map enc_si x3.2))]⟩ : S)) (((rfl : p2.length = p2.length)).trans (g2).symm))) ?_
  have hr := Option.some.inj h
  subst hr
  exact ⟨_, Wk.refl _, .inr rfl, ⟨[], by kernel_rfl, ⟨rfl, trivial⟩, [.v (.int .i64 x3.1)], by kernel_rfl, by kernel_rfl⟩⟩

theorem s_laws_heldDefS_L1 (p1 : List (ByteArray × Int)) (n : Nat) (g : Int × Int) (out : Unit ⊕ Int) (h : m_laws_heldDefS_L1 p1 n g.1 g.2 = some out) :
    AX Tryd.prog 32 0 (codeAt [1, 0, 1, 1] (bodyOf Tryd.f50)) ((fun g : Int × Int => (⟨[(0, .bs false 2 (List.map enc_si p1)), (1, .v (.int .i64 g.1)), (5, .v (.int .i64 g.2))], []⟩ : S)) g) (fun ex s => (∃ o : Unit, out = Sum.inl o ∧ ex = .ret ∧ s = ⟨[(4, .v (.int .i64 (-1)))], []⟩) ∨ (∃ o : Int, out = Sum.inr o ∧ ex = .exit 0 ∧ s = ⟨[(1, .v (.int .i64 o))], []⟩)) := by
  refine AX.wkpost ?_
  refine AX.loop (G := Nat × (Int × Int)) (fun q => (fun g : Int × Int => (⟨[(0, .bs false 2 (List.map enc_si p1)), (1, .v (.int .i64 g.1)), (5, .v (.int .i64 g.2))], []⟩ : S)) q.2) (fun q => m_laws_heldDefS_L1 p1 q.1 q.2.1 q.2.2 = some out) (fun q => q.1) (n, g) h (Wk.refl _) ?_
  clear h
  rintro ⟨fu, v3, v4⟩ h
  cases fu with
  | zero => cases h
  | succ fu =>
    rw [m_laws_heldDefS_L1] at h
    refine AX.seq ?_
    refine AX.seq ?_
    refine AX.reg (its := [.auto {}, .auto {}, .auto { y := some (.v (.int .i64 (p1.length : Int))) }]) [0, 1, 5, 9] [] (s1 := ⟨[(0, .bs false 2 (List.map enc_si p1)), (1, .v (.int .i64 v3)), (5, .v (.int .i64 v4)), (9, .v (.bool (decide (v4 < (p1.length : Int)))))], []⟩) (C := (True ∧ (AV.v (.int .i64 ((List.map enc_si p1).length : Int)) = AV.v (.int .i64 (p1.length : Int)))) ∧ True) (by kernel_rfl) ⟨⟨trivial, len_map enc_si p1⟩, trivial⟩ trivial ?_
    rcases bool_cases (decide (v4 < (p1.length : Int))) with b1 | b1
    · replace h := cd_t b1 h
      refine AX.condT (decide (v4 < (p1.length : Int))) (by kernel_rfl) b1 ?_
      refine AX.skip ?_
      refine AX.seq ?_
      refine AX.block ?_
      refine AX.seq ?_
      refine AX.seq ?_
      obtain ⟨g2, h⟩ := gd_e h
      obtain ⟨x5, e3, h⟩ := bd_e h
      refine AX.drw mixed (its := [.auto {}, .auto {}, .auto { y := some (.be 2 (enc_si (gt p1 v4)) 0) }, .auto {}, .auto {}, .auto {}, .call 100 [.v (.int .i64 v3)] (handO (rho ([] ++ [])) [] [] ++ []) (callEv [] [] (.v (.string x5)) [])]) [0, 1, 5, 19] [] (s1 := ⟨[(0, .bs false 2 (List.map enc_si p1)), (1, .v (.int .i64 v3)), (5, .v (.int .i64 v4)), (19, .v (.bool (!decide (((gt p1 v4).1) = x5))))], []⟩) (C := ((0 ≤ v4 ∧ v4 < ((List.map enc_si p1).length : Int)) ∧ (AV.be 2 ((List.map enc_si p1).getD v4.toNat []) 0 = AV.be 2 (enc_si (gt p1 v4)) 0)) ∧ ((([.v (.int .i64 v3)] : List AV) = [.v (.int .i64 v3)]) ∧ True) ∧ True) (by kernel_rfl) ⟨idx_bs enc_si p1 v4 2 g2, ⟨⟨rfl, trivial⟩, trivial⟩⟩ ⟨call_ok (ks := []) (ns := []) (bor := []) (bobjs := []) (s_laws_markText v3 x5 e3) (.cons (.c1 (.c0 (.same _ (by kernel_rfl) (by kernel_rfl)))) (.nil)) (by kernel_rfl) trivial, trivial⟩ ?_
      rcases bool_cases ((!decide (((gt p1 v4).1) = x5))) with b4 | b4
      · replace h := cd_t b4 h
        refine AX.condT ((!decide (((gt p1 v4).1) = x5))) (by kernel_rfl) b4 ?_
        refine AX.seq ?_
        refine AX.reg (its := []) [4] [] (s1 := ⟨[(4, .v (.int .i64 (-1)))], []⟩) (C := True) (by kernel_rfl) trivial trivial ?_
        refine AX.ret ?_
        refine fin_wk (Wk.forget [4] [] (s' := ⟨[(4, .v (.int .i64 (-1)))], []⟩) (by kernel_rfl)) ?_
        have hr := Option.some.inj h
        subst hr
        exact ⟨_, Wk.refl _, .inl ⟨(), rfl, rfl, rfl⟩⟩
      · replace h := cd_f b4 h
        refine AX.condF ((!decide (((gt p1 v4).1) = x5))) (by kernel_rfl) b4 ?_
        refine AX.skip ?_
        refine AX.seq ?_
        refine AX.reg (its := [.auto {}, .auto { raw := true }]) [0, 1, 5] [] (s1 := ⟨[(0, .bs false 2 (List.map enc_si p1)), (1, .v (.int .i64 (IntKind.wrap .i64 (v3 + 1)))), (5, .v (.int .i64 v4))], []⟩) (C := True) (by kernel_rfl) trivial trivial ?_
        refine AX.seq ?_
        refine AX.seq ?_
        refine AX.reg (its := [.auto {}, .auto {}, .auto { y := some (.be 2 (enc_si (gt p1 v4)) 0) }]) [0, 1, 5, 28] [] (s1 := ⟨[(0, .bs false 2 (List.map enc_si p1)), (1, .v (.int .i64 (IntKind.wrap .i64 (v3 + 1)))), (5, .v (.int .i64 v4)), (28, .v (.bool (!decide (((gt p1 v4).2) = (IntKind.wrap .i64 (v3 + 1))))))], []⟩) (C := ((0 ≤ v4 ∧ v4 < ((List.map enc_si p1).length : Int)) ∧ (AV.be 2 ((List.map enc_si p1).getD v4.toNat []) 0 = AV.be 2 (enc_si (gt p1 v4)) 0)) ∧ True) (by kernel_rfl) ⟨idx_bs enc_si p1 v4 2 g2, trivial⟩ trivial ?_
        rcases bool_cases ((!decide (((gt p1 v4).2) = (IntKind.wrap .i64 (v3 + 1))))) with b5 | b5
        · replace h := cd_t b5 h
          refine AX.condT ((!decide (((gt p1 v4).2) = (IntKind.wrap .i64 (v3 + 1))))) (by kernel_rfl) b5 ?_
          refine AX.seq ?_
          refine AX.reg (its := []) [4] [] (s1 := ⟨[(4, .v (.int .i64 (-1)))], []⟩) (C := True) (by kernel_rfl) trivial trivial ?_
          refine AX.ret ?_
          refine fin_wk (Wk.forget [4] [] (s' := ⟨[(4, .v (.int .i64 (-1)))], []⟩) (by kernel_rfl)) ?_
          have hr := Option.some.inj h
          subst hr
          exact ⟨_, Wk.refl _, .inl ⟨(), rfl, rfl, rfl⟩⟩
        · replace h := cd_f b5 h
          refine AX.condF ((!decide (((gt p1 v4).2) = (IntKind.wrap .i64 (v3 + 1))))) (by kernel_rfl) b5 ?_
          refine AX.skip ?_
          refine AX.reg (its := [.auto {}, .auto { raw := true }]) [0, 1, 5] [] (s1 := ⟨[(0, .bs false 2 (List.map enc_si p1)), (1, .v (.int .i64 (IntKind.wrap .i64 ((IntKind.wrap .i64 (v3 + 1)) + 1)))), (5, .v (.int .i64 v4))], []⟩) (C := True) (by kernel_rfl) trivial trivial ?_
          refine AX.reg (its := [.auto {}, .auto { raw := true }]) [0, 1, 5] [] (s1 := ⟨[(0, .bs false 2 (List.map enc_si p1)), (1, .v (.int .i64 (IntKind.wrap .i64 ((IntKind.wrap .i64 (v3 + 1)) + 1)))), (5, .v (.int .i64 (IntKind.wrap .i64 (v4 + 1))))], []⟩) (C := True) (by kernel_rfl) trivial trivial ?_
          refine ⟨(fu, (IntKind.wrap .i64 ((IntKind.wrap .i64 (v3 + 1)) + 1), IntKind.wrap .i64 (v4 + 1))), h, Nat.lt_succ_self _, ?_⟩
          refine Wk.trans (Wk.forget [0, 1, 5] [] (s' := ⟨[(0, .bs false 2 (List.map enc_si p1)), (1, .v (.int .i64 (IntKind.wrap .i64 ((IntKind.wrap .i64 (v3 + 1)) + 1)))), (5, .v (.int .i64 (IntKind.wrap .i64 (v4 + 1))))], []⟩) (by kernel_rfl)) ?_
          exact Wk.refl _
    · replace h := cd_f b1 h
      refine AX.condF (decide (v4 < (p1.length : Int))) (by kernel_rfl) b1 ?_
      refine AX.exit ?_
      refine fin_wk (Wk.forget [1] [] (s' := ⟨[(1, .v (.int .i64 v3))], []⟩) (by kernel_rfl)) ?_
      have hr := Option.some.inj h
      subst hr
      exact ⟨_, Wk.refl _, .inr ⟨v3, rfl, rfl, rfl⟩⟩

theorem s_laws_heldDefS (p1 : List (ByteArray × Int)) (p2 : Int) (r : Int) (h : m_laws_heldDefS p1 p2 = some r) :
    Eng.Spec Tryd.prog 50 [.bs false 2 (List.map enc_si p1), .v (.int .i64 p2)] [] (.v (.int .i64 r)) [] := by
  unfold m_laws_heldDefS at h
  refine Eng.Spec.body Tryd.func50 (by kernel_rfl) rfl (by kernel_rfl) ?_
  refine AX.wkpost ?_
  refine AX.seq ?_
  refine AX.reg (its := []) [0, 1] [] (s1 := ⟨[(0, .bs false 2 (List.map enc_si p1)), (1, .v (.int .i64 p2))], []⟩) (C := True) (by kernel_rfl) trivial trivial ?_
  refine AX.seq ?_
  refine AX.seq ?_
  refine AX.reg (its := []) [0, 1, 5] [] (s1 := ⟨[(0, .bs false 2 (List.map enc_si p1)), (1, .v (.int .i64 p2)), (5, .v (.int .i64 0))], []⟩) (C := True) (by kernel_rfl) trivial trivial ?_
  refine AX.block ?_
  obtain ⟨x6, e6, h⟩ := bd_e h
  refine AX.wk (Wk.forget [0, 1, 5] [] (s' := ⟨[(0, .bs false 2 (List.map enc_si p1)), (1, .v (.int .i64 p2)), (5, .v (.int .i64 0))], []⟩) (by kernel_rfl)) ?_
  refine AX.mono (s_laws_heldDefS_L1 p1 FU (p2, 0) x6 e6) ?_
  rintro _ _ (⟨x7, rfl, rfl, rfl⟩ | ⟨x8, rfl, rfl, rfl⟩)
  · replace h := sm_l h
    refine fin_wk (Wk.forget [4] [] (s' := ⟨[(4, .v (.int .i64 (-1)))], []⟩) (by kernel_rfl)) ?_
    have hr := Option.some.inj h
    subst hr
    exact ⟨_, Wk.refl _, .inr rfl, ⟨[], by kernel_rfl, trivial, [.v (.int .i64 (-1))], by kernel_rfl, by kernel_rfl⟩⟩
  · replace h := sm_r h
    refine AX.seq ?_
    refine AX.reg (its := []) [4] [] (s1 := ⟨[(4, .v (.int .i64 x8))], []⟩) (C := True) (by kernel_rfl) trivial trivial ?_
    refine AX.ret ?_
    refine fin_wk (Wk.forget [4] [] (s' := ⟨[(4, .v (.int .i64 x8))], []⟩) (by kernel_rfl)) ?_
    have hr := Option.some.inj h
    subst hr
    exact ⟨_, Wk.refl _, .inr rfl, ⟨[], by kernel_rfl, trivial, [.v (.int .i64 x8)], by kernel_rfl, by kernel_rfl⟩⟩

theorem s_laws_heldEnum (p1 : List (ByteArray × Int)) (p2 : Int) (r : Int) (h : m_laws_heldEnum p1 p2 = some r) :
    Eng.Spec Tryd.prog 19 [.agg [.bs false 2 (List.map enc_si p1)], .v (.int .i64 p2)] [] (.v (.int .i64 r)) [] := by
  unfold m_laws_heldEnum at h
  refine Eng.Spec.body Tryd.func19 (by kernel_rfl) rfl (by kernel_rfl) ?_
  refine AX.wkpost ?_
  refine AX.seq ?_
  refine AX.reg (its := [.auto { nk := 0 }]) [1, 2] [0] (s1 := ⟨[(1, .v (.int .i64 p2)), (2, .pt 0 0)], [(0, .box [.bs false 2 (List.map enc_si p1)])]⟩) (C := True) (by kernel_rfl) trivial trivial ?_
  refine AX.seq ?_
  obtain ⟨x3, e1, h⟩ := bd_e h
  refine AX.reg (its := [.auto {}, .auto {}, .auto {}, .call 50 [.bs false 2 (List.map enc_si p1), .v (.int .i64 p2)] (handO (rho ([] ++ [])) [] [] ++ []) (callEv [] [] (.v (.int .i64 x3)) [])]) [1] [] (s1 := ⟨[(1, .v (.int .i64 x3))], []⟩) (C := ((([.bs false 2 (List.map enc_si p1), .v (.int .i64 p2)] : List AV) = [.bs false 2 (List.map enc_si p1), .v (.int .i64 p2)]) ∧ True) ∧ True) (by kernel_rfl) ⟨⟨rfl, trivial⟩, trivial⟩ ⟨call_ok (ks := []) (ns := []) (bor := []) (bobjs := []) (s_laws_heldDefS p1 p2 x3 e1) (.cons (.c1 (.c0 (.same _ (by kernel_rfl) (by kernel_rfl)))) (.cons (.c1 (.c0 (.same _ (by kernel_rfl) (by kernel_rfl)))) (.nil))) (by kernel_rfl) trivial, trivial⟩ ?_
  refine AX.seq ?_
  refine AX.seq ?_
  refine AX.reg (its := []) [1, 10] [] (s1 := ⟨[(1, .v (.int .i64 x3)), (10, .v (.bool (decide (x3 < 0))))], []⟩) (C := True) (by kernel_rfl) trivial trivial ?_
  rcases bool_cases (decide (x3 < 0)) with b2 | b2
  · replace h := cd_t b2 h
    refine AX.condT (decide (x3 < 0)) (by kernel_rfl) b2 ?_
    refine AX.seq ?_
    refine AX.reg (its := []) [4] [] (s1 := ⟨[(4, .v (.int .i64 (-1)))], []⟩) (C := True) (by kernel_rfl) trivial trivial ?_
    refine AX.ret ?_
    refine fin_wk (Wk.forget [4] [] (s' := ⟨[(4, .v (.int .i64 (-1)))], []⟩) (by kernel_rfl)) ?_
    have hr := Option.some.inj h
    subst hr
    exact ⟨_, Wk.refl _, .inr rfl, ⟨[], by kernel_rfl, trivial, [.v (.int .i64 (-1))], by kernel_rfl, by kernel_rfl⟩⟩
  · replace h := cd_f b2 h
    refine AX.condF (decide (x3 < 0)) (by kernel_rfl) b2 ?_
    refine AX.skip ?_
    refine AX.seq ?_
    refine AX.reg (its := []) [4] [] (s1 := ⟨[(4, .v (.int .i64 x3))], []⟩) (C := True) (by kernel_rfl) trivial trivial ?_
    refine AX.ret ?_
    refine fin_wk (Wk.forget [4] [] (s' := ⟨[(4, .v (.int .i64 x3))], []⟩) (by kernel_rfl)) ?_
    have hr := Option.some.inj h
    subst hr
    exact ⟨_, Wk.refl _, .inr rfl, ⟨[], by kernel_rfl, trivial, [.v (.int .i64 x3)], by kernel_rfl, by kernel_rfl⟩⟩

theorem s_laws_FnExactParseEnum (p1 : ByteArray) (r : Bool) (h : m_laws_FnExactParseEnum p1 = some r) :
    Eng.Spec Tryd.prog 4 [.v (.string p1)] [] (.v (.bool r)) [] := by
  unfold m_laws_FnExactParseEnum at h
  refine Eng.Spec.body Tryd.func4 (by kernel_rfl) rfl (by kernel_rfl) ?_
  refine AX.wkpost ?_
  refine AX.seq ?_
  refine AX.reg (its := []) [0] [] (s1 := ⟨[(0, .v (.string p1))], []⟩) (C := True) (by kernel_rfl) trivial trivial ?_
  refine AX.seq ?_
  refine AX.seq ?_
  refine AX.reg (its := []) [0, 13] [] (s1 := ⟨[(0, .v (.string p1)), (13, .v (.bool (decide (1048576 < (p1.size : Int)))))], []⟩) (C := True) (by kernel_rfl) trivial trivial ?_
  rcases bool_cases (decide (1048576 < (p1.size : Int))) with b1 | b1
  · replace h := cd_t b1 h
    refine AX.condT (decide (1048576 < (p1.size : Int))) (by kernel_rfl) b1 ?_
    refine AX.seq ?_
    refine AX.reg (its := []) [2] [] (s1 := ⟨[(2, .v (.bool true))], []⟩) (C := True) (by kernel_rfl) trivial trivial ?_
    refine AX.ret ?_
    refine fin_wk (Wk.forget [2] [] (s' := ⟨[(2, .v (.bool true))], []⟩) (by kernel_rfl)) ?_
    have hr := Option.some.inj h
    subst hr
    exact ⟨_, Wk.refl _, .inr rfl, ⟨[], by kernel_rfl, trivial, [.v (.bool true)], by kernel_rfl, by kernel_rfl⟩⟩
  · replace h := cd_f b1 h
    refine AX.condF (decide (1048576 < (p1.size : Int))) (by kernel_rfl) b1 ?_
    refine AX.skip ?_
    refine AX.seq ?_
    obtain ⟨x2, e2, h⟩ := bd_e h
    refine AX.reg (its := [.auto {}, .call 15 [.v (.string p1)] (handO (rho ([] ++ [0])) [] [] ++ []) (callEv [] [0] (.tup [.agg [.sl 0 0 x2.1.length], .v (.bool x2.2)]) [.arr 2 (List.map enc_si x2.1)]), .auto {}, .auto {}, .auto {}, .auto { nk := 1 }]) [0, 3, 4] [0, 1] (s1 := ⟨[(0, .v (.string p1)), (3, .pt 1 0), (4, .v (.bool x2.2))], [(0, .arr 2 (List.map enc_si x2.1)), (1, .box [.sl 0 0 x2.1.length])]⟩) (C := ((([.v (.string p1)] : List AV) = [.v (.string p1)]) ∧ True) ∧ True) (by kernel_rfl) ⟨⟨rfl, trivial⟩, trivial⟩ ⟨call_ok (ks := []) (ns := [0]) (bor := []) (bobjs := []) (s_spec_ParseEnum p1 x2 e2) (.cons (.c1 (.c0 (.same _ (by kernel_rfl) (by kernel_rfl)))) (.nil)) (by kernel_rfl) trivial, trivial⟩ ?_
    refine AX.seq ?_
    obtain ⟨x3, e3, h⟩ := bd_e h
    refine AX.reg (its := [.auto {}, .call 16 [.v (.string p1)] (handO (rho ([] ++ [2])) [] [] ++ []) (callEv [] [2] (.tup [.agg [.sl 0 0 x3.1.length], .v (.bool x3.2)]) [.arr 2 (List.map enc_si x3.1)]), .auto {}, .auto {}, .auto {}, .auto { nk := 3 }]) [0, 3, 4, 5, 6] [0, 1, 2, 3] (s1 := ⟨[(0, .v (.string p1)), (3, .pt 1 0), (4, .v (.bool x2.2)), (5, .pt 3 0), (6, .v (.bool x3.2))], [(0, .arr 2 (List.map enc_si x2.1)), (1, .box [.sl 0 0 x2.1.length]), (2, .arr 2 (List.map enc_si x3.1)), (3, .box [.sl 2 0 x3.1.length])]⟩) (C := ((([.v (.string p1)] : List AV) = [.v (.string p1)]) ∧ True) ∧ True) (by kernel_rfl) ⟨⟨rfl, trivial⟩, trivial⟩ ⟨call_ok (ks := []) (ns := [2]) (bor := []) (bobjs := []) (s_impl_ParseEnum p1 x3 e3) (.cons (.c1 (.c0 (.same _ (by kernel_rfl) (by kernel_rfl)))) (.nil)) (by kernel_rfl) trivial, trivial⟩ ?_
    refine AX.seq ?_
    refine AX.seq ?_
    obtain ⟨x4, e4, h⟩ := bd_e h
    rcases bool_cases ((!x4)) with b5 | b5
    · replace h := cd_t b5 h
      refine AX.reg (its := [.auto {}, .auto {}, .call 17 [.agg [.sl 2 0 x3.1.length], .agg [.sl 0 0 x2.1.length]] (handO (rho ([] ++ [])) [] [] ++ [(2, .arr 2 (List.map enc_si x3.1)), (0, .arr 2 (List.map enc_si x2.1))]) (callEv [] [] (.v (.bool x4)) []), .auto { y := some (.v (.bool true)) }]) [0, 3, 4, 5, 32] [0, 1, 2, 3] (s1 := ⟨[(0, .v (.string p1)), (3, .pt 1 0), (4, .v (.bool x2.2)), (5, .pt 3 0), (32, .v (.bool true))], [(0, .arr 2 (List.map enc_si x2.1)), (1, .box [.sl 0 0 x2.1.length]), (2, .arr 2 (List.map enc_si x3.1)), (3, .box [.sl 2 0 x3.1.length])]⟩) (C := ((([.agg [.sl 2 0 x3.1.length], .agg [.sl 0 0 x2.1.length]] : List AV) = [.agg [.sl 2 0 x3.1.length], .agg [.sl 0 0 x2.1.length]]) ∧ (AO.arr 2 (List.map enc_si x3.1) = AO.arr 2 (List.map enc_si x3.1)) ∧ (AO.arr 2 (List.map enc_si x2.1) = AO.arr 2 (List.map enc_si x2.1)) ∧ True) ∧ ((True) ∧ ((.v (.bool (!x4)) : AV) = (.v (.bool true) : AV))) ∧ True) (by kernel_rfl) ⟨⟨rfl, rfl, rfl, trivial⟩, ⟨⟨trivial, (congrArg (fun z => AV.v (.bool z)) b5)⟩, trivial⟩⟩ ⟨call_ok (ks := []) (ns := []) (bor := [2, 0]) (bobjs := [(2, .arr 2 (List.map enc_si x3.1)), (0, .arr 2 (List.map enc_si x2.1))]) (s_laws_eqEnum x3.1 x2.1 x4 e4) (.cons (.c1 (.agg (.cons (.arr rfl rfl ((rfl).trans (List.length_map ..).symm)) (.nil)))) (.cons (.c1 (.agg (.cons (.arr rfl rfl ((rfl).trans (List.length_map ..).symm)) (.nil)))) (.nil))) (by kernel_rfl) trivial, trivial⟩ ?_
      refine AX.cond_true (by kernel_rfl) ?_
      refine AX.seq ?_
      refine AX.reg (its := []) [2] [] (s1 := ⟨[(2, .v (.bool false))], []⟩) (C := True) (by kernel_rfl) trivial trivial ?_
      refine AX.ret ?_
      refine fin_wk (Wk.forget [2] [] (s' := ⟨[(2, .v (.bool false))], []⟩) (by kernel_rfl)) ?_
      have hr := Option.some.inj h
      subst hr
      exact ⟨_, Wk.refl _, .inr rfl, ⟨[], by kernel_rfl, trivial, [.v (.bool false)], by kernel_rfl, by kernel_rfl⟩⟩
    · replace h := cd_f b5 h
      refine AX.reg (its := [.auto {}, .auto {}, .call 17 [.agg [.sl 2 0 x3.1.length], .agg [.sl 0 0 x2.1.length]] (handO (rho ([] ++ [])) [] [] ++ [(2, .arr 2 (List.map enc_si x3.1)), (0, .arr 2 (List.map enc_si x2.1))]) (callEv [] [] (.v (.bool x4)) []), .auto { y := some (.v (.bool false)) }]) [0, 3, 4, 5, 32] [0, 1, 2, 3] (s1 := ⟨[(0, .v (.string p1)), (3, .pt 1 0), (4, .v (.bool x2.2)), (5, .pt 3 0), (32, .v (.bool (!(x3.2 == x2.2))))], [(0, .arr 2 (List.map enc_si x2.1)), (1, .box [.sl 0 0 x2.1.length]), (2, .arr 2 (List.map enc_si x3.1)), (3, .box [.sl 2 0 x3.1.length])]⟩) (C := ((([.agg [.sl 2 0 x3.1.length], .agg [.sl 0 0 x2.1.length]] : List AV) = [.agg [.sl 2 0 x3.1.length], .agg [.sl 0 0 x2.1.length]]) ∧ (AO.arr 2 (List.map enc_si x3.1) = AO.arr 2 (List.map enc_si x3.1)) ∧ (AO.arr 2 (List.map enc_si x2.1) = AO.arr 2 (List.map enc_si x2.1)) ∧ True) ∧ ((True) ∧ ((.v (.bool (!x4)) : AV) = (.v (.bool false) : AV))) ∧ True) (by kernel_rfl) ⟨⟨rfl, rfl, rfl, trivial⟩, ⟨⟨trivial, (congrArg (fun z => AV.v (.bool z)) b5)⟩, trivial⟩⟩ ⟨call_ok (ks := []) (ns := []) (bor := [2, 0]) (bobjs := [(2, .arr 2 (List.map enc_si x3.1)), (0, .arr 2 (List.map enc_si x2.1))]) (s_laws_eqEnum x3.1 x2.1 x4 e4) (.cons (.c1 (.agg (.cons (.arr rfl rfl ((rfl).trans (List.length_map ..).symm)) (.nil)))) (.cons (.c1 (.agg (.cons (.arr rfl rfl ((rfl).trans (List.length_map ..).symm)) (.nil)))) (.nil))) (by kernel_rfl) trivial, trivial⟩ ?_
      rcases bool_cases ((!(x3.2 == x2.2))) with b6 | b6
      · replace h := cd_t b6 h
        refine AX.condT ((!(x3.2 == x2.2))) (by kernel_rfl) b6 ?_
        refine AX.seq ?_
        refine AX.reg (its := []) [2] [] (s1 := ⟨[(2, .v (.bool false))], []⟩) (C := True) (by kernel_rfl) trivial trivial ?_
        refine AX.ret ?_
        refine fin_wk (Wk.forget [2] [] (s' := ⟨[(2, .v (.bool false))], []⟩) (by kernel_rfl)) ?_
        have hr := Option.some.inj h
        subst hr
        exact ⟨_, Wk.refl _, .inr rfl, ⟨[], by kernel_rfl, trivial, [.v (.bool false)], by kernel_rfl, by kernel_rfl⟩⟩
      · replace h := cd_f b6 h
        refine AX.condF ((!(x3.2 == x2.2))) (by kernel_rfl) b6 ?_
        refine AX.skip ?_
        refine AX.seq ?_
        refine AX.reg (its := []) [0, 3, 4, 5, 7] [0, 1, 2, 3] (s1 := ⟨[(0, .v (.string p1)), (3, .pt 1 0), (4, .v (.bool x2.2)), (5, .pt 3 0), (7, .v (.int .i64 1))], [(0, .arr 2 (List.map enc_si x2.1)), (1, .box [.sl 0 0 x2.1.length]), (2, .arr 2 (List.map enc_si x3.1)), (3, .box [.sl 2 0 x3.1.length])]⟩) (C := True) (by kernel_rfl) trivial trivial ?_
        refine AX.seq ?_
        obtain ⟨x5, e7, h⟩ := bd_e h
        obtain ⟨g8, h⟩ := gd_e h
        refine AX.reg (its := [.auto {}, .auto {}, .call 18 [.agg [.sl 2 0 x3.1.length], .v (.int .i64 1)] (handO (rho ([2] ++ [])) [2] [.arr 2 (List.map enc_si x3.1)] ++ []) (callEv [2] [] (.v (.int .i64 x5.1)) [.arr 2 (List.map enc_si x5.2)])]) [0, 3, 4, 5, 7] [0, 1, 2, 3] (s1 := ⟨[(0, .v (.string p1)), (3, .pt 1 0), (4, .v (.bool x2.2)), (5, .pt 3 0), (7, .v (.int .i64 x5.1))], [(0, .arr 2 (List.map enc_si x2.1)), (1, .box [.sl 0 0 x2.1.length]), (2, .arr 2 (List.map enc_si x5.2)), (3, .box [.sl 2 0 x3.1.length])]⟩) (C := ((([.agg [.sl 2 0 x3.1.length], .v (.int .i64 1)] : List AV) = [.agg [.sl 2 0 x3.1.length], .v (.int .i64 1)]) ∧ (AO.arr 2 (List.map enc_si x3.1) = AO.arr 2 (List.map enc_si x3.1)) ∧ True) ∧ True) (by kernel_rfl) ⟨⟨rfl, rfl, trivial⟩, trivial⟩ ⟨call_ok (ks := [2]) (ns := []) (bor := []) (bobjs := []) (s_laws_markEnum_h 1 x3.1 x5 e7) (.cons (.c1 (.agg (.cons (.same _ (by kernel_rfl) (by kernel_rfl)) (.nil)))) (.cons (.c1 (.c0 (.same _ (by kernel_rfl) (by kernel_rfl)))) (.nil))) (by kernel_rfl) ⟨.inr (arr_sh (enc := enc_si) g8), trivial⟩, trivial⟩ ?_
        refine AX.seq ?_
        refine AX.reg (its := []) [0, 3, 4, 5, 7, 8] [0, 1, 2, 3] (s1 := ⟨[(0, .v (.string p1)), (3, .pt 1 0), (4, .v (.bool x2.2)), (5, .pt 3 0), (7, .v (.int .i64 x5.1)), (8, .v (.int .i64 1))], [(0, .arr 2 (List.map enc_si x2.1)), (1, .box [.sl 0 0 x2.1.length]), (2, .arr 2 (List.map enc_si x5.2)), (3, .box [.sl 2 0 x3.1.length])]⟩) (C := True) (by kernel_rfl) trivial trivial ?_
        refine AX.seq ?_
        obtain ⟨x6, e9, h⟩ := bd_e h
        refine AX.reg (its := [.auto {}, .auto {}, .call 19 [.agg [.sl 2 0 x3.1.length], .v (.int .i64 1)] (handO (rho ([] ++ [])) [] [] ++ [(2, .arr 2 (List.map enc_si x5.2))]) (callEv [] [] (.v (.int .i64 x6)) [])]) [0, 3, 4, 5, 7, 8] [0, 1, 2, 3] (s1 := ⟨[(0, .v (.string p1)), (3, .pt 1 0), (4, .v (.bool x2.2)), (5, .pt 3 0), (7, .v (.int .i64 x5.1)), (8, .v (.int .i64 x6))], [(0, .arr 2 (List.map enc_si x2.1)), (1, .box [.sl 0 0 x2.1.length]), (2, .arr 2 (List.map enc_si x5.2)), (3, .box [.sl 2 0 x3.1.length])]⟩) (C := ((([.agg [.sl 2 0 x3.1.length], .v (.int .i64 1)] : List AV) = [.agg [.sl 2 0 x3.1.length], .v (.int .i64 1)]) ∧ (AO.arr 2 (List.map enc_si x5.2) = AO.arr 2 (List.map enc_si x5.2)) ∧ True) ∧ True) (by kernel_rfl) ⟨⟨rfl, rfl, trivial⟩, trivial⟩ ⟨call_ok (ks := []) (ns := []) (bor := [2]) (bobjs := [(2, .arr 2 (List.map enc_si x5.2))]) (s_laws_heldEnum x5.2 1 x6 e9) (.cons (.c1 (.agg (.cons (.arr rfl rfl ((((rfl : x3.1.length = x3.1.length)).trans (g8).symm).trans (List.length_map ..).symm)) (.nil)))) (.cons (.c1 (.c0 (.same _ (by kernel_rfl) (by kernel_rfl)))) (.nil))) (by kernel_rfl) trivial, trivial⟩ ?_
        refine AX.seq ?_
        refine AX.seq ?_
        refine AX.reg (its := []) [0, 3, 4, 5, 7, 8, 40] [0, 1, 2, 3] (s1 := ⟨[(0, .v (.string p1)), (3, .pt 1 0), (4, .v (.bool x2.2)), (5, .pt 3 0), (7, .v (.int .i64 x5.1)), (8, .v (.int .i64 x6)), (40, .v (.bool (decide (x6 < 0))))], [(0, .arr 2 (List.map enc_si x2.1)), (1, .box [.sl 0 0 x2.1.length]), (2, .arr 2 (List.map enc_si x5.2)), (3, .box [.sl 2 0 x3.1.length])]⟩) (C := True) (by kernel_rfl) trivial trivial ?_
        rcases bool_cases (decide (x6 < 0)) with b10 | b10
        · replace h := cd_t b10 h
          refine AX.condT (decide (x6 < 0)) (by kernel_rfl) b10 ?_
          refine AX.seq ?_
          refine AX.reg (its := []) [2] [] (s1 := ⟨[(2, .v (.bool false))], []⟩) (C := True) (by kernel_rfl) trivial trivial ?_
          refine AX.ret ?_
          refine fin_wk (Wk.forget [2] [] (s' := ⟨[(2, .v (.bool false))], []⟩) (by kernel_rfl)) ?_
          have hr := Option.some.inj h
          subst hr
          exact ⟨_, Wk.refl _, .inr rfl, ⟨[], by kernel_rfl, trivial, [.v (.bool false)], by kernel_rfl, by kernel_rfl⟩⟩
        · replace h := cd_f b10 h
          refine AX.condF (decide (x6 < 0)) (by kernel_rfl) b10 ?_
          refine AX.skip ?_
          refine AX.seq ?_
          refine AX.seq ?_
          refine AX.reg (its := []) [0, 3, 4, 5, 7, 43] [0, 1, 2, 3] (s1 := ⟨[(0, .v (.string p1)), (3, .pt 1 0), (4, .v (.bool x2.2)), (5, .pt 3 0), (7, .v (.int .i64 x5.1)), (43, .v (.bool (!decide (x6 = x5.1))))], [(0, .arr 2 (List.map enc_si x2.1)), (1, .box [.sl 0 0 x2.1.length]), (2, .arr 2 (List.map enc_si x5.2)), (3, .box [.sl 2 0 x3.1.length])]⟩) (C := True) (by kernel_rfl) trivial trivial ?_
          rcases bool_cases ((!decide (x6 = x5.1))) with b11 | b11
          · replace h := cd_t b11 h
            refine AX.condT ((!decide (x6 = x5.1))) (by kernel_rfl) b11 ?_
            refine AX.seq ?_
            refine AX.reg (its := []) [2] [] (s1 := ⟨[(2, .v (.bool false))], []⟩) (C := True) (by kernel_rfl) trivial trivial ?_
            refine AX.ret ?_
            refine fin_wk (Wk.forget [2] [] (s' := ⟨[(2, .v (.bool false))], []⟩) (by kernel_rfl)) ?_
            have hr := Option.some.inj h
            subst hr
            exact ⟨_, Wk.refl _, .inr rfl, ⟨[], by kernel_rfl, trivial, [.v (.bool false)], by kernel_rfl, by kernel_rfl⟩⟩
          · replace h := cd_f b11 h
            refine AX.condF ((!decide (x6 = x5.1))) (by kernel_rfl) b11 ?_
            refine AX.skip ?_
            refine AX.seq ?_
            obtain ⟨x7, e12, h⟩ := bd_e h
            refine AX.reg (its := [.auto {}, .call 16 [.v (.string p1)] (handO (rho ([] ++ [4])) [] [] ++ []) (callEv [] [4] (.tup [.agg [.sl 0 0 x7.1.length], .v (.bool x7.2)]) [.arr 2 (List.map enc_si x7.1)]), .auto {}, .auto {}, .auto {}, .auto { nk := 5 }]) [3, 4, 5, 7, 9, 10] [0, 1, 2, 3, 4, 5] (s1 := ⟨[(3, .pt 1 0), (4, .v (.bool x2.2)), (5, .pt 3 0), (7, .v (.int .i64 x5.1)), (9, .pt 5 0), (10, .v (.bool x7.2))], [(0, .arr 2 (List.map enc_si x2.1)), (1, .box [.sl 0 0 x2.1.length]), (2, .arr 2 (List.map enc_si x5.2)), (3, .box [.sl 2 0 x3.1.length]), (4, .arr 2 (List.map enc_si x7.1)), (5, .box [.sl 4 0 x7.1.length])]⟩) (C := ((([.v (.string p1)] : List AV) = [.v (.string p1)]) ∧ True) ∧ True) (by kernel_rfl) ⟨⟨rfl, trivial⟩, trivial⟩ ⟨call_ok (ks := []) (ns := [4]) (bor := []) (bobjs := []) (s_impl_ParseEnum p1 x7 e12) (.cons (.c1 (.c0 (.same _ (by kernel_rfl) (by kernel_rfl)))) (.nil)) (by kernel_rfl) trivial, trivial⟩ ?_
            refine AX.seq ?_
            refine AX.seq ?_
            obtain ⟨x8, e13, h⟩ := bd_e h
            rcases bool_cases ((!x8)) with b14 | b14
            · replace h := cd_t b14 h
              refine AX.reg (its := [.auto {}, .auto {}, .call 17 [.agg [.sl 4 0 x7.1.length], .agg [.sl 0 0 x2.1.length]] (handO (rho ([] ++ [])) [] [] ++ [(4, .arr 2 (List.map enc_si x7.1)), (0, .arr 2 (List.map enc_si x2.1))]) (callEv [] [] (.v (.bool x8)) []), .auto { y := some (.v (.bool true)) }]) [5, 7, 57] [2, 3] (s1 := ⟨[(5, .pt 3 0), (7, .v (.int .i64 x5.1)), (57, .v (.bool true))], [(2, .arr 2 (List.map enc_si x5.2)), (3, .box [.sl 2 0 x3.1.length])]⟩) (C := ((([.agg [.sl 4 0 x7.1.length], .agg [.sl 0 0 x2.1.length]] : List AV) = [.agg [.sl 4 0 x7.1.length], .agg [.sl 0 0 x2.1.length]]) ∧ (AO.arr 2 (List.map enc_si x7.1) = AO.arr 2 (List.map enc_si x7.1)) ∧ (AO.arr 2 (List.map enc_si x2.1) = AO.arr 2 (List.map enc_si x2.1)) ∧ True) ∧ ((True) ∧ ((.v (.bool (!x8)) : AV) = (.v (.bool true) : AV))) ∧ True) (by kernel_rfl) ⟨⟨rfl, rfl, rfl, trivial⟩, ⟨⟨trivial, (congrArg (fun z => AV.v (.bool z)) b14)⟩, trivial⟩⟩ ⟨call_ok (ks := []) (ns := []) (bor := [4, 0]) (bobjs := [(4, .arr 2 (List.map enc_si x7.1)), (0, .arr 2 (List.map enc_si x2.1))]) (s_laws_eqEnum x7.1 x2.1 x8 e13) (.cons (.c1 (.agg (.cons (.arr rfl rfl ((rfl).trans (List.length_map ..).symm)) (.nil)))) (.cons (.c1 (.agg (.cons (.arr rfl rfl ((rfl).trans (List.length_map ..).symm)) (.nil)))) (.nil))) (by kernel_rfl) trivial, trivial⟩ ?_
              refine AX.cond_true (by kernel_rfl) ?_
              refine AX.seq ?_
              refine AX.reg (its := []) [2] [] (s1 := ⟨[(2, .v (.bool false))], []⟩) (C := True) (by kernel_rfl) trivial trivial ?_
              refine AX.ret ?_
              refine fin_wk (Wk.forget [2] [] (s' := ⟨[(2, .v (.bool false))], []⟩) (by kernel_rfl)) ?_
              have hr := Option.some.inj h
              subst hr
              exact ⟨_, Wk.refl _, .inr rfl, ⟨[], by kernel_rfl, trivial, [.v (.bool false)], by kernel_rfl, by kernel_rfl⟩⟩
            · replace h := cd_f b14 h
              refine AX.reg (its := [.auto {}, .auto {}, .call 17 [.agg [.sl 4 0 x7.1.length], .agg [.sl 0 0 x2.1.length]] (handO (rho ([] ++ [])) [] [] ++ [(4, .arr 2 (List.map enc_si x7.1)), (0, .arr 2 (List.map enc_si x2.1))]) (callEv [] [] (.v (.bool x8)) []), .auto { y := some (.v (.bool false)) }]) [5, 7, 57] [2, 3] (s1 := ⟨[(5, .pt 3 0), (7, .v (.int .i64 x5.1)), (57, .v (.bool (!(x7.2 == x2.2))))], [(2, .arr 2 (List.map enc_si x5.2)), (3, .box [.sl 2 0 x3.1.length])]⟩) (C := ((([.agg [.sl 4 0 x7.1.length], .agg [.sl 0 0 x2.1.length]] : List AV) = [.agg [.sl 4 0 x7.1.length], .agg [.sl 0 0 x2.1.length]]) ∧ (AO.arr 2 (List.map enc_si x7.1) = AO.arr 2 (List.map enc_si x7.1)) ∧ (AO.arr 2 (List.map enc_si x2.1) = AO.arr 2 (List.map enc_si x2.1)) ∧ True) ∧ ((True) ∧ ((.v (.bool (!x8)) : AV) = (.v (.bool false) : AV))) ∧ True) (by kernel_rfl) ⟨⟨rfl, rfl, rfl, trivial⟩, ⟨⟨trivial, (congrArg (fun z => AV.v (.bool z)) b14)⟩, trivial⟩⟩ ⟨call_ok (ks := []) (ns := []) (bor := [4, 0]) (bobjs := [(4, .arr 2 (List.map enc_si x7.1)), (0, .arr 2 (List.map enc_si x2.1))]) (s_laws_eqEnum x7.1 x2.1 x8 e13) (.cons (.c1 (.agg (.cons (.arr rfl rfl ((rfl).trans (List.length_map ..).symm)) (.nil)))) (.cons (.c1 (.agg (.cons (.arr rfl rfl ((rfl).trans (List.length_map ..).symm)) (.nil)))) (.nil))) (by kernel_rfl) trivial, trivial⟩ ?_
              rcases bool_cases ((!(x7.2 == x2.2))) with b15 | b15
              · replace h := cd_t b15 h
                refine AX.condT ((!(x7.2 == x2.2))) (by kernel_rfl) b15 ?_
                refine AX.seq ?_
                refine AX.reg (its := []) [2] [] (s1 := ⟨[(2, .v (.bool false))], []⟩) (C := True) (by kernel_rfl) trivial trivial ?_
                refine AX.ret ?_
                refine fin_wk (Wk.forget [2] [] (s' := ⟨[(2, .v (.bool false))], []⟩) (by kernel_rfl)) ?_
                have hr := Option.some.inj h
                subst hr
                exact ⟨_, Wk.refl _, .inr rfl, ⟨[], by kernel_rfl, trivial, [.v (.bool false)], by kernel_rfl, by kernel_rfl⟩⟩
              · replace h := cd_f b15 h
                refine AX.condF ((!(x7.2 == x2.2))) (by kernel_rfl) b15 ?_
                refine AX.skip ?_
                refine AX.seq ?_
                refine AX.reg (its := []) [5, 7, 8] [2, 3] (s1 := ⟨[(5, .pt 3 0), (7, .v (.int .i64 x5.1)), (8, .v (.int .i64 1))], [(2, .arr 2 (List.map enc_si x5.2)), (3, .box [.sl 2 0 x3.1.length])]⟩) (C := True) (by kernel_rfl) trivial trivial ?_
                refine AX.seq ?_
                obtain ⟨x9, e16, h⟩ := bd_e h
                refine AX.reg (its := [.auto {}, .auto {}, .call 19 [.agg [.sl 2 0 x3.1.length], .v (.int .i64 1)] (handO (rho ([] ++ [])) [] [] ++ [(2, .arr 2 (List.map enc_si x5.2))]) (callEv [] [] (.v (.int .i64 x9)) [])]) [7, 8] [] (s1 := ⟨[(7, .v (.int .i64 x5.1)), (8, .v (.int .i64 x9))], []⟩) (C := ((([.agg [.sl 2 0 x3.1.length], .v (.int .i64 1)] : List AV) = [.agg [.sl 2 0 x3.1.length], .v (.int .i64 1)]) ∧ (AO.arr 2 (List.map enc_si x5.2) = AO.arr 2 (List.map enc_si x5.2)) ∧ True) ∧ True) (by kernel_rfl) ⟨⟨rfl, rfl, trivial⟩, trivial⟩ ⟨call_ok (ks := []) (ns := []) (bor := [2]) (bobjs := [(2, .arr 2 (List.map enc_si x5.2))]) (s_laws_heldEnum x5.2 1 x9 e16) (.cons (.c1 (.agg (.cons (.arr rfl rfl ((((rfl : x3.1.length = x3.1.length)).trans (g8).symm).trans (List.length_map ..).symm)) (.nil)))) (.cons (.c1 (.c0 (.same _ (by kernel_rfl) (by kernel_rfl)))) (.nil))) (by kernel_rfl) trivial, trivial⟩ ?_
                refine AX.seq ?_
                refine AX.seq ?_
                refine AX.reg (its := []) [7, 8, 62] [] (s1 := ⟨[(7, .v (.int .i64 x5.1)), (8, .v (.int .i64 x9)), (62, .v (.bool (decide (x9 < 0))))], []⟩) (C := True) (by kernel_rfl) trivial trivial ?_
                rcases bool_cases (decide (x9 < 0)) with b17 | b17
                · replace h := cd_t b17 h
                  refine AX.condT (decide (x9 < 0)) (by kernel_rfl) b17 ?_
                  refine AX.seq ?_
                  refine AX.reg (its := []) [2] [] (s1 := ⟨[(2, .v (.bool false))], []⟩) (C := True) (by kernel_rfl) trivial trivial ?_
                  refine AX.ret ?_
                  refine fin_wk (Wk.forget [2] [] (s' := ⟨[(2, .v (.bool false))], []⟩) (by kernel_rfl)) ?_
                  have hr := Option.some.inj h
                  subst hr
                  exact ⟨_, Wk.refl _, .inr rfl, ⟨[], by kernel_rfl, trivial, [.v (.bool false)], by kernel_rfl, by kernel_rfl⟩⟩
                · replace h := cd_f b17 h
                  refine AX.condF (decide (x9 < 0)) (by kernel_rfl) b17 ?_
                  refine AX.skip ?_
                  refine AX.seq ?_
                  refine AX.seq ?_
                  refine AX.reg (its := []) [65] [] (s1 := ⟨[(65, .v (.bool (!decide (x9 = x5.1))))], []⟩) (C := True) (by kernel_rfl) trivial trivial ?_
                  rcases bool_cases ((!decide (x9 = x5.1))) with b18 | b18
                  · replace h := cd_t b18 h
                    refine AX.condT ((!decide (x9 = x5.1))) (by kernel_rfl) b18 ?_
                    refine AX.seq ?_
                    refine AX.reg (its := []) [2] [] (s1 := ⟨[(2, .v (.bool false))], []⟩) (C := True) (by kernel_rfl) trivial trivial ?_
                    refine AX.ret ?_
                    refine fin_wk (Wk.forget [2] [] (s' := ⟨[(2, .v (.bool false))], []⟩) (by kernel_rfl)) ?_
                    have hr := Option.some.inj h
                    subst hr
                    exact ⟨_, Wk.refl _, .inr rfl, ⟨[], by kernel_rfl, trivial, [.v (.bool false)], by kernel_rfl, by kernel_rfl⟩⟩
                  · replace h := cd_f b18 h
                    refine AX.condF ((!decide (x9 = x5.1))) (by kernel_rfl) b18 ?_
                    refine AX.skip ?_
                    refine AX.seq ?_
                    refine AX.reg (its := []) [2] [] (s1 := ⟨[(2, .v (.bool true))], []⟩) (C := True) (by kernel_rfl) trivial trivial ?_
                    refine AX.ret ?_
                    refine fin_wk (Wk.forget [2] [] (s' := ⟨[(2, .v (.bool true))], []⟩) (by kernel_rfl)) ?_
                    have hr := Option.some.inj h
                    subst hr
                    exact ⟨_, Wk.refl _, .inr rfl, ⟨[], by kernel_rfl, trivial, [.v (.bool true)], by kernel_rfl, by kernel_rfl⟩⟩

end Go.Eng
