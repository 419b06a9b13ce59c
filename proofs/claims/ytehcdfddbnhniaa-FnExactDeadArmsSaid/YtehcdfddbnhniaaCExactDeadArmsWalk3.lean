/- What is proved here: each function keeps to its model, whatever its arguments, wherever the model has an answer. Printed by gen.py. -/
import Derived.Test.YtehcdfddbnhniaaCExactDeadArmsWalk2
import Derived.Test.YtehcdfddbnhniaaProg
import Derived.KernelRfl
set_option linter.unusedVariables false
namespace Go.Eng
open Go Go.Proofs


theorem s_laws_markDefS_h (p1 : Int) (p2 : List (ByteArray × Int)) (r : Int × (List (ByteArray × Int))) (h : m_laws_markDefS_h p1 p2 = some r) :
    Eng.Spec Try.prog 103 [.sl 0 0 p2.length, .v (.int .i64 p1)] [.arr 2 (List.map enc_si p2)] (.v (.int .i64 r.1)) [.arr 2 (List.map enc_si r.2)] := by
  unfold m_laws_markDefS_h at h
  refine Eng.Spec.body Try.func103 (by kernel_rfl) rfl (by kernel_rfl) ?_
  refine AX.wkpost ?_
  refine AX.seq ?_
  refine AX.reg (its := []) [0, 1] [0] (s1 := ⟨[(0, .sl 0 0 p2.length), (1, .v (.int .i64 p1))], [(0, .arr 2 (List.map enc_si p2))]⟩) (C := True) (by kernel_rfl) trivial trivial ?_
  refine AX.seq ?_
  refine AX.seq ?_
  refine AX.reg (its := []) [0, 1, 5] [0] (s1 := ⟨[(0, .sl 0 0 p2.length), (1, .v (.int .i64 p1)), (5, .v (.int .i64 0))], [(0, .arr 2 (List.map enc_si p2))]⟩) (C := True) (by kernel_rfl) trivial trivial ?_
  refine AX.block ?_
  obtain ⟨x7, e4, h⟩ := bd_e h
  refine AX.wk (Wk.forget [0, 1, 5] [0] (s' := ⟨[(0, .sl 0 0 p2.length), (1, .v (.int .i64 p1)), (5, .v (.int .i64 0))], [(0, .arr 2 (List.map enc_si p2))]⟩) (by kernel_rfl)) ?_
  refine AX.mono (s_laws_markDefS_h_L1  FU (p1, 0, p2) x7 e4) ?_
  rintro _ _ ⟨rfl, rfl⟩
  skip
  refine AX.seq ?_
  refine AX.reg (its := []) [4] [0] (s1 := ⟨[(4, .v (.int .i64 x7.1))], [(0, .arr 2 (List.map enc_si x7.2))]⟩) (C := True) (by kernel_rfl) trivial trivial ?_
  refine AX.ret ?_
  refine fin_wk (Wk.forget [4] [0] (s' := ⟨[(4, .v (.int .i64 x7.1))], [(0, .arr 2 (List.map enc_si x7.2))]⟩) (by kernel_rfl)) ?_
  have hr := Option.some.inj h
  subst hr
  exact ⟨_, Wk.refl _, .inr rfl, ⟨[], by kernel_rfl, ⟨rfl, trivial⟩, [.v (.int .i64 x7.1)], by kernel_rfl, by kernel_rfl⟩⟩

theorem s_laws_markFlag_h (p1 : Int) (p2 : Int) (p3 : List (ByteArray × Int)) (r : Int × (List (ByteArray × Int))) (h : m_laws_markFlag_h p1 p2 p3 = some r) :
    Eng.Spec Try.prog 28 [.agg [.sl 0 0 p3.length, .v (.int .i64 p1)], .v (.int .i64 p2)] [.arr 2 (List.map enc_si p3)] (.v (.int .i64 r.1)) [.arr 2 (List.map enc_si r.2)] := by
  unfold m_laws_markFlag_h at h
  refine Eng.Spec.body Try.func28 (by kernel_rfl) rfl (by kernel_rfl) ?_
  refine AX.wkpost ?_
  refine AX.seq ?_
  refine AX.reg (its := [.auto { nk := 1 }]) [1, 2] [0, 1] (s1 := ⟨[(1, .v (.int .i64 p2)), (2, .pt 1 0)], [(0, .arr 2 (List.map enc_si p3)), (1, .box [.sl 0 0 p3.length, .v (.int .i64 p1)])]⟩) (C := True) (by kernel_rfl) trivial trivial ?_
  refine AX.seq ?_
  obtain ⟨x4, e1, h⟩ := bd_e h
  obtain ⟨g2, h⟩ := gd_e h
  refine AX.reg (its := [.auto {}, .auto {}, .auto {}, .call 103 [.sl 0 0 p3.length, .v (.int .i64 p2)] (handO (rho ([0] ++ [])) [0] [.arr 2 (List.map enc_si p3)] ++ []) (callEv [0] [] (.v (.int .i64 x4.1)) [.arr 2 (List.map enc_si x4.2)])]) [1] [0] (s1 := ⟨[(1, .v (.int .i64 x4.1))], [(0, .arr 2 (List.map enc_si x4.2))]⟩) (C := ((([.sl 0 0 p3.length, .v (.int .i64 p2)] : List AV) = [.sl 0 0 p3.length, .v (.int .i64 p2)]) ∧ (AO.arr 2 (List.map enc_si p3) = AO.arr 2 (List.map enc_si p3)) ∧ True) ∧ True) (by kernel_rfl) ⟨⟨rfl, rfl, trivial⟩, trivial⟩ ⟨call_ok (ks := [0]) (ns := []) (bor := []) (bobjs := []) (s_laws_markDefS_h p2 p3 x4 e1) (.cons (.c1 (.c0 (.same _ (by kernel_rfl) (by kernel_rfl)))) (.cons (.c1 (.c0 (.same _ (by kernel_rfl) (by kernel_rfl)))) (.nil))) (by kernel_rfl) ⟨.inr (arr_sh (enc := enc_si) g2), trivial⟩, trivial⟩ ?_
  refine AX.seq ?_
  refine AX.reg (its := []) [4] [0] (s1 := ⟨[(4, .v (.int .i64 x4.1))], [(0, .arr 2 (List.map enc_si x4.2))]⟩) (C := True) (by kernel_rfl) trivial trivial ?_
  refine AX.ret ?_
  refine fin_wk (Wk.forget [4] [0] (s' := ⟨[(4, .v (.int .i64 x4.1))], [(0, .arr 2 (List.map enc_si x4.2))]⟩) (by kernel_rfl)) ?_
  refine fin_wk (Wk.of_eq (congrArg (fun z => (⟨[(4, .v (.int .i64 x4.1))], [(0, .arr 2 (List.map enc_si x4.2))]⟩ : S)) (((rfl : p3.length = p3.length)).trans (g2).symm))) ?_
  have hr := Option.some.inj h
  subst hr
  exact ⟨_, Wk.refl _, .inr rfl, ⟨[], by kernel_rfl, ⟨rfl, trivial⟩, [.v (.int .i64 x4.1)], by kernel_rfl, by kernel_rfl⟩⟩

theorem s_laws_markArmS_h_L1  (n : Nat) (g : Int × Int × (List (Int × Int))) (out : Int × (List (Int × Int))) (h : m_laws_markArmS_h_L1 n g.1 g.2.1 g.2.2 = some out) :
    AX Try.prog 27 1 (codeAt [1, 0, 1, 1] (bodyOf Try.f30)) ((fun g : Int × Int × (List (Int × Int)) => (⟨[(0, .sl 0 0 g.2.2.length), (1, .v (.int .i64 g.1)), (5, .v (.int .i64 g.2.1))], [(0, .arr 2 (List.map enc_ii g.2.2))]⟩ : S)) g) (fun ex s => ex = .exit 0 ∧ s = (fun o : Int × (List (Int × Int)) => (⟨[(1, .v (.int .i64 o.1))], [(0, .arr 2 (List.map enc_ii o.2))]⟩ : S)) out) := by
  refine AX.wkpost ?_
  refine AX.loop (G := Nat × (Int × Int × (List (Int × Int)))) (fun q => (fun g : Int × Int × (List (Int × Int)) => (⟨[(0, .sl 0 0 g.2.2.length), (1, .v (.int .i64 g.1)), (5, .v (.int .i64 g.2.1))], [(0, .arr 2 (List.map enc_ii g.2.2))]⟩ : S)) q.2) (fun q => m_laws_markArmS_h_L1 q.1 q.2.1 q.2.2.1 q.2.2.2 = some out) (fun q => q.1) (n, g) h (Wk.refl _) ?_
  clear h
  rintro ⟨fu, v3, v4, v5⟩ h
  cases fu with
  | zero => cases h
  | succ fu =>
    rw [m_laws_markArmS_h_L1] at h
    refine AX.seq ?_
    refine AX.seq ?_
    refine AX.reg (its := []) [0, 1, 5, 9] [0] (s1 := ⟨[(0, .sl 0 0 v5.length), (1, .v (.int .i64 v3)), (5, .v (.int .i64 v4)), (9, .v (.bool (decide (v4 < (v5.length : Int)))))], [(0, .arr 2 (List.map enc_ii v5))]⟩) (C := True) (by kernel_rfl) trivial trivial ?_
    rcases bool_cases (decide (v4 < (v5.length : Int))) with b1 | b1
    · replace h := cd_t b1 h
      refine AX.condT (decide (v4 < (v5.length : Int))) (by kernel_rfl) b1 ?_
      refine AX.skip ?_
      refine AX.seq ?_
      refine AX.block ?_
      refine AX.seq ?_
      obtain ⟨g2, h⟩ := gd_e h
      refine AX.reg (its := [.auto {}, .auto {}, .auto {}, .auto {}, .auto {}, .auto { els := some ([enc_ii (v3, (gt v5 v4).2)]) }]) [0, 1, 5] [0] (s1 := ⟨[(0, .sl 0 0 v5.length), (1, .v (.int .i64 v3)), (5, .v (.int .i64 v4))], [(0, .arr 2 ((List.map enc_ii v5).set (0 + v4.toNat) (enc_ii (v3, (gt v5 v4).2))))]⟩) (C := (0 ≤ v4 ∧ v4 < (v5.length : Int)) ∧ ((((List.map enc_ii v5).getD (0 + v4.toNat) []).take 0 ++ [(.int .i64 v3)] ++ ((List.map enc_ii v5).getD (0 + v4.toNat) []).drop 1 = enc_ii (v3, (gt v5 v4).2))) ∧ True) (by kernel_rfl) ⟨g2, ⟨(congrArg (fun z : List Value => z.take 0 ++ [(.int .i64 v3)] ++ z.drop 1) (idx_arr (enc := enc_ii) rfl g2)), trivial⟩⟩ trivial ?_
      refine AX.seq ?_
      refine AX.reg (its := [.auto {}, .auto { raw := true }]) [0, 1, 5] [0] (s1 := ⟨[(0, .sl 0 0 v5.length), (1, .v (.int .i64 (IntKind.wrap .i64 (v3 + 1)))), (5, .v (.int .i64 v4))], [(0, .arr 2 ((List.map enc_ii v5).set (0 + v4.toNat) (enc_ii (v3, (gt v5 v4).2))))]⟩) (C := True) (by kernel_rfl) trivial trivial ?_
      refine AX.seq ?_
      refine AX.reg (its := [.auto {}, .auto {}, .auto {}, .auto {}, .auto {}, .auto { els := some ([enc_ii ((gt (v5.set (0 + v4.toNat) (v3, (gt v5 v4).2)) v4).1, IntKind.wrap .i64 (v3 + 1))]) }]) [0, 1, 5] [0] (s1 := ⟨[(0, .sl 0 0 v5.length), (1, .v (.int .i64 (IntKind.wrap .i64 (v3 + 1)))), (5, .v (.int .i64 v4))], [(0, .arr 2 (((List.map enc_ii v5).set (0 + v4.toNat) (enc_ii (v3, (gt v5 v4).2))).set (0 + v4.toNat) (enc_ii ((gt (v5.set (0 + v4.toNat) (v3, (gt v5 v4).2)) v4).1, IntKind.wrap .i64 (v3 + 1)))))]⟩) (C := (0 ≤ v4 ∧ v4 < (v5.length : Int)) ∧ (((((List.map enc_ii v5).set (0 + v4.toNat) (enc_ii (v3, (gt v5 v4).2))).getD (0 + v4.toNat) []).take 1 ++ [(.int .i64 (IntKind.wrap .i64 (v3 + 1)))] ++ (((List.map enc_ii v5).set (0 + v4.toNat) (enc_ii (v3, (gt v5 v4).2))).getD (0 + v4.toNat) []).drop 2 = enc_ii ((gt (v5.set (0 + v4.toNat) (v3, (gt v5 v4).2)) v4).1, IntKind.wrap .i64 (v3 + 1)))) ∧ True) (by kernel_rfl) ⟨g2, ⟨(congrArg (fun z : List Value => z.take 1 ++ [(.int .i64 (IntKind.wrap .i64 (v3 + 1)))] ++ z.drop 2) (idx_arr (enc := enc_ii) (set_can (enc := enc_ii) rfl (0 + v4.toNat) (v3, (gt v5 v4).2)) (idx_len (set_len ((rfl : v5.length = v5.length)) (0 + v4.toNat) (v3, (gt v5 v4).2)) g2))), trivial⟩⟩ trivial ?_
      refine AX.reg (its := [.auto {}, .auto { raw := true }]) [0, 1, 5] [0] (s1 := ⟨[(0, .sl 0 0 v5.length), (1, .v (.int .i64 (IntKind.wrap .i64 ((IntKind.wrap .i64 (v3 + 1)) + 1)))), (5, .v (.int .i64 v4))], [(0, .arr 2 (((List.map enc_ii v5).set (0 + v4.toNat) (enc_ii (v3, (gt v5 v4).2))).set (0 + v4.toNat) (enc_ii ((gt (v5.set (0 + v4.toNat) (v3, (gt v5 v4).2)) v4).1, IntKind.wrap .i64 (v3 + 1)))))]⟩) (C := True) (by kernel_rfl) trivial trivial ?_
      refine AX.reg (its := [.auto {}, .auto { raw := true }]) [0, 1, 5] [0] (s1 := ⟨[(0, .sl 0 0 v5.length), (1, .v (.int .i64 (IntKind.wrap .i64 ((IntKind.wrap .i64 (v3 + 1)) + 1)))), (5, .v (.int .i64 (IntKind.wrap .i64 (v4 + 1))))], [(0, .arr 2 (((List.map enc_ii v5).set (0 + v4.toNat) (enc_ii (v3, (gt v5 v4).2))).set (0 + v4.toNat) (enc_ii ((gt (v5.set (0 + v4.toNat) (v3, (gt v5 v4).2)) v4).1, IntKind.wrap .i64 (v3 + 1)))))]⟩) (C := True) (by kernel_rfl) trivial trivial ?_
      refine ⟨(fu, (IntKind.wrap .i64 ((IntKind.wrap .i64 (v3 + 1)) + 1), IntKind.wrap .i64 (v4 + 1), (v5.set (0 + v4.toNat) (v3, (gt v5 v4).2)).set (0 + v4.toNat) ((gt (v5.set (0 + v4.toNat) (v3, (gt v5 v4).2)) v4).1, IntKind.wrap .i64 (v3 + 1)))), h, Nat.lt_succ_self _, ?_⟩
      refine Wk.trans (Wk.forget [0, 1, 5] [0] (s' := ⟨[(0, .sl 0 0 v5.length), (1, .v (.int .i64 (IntKind.wrap .i64 ((IntKind.wrap .i64 (v3 + 1)) + 1)))), (5, .v (.int .i64 (IntKind.wrap .i64 (v4 + 1))))], [(0, .arr 2 (((List.map enc_ii v5).set (0 + v4.toNat) (enc_ii (v3, (gt v5 v4).2))).set (0 + v4.toNat) (enc_ii ((gt (v5.set (0 + v4.toNat) (v3, (gt v5 v4).2)) v4).1, IntKind.wrap .i64 (v3 + 1)))))]⟩) (by kernel_rfl)) ?_
      refine Wk.trans (Wk.of_eq (congrArg (fun z => (⟨[(0, .sl 0 0 v5.length), (1, .v (.int .i64 (IntKind.wrap .i64 ((IntKind.wrap .i64 (v3 + 1)) + 1)))), (5, .v (.int .i64 (IntKind.wrap .i64 (v4 + 1))))], [(0, .arr 2 (z))]⟩ : S)) (set_can (enc := enc_ii) (set_can (enc := enc_ii) rfl (0 + v4.toNat) (v3, (gt v5 v4).2)) (0 + v4.toNat) ((gt (v5.set (0 + v4.toNat) (v3, (gt v5 v4).2)) v4).1, IntKind.wrap .i64 (v3 + 1))))) ?_
      refine Wk.trans (Wk.of_eq (congrArg (fun z => (⟨[(0, .sl 0 0 z), (1, .v (.int .i64 (IntKind.wrap .i64 ((IntKind.wrap .i64 (v3 + 1)) + 1)))), (5, .v (.int .i64 (IntKind.wrap .i64 (v4 + 1))))], [(0, .arr 2 (List.map enc_ii ((v5.set (0 + v4.toNat) (v3, (gt v5 v4).2)).set (0 + v4.toNat) ((gt (v5.set (0 + v4.toNat) (v3, (gt v5 v4).2)) v4).1, IntKind.wrap .i64 (v3 + 1)))))]⟩ : S)) (set_len ((set_len ((rfl : v5.length = v5.length)) (0 + v4.toNat) (v3, (gt v5 v4).2) : v5.length = (v5.set (0 + v4.toNat) (v3, (gt v5 v4).2)).length)) (0 + v4.toNat) ((gt (v5.set (0 + v4.toNat) (v3, (gt v5 v4).2)) v4).1, IntKind.wrap .i64 (v3 + 1))))) ?_
      exact Wk.refl _
    · replace h := cd_f b1 h
      refine AX.condF (decide (v4 < (v5.length : Int))) (by kernel_rfl) b1 ?_
      refine AX.exit ?_
      refine fin_wk (Wk.forget [1] [0] (s' := ⟨[(1, .v (.int .i64 v3))], [(0, .arr 2 (List.map enc_ii v5))]⟩) (by kernel_rfl)) ?_
      have hr := Option.some.inj h
      subst hr
      exact ⟨_, Wk.refl _, ⟨rfl, rfl⟩⟩

theorem s_laws_markArmS_h (p1 : Int) (p2 : List (Int × Int)) (r : Int × (List (Int × Int))) (h : m_laws_markArmS_h p1 p2 = some r) :
    Eng.Spec Try.prog 30 [.sl 0 0 p2.length, .v (.int .i64 p1)] [.arr 2 (List.map enc_ii p2)] (.v (.int .i64 r.1)) [.arr 2 (List.map enc_ii r.2)] := by
  unfold m_laws_markArmS_h at h
  refine Eng.Spec.body Try.func30 (by kernel_rfl) rfl (by kernel_rfl) ?_
  refine AX.wkpost ?_
  refine AX.seq ?_
  refine AX.reg (its := []) [0, 1] [0] (s1 := ⟨[(0, .sl 0 0 p2.length), (1, .v (.int .i64 p1))], [(0, .arr 2 (List.map enc_ii p2))]⟩) (C := True) (by kernel_rfl) trivial trivial ?_
  refine AX.seq ?_
  refine AX.seq ?_
  refine AX.reg (its := []) [0, 1, 5] [0] (s1 := ⟨[(0, .sl 0 0 p2.length), (1, .v (.int .i64 p1)), (5, .v (.int .i64 0))], [(0, .arr 2 (List.map enc_ii p2))]⟩) (C := True) (by kernel_rfl) trivial trivial ?_
  refine AX.block ?_
  obtain ⟨x6, e3, h⟩ := bd_e h
  refine AX.wk (Wk.forget [0, 1, 5] [0] (s' := ⟨[(0, .sl 0 0 p2.length), (1, .v (.int .i64 p1)), (5, .v (.int .i64 0))], [(0, .arr 2 (List.map enc_ii p2))]⟩) (by kernel_rfl)) ?_
  refine AX.mono (s_laws_markArmS_h_L1  FU (p1, 0, p2) x6 e3) ?_
  rintro _ _ ⟨rfl, rfl⟩
  skip
  refine AX.seq ?_
  refine AX.reg (its := []) [4] [0] (s1 := ⟨[(4, .v (.int .i64 x6.1))], [(0, .arr 2 (List.map enc_ii x6.2))]⟩) (C := True) (by kernel_rfl) trivial trivial ?_
  refine AX.ret ?_
  refine fin_wk (Wk.forget [4] [0] (s' := ⟨[(4, .v (.int .i64 x6.1))], [(0, .arr 2 (List.map enc_ii x6.2))]⟩) (by kernel_rfl)) ?_
  have hr := Option.some.inj h
  subst hr
  exact ⟨_, Wk.refl _, .inr rfl, ⟨[], by kernel_rfl, ⟨rfl, trivial⟩, [.v (.int .i64 x6.1)], by kernel_rfl, by kernel_rfl⟩⟩

theorem s_laws_markIntS_h_L1  (n : Nat) (g : Int × Int × List (Int)) (out : Int × List (Int)) (h : m_laws_markIntS_h_L1 n g.1 g.2.1 g.2.2 = some out) :
    AX Try.prog 19 1 (codeAt [1, 0, 1, 1] (bodyOf Try.f29)) ((fun g : Int × Int × List (Int) => (⟨[(0, .sl 0 0 g.2.2.length), (1, .v (.int .i64 g.1)), (5, .v (.int .i64 g.2.1))], [(0, .arr 1 (List.map enc_i g.2.2))]⟩ : S)) g) (fun ex s => ex = .exit 0 ∧ s = (fun o : Int × List (Int) => (⟨[(1, .v (.int .i64 o.1))], [(0, .arr 1 (List.map enc_i o.2))]⟩ : S)) out) := by
  refine AX.wkpost ?_
  refine AX.loop (G := Nat × (Int × Int × List (Int))) (fun q => (fun g : Int × Int × List (Int) => (⟨[(0, .sl 0 0 g.2.2.length), (1, .v (.int .i64 g.1)), (5, .v (.int .i64 g.2.1))], [(0, .arr 1 (List.map enc_i g.2.2))]⟩ : S)) q.2) (fun q => m_laws_markIntS_h_L1 q.1 q.2.1 q.2.2.1 q.2.2.2 = some out) (fun q => q.1) (n, g) h (Wk.refl _) ?_
  clear h
  rintro ⟨fu, v3, v4, v5⟩ h
  cases fu with
  | zero => cases h
  | succ fu =>
    rw [m_laws_markIntS_h_L1] at h
    refine AX.seq ?_
    refine AX.seq ?_
    refine AX.reg (its := []) [0, 1, 5, 9] [0] (s1 := ⟨[(0, .sl 0 0 v5.length), (1, .v (.int .i64 v3)), (5, .v (.int .i64 v4)), (9, .v (.bool (decide (v4 < (v5.length : Int)))))], [(0, .arr 1 (List.map enc_i v5))]⟩) (C := True) (by kernel_rfl) trivial trivial ?_
    rcases bool_cases (decide (v4 < (v5.length : Int))) with b1 | b1
    · replace h := cd_t b1 h
      refine AX.condT (decide (v4 < (v5.length : Int))) (by kernel_rfl) b1 ?_
      refine AX.skip ?_
      refine AX.seq ?_
      refine AX.block ?_
      refine AX.seq ?_
      obtain ⟨g2, h⟩ := gd_e h
      refine AX.reg (its := []) [0, 1, 5] [0] (s1 := ⟨[(0, .sl 0 0 v5.length), (1, .v (.int .i64 v3)), (5, .v (.int .i64 v4))], [(0, .arr 1 ((List.map enc_i v5).set (0 + v4.toNat) [(.int .i64 v3)]))]⟩) (C := (0 ≤ v4 ∧ v4 < (v5.length : Int)) ∧ True) (by kernel_rfl) ⟨g2, trivial⟩ trivial ?_
      refine AX.reg (its := [.auto {}, .auto { raw := true }]) [0, 1, 5] [0] (s1 := ⟨[(0, .sl 0 0 v5.length), (1, .v (.int .i64 (IntKind.wrap .i64 (v3 + 1)))), (5, .v (.int .i64 v4))], [(0, .arr 1 ((List.map enc_i v5).set (0 + v4.toNat) [(.int .i64 v3)]))]⟩) (C := True) (by kernel_rfl) trivial trivial ?_
      refine AX.reg (its := [.auto {}, .auto { raw := true }]) [0, 1, 5] [0] (s1 := ⟨[(0, .sl 0 0 v5.length), (1, .v (.int .i64 (IntKind.wrap .i64 (v3 + 1)))), (5, .v (.int .i64 (IntKind.wrap .i64 (v4 + 1))))], [(0, .arr 1 ((List.map enc_i v5).set (0 + v4.toNat) [(.int .i64 v3)]))]⟩) (C := True) (by kernel_rfl) trivial trivial ?_
      refine ⟨(fu, (IntKind.wrap .i64 (v3 + 1), IntKind.wrap .i64 (v4 + 1), v5.set (0 + v4.toNat) v3)), h, Nat.lt_succ_self _, ?_⟩
      refine Wk.trans (Wk.forget [0, 1, 5] [0] (s' := ⟨[(0, .sl 0 0 v5.length), (1, .v (.int .i64 (IntKind.wrap .i64 (v3 + 1)))), (5, .v (.int .i64 (IntKind.wrap .i64 (v4 + 1))))], [(0, .arr 1 ((List.map enc_i v5).set (0 + v4.toNat) [(.int .i64 v3)]))]⟩) (by kernel_rfl)) ?_
      refine Wk.trans (Wk.of_eq (congrArg (fun z => (⟨[(0, .sl 0 0 v5.length), (1, .v (.int .i64 (IntKind.wrap .i64 (v3 + 1)))), (5, .v (.int .i64 (IntKind.wrap .i64 (v4 + 1))))], [(0, .arr 1 (z))]⟩ : S)) (set_can (enc := enc_i) rfl (0 + v4.toNat) v3))) ?_
      refine Wk.trans (Wk.of_eq (congrArg (fun z => (⟨[(0, .sl 0 0 z), (1, .v (.int .i64 (IntKind.wrap .i64 (v3 + 1)))), (5, .v (.int .i64 (IntKind.wrap .i64 (v4 + 1))))], [(0, .arr 1 (List.map enc_i (v5.set (0 + v4.toNat) v3)))]⟩ : S)) (set_len ((rfl : v5.length = v5.length)) (0 + v4.toNat) v3))) ?_
      exact Wk.refl _
    · replace h := cd_f b1 h
      refine AX.condF (decide (v4 < (v5.length : Int))) (by kernel_rfl) b1 ?_
      refine AX.exit ?_
      refine fin_wk (Wk.forget [1] [0] (s' := ⟨[(1, .v (.int .i64 v3))], [(0, .arr 1 (List.map enc_i v5))]⟩) (by kernel_rfl)) ?_
      have hr := Option.some.inj h
      subst hr
      exact ⟨_, Wk.refl _, ⟨rfl, rfl⟩⟩

theorem s_laws_markIntS_h (p1 : Int) (p2 : List (Int)) (r : Int × List (Int)) (h : m_laws_markIntS_h p1 p2 = some r) :
    Eng.Spec Try.prog 29 [.sl 0 0 p2.length, .v (.int .i64 p1)] [.arr 1 (List.map enc_i p2)] (.v (.int .i64 r.1)) [.arr 1 (List.map enc_i r.2)] := by
  unfold m_laws_markIntS_h at h
  refine Eng.Spec.body Try.func29 (by kernel_rfl) rfl (by kernel_rfl) ?_
  refine AX.wkpost ?_
  refine AX.seq ?_
  refine AX.reg (its := []) [0, 1] [0] (s1 := ⟨[(0, .sl 0 0 p2.length), (1, .v (.int .i64 p1))], [(0, .arr 1 (List.map enc_i p2))]⟩) (C := True) (by kernel_rfl) trivial trivial ?_
  refine AX.seq ?_
  refine AX.seq ?_
  refine AX.reg (its := []) [0, 1, 5] [0] (s1 := ⟨[(0, .sl 0 0 p2.length), (1, .v (.int .i64 p1)), (5, .v (.int .i64 0))], [(0, .arr 1 (List.map enc_i p2))]⟩) (C := True) (by kernel_rfl) trivial trivial ?_
  refine AX.block ?_
  obtain ⟨x6, e3, h⟩ := bd_e h
  refine AX.wk (Wk.forget [0, 1, 5] [0] (s' := ⟨[(0, .sl 0 0 p2.length), (1, .v (.int .i64 p1)), (5, .v (.int .i64 0))], [(0, .arr 1 (List.map enc_i p2))]⟩) (by kernel_rfl)) ?_
  refine AX.mono (s_laws_markIntS_h_L1  FU (p1, 0, p2) x6 e3) ?_
  rintro _ _ ⟨rfl, rfl⟩
  skip
  refine AX.seq ?_
  refine AX.reg (its := []) [4] [0] (s1 := ⟨[(4, .v (.int .i64 x6.1))], [(0, .arr 1 (List.map enc_i x6.2))]⟩) (C := True) (by kernel_rfl) trivial trivial ?_
  refine AX.ret ?_
  refine fin_wk (Wk.forget [4] [0] (s' := ⟨[(4, .v (.int .i64 x6.1))], [(0, .arr 1 (List.map enc_i x6.2))]⟩) (by kernel_rfl)) ?_
  have hr := Option.some.inj h
  subst hr
  exact ⟨_, Wk.refl _, .inr rfl, ⟨[], by kernel_rfl, ⟨rfl, trivial⟩, [.v (.int .i64 x6.1)], by kernel_rfl, by kernel_rfl⟩⟩

theorem s_laws_heldIntS_L1 (p1 : List (Int)) (n : Nat) (g : Int × Int) (out : Unit ⊕ Int) (h : m_laws_heldIntS_L1 p1 n g.1 g.2 = some out) :
    AX Try.prog 21 0 (codeAt [1, 0, 1, 1] (bodyOf Try.f40)) ((fun g : Int × Int => (⟨[(0, .bs false 1 (List.map enc_i p1)), (1, .v (.int .i64 g.1)), (5, .v (.int .i64 g.2))], []⟩ : S)) g) (fun ex s => (∃ o : Unit, out = Sum.inl o ∧ ex = .ret ∧ s = ⟨[(4, .v (.int .i64 (-1)))], []⟩) ∨ (∃ o : Int, out = Sum.inr o ∧ ex = .exit 0 ∧ s = ⟨[(1, .v (.int .i64 o))], []⟩)) := by
  refine AX.wkpost ?_
  refine AX.loop (G := Nat × (Int × Int)) (fun q => (fun g : Int × Int => (⟨[(0, .bs false 1 (List.map enc_i p1)), (1, .v (.int .i64 g.1)), (5, .v (.int .i64 g.2))], []⟩ : S)) q.2) (fun q => m_laws_heldIntS_L1 p1 q.1 q.2.1 q.2.2 = some out) (fun q => q.1) (n, g) h (Wk.refl _) ?_
  clear h
  rintro ⟨fu, v3, v4⟩ h
  cases fu with
  | zero => cases h
  | succ fu =>
    rw [m_laws_heldIntS_L1] at h
    refine AX.seq ?_
    refine AX.seq ?_
    refine AX.reg (its := [.auto {}, .auto {}, .auto { y := some (.v (.int .i64 (p1.length : Int))) }]) [0, 1, 5, 9] [] (s1 := ⟨[(0, .bs false 1 (List.map enc_i p1)), (1, .v (.int .i64 v3)), (5, .v (.int .i64 v4)), (9, .v (.bool (decide (v4 < (p1.length : Int)))))], []⟩) (C := (True ∧ (AV.v (.int .i64 ((List.map enc_i p1).length : Int)) = AV.v (.int .i64 (p1.length : Int)))) ∧ True) (by kernel_rfl) ⟨⟨trivial, len_map enc_i p1⟩, trivial⟩ trivial ?_
    rcases bool_cases (decide (v4 < (p1.length : Int))) with b1 | b1
    · replace h := cd_t b1 h
      refine AX.condT (decide (v4 < (p1.length : Int))) (by kernel_rfl) b1 ?_
      refine AX.skip ?_
      refine AX.seq ?_
      refine AX.block ?_
      refine AX.seq ?_
      refine AX.seq ?_
      obtain ⟨g2, h⟩ := gd_e h
      refine AX.reg (its := [.auto {}, .auto {}, .auto { y := some (.be 1 (enc_i (gt p1 v4)) 0) }]) [0, 1, 5, 17] [] (s1 := ⟨[(0, .bs false 1 (List.map enc_i p1)), (1, .v (.int .i64 v3)), (5, .v (.int .i64 v4)), (17, .v (.bool (!decide ((gt p1 v4) = v3))))], []⟩) (C := ((0 ≤ v4 ∧ v4 < ((List.map enc_i p1).length : Int)) ∧ (AV.be 1 ((List.map enc_i p1).getD v4.toNat []) 0 = AV.be 1 (enc_i (gt p1 v4)) 0)) ∧ True) (by kernel_rfl) ⟨idx_bs enc_i p1 v4 1 g2, trivial⟩ trivial ?_
      rcases bool_cases ((!decide ((gt p1 v4) = v3))) with b3 | b3
      · replace h := cd_t b3 h
        refine AX.condT ((!decide ((gt p1 v4) = v3))) (by kernel_rfl) b3 ?_
        refine AX.seq ?_
        refine AX.reg (its := []) [4] [] (s1 := ⟨[(4, .v (.int .i64 (-1)))], []⟩) (C := True) (by kernel_rfl) trivial trivial ?_
        refine AX.ret ?_
        refine fin_wk (Wk.forget [4] [] (s' := ⟨[(4, .v (.int .i64 (-1)))], []⟩) (by kernel_rfl)) ?_
        have hr := Option.some.inj h
        subst hr
        exact ⟨_, Wk.refl _, .inl ⟨(), rfl, rfl, rfl⟩⟩
      · replace h := cd_f b3 h
        refine AX.condF ((!decide ((gt p1 v4) = v3))) (by kernel_rfl) b3 ?_
        refine AX.skip ?_
        refine AX.reg (its := [.auto {}, .auto { raw := true }]) [0, 1, 5] [] (s1 := ⟨[(0, .bs false 1 (List.map enc_i p1)), (1, .v (.int .i64 (IntKind.wrap .i64 (v3 + 1)))), (5, .v (.int .i64 v4))], []⟩) (C := True) (by kernel_rfl) trivial trivial ?_
        refine AX.reg (its := [.auto {}, .auto { raw := true }]) [0, 1, 5] [] (s1 := ⟨[(0, .bs false 1 (List.map enc_i p1)), (1, .v (.int .i64 (IntKind.wrap .i64 (v3 + 1)))), (5, .v (.int .i64 (IntKind.wrap .i64 (v4 + 1))))], []⟩) (C := True) (by kernel_rfl) trivial trivial ?_
        refine ⟨(fu, (IntKind.wrap .i64 (v3 + 1), IntKind.wrap .i64 (v4 + 1))), h, Nat.lt_succ_self _, ?_⟩
        refine Wk.trans (Wk.forget [0, 1, 5] [] (s' := ⟨[(0, .bs false 1 (List.map enc_i p1)), (1, .v (.int .i64 (IntKind.wrap .i64 (v3 + 1)))), (5, .v (.int .i64 (IntKind.wrap .i64 (v4 + 1))))], []⟩) (by kernel_rfl)) ?_
        exact Wk.refl _
    · replace h := cd_f b1 h
      refine AX.condF (decide (v4 < (p1.length : Int))) (by kernel_rfl) b1 ?_
      refine AX.exit ?_
      refine fin_wk (Wk.forget [1] [] (s' := ⟨[(1, .v (.int .i64 v3))], []⟩) (by kernel_rfl)) ?_
      have hr := Option.some.inj h
      subst hr
      exact ⟨_, Wk.refl _, .inr ⟨v3, rfl, rfl, rfl⟩⟩

theorem s_laws_heldIntS (p1 : List (Int)) (p2 : Int) (r : Int) (h : m_laws_heldIntS p1 p2 = some r) :
    Eng.Spec Try.prog 40 [.bs false 1 (List.map enc_i p1), .v (.int .i64 p2)] [] (.v (.int .i64 r)) [] := by
  unfold m_laws_heldIntS at h
  refine Eng.Spec.body Try.func40 (by kernel_rfl) rfl (by kernel_rfl) ?_
  refine AX.wkpost ?_
  refine AX.seq ?_
  refine AX.reg (its := []) [0, 1] [] (s1 := ⟨[(0, .bs false 1 (List.map enc_i p1)), (1, .v (.int .i64 p2))], []⟩) (C := True) (by kernel_rfl) trivial trivial ?_
  refine AX.seq ?_
  refine AX.seq ?_
  refine AX.reg (its := []) [0, 1, 5] [] (s1 := ⟨[(0, .bs false 1 (List.map enc_i p1)), (1, .v (.int .i64 p2)), (5, .v (.int .i64 0))], []⟩) (C := True) (by kernel_rfl) trivial trivial ?_
  refine AX.block ?_
  obtain ⟨x5, e4, h⟩ := bd_e h
  refine AX.wk (Wk.forget [0, 1, 5] [] (s' := ⟨[(0, .bs false 1 (List.map enc_i p1)), (1, .v (.int .i64 p2)), (5, .v (.int .i64 0))], []⟩) (by kernel_rfl)) ?_
  refine AX.mono (s_laws_heldIntS_L1 p1 FU (p2, 0) x5 e4) ?_
  rintro _ _ (⟨x6, rfl, rfl, rfl⟩ | ⟨x7, rfl, rfl, rfl⟩)
  · replace h := sm_l h
    refine fin_wk (Wk.forget [4] [] (s' := ⟨[(4, .v (.int .i64 (-1)))], []⟩) (by kernel_rfl)) ?_
    have hr := Option.some.inj h
    subst hr
    exact ⟨_, Wk.refl _, .inr rfl, ⟨[], by kernel_rfl, trivial, [.v (.int .i64 (-1))], by kernel_rfl, by kernel_rfl⟩⟩
  · replace h := sm_r h
    refine AX.seq ?_
    refine AX.reg (its := []) [4] [] (s1 := ⟨[(4, .v (.int .i64 x7))], []⟩) (C := True) (by kernel_rfl) trivial trivial ?_
    refine AX.ret ?_
    refine fin_wk (Wk.forget [4] [] (s' := ⟨[(4, .v (.int .i64 x7))], []⟩) (by kernel_rfl)) ?_
    have hr := Option.some.inj h
    subst hr
    exact ⟨_, Wk.refl _, .inr rfl, ⟨[], by kernel_rfl, trivial, [.v (.int .i64 x7)], by kernel_rfl, by kernel_rfl⟩⟩

theorem s_laws_FnExactDeadArms (p1 : List (ByteArray × Int)) (p2 : Int) (p3 : List (Int × Int)) (r : Bool) (h : m_laws_FnExactDeadArms p1 p2 p3 = some r) :
    Eng.Spec Try.prog 7 [.agg [.bs true 2 (List.map enc_si p1), .v (.int .i64 p2)], .bs true 2 (List.map enc_ii p3)] [] (.v (.bool r)) [] := by
  unfold m_laws_FnExactDeadArms at h
  refine Eng.Spec.body Try.func7 (by kernel_rfl) rfl (by kernel_rfl) ?_
  refine AX.wkpost ?_
  refine AX.seq ?_
  refine AX.reg (its := [.auto { nk := 0 }]) [1, 2] [0] (s1 := ⟨[(1, .bs true 2 (List.map enc_ii p3)), (2, .pt 0 0)], [(0, .box [.bs true 2 (List.map enc_si p1), .v (.int .i64 p2)])]⟩) (C := True) (by kernel_rfl) trivial trivial ?_
  refine AX.seq ?_
  refine AX.reg (its := []) [1, 2, 5] [0] (s1 := ⟨[(1, .bs true 2 (List.map enc_ii p3)), (2, .pt 0 0), (5, .v (.int .i64 1048576))], [(0, .box [.bs true 2 (List.map enc_si p1), .v (.int .i64 p2)])]⟩) (C := True) (by kernel_rfl) trivial trivial ?_
  refine AX.seq ?_
  obtain ⟨x4, e1, h⟩ := bd_e h
  refine AX.reg (its := [.auto {}, .auto {}, .call 22 [.agg [.bs true 2 (List.map enc_si p1), .v (.int .i64 p2)], .v (.int .i64 1048576)] (handO (rho ([] ++ [])) [] [] ++ []) (callEv [] [] (.v (.int .i64 x4)) [])]) [1, 2, 5] [0] (s1 := ⟨[(1, .bs true 2 (List.map enc_ii p3)), (2, .pt 0 0), (5, .v (.int .i64 x4))], [(0, .box [.bs true 2 (List.map enc_si p1), .v (.int .i64 p2)])]⟩) (C := ((([.agg [.bs true 2 (List.map enc_si p1), .v (.int .i64 p2)], .v (.int .i64 1048576)] : List AV) = [.agg [.bs true 2 (List.map enc_si p1), .v (.int .i64 p2)], .v (.int .i64 1048576)]) ∧ True) ∧ True) (by kernel_rfl) ⟨⟨rfl, trivial⟩, trivial⟩ ⟨call_ok (ks := []) (ns := []) (bor := []) (bobjs := []) (s_laws_szFlag p1 p2 1048576 x4 e1) (.cons (.c1 (.agg (.cons (.same _ (by kernel_rfl) (by kernel_rfl)) (.cons (.same _ (by kernel_rfl) (by kernel_rfl)) (.nil))))) (.cons (.c1 (.c0 (.same _ (by kernel_rfl) (by kernel_rfl)))) (.nil))) (by kernel_rfl) trivial, trivial⟩ ?_
  refine AX.seq ?_
  refine AX.seq ?_
  refine AX.reg (its := []) [1, 2, 5, 18] [0] (s1 := ⟨[(1, .bs true 2 (List.map enc_ii p3)), (2, .pt 0 0), (5, .v (.int .i64 x4)), (18, .v (.bool (decide (x4 < 0))))], [(0, .box [.bs true 2 (List.map enc_si p1), .v (.int .i64 p2)])]⟩) (C := True) (by kernel_rfl) trivial trivial ?_
  rcases bool_cases (decide (x4 < 0)) with b2 | b2
  · replace h := cd_t b2 h
    refine AX.condT (decide (x4 < 0)) (by kernel_rfl) b2 ?_
    refine AX.seq ?_
    refine AX.reg (its := []) [4] [] (s1 := ⟨[(4, .v (.bool true))], []⟩) (C := True) (by kernel_rfl) trivial trivial ?_
    refine AX.ret ?_
    refine fin_wk (Wk.forget [4] [] (s' := ⟨[(4, .v (.bool true))], []⟩) (by kernel_rfl)) ?_
    have hr := Option.some.inj h
    subst hr
    exact ⟨_, Wk.refl _, .inr rfl, ⟨[], by kernel_rfl, trivial, [.v (.bool true)], by kernel_rfl, by kernel_rfl⟩⟩
  · replace h := cd_f b2 h
    refine AX.condF (decide (x4 < 0)) (by kernel_rfl) b2 ?_
    refine AX.skip ?_
    refine AX.seq ?_
    obtain ⟨x5, e3, h⟩ := bd_e h
    refine AX.reg (its := [.auto {}, .auto {}, .call 38 [.bs true 2 (List.map enc_ii p3), .v (.int .i64 x4)] (handO (rho ([] ++ [])) [] [] ++ []) (callEv [] [] (.v (.int .i64 x5)) [])]) [1, 2, 5] [0] (s1 := ⟨[(1, .bs true 2 (List.map enc_ii p3)), (2, .pt 0 0), (5, .v (.int .i64 x5))], [(0, .box [.bs true 2 (List.map enc_si p1), .v (.int .i64 p2)])]⟩) (C := ((([.bs true 2 (List.map enc_ii p3), .v (.int .i64 x4)] : List AV) = [.bs true 2 (List.map enc_ii p3), .v (.int .i64 x4)]) ∧ True) ∧ True) (by kernel_rfl) ⟨⟨rfl, trivial⟩, trivial⟩ ⟨call_ok (ks := []) (ns := []) (bor := []) (bobjs := []) (s_laws_szArmS p3 x4 x5 e3) (.cons (.c1 (.c0 (.same _ (by kernel_rfl) (by kernel_rfl)))) (.cons (.c1 (.c0 (.same _ (by kernel_rfl) (by kernel_rfl)))) (.nil))) (by kernel_rfl) trivial, trivial⟩ ?_
    refine AX.seq ?_
    refine AX.seq ?_
    refine AX.reg (its := []) [1, 2, 23] [0] (s1 := ⟨[(1, .bs true 2 (List.map enc_ii p3)), (2, .pt 0 0), (23, .v (.bool (decide (x5 < 0))))], [(0, .box [.bs true 2 (List.map enc_si p1), .v (.int .i64 p2)])]⟩) (C := True) (by kernel_rfl) trivial trivial ?_
    rcases bool_cases (decide (x5 < 0)) with b4 | b4
    · replace h := cd_t b4 h
      refine AX.condT (decide (x5 < 0)) (by kernel_rfl) b4 ?_
      refine AX.seq ?_
      refine AX.reg (its := []) [4] [] (s1 := ⟨[(4, .v (.bool true))], []⟩) (C := True) (by kernel_rfl) trivial trivial ?_
      refine AX.ret ?_
      refine fin_wk (Wk.forget [4] [] (s' := ⟨[(4, .v (.bool true))], []⟩) (by kernel_rfl)) ?_
      have hr := Option.some.inj h
      subst hr
      exact ⟨_, Wk.refl _, .inr rfl, ⟨[], by kernel_rfl, trivial, [.v (.bool true)], by kernel_rfl, by kernel_rfl⟩⟩
    · replace h := cd_f b4 h
      refine AX.condF (decide (x5 < 0)) (by kernel_rfl) b4 ?_
      refine AX.skip ?_
      refine AX.seq ?_
      obtain ⟨x6, e5, h⟩ := bd_e h
      obtain ⟨x7, e6, h⟩ := bd_e h
      obtain ⟨x8, e7, h⟩ := bd_e h
      refine AX.reg (its := [.auto {}, .call 23 [.agg [.bs true 2 (List.map enc_si p1), .v (.int .i64 p2)]] (handO (rho ([] ++ [1])) [] [] ++ []) (callEv [] [1] (.agg [.sl 0 0 x6.length, .v (.int .i64 p2)]) [.arr 2 (List.map enc_si x6)]), .auto {}, .call 39 [.bs true 2 (List.map enc_ii p3)] (handO (rho ([] ++ [2])) [] [] ++ []) (callEv [] [2] (.sl 0 0 x7.length) [.arr 2 (List.map enc_ii x7)]), .call 35 [.agg [.sl 1 0 x6.length, .v (.int .i64 p2)], .sl 2 0 x7.length] (handO (rho ([] ++ [3])) [] [] ++ [(1, .arr 2 (List.map enc_si x6)), (2, .arr 2 (List.map enc_ii x7))]) (callEv [] [3] (.sl 0 0 x8.length) [.arr 1 (List.map enc_i x8)])]) [1, 2, 6] [0, 3] (s1 := ⟨[(1, .bs true 2 (List.map enc_ii p3)), (2, .pt 0 0), (6, .sl 3 0 x8.length)], [(0, .box [.bs true 2 (List.map enc_si p1), .v (.int .i64 p2)]), (3, .arr 1 (List.map enc_i x8))]⟩) (C := ((([.agg [.bs true 2 (List.map enc_si p1), .v (.int .i64 p2)]] : List AV) = [.agg [.bs true 2 (List.map enc_si p1), .v (.int .i64 p2)]]) ∧ True) ∧ ((([.bs true 2 (List.map enc_ii p3)] : List AV) = [.bs true 2 (List.map enc_ii p3)]) ∧ True) ∧ ((([.agg [.sl 1 0 x6.length, .v (.int .i64 p2)], .sl 2 0 x7.length] : List AV) = [.agg [.sl 1 0 x6.length, .v (.int .i64 p2)], .sl 2 0 x7.length]) ∧ (AO.arr 2 (List.map enc_si x6) = AO.arr 2 (List.map enc_si x6)) ∧ (AO.arr 2 (List.map enc_ii x7) = AO.arr 2 (List.map enc_ii x7)) ∧ True) ∧ True) (by kernel_rfl) ⟨⟨rfl, trivial⟩, ⟨⟨rfl, trivial⟩, ⟨⟨rfl, rfl, rfl, trivial⟩, trivial⟩⟩⟩ ⟨call_ok (ks := []) (ns := [1]) (bor := []) (bobjs := []) (s_laws_toFlag p1 p2 x6 e5) (.cons (.c1 (.agg (.cons (.same _ (by kernel_rfl) (by kernel_rfl)) (.cons (.same _ (by kernel_rfl) (by kernel_rfl)) (.nil))))) (.nil)) (by kernel_rfl) trivial, ⟨call_ok (ks := []) (ns := [2]) (bor := []) (bobjs := []) (s_laws_toArmS p3 x7 e6) (.cons (.c1 (.c0 (.same _ (by kernel_rfl) (by kernel_rfl)))) (.nil)) (by kernel_rfl) trivial, ⟨call_ok (ks := []) (ns := [3]) (bor := [1, 2]) (bobjs := [(1, .arr 2 (List.map enc_si x6)), (2, .arr 2 (List.map enc_ii x7))]) (s_spec_DeadArms x6 p2 x7 x8 e7) (.cons (.c1 (.agg (.cons (.arr rfl rfl ((rfl).trans (List.length_map ..).symm)) (.cons (.same _ (by kernel_rfl) (by kernel_rfl)) (.nil))))) (.cons (.c1 (.c0 (.arr rfl rfl ((rfl).trans (List.length_map ..).symm)))) (.nil))) (by kernel_rfl) trivial, trivial⟩⟩⟩ ?_
      refine AX.seq ?_
      obtain ⟨x9, e8, h⟩ := bd_e h
      refine AX.reg (its := [.auto {}, .call 23 [.agg [.bs true 2 (List.map enc_si p1), .v (.int .i64 p2)]] (handO (rho ([] ++ [4])) [] [] ++ []) (callEv [] [4] (.agg [.sl 0 0 x9.length, .v (.int .i64 p2)]) [.arr 2 (List.map enc_si x9)]), .auto { nk := 5 }]) [1, 2, 6, 7] [0, 3, 4, 5] (s1 := ⟨[(1, .bs true 2 (List.map enc_ii p3)), (2, .pt 0 0), (6, .sl 3 0 x8.length), (7, .pt 5 0)], [(0, .box [.bs true 2 (List.map enc_si p1), .v (.int .i64 p2)]), (3, .arr 1 (List.map enc_i x8)), (4, .arr 2 (List.map enc_si x9)), (5, .box [.sl 4 0 x9.length, .v (.int .i64 p2)])]⟩) (C := ((([.agg [.bs true 2 (List.map enc_si p1), .v (.int .i64 p2)]] : List AV) = [.agg [.bs true 2 (List.map enc_si p1), .v (.int .i64 p2)]]) ∧ True) ∧ True) (by kernel_rfl) ⟨⟨rfl, trivial⟩, trivial⟩ ⟨call_ok (ks := []) (ns := [4]) (bor := []) (bobjs := []) (s_laws_toFlag p1 p2 x9 e8) (.cons (.c1 (.agg (.cons (.same _ (by kernel_rfl) (by kernel_rfl)) (.cons (.same _ (by kernel_rfl) (by kernel_rfl)) (.nil))))) (.nil)) (by kernel_rfl) trivial, trivial⟩ ?_
      refine AX.seq ?_
      obtain ⟨x10, e9, h⟩ := bd_e h
      refine AX.reg (its := [.auto {}, .call 39 [.bs true 2 (List.map enc_ii p3)] (handO (rho ([] ++ [6])) [] [] ++ []) (callEv [] [6] (.sl 0 0 x10.length) [.arr 2 (List.map enc_ii x10)])]) [1, 2, 6, 7, 8] [0, 3, 4, 5, 6] (s1 := ⟨[(1, .bs true 2 (List.map enc_ii p3)), (2, .pt 0 0), (6, .sl 3 0 x8.length), (7, .pt 5 0), (8, .sl 6 0 x10.length)], [(0, .box [.bs true 2 (List.map enc_si p1), .v (.int .i64 p2)]), (3, .arr 1 (List.map enc_i x8)), (4, .arr 2 (List.map enc_si x9)), (5, .box [.sl 4 0 x9.length, .v (.int .i64 p2)]), (6, .arr 2 (List.map enc_ii x10))]⟩) (C := ((([.bs true 2 (List.map enc_ii p3)] : List AV) = [.bs true 2 (List.map enc_ii p3)]) ∧ True) ∧ True) (by kernel_rfl) ⟨⟨rfl, trivial⟩, trivial⟩ ⟨call_ok (ks := []) (ns := [6]) (bor := []) (bobjs := []) (s_laws_toArmS p3 x10 e9) (.cons (.c1 (.c0 (.same _ (by kernel_rfl) (by kernel_rfl)))) (.nil)) (by kernel_rfl) trivial, trivial⟩ ?_
      refine AX.seq ?_
      obtain ⟨x11, e10, h⟩ := bd_e h
      refine AX.reg (its := [.auto {}, .auto {}, .call 33 [.agg [.sl 4 0 x9.length, .v (.int .i64 p2)], .sl 6 0 x10.length] (handO (rho ([] ++ [7])) [] [] ++ [(4, .arr 2 (List.map enc_si x9)), (6, .arr 2 (List.map enc_ii x10))]) (callEv [] [7] (.sl 0 0 x11.length) [.arr 1 (List.map enc_i x11)])]) [1, 2, 6, 7, 8, 9] [0, 3, 4, 5, 6, 7] (s1 := ⟨[(1, .bs true 2 (List.map enc_ii p3)), (2, .pt 0 0), (6, .sl 3 0 x8.length), (7, .pt 5 0), (8, .sl 6 0 x10.length), (9, .sl 7 0 x11.length)], [(0, .box [.bs true 2 (List.map enc_si p1), .v (.int .i64 p2)]), (3, .arr 1 (List.map enc_i x8)), (4, .arr 2 (List.map enc_si x9)), (5, .box [.sl 4 0 x9.length, .v (.int .i64 p2)]), (6, .arr 2 (List.map enc_ii x10)), (7, .arr 1 (List.map enc_i x11))]⟩) (C := ((([.agg [.sl 4 0 x9.length, .v (.int .i64 p2)], .sl 6 0 x10.length] : List AV) = [.agg [.sl 4 0 x9.length, .v (.int .i64 p2)], .sl 6 0 x10.length]) ∧ (AO.arr 2 (List.map enc_si x9) = AO.arr 2 (List.map enc_si x9)) ∧ (AO.arr 2 (List.map enc_ii x10) = AO.arr 2 (List.map enc_ii x10)) ∧ True) ∧ True) (by kernel_rfl) ⟨⟨rfl, rfl, rfl, trivial⟩, trivial⟩ ⟨call_ok (ks := []) (ns := [7]) (bor := [4, 6]) (bobjs := [(4, .arr 2 (List.map enc_si x9)), (6, .arr 2 (List.map enc_ii x10))]) (s_impl_DeadArms x9 p2 x10 x11 e10) (.cons (.c1 (.agg (.cons (.arr rfl rfl ((rfl).trans (List.length_map ..).symm)) (.cons (.same _ (by kernel_rfl) (by kernel_rfl)) (.nil))))) (.cons (.c1 (.c0 (.arr rfl rfl ((rfl).trans (List.length_map ..).symm)))) (.nil))) (by kernel_rfl) trivial, trivial⟩ ?_
      refine AX.seq ?_
      refine AX.seq ?_
      obtain ⟨x12, e11, h⟩ := bd_e h
      refine AX.reg (its := [.auto {}, .auto {}, .call 27 [.sl 7 0 x11.length, .sl 3 0 x8.length] (handO (rho ([] ++ [])) [] [] ++ [(7, .arr 1 (List.map enc_i x11)), (3, .arr 1 (List.map enc_i x8))]) (callEv [] [] (.v (.bool x12)) [])]) [1, 2, 6, 7, 8, 9, 39] [0, 3, 4, 5, 6, 7] (s1 := ⟨[(1, .bs true 2 (List.map enc_ii p3)), (2, .pt 0 0), (6, .sl 3 0 x8.length), (7, .pt 5 0), (8, .sl 6 0 x10.length), (9, .sl 7 0 x11.length), (39, .v (.bool (!x12)))], [(0, .box [.bs true 2 (List.map enc_si p1), .v (.int .i64 p2)]), (3, .arr 1 (List.map enc_i x8)), (4, .arr 2 (List.map enc_si x9)), (5, .box [.sl 4 0 x9.length, .v (.int .i64 p2)]), (6, .arr 2 (List.map enc_ii x10)), (7, .arr 1 (List.map enc_i x11))]⟩) (C := ((([.sl 7 0 x11.length, .sl 3 0 x8.length] : List AV) = [.sl 7 0 x11.length, .sl 3 0 x8.length]) ∧ (AO.arr 1 (List.map enc_i x11) = AO.arr 1 (List.map enc_i x11)) ∧ (AO.arr 1 (List.map enc_i x8) = AO.arr 1 (List.map enc_i x8)) ∧ True) ∧ True) (by kernel_rfl) ⟨⟨rfl, rfl, rfl, trivial⟩, trivial⟩ ⟨call_ok (ks := []) (ns := []) (bor := [7, 3]) (bobjs := [(7, .arr 1 (List.map enc_i x11)), (3, .arr 1 (List.map enc_i x8))]) (s_laws_eqIntS x11 x8 x12 e11) (.cons (.c1 (.c0 (.arr rfl rfl ((rfl).trans (List.length_map ..).symm)))) (.cons (.c1 (.c0 (.arr rfl rfl ((rfl).trans (List.length_map ..).symm)))) (.nil))) (by kernel_rfl) trivial, trivial⟩ ?_
      rcases bool_cases ((!x12)) with b12 | b12
      · replace h := cd_t b12 h
        refine AX.condT ((!x12)) (by kernel_rfl) b12 ?_
        refine AX.seq ?_
        refine AX.reg (its := []) [4] [] (s1 := ⟨[(4, .v (.bool false))], []⟩) (C := True) (by kernel_rfl) trivial trivial ?_
        refine AX.ret ?_
        refine fin_wk (Wk.forget [4] [] (s' := ⟨[(4, .v (.bool false))], []⟩) (by kernel_rfl)) ?_
        have hr := Option.some.inj h
        subst hr
        exact ⟨_, Wk.refl _, .inr rfl, ⟨[], by kernel_rfl, trivial, [.v (.bool false)], by kernel_rfl, by kernel_rfl⟩⟩
      · replace h := cd_f b12 h
        refine AX.condF ((!x12)) (by kernel_rfl) b12 ?_
        refine AX.skip ?_
        refine AX.seq ?_
        refine AX.seq ?_
        obtain ⟨x13, e13, h⟩ := bd_e h
        obtain ⟨x14, e14, h⟩ := bd_e h
        refine AX.drw mixed (its := [.auto {}, .auto {}, .call 23 [.agg [.bs true 2 (List.map enc_si p1), .v (.int .i64 p2)]] (handO (rho ([] ++ [8])) [] [] ++ []) (callEv [] [8] (.agg [.sl 0 0 x13.length, .v (.int .i64 p2)]) [.arr 2 (List.map enc_si x13)]), .call 26 [.agg [.sl 4 0 x9.length, .v (.int .i64 p2)], .agg [.sl 8 0 x13.length, .v (.int .i64 p2)]] (handO (rho ([] ++ [])) [] [] ++ [(4, .arr 2 (List.map enc_si x9)), (8, .arr 2 (List.map enc_si x13))]) (callEv [] [] (.v (.bool x14)) [])]) [1, 2, 6, 7, 8, 9, 44] [0, 3, 4, 5, 6, 7] (s1 := ⟨[(1, .bs true 2 (List.map enc_ii p3)), (2, .pt 0 0), (6, .sl 3 0 x8.length), (7, .pt 5 0), (8, .sl 6 0 x10.length), (9, .sl 7 0 x11.length), (44, .v (.bool (!x14)))], [(0, .box [.bs true 2 (List.map enc_si p1), .v (.int .i64 p2)]), (3, .arr 1 (List.map enc_i x8)), (4, .arr 2 (List.map enc_si x9)), (5, .box [.sl 4 0 x9.length, .v (.int .i64 p2)]), (6, .arr 2 (List.map enc_ii x10)), (7, .arr 1 (List.map enc_i x11))]⟩) (C := ((([.agg [.bs true 2 (List.map enc_si p1), .v (.int .i64 p2)]] : List AV) = [.agg [.bs true 2 (List.map enc_si p1), .v (.int .i64 p2)]]) ∧ True) ∧ ((([.agg [.sl 4 0 x9.length, .v (.int .i64 p2)], .agg [.sl 8 0 x13.length, .v (.int .i64 p2)]] : List AV) = [.agg [.sl 4 0 x9.length, .v (.int .i64 p2)], .agg [.sl 8 0 x13.length, .v (.int .i64 p2)]]) ∧ (AO.arr 2 (List.map enc_si x9) = AO.arr 2 (List.map enc_si x9)) ∧ (AO.arr 2 (List.map enc_si x13) = AO.arr 2 (List.map enc_si x13)) ∧ True) ∧ True) (by kernel_rfl) ⟨⟨rfl, trivial⟩, ⟨⟨rfl, rfl, rfl, trivial⟩, trivial⟩⟩ ⟨call_ok (ks := []) (ns := [8]) (bor := []) (bobjs := []) (s_laws_toFlag p1 p2 x13 e13) (.cons (.c1 (.agg (.cons (.same _ (by kernel_rfl) (by kernel_rfl)) (.cons (.same _ (by kernel_rfl) (by kernel_rfl)) (.nil))))) (.nil)) (by kernel_rfl) trivial, ⟨call_ok (ks := []) (ns := []) (bor := [4, 8]) (bobjs := [(4, .arr 2 (List.map enc_si x9)), (8, .arr 2 (List.map enc_si x13))]) (s_laws_eqFlag x9 p2 x13 p2 x14 e14) (.cons (.c1 (.agg (.cons (.arr rfl rfl ((rfl).trans (List.length_map ..).symm)) (.cons (.same _ (by kernel_rfl) (by kernel_rfl)) (.nil))))) (.cons (.c1 (.agg (.cons (.arr rfl rfl ((rfl).trans (List.length_map ..).symm)) (.cons (.same _ (by kernel_rfl) (by kernel_rfl)) (.nil))))) (.nil))) (by kernel_rfl) trivial, trivial⟩⟩ ?_
        rcases bool_cases ((!x14)) with b15 | b15
        · replace h := cd_t b15 h
          refine AX.condT ((!x14)) (by kernel_rfl) b15 ?_
          refine AX.seq ?_
          refine AX.reg (its := []) [4] [] (s1 := ⟨[(4, .v (.bool false))], []⟩) (C := True) (by kernel_rfl) trivial trivial ?_
          refine AX.ret ?_
          refine fin_wk (Wk.forget [4] [] (s' := ⟨[(4, .v (.bool false))], []⟩) (by kernel_rfl)) ?_
          have hr := Option.some.inj h
          subst hr
          exact ⟨_, Wk.refl _, .inr rfl, ⟨[], by kernel_rfl, trivial, [.v (.bool false)], by kernel_rfl, by kernel_rfl⟩⟩
        · replace h := cd_f b15 h
          refine AX.condF ((!x14)) (by kernel_rfl) b15 ?_
          refine AX.skip ?_
          refine AX.seq ?_
          refine AX.seq ?_
          obtain ⟨x15, e16, h⟩ := bd_e h
          obtain ⟨x16, e17, h⟩ := bd_e h
          refine AX.reg (its := [.auto {}, .auto {}, .call 39 [.bs true 2 (List.map enc_ii p3)] (handO (rho ([] ++ [8])) [] [] ++ []) (callEv [] [8] (.sl 0 0 x15.length) [.arr 2 (List.map enc_ii x15)]), .call 25 [.sl 6 0 x10.length, .sl 8 0 x15.length] (handO (rho ([] ++ [])) [] [] ++ [(6, .arr 2 (List.map enc_ii x10)), (8, .arr 2 (List.map enc_ii x15))]) (callEv [] [] (.v (.bool x16)) [])]) [1, 2, 6, 7, 8, 9, 49] [0, 3, 4, 5, 6, 7] (s1 := ⟨[(1, .bs true 2 (List.map enc_ii p3)), (2, .pt 0 0), (6, .sl 3 0 x8.length), (7, .pt 5 0), (8, .sl 6 0 x10.length), (9, .sl 7 0 x11.length), (49, .v (.bool (!x16)))], [(0, .box [.bs true 2 (List.map enc_si p1), .v (.int .i64 p2)]), (3, .arr 1 (List.map enc_i x8)), (4, .arr 2 (List.map enc_si x9)), (5, .box [.sl 4 0 x9.length, .v (.int .i64 p2)]), (6, .arr 2 (List.map enc_ii x10)), (7, .arr 1 (List.map enc_i x11))]⟩) (C := ((([.bs true 2 (List.map enc_ii p3)] : List AV) = [.bs true 2 (List.map enc_ii p3)]) ∧ True) ∧ ((([.sl 6 0 x10.length, .sl 8 0 x15.length] : List AV) = [.sl 6 0 x10.length, .sl 8 0 x15.length]) ∧ (AO.arr 2 (List.map enc_ii x10) = AO.arr 2 (List.map enc_ii x10)) ∧ (AO.arr 2 (List.map enc_ii x15) = AO.arr 2 (List.map enc_ii x15)) ∧ True) ∧ True) (by kernel_rfl) ⟨⟨rfl, trivial⟩, ⟨⟨rfl, rfl, rfl, trivial⟩, trivial⟩⟩ ⟨call_ok (ks := []) (ns := [8]) (bor := []) (bobjs := []) (s_laws_toArmS p3 x15 e16) (.cons (.c1 (.c0 (.same _ (by kernel_rfl) (by kernel_rfl)))) (.nil)) (by kernel_rfl) trivial, ⟨call_ok (ks := []) (ns := []) (bor := [6, 8]) (bobjs := [(6, .arr 2 (List.map enc_ii x10)), (8, .arr 2 (List.map enc_ii x15))]) (s_laws_eqArmS x10 x15 x16 e17) (.cons (.c1 (.c0 (.arr rfl rfl ((rfl).trans (List.length_map ..).symm)))) (.cons (.c1 (.c0 (.arr rfl rfl ((rfl).trans (List.length_map ..).symm)))) (.nil))) (by kernel_rfl) trivial, trivial⟩⟩ ?_
          rcases bool_cases ((!x16)) with b18 | b18
          · replace h := cd_t b18 h
            refine AX.condT ((!x16)) (by kernel_rfl) b18 ?_
            refine AX.seq ?_
            refine AX.reg (its := []) [4] [] (s1 := ⟨[(4, .v (.bool false))], []⟩) (C := True) (by kernel_rfl) trivial trivial ?_
            refine AX.ret ?_
            refine fin_wk (Wk.forget [4] [] (s' := ⟨[(4, .v (.bool false))], []⟩) (by kernel_rfl)) ?_
            have hr := Option.some.inj h
            subst hr
            exact ⟨_, Wk.refl _, .inr rfl, ⟨[], by kernel_rfl, trivial, [.v (.bool false)], by kernel_rfl, by kernel_rfl⟩⟩
          · replace h := cd_f b18 h
            refine AX.condF ((!x16)) (by kernel_rfl) b18 ?_
            refine AX.skip ?_
            refine AX.seq ?_
            refine AX.reg (its := []) [1, 2, 6, 7, 8, 9, 10] [0, 3, 4, 5, 6, 7] (s1 := ⟨[(1, .bs true 2 (List.map enc_ii p3)), (2, .pt 0 0), (6, .sl 3 0 x8.length), (7, .pt 5 0), (8, .sl 6 0 x10.length), (9, .sl 7 0 x11.length), (10, .v (.int .i64 1))], [(0, .box [.bs true 2 (List.map enc_si p1), .v (.int .i64 p2)]), (3, .arr 1 (List.map enc_i x8)), (4, .arr 2 (List.map enc_si x9)), (5, .box [.sl 4 0 x9.length, .v (.int .i64 p2)]), (6, .arr 2 (List.map enc_ii x10)), (7, .arr 1 (List.map enc_i x11))]⟩) (C := True) (by kernel_rfl) trivial trivial ?_
            refine AX.seq ?_
            obtain ⟨x17, e19, h⟩ := bd_e h
            obtain ⟨g20, h⟩ := gd_e h
            refine AX.reg (its := [.auto {}, .auto {}, .call 28 [.agg [.sl 4 0 x9.length, .v (.int .i64 p2)], .v (.int .i64 1)] (handO (rho ([4] ++ [])) [4] [.arr 2 (List.map enc_si x9)] ++ []) (callEv [4] [] (.v (.int .i64 x17.1)) [.arr 2 (List.map enc_si x17.2)])]) [1, 2, 6, 8, 9, 10] [0, 3, 6, 7] (s1 := ⟨[(1, .bs true 2 (List.map enc_ii p3)), (2, .pt 0 0), (6, .sl 3 0 x8.length), (8, .sl 6 0 x10.length), (9, .sl 7 0 x11.length), (10, .v (.int .i64 x17.1))], [(0, .box [.bs true 2 (List.map enc_si p1), .v (.int .i64 p2)]), (3, .arr 1 (List.map enc_i x8)), (6, .arr 2 (List.map enc_ii x10)), (7, .arr 1 (List.map enc_i x11))]⟩) (C := ((([.agg [.sl 4 0 x9.length, .v (.int .i64 p2)], .v (.int .i64 1)] : List AV) = [.agg [.sl 4 0 x9.length, .v (.int .i64 p2)], .v (.int .i64 1)]) ∧ (AO.arr 2 (List.map enc_si x9) = AO.arr 2 (List.map enc_si x9)) ∧ True) ∧ True) (by kernel_rfl) ⟨⟨rfl, rfl, trivial⟩, trivial⟩ ⟨call_ok (ks := [4]) (ns := []) (bor := []) (bobjs := []) (s_laws_markFlag_h p2 1 x9 x17 e19) (.cons (.c1 (.agg (.cons (.same _ (by kernel_rfl) (by kernel_rfl)) (.cons (.same _ (by kernel_rfl) (by kernel_rfl)) (.nil))))) (.cons (.c1 (.c0 (.same _ (by kernel_rfl) (by kernel_rfl)))) (.nil))) (by kernel_rfl) ⟨.inr (arr_sh (enc := enc_si) g20), trivial⟩, trivial⟩ ?_
            refine AX.seq ?_
            obtain ⟨x18, e21, h⟩ := bd_e h
            obtain ⟨g22, h⟩ := gd_e h
            refine AX.reg (its := [.auto {}, .auto {}, .call 30 [.sl 6 0 x10.length, .v (.int .i64 x17.1)] (handO (rho ([6] ++ [])) [6] [.arr 2 (List.map enc_ii x10)] ++ []) (callEv [6] [] (.v (.int .i64 x18.1)) [.arr 2 (List.map enc_ii x18.2)])]) [1, 2, 6, 9, 10] [0, 3, 7] (s1 := ⟨[(1, .bs true 2 (List.map enc_ii p3)), (2, .pt 0 0), (6, .sl 3 0 x8.length), (9, .sl 7 0 x11.length), (10, .v (.int .i64 x18.1))], [(0, .box [.bs true 2 (List.map enc_si p1), .v (.int .i64 p2)]), (3, .arr 1 (List.map enc_i x8)), (7, .arr 1 (List.map enc_i x11))]⟩) (C := ((([.sl 6 0 x10.length, .v (.int .i64 x17.1)] : List AV) = [.sl 6 0 x10.length, .v (.int .i64 x17.1)]) ∧ (AO.arr 2 (List.map enc_ii x10) = AO.arr 2 (List.map enc_ii x10)) ∧ True) ∧ True) (by kernel_rfl) ⟨⟨rfl, rfl, trivial⟩, trivial⟩ ⟨call_ok (ks := [6]) (ns := []) (bor := []) (bobjs := []) (s_laws_markArmS_h x17.1 x10 x18 e21) (.cons (.c1 (.c0 (.same _ (by kernel_rfl) (by kernel_rfl)))) (.cons (.c1 (.c0 (.same _ (by kernel_rfl) (by kernel_rfl)))) (.nil))) (by kernel_rfl) ⟨.inr (arr_sh (enc := enc_ii) g22), trivial⟩, trivial⟩ ?_
            refine AX.seq ?_
            refine AX.seq ?_
            rcases bool_cases (decide (x18.1 < 0)) with b23 | b23
            · replace h := cd_t b23 h
              refine AX.reg (its := [.auto {}, .auto { y := some (.v (.bool true)) }]) [1, 2, 6, 9, 63] [0, 3, 7] (s1 := ⟨[(1, .bs true 2 (List.map enc_ii p3)), (2, .pt 0 0), (6, .sl 3 0 x8.length), (9, .sl 7 0 x11.length), (63, .v (.bool true))], [(0, .box [.bs true 2 (List.map enc_si p1), .v (.int .i64 p2)]), (3, .arr 1 (List.map enc_i x8)), (7, .arr 1 (List.map enc_i x11))]⟩) (C := ((True) ∧ ((.v (.bool (decide (x18.1 < 0))) : AV) = (.v (.bool true) : AV))) ∧ True) (by kernel_rfl) ⟨⟨trivial, (congrArg (fun z => AV.v (.bool z)) b23)⟩, trivial⟩ trivial ?_
              refine AX.cond_true (by kernel_rfl) ?_
              refine AX.seq ?_
              refine AX.reg (its := []) [4] [] (s1 := ⟨[(4, .v (.bool false))], []⟩) (C := True) (by kernel_rfl) trivial trivial ?_
              refine AX.ret ?_
              refine fin_wk (Wk.forget [4] [] (s' := ⟨[(4, .v (.bool false))], []⟩) (by kernel_rfl)) ?_
              have hr := Option.some.inj h
              subst hr
              exact ⟨_, Wk.refl _, .inr rfl, ⟨[], by kernel_rfl, trivial, [.v (.bool false)], by kernel_rfl, by kernel_rfl⟩⟩
            · replace h := cd_f b23 h
              obtain ⟨x19, e24, h⟩ := bd_e h
              refine AX.reg (its := [.auto {}, .auto { y := some (.v (.bool false)) }, .auto {}, .auto {}, .auto {}, .call 27 [.sl 7 0 x11.length, .sl 3 0 x8.length] (handO (rho ([] ++ [])) [] [] ++ [(7, .arr 1 (List.map enc_i x11)), (3, .arr 1 (List.map enc_i x8))]) (callEv [] [] (.v (.bool x19)) [])]) [1, 2, 6, 9, 63] [0, 3, 7] (s1 := ⟨[(1, .bs true 2 (List.map enc_ii p3)), (2, .pt 0 0), (6, .sl 3 0 x8.length), (9, .sl 7 0 x11.length), (63, .v (.bool (!x19)))], [(0, .box [.bs true 2 (List.map enc_si p1), .v (.int .i64 p2)]), (3, .arr 1 (List.map enc_i x8)), (7, .arr 1 (List.map enc_i x11))]⟩) (C := ((True) ∧ ((.v (.bool (decide (x18.1 < 0))) : AV) = (.v (.bool false) : AV))) ∧ ((([.sl 7 0 x11.length, .sl 3 0 x8.length] : List AV) = [.sl 7 0 x11.length, .sl 3 0 x8.length]) ∧ (AO.arr 1 (List.map enc_i x11) = AO.arr 1 (List.map enc_i x11)) ∧ (AO.arr 1 (List.map enc_i x8) = AO.arr 1 (List.map enc_i x8)) ∧ True) ∧ True) (by kernel_rfl) ⟨⟨trivial, (congrArg (fun z => AV.v (.bool z)) b23)⟩, ⟨⟨rfl, rfl, rfl, trivial⟩, trivial⟩⟩ ⟨call_ok (ks := []) (ns := []) (bor := [7, 3]) (bobjs := [(7, .arr 1 (List.map enc_i x11)), (3, .arr 1 (List.map enc_i x8))]) (s_laws_eqIntS x11 x8 x19 e24) (.cons (.c1 (.c0 (.arr rfl rfl ((rfl).trans (List.length_map ..).symm)))) (.cons (.c1 (.c0 (.arr rfl rfl ((rfl).trans (List.length_map ..).symm)))) (.nil))) (by kernel_rfl) trivial, trivial⟩ ?_
              rcases bool_cases ((!x19)) with b25 | b25
              · replace h := cd_t b25 h
                refine AX.condT ((!x19)) (by kernel_rfl) b25 ?_
                refine AX.seq ?_
                refine AX.reg (its := []) [4] [] (s1 := ⟨[(4, .v (.bool false))], []⟩) (C := True) (by kernel_rfl) trivial trivial ?_
                refine AX.ret ?_
                refine fin_wk (Wk.forget [4] [] (s' := ⟨[(4, .v (.bool false))], []⟩) (by kernel_rfl)) ?_
                have hr := Option.some.inj h
                subst hr
                exact ⟨_, Wk.refl _, .inr rfl, ⟨[], by kernel_rfl, trivial, [.v (.bool false)], by kernel_rfl, by kernel_rfl⟩⟩
              · replace h := cd_f b25 h
                refine AX.condF ((!x19)) (by kernel_rfl) b25 ?_
                refine AX.skip ?_
                refine AX.seq ?_
                refine AX.reg (its := []) [1, 2, 6, 9, 11] [0, 3, 7] (s1 := ⟨[(1, .bs true 2 (List.map enc_ii p3)), (2, .pt 0 0), (6, .sl 3 0 x8.length), (9, .sl 7 0 x11.length), (11, .v (.int .i64 1))], [(0, .box [.bs true 2 (List.map enc_si p1), .v (.int .i64 p2)]), (3, .arr 1 (List.map enc_i x8)), (7, .arr 1 (List.map enc_i x11))]⟩) (C := True) (by kernel_rfl) trivial trivial ?_
                refine AX.seq ?_
                obtain ⟨x20, e26, h⟩ := bd_e h
                obtain ⟨g27, h⟩ := gd_e h
                refine AX.reg (its := [.auto {}, .auto {}, .call 29 [.sl 7 0 x11.length, .v (.int .i64 1)] (handO (rho ([7] ++ [])) [7] [.arr 1 (List.map enc_i x11)] ++ []) (callEv [7] [] (.v (.int .i64 x20.1)) [.arr 1 (List.map enc_i x20.2)])]) [1, 2, 6, 9, 11] [0, 3, 7] (s1 := ⟨[(1, .bs true 2 (List.map enc_ii p3)), (2, .pt 0 0), (6, .sl 3 0 x8.length), (9, .sl 7 0 x11.length), (11, .v (.int .i64 x20.1))], [(0, .box [.bs true 2 (List.map enc_si p1), .v (.int .i64 p2)]), (3, .arr 1 (List.map enc_i x8)), (7, .arr 1 (List.map enc_i x20.2))]⟩) (C := ((([.sl 7 0 x11.length, .v (.int .i64 1)] : List AV) = [.sl 7 0 x11.length, .v (.int .i64 1)]) ∧ (AO.arr 1 (List.map enc_i x11) = AO.arr 1 (List.map enc_i x11)) ∧ True) ∧ True) (by kernel_rfl) ⟨⟨rfl, rfl, trivial⟩, trivial⟩ ⟨call_ok (ks := [7]) (ns := []) (bor := []) (bobjs := []) (s_laws_markIntS_h 1 x11 x20 e26) (.cons (.c1 (.c0 (.same _ (by kernel_rfl) (by kernel_rfl)))) (.cons (.c1 (.c0 (.same _ (by kernel_rfl) (by kernel_rfl)))) (.nil))) (by kernel_rfl) ⟨.inr (arr_sh (enc := enc_i) g27), trivial⟩, trivial⟩ ?_
                refine AX.seq ?_
                refine AX.reg (its := []) [1, 2, 6, 9, 11, 12] [0, 3, 7] (s1 := ⟨[(1, .bs true 2 (List.map enc_ii p3)), (2, .pt 0 0), (6, .sl 3 0 x8.length), (9, .sl 7 0 x11.length), (11, .v (.int .i64 x20.1)), (12, .v (.int .i64 1))], [(0, .box [.bs true 2 (List.map enc_si p1), .v (.int .i64 p2)]), (3, .arr 1 (List.map enc_i x8)), (7, .arr 1 (List.map enc_i x20.2))]⟩) (C := True) (by kernel_rfl) trivial trivial ?_
                refine AX.seq ?_
                obtain ⟨x21, e28, h⟩ := bd_e h
                refine AX.reg (its := [.auto {}, .auto {}, .call 40 [.sl 7 0 x11.length, .v (.int .i64 1)] (handO (rho ([] ++ [])) [] [] ++ [(7, .arr 1 (List.map enc_i x20.2))]) (callEv [] [] (.v (.int .i64 x21)) [])]) [1, 2, 6, 9, 11, 12] [0, 3, 7] (s1 := ⟨[(1, .bs true 2 (List.map enc_ii p3)), (2, .pt 0 0), (6, .sl 3 0 x8.length), (9, .sl 7 0 x11.length), (11, .v (.int .i64 x20.1)), (12, .v (.int .i64 x21))], [(0, .box [.bs true 2 (List.map enc_si p1), .v (.int .i64 p2)]), (3, .arr 1 (List.map enc_i x8)), (7, .arr 1 (List.map enc_i x20.2))]⟩) (C := ((([.sl 7 0 x11.length, .v (.int .i64 1)] : List AV) = [.sl 7 0 x11.length, .v (.int .i64 1)]) ∧ (AO.arr 1 (List.map enc_i x20.2) = AO.arr 1 (List.map enc_i x20.2)) ∧ True) ∧ True) (by kernel_rfl) ⟨⟨rfl, rfl, trivial⟩, trivial⟩ ⟨call_ok (ks := []) (ns := []) (bor := [7]) (bobjs := [(7, .arr 1 (List.map enc_i x20.2))]) (s_laws_heldIntS x20.2 1 x21 e28) (.cons (.c1 (.c0 (.arr rfl rfl ((((rfl : x11.length = x11.length)).trans (g27).symm).trans (List.length_map ..).symm)))) (.cons (.c1 (.c0 (.same _ (by kernel_rfl) (by kernel_rfl)))) (.nil))) (by kernel_rfl) trivial, trivial⟩ ?_
                refine AX.seq ?_
                refine AX.seq ?_
                refine AX.reg (its := []) [1, 2, 6, 9, 11, 12, 71] [0, 3, 7] (s1 := ⟨[(1, .bs true 2 (List.map enc_ii p3)), (2, .pt 0 0), (6, .sl 3 0 x8.length), (9, .sl 7 0 x11.length), (11, .v (.int .i64 x20.1)), (12, .v (.int .i64 x21)), (71, .v (.bool (decide (x21 < 0))))], [(0, .box [.bs true 2 (List.map enc_si p1), .v (.int .i64 p2)]), (3, .arr 1 (List.map enc_i x8)), (7, .arr 1 (List.map enc_i x20.2))]⟩) (C := True) (by kernel_rfl) trivial trivial ?_
                rcases bool_cases (decide (x21 < 0)) with b29 | b29
                · replace h := cd_t b29 h
                  refine AX.condT (decide (x21 < 0)) (by kernel_rfl) b29 ?_
                  refine AX.seq ?_
                  refine AX.reg (its := []) [4] [] (s1 := ⟨[(4, .v (.bool false))], []⟩) (C := True) (by kernel_rfl) trivial trivial ?_
                  refine AX.ret ?_
                  refine fin_wk (Wk.forget [4] [] (s' := ⟨[(4, .v (.bool false))], []⟩) (by kernel_rfl)) ?_
                  have hr := Option.some.inj h
                  subst hr
                  exact ⟨_, Wk.refl _, .inr rfl, ⟨[], by kernel_rfl, trivial, [.v (.bool false)], by kernel_rfl, by kernel_rfl⟩⟩
                · replace h := cd_f b29 h
                  refine AX.condF (decide (x21 < 0)) (by kernel_rfl) b29 ?_
                  refine AX.skip ?_
                  refine AX.seq ?_
                  refine AX.seq ?_
                  refine AX.reg (its := []) [1, 2, 6, 9, 11, 74] [0, 3, 7] (s1 := ⟨[(1, .bs true 2 (List.map enc_ii p3)), (2, .pt 0 0), (6, .sl 3 0 x8.length), (9, .sl 7 0 x11.length), (11, .v (.int .i64 x20.1)), (74, .v (.bool (!decide (x21 = x20.1))))], [(0, .box [.bs true 2 (List.map enc_si p1), .v (.int .i64 p2)]), (3, .arr 1 (List.map enc_i x8)), (7, .arr 1 (List.map enc_i x20.2))]⟩) (C := True) (by kernel_rfl) trivial trivial ?_
                  rcases bool_cases ((!decide (x21 = x20.1))) with b30 | b30
                  · replace h := cd_t b30 h
                    refine AX.condT ((!decide (x21 = x20.1))) (by kernel_rfl) b30 ?_
                    refine AX.seq ?_
                    refine AX.reg (its := []) [4] [] (s1 := ⟨[(4, .v (.bool false))], []⟩) (C := True) (by kernel_rfl) trivial trivial ?_
                    refine AX.ret ?_
                    refine fin_wk (Wk.forget [4] [] (s' := ⟨[(4, .v (.bool false))], []⟩) (by kernel_rfl)) ?_
                    have hr := Option.some.inj h
                    subst hr
                    exact ⟨_, Wk.refl _, .inr rfl, ⟨[], by kernel_rfl, trivial, [.v (.bool false)], by kernel_rfl, by kernel_rfl⟩⟩
                  · replace h := cd_f b30 h
                    refine AX.condF ((!decide (x21 = x20.1))) (by kernel_rfl) b30 ?_
                    refine AX.skip ?_
                    refine AX.seq ?_
                    obtain ⟨x22, e31, h⟩ := bd_e h
                    obtain ⟨x23, e32, h⟩ := bd_e h
                    obtain ⟨x24, e33, h⟩ := bd_e h
                    refine AX.reg (its := [.auto {}, .call 23 [.agg [.bs true 2 (List.map enc_si p1), .v (.int .i64 p2)]] (handO (rho ([] ++ [8])) [] [] ++ []) (callEv [] [8] (.agg [.sl 0 0 x22.length, .v (.int .i64 p2)]) [.arr 2 (List.map enc_si x22)]), .auto {}, .call 39 [.bs true 2 (List.map enc_ii p3)] (handO (rho ([] ++ [9])) [] [] ++ []) (callEv [] [9] (.sl 0 0 x23.length) [.arr 2 (List.map enc_ii x23)]), .call 33 [.agg [.sl 8 0 x22.length, .v (.int .i64 p2)], .sl 9 0 x23.length] (handO (rho ([] ++ [10])) [] [] ++ [(8, .arr 2 (List.map enc_si x22)), (9, .arr 2 (List.map enc_ii x23))]) (callEv [] [10] (.sl 0 0 x24.length) [.arr 1 (List.map enc_i x24)])]) [6, 9, 11, 13] [3, 7, 10] (s1 := ⟨[(6, .sl 3 0 x8.length), (9, .sl 7 0 x11.length), (11, .v (.int .i64 x20.1)), (13, .sl 10 0 x24.length)], [(3, .arr 1 (List.map enc_i x8)), (7, .arr 1 (List.map enc_i x20.2)), (10, .arr 1 (List.map enc_i x24))]⟩) (C := ((([.agg [.bs true 2 (List.map enc_si p1), .v (.int .i64 p2)]] : List AV) = [.agg [.bs true 2 (List.map enc_si p1), .v (.int .i64 p2)]]) ∧ True) ∧ ((([.bs true 2 (List.map enc_ii p3)] : List AV) = [.bs true 2 (List.map enc_ii p3)]) ∧ True) ∧ ((([.agg [.sl 8 0 x22.length, .v (.int .i64 p2)], .sl 9 0 x23.length] : List AV) = [.agg [.sl 8 0 x22.length, .v (.int .i64 p2)], .sl 9 0 x23.length]) ∧ (AO.arr 2 (List.map enc_si x22) = AO.arr 2 (List.map enc_si x22)) ∧ (AO.arr 2 (List.map enc_ii x23) = AO.arr 2 (List.map enc_ii x23)) ∧ True) ∧ True) (by kernel_rfl) ⟨⟨rfl, trivial⟩, ⟨⟨rfl, trivial⟩, ⟨⟨rfl, rfl, rfl, trivial⟩, trivial⟩⟩⟩ ⟨call_ok (ks := []) (ns := [8]) (bor := []) (bobjs := []) (s_laws_toFlag p1 p2 x22 e31) (.cons (.c1 (.agg (.cons (.same _ (by kernel_rfl) (by kernel_rfl)) (.cons (.same _ (by kernel_rfl) (by kernel_rfl)) (.nil))))) (.nil)) (by kernel_rfl) trivial, ⟨call_ok (ks := []) (ns := [9]) (bor := []) (bobjs := []) (s_laws_toArmS p3 x23 e32) (.cons (.c1 (.c0 (.same _ (by kernel_rfl) (by kernel_rfl)))) (.nil)) (by kernel_rfl) trivial, ⟨call_ok (ks := []) (ns := [10]) (bor := [8, 9]) (bobjs := [(8, .arr 2 (List.map enc_si x22)), (9, .arr 2 (List.map enc_ii x23))]) (s_impl_DeadArms x22 p2 x23 x24 e33) (.cons (.c1 (.agg (.cons (.arr rfl rfl ((rfl).trans (List.length_map ..).symm)) (.cons (.same _ (by kernel_rfl) (by kernel_rfl)) (.nil))))) (.cons (.c1 (.c0 (.arr rfl rfl ((rfl).trans (List.length_map ..).symm)))) (.nil))) (by kernel_rfl) trivial, trivial⟩⟩⟩ ?_
                    refine AX.seq ?_
                    refine AX.seq ?_
                    obtain ⟨x25, e34, h⟩ := bd_e h
                    refine AX.reg (its := [.auto {}, .auto {}, .call 27 [.sl 10 0 x24.length, .sl 3 0 x8.length] (handO (rho ([] ++ [])) [] [] ++ [(10, .arr 1 (List.map enc_i x24)), (3, .arr 1 (List.map enc_i x8))]) (callEv [] [] (.v (.bool x25)) [])]) [9, 11, 83] [7] (s1 := ⟨[(9, .sl 7 0 x11.length), (11, .v (.int .i64 x20.1)), (83, .v (.bool (!x25)))], [(7, .arr 1 (List.map enc_i x20.2))]⟩) (C := ((([.sl 10 0 x24.length, .sl 3 0 x8.length] : List AV) = [.sl 10 0 x24.length, .sl 3 0 x8.length]) ∧ (AO.arr 1 (List.map enc_i x24) = AO.arr 1 (List.map enc_i x24)) ∧ (AO.arr 1 (List.map enc_i x8) = AO.arr 1 (List.map enc_i x8)) ∧ True) ∧ True) (by kernel_rfl) ⟨⟨rfl, rfl, rfl, trivial⟩, trivial⟩ ⟨call_ok (ks := []) (ns := []) (bor := [10, 3]) (bobjs := [(10, .arr 1 (List.map enc_i x24)), (3, .arr 1 (List.map enc_i x8))]) (s_laws_eqIntS x24 x8 x25 e34) (.cons (.c1 (.c0 (.arr rfl rfl ((rfl).trans (List.length_map ..).symm)))) (.cons (.c1 (.c0 (.arr rfl rfl ((rfl).trans (List.length_map ..).symm)))) (.nil))) (by kernel_rfl) trivial, trivial⟩ ?_
                    rcases bool_cases ((!x25)) with b35 | b35
                    · replace h := cd_t b35 h
                      refine AX.condT ((!x25)) (by kernel_rfl) b35 ?_
                      refine AX.seq ?_
                      refine AX.reg (its := []) [4] [] (s1 := ⟨[(4, .v (.bool false))], []⟩) (C := True) (by kernel_rfl) trivial trivial ?_
                      refine AX.ret ?_
                      refine fin_wk (Wk.forget [4] [] (s' := ⟨[(4, .v (.bool false))], []⟩) (by kernel_rfl)) ?_
                      have hr := Option.some.inj h
                      subst hr
                      exact ⟨_, Wk.refl _, .inr rfl, ⟨[], by kernel_rfl, trivial, [.v (.bool false)], by kernel_rfl, by kernel_rfl⟩⟩
                    · replace h := cd_f b35 h
                      refine AX.condF ((!x25)) (by kernel_rfl) b35 ?_
                      refine AX.skip ?_
                      refine AX.seq ?_
                      refine AX.reg (its := []) [9, 11, 12] [7] (s1 := ⟨[(9, .sl 7 0 x11.length), (11, .v (.int .i64 x20.1)), (12, .v (.int .i64 1))], [(7, .arr 1 (List.map enc_i x20.2))]⟩) (C := True) (by kernel_rfl) trivial trivial ?_
                      refine AX.seq ?_
                      obtain ⟨x26, e36, h⟩ := bd_e h
                      refine AX.reg (its := [.auto {}, .auto {}, .call 40 [.sl 7 0 x11.length, .v (.int .i64 1)] (handO (rho ([] ++ [])) [] [] ++ [(7, .arr 1 (List.map enc_i x20.2))]) (callEv [] [] (.v (.int .i64 x26)) [])]) [11, 12] [] (s1 := ⟨[(11, .v (.int .i64 x20.1)), (12, .v (.int .i64 x26))], []⟩) (C := ((([.sl 7 0 x11.length, .v (.int .i64 1)] : List AV) = [.sl 7 0 x11.length, .v (.int .i64 1)]) ∧ (AO.arr 1 (List.map enc_i x20.2) = AO.arr 1 (List.map enc_i x20.2)) ∧ True) ∧ True) (by kernel_rfl) ⟨⟨rfl, rfl, trivial⟩, trivial⟩ ⟨call_ok (ks := []) (ns := []) (bor := [7]) (bobjs := [(7, .arr 1 (List.map enc_i x20.2))]) (s_laws_heldIntS x20.2 1 x26 e36) (.cons (.c1 (.c0 (.arr rfl rfl ((((rfl : x11.length = x11.length)).trans (g27).symm).trans (List.length_map ..).symm)))) (.cons (.c1 (.c0 (.same _ (by kernel_rfl) (by kernel_rfl)))) (.nil))) (by kernel_rfl) trivial, trivial⟩ ?_
                      refine AX.seq ?_
                      refine AX.seq ?_
                      refine AX.reg (its := []) [11, 12, 88] [] (s1 := ⟨[(11, .v (.int .i64 x20.1)), (12, .v (.int .i64 x26)), (88, .v (.bool (decide (x26 < 0))))], []⟩) (C := True) (by kernel_rfl) trivial trivial ?_
                      rcases bool_cases (decide (x26 < 0)) with b37 | b37
                      · replace h := cd_t b37 h
                        refine AX.condT (decide (x26 < 0)) (by kernel_rfl) b37 ?_
                        refine AX.seq ?_
                        refine AX.reg (its := []) [4] [] (s1 := ⟨[(4, .v (.bool false))], []⟩) (C := True) (by kernel_rfl) trivial trivial ?_
                        refine AX.ret ?_
                        refine fin_wk (Wk.forget [4] [] (s' := ⟨[(4, .v (.bool false))], []⟩) (by kernel_rfl)) ?_
                        have hr := Option.some.inj h
                        subst hr
                        exact ⟨_, Wk.refl _, .inr rfl, ⟨[], by kernel_rfl, trivial, [.v (.bool false)], by kernel_rfl, by kernel_rfl⟩⟩
                      · replace h := cd_f b37 h
                        refine AX.condF (decide (x26 < 0)) (by kernel_rfl) b37 ?_
                        refine AX.skip ?_
                        refine AX.seq ?_
                        refine AX.seq ?_
                        refine AX.reg (its := []) [91] [] (s1 := ⟨[(91, .v (.bool (!decide (x26 = x20.1))))], []⟩) (C := True) (by kernel_rfl) trivial trivial ?_
                        rcases bool_cases ((!decide (x26 = x20.1))) with b38 | b38
                        · replace h := cd_t b38 h
                          refine AX.condT ((!decide (x26 = x20.1))) (by kernel_rfl) b38 ?_
                          refine AX.seq ?_
                          refine AX.reg (its := []) [4] [] (s1 := ⟨[(4, .v (.bool false))], []⟩) (C := True) (by kernel_rfl) trivial trivial ?_
                          refine AX.ret ?_
                          refine fin_wk (Wk.forget [4] [] (s' := ⟨[(4, .v (.bool false))], []⟩) (by kernel_rfl)) ?_
                          have hr := Option.some.inj h
                          subst hr
                          exact ⟨_, Wk.refl _, .inr rfl, ⟨[], by kernel_rfl, trivial, [.v (.bool false)], by kernel_rfl, by kernel_rfl⟩⟩
                        · replace h := cd_f b38 h
                          refine AX.condF ((!decide (x26 = x20.1))) (by kernel_rfl) b38 ?_
                          refine AX.skip ?_
                          refine AX.seq ?_
                          refine AX.reg (its := []) [4] [] (s1 := ⟨[(4, .v (.bool true))], []⟩) (C := True) (by kernel_rfl) trivial trivial ?_
                          refine AX.ret ?_
                          refine fin_wk (Wk.forget [4] [] (s' := ⟨[(4, .v (.bool true))], []⟩) (by kernel_rfl)) ?_
                          have hr := Option.some.inj h
                          subst hr
                          exact ⟨_, Wk.refl _, .inr rfl, ⟨[], by kernel_rfl, trivial, [.v (.bool true)], by kernel_rfl, by kernel_rfl⟩⟩

end Go.Eng
