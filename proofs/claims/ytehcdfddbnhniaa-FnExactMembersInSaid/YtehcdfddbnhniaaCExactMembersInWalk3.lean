/- What is proved here: each function keeps to its model, whatever its arguments, wherever the model has an answer. Printed by gen.py. -/
import Derived.Test.YtehcdfddbnhniaaCExactMembersInWalk2
import Derived.Test.YtehcdfddbnhniaaProg
import Derived.KernelRfl
set_option linter.unusedVariables false
namespace Go.Eng
open Go Go.Proofs


theorem s_laws_markDefS_h_L1  (n : Nat) (g : Int × Int × (List (ByteArray × Int))) (out : Int × (List (ByteArray × Int))) (h : m_laws_markDefS_h_L1 n g.1 g.2.1 g.2.2 = some out) :
    AX Try.prog 28 1 (codeAt [1, 0, 1, 1] (bodyOf Try.f103)) ((fun g : Int × Int × (List (ByteArray × Int)) => (⟨[(0, .sl 0 0 g.2.2.length), (1, .v (.int .i64 g.1)), (5, .v (.int .i64 g.2.1))], [(0, .arr 2 (List.map enc_si g.2.2))]⟩ : S)) g) (fun ex s => ex = .exit 0 ∧ s = (fun o : Int × (List (ByteArray × Int)) => (⟨[(1, .v (.int .i64 o.1))], [(0, .arr 2 (List.map enc_si o.2))]⟩ : S)) out) := by
  refine AX.wkpost ?_
  refine AX.loop (G := Nat × (Int × Int × (List (ByteArray × Int)))) (fun q => (fun g : Int × Int × (List (ByteArray × Int)) => (⟨[(0, .sl 0 0 g.2.2.length), (1, .v (.int .i64 g.1)), (5, .v (.int .i64 g.2.1))], [(0, .arr 2 (List.map enc_si g.2.2))]⟩ : S)) q.2) (fun q => m_laws_markDefS_h_L1 q.1 q.2.1 q.2.2.1 q.2.2.2 = some out) (fun q => q.1) (n, g) h (Wk.refl _) ?_
  clear h
  rintro ⟨fu, v3, v4, v5⟩ h
  cases fu with
  | zero => cases h
  | succ fu =>
    rw [m_laws_markDefS_h_L1] at h
    refine AX.seq ?_
    refine AX.seq ?_
    refine AX.reg (its := []) [0, 1, 5, 9] [0] (s1 := ⟨[(0, .sl 0 0 v5.length), (1, .v (.int .i64 v3)), (5, .v (.int .i64 v4)), (9, .v (.bool (decide (v4 < (v5.length : Int)))))], [(0, .arr 2 (List.map enc_si v5))]⟩) (C := True) (by kernel_rfl) trivial trivial ?_
    rcases bool_cases (decide (v4 < (v5.length : Int))) with b1 | b1
    · replace h := cd_t b1 h
      refine AX.condT (decide (v4 < (v5.length : Int))) (by kernel_rfl) b1 ?_
      refine AX.skip ?_
      refine AX.seq ?_
      refine AX.block ?_
      refine AX.seq ?_
      obtain ⟨x6, e2, h⟩ := bd_e h
      obtain ⟨g3, h⟩ := gd_e h
      refine AX.reg (its := [.auto {}, .auto {}, .auto {}, .call 126 [.v (.int .i64 v3)] (handO (rho ([] ++ [])) [] [] ++ []) (callEv [] [] (.v (.string x6)) []), .auto {}, .auto {}, .auto { els := some ([enc_si (x6, (gt v5 v4).2)]) }]) [0, 1, 5] [0] (s1 := ⟨[(0, .sl 0 0 v5.length), (1, .v (.int .i64 v3)), (5, .v (.int .i64 v4))], [(0, .arr 2 ((List.map enc_si v5).set (0 + v4.toNat) (enc_si (x6, (gt v5 v4).2))))]⟩) (C := ((([.v (.int .i64 v3)] : List AV) = [.v (.int .i64 v3)]) ∧ True) ∧ (0 ≤ v4 ∧ v4 < (v5.length : Int)) ∧ ((((List.map enc_si v5).getD (0 + v4.toNat) []).take 0 ++ [(.string x6)] ++ ((List.map enc_si v5).getD (0 + v4.toNat) []).drop 1 = enc_si (x6, (gt v5 v4).2))) ∧ True) (by kernel_rfl) ⟨⟨rfl, trivial⟩, ⟨g3, ⟨(congrArg (fun z : List Value => z.take 0 ++ [(.string x6)] ++ z.drop 1) (idx_arr (enc := enc_si) rfl g3)), trivial⟩⟩⟩ ⟨call_ok (ks := []) (ns := []) (bor := []) (bobjs := []) (s_laws_markText v3 x6 e2) (.cons (.c1 (.c0 (.same _ (by kernel_rfl) (by kernel_rfl)))) (.nil)) (by kernel_rfl) trivial, trivial⟩ ?_
      refine AX.seq ?_
      refine AX.reg (its := [.auto {}, .auto { raw := true }]) [0, 1, 5] [0] (s1 := ⟨[(0, .sl 0 0 v5.length), (1, .v (.int .i64 (IntKind.wrap .i64 (v3 + 1)))), (5, .v (.int .i64 v4))], [(0, .arr 2 ((List.map enc_si v5).set (0 + v4.toNat) (enc_si (x6, (gt v5 v4).2))))]⟩) (C := True) (by kernel_rfl) trivial trivial ?_
      refine AX.seq ?_
      refine AX.reg (its := [.auto {}, .auto {}, .auto {}, .auto {}, .auto {}, .auto { els := some ([enc_si ((gt (v5.set (0 + v4.toNat) (x6, (gt v5 v4).2)) v4).1, IntKind.wrap .i64 (v3 + 1))]) }]) [0, 1, 5] [0] (s1 := ⟨[(0, .sl 0 0 v5.length), (1, .v (.int .i64 (IntKind.wrap .i64 (v3 + 1)))), (5, .v (.int .i64 v4))], [(0, .arr 2 (((List.map enc_si v5).set (0 + v4.toNat) (enc_si (x6, (gt v5 v4).2))).set (0 + v4.toNat) (enc_si ((gt (v5.set (0 + v4.toNat) (x6, (gt v5 v4).2)) v4).1, IntKind.wrap .i64 (v3 + 1)))))]⟩) (C := (0 ≤ v4 ∧ v4 < (v5.length : Int)) ∧ (((((List.map enc_si v5).set (0 + v4.toNat) (enc_si (x6, (gt v5 v4).2))).getD (0 + v4.toNat) []).take 1 ++ [(.int .i64 (IntKind.wrap .i64 (v3 + 1)))] ++ (((List.map enc_si v5).set (0 + v4.toNat) (enc_si (x6, (gt v5 v4).2))).getD (0 + v4.toNat) []).drop 2 = enc_si ((gt (v5.set (0 + v4.toNat) (x6, (gt v5 v4).2)) v4).1, IntKind.wrap .i64 (v3 + 1)))) ∧ True) (by kernel_rfl) ⟨g3, ⟨(congrArg (fun z : List Value => z.take 1 ++ [(.int .i64 (IntKind.wrap .i64 (v3 + 1)))] ++ z.drop 2) (idx_arr (enc := enc_si) (set_can (enc := enc_si) rfl (0 + v4.toNat) (x6, (gt v5 v4).2)) (idx_len (set_len ((rfl : v5.length = v5.length)) (0 + v4.toNat) (x6, (gt v5 v4).2)) g3))), trivial⟩⟩ trivial ?_
      refine AX.reg (its := [.auto {}, .auto { raw := true }]) [0, 1, 5] [0] (s1 := ⟨[(0, .sl 0 0 v5.length), (1, .v (.int .i64 (IntKind.wrap .i64 ((IntKind.wrap .i64 (v3 + 1)) + 1)))), (5, .v (.int .i64 v4))], [(0, .arr 2 (((List.map enc_si v5).set (0 + v4.toNat) (enc_si (x6, (gt v5 v4).2))).set (0 + v4.toNat) (enc_si ((gt (v5.set (0 + v4.toNat) (x6, (gt v5 v4).2)) v4).1, IntKind.wrap .i64 (v3 + 1)))))]⟩) (C := True) (by kernel_rfl) trivial trivial ?_
      refine AX.reg (its := [.auto {}, .auto { raw := true }]) [0, 1, 5] [0] (s1 := ⟨[(0, .sl 0 0 v5.length), (1, .v (.int .i64 (IntKind.wrap .i64 ((IntKind.wrap .i64 (v3 + 1)) + 1)))), (5, .v (.int .i64 (IntKind.wrap .i64 (v4 + 1))))], [(0, .arr 2 (((List.map enc_si v5).set (0 + v4.toNat) (enc_si (x6, (gt v5 v4).2))).set (0 + v4.toNat) (enc_si ((gt (v5.set (0 + v4.toNat) (x6, (gt v5 v4).2)) v4).1, IntKind.wrap .i64 (v3 + 1)))))]⟩) (C := True) (by kernel_rfl) trivial trivial ?_
      refine ⟨(fu, (IntKind.wrap .i64 ((IntKind.wrap .i64 (v3 + 1)) + 1), IntKind.wrap .i64 (v4 + 1), (v5.set (0 + v4.toNat) (x6, (gt v5 v4).2)).set (0 + v4.toNat) ((gt (v5.set (0 + v4.toNat) (x6, (gt v5 v4).2)) v4).1, IntKind.wrap .i64 (v3 + 1)))), h, Nat.lt_succ_self _, ?_⟩
      refine Wk.trans (Wk.forget [0, 1, 5] [0] (s' := ⟨[(0, .sl 0 0 v5.length), (1, .v (.int .i64 (IntKind.wrap .i64 ((IntKind.wrap .i64 (v3 + 1)) + 1)))), (5, .v (.int .i64 (IntKind.wrap .i64 (v4 + 1))))], [(0, .arr 2 (((List.map enc_si v5).set (0 + v4.toNat) (enc_si (x6, (gt v5 v4).2))).set (0 + v4.toNat) (enc_si ((gt (v5.set (0 + v4.toNat) (x6, (gt v5 v4).2)) v4).1, IntKind.wrap .i64 (v3 + 1)))))]⟩) (by kernel_rfl)) ?_
      refine Wk.trans (Wk.of_eq (congrArg (fun z => (⟨[(0, .sl 0 0 v5.length), (1, .v (.int .i64 (IntKind.wrap .i64 ((IntKind.wrap .i64 (v3 + 1)) + 1)))), (5, .v (.int .i64 (IntKind.wrap .i64 (v4 + 1))))], [(0, .arr 2 (z))]⟩ : S)) (set_can (enc := enc_si) (set_can (enc := enc_si) rfl (0 + v4.toNat) (x6, (gt v5 v4).2)) (0 + v4.toNat) ((gt (v5.set (0 + v4.toNat) (x6, (gt v5 v4).2)) v4).1, IntKind.wrap .i64 (v3 + 1))))) ?_
      refine Wk.trans (Wk.of_eq (congrArg (fun z => (⟨[(0, .sl 0 0 z), (1, .v (.int .i64 (IntKind.wrap .i64 ((IntKind.wrap .i64 (v3 + 1)) + 1)))), (5, .v (.int .i64 (IntKind.wrap .i64 (v4 + 1))))], [(0, .arr 2 (List.map enc_si ((v5.set (0 + v4.toNat) (x6, (gt v5 v4).2)).set (0 + v4.toNat) ((gt (v5.set (0 + v4.toNat) (x6, (gt v5 v4).2)) v4).1, IntKind.wrap .i64 (v3 + 1)))))]⟩ : S)) (set_len ((set_len ((rfl : v5.length = v5.length)) (0 + v4.toNat) (x6, (gt v5 v4).2) : v5.length = (v5.set (0 + v4.toNat) (x6, (gt v5 v4).2)).length)) (0 + v4.toNat) ((gt (v5.set (0 + v4.toNat) (x6, (gt v5 v4).2)) v4).1, IntKind.wrap .i64 (v3 + 1))))) ?_
      exact Wk.refl _
    · replace h := cd_f b1 h
      refine AX.condF (decide (v4 < (v5.length : Int))) (by kernel_rfl) b1 ?_
      refine AX.exit ?_
      refine fin_wk (Wk.forget [1] [0] (s' := ⟨[(1, .v (.int .i64 v3))], [(0, .arr 2 (List.map enc_si v5))]⟩) (by kernel_rfl)) ?_
      have hr := Option.some.inj h
      subst hr
      exact ⟨_, Wk.refl _, ⟨rfl, rfl⟩⟩

theorem s_laws_markDefS_h (p1 : Int) (p2 : List (ByteArray × Int)) (r : Int × (List (ByteArray × Int))) (h : m_laws_markDefS_h p1 p2 = some r) :
    Eng.Spec Try.prog 103 [.sl 0 0 p2.length, .v (.int .i64 p1)] [.arr 2 (List.map enc_si p2)] (.v (.int .i64 r.1)) [.arr 2 (List.map enc_si r.2)] := by
  unfold m_laws_markDefS_h at h
  refine Eng.Spec.body Try.func103 (by kernel_rfl) rfl (by kernel_rfl) ?_
  refine AX.wkpost ?_
  refine AX.seq ?_
  refine AX.reg (its := []) [0, 1] [0] (s1 := ⟨[(0, .sl 0 0 p2.length), (1, .v (.int .i64 p1))], [(0, .arr 2 (List.map enc_si p2))]⟩) (C := True) (by kernel_rfl) trivial trivial ?_
  refine AX.seq ?_
  refine AX.seq ?_
  refine AX.reg (its := []) [0, 1, 5] [0] (s1 := ⟨[(0, .sl 0 0 p2.length), (1, .v (.int .i64 p1)), (5, .v (.int .i64 0))], [(0, .arr 2 (List.map enc_si p2))]⟩) (C := True) (by kernel_rfl) trivial trivial ?_
  refine AX.block ?_
  obtain ⟨x7, e4, h⟩ := bd_e h
  refine AX.wk (Wk.forget [0, 1, 5] [0] (s' := ⟨[(0, .sl 0 0 p2.length), (1, .v (.int .i64 p1)), (5, .v (.int .i64 0))], [(0, .arr 2 (List.map enc_si p2))]⟩) (by kernel_rfl)) ?_
  refine AX.mono (s_laws_markDefS_h_L1  FU (p1, 0, p2) x7 e4) ?_
  rintro _ _ ⟨rfl, rfl⟩
  skip
  refine AX.seq ?_
  refine AX.reg (its := []) [4] [0] (s1 := ⟨[(4, .v (.int .i64 x7.1))], [(0, .arr 2 (List.map enc_si x7.2))]⟩) (C := True) (by kernel_rfl) trivial trivial ?_
  refine AX.ret ?_
  refine fin_wk (Wk.forget [4] [0] (s' := ⟨[(4, .v (.int .i64 x7.1))], [(0, .arr 2 (List.map enc_si x7.2))]⟩) (by kernel_rfl)) ?_
  have hr := Option.some.inj h
  subst hr
  exact ⟨_, Wk.refl _, .inr rfl, ⟨[], by kernel_rfl, ⟨rfl, trivial⟩, [.v (.int .i64 x7.1)], by kernel_rfl, by kernel_rfl⟩⟩

theorem s_laws_markEnum_h (p1 : Int) (p2 : List (ByteArray × Int)) (r : Int × (List (ByteArray × Int))) (h : m_laws_markEnum_h p1 p2 = some r) :
    Eng.Spec Try.prog 53 [.agg [.sl 0 0 p2.length], .v (.int .i64 p1)] [.arr 2 (List.map enc_si p2)] (.v (.int .i64 r.1)) [.arr 2 (List.map enc_si r.2)] := by
  unfold m_laws_markEnum_h at h
  refine Eng.Spec.body Try.func53 (by kernel_rfl) rfl (by kernel_rfl) ?_
  refine AX.wkpost ?_
  refine AX.seq ?_
  refine AX.reg (its := [.auto { nk := 1 }]) [1, 2] [0, 1] (s1 := ⟨[(1, .v (.int .i64 p1)), (2, .pt 1 0)], [(0, .arr 2 (List.map enc_si p2)), (1, .box [.sl 0 0 p2.length])]⟩) (C := True) (by kernel_rfl) trivial trivial ?_
  refine AX.seq ?_
  obtain ⟨x3, e1, h⟩ := bd_e h
  obtain ⟨g2, h⟩ := gd_e h
  refine AX.reg (its := [.auto {}, .auto {}, .auto {}, .call 103 [.sl 0 0 p2.length, .v (.int .i64 p1)] (handO (rho ([0] ++ [])) [0] [.arr 2 (List.map enc_si p2)] ++ []) (callEv [0] [] (.v (.int .i64 x3.1)) [.arr 2 (List.map enc_si x3.2)])]) [1] [0] (s1 := ⟨[(1, .v (.int .i64 x3.1))], [(0, .arr 2 (List.map enc_si x3.2))]⟩) (C := ((([.sl 0 0 p2.length, .v (.int .i64 p1)] : List AV) = [.sl 0 0 p2.length, .v (.int .i64 p1)]) ∧ (AO.arr 2 (List.map enc_si p2) = AO.arr 2 (List.map enc_si p2)) ∧ True) ∧ True) (by kernel_rfl) ⟨⟨rfl, rfl, trivial⟩, trivial⟩ ⟨call_ok (ks := [0]) (ns := []) (bor := []) (bobjs := []) (s_laws_markDefS_h p1 p2 x3 e1) (.cons (.c1 (.c0 (.same _ (by kernel_rfl) (by kernel_rfl)))) (.cons (.c1 (.c0 (.same _ (by kernel_rfl) (by kernel_rfl)))) (.nil))) (by kernel_rfl) ⟨.inr (arr_sh (enc := enc_si) g2), trivial⟩, trivial⟩ ?_
  refine AX.seq ?_
  refine AX.reg (its := []) [4] [0] (s1 := ⟨[(4, .v (.int .i64 x3.1))], [(0, .arr 2 (List.map enc_si x3.2))]⟩) (C := True) (by kernel_rfl) trivial trivial ?_
  refine AX.ret ?_
  refine fin_wk (Wk.forget [4] [0] (s' := ⟨[(4, .v (.int .i64 x3.1))], [(0, .arr 2 (List.map enc_si x3.2))]⟩) (by kernel_rfl)) ?_
  refine fin_wk (Wk.of_eq (congrArg (fun z => (⟨[(4, .v (.int .i64 x3.1))], [(0, .arr 2 (List.map enc_si x3.2))]⟩ : S)) (((rfl : p2.length = p2.length)).trans (g2).symm))) ?_
  have hr := Option.some.inj h
  subst hr
  exact ⟨_, Wk.refl _, .inr rfl, ⟨[], by kernel_rfl, ⟨rfl, trivial⟩, [.v (.int .i64 x3.1)], by kernel_rfl, by kernel_rfl⟩⟩

theorem s_laws_markStringS_h_L1  (n : Nat) (g : Int × Int × List (ByteArray)) (out : Int × List (ByteArray)) (h : m_laws_markStringS_h_L1 n g.1 g.2.1 g.2.2 = some out) :
    AX Try.prog 20 1 (codeAt [1, 0, 1, 1] (bodyOf Try.f54)) ((fun g : Int × Int × List (ByteArray) => (⟨[(0, .sl 0 0 g.2.2.length), (1, .v (.int .i64 g.1)), (5, .v (.int .i64 g.2.1))], [(0, .arr 1 (List.map enc_s g.2.2))]⟩ : S)) g) (fun ex s => ex = .exit 0 ∧ s = (fun o : Int × List (ByteArray) => (⟨[(1, .v (.int .i64 o.1))], [(0, .arr 1 (List.map enc_s o.2))]⟩ : S)) out) := by
  refine AX.wkpost ?_
  refine AX.loop (G := Nat × (Int × Int × List (ByteArray))) (fun q => (fun g : Int × Int × List (ByteArray) => (⟨[(0, .sl 0 0 g.2.2.length), (1, .v (.int .i64 g.1)), (5, .v (.int .i64 g.2.1))], [(0, .arr 1 (List.map enc_s g.2.2))]⟩ : S)) q.2) (fun q => m_laws_markStringS_h_L1 q.1 q.2.1 q.2.2.1 q.2.2.2 = some out) (fun q => q.1) (n, g) h (Wk.refl _) ?_
  clear h
  rintro ⟨fu, v3, v4, v5⟩ h
  cases fu with
  | zero => cases h
  | succ fu =>
    rw [m_laws_markStringS_h_L1] at h
    refine AX.seq ?_
    refine AX.seq ?_
    refine AX.reg (its := []) [0, 1, 5, 9] [0] (s1 := ⟨[(0, .sl 0 0 v5.length), (1, .v (.int .i64 v3)), (5, .v (.int .i64 v4)), (9, .v (.bool (decide (v4 < (v5.length : Int)))))], [(0, .arr 1 (List.map enc_s v5))]⟩) (C := True) (by kernel_rfl) trivial trivial ?_
    rcases bool_cases (decide (v4 < (v5.length : Int))) with b1 | b1
    · replace h := cd_t b1 h
      refine AX.condT (decide (v4 < (v5.length : Int))) (by kernel_rfl) b1 ?_
      refine AX.skip ?_
      refine AX.seq ?_
      refine AX.block ?_
      refine AX.seq ?_
      obtain ⟨x6, e2, h⟩ := bd_e h
      obtain ⟨g3, h⟩ := gd_e h
      refine AX.reg (its := [.auto {}, .auto {}, .auto {}, .call 126 [.v (.int .i64 v3)] (handO (rho ([] ++ [])) [] [] ++ []) (callEv [] [] (.v (.string x6)) [])]) [0, 1, 5] [0] (s1 := ⟨[(0, .sl 0 0 v5.length), (1, .v (.int .i64 v3)), (5, .v (.int .i64 v4))], [(0, .arr 1 ((List.map enc_s v5).set (0 + v4.toNat) [(.string x6)]))]⟩) (C := ((([.v (.int .i64 v3)] : List AV) = [.v (.int .i64 v3)]) ∧ True) ∧ (0 ≤ v4 ∧ v4 < (v5.length : Int)) ∧ True) (by kernel_rfl) ⟨⟨rfl, trivial⟩, ⟨g3, trivial⟩⟩ ⟨call_ok (ks := []) (ns := []) (bor := []) (bobjs := []) (s_laws_markText v3 x6 e2) (.cons (.c1 (.c0 (.same _ (by kernel_rfl) (by kernel_rfl)))) (.nil)) (by kernel_rfl) trivial, trivial⟩ ?_
      refine AX.reg (its := [.auto {}, .auto { raw := true }]) [0, 1, 5] [0] (s1 := ⟨[(0, .sl 0 0 v5.length), (1, .v (.int .i64 (IntKind.wrap .i64 (v3 + 1)))), (5, .v (.int .i64 v4))], [(0, .arr 1 ((List.map enc_s v5).set (0 + v4.toNat) [(.string x6)]))]⟩) (C := True) (by kernel_rfl) trivial trivial ?_
      refine AX.reg (its := [.auto {}, .auto { raw := true }]) [0, 1, 5] [0] (s1 := ⟨[(0, .sl 0 0 v5.length), (1, .v (.int .i64 (IntKind.wrap .i64 (v3 + 1)))), (5, .v (.int .i64 (IntKind.wrap .i64 (v4 + 1))))], [(0, .arr 1 ((List.map enc_s v5).set (0 + v4.toNat) [(.string x6)]))]⟩) (C := True) (by kernel_rfl) trivial trivial ?_
      refine ⟨(fu, (IntKind.wrap .i64 (v3 + 1), IntKind.wrap .i64 (v4 + 1), v5.set (0 + v4.toNat) x6)), h, Nat.lt_succ_self _, ?_⟩
      refine Wk.trans (Wk.forget [0, 1, 5] [0] (s' := ⟨[(0, .sl 0 0 v5.length), (1, .v (.int .i64 (IntKind.wrap .i64 (v3 + 1)))), (5, .v (.int .i64 (IntKind.wrap .i64 (v4 + 1))))], [(0, .arr 1 ((List.map enc_s v5).set (0 + v4.toNat) [(.string x6)]))]⟩) (by kernel_rfl)) ?_
      refine Wk.trans (Wk.of_eq (congrArg (fun z => (⟨[(0, .sl 0 0 v5.length), (1, .v (.int .i64 (IntKind.wrap .i64 (v3 + 1)))), (5, .v (.int .i64 (IntKind.wrap .i64 (v4 + 1))))], [(0, .arr 1 (z))]⟩ : S)) (set_can (enc := enc_s) rfl (0 + v4.toNat) x6))) ?_
      refine Wk.trans (Wk.of_eq (congrArg (fun z => (⟨[(0, .sl 0 0 z), (1, .v (.int .i64 (IntKind.wrap .i64 (v3 + 1)))), (5, .v (.int .i64 (IntKind.wrap .i64 (v4 + 1))))], [(0, .arr 1 (List.map enc_s (v5.set (0 + v4.toNat) x6)))]⟩ : S)) (set_len ((rfl : v5.length = v5.length)) (0 + v4.toNat) x6))) ?_
      exact Wk.refl _
    · replace h := cd_f b1 h
      refine AX.condF (decide (v4 < (v5.length : Int))) (by kernel_rfl) b1 ?_
      refine AX.exit ?_
      refine fin_wk (Wk.forget [1] [0] (s' := ⟨[(1, .v (.int .i64 v3))], [(0, .arr 1 (List.map enc_s v5))]⟩) (by kernel_rfl)) ?_
      have hr := Option.some.inj h
      subst hr
      exact ⟨_, Wk.refl _, ⟨rfl, rfl⟩⟩

theorem s_laws_markStringS_h (p1 : Int) (p2 : List (ByteArray)) (r : Int × List (ByteArray)) (h : m_laws_markStringS_h p1 p2 = some r) :
    Eng.Spec Try.prog 54 [.sl 0 0 p2.length, .v (.int .i64 p1)] [.arr 1 (List.map enc_s p2)] (.v (.int .i64 r.1)) [.arr 1 (List.map enc_s r.2)] := by
  unfold m_laws_markStringS_h at h
  refine Eng.Spec.body Try.func54 (by kernel_rfl) rfl (by kernel_rfl) ?_
  refine AX.wkpost ?_
  refine AX.seq ?_
  refine AX.reg (its := []) [0, 1] [0] (s1 := ⟨[(0, .sl 0 0 p2.length), (1, .v (.int .i64 p1))], [(0, .arr 1 (List.map enc_s p2))]⟩) (C := True) (by kernel_rfl) trivial trivial ?_
  refine AX.seq ?_
  refine AX.seq ?_
  refine AX.reg (its := []) [0, 1, 5] [0] (s1 := ⟨[(0, .sl 0 0 p2.length), (1, .v (.int .i64 p1)), (5, .v (.int .i64 0))], [(0, .arr 1 (List.map enc_s p2))]⟩) (C := True) (by kernel_rfl) trivial trivial ?_
  refine AX.block ?_
  obtain ⟨x7, e4, h⟩ := bd_e h
  refine AX.wk (Wk.forget [0, 1, 5] [0] (s' := ⟨[(0, .sl 0 0 p2.length), (1, .v (.int .i64 p1)), (5, .v (.int .i64 0))], [(0, .arr 1 (List.map enc_s p2))]⟩) (by kernel_rfl)) ?_
  refine AX.mono (s_laws_markStringS_h_L1  FU (p1, 0, p2) x7 e4) ?_
  rintro _ _ ⟨rfl, rfl⟩
  skip
  refine AX.seq ?_
  refine AX.reg (its := []) [4] [0] (s1 := ⟨[(4, .v (.int .i64 x7.1))], [(0, .arr 1 (List.map enc_s x7.2))]⟩) (C := True) (by kernel_rfl) trivial trivial ?_
  refine AX.ret ?_
  refine fin_wk (Wk.forget [4] [0] (s' := ⟨[(4, .v (.int .i64 x7.1))], [(0, .arr 1 (List.map enc_s x7.2))]⟩) (by kernel_rfl)) ?_
  have hr := Option.some.inj h
  subst hr
  exact ⟨_, Wk.refl _, .inr rfl, ⟨[], by kernel_rfl, ⟨rfl, trivial⟩, [.v (.int .i64 x7.1)], by kernel_rfl, by kernel_rfl⟩⟩

theorem s_laws_heldStringS_L1 (p1 : List (ByteArray)) (n : Nat) (g : Int × Int) (out : Unit ⊕ Int) (h : m_laws_heldStringS_L1 p1 n g.1 g.2 = some out) :
    AX Try.prog 22 0 (codeAt [1, 0, 1, 1] (bodyOf Try.f55)) ((fun g : Int × Int => (⟨[(0, .bs false 1 (List.map enc_s p1)), (1, .v (.int .i64 g.1)), (5, .v (.int .i64 g.2))], []⟩ : S)) g) (fun ex s => (∃ o : Unit, out = Sum.inl o ∧ ex = .ret ∧ s = ⟨[(4, .v (.int .i64 (-1)))], []⟩) ∨ (∃ o : Int, out = Sum.inr o ∧ ex = .exit 0 ∧ s = ⟨[(1, .v (.int .i64 o))], []⟩)) := by
  refine AX.wkpost ?_
  refine AX.loop (G := Nat × (Int × Int)) (fun q => (fun g : Int × Int => (⟨[(0, .bs false 1 (List.map enc_s p1)), (1, .v (.int .i64 g.1)), (5, .v (.int .i64 g.2))], []⟩ : S)) q.2) (fun q => m_laws_heldStringS_L1 p1 q.1 q.2.1 q.2.2 = some out) (fun q => q.1) (n, g) h (Wk.refl _) ?_
  clear h
  rintro ⟨fu, v3, v4⟩ h
  cases fu with
  | zero => cases h
  | succ fu =>
    rw [m_laws_heldStringS_L1] at h
    refine AX.seq ?_
    refine AX.seq ?_
    refine AX.reg (its := [.auto {}, .auto {}, .auto { y := some (.v (.int .i64 (p1.length : Int))) }]) [0, 1, 5, 9] [] (s1 := ⟨[(0, .bs false 1 (List.map enc_s p1)), (1, .v (.int .i64 v3)), (5, .v (.int .i64 v4)), (9, .v (.bool (decide (v4 < (p1.length : Int)))))], []⟩) (C := (True ∧ (AV.v (.int .i64 ((List.map enc_s p1).length : Int)) = AV.v (.int .i64 (p1.length : Int)))) ∧ True) (by kernel_rfl) ⟨⟨trivial, len_map enc_s p1⟩, trivial⟩ trivial ?_
    rcases bool_cases (decide (v4 < (p1.length : Int))) with b1 | b1
    · replace h := cd_t b1 h
      refine AX.condT (decide (v4 < (p1.length : Int))) (by kernel_rfl) b1 ?_
      refine AX.skip ?_
      refine AX.seq ?_
      refine AX.block ?_
      refine AX.seq ?_
      refine AX.seq ?_
      obtain ⟨g2, h⟩ := gd_e h
      obtain ⟨x5, e3, h⟩ := bd_e h
      refine AX.drw mixed (its := [.auto {}, .auto {}, .auto { y := some (.be 1 (enc_s (gt p1 v4)) 0) }, .auto {}, .auto {}, .call 126 [.v (.int .i64 v3)] (handO (rho ([] ++ [])) [] [] ++ []) (callEv [] [] (.v (.string x5)) [])]) [0, 1, 5, 18] [] (s1 := ⟨[(0, .bs false 1 (List.map enc_s p1)), (1, .v (.int .i64 v3)), (5, .v (.int .i64 v4)), (18, .v (.bool (!decide ((gt p1 v4) = x5))))], []⟩) (C := ((0 ≤ v4 ∧ v4 < ((List.map enc_s p1).length : Int)) ∧ (AV.be 1 ((List.map enc_s p1).getD v4.toNat []) 0 = AV.be 1 (enc_s (gt p1 v4)) 0)) ∧ ((([.v (.int .i64 v3)] : List AV) = [.v (.int .i64 v3)]) ∧ True) ∧ True) (by kernel_rfl) ⟨idx_bs enc_s p1 v4 1 g2, ⟨⟨rfl, trivial⟩, trivial⟩⟩ ⟨call_ok (ks := []) (ns := []) (bor := []) (bobjs := []) (s_laws_markText v3 x5 e3) (.cons (.c1 (.c0 (.same _ (by kernel_rfl) (by kernel_rfl)))) (.nil)) (by kernel_rfl) trivial, trivial⟩ ?_
      rcases bool_cases ((!decide ((gt p1 v4) = x5))) with b4 | b4
      · replace h := cd_t b4 h
        refine AX.condT ((!decide ((gt p1 v4) = x5))) (by kernel_rfl) b4 ?_
        refine AX.seq ?_
        refine AX.reg (its := []) [4] [] (s1 := ⟨[(4, .v (.int .i64 (-1)))], []⟩) (C := True) (by kernel_rfl) trivial trivial ?_
        refine AX.ret ?_
        refine fin_wk (Wk.forget [4] [] (s' := ⟨[(4, .v (.int .i64 (-1)))], []⟩) (by kernel_rfl)) ?_
        have hr := Option.some.inj h
        subst hr
        exact ⟨_, Wk.refl _, .inl ⟨(), rfl, rfl, rfl⟩⟩
      · replace h := cd_f b4 h
        refine AX.condF ((!decide ((gt p1 v4) = x5))) (by kernel_rfl) b4 ?_
        refine AX.skip ?_
        refine AX.reg (its := [.auto {}, .auto { raw := true }]) [0, 1, 5] [] (s1 := ⟨[(0, .bs false 1 (List.map enc_s p1)), (1, .v (.int .i64 (IntKind.wrap .i64 (v3 + 1)))), (5, .v (.int .i64 v4))], []⟩) (C := True) (by kernel_rfl) trivial trivial ?_
        refine AX.reg (its := [.auto {}, .auto { raw := true }]) [0, 1, 5] [] (s1 := ⟨[(0, .bs false 1 (List.map enc_s p1)), (1, .v (.int .i64 (IntKind.wrap .i64 (v3 + 1)))), (5, .v (.int .i64 (IntKind.wrap .i64 (v4 + 1))))], []⟩) (C := True) (by kernel_rfl) trivial trivial ?_
        refine ⟨(fu, (IntKind.wrap .i64 (v3 + 1), IntKind.wrap .i64 (v4 + 1))), h, Nat.lt_succ_self _, ?_⟩
        refine Wk.trans (Wk.forget [0, 1, 5] [] (s' := ⟨[(0, .bs false 1 (List.map enc_s p1)), (1, .v (.int .i64 (IntKind.wrap .i64 (v3 + 1)))), (5, .v (.int .i64 (IntKind.wrap .i64 (v4 + 1))))], []⟩) (by kernel_rfl)) ?_
        exact Wk.refl _
    · replace h := cd_f b1 h
      refine AX.condF (decide (v4 < (p1.length : Int))) (by kernel_rfl) b1 ?_
      refine AX.exit ?_
      refine fin_wk (Wk.forget [1] [] (s' := ⟨[(1, .v (.int .i64 v3))], []⟩) (by kernel_rfl)) ?_
      have hr := Option.some.inj h
      subst hr
      exact ⟨_, Wk.refl _, .inr ⟨v3, rfl, rfl, rfl⟩⟩

theorem s_laws_heldStringS (p1 : List (ByteArray)) (p2 : Int) (r : Int) (h : m_laws_heldStringS p1 p2 = some r) :
    Eng.Spec Try.prog 55 [.bs false 1 (List.map enc_s p1), .v (.int .i64 p2)] [] (.v (.int .i64 r)) [] := by
  unfold m_laws_heldStringS at h
  refine Eng.Spec.body Try.func55 (by kernel_rfl) rfl (by kernel_rfl) ?_
  refine AX.wkpost ?_
  refine AX.seq ?_
  refine AX.reg (its := []) [0, 1] [] (s1 := ⟨[(0, .bs false 1 (List.map enc_s p1)), (1, .v (.int .i64 p2))], []⟩) (C := True) (by kernel_rfl) trivial trivial ?_
  refine AX.seq ?_
  refine AX.seq ?_
  refine AX.reg (its := []) [0, 1, 5] [] (s1 := ⟨[(0, .bs false 1 (List.map enc_s p1)), (1, .v (.int .i64 p2)), (5, .v (.int .i64 0))], []⟩) (C := True) (by kernel_rfl) trivial trivial ?_
  refine AX.block ?_
  obtain ⟨x6, e5, h⟩ := bd_e h
  refine AX.wk (Wk.forget [0, 1, 5] [] (s' := ⟨[(0, .bs false 1 (List.map enc_s p1)), (1, .v (.int .i64 p2)), (5, .v (.int .i64 0))], []⟩) (by kernel_rfl)) ?_
  refine AX.mono (s_laws_heldStringS_L1 p1 FU (p2, 0) x6 e5) ?_
  rintro _ _ (⟨x7, rfl, rfl, rfl⟩ | ⟨x8, rfl, rfl, rfl⟩)
  · replace h := sm_l h
    refine fin_wk (Wk.forget [4] [] (s' := ⟨[(4, .v (.int .i64 (-1)))], []⟩) (by kernel_rfl)) ?_
    have hr := Option.some.inj h
    subst hr
    exact ⟨_, Wk.refl _, .inr rfl, ⟨[], by kernel_rfl, trivial, [.v (.int .i64 (-1))], by kernel_rfl, by kernel_rfl⟩⟩
  · replace h := sm_r h
    refine AX.seq ?_
    refine AX.reg (its := []) [4] [] (s1 := ⟨[(4, .v (.int .i64 x8))], []⟩) (C := True) (by kernel_rfl) trivial trivial ?_
    refine AX.ret ?_
    refine fin_wk (Wk.forget [4] [] (s' := ⟨[(4, .v (.int .i64 x8))], []⟩) (by kernel_rfl)) ?_
    have hr := Option.some.inj h
    subst hr
    exact ⟨_, Wk.refl _, .inr rfl, ⟨[], by kernel_rfl, trivial, [.v (.int .i64 x8)], by kernel_rfl, by kernel_rfl⟩⟩

theorem s_laws_FnExactMembersIn (p1 : List (ByteArray × Int)) (p2 : Int) (r : Bool) (h : m_laws_FnExactMembersIn p1 p2 = some r) :
    Eng.Spec Try.prog 9 [.agg [.bs true 2 (List.map enc_si p1)], .v (.int .i64 p2)] [] (.v (.bool r)) [] := by
  unfold m_laws_FnExactMembersIn at h
  refine Eng.Spec.body Try.func9 (by kernel_rfl) rfl (by kernel_rfl) ?_
  refine AX.wkpost ?_
  refine AX.seq ?_
  refine AX.reg (its := [.auto { nk := 0 }]) [1, 2] [0] (s1 := ⟨[(1, .v (.int .i64 p2)), (2, .pt 0 0)], [(0, .box [.bs true 2 (List.map enc_si p1)])]⟩) (C := True) (by kernel_rfl) trivial trivial ?_
  refine AX.seq ?_
  refine AX.reg (its := []) [1, 2, 5] [0] (s1 := ⟨[(1, .v (.int .i64 p2)), (2, .pt 0 0), (5, .v (.int .i64 1048576))], [(0, .box [.bs true 2 (List.map enc_si p1)])]⟩) (C := True) (by kernel_rfl) trivial trivial ?_
  refine AX.seq ?_
  obtain ⟨x3, e1, h⟩ := bd_e h
  refine AX.reg (its := [.auto {}, .auto {}, .call 48 [.agg [.bs true 2 (List.map enc_si p1)], .v (.int .i64 1048576)] (handO (rho ([] ++ [])) [] [] ++ []) (callEv [] [] (.v (.int .i64 x3)) [])]) [1, 2, 5] [0] (s1 := ⟨[(1, .v (.int .i64 p2)), (2, .pt 0 0), (5, .v (.int .i64 x3))], [(0, .box [.bs true 2 (List.map enc_si p1)])]⟩) (C := ((([.agg [.bs true 2 (List.map enc_si p1)], .v (.int .i64 1048576)] : List AV) = [.agg [.bs true 2 (List.map enc_si p1)], .v (.int .i64 1048576)]) ∧ True) ∧ True) (by kernel_rfl) ⟨⟨rfl, trivial⟩, trivial⟩ ⟨call_ok (ks := []) (ns := []) (bor := []) (bobjs := []) (s_laws_szEnum p1 1048576 x3 e1) (.cons (.c1 (.agg (.cons (.same _ (by kernel_rfl) (by kernel_rfl)) (.nil)))) (.cons (.c1 (.c0 (.same _ (by kernel_rfl) (by kernel_rfl)))) (.nil))) (by kernel_rfl) trivial, trivial⟩ ?_
  refine AX.seq ?_
  refine AX.seq ?_
  refine AX.reg (its := []) [1, 2, 17] [0] (s1 := ⟨[(1, .v (.int .i64 p2)), (2, .pt 0 0), (17, .v (.bool (decide (x3 < 0))))], [(0, .box [.bs true 2 (List.map enc_si p1)])]⟩) (C := True) (by kernel_rfl) trivial trivial ?_
  rcases bool_cases (decide (x3 < 0)) with b2 | b2
  · replace h := cd_t b2 h
    refine AX.condT (decide (x3 < 0)) (by kernel_rfl) b2 ?_
    refine AX.seq ?_
    refine AX.reg (its := []) [4] [] (s1 := ⟨[(4, .v (.bool true))], []⟩) (C := True) (by kernel_rfl) trivial trivial ?_
    refine AX.ret ?_
    refine fin_wk (Wk.forget [4] [] (s' := ⟨[(4, .v (.bool true))], []⟩) (by kernel_rfl)) ?_
    have hr := Option.some.inj h
    subst hr
    exact ⟨_, Wk.refl _, .inr rfl, ⟨[], by kernel_rfl, trivial, [.v (.bool true)], by kernel_rfl, by kernel_rfl⟩⟩
  · replace h := cd_f b2 h
    refine AX.condF (decide (x3 < 0)) (by kernel_rfl) b2 ?_
    refine AX.skip ?_
    refine AX.seq ?_
    obtain ⟨x4, e3, h⟩ := bd_e h
    obtain ⟨x5, e4, h⟩ := bd_e h
    refine AX.reg (its := [.auto {}, .call 50 [.agg [.bs true 2 (List.map enc_si p1)]] (handO (rho ([] ++ [1])) [] [] ++ []) (callEv [] [1] (.agg [.sl 0 0 x4.length]) [.arr 2 (List.map enc_si x4)]), .auto {}, .call 49 [.agg [.sl 1 0 x4.length], .v (.int .i64 p2)] (handO (rho ([] ++ [2])) [] [] ++ [(1, .arr 2 (List.map enc_si x4))]) (callEv [] [2] (.sl 0 0 x5.length) [.arr 1 (List.map enc_s x5)])]) [1, 2, 6] [0, 2] (s1 := ⟨[(1, .v (.int .i64 p2)), (2, .pt 0 0), (6, .sl 2 0 x5.length)], [(0, .box [.bs true 2 (List.map enc_si p1)]), (2, .arr 1 (List.map enc_s x5))]⟩) (C := ((([.agg [.bs true 2 (List.map enc_si p1)]] : List AV) = [.agg [.bs true 2 (List.map enc_si p1)]]) ∧ True) ∧ ((([.agg [.sl 1 0 x4.length], .v (.int .i64 p2)] : List AV) = [.agg [.sl 1 0 x4.length], .v (.int .i64 p2)]) ∧ (AO.arr 2 (List.map enc_si x4) = AO.arr 2 (List.map enc_si x4)) ∧ True) ∧ True) (by kernel_rfl) ⟨⟨rfl, trivial⟩, ⟨⟨rfl, rfl, trivial⟩, trivial⟩⟩ ⟨call_ok (ks := []) (ns := [1]) (bor := []) (bobjs := []) (s_laws_toEnum p1 x4 e3) (.cons (.c1 (.agg (.cons (.same _ (by kernel_rfl) (by kernel_rfl)) (.nil)))) (.nil)) (by kernel_rfl) trivial, ⟨call_ok (ks := []) (ns := [2]) (bor := [1]) (bobjs := [(1, .arr 2 (List.map enc_si x4))]) (s_spec_MembersIn x4 p2 x5 e4) (.cons (.c1 (.agg (.cons (.arr rfl rfl ((rfl).trans (List.length_map ..).symm)) (.nil)))) (.cons (.c1 (.c0 (.same _ (by kernel_rfl) (by kernel_rfl)))) (.nil))) (by kernel_rfl) trivial, trivial⟩⟩ ?_
    refine AX.seq ?_
    obtain ⟨x6, e5, h⟩ := bd_e h
    refine AX.reg (its := [.auto {}, .call 50 [.agg [.bs true 2 (List.map enc_si p1)]] (handO (rho ([] ++ [3])) [] [] ++ []) (callEv [] [3] (.agg [.sl 0 0 x6.length]) [.arr 2 (List.map enc_si x6)]), .auto { nk := 4 }]) [1, 2, 6, 7] [0, 2, 3, 4] (s1 := ⟨[(1, .v (.int .i64 p2)), (2, .pt 0 0), (6, .sl 2 0 x5.length), (7, .pt 4 0)], [(0, .box [.bs true 2 (List.map enc_si p1)]), (2, .arr 1 (List.map enc_s x5)), (3, .arr 2 (List.map enc_si x6)), (4, .box [.sl 3 0 x6.length])]⟩) (C := ((([.agg [.bs true 2 (List.map enc_si p1)]] : List AV) = [.agg [.bs true 2 (List.map enc_si p1)]]) ∧ True) ∧ True) (by kernel_rfl) ⟨⟨rfl, trivial⟩, trivial⟩ ⟨call_ok (ks := []) (ns := [3]) (bor := []) (bobjs := []) (s_laws_toEnum p1 x6 e5) (.cons (.c1 (.agg (.cons (.same _ (by kernel_rfl) (by kernel_rfl)) (.nil)))) (.nil)) (by kernel_rfl) trivial, trivial⟩ ?_
    refine AX.seq ?_
    obtain ⟨x7, e6, h⟩ := bd_e h
    refine AX.reg (its := [.auto {}, .auto {}, .call 44 [.agg [.sl 3 0 x6.length], .v (.int .i64 p2)] (handO (rho ([] ++ [5])) [] [] ++ [(3, .arr 2 (List.map enc_si x6))]) (callEv [] [5] (.sl 0 0 x7.length) [.arr 1 (List.map enc_s x7)])]) [1, 2, 6, 7, 8] [0, 2, 3, 4, 5] (s1 := ⟨[(1, .v (.int .i64 p2)), (2, .pt 0 0), (6, .sl 2 0 x5.length), (7, .pt 4 0), (8, .sl 5 0 x7.length)], [(0, .box [.bs true 2 (List.map enc_si p1)]), (2, .arr 1 (List.map enc_s x5)), (3, .arr 2 (List.map enc_si x6)), (4, .box [.sl 3 0 x6.length]), (5, .arr 1 (List.map enc_s x7))]⟩) (C := ((([.agg [.sl 3 0 x6.length], .v (.int .i64 p2)] : List AV) = [.agg [.sl 3 0 x6.length], .v (.int .i64 p2)]) ∧ (AO.arr 2 (List.map enc_si x6) = AO.arr 2 (List.map enc_si x6)) ∧ True) ∧ True) (by kernel_rfl) ⟨⟨rfl, rfl, trivial⟩, trivial⟩ ⟨call_ok (ks := []) (ns := [5]) (bor := [3]) (bobjs := [(3, .arr 2 (List.map enc_si x6))]) (s_impl_MembersIn x6 p2 x7 e6) (.cons (.c1 (.agg (.cons (.arr rfl rfl ((rfl).trans (List.length_map ..).symm)) (.nil)))) (.cons (.c1 (.c0 (.same _ (by kernel_rfl) (by kernel_rfl)))) (.nil))) (by kernel_rfl) trivial, trivial⟩ ?_
    refine AX.seq ?_
    refine AX.seq ?_
    obtain ⟨x8, e7, h⟩ := bd_e h
    refine AX.reg (its := [.auto {}, .auto {}, .call 51 [.sl 5 0 x7.length, .sl 2 0 x5.length] (handO (rho ([] ++ [])) [] [] ++ [(5, .arr 1 (List.map enc_s x7)), (2, .arr 1 (List.map enc_s x5))]) (callEv [] [] (.v (.bool x8)) [])]) [1, 2, 6, 7, 8, 30] [0, 2, 3, 4, 5] (s1 := ⟨[(1, .v (.int .i64 p2)), (2, .pt 0 0), (6, .sl 2 0 x5.length), (7, .pt 4 0), (8, .sl 5 0 x7.length), (30, .v (.bool (!x8)))], [(0, .box [.bs true 2 (List.map enc_si p1)]), (2, .arr 1 (List.map enc_s x5)), (3, .arr 2 (List.map enc_si x6)), (4, .box [.sl 3 0 x6.length]), (5, .arr 1 (List.map enc_s x7))]⟩) (C := ((([.sl 5 0 x7.length, .sl 2 0 x5.length] : List AV) = [.sl 5 0 x7.length, .sl 2 0 x5.length]) ∧ (AO.arr 1 (List.map enc_s x7) = AO.arr 1 (List.map enc_s x7)) ∧ (AO.arr 1 (List.map enc_s x5) = AO.arr 1 (List.map enc_s x5)) ∧ True) ∧ True) (by kernel_rfl) ⟨⟨rfl, rfl, rfl, trivial⟩, trivial⟩ ⟨call_ok (ks := []) (ns := []) (bor := [5, 2]) (bobjs := [(5, .arr 1 (List.map enc_s x7)), (2, .arr 1 (List.map enc_s x5))]) (s_laws_eqStringS x7 x5 x8 e7) (.cons (.c1 (.c0 (.arr rfl rfl ((rfl).trans (List.length_map ..).symm)))) (.cons (.c1 (.c0 (.arr rfl rfl ((rfl).trans (List.length_map ..).symm)))) (.nil))) (by kernel_rfl) trivial, trivial⟩ ?_
    rcases bool_cases ((!x8)) with b8 | b8
    · replace h := cd_t b8 h
      refine AX.condT ((!x8)) (by kernel_rfl) b8 ?_
      refine AX.seq ?_
      refine AX.reg (its := []) [4] [] (s1 := ⟨[(4, .v (.bool false))], []⟩) (C := True) (by kernel_rfl) trivial trivial ?_
      refine AX.ret ?_
      refine fin_wk (Wk.forget [4] [] (s' := ⟨[(4, .v (.bool false))], []⟩) (by kernel_rfl)) ?_
      have hr := Option.some.inj h
      subst hr
      exact ⟨_, Wk.refl _, .inr rfl, ⟨[], by kernel_rfl, trivial, [.v (.bool false)], by kernel_rfl, by kernel_rfl⟩⟩
    · replace h := cd_f b8 h
      refine AX.condF ((!x8)) (by kernel_rfl) b8 ?_
      refine AX.skip ?_
      refine AX.seq ?_
      refine AX.seq ?_
      obtain ⟨x9, e9, h⟩ := bd_e h
      obtain ⟨x10, e10, h⟩ := bd_e h
      refine AX.drw mixed (its := [.auto {}, .auto {}, .call 50 [.agg [.bs true 2 (List.map enc_si p1)]] (handO (rho ([] ++ [6])) [] [] ++ []) (callEv [] [6] (.agg [.sl 0 0 x9.length]) [.arr 2 (List.map enc_si x9)]), .call 52 [.agg [.sl 3 0 x6.length], .agg [.sl 6 0 x9.length]] (handO (rho ([] ++ [])) [] [] ++ [(3, .arr 2 (List.map enc_si x6)), (6, .arr 2 (List.map enc_si x9))]) (callEv [] [] (.v (.bool x10)) [])]) [1, 2, 6, 7, 8, 35] [0, 2, 3, 4, 5] (s1 := ⟨[(1, .v (.int .i64 p2)), (2, .pt 0 0), (6, .sl 2 0 x5.length), (7, .pt 4 0), (8, .sl 5 0 x7.length), (35, .v (.bool (!x10)))], [(0, .box [.bs true 2 (List.map enc_si p1)]), (2, .arr 1 (List.map enc_s x5)), (3, .arr 2 (List.map enc_si x6)), (4, .box [.sl 3 0 x6.length]), (5, .arr 1 (List.map enc_s x7))]⟩) (C := ((([.agg [.bs true 2 (List.map enc_si p1)]] : List AV) = [.agg [.bs true 2 (List.map enc_si p1)]]) ∧ True) ∧ ((([.agg [.sl 3 0 x6.length], .agg [.sl 6 0 x9.length]] : List AV) = [.agg [.sl 3 0 x6.length], .agg [.sl 6 0 x9.length]]) ∧ (AO.arr 2 (List.map enc_si x6) = AO.arr 2 (List.map enc_si x6)) ∧ (AO.arr 2 (List.map enc_si x9) = AO.arr 2 (List.map enc_si x9)) ∧ True) ∧ True) (by kernel_rfl) ⟨⟨rfl, trivial⟩, ⟨⟨rfl, rfl, rfl, trivial⟩, trivial⟩⟩ ⟨call_ok (ks := []) (ns := [6]) (bor := []) (bobjs := []) (s_laws_toEnum p1 x9 e9) (.cons (.c1 (.agg (.cons (.same _ (by kernel_rfl) (by kernel_rfl)) (.nil)))) (.nil)) (by kernel_rfl) trivial, ⟨call_ok (ks := []) (ns := []) (bor := [3, 6]) (bobjs := [(3, .arr 2 (List.map enc_si x6)), (6, .arr 2 (List.map enc_si x9))]) (s_laws_eqEnum x6 x9 x10 e10) (.cons (.c1 (.agg (.cons (.arr rfl rfl ((rfl).trans (List.length_map ..).symm)) (.nil)))) (.cons (.c1 (.agg (.cons (.arr rfl rfl ((rfl).trans (List.length_map ..).symm)) (.nil)))) (.nil))) (by kernel_rfl) trivial, trivial⟩⟩ ?_
      rcases bool_cases ((!x10)) with b11 | b11
      · replace h := cd_t b11 h
        refine AX.condT ((!x10)) (by kernel_rfl) b11 ?_
        refine AX.seq ?_
        refine AX.reg (its := []) [4] [] (s1 := ⟨[(4, .v (.bool false))], []⟩) (C := True) (by kernel_rfl) trivial trivial ?_
        refine AX.ret ?_
        refine fin_wk (Wk.forget [4] [] (s' := ⟨[(4, .v (.bool false))], []⟩) (by kernel_rfl)) ?_
        have hr := Option.some.inj h
        subst hr
        exact ⟨_, Wk.refl _, .inr rfl, ⟨[], by kernel_rfl, trivial, [.v (.bool false)], by kernel_rfl, by kernel_rfl⟩⟩
      · replace h := cd_f b11 h
        refine AX.condF ((!x10)) (by kernel_rfl) b11 ?_
        refine AX.skip ?_
        refine AX.seq ?_
        refine AX.reg (its := []) [1, 2, 6, 7, 8, 9] [0, 2, 3, 4, 5] (s1 := ⟨[(1, .v (.int .i64 p2)), (2, .pt 0 0), (6, .sl 2 0 x5.length), (7, .pt 4 0), (8, .sl 5 0 x7.length), (9, .v (.int .i64 1))], [(0, .box [.bs true 2 (List.map enc_si p1)]), (2, .arr 1 (List.map enc_s x5)), (3, .arr 2 (List.map enc_si x6)), (4, .box [.sl 3 0 x6.length]), (5, .arr 1 (List.map enc_s x7))]⟩) (C := True) (by kernel_rfl) trivial trivial ?_
        refine AX.seq ?_
        obtain ⟨x11, e12, h⟩ := bd_e h
        obtain ⟨g13, h⟩ := gd_e h
        refine AX.reg (its := [.auto {}, .auto {}, .call 53 [.agg [.sl 3 0 x6.length], .v (.int .i64 1)] (handO (rho ([3] ++ [])) [3] [.arr 2 (List.map enc_si x6)] ++ []) (callEv [3] [] (.v (.int .i64 x11.1)) [.arr 2 (List.map enc_si x11.2)])]) [1, 2, 6, 8, 9] [0, 2, 5] (s1 := ⟨[(1, .v (.int .i64 p2)), (2, .pt 0 0), (6, .sl 2 0 x5.length), (8, .sl 5 0 x7.length), (9, .v (.int .i64 x11.1))], [(0, .box [.bs true 2 (List.map enc_si p1)]), (2, .arr 1 (List.map enc_s x5)), (5, .arr 1 (List.map enc_s x7))]⟩) (C := ((([.agg [.sl 3 0 x6.length], .v (.int .i64 1)] : List AV) = [.agg [.sl 3 0 x6.length], .v (.int .i64 1)]) ∧ (AO.arr 2 (List.map enc_si x6) = AO.arr 2 (List.map enc_si x6)) ∧ True) ∧ True) (by kernel_rfl) ⟨⟨rfl, rfl, trivial⟩, trivial⟩ ⟨call_ok (ks := [3]) (ns := []) (bor := []) (bobjs := []) (s_laws_markEnum_h 1 x6 x11 e12) (.cons (.c1 (.agg (.cons (.same _ (by kernel_rfl) (by kernel_rfl)) (.nil)))) (.cons (.c1 (.c0 (.same _ (by kernel_rfl) (by kernel_rfl)))) (.nil))) (by kernel_rfl) ⟨.inr (arr_sh (enc := enc_si) g13), trivial⟩, trivial⟩ ?_
        refine AX.seq ?_
        refine AX.seq ?_
        rcases bool_cases (decide (x11.1 < 0)) with b14 | b14
        · replace h := cd_t b14 h
          refine AX.reg (its := [.auto {}, .auto { y := some (.v (.bool true)) }]) [1, 2, 6, 8, 46] [0, 2, 5] (s1 := ⟨[(1, .v (.int .i64 p2)), (2, .pt 0 0), (6, .sl 2 0 x5.length), (8, .sl 5 0 x7.length), (46, .v (.bool true))], [(0, .box [.bs true 2 (List.map enc_si p1)]), (2, .arr 1 (List.map enc_s x5)), (5, .arr 1 (List.map enc_s x7))]⟩) (C := ((True) ∧ ((.v (.bool (decide (x11.1 < 0))) : AV) = (.v (.bool true) : AV))) ∧ True) (by kernel_rfl) ⟨⟨trivial, (congrArg (fun z => AV.v (.bool z)) b14)⟩, trivial⟩ trivial ?_
          refine AX.cond_true (by kernel_rfl) ?_
          refine AX.seq ?_
          refine AX.reg (its := []) [4] [] (s1 := ⟨[(4, .v (.bool false))], []⟩) (C := True) (by kernel_rfl) trivial trivial ?_
          refine AX.ret ?_
          refine fin_wk (Wk.forget [4] [] (s' := ⟨[(4, .v (.bool false))], []⟩) (by kernel_rfl)) ?_
          have hr := Option.some.inj h
          subst hr
          exact ⟨_, Wk.refl _, .inr rfl, ⟨[], by kernel_rfl, trivial, [.v (.bool false)], by kernel_rfl, by kernel_rfl⟩⟩
        · replace h := cd_f b14 h
          obtain ⟨x12, e15, h⟩ := bd_e h
          refine AX.reg (its := [.auto {}, .auto { y := some (.v (.bool false)) }, .auto {}, .auto {}, .auto {}, .call 51 [.sl 5 0 x7.length, .sl 2 0 x5.length] (handO (rho ([] ++ [])) [] [] ++ [(5, .arr 1 (List.map enc_s x7)), (2, .arr 1 (List.map enc_s x5))]) (callEv [] [] (.v (.bool x12)) [])]) [1, 2, 6, 8, 46] [0, 2, 5] (s1 := ⟨[(1, .v (.int .i64 p2)), (2, .pt 0 0), (6, .sl 2 0 x5.length), (8, .sl 5 0 x7.length), (46, .v (.bool (!x12)))], [(0, .box [.bs true 2 (List.map enc_si p1)]), (2, .arr 1 (List.map enc_s x5)), (5, .arr 1 (List.map enc_s x7))]⟩) (C := ((True) ∧ ((.v (.bool (decide (x11.1 < 0))) : AV) = (.v (.bool false) : AV))) ∧ ((([.sl 5 0 x7.length, .sl 2 0 x5.length] : List AV) = [.sl 5 0 x7.length, .sl 2 0 x5.length]) ∧ (AO.arr 1 (List.map enc_s x7) = AO.arr 1 (List.map enc_s x7)) ∧ (AO.arr 1 (List.map enc_s x5) = AO.arr 1 (List.map enc_s x5)) ∧ True) ∧ True) (by kernel_rfl) ⟨⟨trivial, (congrArg (fun z => AV.v (.bool z)) b14)⟩, ⟨⟨rfl, rfl, rfl, trivial⟩, trivial⟩⟩ ⟨call_ok (ks := []) (ns := []) (bor := [5, 2]) (bobjs := [(5, .arr 1 (List.map enc_s x7)), (2, .arr 1 (List.map enc_s x5))]) (s_laws_eqStringS x7 x5 x12 e15) (.cons (.c1 (.c0 (.arr rfl rfl ((rfl).trans (List.length_map ..).symm)))) (.cons (.c1 (.c0 (.arr rfl rfl ((rfl).trans (List.length_map ..).symm)))) (.nil))) (by kernel_rfl) trivial, trivial⟩ ?_
          rcases bool_cases ((!x12)) with b16 | b16
          · replace h := cd_t b16 h
            refine AX.condT ((!x12)) (by kernel_rfl) b16 ?_
            refine AX.seq ?_
            refine AX.reg (its := []) [4] [] (s1 := ⟨[(4, .v (.bool false))], []⟩) (C := True) (by kernel_rfl) trivial trivial ?_
            refine AX.ret ?_
            refine fin_wk (Wk.forget [4] [] (s' := ⟨[(4, .v (.bool false))], []⟩) (by kernel_rfl)) ?_
            have hr := Option.some.inj h
            subst hr
            exact ⟨_, Wk.refl _, .inr rfl, ⟨[], by kernel_rfl, trivial, [.v (.bool false)], by kernel_rfl, by kernel_rfl⟩⟩
          · replace h := cd_f b16 h
            refine AX.condF ((!x12)) (by kernel_rfl) b16 ?_
            refine AX.skip ?_
            refine AX.seq ?_
            refine AX.reg (its := []) [1, 2, 6, 8, 10] [0, 2, 5] (s1 := ⟨[(1, .v (.int .i64 p2)), (2, .pt 0 0), (6, .sl 2 0 x5.length), (8, .sl 5 0 x7.length), (10, .v (.int .i64 1))], [(0, .box [.bs true 2 (List.map enc_si p1)]), (2, .arr 1 (List.map enc_s x5)), (5, .arr 1 (List.map enc_s x7))]⟩) (C := True) (by kernel_rfl) trivial trivial ?_
            refine AX.seq ?_
            obtain ⟨x13, e17, h⟩ := bd_e h
            obtain ⟨g18, h⟩ := gd_e h
            refine AX.reg (its := [.auto {}, .auto {}, .call 54 [.sl 5 0 x7.length, .v (.int .i64 1)] (handO (rho ([5] ++ [])) [5] [.arr 1 (List.map enc_s x7)] ++ []) (callEv [5] [] (.v (.int .i64 x13.1)) [.arr 1 (List.map enc_s x13.2)])]) [1, 2, 6, 8, 10] [0, 2, 5] (s1 := ⟨[(1, .v (.int .i64 p2)), (2, .pt 0 0), (6, .sl 2 0 x5.length), (8, .sl 5 0 x7.length), (10, .v (.int .i64 x13.1))], [(0, .box [.bs true 2 (List.map enc_si p1)]), (2, .arr 1 (List.map enc_s x5)), (5, .arr 1 (List.map enc_s x13.2))]⟩) (C := ((([.sl 5 0 x7.length, .v (.int .i64 1)] : List AV) = [.sl 5 0 x7.length, .v (.int .i64 1)]) ∧ (AO.arr 1 (List.map enc_s x7) = AO.arr 1 (List.map enc_s x7)) ∧ True) ∧ True) (by kernel_rfl) ⟨⟨rfl, rfl, trivial⟩, trivial⟩ ⟨call_ok (ks := [5]) (ns := []) (bor := []) (bobjs := []) (s_laws_markStringS_h 1 x7 x13 e17) (.cons (.c1 (.c0 (.same _ (by kernel_rfl) (by kernel_rfl)))) (.cons (.c1 (.c0 (.same _ (by kernel_rfl) (by kernel_rfl)))) (.nil))) (by kernel_rfl) ⟨.inr (arr_sh (enc := enc_s) g18), trivial⟩, trivial⟩ ?_
            refine AX.seq ?_
            refine AX.reg (its := []) [1, 2, 6, 8, 10, 11] [0, 2, 5] (s1 := ⟨[(1, .v (.int .i64 p2)), (2, .pt 0 0), (6, .sl 2 0 x5.length), (8, .sl 5 0 x7.length), (10, .v (.int .i64 x13.1)), (11, .v (.int .i64 1))], [(0, .box [.bs true 2 (List.map enc_si p1)]), (2, .arr 1 (List.map enc_s x5)), (5, .arr 1 (List.map enc_s x13.2))]⟩) (C := True) (by kernel_rfl) trivial trivial ?_
            refine AX.seq ?_
            obtain ⟨x14, e19, h⟩ := bd_e h
            refine AX.reg (its := [.auto {}, .auto {}, .call 55 [.sl 5 0 x7.length, .v (.int .i64 1)] (handO (rho ([] ++ [])) [] [] ++ [(5, .arr 1 (List.map enc_s x13.2))]) (callEv [] [] (.v (.int .i64 x14)) [])]) [1, 2, 6, 8, 10, 11] [0, 2, 5] (s1 := ⟨[(1, .v (.int .i64 p2)), (2, .pt 0 0), (6, .sl 2 0 x5.length), (8, .sl 5 0 x7.length), (10, .v (.int .i64 x13.1)), (11, .v (.int .i64 x14))], [(0, .box [.bs true 2 (List.map enc_si p1)]), (2, .arr 1 (List.map enc_s x5)), (5, .arr 1 (List.map enc_s x13.2))]⟩) (C := ((([.sl 5 0 x7.length, .v (.int .i64 1)] : List AV) = [.sl 5 0 x7.length, .v (.int .i64 1)]) ∧ (AO.arr 1 (List.map enc_s x13.2) = AO.arr 1 (List.map enc_s x13.2)) ∧ True) ∧ True) (by kernel_rfl) ⟨⟨rfl, rfl, trivial⟩, trivial⟩ ⟨call_ok (ks := []) (ns := []) (bor := [5]) (bobjs := [(5, .arr 1 (List.map enc_s x13.2))]) (s_laws_heldStringS x13.2 1 x14 e19) (.cons (.c1 (.c0 (.arr rfl rfl ((((rfl : x7.length = x7.length)).trans (g18).symm).trans (List.length_map ..).symm)))) (.cons (.c1 (.c0 (.same _ (by kernel_rfl) (by kernel_rfl)))) (.nil))) (by kernel_rfl) trivial, trivial⟩ ?_
            refine AX.seq ?_
            refine AX.seq ?_
            refine AX.reg (its := []) [1, 2, 6, 8, 10, 11, 54] [0, 2, 5] (s1 := ⟨[(1, .v (.int .i64 p2)), (2, .pt 0 0), (6, .sl 2 0 x5.length), (8, .sl 5 0 x7.length), (10, .v (.int .i64 x13.1)), (11, .v (.int .i64 x14)), (54, .v (.bool (decide (x14 < 0))))], [(0, .box [.bs true 2 (List.map enc_si p1)]), (2, .arr 1 (List.map enc_s x5)), (5, .arr 1 (List.map enc_s x13.2))]⟩) (C := True) (by kernel_rfl) trivial trivial ?_
            rcases bool_cases (decide (x14 < 0)) with b20 | b20
            · replace h := cd_t b20 h
              refine AX.condT (decide (x14 < 0)) (by kernel_rfl) b20 ?_
              refine AX.seq ?_
              refine AX.reg (its := []) [4] [] (s1 := ⟨[(4, .v (.bool false))], []⟩) (C := True) (by kernel_rfl) trivial trivial ?_
              refine AX.ret ?_
              refine fin_wk (Wk.forget [4] [] (s' := ⟨[(4, .v (.bool false))], []⟩) (by kernel_rfl)) ?_
              have hr := Option.some.inj h
              subst hr
              exact ⟨_, Wk.refl _, .inr rfl, ⟨[], by kernel_rfl, trivial, [.v (.bool false)], by kernel_rfl, by kernel_rfl⟩⟩
            · replace h := cd_f b20 h
              refine AX.condF (decide (x14 < 0)) (by kernel_rfl) b20 ?_
              refine AX.skip ?_
              refine AX.seq ?_
              refine AX.seq ?_
              refine AX.reg (its := []) [1, 2, 6, 8, 10, 57] [0, 2, 5] (s1 := ⟨[(1, .v (.int .i64 p2)), (2, .pt 0 0), (6, .sl 2 0 x5.length), (8, .sl 5 0 x7.length), (10, .v (.int .i64 x13.1)), (57, .v (.bool (!decide (x14 = x13.1))))], [(0, .box [.bs true 2 (List.map enc_si p1)]), (2, .arr 1 (List.map enc_s x5)), (5, .arr 1 (List.map enc_s x13.2))]⟩) (C := True) (by kernel_rfl) trivial trivial ?_
              rcases bool_cases ((!decide (x14 = x13.1))) with b21 | b21
              · replace h := cd_t b21 h
                refine AX.condT ((!decide (x14 = x13.1))) (by kernel_rfl) b21 ?_
                refine AX.seq ?_
                refine AX.reg (its := []) [4] [] (s1 := ⟨[(4, .v (.bool false))], []⟩) (C := True) (by kernel_rfl) trivial trivial ?_
                refine AX.ret ?_
                refine fin_wk (Wk.forget [4] [] (s' := ⟨[(4, .v (.bool false))], []⟩) (by kernel_rfl)) ?_
                have hr := Option.some.inj h
                subst hr
                exact ⟨_, Wk.refl _, .inr rfl, ⟨[], by kernel_rfl, trivial, [.v (.bool false)], by kernel_rfl, by kernel_rfl⟩⟩
              · replace h := cd_f b21 h
                refine AX.condF ((!decide (x14 = x13.1))) (by kernel_rfl) b21 ?_
                refine AX.skip ?_
                refine AX.seq ?_
                obtain ⟨x15, e22, h⟩ := bd_e h
                obtain ⟨x16, e23, h⟩ := bd_e h
                refine AX.reg (its := [.auto {}, .call 50 [.agg [.bs true 2 (List.map enc_si p1)]] (handO (rho ([] ++ [6])) [] [] ++ []) (callEv [] [6] (.agg [.sl 0 0 x15.length]) [.arr 2 (List.map enc_si x15)]), .auto {}, .call 44 [.agg [.sl 6 0 x15.length], .v (.int .i64 p2)] (handO (rho ([] ++ [7])) [] [] ++ [(6, .arr 2 (List.map enc_si x15))]) (callEv [] [7] (.sl 0 0 x16.length) [.arr 1 (List.map enc_s x16)])]) [6, 8, 10, 12] [2, 5, 7] (s1 := ⟨[(6, .sl 2 0 x5.length), (8, .sl 5 0 x7.length), (10, .v (.int .i64 x13.1)), (12, .sl 7 0 x16.length)], [(2, .arr 1 (List.map enc_s x5)), (5, .arr 1 (List.map enc_s x13.2)), (7, .arr 1 (List.map enc_s x16))]⟩) (C := ((([.agg [.bs true 2 (List.map enc_si p1)]] : List AV) = [.agg [.bs true 2 (List.map enc_si p1)]]) ∧ True) ∧ ((([.agg [.sl 6 0 x15.length], .v (.int .i64 p2)] : List AV) = [.agg [.sl 6 0 x15.length], .v (.int .i64 p2)]) ∧ (AO.arr 2 (List.map enc_si x15) = AO.arr 2 (List.map enc_si x15)) ∧ True) ∧ True) (by kernel_rfl) ⟨⟨rfl, trivial⟩, ⟨⟨rfl, rfl, trivial⟩, trivial⟩⟩ ⟨call_ok (ks := []) (ns := [6]) (bor := []) (bobjs := []) (s_laws_toEnum p1 x15 e22) (.cons (.c1 (.agg (.cons (.same _ (by kernel_rfl) (by kernel_rfl)) (.nil)))) (.nil)) (by kernel_rfl) trivial, ⟨call_ok (ks := []) (ns := [7]) (bor := [6]) (bobjs := [(6, .arr 2 (List.map enc_si x15))]) (s_impl_MembersIn x15 p2 x16 e23) (.cons (.c1 (.agg (.cons (.arr rfl rfl ((rfl).trans (List.length_map ..).symm)) (.nil)))) (.cons (.c1 (.c0 (.same _ (by kernel_rfl) (by kernel_rfl)))) (.nil))) (by kernel_rfl) trivial, trivial⟩⟩ ?_
                refine AX.seq ?_
                refine AX.seq ?_
                obtain ⟨x17, e24, h⟩ := bd_e h
                refine AX.reg (its := [.auto {}, .auto {}, .call 51 [.sl 7 0 x16.length, .sl 2 0 x5.length] (handO (rho ([] ++ [])) [] [] ++ [(7, .arr 1 (List.map enc_s x16)), (2, .arr 1 (List.map enc_s x5))]) (callEv [] [] (.v (.bool x17)) [])]) [8, 10, 65] [5] (s1 := ⟨[(8, .sl 5 0 x7.length), (10, .v (.int .i64 x13.1)), (65, .v (.bool (!x17)))], [(5, .arr 1 (List.map enc_s x13.2))]⟩) (C := ((([.sl 7 0 x16.length, .sl 2 0 x5.length] : List AV) = [.sl 7 0 x16.length, .sl 2 0 x5.length]) ∧ (AO.arr 1 (List.map enc_s x16) = AO.arr 1 (List.map enc_s x16)) ∧ (AO.arr 1 (List.map enc_s x5) = AO.arr 1 (List.map enc_s x5)) ∧ True) ∧ True) (by kernel_rfl) ⟨⟨rfl, rfl, rfl, trivial⟩, trivial⟩ ⟨call_ok (ks := []) (ns := []) (bor := [7, 2]) (bobjs := [(7, .arr 1 (List.map enc_s x16)), (2, .arr 1 (List.map enc_s x5))]) (s_laws_eqStringS x16 x5 x17 e24) (.cons (.c1 (.c0 (.arr rfl rfl ((rfl).trans (List.length_map ..).symm)))) (.cons (.c1 (.c0 (.arr rfl rfl ((rfl).trans (List.length_map ..).symm)))) (.nil))) (by kernel_rfl) trivial, trivial⟩ ?_
                rcases bool_cases ((!x17)) with b25 | b25
                · replace h := cd_t b25 h
                  refine AX.condT ((!x17)) (by kernel_rfl) b25 ?_
                  refine AX.seq ?_
                  refine AX.reg (its := []) [4] [] (s1 := ⟨[(4, .v (.bool false))], []⟩) (C := True) (by kernel_rfl) trivial trivial ?_
                  refine AX.ret ?_
                  refine fin_wk (Wk.forget [4] [] (s' := ⟨[(4, .v (.bool false))], []⟩) (by kernel_rfl)) ?_
                  have hr := Option.some.inj h
                  subst hr
                  exact ⟨_, Wk.refl _, .inr rfl, ⟨[], by kernel_rfl, trivial, [.v (.bool false)], by kernel_rfl, by kernel_rfl⟩⟩
                · replace h := cd_f b25 h
                  refine AX.condF ((!x17)) (by kernel_rfl) b25 ?_
                  refine AX.skip ?_
                  refine AX.seq ?_
                  refine AX.reg (its := []) [8, 10, 11] [5] (s1 := ⟨[(8, .sl 5 0 x7.length), (10, .v (.int .i64 x13.1)), (11, .v (.int .i64 1))], [(5, .arr 1 (List.map enc_s x13.2))]⟩) (C := True) (by kernel_rfl) trivial trivial ?_
                  refine AX.seq ?_
                  obtain ⟨x18, e26, h⟩ := bd_e h
                  refine AX.reg (its := [.auto {}, .auto {}, .call 55 [.sl 5 0 x7.length, .v (.int .i64 1)] (handO (rho ([] ++ [])) [] [] ++ [(5, .arr 1 (List.map enc_s x13.2))]) (callEv [] [] (.v (.int .i64 x18)) [])]) [10, 11] [] (s1 := ⟨[(10, .v (.int .i64 x13.1)), (11, .v (.int .i64 x18))], []⟩) (C := ((([.sl 5 0 x7.length, .v (.int .i64 1)] : List AV) = [.sl 5 0 x7.length, .v (.int .i64 1)]) ∧ (AO.arr 1 (List.map enc_s x13.2) = AO.arr 1 (List.map enc_s x13.2)) ∧ True) ∧ True) (by kernel_rfl) ⟨⟨rfl, rfl, trivial⟩, trivial⟩ ⟨call_ok (ks := []) (ns := []) (bor := [5]) (bobjs := [(5, .arr 1 (List.map enc_s x13.2))]) (s_laws_heldStringS x13.2 1 x18 e26) (.cons (.c1 (.c0 (.arr rfl rfl ((((rfl : x7.length = x7.length)).trans (g18).symm).trans (List.length_map ..).symm)))) (.cons (.c1 (.c0 (.same _ (by kernel_rfl) (by kernel_rfl)))) (.nil))) (by kernel_rfl) trivial, trivial⟩ ?_
                  refine AX.seq ?_
                  refine AX.seq ?_
                  refine AX.reg (its := []) [10, 11, 70] [] (s1 := ⟨[(10, .v (.int .i64 x13.1)), (11, .v (.int .i64 x18)), (70, .v (.bool (decide (x18 < 0))))], []⟩) (C := True) (by kernel_rfl) trivial trivial ?_
                  rcases bool_cases (decide (x18 < 0)) with b27 | b27
                  · replace h := cd_t b27 h
                    refine AX.condT (decide (x18 < 0)) (by kernel_rfl) b27 ?_
                    refine AX.seq ?_
                    refine AX.reg (its := []) [4] [] (s1 := ⟨[(4, .v (.bool false))], []⟩) (C := True) (by kernel_rfl) trivial trivial ?_
                    refine AX.ret ?_
                    refine fin_wk (Wk.forget [4] [] (s' := ⟨[(4, .v (.bool false))], []⟩) (by kernel_rfl)) ?_
                    have hr := Option.some.inj h
                    subst hr
                    exact ⟨_, Wk.refl _, .inr rfl, ⟨[], by kernel_rfl, trivial, [.v (.bool false)], by kernel_rfl, by kernel_rfl⟩⟩
                  · replace h := cd_f b27 h
                    refine AX.condF (decide (x18 < 0)) (by kernel_rfl) b27 ?_
                    refine AX.skip ?_
                    refine AX.seq ?_
                    refine AX.seq ?_
                    refine AX.reg (its := []) [73] [] (s1 := ⟨[(73, .v (.bool (!decide (x18 = x13.1))))], []⟩) (C := True) (by kernel_rfl) trivial trivial ?_
                    rcases bool_cases ((!decide (x18 = x13.1))) with b28 | b28
                    · replace h := cd_t b28 h
                      refine AX.condT ((!decide (x18 = x13.1))) (by kernel_rfl) b28 ?_
                      refine AX.seq ?_
                      refine AX.reg (its := []) [4] [] (s1 := ⟨[(4, .v (.bool false))], []⟩) (C := True) (by kernel_rfl) trivial trivial ?_
                      refine AX.ret ?_
                      refine fin_wk (Wk.forget [4] [] (s' := ⟨[(4, .v (.bool false))], []⟩) (by kernel_rfl)) ?_
                      have hr := Option.some.inj h
                      subst hr
                      exact ⟨_, Wk.refl _, .inr rfl, ⟨[], by kernel_rfl, trivial, [.v (.bool false)], by kernel_rfl, by kernel_rfl⟩⟩
                    · replace h := cd_f b28 h
                      refine AX.condF ((!decide (x18 = x13.1))) (by kernel_rfl) b28 ?_
                      refine AX.skip ?_
                      refine AX.seq ?_
                      refine AX.reg (its := []) [4] [] (s1 := ⟨[(4, .v (.bool true))], []⟩) (C := True) (by kernel_rfl) trivial trivial ?_
                      refine AX.ret ?_
                      refine fin_wk (Wk.forget [4] [] (s' := ⟨[(4, .v (.bool true))], []⟩) (by kernel_rfl)) ?_
                      have hr := Option.some.inj h
                      subst hr
                      exact ⟨_, Wk.refl _, .inr rfl, ⟨[], by kernel_rfl, trivial, [.v (.bool true)], by kernel_rfl, by kernel_rfl⟩⟩

end Go.Eng
