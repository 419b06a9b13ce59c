/- What is proved here: each function keeps to its model, whatever its arguments, wherever the model has an answer. Printed by gen.py. -/
import Derived.Test.YtlbdbciodednhaaGreatDoorCParseEnumModels
import Derived.Test.YtlbdbciodednhaaGreatDoorProg
import Derived.Test.YtlbdbciodednhaaGreatDoorCParseEnumShelf
import Derived.KernelRfl
set_option linter.unusedVariables false
set_option linter.unusedSimpArgs false
set_option linter.unnecessarySimpa false
namespace Go.Eng
open Go Go.Proofs

theorem mixed : Tryz.prog.follows .mixedOrders = true := by kernel_rfl

theorem s_spec_newReader (p1 : List (Int)) (r : List (Int)) (h : m_spec_newReader p1 = some r) :
    Eng.Spec Tryz.prog 12 [.bs true 1 (List.map enc_y p1)] [] (.pt 0 0) [.box [.bs true 1 (List.map enc_y r), .v (.int .i64 0)]] := by
  unfold m_spec_newReader at h
  refine Eng.Spec.body Tryz.func12 (by kernel_rfl) rfl (by kernel_rfl) ?_
  refine AX.wkpost ?_
  refine AX.seq ?_
  refine AX.reg (its := []) [0] [] (s1 := ⟨[(0, .bs true 1 (List.map enc_y p1))], []⟩) (C := True) (by kernel_rfl) trivial trivial ?_
  refine AX.seq ?_
  refine AX.seq ?_
  refine AX.reg (its := [.auto {}, .auto { y := some (.v (.int .i64 (p1.length : Int))) }]) [0, 5] [] (s1 := ⟨[(0, .bs true 1 (List.map enc_y p1)), (5, .v (.bool (decide (2000 < (p1.length : Int)))))], []⟩) (C := (True ∧ (AV.v (.int .i64 ((List.map enc_y p1).length : Int)) = AV.v (.int .i64 (p1.length : Int)))) ∧ True) (by kernel_rfl) ⟨⟨trivial, len_map enc_y p1⟩, trivial⟩ trivial ?_
  rcases bool_cases (decide (2000 < (p1.length : Int))) with b1 | b1
  · replace h := cd_t b1 h
    refine AX.condT (decide (2000 < (p1.length : Int))) (by kernel_rfl) b1 ?_
    obtain ⟨g2, h⟩ := gd_e h
    refine AX.reg (its := [.auto {}, .auto { y := some (.bs true 1 (List.map enc_y (sub p1 (0 : Int) (2000 : Int)))) }]) [0] [] (s1 := ⟨[(0, .bs true 1 (List.map enc_y (sub p1 (0 : Int) (2000 : Int))))], []⟩) (C := ((0 ≤ (0 : Int) ∧ (0 : Int) ≤ (2000 : Int) ∧ (2000 : Int) ≤ ((List.map enc_y p1).length : Int) ∧ ((List.map enc_y p1).length : Int) ≤ ((List.map enc_y p1).length : Int)) ∧ (AV.bs true 1 (((List.map enc_y p1).drop (0 : Int).toNat).take ((2000 : Int).toNat - (0 : Int).toNat)) = (.bs true 1 (List.map enc_y (sub p1 (0 : Int) (2000 : Int))) : AV))) ∧ True) (by kernel_rfl) ⟨⟨by first | exact g2 | simpa only [List.length_map] using g2, by first | exact sub_can enc_y p1 (0 : Int) (2000 : Int) true 1 | (simp only [List.length_map]; exact sub_can enc_y p1 (0 : Int) (2000 : Int) true 1)⟩, trivial⟩ trivial ?_
    refine AX.seq ?_
    refine AX.reg (its := [.auto {}, .auto {}, .auto { nk := 0 }]) [2] [0] (s1 := ⟨[(2, .pt 0 0)], [(0, .box [.bs true 1 (List.map enc_y (sub p1 (0 : Int) (2000 : Int))), .v (.int .i64 0)])]⟩) (C := True) (by kernel_rfl) trivial trivial ?_
    refine AX.ret ?_
    refine fin_wk (Wk.forget [2] [0] (s' := ⟨[(2, .pt 0 0)], [(0, .box [.bs true 1 (List.map enc_y (sub p1 (0 : Int) (2000 : Int))), .v (.int .i64 0)])]⟩) (by kernel_rfl)) ?_
    have hr := Option.some.inj h
    subst hr
    exact ⟨_, Wk.refl _, .inr rfl, ⟨[0], by kernel_rfl, ⟨rfl, trivial⟩, [.pt 0 0], by kernel_rfl, by kernel_rfl⟩⟩
  · replace h := cd_f b1 h
    refine AX.condF (decide (2000 < (p1.length : Int))) (by kernel_rfl) b1 ?_
    refine AX.skip ?_
    refine AX.seq ?_
    refine AX.reg (its := [.auto {}, .auto {}, .auto { nk := 0 }]) [2] [0] (s1 := ⟨[(2, .pt 0 0)], [(0, .box [.bs true 1 (List.map enc_y p1), .v (.int .i64 0)])]⟩) (C := True) (by kernel_rfl) trivial trivial ?_
    refine AX.ret ?_
    refine fin_wk (Wk.forget [2] [0] (s' := ⟨[(2, .pt 0 0)], [(0, .box [.bs true 1 (List.map enc_y p1), .v (.int .i64 0)])]⟩) (by kernel_rfl)) ?_
    have hr := Option.some.inj h
    subst hr
    exact ⟨_, Wk.refl _, .inr rfl, ⟨[0], by kernel_rfl, ⟨rfl, trivial⟩, [.pt 0 0], by kernel_rfl, by kernel_rfl⟩⟩

theorem s_spec_reader_pick (p1 : Int) (p2 : List (Int)) (p3 : Int) (r : Int) (h : m_spec_reader_pick p1 p2 p3 = some r) :
    Eng.Spec Tryz.prog 15 [.pt 0 0, .v (.int .i64 p1)] [.box [.bs true 1 (List.map enc_y p2), .v (.int .i64 p3)]] (.v (.int .i64 r)) [.box [.bs true 1 (List.map enc_y p2), .v (.int .i64 (IntKind.wrap .i64 (p3 + 1)))]] := by
  unfold m_spec_reader_pick at h
  refine Eng.Spec.body Tryz.func15 (by kernel_rfl) rfl (by kernel_rfl) ?_
  refine AX.wkpost ?_
  refine AX.seq ?_
  refine AX.reg (its := []) [0, 1] [0] (s1 := ⟨[(0, .pt 0 0), (1, .v (.int .i64 p1))], [(0, .box [.bs true 1 (List.map enc_y p2), .v (.int .i64 p3)])]⟩) (C := True) (by kernel_rfl) trivial trivial ?_
  refine AX.seq ?_
  refine AX.reg (its := [.auto {}, .auto {}, .auto {}, .auto {}, .auto {}, .auto { raw := true }]) [0, 1] [0] (s1 := ⟨[(0, .pt 0 0), (1, .v (.int .i64 p1))], [(0, .box [.bs true 1 (List.map enc_y p2), .v (.int .i64 (IntKind.wrap .i64 (p3 + 1)))])]⟩) (C := True) (by kernel_rfl) trivial trivial ?_
  refine AX.seq ?_
  refine AX.seq ?_
  rcases bool_cases (decide (p1 < 1)) with b1 | b1
  · replace h := cd_t b1 h
    refine AX.reg (its := [.auto {}, .auto { y := some (.v (.bool true)) }]) [0, 1, 24] [0] (s1 := ⟨[(0, .pt 0 0), (1, .v (.int .i64 p1)), (24, .v (.bool true))], [(0, .box [.bs true 1 (List.map enc_y p2), .v (.int .i64 (IntKind.wrap .i64 (p3 + 1)))])]⟩) (C := ((True) ∧ ((.v (.bool (decide (p1 < 1))) : AV) = (.v (.bool true) : AV))) ∧ True) (by kernel_rfl) ⟨⟨trivial, (congrArg (fun z => AV.v (.bool z)) b1)⟩, trivial⟩ trivial ?_
    refine AX.cond_true (by kernel_rfl) ?_
    refine AX.seq ?_
    refine AX.reg (its := []) [4] [0] (s1 := ⟨[(4, .v (.int .i64 0))], [(0, .box [.bs true 1 (List.map enc_y p2), .v (.int .i64 (IntKind.wrap .i64 (p3 + 1)))])]⟩) (C := True) (by kernel_rfl) trivial trivial ?_
    refine AX.ret ?_
    refine fin_wk (Wk.forget [4] [0] (s' := ⟨[(4, .v (.int .i64 0))], [(0, .box [.bs true 1 (List.map enc_y p2), .v (.int .i64 (IntKind.wrap .i64 (p3 + 1)))])]⟩) (by kernel_rfl)) ?_
    have hr := Option.some.inj h
    subst hr
    exact ⟨_, Wk.refl _, .inr rfl, ⟨[], by kernel_rfl, ⟨rfl, trivial⟩, [.v (.int .i64 0)], by kernel_rfl, by kernel_rfl⟩⟩
  · replace h := cd_f b1 h
    refine AX.reg (its := [.auto {}, .auto { y := some (.v (.bool false)) }, .auto {}, .auto {}, .auto {}, .auto {}, .auto {}, .auto { y := some (.v (.int .i64 (p2.length : Int))) }]) [0, 1, 24] [0] (s1 := ⟨[(0, .pt 0 0), (1, .v (.int .i64 p1)), (24, .v (.bool (decide ((p2.length : Int) = 0))))], [(0, .box [.bs true 1 (List.map enc_y p2), .v (.int .i64 (IntKind.wrap .i64 (p3 + 1)))])]⟩) (C := ((True) ∧ ((.v (.bool (decide (p1 < 1))) : AV) = (.v (.bool false) : AV))) ∧ (True ∧ (AV.v (.int .i64 ((List.map enc_y p2).length : Int)) = AV.v (.int .i64 (p2.length : Int)))) ∧ True) (by kernel_rfl) ⟨⟨trivial, (congrArg (fun z => AV.v (.bool z)) b1)⟩, ⟨⟨trivial, len_map enc_y p2⟩, trivial⟩⟩ trivial ?_
    rcases bool_cases (decide ((p2.length : Int) = 0)) with b2 | b2
    · replace h := cd_t b2 h
      refine AX.condT (decide ((p2.length : Int) = 0)) (by kernel_rfl) b2 ?_
      refine AX.seq ?_
      refine AX.reg (its := []) [4] [0] (s1 := ⟨[(4, .v (.int .i64 0))], [(0, .box [.bs true 1 (List.map enc_y p2), .v (.int .i64 (IntKind.wrap .i64 (p3 + 1)))])]⟩) (C := True) (by kernel_rfl) trivial trivial ?_
      refine AX.ret ?_
      refine fin_wk (Wk.forget [4] [0] (s' := ⟨[(4, .v (.int .i64 0))], [(0, .box [.bs true 1 (List.map enc_y p2), .v (.int .i64 (IntKind.wrap .i64 (p3 + 1)))])]⟩) (by kernel_rfl)) ?_
      have hr := Option.some.inj h
      subst hr
      exact ⟨_, Wk.refl _, .inr rfl, ⟨[], by kernel_rfl, ⟨rfl, trivial⟩, [.v (.int .i64 0)], by kernel_rfl, by kernel_rfl⟩⟩
    · replace h := cd_f b2 h
      refine AX.condF (decide ((p2.length : Int) = 0)) (by kernel_rfl) b2 ?_
      refine AX.skip ?_
      refine AX.seq ?_
      refine AX.reg (its := [.auto {}, .auto {}, .auto {}, .auto {}, .auto { raw := true }]) [0, 1, 5] [0] (s1 := ⟨[(0, .pt 0 0), (1, .v (.int .i64 p1)), (5, .v (.int .i64 (IntKind.wrap .i64 ((IntKind.wrap .i64 (p3 + 1)) - 1))))], [(0, .box [.bs true 1 (List.map enc_y p2), .v (.int .i64 (IntKind.wrap .i64 (p3 + 1)))])]⟩) (C := True) (by kernel_rfl) trivial trivial ?_
      refine AX.seq ?_
      refine AX.seq ?_
      obtain ⟨v4, q3, h⟩ := nm_e h
      refine AX.reg (its := [.auto {}, .auto {}, .auto {}, .auto {}, .auto {}, .auto { y := some (.v (.int .i64 (p2.length : Int))) }, .auto { y := some (.v (.bool v4)) }]) [0, 1, 5, 36] [0] (s1 := ⟨[(0, .pt 0 0), (1, .v (.int .i64 p1)), (5, .v (.int .i64 (IntKind.wrap .i64 ((IntKind.wrap .i64 (p3 + 1)) - 1)))), (36, .v (.bool v4))], [(0, .box [.bs true 1 (List.map enc_y p2), .v (.int .i64 (IntKind.wrap .i64 (p3 + 1)))])]⟩) (C := (True ∧ (AV.v (.int .i64 ((List.map enc_y p2).length : Int)) = AV.v (.int .i64 (p2.length : Int)))) ∧ ((True) ∧ ((.v (.bool (decide ((IntKind.wrap .i64 ((IntKind.wrap .i64 (p3 + 1)) - 1)) < (p2.length : Int)))) : AV) = (.v (.bool v4) : AV))) ∧ True) (by kernel_rfl) ⟨⟨trivial, len_map enc_y p2⟩, ⟨⟨trivial, (congrArg (fun z => AV.v (.bool z)) q3)⟩, trivial⟩⟩ trivial ?_
      rcases bool_cases (v4) with b4 | b4
      · replace h := cd_t b4 h
        refine AX.condT (v4) (by kernel_rfl) b4 ?_
        refine AX.seq ?_
        obtain ⟨g5, h⟩ := gd_e h
        obtain ⟨v5, q6, h⟩ := nm_e h
        obtain ⟨g7, h⟩ := gd_e h
        refine AX.reg (its := [.auto {}, .auto {}, .auto {}, .auto {}, .auto {}, .auto { y := some (.be 1 (enc_y (gt p2 (IntKind.wrap .i64 ((IntKind.wrap .i64 (p3 + 1)) - 1)))) 0) }, .auto { y := some (.v (.int .u8 v5)) }, .auto { raw := true }]) [4] [0] (s1 := ⟨[(4, .v (.int .i64 (Int.tmod (IntKind.wrap .i64 (v5)) p1)))], [(0, .box [.bs true 1 (List.map enc_y p2), .v (.int .i64 (IntKind.wrap .i64 (p3 + 1)))])]⟩) (C := ((0 ≤ (IntKind.wrap .i64 ((IntKind.wrap .i64 (p3 + 1)) - 1)) ∧ (IntKind.wrap .i64 ((IntKind.wrap .i64 (p3 + 1)) - 1)) < ((List.map enc_y p2).length : Int)) ∧ (AV.be 1 ((List.map enc_y p2).getD (IntKind.wrap .i64 ((IntKind.wrap .i64 (p3 + 1)) - 1)).toNat []) 0 = AV.be 1 (enc_y (gt p2 (IntKind.wrap .i64 ((IntKind.wrap .i64 (p3 + 1)) - 1)))) 0)) ∧ ((True) ∧ ((.v (.int .u8 (gt p2 (IntKind.wrap .i64 ((IntKind.wrap .i64 (p3 + 1)) - 1)))) : AV) = (.v (.int .u8 v5) : AV))) ∧ (p1 ≠ 0) ∧ True) (by kernel_rfl) ⟨idx_bs enc_y p2 (IntKind.wrap .i64 ((IntKind.wrap .i64 (p3 + 1)) - 1)) 1 g5, ⟨⟨trivial, (congrArg (fun z => AV.v (.int .u8 z)) q6)⟩, ⟨g7, trivial⟩⟩⟩ trivial ?_
        refine AX.ret ?_
        refine fin_wk (Wk.forget [4] [0] (s' := ⟨[(4, .v (.int .i64 (Int.tmod (IntKind.wrap .i64 (v5)) p1)))], [(0, .box [.bs true 1 (List.map enc_y p2), .v (.int .i64 (IntKind.wrap .i64 (p3 + 1)))])]⟩) (by kernel_rfl)) ?_
        have hr := Option.some.inj h
        subst hr
        exact ⟨_, Wk.refl _, .inr rfl, ⟨[], by kernel_rfl, ⟨rfl, trivial⟩, [.v (.int .i64 (Int.tmod (IntKind.wrap .i64 (v5)) p1))], by kernel_rfl, by kernel_rfl⟩⟩
      · replace h := cd_f b4 h
        refine AX.condF (v4) (by kernel_rfl) b4 ?_
        refine AX.skip ?_
        refine AX.seq ?_
        obtain ⟨g8, h⟩ := gd_e h
        obtain ⟨v6, q9, h⟩ := nm_e h
        obtain ⟨g10, h⟩ := gd_e h
        obtain ⟨v7, q11, h⟩ := nm_e h
        obtain ⟨g12, h⟩ := gd_e h
        obtain ⟨v8, q13, h⟩ := nm_e h
        obtain ⟨v9, q14, h⟩ := nm_e h
        obtain ⟨v10, q15, h⟩ := nm_e h
        obtain ⟨g16, h⟩ := gd_e h
        obtain ⟨v11, q17, h⟩ := nm_e h
        obtain ⟨v12, q18, h⟩ := nm_e h
        refine AX.drw mixed (its := (.auto {} :: .auto {} :: .auto {} :: .auto {} :: .auto {} :: .auto {} :: .auto {} :: .auto {} :: .auto {} :: .auto { y := some (.v (.int .i64 (p2.length : Int))) } :: .auto { y := some (.v (.int .i64 v6)) } :: .auto { y := some (.be 1 (enc_y (gt p2 v6)) 0) } :: .auto {} :: .auto { raw := true } :: .auto { raw := true } :: .auto {} :: .auto {} :: .auto {} :: .auto {} :: .auto {} :: .auto { y := some (.v (.int .i64 v7)), raw := true } :: .auto { raw := true } :: .auto {} :: .auto {} :: .auto {} :: .auto {} :: .auto { y := some (.v (.int .i64 (p2.length : Int))) } :: .auto {} :: .auto { y := some (.be 1 (enc_y (gt p2 (Int.tmod (IntKind.wrap .i64 (v7 + 3)) (p2.length : Int)))) 0) } :: .auto { y := some (.v (.int .u8 v8)) } :: .auto { raw := true } :: .auto { raw := true } :: .auto { y := some (.v (.int .i64 v9)), raw := true } :: .auto {} :: .auto { y := some (.v (.int .i64 v10)), raw := true } :: .auto { raw := true } :: .auto {} :: .auto {} :: .auto {} :: .auto {} :: .auto {} :: .auto { y := some (.v (.int .i64 (p2.length : Int))) } :: .auto { y := some (.v (.int .i64 v11)) } :: .auto { raw := true } :: .auto { y := some (.v (.int .i64 v12)), raw := true } :: [])) [1, 6] [0] (s1 := ⟨[(1, .v (.int .i64 p1)), (6, .v (.int .i64 v12))], [(0, .box [.bs true 1 (List.map enc_y p2), .v (.int .i64 (IntKind.wrap .i64 (p3 + 1)))])]⟩) (C := (True ∧ (AV.v (.int .i64 ((List.map enc_y p2).length : Int)) = AV.v (.int .i64 (p2.length : Int)))) ∧ (((p2.length : Int) ≠ 0) ∧ ((.v (.int .i64 (Int.tmod (IntKind.wrap .i64 ((IntKind.wrap .i64 (p3 + 1)) - 1)) (p2.length : Int))) : AV) = (.v (.int .i64 v6) : AV))) ∧ ((0 ≤ v6 ∧ v6 < ((List.map enc_y p2).length : Int)) ∧ (AV.be 1 ((List.map enc_y p2).getD v6.toNat []) 0 = AV.be 1 (enc_y (gt p2 v6)) 0)) ∧ ((True) ∧ ((.v (.int .i64 (IntKind.wrap .i64 ((IntKind.wrap .i64 ((IntKind.wrap .i64 (p3 + 1)) - 1)) * 7))) : AV) = (.v (.int .i64 v7) : AV))) ∧ (True ∧ (AV.v (.int .i64 ((List.map enc_y p2).length : Int)) = AV.v (.int .i64 (p2.length : Int)))) ∧ ((p2.length : Int) ≠ 0) ∧ ((0 ≤ (Int.tmod (IntKind.wrap .i64 (v7 + 3)) (p2.length : Int)) ∧ (Int.tmod (IntKind.wrap .i64 (v7 + 3)) (p2.length : Int)) < ((List.map enc_y p2).length : Int)) ∧ (AV.be 1 ((List.map enc_y p2).getD (Int.tmod (IntKind.wrap .i64 (v7 + 3)) (p2.length : Int)).toNat []) 0 = AV.be 1 (enc_y (gt p2 (Int.tmod (IntKind.wrap .i64 (v7 + 3)) (p2.length : Int)))) 0)) ∧ ((True) ∧ ((.v (.int .u8 (gt p2 (Int.tmod (IntKind.wrap .i64 (v7 + 3)) (p2.length : Int)))) : AV) = (.v (.int .u8 v8) : AV))) ∧ ((True) ∧ ((.v (.int .i64 (IntKind.wrap .i64 ((IntKind.wrap .i64 ((IntKind.wrap .i64 ((gt p2 v6))) * 131)) + (IntKind.wrap .i64 ((IntKind.wrap .i64 (v8)) * 1117))))) : AV) = (.v (.int .i64 v9) : AV))) ∧ ((True) ∧ ((.v (.int .i64 (IntKind.wrap .i64 ((IntKind.wrap .i64 ((IntKind.wrap .i64 (p3 + 1)) - 1)) * 29))) : AV) = (.v (.int .i64 v10) : AV))) ∧ (True ∧ (AV.v (.int .i64 ((List.map enc_y p2).length : Int)) = AV.v (.int .i64 (p2.length : Int)))) ∧ (((p2.length : Int) ≠ 0 ∧ IntKind.wrap .i64 (Int.tdiv (IntKind.wrap .i64 ((IntKind.wrap .i64 (p3 + 1)) - 1)) (p2.length : Int)) = Int.tdiv (IntKind.wrap .i64 ((IntKind.wrap .i64 (p3 + 1)) - 1)) (p2.length : Int)) ∧ ((.v (.int .i64 (Int.tdiv (IntKind.wrap .i64 ((IntKind.wrap .i64 (p3 + 1)) - 1)) (p2.length : Int))) : AV) = (.v (.int .i64 v11) : AV))) ∧ ((True) ∧ ((.v (.int .i64 (IntKind.wrap .i64 ((IntKind.wrap .i64 (v9 + v10)) + (IntKind.wrap .i64 (v11 * 53))))) : AV) = (.v (.int .i64 v12) : AV))) ∧ True) (by kernel_rfl) ⟨⟨trivial, len_map enc_y p2⟩, ⟨⟨g8, (congrArg (fun z => AV.v (.int .i64 z)) q9)⟩, ⟨idx_bs enc_y p2 v6 1 g10, ⟨⟨trivial, (congrArg (fun z => AV.v (.int .i64 z)) q11)⟩, ⟨⟨trivial, len_map enc_y p2⟩, ⟨g8, ⟨idx_bs enc_y p2 (Int.tmod (IntKind.wrap .i64 (v7 + 3)) (p2.length : Int)) 1 g12, ⟨⟨trivial, (congrArg (fun z => AV.v (.int .u8 z)) q13)⟩, ⟨⟨trivial, (congrArg (fun z => AV.v (.int .i64 z)) q14)⟩, ⟨⟨trivial, (congrArg (fun z => AV.v (.int .i64 z)) q15)⟩, ⟨⟨trivial, len_map enc_y p2⟩, ⟨⟨g16, (congrArg (fun z => AV.v (.int .i64 z)) q17)⟩, ⟨⟨trivial, (congrArg (fun z => AV.v (.int .i64 z)) q18)⟩, trivial⟩⟩⟩⟩⟩⟩⟩⟩⟩⟩⟩⟩⟩ trivial ?_
        refine AX.seq ?_
        obtain ⟨g19, h⟩ := gd_e h
        refine AX.reg (its := []) [1, 6] [0] (s1 := ⟨[(1, .v (.int .i64 p1)), (6, .v (.int .i64 (Go.bits .xor .i64 v12 (Int.tdiv v12 64))))], [(0, .box [.bs true 1 (List.map enc_y p2), .v (.int .i64 (IntKind.wrap .i64 (p3 + 1)))])]⟩) (C := ((64 : Int) ≠ 0 ∧ IntKind.wrap .i64 (Int.tdiv v12 64) = Int.tdiv v12 64) ∧ True) (by kernel_rfl) ⟨g19, trivial⟩ trivial ?_
        refine AX.seq ?_
        obtain ⟨g20, h⟩ := gd_e h
        refine AX.reg (its := []) [4] [0] (s1 := ⟨[(4, .v (.int .i64 (Int.tmod (Go.bits .xor .i64 v12 (Int.tdiv v12 64)) p1)))], [(0, .box [.bs true 1 (List.map enc_y p2), .v (.int .i64 (IntKind.wrap .i64 (p3 + 1)))])]⟩) (C := (p1 ≠ 0) ∧ True) (by kernel_rfl) ⟨g20, trivial⟩ trivial ?_
        refine AX.ret ?_
        refine fin_wk (Wk.forget [4] [0] (s' := ⟨[(4, .v (.int .i64 (Int.tmod (Go.bits .xor .i64 v12 (Int.tdiv v12 64)) p1)))], [(0, .box [.bs true 1 (List.map enc_y p2), .v (.int .i64 (IntKind.wrap .i64 (p3 + 1)))])]⟩) (by kernel_rfl)) ?_
        have hr := Option.some.inj h
        subst hr
        exact ⟨_, Wk.refl _, .inr rfl, ⟨[], by kernel_rfl, ⟨rfl, trivial⟩, [.v (.int .i64 (Int.tmod (Go.bits .xor .i64 v12 (Int.tdiv v12 64)) p1))], by kernel_rfl, by kernel_rfl⟩⟩

theorem s_spec_reader_one (p1 : List (Int)) (p2 : List (Int)) (p3 : Int) (r : Int) (h : m_spec_reader_one p1 p2 p3 = some r) :
    Eng.Spec Tryz.prog 30 [.pt 0 0, .bs false 1 (List.map enc_i p1)] [.box [.bs true 1 (List.map enc_y p2), .v (.int .i64 p3)]] (.v (.int .i64 r)) [.box [.bs true 1 (List.map enc_y p2), .v (.int .i64 (IntKind.wrap .i64 (p3 + 1)))]] := by
  unfold m_spec_reader_one at h
  refine Eng.Spec.body Tryz.func30 (by kernel_rfl) rfl (by kernel_rfl) ?_
  refine AX.wkpost ?_
  refine AX.seq ?_
  refine AX.reg (its := []) [0, 1] [0] (s1 := ⟨[(0, .pt 0 0), (1, .bs false 1 (List.map enc_i p1))], [(0, .box [.bs true 1 (List.map enc_y p2), .v (.int .i64 p3)])]⟩) (C := True) (by kernel_rfl) trivial trivial ?_
  refine AX.seq ?_
  obtain ⟨x4, e1, h⟩ := bd_e h
  obtain ⟨g2, h⟩ := gd_e h
  refine AX.reg (its := [.auto {}, .auto {}, .auto {}, .auto { y := some (.v (.int .i64 (p1.length : Int))) }, .call 15 [.pt 0 0, .v (.int .i64 (p1.length : Int))] (handO (rho ([0] ++ [])) [0] [.box [.bs true 1 (List.map enc_y p2), .v (.int .i64 p3)]] ++ []) (callEv [0] [] (.v (.int .i64 x4)) [.box [.bs true 1 (List.map enc_y p2), .v (.int .i64 (IntKind.wrap .i64 (p3 + 1)))]]), .auto { y := some (.be 1 (enc_i (gt p1 x4)) 0) }]) [4] [0] (s1 := ⟨[(4, .v (.int .i64 (gt p1 x4)))], [(0, .box [.bs true 1 (List.map enc_y p2), .v (.int .i64 (IntKind.wrap .i64 (p3 + 1)))])]⟩) (C := (True ∧ (AV.v (.int .i64 ((List.map enc_i p1).length : Int)) = AV.v (.int .i64 (p1.length : Int)))) ∧ ((([.pt 0 0, .v (.int .i64 (p1.length : Int))] : List AV) = [.pt 0 0, .v (.int .i64 (p1.length : Int))]) ∧ (AO.box [.bs true 1 (List.map enc_y p2), .v (.int .i64 p3)] = AO.box [.bs true 1 (List.map enc_y p2), .v (.int .i64 p3)]) ∧ True) ∧ ((0 ≤ x4 ∧ x4 < ((List.map enc_i p1).length : Int)) ∧ (AV.be 1 ((List.map enc_i p1).getD x4.toNat []) 0 = AV.be 1 (enc_i (gt p1 x4)) 0)) ∧ True) (by kernel_rfl) ⟨⟨trivial, len_map enc_i p1⟩, ⟨⟨rfl, rfl, trivial⟩, ⟨idx_bs enc_i p1 x4 1 g2, trivial⟩⟩⟩ ⟨call_ok (ks := [0]) (ns := []) (bor := []) (bobjs := []) (s_spec_reader_pick (p1.length : Int) p2 p3 x4 e1) (.cons (.c1 (.c0 (.same _ (by kernel_rfl) (by kernel_rfl)))) (.cons (.c1 (.c0 (.same _ (by kernel_rfl) (by kernel_rfl)))) (.nil))) (by kernel_rfl) ⟨.inr rfl, trivial⟩, trivial⟩ ?_
  refine AX.ret ?_
  refine fin_wk (Wk.forget [4] [0] (s' := ⟨[(4, .v (.int .i64 (gt p1 x4)))], [(0, .box [.bs true 1 (List.map enc_y p2), .v (.int .i64 (IntKind.wrap .i64 (p3 + 1)))])]⟩) (by kernel_rfl)) ?_
  have hr := Option.some.inj h
  subst hr
  exact ⟨_, Wk.refl _, .inr rfl, ⟨[], by kernel_rfl, ⟨rfl, trivial⟩, [.v (.int .i64 (gt p1 x4))], by kernel_rfl, by kernel_rfl⟩⟩

theorem s_spec_reader_of (p1 : List (ByteArray)) (p2 : List (Int)) (p3 : Int) (r : ByteArray) (h : m_spec_reader_of p1 p2 p3 = some r) :
    Eng.Spec Tryz.prog 31 [.pt 0 0, .bs false 1 (List.map enc_s p1)] [.box [.bs true 1 (List.map enc_y p2), .v (.int .i64 p3)]] (.v (.string r)) [.box [.bs true 1 (List.map enc_y p2), .v (.int .i64 (IntKind.wrap .i64 (p3 + 1)))]] := by
  unfold m_spec_reader_of at h
  refine Eng.Spec.body Tryz.func31 (by kernel_rfl) rfl (by kernel_rfl) ?_
  refine AX.wkpost ?_
  refine AX.seq ?_
  refine AX.reg (its := []) [0, 1] [0] (s1 := ⟨[(0, .pt 0 0), (1, .bs false 1 (List.map enc_s p1))], [(0, .box [.bs true 1 (List.map enc_y p2), .v (.int .i64 p3)])]⟩) (C := True) (by kernel_rfl) trivial trivial ?_
  refine AX.seq ?_
  obtain ⟨x4, e1, h⟩ := bd_e h
  obtain ⟨g2, h⟩ := gd_e h
  refine AX.reg (its := [.auto {}, .auto {}, .auto {}, .auto { y := some (.v (.int .i64 (p1.length : Int))) }, .call 15 [.pt 0 0, .v (.int .i64 (p1.length : Int))] (handO (rho ([0] ++ [])) [0] [.box [.bs true 1 (List.map enc_y p2), .v (.int .i64 p3)]] ++ []) (callEv [0] [] (.v (.int .i64 x4)) [.box [.bs true 1 (List.map enc_y p2), .v (.int .i64 (IntKind.wrap .i64 (p3 + 1)))]]), .auto { y := some (.be 1 (enc_s (gt p1 x4)) 0) }]) [4] [0] (s1 := ⟨[(4, .v (.string (gt p1 x4)))], [(0, .box [.bs true 1 (List.map enc_y p2), .v (.int .i64 (IntKind.wrap .i64 (p3 + 1)))])]⟩) (C := (True ∧ (AV.v (.int .i64 ((List.map enc_s p1).length : Int)) = AV.v (.int .i64 (p1.length : Int)))) ∧ ((([.pt 0 0, .v (.int .i64 (p1.length : Int))] : List AV) = [.pt 0 0, .v (.int .i64 (p1.length : Int))]) ∧ (AO.box [.bs true 1 (List.map enc_y p2), .v (.int .i64 p3)] = AO.box [.bs true 1 (List.map enc_y p2), .v (.int .i64 p3)]) ∧ True) ∧ ((0 ≤ x4 ∧ x4 < ((List.map enc_s p1).length : Int)) ∧ (AV.be 1 ((List.map enc_s p1).getD x4.toNat []) 0 = AV.be 1 (enc_s (gt p1 x4)) 0)) ∧ True) (by kernel_rfl) ⟨⟨trivial, len_map enc_s p1⟩, ⟨⟨rfl, rfl, trivial⟩, ⟨idx_bs enc_s p1 x4 1 g2, trivial⟩⟩⟩ ⟨call_ok (ks := [0]) (ns := []) (bor := []) (bobjs := []) (s_spec_reader_pick (p1.length : Int) p2 p3 x4 e1) (.cons (.c1 (.c0 (.same _ (by kernel_rfl) (by kernel_rfl)))) (.cons (.c1 (.c0 (.same _ (by kernel_rfl) (by kernel_rfl)))) (.nil))) (by kernel_rfl) ⟨.inr rfl, trivial⟩, trivial⟩ ?_
  refine AX.ret ?_
  refine fin_wk (Wk.forget [4] [0] (s' := ⟨[(4, .v (.string (gt p1 x4)))], [(0, .box [.bs true 1 (List.map enc_y p2), .v (.int .i64 (IntKind.wrap .i64 (p3 + 1)))])]⟩) (by kernel_rfl)) ?_
  have hr := Option.some.inj h
  subst hr
  exact ⟨_, Wk.refl _, .inr rfl, ⟨[], by kernel_rfl, ⟨rfl, trivial⟩, [.v (.string (gt p1 x4))], by kernel_rfl, by kernel_rfl⟩⟩

theorem s_spec_aName (p1 : List (Int)) (p2 : Int) (r : ByteArray) (h : m_spec_aName p1 p2 = some r) :
    Eng.Spec Tryz.prog 56 [.pt 0 0] [.box [.bs true 1 (List.map enc_y p1), .v (.int .i64 p2)]] (.v (.string r)) [.box [.bs true 1 (List.map enc_y p1), .v (.int .i64 (IntKind.wrap .i64 (p2 + 1)))]] := by
  unfold m_spec_aName at h
  refine Eng.Spec.body Tryz.func56 (by kernel_rfl) rfl (by kernel_rfl) ?_
  refine AX.wkpost ?_
  refine AX.seq ?_
  refine AX.reg (its := []) [0] [0] (s1 := ⟨[(0, .pt 0 0)], [(0, .box [.bs true 1 (List.map enc_y p1), .v (.int .i64 p2)])]⟩) (C := True) (by kernel_rfl) trivial trivial ?_
  refine AX.seq ?_
  obtain ⟨x3, e1, h⟩ := bd_e h
  refine AX.reg (its := [.auto {}, .auto { nk := 1 }, .call 31 [.pt 0 0, .sl 1 0 (([(ByteArray.mk #[97]), (ByteArray.mk #[98]), (ByteArray.mk #[99]), (ByteArray.mk #[100]), (ByteArray.mk #[101]), (ByteArray.mk #[97, 98]), (ByteArray.mk #[114, 101, 100]), (ByteArray.mk #[98, 108, 117, 101]), (ByteArray.mk #[111, 110]), (ByteArray.mk #[111, 102, 102]), (ByteArray.mk #[97, 108, 108]), (ByteArray.mk #[102])] : List (ByteArray)).length)] (handO (rho ([0] ++ [])) [0] [.box [.bs true 1 (List.map enc_y p1), .v (.int .i64 p2)]] ++ [(1, .arr 1 (List.map enc_s ([(ByteArray.mk #[97]), (ByteArray.mk #[98]), (ByteArray.mk #[99]), (ByteArray.mk #[100]), (ByteArray.mk #[101]), (ByteArray.mk #[97, 98]), (ByteArray.mk #[114, 101, 100]), (ByteArray.mk #[98, 108, 117, 101]), (ByteArray.mk #[111, 110]), (ByteArray.mk #[111, 102, 102]), (ByteArray.mk #[97, 108, 108]), (ByteArray.mk #[102])] : List (ByteArray))))]) (callEv [0] [] (.v (.string x3)) [.box [.bs true 1 (List.map enc_y p1), .v (.int .i64 (IntKind.wrap .i64 (p2 + 1)))]])]) [2] [0] (s1 := ⟨[(2, .v (.string x3))], [(0, .box [.bs true 1 (List.map enc_y p1), .v (.int .i64 (IntKind.wrap .i64 (p2 + 1)))])]⟩) (C := ((([.pt 0 0, .sl 1 0 (([(ByteArray.mk #[97]), (ByteArray.mk #[98]), (ByteArray.mk #[99]), (ByteArray.mk #[100]), (ByteArray.mk #[101]), (ByteArray.mk #[97, 98]), (ByteArray.mk #[114, 101, 100]), (ByteArray.mk #[98, 108, 117, 101]), (ByteArray.mk #[111, 110]), (ByteArray.mk #[111, 102, 102]), (ByteArray.mk #[97, 108, 108]), (ByteArray.mk #[102])] : List (ByteArray)).length)] : List AV) = [.pt 0 0, .sl 1 0 (([(ByteArray.mk #[97]), (ByteArray.mk #[98]), (ByteArray.mk #[99]), (ByteArray.mk #[100]), (ByteArray.mk #[101]), (ByteArray.mk #[97, 98]), (ByteArray.mk #[114, 101, 100]), (ByteArray.mk #[98, 108, 117, 101]), (ByteArray.mk #[111, 110]), (ByteArray.mk #[111, 102, 102]), (ByteArray.mk #[97, 108, 108]), (ByteArray.mk #[102])] : List (ByteArray)).length)]) ∧ (AO.box [.bs true 1 (List.map enc_y p1), .v (.int .i64 p2)] = AO.box [.bs true 1 (List.map enc_y p1), .v (.int .i64 p2)]) ∧ (AO.arr 1 (List.map enc_s ([(ByteArray.mk #[97]), (ByteArray.mk #[98]), (ByteArray.mk #[99]), (ByteArray.mk #[100]), (ByteArray.mk #[101]), (ByteArray.mk #[97, 98]), (ByteArray.mk #[114, 101, 100]), (ByteArray.mk #[98, 108, 117, 101]), (ByteArray.mk #[111, 110]), (ByteArray.mk #[111, 102, 102]), (ByteArray.mk #[97, 108, 108]), (ByteArray.mk #[102])] : List (ByteArray))) = AO.arr 1 (List.map enc_s ([(ByteArray.mk #[97]), (ByteArray.mk #[98]), (ByteArray.mk #[99]), (ByteArray.mk #[100]), (ByteArray.mk #[101]), (ByteArray.mk #[97, 98]), (ByteArray.mk #[114, 101, 100]), (ByteArray.mk #[98, 108, 117, 101]), (ByteArray.mk #[111, 110]), (ByteArray.mk #[111, 102, 102]), (ByteArray.mk #[97, 108, 108]), (ByteArray.mk #[102])] : List (ByteArray)))) ∧ True) ∧ True) (by kernel_rfl) ⟨⟨rfl, rfl, rfl, trivial⟩, trivial⟩ ⟨call_ok (ks := [0]) (ns := []) (bor := [1]) (bobjs := [(1, .arr 1 (List.map enc_s ([(ByteArray.mk #[97]), (ByteArray.mk #[98]), (ByteArray.mk #[99]), (ByteArray.mk #[100]), (ByteArray.mk #[101]), (ByteArray.mk #[97, 98]), (ByteArray.mk #[114, 101, 100]), (ByteArray.mk #[98, 108, 117, 101]), (ByteArray.mk #[111, 110]), (ByteArray.mk #[111, 102, 102]), (ByteArray.mk #[97, 108, 108]), (ByteArray.mk #[102])] : List (ByteArray))))]) (s_spec_reader_of ([(ByteArray.mk #[97]), (ByteArray.mk #[98]), (ByteArray.mk #[99]), (ByteArray.mk #[100]), (ByteArray.mk #[101]), (ByteArray.mk #[97, 98]), (ByteArray.mk #[114, 101, 100]), (ByteArray.mk #[98, 108, 117, 101]), (ByteArray.mk #[111, 110]), (ByteArray.mk #[111, 102, 102]), (ByteArray.mk #[97, 108, 108]), (ByteArray.mk #[102])] : List (ByteArray)) p1 p2 x3 e1) (.cons (.c1 (.c0 (.same _ (by kernel_rfl) (by kernel_rfl)))) (.cons (.c1 (.c0 (.arr rfl rfl ((rfl).trans (List.length_map ..).symm)))) (.nil))) (by kernel_rfl) ⟨.inr rfl, trivial⟩, trivial⟩ ?_
  refine AX.ret ?_
  refine fin_wk (Wk.forget [2] [0] (s' := ⟨[(2, .v (.string x3))], [(0, .box [.bs true 1 (List.map enc_y p1), .v (.int .i64 (IntKind.wrap .i64 (p2 + 1)))])]⟩) (by kernel_rfl)) ?_
  have hr := Option.some.inj h
  subst hr
  exact ⟨_, Wk.refl _, .inr rfl, ⟨[], by kernel_rfl, ⟨rfl, trivial⟩, [.v (.string x3)], by kernel_rfl, by kernel_rfl⟩⟩

theorem s_spec_indexOf_L1 (p1 : List (ByteArray × Int)) (p2 : ByteArray) (n : Nat) (g : Int) (out : Int ⊕ Unit) (h : m_spec_indexOf_L1 p1 p2 n g = some out) :
    AX Tryz.prog 20 0 (codeAt [1, 0, 1, 1] (bodyOf Tryz.f57)) ((fun g : Int => (⟨[(0, .bs false 2 (List.map enc_si p1)), (1, .v (.string p2)), (5, .v (.int .i64 g))], []⟩ : S)) g) (fun ex s => (∃ o : Int, out = Sum.inl o ∧ ex = .ret ∧ s = ⟨[(4, .v (.int .i64 o))], []⟩) ∨ (∃ o : Unit, out = Sum.inr o ∧ ex = .exit 0 ∧ s = ⟨[], []⟩)) := by
  refine AX.wkpost ?_
  refine AX.loop (G := Nat × (Int)) (fun q => (fun g : Int => (⟨[(0, .bs false 2 (List.map enc_si p1)), (1, .v (.string p2)), (5, .v (.int .i64 g))], []⟩ : S)) q.2) (fun q => m_spec_indexOf_L1 p1 p2 q.1 q.2 = some out) (fun q => q.1) (n, g) h (Wk.refl _) ?_
  clear h
  rintro ⟨fu, v3⟩ h
  cases fu with
  | zero => cases h
  | succ fu =>
    rw [m_spec_indexOf_L1] at h
    refine AX.seq ?_
    refine AX.seq ?_
    refine AX.reg (its := [.auto {}, .auto {}, .auto { y := some (.v (.int .i64 (p1.length : Int))) }]) [0, 1, 5, 9] [] (s1 := ⟨[(0, .bs false 2 (List.map enc_si p1)), (1, .v (.string p2)), (5, .v (.int .i64 v3)), (9, .v (.bool (decide (v3 < (p1.length : Int)))))], []⟩) (C := (True ∧ (AV.v (.int .i64 ((List.map enc_si p1).length : Int)) = AV.v (.int .i64 (p1.length : Int)))) ∧ True) (by kernel_rfl) ⟨⟨trivial, len_map enc_si p1⟩, trivial⟩ trivial ?_
    rcases bool_cases (decide (v3 < (p1.length : Int))) with b1 | b1
    · replace h := cd_t b1 h
      refine AX.condT (decide (v3 < (p1.length : Int))) (by kernel_rfl) b1 ?_
      refine AX.skip ?_
      refine AX.seq ?_
      refine AX.block ?_
      refine AX.seq ?_
      obtain ⟨g2, h⟩ := gd_e h
      refine AX.reg (its := [.auto {}, .auto {}, .auto { y := some (.be 2 (enc_si (gt p1 v3)) 0) }]) [0, 1, 5, 18] [] (s1 := ⟨[(0, .bs false 2 (List.map enc_si p1)), (1, .v (.string p2)), (5, .v (.int .i64 v3)), (18, .v (.bool (decide (((gt p1 v3).1) = p2))))], []⟩) (C := ((0 ≤ v3 ∧ v3 < ((List.map enc_si p1).length : Int)) ∧ (AV.be 2 ((List.map enc_si p1).getD v3.toNat []) 0 = AV.be 2 (enc_si (gt p1 v3)) 0)) ∧ True) (by kernel_rfl) ⟨idx_bs enc_si p1 v3 2 g2, trivial⟩ trivial ?_
      rcases bool_cases (decide (((gt p1 v3).1) = p2)) with b3 | b3
      · replace h := cd_t b3 h
        refine AX.condT (decide (((gt p1 v3).1) = p2)) (by kernel_rfl) b3 ?_
        refine AX.seq ?_
        refine AX.reg (its := []) [4] [] (s1 := ⟨[(4, .v (.int .i64 v3))], []⟩) (C := True) (by kernel_rfl) trivial trivial ?_
        refine AX.ret ?_
        refine fin_wk (Wk.forget [4] [] (s' := ⟨[(4, .v (.int .i64 v3))], []⟩) (by kernel_rfl)) ?_
        have hr := Option.some.inj h
        subst hr
        exact ⟨_, Wk.refl _, .inl ⟨v3, rfl, rfl, rfl⟩⟩
      · replace h := cd_f b3 h
        refine AX.condF (decide (((gt p1 v3).1) = p2)) (by kernel_rfl) b3 ?_
        refine AX.skip ?_
        refine AX.reg (its := [.auto {}, .auto { raw := true }]) [0, 1, 5] [] (s1 := ⟨[(0, .bs false 2 (List.map enc_si p1)), (1, .v (.string p2)), (5, .v (.int .i64 (IntKind.wrap .i64 (v3 + 1))))], []⟩) (C := True) (by kernel_rfl) trivial trivial ?_
        refine ⟨(fu, IntKind.wrap .i64 (v3 + 1)), h, Nat.lt_succ_self _, ?_⟩
        refine Wk.trans (Wk.forget [0, 1, 5] [] (s' := ⟨[(0, .bs false 2 (List.map enc_si p1)), (1, .v (.string p2)), (5, .v (.int .i64 (IntKind.wrap .i64 (v3 + 1))))], []⟩) (by kernel_rfl)) ?_
        exact Wk.refl _
    · replace h := cd_f b1 h
      refine AX.condF (decide (v3 < (p1.length : Int))) (by kernel_rfl) b1 ?_
      refine AX.exit ?_
      refine fin_wk (Wk.forget [] [] (s' := ⟨[], []⟩) (by kernel_rfl)) ?_
      have hr := Option.some.inj h
      subst hr
      exact ⟨_, Wk.refl _, .inr ⟨(), rfl, rfl, rfl⟩⟩

theorem s_spec_indexOf (p1 : List (ByteArray × Int)) (p2 : ByteArray) (r : Int) (h : m_spec_indexOf p1 p2 = some r) :
    Eng.Spec Tryz.prog 57 [.bs false 2 (List.map enc_si p1), .v (.string p2)] [] (.v (.int .i64 r)) [] := by
  unfold m_spec_indexOf at h
  refine Eng.Spec.body Tryz.func57 (by kernel_rfl) rfl (by kernel_rfl) ?_
  refine AX.wkpost ?_
  refine AX.seq ?_
  refine AX.reg (its := []) [0, 1] [] (s1 := ⟨[(0, .bs false 2 (List.map enc_si p1)), (1, .v (.string p2))], []⟩) (C := True) (by kernel_rfl) trivial trivial ?_
  refine AX.seq ?_
  refine AX.seq ?_
  refine AX.reg (its := []) [0, 1, 5] [] (s1 := ⟨[(0, .bs false 2 (List.map enc_si p1)), (1, .v (.string p2)), (5, .v (.int .i64 0))], []⟩) (C := True) (by kernel_rfl) trivial trivial ?_
  refine AX.block ?_
  obtain ⟨x4, e4, h⟩ := bd_e h
  refine AX.wk (Wk.forget [0, 1, 5] [] (s' := ⟨[(0, .bs false 2 (List.map enc_si p1)), (1, .v (.string p2)), (5, .v (.int .i64 0))], []⟩) (by kernel_rfl)) ?_
  refine AX.mono (s_spec_indexOf_L1 p1 p2 FU 0 x4 e4) ?_
  rintro _ _ (⟨x5, rfl, rfl, rfl⟩ | ⟨x6, rfl, rfl, rfl⟩)
  · replace h := sm_l h
    refine fin_wk (Wk.forget [4] [] (s' := ⟨[(4, .v (.int .i64 x5))], []⟩) (by kernel_rfl)) ?_
    have hr := Option.some.inj h
    subst hr
    exact ⟨_, Wk.refl _, .inr rfl, ⟨[], by kernel_rfl, trivial, [.v (.int .i64 x5)], by kernel_rfl, by kernel_rfl⟩⟩
  · replace h := sm_r h
    refine AX.seq ?_
    refine AX.reg (its := []) [4] [] (s1 := ⟨[(4, .v (.int .i64 (-1)))], []⟩) (C := True) (by kernel_rfl) trivial trivial ?_
    refine AX.ret ?_
    refine fin_wk (Wk.forget [4] [] (s' := ⟨[(4, .v (.int .i64 (-1)))], []⟩) (by kernel_rfl)) ?_
    have hr := Option.some.inj h
    subst hr
    exact ⟨_, Wk.refl _, .inr rfl, ⟨[], by kernel_rfl, trivial, [.v (.int .i64 (-1))], by kernel_rfl, by kernel_rfl⟩⟩

theorem s_spec_goodDefs_L1 (p1 : Int) (p2 : List (Int)) (n : Nat) (g : (List (ByteArray × Int)) × Int × Int) (out : (List (ByteArray × Int)) × Int) (h : m_spec_goodDefs_L1 p1 p2 n g.1 g.2.1 g.2.2 = some out) :
    AX Tryz.prog 51 1 (codeAt [1, 1, 0, 1, 1] (bodyOf Tryz.f28)) ((fun g : (List (ByteArray × Int)) × Int × Int => (⟨[(0, .pt 0 0), (1, .v (.int .i64 p1)), (5, .sl 1 0 g.1.length), (6, .v (.int .i64 g.2.1))], [(0, .box [.bs true 1 (List.map enc_y p2), .v (.int .i64 g.2.2)]), (1, .arr 2 (List.map enc_si g.1))]⟩ : S)) g) (fun ex s => ex = .exit 0 ∧ s = (fun o : (List (ByteArray × Int)) × Int => (⟨[(5, .sl 1 0 o.1.length)], [(0, .box [.bs true 1 (List.map enc_y p2), .v (.int .i64 o.2)]), (1, .arr 2 (List.map enc_si o.1))]⟩ : S)) out) := by
  refine AX.wkpost ?_
  refine AX.loop (G := Nat × ((List (ByteArray × Int)) × Int × Int)) (fun q => (fun g : (List (ByteArray × Int)) × Int × Int => (⟨[(0, .pt 0 0), (1, .v (.int .i64 p1)), (5, .sl 1 0 g.1.length), (6, .v (.int .i64 g.2.1))], [(0, .box [.bs true 1 (List.map enc_y p2), .v (.int .i64 g.2.2)]), (1, .arr 2 (List.map enc_si g.1))]⟩ : S)) q.2) (fun q => m_spec_goodDefs_L1 p1 p2 q.1 q.2.1 q.2.2.1 q.2.2.2 = some out) (fun q => q.1) (n, g) h (Wk.refl _) ?_
  clear h
  rintro ⟨fu, v5, v6, v7⟩ h
  cases fu with
  | zero => cases h
  | succ fu =>
    rw [m_spec_goodDefs_L1] at h
    refine AX.seq ?_
    refine AX.seq ?_
    refine AX.reg (its := []) [0, 1, 5, 6, 13] [0, 1] (s1 := ⟨[(0, .pt 0 0), (1, .v (.int .i64 p1)), (5, .sl 1 0 v5.length), (6, .v (.int .i64 v6)), (13, .v (.bool (decide (0 < v6))))], [(0, .box [.bs true 1 (List.map enc_y p2), .v (.int .i64 v7)]), (1, .arr 2 (List.map enc_si v5))]⟩) (C := True) (by kernel_rfl) trivial trivial ?_
    rcases bool_cases (decide (0 < v6)) with b2 | b2
    · replace h := cd_t b2 h
      refine AX.condT (decide (0 < v6)) (by kernel_rfl) b2 ?_
      refine AX.skip ?_
      refine AX.seq ?_
      refine AX.block ?_
      refine AX.seq ?_
      obtain ⟨x8, e3, h⟩ := bd_e h
      obtain ⟨x9, e4, h⟩ := bd_e h
      obtain ⟨x10, e5, h⟩ := bd_e h
      refine AX.reg (its := [.auto {}, .call 56 [.pt 0 0] (handO (rho ([0] ++ [])) [0] [.box [.bs true 1 (List.map enc_y p2), .v (.int .i64 v7)]] ++ []) (callEv [0] [] (.v (.string x8)) [.box [.bs true 1 (List.map enc_y p2), .v (.int .i64 (IntKind.wrap .i64 (v7 + 1)))]]), .auto {}, .auto {}, .call 15 [.pt 0 0, .v (.int .i64 12)] (handO (rho ([0] ++ [])) [0] [.box [.bs true 1 (List.map enc_y p2), .v (.int .i64 (IntKind.wrap .i64 (v7 + 1)))]] ++ []) (callEv [0] [] (.v (.int .i64 x9)) [.box [.bs true 1 (List.map enc_y p2), .v (.int .i64 (IntKind.wrap .i64 ((IntKind.wrap .i64 (v7 + 1)) + 1)))]]), .auto { nk := 2 }, .call 30 [.pt 0 0, .sl 2 0 (([1, 2, 3, 4, 5, 0, 8, x9, (-1), 7, 1000, 16] : List (Int)).length)] (handO (rho ([0] ++ [])) [0] [.box [.bs true 1 (List.map enc_y p2), .v (.int .i64 (IntKind.wrap .i64 ((IntKind.wrap .i64 (v7 + 1)) + 1)))]] ++ [(2, .arr 1 (List.map enc_i ([1, 2, 3, 4, 5, 0, 8, x9, (-1), 7, 1000, 16] : List (Int))))]) (callEv [0] [] (.v (.int .i64 x10)) [.box [.bs true 1 (List.map enc_y p2), .v (.int .i64 (IntKind.wrap .i64 ((IntKind.wrap .i64 ((IntKind.wrap .i64 (v7 + 1)) + 1)) + 1)))]]), .auto {}, .auto { nk := 3 }]) [0, 1, 5, 6, 7] [0, 1, 3] (s1 := ⟨[(0, .pt 0 0), (1, .v (.int .i64 p1)), (5, .sl 1 0 v5.length), (6, .v (.int .i64 v6)), (7, .pt 3 0)], [(0, .box [.bs true 1 (List.map enc_y p2), .v (.int .i64 (IntKind.wrap .i64 ((IntKind.wrap .i64 ((IntKind.wrap .i64 (v7 + 1)) + 1)) + 1)))]), (1, .arr 2 (List.map enc_si v5)), (3, .box [.v (.string x8), .v (.int .i64 x10)])]⟩) (C := ((([.pt 0 0] : List AV) = [.pt 0 0]) ∧ (AO.box [.bs true 1 (List.map enc_y p2), .v (.int .i64 v7)] = AO.box [.bs true 1 (List.map enc_y p2), .v (.int .i64 v7)]) ∧ True) ∧ ((([.pt 0 0, .v (.int .i64 12)] : List AV) = [.pt 0 0, .v (.int .i64 12)]) ∧ (AO.box [.bs true 1 (List.map enc_y p2), .v (.int .i64 (IntKind.wrap .i64 (v7 + 1)))] = AO.box [.bs true 1 (List.map enc_y p2), .v (.int .i64 (IntKind.wrap .i64 (v7 + 1)))]) ∧ True) ∧ ((([.pt 0 0, .sl 2 0 (([1, 2, 3, 4, 5, 0, 8, x9, (-1), 7, 1000, 16] : List (Int)).length)] : List AV) = [.pt 0 0, .sl 2 0 (([1, 2, 3, 4, 5, 0, 8, x9, (-1), 7, 1000, 16] : List (Int)).length)]) ∧ (AO.box [.bs true 1 (List.map enc_y p2), .v (.int .i64 (IntKind.wrap .i64 ((IntKind.wrap .i64 (v7 + 1)) + 1)))] = AO.box [.bs true 1 (List.map enc_y p2), .v (.int .i64 (IntKind.wrap .i64 ((IntKind.wrap .i64 (v7 + 1)) + 1)))]) ∧ (AO.arr 1 (List.map enc_i ([1, 2, 3, 4, 5, 0, 8, x9, (-1), 7, 1000, 16] : List (Int))) = AO.arr 1 (List.map enc_i ([1, 2, 3, 4, 5, 0, 8, x9, (-1), 7, 1000, 16] : List (Int)))) ∧ True) ∧ True) (by kernel_rfl) ⟨⟨rfl, rfl, trivial⟩, ⟨⟨rfl, rfl, trivial⟩, ⟨⟨rfl, rfl, rfl, trivial⟩, trivial⟩⟩⟩ ⟨call_ok (ks := [0]) (ns := []) (bor := []) (bobjs := []) (s_spec_aName p2 v7 x8 e3) (.cons (.c1 (.c0 (.same _ (by kernel_rfl) (by kernel_rfl)))) (.nil)) (by kernel_rfl) ⟨.inr rfl, trivial⟩, ⟨call_ok (ks := [0]) (ns := []) (bor := []) (bobjs := []) (s_spec_reader_pick 12 p2 (IntKind.wrap .i64 (v7 + 1)) x9 e4) (.cons (.c1 (.c0 (.same _ (by kernel_rfl) (by kernel_rfl)))) (.cons (.c1 (.c0 (.same _ (by kernel_rfl) (by kernel_rfl)))) (.nil))) (by kernel_rfl) ⟨.inr rfl, trivial⟩, ⟨call_ok (ks := [0]) (ns := []) (bor := [2]) (bobjs := [(2, .arr 1 (List.map enc_i ([1, 2, 3, 4, 5, 0, 8, x9, (-1), 7, 1000, 16] : List (Int))))]) (s_spec_reader_one ([1, 2, 3, 4, 5, 0, 8, x9, (-1), 7, 1000, 16] : List (Int)) p2 (IntKind.wrap .i64 ((IntKind.wrap .i64 (v7 + 1)) + 1)) x10 e5) (.cons (.c1 (.c0 (.same _ (by kernel_rfl) (by kernel_rfl)))) (.cons (.c1 (.c0 (.arr rfl rfl ((rfl).trans (List.length_map ..).symm)))) (.nil))) (by kernel_rfl) ⟨.inr rfl, trivial⟩, trivial⟩⟩⟩ ?_
      refine AX.seq ?_
      refine AX.seq ?_
      refine AX.reg (its := []) [0, 1, 5, 6, 7, 25] [0, 1, 3] (s1 := ⟨[(0, .pt 0 0), (1, .v (.int .i64 p1)), (5, .sl 1 0 v5.length), (6, .v (.int .i64 v6)), (7, .pt 3 0), (25, .v (.bool (decide (p1 = 4095))))], [(0, .box [.bs true 1 (List.map enc_y p2), .v (.int .i64 (IntKind.wrap .i64 ((IntKind.wrap .i64 ((IntKind.wrap .i64 (v7 + 1)) + 1)) + 1)))]), (1, .arr 2 (List.map enc_si v5)), (3, .box [.v (.string x8), .v (.int .i64 x10)])]⟩) (C := True) (by kernel_rfl) trivial trivial ?_
      rcases bool_cases (decide (p1 = 4095)) with b6 | b6
      · replace h := cd_t b6 h
        refine AX.condT (decide (p1 = 4095)) (by kernel_rfl) b6 ?_
        obtain ⟨x11, e7, h⟩ := bd_e h
        obtain ⟨x12, e8, h⟩ := bd_e h
        refine AX.reg (its := [.auto {}, .auto {}, .call 15 [.pt 0 0, .v (.int .i64 64)] (handO (rho ([0] ++ [])) [0] [.box [.bs true 1 (List.map enc_y p2), .v (.int .i64 (IntKind.wrap .i64 ((IntKind.wrap .i64 ((IntKind.wrap .i64 (v7 + 1)) + 1)) + 1)))]] ++ []) (callEv [0] [] (.v (.int .i64 x11)) [.box [.bs true 1 (List.map enc_y p2), .v (.int .i64 (IntKind.wrap .i64 ((IntKind.wrap .i64 ((IntKind.wrap .i64 ((IntKind.wrap .i64 (v7 + 1)) + 1)) + 1)) + 1)))]]), .auto { nk := 4 }, .call 30 [.pt 0 0, .sl 4 0 (([1, 2, 4, 8, 3, 16, 0, 6, 7, x11, 2048, 5, 1, 2, 4] : List (Int)).length)] (handO (rho ([0] ++ [])) [0] [.box [.bs true 1 (List.map enc_y p2), .v (.int .i64 (IntKind.wrap .i64 ((IntKind.wrap .i64 ((IntKind.wrap .i64 ((IntKind.wrap .i64 (v7 + 1)) + 1)) + 1)) + 1)))]] ++ [(4, .arr 1 (List.map enc_i ([1, 2, 4, 8, 3, 16, 0, 6, 7, x11, 2048, 5, 1, 2, 4] : List (Int))))]) (callEv [0] [] (.v (.int .i64 x12)) [.box [.bs true 1 (List.map enc_y p2), .v (.int .i64 (IntKind.wrap .i64 ((IntKind.wrap .i64 ((IntKind.wrap .i64 ((IntKind.wrap .i64 ((IntKind.wrap .i64 (v7 + 1)) + 1)) + 1)) + 1)) + 1)))]])]) [0, 1, 5, 6, 7] [0, 1, 3] (s1 := ⟨[(0, .pt 0 0), (1, .v (.int .i64 p1)), (5, .sl 1 0 v5.length), (6, .v (.int .i64 v6)), (7, .pt 3 0)], [(0, .box [.bs true 1 (List.map enc_y p2), .v (.int .i64 (IntKind.wrap .i64 ((IntKind.wrap .i64 ((IntKind.wrap .i64 ((IntKind.wrap .i64 ((IntKind.wrap .i64 (v7 + 1)) + 1)) + 1)) + 1)) + 1)))]), (1, .arr 2 (List.map enc_si v5)), (3, .box [.v (.string x8), .v (.int .i64 x12)])]⟩) (C := ((([.pt 0 0, .v (.int .i64 64)] : List AV) = [.pt 0 0, .v (.int .i64 64)]) ∧ (AO.box [.bs true 1 (List.map enc_y p2), .v (.int .i64 (IntKind.wrap .i64 ((IntKind.wrap .i64 ((IntKind.wrap .i64 (v7 + 1)) + 1)) + 1)))] = AO.box [.bs true 1 (List.map enc_y p2), .v (.int .i64 (IntKind.wrap .i64 ((IntKind.wrap .i64 ((IntKind.wrap .i64 (v7 + 1)) + 1)) + 1)))]) ∧ True) ∧ ((([.pt 0 0, .sl 4 0 (([1, 2, 4, 8, 3, 16, 0, 6, 7, x11, 2048, 5, 1, 2, 4] : List (Int)).length)] : List AV) = [.pt 0 0, .sl 4 0 (([1, 2, 4, 8, 3, 16, 0, 6, 7, x11, 2048, 5, 1, 2, 4] : List (Int)).length)]) ∧ (AO.box [.bs true 1 (List.map enc_y p2), .v (.int .i64 (IntKind.wrap .i64 ((IntKind.wrap .i64 ((IntKind.wrap .i64 ((IntKind.wrap .i64 (v7 + 1)) + 1)) + 1)) + 1)))] = AO.box [.bs true 1 (List.map enc_y p2), .v (.int .i64 (IntKind.wrap .i64 ((IntKind.wrap .i64 ((IntKind.wrap .i64 ((IntKind.wrap .i64 (v7 + 1)) + 1)) + 1)) + 1)))]) ∧ (AO.arr 1 (List.map enc_i ([1, 2, 4, 8, 3, 16, 0, 6, 7, x11, 2048, 5, 1, 2, 4] : List (Int))) = AO.arr 1 (List.map enc_i ([1, 2, 4, 8, 3, 16, 0, 6, 7, x11, 2048, 5, 1, 2, 4] : List (Int)))) ∧ True) ∧ True) (by kernel_rfl) ⟨⟨rfl, rfl, trivial⟩, ⟨⟨rfl, rfl, rfl, trivial⟩, trivial⟩⟩ ⟨call_ok (ks := [0]) (ns := []) (bor := []) (bobjs := []) (s_spec_reader_pick 64 p2 (IntKind.wrap .i64 ((IntKind.wrap .i64 ((IntKind.wrap .i64 (v7 + 1)) + 1)) + 1)) x11 e7) (.cons (.c1 (.c0 (.same _ (by kernel_rfl) (by kernel_rfl)))) (.cons (.c1 (.c0 (.same _ (by kernel_rfl) (by kernel_rfl)))) (.nil))) (by kernel_rfl) ⟨.inr rfl, trivial⟩, ⟨call_ok (ks := [0]) (ns := []) (bor := [4]) (bobjs := [(4, .arr 1 (List.map enc_i ([1, 2, 4, 8, 3, 16, 0, 6, 7, x11, 2048, 5, 1, 2, 4] : List (Int))))]) (s_spec_reader_one ([1, 2, 4, 8, 3, 16, 0, 6, 7, x11, 2048, 5, 1, 2, 4] : List (Int)) p2 (IntKind.wrap .i64 ((IntKind.wrap .i64 ((IntKind.wrap .i64 ((IntKind.wrap .i64 (v7 + 1)) + 1)) + 1)) + 1)) x12 e8) (.cons (.c1 (.c0 (.same _ (by kernel_rfl) (by kernel_rfl)))) (.cons (.c1 (.c0 (.arr rfl rfl ((rfl).trans (List.length_map ..).symm)))) (.nil))) (by kernel_rfl) ⟨.inr rfl, trivial⟩, trivial⟩⟩ ?_
        refine AX.seq ?_
        obtain ⟨x13, e9, h⟩ := bd_e h
        rcases bool_cases (decide (x13 < 0)) with b10 | b10
        · replace h := cd_t b10 h
          rcases bool_cases (decide (0 ≤ x12)) with b11 | b11
          · replace h := cd_t b11 h
            refine AX.reg (its := [.auto {}, .auto {}, .auto {}, .call 57 [.sl 1 0 v5.length, .v (.string x8)] (handO (rho ([] ++ [])) [] [] ++ [(1, .arr 2 (List.map enc_si v5))]) (callEv [] [] (.v (.int .i64 x13)) []), .auto { y := some (.v (.bool true)) }, .auto {}, .auto {}, .auto {}, .auto { y := some (.v (.bool true)) }]) [0, 1, 5, 6, 7, 45] [0, 1, 3] (s1 := ⟨[(0, .pt 0 0), (1, .v (.int .i64 p1)), (5, .sl 1 0 v5.length), (6, .v (.int .i64 v6)), (7, .pt 3 0), (45, .v (.bool true))], [(0, .box [.bs true 1 (List.map enc_y p2), .v (.int .i64 (IntKind.wrap .i64 ((IntKind.wrap .i64 ((IntKind.wrap .i64 ((IntKind.wrap .i64 ((IntKind.wrap .i64 (v7 + 1)) + 1)) + 1)) + 1)) + 1)))]), (1, .arr 2 (List.map enc_si v5)), (3, .box [.v (.string x8), .v (.int .i64 x12)])]⟩) (C := ((([.sl 1 0 v5.length, .v (.string x8)] : List AV) = [.sl 1 0 v5.length, .v (.string x8)]) ∧ (AO.arr 2 (List.map enc_si v5) = AO.arr 2 (List.map enc_si v5)) ∧ True) ∧ ((True) ∧ ((.v (.bool (decide (x13 < 0))) : AV) = (.v (.bool true) : AV))) ∧ ((True) ∧ ((.v (.bool (decide (0 ≤ x12))) : AV) = (.v (.bool true) : AV))) ∧ True) (by kernel_rfl) ⟨⟨rfl, rfl, trivial⟩, ⟨⟨trivial, (congrArg (fun z => AV.v (.bool z)) b10)⟩, ⟨⟨trivial, (congrArg (fun z => AV.v (.bool z)) b11)⟩, trivial⟩⟩⟩ ⟨call_ok (ks := []) (ns := []) (bor := [1]) (bobjs := [(1, .arr 2 (List.map enc_si v5))]) (s_spec_indexOf v5 x8 x13 e9) (.cons (.c1 (.c0 (.arr rfl rfl ((rfl).trans (List.length_map ..).symm)))) (.cons (.c1 (.c0 (.same _ (by kernel_rfl) (by kernel_rfl)))) (.nil))) (by kernel_rfl) trivial, trivial⟩ ?_
            refine AX.cond_true (by kernel_rfl) ?_
            obtain ⟨g12, h⟩ := gd_e h
            refine AX.reg (its := [.auto {}, .auto {}, .auto { nk := 4 }, .auto { y := some (.sl 5 0 ((v5 ++ ([(x8, x12)] : List (ByteArray × Int))).length)), els := some (List.map enc_si v5), els2 := some (List.map enc_si ([(x8, x12)] : List (ByteArray × Int))), nk := 5 }]) [0, 1, 5, 6] [0, 5] (s1 := ⟨[(0, .pt 0 0), (1, .v (.int .i64 p1)), (5, .sl 5 0 ((v5 ++ ([(x8, x12)] : List (ByteArray × Int))).length)), (6, .v (.int .i64 v6))], [(0, .box [.bs true 1 (List.map enc_y p2), .v (.int .i64 (IntKind.wrap .i64 ((IntKind.wrap .i64 ((IntKind.wrap .i64 ((IntKind.wrap .i64 ((IntKind.wrap .i64 (v7 + 1)) + 1)) + 1)) + 1)) + 1)))]), (5, .arr 2 (List.map enc_si v5 ++ List.map enc_si ([(x8, x12)] : List (ByteArray × Int))))]⟩) (C := ((((((List.map enc_si v5).drop 0).take (v5.length) = List.map enc_si v5) ∧ (((List.map enc_si ([(x8, x12)] : List (ByteArray × Int))).drop 0).take (([(x8, x12)] : List (ByteArray × Int)).length) = List.map enc_si ([(x8, x12)] : List (ByteArray × Int)))) ∧ (List.map enc_si v5).length + (List.map enc_si ([(x8, x12)] : List (ByteArray × Int))).length ≤ 1099511627776) ∧ (AV.sl 5 0 (List.map enc_si v5 ++ List.map enc_si ([(x8, x12)] : List (ByteArray × Int))).length = AV.sl 5 0 (v5 ++ ([(x8, x12)] : List (ByteArray × Int))).length)) ∧ True) (by kernel_rfl) ⟨⟨⟨⟨(dt_all (enc := enc_si) rfl rfl), (dt_all (enc := enc_si) rfl rfl)⟩, (by simp only [List.length_map, List.length_nil, List.length_replicate]; simpa using g12)⟩, sl_len (enc := enc_si) (app_can (enc := enc_si) rfl (rfl))⟩, trivial⟩ trivial ?_
            refine AX.reg (its := [.auto {}, .auto { raw := true }]) [0, 1, 5, 6] [0, 5] (s1 := ⟨[(0, .pt 0 0), (1, .v (.int .i64 p1)), (5, .sl 5 0 ((v5 ++ ([(x8, x12)] : List (ByteArray × Int))).length)), (6, .v (.int .i64 (IntKind.wrap .i64 (v6 - 1))))], [(0, .box [.bs true 1 (List.map enc_y p2), .v (.int .i64 (IntKind.wrap .i64 ((IntKind.wrap .i64 ((IntKind.wrap .i64 ((IntKind.wrap .i64 ((IntKind.wrap .i64 (v7 + 1)) + 1)) + 1)) + 1)) + 1)))]), (5, .arr 2 (List.map enc_si v5 ++ List.map enc_si ([(x8, x12)] : List (ByteArray × Int))))]⟩) (C := True) (by kernel_rfl) trivial trivial ?_
            refine ⟨(fu, (v5 ++ ([(x8, x12)] : List (ByteArray × Int)), IntKind.wrap .i64 (v6 - 1), IntKind.wrap .i64 ((IntKind.wrap .i64 ((IntKind.wrap .i64 ((IntKind.wrap .i64 ((IntKind.wrap .i64 (v7 + 1)) + 1)) + 1)) + 1)) + 1))), h, Nat.lt_succ_self _, ?_⟩
            refine Wk.trans (Wk.swap 1 5 (Nat.le_of_ble_eq_true (by kernel_rfl)) (Nat.le_of_ble_eq_true (by kernel_rfl)) rfl) ?_
            refine Wk.trans (Wk.forget [0, 1, 5, 6] [0, 1] (s' := ⟨[(0, .pt 0 0), (1, .v (.int .i64 p1)), (5, .sl 1 0 ((v5 ++ ([(x8, x12)] : List (ByteArray × Int))).length)), (6, .v (.int .i64 (IntKind.wrap .i64 (v6 - 1))))], [(0, .box [.bs true 1 (List.map enc_y p2), .v (.int .i64 (IntKind.wrap .i64 ((IntKind.wrap .i64 ((IntKind.wrap .i64 ((IntKind.wrap .i64 ((IntKind.wrap .i64 (v7 + 1)) + 1)) + 1)) + 1)) + 1)))]), (1, .arr 2 (List.map enc_si v5 ++ List.map enc_si ([(x8, x12)] : List (ByteArray × Int))))]⟩) (by kernel_rfl)) ?_
            refine Wk.trans (Wk.of_eq (congrArg (fun z => (⟨[(0, .pt 0 0), (1, .v (.int .i64 p1)), (5, .sl 1 0 ((v5 ++ ([(x8, x12)] : List (ByteArray × Int))).length)), (6, .v (.int .i64 (IntKind.wrap .i64 (v6 - 1))))], [(0, .box [.bs true 1 (List.map enc_y p2), .v (.int .i64 (IntKind.wrap .i64 ((IntKind.wrap .i64 ((IntKind.wrap .i64 ((IntKind.wrap .i64 ((IntKind.wrap .i64 (v7 + 1)) + 1)) + 1)) + 1)) + 1)))]), (1, .arr 2 (z))]⟩ : S)) (app_can (enc := enc_si) rfl (rfl) : List.map enc_si v5 ++ List.map enc_si ([(x8, x12)] : List (ByteArray × Int)) = List.map enc_si (v5 ++ ([(x8, x12)] : List (ByteArray × Int)))))) ?_
            exact Wk.refl _
          · replace h := cd_f b11 h
            refine AX.reg (its := [.auto {}, .auto {}, .auto {}, .call 57 [.sl 1 0 v5.length, .v (.string x8)] (handO (rho ([] ++ [])) [] [] ++ [(1, .arr 2 (List.map enc_si v5))]) (callEv [] [] (.v (.int .i64 x13)) []), .auto { y := some (.v (.bool true)) }, .auto {}, .auto {}, .auto {}, .auto { y := some (.v (.bool false)) }]) [0, 1, 5, 6, 7, 45] [0, 1, 3] (s1 := ⟨[(0, .pt 0 0), (1, .v (.int .i64 p1)), (5, .sl 1 0 v5.length), (6, .v (.int .i64 v6)), (7, .pt 3 0), (45, .v (.bool (!decide (p1 = 4095))))], [(0, .box [.bs true 1 (List.map enc_y p2), .v (.int .i64 (IntKind.wrap .i64 ((IntKind.wrap .i64 ((IntKind.wrap .i64 ((IntKind.wrap .i64 ((IntKind.wrap .i64 (v7 + 1)) + 1)) + 1)) + 1)) + 1)))]), (1, .arr 2 (List.map enc_si v5)), (3, .box [.v (.string x8), .v (.int .i64 x12)])]⟩) (C := ((([.sl 1 0 v5.length, .v (.string x8)] : List AV) = [.sl 1 0 v5.length, .v (.string x8)]) ∧ (AO.arr 2 (List.map enc_si v5) = AO.arr 2 (List.map enc_si v5)) ∧ True) ∧ ((True) ∧ ((.v (.bool (decide (x13 < 0))) : AV) = (.v (.bool true) : AV))) ∧ ((True) ∧ ((.v (.bool (decide (0 ≤ x12))) : AV) = (.v (.bool false) : AV))) ∧ True) (by kernel_rfl) ⟨⟨rfl, rfl, trivial⟩, ⟨⟨trivial, (congrArg (fun z => AV.v (.bool z)) b10)⟩, ⟨⟨trivial, (congrArg (fun z => AV.v (.bool z)) b11)⟩, trivial⟩⟩⟩ ⟨call_ok (ks := []) (ns := []) (bor := [1]) (bobjs := [(1, .arr 2 (List.map enc_si v5))]) (s_spec_indexOf v5 x8 x13 e9) (.cons (.c1 (.c0 (.arr rfl rfl ((rfl).trans (List.length_map ..).symm)))) (.cons (.c1 (.c0 (.same _ (by kernel_rfl) (by kernel_rfl)))) (.nil))) (by kernel_rfl) trivial, trivial⟩ ?_
            rcases bool_cases ((!decide (p1 = 4095))) with b13 | b13
            · replace h := cd_t b13 h
              refine AX.condT ((!decide (p1 = 4095))) (by kernel_rfl) b13 ?_
              obtain ⟨g14, h⟩ := gd_e h
              refine AX.reg (its := [.auto {}, .auto {}, .auto { nk := 4 }, .auto { y := some (.sl 5 0 ((v5 ++ ([(x8, x12)] : List (ByteArray × Int))).length)), els := some (List.map enc_si v5), els2 := some (List.map enc_si ([(x8, x12)] : List (ByteArray × Int))), nk := 5 }]) [0, 1, 5, 6] [0, 5] (s1 := ⟨[(0, .pt 0 0), (1, .v (.int .i64 p1)), (5, .sl 5 0 ((v5 ++ ([(x8, x12)] : List (ByteArray × Int))).length)), (6, .v (.int .i64 v6))], [(0, .box [.bs true 1 (List.map enc_y p2), .v (.int .i64 (IntKind.wrap .i64 ((IntKind.wrap .i64 ((IntKind.wrap .i64 ((IntKind.wrap .i64 ((IntKind.wrap .i64 (v7 + 1)) + 1)) + 1)) + 1)) + 1)))]), (5, .arr 2 (List.map enc_si v5 ++ List.map enc_si ([(x8, x12)] : List (ByteArray × Int))))]⟩) (C := ((((((List.map enc_si v5).drop 0).take (v5.length) = List.map enc_si v5) ∧ (((List.map enc_si ([(x8, x12)] : List (ByteArray × Int))).drop 0).take (([(x8, x12)] : List (ByteArray × Int)).length) = List.map enc_si ([(x8, x12)] : List (ByteArray × Int)))) ∧ (List.map enc_si v5).length + (List.map enc_si ([(x8, x12)] : List (ByteArray × Int))).length ≤ 1099511627776) ∧ (AV.sl 5 0 (List.map enc_si v5 ++ List.map enc_si ([(x8, x12)] : List (ByteArray × Int))).length = AV.sl 5 0 (v5 ++ ([(x8, x12)] : List (ByteArray × Int))).length)) ∧ True) (by kernel_rfl) ⟨⟨⟨⟨(dt_all (enc := enc_si) rfl rfl), (dt_all (enc := enc_si) rfl rfl)⟩, (by simp only [List.length_map, List.length_nil, List.length_replicate]; simpa using g14)⟩, sl_len (enc := enc_si) (app_can (enc := enc_si) rfl (rfl))⟩, trivial⟩ trivial ?_
              refine AX.reg (its := [.auto {}, .auto { raw := true }]) [0, 1, 5, 6] [0, 5] (s1 := ⟨[(0, .pt 0 0), (1, .v (.int .i64 p1)), (5, .sl 5 0 ((v5 ++ ([(x8, x12)] : List (ByteArray × Int))).length)), (6, .v (.int .i64 (IntKind.wrap .i64 (v6 - 1))))], [(0, .box [.bs true 1 (List.map enc_y p2), .v (.int .i64 (IntKind.wrap .i64 ((IntKind.wrap .i64 ((IntKind.wrap .i64 ((IntKind.wrap .i64 ((IntKind.wrap .i64 (v7 + 1)) + 1)) + 1)) + 1)) + 1)))]), (5, .arr 2 (List.map enc_si v5 ++ List.map enc_si ([(x8, x12)] : List (ByteArray × Int))))]⟩) (C := True) (by kernel_rfl) trivial trivial ?_
              refine ⟨(fu, (v5 ++ ([(x8, x12)] : List (ByteArray × Int)), IntKind.wrap .i64 (v6 - 1), IntKind.wrap .i64 ((IntKind.wrap .i64 ((IntKind.wrap .i64 ((IntKind.wrap .i64 ((IntKind.wrap .i64 (v7 + 1)) + 1)) + 1)) + 1)) + 1))), h, Nat.lt_succ_self _, ?_⟩
              refine Wk.trans (Wk.swap 1 5 (Nat.le_of_ble_eq_true (by kernel_rfl)) (Nat.le_of_ble_eq_true (by kernel_rfl)) rfl) ?_
              refine Wk.trans (Wk.forget [0, 1, 5, 6] [0, 1] (s' := ⟨[(0, .pt 0 0), (1, .v (.int .i64 p1)), (5, .sl 1 0 ((v5 ++ ([(x8, x12)] : List (ByteArray × Int))).length)), (6, .v (.int .i64 (IntKind.wrap .i64 (v6 - 1))))], [(0, .box [.bs true 1 (List.map enc_y p2), .v (.int .i64 (IntKind.wrap .i64 ((IntKind.wrap .i64 ((IntKind.wrap .i64 ((IntKind.wrap .i64 ((IntKind.wrap .i64 (v7 + 1)) + 1)) + 1)) + 1)) + 1)))]), (1, .arr 2 (List.map enc_si v5 ++ List.map enc_si ([(x8, x12)] : List (ByteArray × Int))))]⟩) (by kernel_rfl)) ?_
              refine Wk.trans (Wk.of_eq (congrArg (fun z => (⟨[(0, .pt 0 0), (1, .v (.int .i64 p1)), (5, .sl 1 0 ((v5 ++ ([(x8, x12)] : List (ByteArray × Int))).length)), (6, .v (.int .i64 (IntKind.wrap .i64 (v6 - 1))))], [(0, .box [.bs true 1 (List.map enc_y p2), .v (.int .i64 (IntKind.wrap .i64 ((IntKind.wrap .i64 ((IntKind.wrap .i64 ((IntKind.wrap .i64 ((IntKind.wrap .i64 (v7 + 1)) + 1)) + 1)) + 1)) + 1)))]), (1, .arr 2 (z))]⟩ : S)) (app_can (enc := enc_si) rfl (rfl) : List.map enc_si v5 ++ List.map enc_si ([(x8, x12)] : List (ByteArray × Int)) = List.map enc_si (v5 ++ ([(x8, x12)] : List (ByteArray × Int)))))) ?_
              exact Wk.refl _
            · replace h := cd_f b13 h
              refine AX.condF ((!decide (p1 = 4095))) (by kernel_rfl) b13 ?_
              refine AX.skip ?_
              refine AX.reg (its := [.auto {}, .auto { raw := true }]) [0, 1, 5, 6] [0, 1] (s1 := ⟨[(0, .pt 0 0), (1, .v (.int .i64 p1)), (5, .sl 1 0 v5.length), (6, .v (.int .i64 (IntKind.wrap .i64 (v6 - 1))))], [(0, .box [.bs true 1 (List.map enc_y p2), .v (.int .i64 (IntKind.wrap .i64 ((IntKind.wrap .i64 ((IntKind.wrap .i64 ((IntKind.wrap .i64 ((IntKind.wrap .i64 (v7 + 1)) + 1)) + 1)) + 1)) + 1)))]), (1, .arr 2 (List.map enc_si v5))]⟩) (C := True) (by kernel_rfl) trivial trivial ?_
              refine ⟨(fu, (v5, IntKind.wrap .i64 (v6 - 1), IntKind.wrap .i64 ((IntKind.wrap .i64 ((IntKind.wrap .i64 ((IntKind.wrap .i64 ((IntKind.wrap .i64 (v7 + 1)) + 1)) + 1)) + 1)) + 1))), h, Nat.lt_succ_self _, ?_⟩
              refine Wk.trans (Wk.forget [0, 1, 5, 6] [0, 1] (s' := ⟨[(0, .pt 0 0), (1, .v (.int .i64 p1)), (5, .sl 1 0 v5.length), (6, .v (.int .i64 (IntKind.wrap .i64 (v6 - 1))))], [(0, .box [.bs true 1 (List.map enc_y p2), .v (.int .i64 (IntKind.wrap .i64 ((IntKind.wrap .i64 ((IntKind.wrap .i64 ((IntKind.wrap .i64 ((IntKind.wrap .i64 (v7 + 1)) + 1)) + 1)) + 1)) + 1)))]), (1, .arr 2 (List.map enc_si v5))]⟩) (by kernel_rfl)) ?_
              exact Wk.refl _
        · replace h := cd_f b10 h
          refine AX.reg (its := [.auto {}, .auto {}, .auto {}, .call 57 [.sl 1 0 v5.length, .v (.string x8)] (handO (rho ([] ++ [])) [] [] ++ [(1, .arr 2 (List.map enc_si v5))]) (callEv [] [] (.v (.int .i64 x13)) []), .auto { y := some (.v (.bool false)) }]) [0, 1, 5, 6, 7, 45] [0, 1, 3] (s1 := ⟨[(0, .pt 0 0), (1, .v (.int .i64 p1)), (5, .sl 1 0 v5.length), (6, .v (.int .i64 v6)), (7, .pt 3 0), (45, .v (.bool false))], [(0, .box [.bs true 1 (List.map enc_y p2), .v (.int .i64 (IntKind.wrap .i64 ((IntKind.wrap .i64 ((IntKind.wrap .i64 ((IntKind.wrap .i64 ((IntKind.wrap .i64 (v7 + 1)) + 1)) + 1)) + 1)) + 1)))]), (1, .arr 2 (List.map enc_si v5)), (3, .box [.v (.string x8), .v (.int .i64 x12)])]⟩) (C := ((([.sl 1 0 v5.length, .v (.string x8)] : List AV) = [.sl 1 0 v5.length, .v (.string x8)]) ∧ (AO.arr 2 (List.map enc_si v5) = AO.arr 2 (List.map enc_si v5)) ∧ True) ∧ ((True) ∧ ((.v (.bool (decide (x13 < 0))) : AV) = (.v (.bool false) : AV))) ∧ True) (by kernel_rfl) ⟨⟨rfl, rfl, trivial⟩, ⟨⟨trivial, (congrArg (fun z => AV.v (.bool z)) b10)⟩, trivial⟩⟩ ⟨call_ok (ks := []) (ns := []) (bor := [1]) (bobjs := [(1, .arr 2 (List.map enc_si v5))]) (s_spec_indexOf v5 x8 x13 e9) (.cons (.c1 (.c0 (.arr rfl rfl ((rfl).trans (List.length_map ..).symm)))) (.cons (.c1 (.c0 (.same _ (by kernel_rfl) (by kernel_rfl)))) (.nil))) (by kernel_rfl) trivial, trivial⟩ ?_
          refine AX.cond_false (by kernel_rfl) ?_
          refine AX.skip ?_
          refine AX.reg (its := [.auto {}, .auto { raw := true }]) [0, 1, 5, 6] [0, 1] (s1 := ⟨[(0, .pt 0 0), (1, .v (.int .i64 p1)), (5, .sl 1 0 v5.length), (6, .v (.int .i64 (IntKind.wrap .i64 (v6 - 1))))], [(0, .box [.bs true 1 (List.map enc_y p2), .v (.int .i64 (IntKind.wrap .i64 ((IntKind.wrap .i64 ((IntKind.wrap .i64 ((IntKind.wrap .i64 ((IntKind.wrap .i64 (v7 + 1)) + 1)) + 1)) + 1)) + 1)))]), (1, .arr 2 (List.map enc_si v5))]⟩) (C := True) (by kernel_rfl) trivial trivial ?_
          refine ⟨(fu, (v5, IntKind.wrap .i64 (v6 - 1), IntKind.wrap .i64 ((IntKind.wrap .i64 ((IntKind.wrap .i64 ((IntKind.wrap .i64 ((IntKind.wrap .i64 (v7 + 1)) + 1)) + 1)) + 1)) + 1))), h, Nat.lt_succ_self _, ?_⟩
          refine Wk.trans (Wk.forget [0, 1, 5, 6] [0, 1] (s' := ⟨[(0, .pt 0 0), (1, .v (.int .i64 p1)), (5, .sl 1 0 v5.length), (6, .v (.int .i64 (IntKind.wrap .i64 (v6 - 1))))], [(0, .box [.bs true 1 (List.map enc_y p2), .v (.int .i64 (IntKind.wrap .i64 ((IntKind.wrap .i64 ((IntKind.wrap .i64 ((IntKind.wrap .i64 ((IntKind.wrap .i64 (v7 + 1)) + 1)) + 1)) + 1)) + 1)))]), (1, .arr 2 (List.map enc_si v5))]⟩) (by kernel_rfl)) ?_
          exact Wk.refl _
      · replace h := cd_f b6 h
        refine AX.condF (decide (p1 = 4095)) (by kernel_rfl) b6 ?_
        refine AX.skip ?_
        refine AX.seq ?_
        obtain ⟨x14, e15, h⟩ := bd_e h
        rcases bool_cases (decide (x14 < 0)) with b16 | b16
        · replace h := cd_t b16 h
          rcases bool_cases (decide (0 ≤ x10)) with b17 | b17
          · replace h := cd_t b17 h
            refine AX.reg (its := [.auto {}, .auto {}, .auto {}, .call 57 [.sl 1 0 v5.length, .v (.string x8)] (handO (rho ([] ++ [])) [] [] ++ [(1, .arr 2 (List.map enc_si v5))]) (callEv [] [] (.v (.int .i64 x14)) []), .auto { y := some (.v (.bool true)) }, .auto {}, .auto {}, .auto {}, .auto { y := some (.v (.bool true)) }]) [0, 1, 5, 6, 7, 45] [0, 1, 3] (s1 := ⟨[(0, .pt 0 0), (1, .v (.int .i64 p1)), (5, .sl 1 0 v5.length), (6, .v (.int .i64 v6)), (7, .pt 3 0), (45, .v (.bool true))], [(0, .box [.bs true 1 (List.map enc_y p2), .v (.int .i64 (IntKind.wrap .i64 ((IntKind.wrap .i64 ((IntKind.wrap .i64 (v7 + 1)) + 1)) + 1)))]), (1, .arr 2 (List.map enc_si v5)), (3, .box [.v (.string x8), .v (.int .i64 x10)])]⟩) (C := ((([.sl 1 0 v5.length, .v (.string x8)] : List AV) = [.sl 1 0 v5.length, .v (.string x8)]) ∧ (AO.arr 2 (List.map enc_si v5) = AO.arr 2 (List.map enc_si v5)) ∧ True) ∧ ((True) ∧ ((.v (.bool (decide (x14 < 0))) : AV) = (.v (.bool true) : AV))) ∧ ((True) ∧ ((.v (.bool (decide (0 ≤ x10))) : AV) = (.v (.bool true) : AV))) ∧ True) (by kernel_rfl) ⟨⟨rfl, rfl, trivial⟩, ⟨⟨trivial, (congrArg (fun z => AV.v (.bool z)) b16)⟩, ⟨⟨trivial, (congrArg (fun z => AV.v (.bool z)) b17)⟩, trivial⟩⟩⟩ ⟨call_ok (ks := []) (ns := []) (bor := [1]) (bobjs := [(1, .arr 2 (List.map enc_si v5))]) (s_spec_indexOf v5 x8 x14 e15) (.cons (.c1 (.c0 (.arr rfl rfl ((rfl).trans (List.length_map ..).symm)))) (.cons (.c1 (.c0 (.same _ (by kernel_rfl) (by kernel_rfl)))) (.nil))) (by kernel_rfl) trivial, trivial⟩ ?_
            refine AX.cond_true (by kernel_rfl) ?_
            obtain ⟨g18, h⟩ := gd_e h
            refine AX.reg (its := [.auto {}, .auto {}, .auto { nk := 4 }, .auto { y := some (.sl 5 0 ((v5 ++ ([(x8, x10)] : List (ByteArray × Int))).length)), els := some (List.map enc_si v5), els2 := some (List.map enc_si ([(x8, x10)] : List (ByteArray × Int))), nk := 5 }]) [0, 1, 5, 6] [0, 5] (s1 := ⟨[(0, .pt 0 0), (1, .v (.int .i64 p1)), (5, .sl 5 0 ((v5 ++ ([(x8, x10)] : List (ByteArray × Int))).length)), (6, .v (.int .i64 v6))], [(0, .box [.bs true 1 (List.map enc_y p2), .v (.int .i64 (IntKind.wrap .i64 ((IntKind.wrap .i64 ((IntKind.wrap .i64 (v7 + 1)) + 1)) + 1)))]), (5, .arr 2 (List.map enc_si v5 ++ List.map enc_si ([(x8, x10)] : List (ByteArray × Int))))]⟩) (C := ((((((List.map enc_si v5).drop 0).take (v5.length) = List.map enc_si v5) ∧ (((List.map enc_si ([(x8, x10)] : List (ByteArray × Int))).drop 0).take (([(x8, x10)] : List (ByteArray × Int)).length) = List.map enc_si ([(x8, x10)] : List (ByteArray × Int)))) ∧ (List.map enc_si v5).length + (List.map enc_si ([(x8, x10)] : List (ByteArray × Int))).length ≤ 1099511627776) ∧ (AV.sl 5 0 (List.map enc_si v5 ++ List.map enc_si ([(x8, x10)] : List (ByteArray × Int))).length = AV.sl 5 0 (v5 ++ ([(x8, x10)] : List (ByteArray × Int))).length)) ∧ True) (by kernel_rfl) ⟨⟨⟨⟨(dt_all (enc := enc_si) rfl rfl), (dt_all (enc := enc_si) rfl rfl)⟩, (by simp only [List.length_map, List.length_nil, List.length_replicate]; simpa using g18)⟩, sl_len (enc := enc_si) (app_can (enc := enc_si) rfl (rfl))⟩, trivial⟩ trivial ?_
            refine AX.reg (its := [.auto {}, .auto { raw := true }]) [0, 1, 5, 6] [0, 5] (s1 := ⟨[(0, .pt 0 0), (1, .v (.int .i64 p1)), (5, .sl 5 0 ((v5 ++ ([(x8, x10)] : List (ByteArray × Int))).length)), (6, .v (.int .i64 (IntKind.wrap .i64 (v6 - 1))))], [(0, .box [.bs true 1 (List.map enc_y p2), .v (.int .i64 (IntKind.wrap .i64 ((IntKind.wrap .i64 ((IntKind.wrap .i64 (v7 + 1)) + 1)) + 1)))]), (5, .arr 2 (List.map enc_si v5 ++ List.map enc_si ([(x8, x10)] : List (ByteArray × Int))))]⟩) (C := True) (by kernel_rfl) trivial trivial ?_
            refine ⟨(fu, (v5 ++ ([(x8, x10)] : List (ByteArray × Int)), IntKind.wrap .i64 (v6 - 1), IntKind.wrap .i64 ((IntKind.wrap .i64 ((IntKind.wrap .i64 (v7 + 1)) + 1)) + 1))), h, Nat.lt_succ_self _, ?_⟩
            refine Wk.trans (Wk.swap 1 5 (Nat.le_of_ble_eq_true (by kernel_rfl)) (Nat.le_of_ble_eq_true (by kernel_rfl)) rfl) ?_
            refine Wk.trans (Wk.forget [0, 1, 5, 6] [0, 1] (s' := ⟨[(0, .pt 0 0), (1, .v (.int .i64 p1)), (5, .sl 1 0 ((v5 ++ ([(x8, x10)] : List (ByteArray × Int))).length)), (6, .v (.int .i64 (IntKind.wrap .i64 (v6 - 1))))], [(0, .box [.bs true 1 (List.map enc_y p2), .v (.int .i64 (IntKind.wrap .i64 ((IntKind.wrap .i64 ((IntKind.wrap .i64 (v7 + 1)) + 1)) + 1)))]), (1, .arr 2 (List.map enc_si v5 ++ List.map enc_si ([(x8, x10)] : List (ByteArray × Int))))]⟩) (by kernel_rfl)) ?_
            refine Wk.trans (Wk.of_eq (congrArg (fun z => (⟨[(0, .pt 0 0), (1, .v (.int .i64 p1)), (5, .sl 1 0 ((v5 ++ ([(x8, x10)] : List (ByteArray × Int))).length)), (6, .v (.int .i64 (IntKind.wrap .i64 (v6 - 1))))], [(0, .box [.bs true 1 (List.map enc_y p2), .v (.int .i64 (IntKind.wrap .i64 ((IntKind.wrap .i64 ((IntKind.wrap .i64 (v7 + 1)) + 1)) + 1)))]), (1, .arr 2 (z))]⟩ : S)) (app_can (enc := enc_si) rfl (rfl) : List.map enc_si v5 ++ List.map enc_si ([(x8, x10)] : List (ByteArray × Int)) = List.map enc_si (v5 ++ ([(x8, x10)] : List (ByteArray × Int)))))) ?_
            exact Wk.refl _
          · replace h := cd_f b17 h
            refine AX.reg (its := [.auto {}, .auto {}, .auto {}, .call 57 [.sl 1 0 v5.length, .v (.string x8)] (handO (rho ([] ++ [])) [] [] ++ [(1, .arr 2 (List.map enc_si v5))]) (callEv [] [] (.v (.int .i64 x14)) []), .auto { y := some (.v (.bool true)) }, .auto {}, .auto {}, .auto {}, .auto { y := some (.v (.bool false)) }]) [0, 1, 5, 6, 7, 45] [0, 1, 3] (s1 := ⟨[(0, .pt 0 0), (1, .v (.int .i64 p1)), (5, .sl 1 0 v5.length), (6, .v (.int .i64 v6)), (7, .pt 3 0), (45, .v (.bool (!decide (p1 = 4095))))], [(0, .box [.bs true 1 (List.map enc_y p2), .v (.int .i64 (IntKind.wrap .i64 ((IntKind.wrap .i64 ((IntKind.wrap .i64 (v7 + 1)) + 1)) + 1)))]), (1, .arr 2 (List.map enc_si v5)), (3, .box [.v (.string x8), .v (.int .i64 x10)])]⟩) (C := ((([.sl 1 0 v5.length, .v (.string x8)] : List AV) = [.sl 1 0 v5.length, .v (.string x8)]) ∧ (AO.arr 2 (List.map enc_si v5) = AO.arr 2 (List.map enc_si v5)) ∧ True) ∧ ((True) ∧ ((.v (.bool (decide (x14 < 0))) : AV) = (.v (.bool true) : AV))) ∧ ((True) ∧ ((.v (.bool (decide (0 ≤ x10))) : AV) = (.v (.bool false) : AV))) ∧ True) (by kernel_rfl) ⟨⟨rfl, rfl, trivial⟩, ⟨⟨trivial, (congrArg (fun z => AV.v (.bool z)) b16)⟩, ⟨⟨trivial, (congrArg (fun z => AV.v (.bool z)) b17)⟩, trivial⟩⟩⟩ ⟨call_ok (ks := []) (ns := []) (bor := [1]) (bobjs := [(1, .arr 2 (List.map enc_si v5))]) (s_spec_indexOf v5 x8 x14 e15) (.cons (.c1 (.c0 (.arr rfl rfl ((rfl).trans (List.length_map ..).symm)))) (.cons (.c1 (.c0 (.same _ (by kernel_rfl) (by kernel_rfl)))) (.nil))) (by kernel_rfl) trivial, trivial⟩ ?_
            rcases bool_cases ((!decide (p1 = 4095))) with b19 | b19
            · replace h := cd_t b19 h
              refine AX.condT ((!decide (p1 = 4095))) (by kernel_rfl) b19 ?_
              obtain ⟨g20, h⟩ := gd_e h
              refine AX.reg (its := [.auto {}, .auto {}, .auto { nk := 4 }, .auto { y := some (.sl 5 0 ((v5 ++ ([(x8, x10)] : List (ByteArray × Int))).length)), els := some (List.map enc_si v5), els2 := some (List.map enc_si ([(x8, x10)] : List (ByteArray × Int))), nk := 5 }]) [0, 1, 5, 6] [0, 5] (s1 := ⟨[(0, .pt 0 0), (1, .v (.int .i64 p1)), (5, .sl 5 0 ((v5 ++ ([(x8, x10)] : List (ByteArray × Int))).length)), (6, .v (.int .i64 v6))], [(0, .box [.bs true 1 (List.map enc_y p2), .v (.int .i64 (IntKind.wrap .i64 ((IntKind.wrap .i64 ((IntKind.wrap .i64 (v7 + 1)) + 1)) + 1)))]), (5, .arr 2 (List.map enc_si v5 ++ List.map enc_si ([(x8, x10)] : List (ByteArray × Int))))]⟩) (C := ((((((List.map enc_si v5).drop 0).take (v5.length) = List.map enc_si v5) ∧ (((List.map enc_si ([(x8, x10)] : List (ByteArray × Int))).drop 0).take (([(x8, x10)] : List (ByteArray × Int)).length) = List.map enc_si ([(x8, x10)] : List (ByteArray × Int)))) ∧ (List.map enc_si v5).length + (List.map enc_si ([(x8, x10)] : List (ByteArray × Int))).length ≤ 1099511627776) ∧ (AV.sl 5 0 (List.map enc_si v5 ++ List.map enc_si ([(x8, x10)] : List (ByteArray × Int))).length = AV.sl 5 0 (v5 ++ ([(x8, x10)] : List (ByteArray × Int))).length)) ∧ True) (by kernel_rfl) ⟨⟨⟨⟨(dt_all (enc := enc_si) rfl rfl), (dt_all (enc := enc_si) rfl rfl)⟩, (by simp only [List.length_map, List.length_nil, List.length_replicate]; simpa using g20)⟩, sl_len (enc := enc_si) (app_can (enc := enc_si) rfl (rfl))⟩, trivial⟩ trivial ?_
              refine AX.reg (its := [.auto {}, .auto { raw := true }]) [0, 1, 5, 6] [0, 5] (s1 := ⟨[(0, .pt 0 0), (1, .v (.int .i64 p1)), (5, .sl 5 0 ((v5 ++ ([(x8, x10)] : List (ByteArray × Int))).length)), (6, .v (.int .i64 (IntKind.wrap .i64 (v6 - 1))))], [(0, .box [.bs true 1 (List.map enc_y p2), .v (.int .i64 (IntKind.wrap .i64 ((IntKind.wrap .i64 ((IntKind.wrap .i64 (v7 + 1)) + 1)) + 1)))]), (5, .arr 2 (List.map enc_si v5 ++ List.map enc_si ([(x8, x10)] : List (ByteArray × Int))))]⟩) (C := True) (by kernel_rfl) trivial trivial ?_
              refine ⟨(fu, (v5 ++ ([(x8, x10)] : List (ByteArray × Int)), IntKind.wrap .i64 (v6 - 1), IntKind.wrap .i64 ((IntKind.wrap .i64 ((IntKind.wrap .i64 (v7 + 1)) + 1)) + 1))), h, Nat.lt_succ_self _, ?_⟩
              refine Wk.trans (Wk.swap 1 5 (Nat.le_of_ble_eq_true (by kernel_rfl)) (Nat.le_of_ble_eq_true (by kernel_rfl)) rfl) ?_
              refine Wk.trans (Wk.forget [0, 1, 5, 6] [0, 1] (s' := ⟨[(0, .pt 0 0), (1, .v (.int .i64 p1)), (5, .sl 1 0 ((v5 ++ ([(x8, x10)] : List (ByteArray × Int))).length)), (6, .v (.int .i64 (IntKind.wrap .i64 (v6 - 1))))], [(0, .box [.bs true 1 (List.map enc_y p2), .v (.int .i64 (IntKind.wrap .i64 ((IntKind.wrap .i64 ((IntKind.wrap .i64 (v7 + 1)) + 1)) + 1)))]), (1, .arr 2 (List.map enc_si v5 ++ List.map enc_si ([(x8, x10)] : List (ByteArray × Int))))]⟩) (by kernel_rfl)) ?_
              refine Wk.trans (Wk.of_eq (congrArg (fun z => (⟨[(0, .pt 0 0), (1, .v (.int .i64 p1)), (5, .sl 1 0 ((v5 ++ ([(x8, x10)] : List (ByteArray × Int))).length)), (6, .v (.int .i64 (IntKind.wrap .i64 (v6 - 1))))], [(0, .box [.bs true 1 (List.map enc_y p2), .v (.int .i64 (IntKind.wrap .i64 ((IntKind.wrap .i64 ((IntKind.wrap .i64 (v7 + 1)) + 1)) + 1)))]), (1, .arr 2 (z))]⟩ : S)) (app_can (enc := enc_si) rfl (rfl) : List.map enc_si v5 ++ List.map enc_si ([(x8, x10)] : List (ByteArray × Int)) = List.map enc_si (v5 ++ ([(x8, x10)] : List (ByteArray × Int)))))) ?_
              exact Wk.refl _
            · replace h := cd_f b19 h
              refine AX.condF ((!decide (p1 = 4095))) (by kernel_rfl) b19 ?_
              refine AX.skip ?_
              refine AX.reg (its := [.auto {}, .auto { raw := true }]) [0, 1, 5, 6] [0, 1] (s1 := ⟨[(0, .pt 0 0), (1, .v (.int .i64 p1)), (5, .sl 1 0 v5.length), (6, .v (.int .i64 (IntKind.wrap .i64 (v6 - 1))))], [(0, .box [.bs true 1 (List.map enc_y p2), .v (.int .i64 (IntKind.wrap .i64 ((IntKind.wrap .i64 ((IntKind.wrap .i64 (v7 + 1)) + 1)) + 1)))]), (1, .arr 2 (List.map enc_si v5))]⟩) (C := True) (by kernel_rfl) trivial trivial ?_
              refine ⟨(fu, (v5, IntKind.wrap .i64 (v6 - 1), IntKind.wrap .i64 ((IntKind.wrap .i64 ((IntKind.wrap .i64 (v7 + 1)) + 1)) + 1))), h, Nat.lt_succ_self _, ?_⟩
              refine Wk.trans (Wk.forget [0, 1, 5, 6] [0, 1] (s' := ⟨[(0, .pt 0 0), (1, .v (.int .i64 p1)), (5, .sl 1 0 v5.length), (6, .v (.int .i64 (IntKind.wrap .i64 (v6 - 1))))], [(0, .box [.bs true 1 (List.map enc_y p2), .v (.int .i64 (IntKind.wrap .i64 ((IntKind.wrap .i64 ((IntKind.wrap .i64 (v7 + 1)) + 1)) + 1)))]), (1, .arr 2 (List.map enc_si v5))]⟩) (by kernel_rfl)) ?_
              exact Wk.refl _
        · replace h := cd_f b16 h
          refine AX.reg (its := [.auto {}, .auto {}, .auto {}, .call 57 [.sl 1 0 v5.length, .v (.string x8)] (handO (rho ([] ++ [])) [] [] ++ [(1, .arr 2 (List.map enc_si v5))]) (callEv [] [] (.v (.int .i64 x14)) []), .auto { y := some (.v (.bool false)) }]) [0, 1, 5, 6, 7, 45] [0, 1, 3] (s1 := ⟨[(0, .pt 0 0), (1, .v (.int .i64 p1)), (5, .sl 1 0 v5.length), (6, .v (.int .i64 v6)), (7, .pt 3 0), (45, .v (.bool false))], [(0, .box [.bs true 1 (List.map enc_y p2), .v (.int .i64 (IntKind.wrap .i64 ((IntKind.wrap .i64 ((IntKind.wrap .i64 (v7 + 1)) + 1)) + 1)))]), (1, .arr 2 (List.map enc_si v5)), (3, .box [.v (.string x8), .v (.int .i64 x10)])]⟩) (C := ((([.sl 1 0 v5.length, .v (.string x8)] : List AV) = [.sl 1 0 v5.length, .v (.string x8)]) ∧ (AO.arr 2 (List.map enc_si v5) = AO.arr 2 (List.map enc_si v5)) ∧ True) ∧ ((True) ∧ ((.v (.bool (decide (x14 < 0))) : AV) = (.v (.bool false) : AV))) ∧ True) (by kernel_rfl) ⟨⟨rfl, rfl, trivial⟩, ⟨⟨trivial, (congrArg (fun z => AV.v (.bool z)) b16)⟩, trivial⟩⟩ ⟨call_ok (ks := []) (ns := []) (bor := [1]) (bobjs := [(1, .arr 2 (List.map enc_si v5))]) (s_spec_indexOf v5 x8 x14 e15) (.cons (.c1 (.c0 (.arr rfl rfl ((rfl).trans (List.length_map ..).symm)))) (.cons (.c1 (.c0 (.same _ (by kernel_rfl) (by kernel_rfl)))) (.nil))) (by kernel_rfl) trivial, trivial⟩ ?_
          refine AX.cond_false (by kernel_rfl) ?_
          refine AX.skip ?_
          refine AX.reg (its := [.auto {}, .auto { raw := true }]) [0, 1, 5, 6] [0, 1] (s1 := ⟨[(0, .pt 0 0), (1, .v (.int .i64 p1)), (5, .sl 1 0 v5.length), (6, .v (.int .i64 (IntKind.wrap .i64 (v6 - 1))))], [(0, .box [.bs true 1 (List.map enc_y p2), .v (.int .i64 (IntKind.wrap .i64 ((IntKind.wrap .i64 ((IntKind.wrap .i64 (v7 + 1)) + 1)) + 1)))]), (1, .arr 2 (List.map enc_si v5))]⟩) (C := True) (by kernel_rfl) trivial trivial ?_
          refine ⟨(fu, (v5, IntKind.wrap .i64 (v6 - 1), IntKind.wrap .i64 ((IntKind.wrap .i64 ((IntKind.wrap .i64 (v7 + 1)) + 1)) + 1))), h, Nat.lt_succ_self _, ?_⟩
          refine Wk.trans (Wk.forget [0, 1, 5, 6] [0, 1] (s' := ⟨[(0, .pt 0 0), (1, .v (.int .i64 p1)), (5, .sl 1 0 v5.length), (6, .v (.int .i64 (IntKind.wrap .i64 (v6 - 1))))], [(0, .box [.bs true 1 (List.map enc_y p2), .v (.int .i64 (IntKind.wrap .i64 ((IntKind.wrap .i64 ((IntKind.wrap .i64 (v7 + 1)) + 1)) + 1)))]), (1, .arr 2 (List.map enc_si v5))]⟩) (by kernel_rfl)) ?_
          exact Wk.refl _
    · replace h := cd_f b2 h
      refine AX.condF (decide (0 < v6)) (by kernel_rfl) b2 ?_
      refine AX.exit ?_
      refine fin_wk (Wk.forget [5] [0, 1] (s' := ⟨[(5, .sl 1 0 v5.length)], [(0, .box [.bs true 1 (List.map enc_y p2), .v (.int .i64 v7)]), (1, .arr 2 (List.map enc_si v5))]⟩) (by kernel_rfl)) ?_
      have hr := Option.some.inj h
      subst hr
      exact ⟨_, Wk.refl _, ⟨rfl, rfl⟩⟩

theorem s_spec_goodDefs (p1 : Int) (p2 : List (Int)) (p3 : Int) (r : (List (ByteArray × Int)) × Int) (h : m_spec_goodDefs p1 p2 p3 = some r) :
    Eng.Spec Tryz.prog 28 [.pt 0 0, .v (.int .i64 p1)] [.box [.bs true 1 (List.map enc_y p2), .v (.int .i64 p3)]] (.sl 1 0 r.1.length) [.box [.bs true 1 (List.map enc_y p2), .v (.int .i64 r.2)], .arr 2 (List.map enc_si r.1)] := by
  unfold m_spec_goodDefs at h
  refine Eng.Spec.body Tryz.func28 (by kernel_rfl) rfl (by kernel_rfl) ?_
  refine AX.wkpost ?_
  refine AX.seq ?_
  refine AX.reg (its := []) [0, 1] [0] (s1 := ⟨[(0, .pt 0 0), (1, .v (.int .i64 p1))], [(0, .box [.bs true 1 (List.map enc_y p2), .v (.int .i64 p3)])]⟩) (C := True) (by kernel_rfl) trivial trivial ?_
  refine AX.seq ?_
  refine AX.reg (its := [.auto { nk := 1 }]) [0, 1, 5] [0, 1] (s1 := ⟨[(0, .pt 0 0), (1, .v (.int .i64 p1)), (5, .sl 1 0 (([] : List (ByteArray × Int)).length))], [(0, .box [.bs true 1 (List.map enc_y p2), .v (.int .i64 p3)]), (1, .arr 2 (List.map enc_si ([] : List (ByteArray × Int))))]⟩) (C := True) (by kernel_rfl) trivial trivial ?_
  refine AX.seq ?_
  refine AX.seq ?_
  obtain ⟨x4, e1, h⟩ := bd_e h
  refine AX.reg (its := [.auto {}, .auto { nk := 2 }, .call 30 [.pt 0 0, .sl 2 0 (([4, 3, 5, 2, 6, 1, 0, 12] : List (Int)).length)] (handO (rho ([0] ++ [])) [0] [.box [.bs true 1 (List.map enc_y p2), .v (.int .i64 p3)]] ++ [(2, .arr 1 (List.map enc_i ([4, 3, 5, 2, 6, 1, 0, 12] : List (Int))))]) (callEv [0] [] (.v (.int .i64 x4)) [.box [.bs true 1 (List.map enc_y p2), .v (.int .i64 (IntKind.wrap .i64 (p3 + 1)))]])]) [0, 1, 5, 6] [0, 1] (s1 := ⟨[(0, .pt 0 0), (1, .v (.int .i64 p1)), (5, .sl 1 0 (([] : List (ByteArray × Int)).length)), (6, .v (.int .i64 x4))], [(0, .box [.bs true 1 (List.map enc_y p2), .v (.int .i64 (IntKind.wrap .i64 (p3 + 1)))]), (1, .arr 2 (List.map enc_si ([] : List (ByteArray × Int))))]⟩) (C := ((([.pt 0 0, .sl 2 0 (([4, 3, 5, 2, 6, 1, 0, 12] : List (Int)).length)] : List AV) = [.pt 0 0, .sl 2 0 (([4, 3, 5, 2, 6, 1, 0, 12] : List (Int)).length)]) ∧ (AO.box [.bs true 1 (List.map enc_y p2), .v (.int .i64 p3)] = AO.box [.bs true 1 (List.map enc_y p2), .v (.int .i64 p3)]) ∧ (AO.arr 1 (List.map enc_i ([4, 3, 5, 2, 6, 1, 0, 12] : List (Int))) = AO.arr 1 (List.map enc_i ([4, 3, 5, 2, 6, 1, 0, 12] : List (Int)))) ∧ True) ∧ True) (by kernel_rfl) ⟨⟨rfl, rfl, rfl, trivial⟩, trivial⟩ ⟨call_ok (ks := [0]) (ns := []) (bor := [2]) (bobjs := [(2, .arr 1 (List.map enc_i ([4, 3, 5, 2, 6, 1, 0, 12] : List (Int))))]) (s_spec_reader_one ([4, 3, 5, 2, 6, 1, 0, 12] : List (Int)) p2 p3 x4 e1) (.cons (.c1 (.c0 (.same _ (by kernel_rfl) (by kernel_rfl)))) (.cons (.c1 (.c0 (.arr rfl rfl ((rfl).trans (List.length_map ..).symm)))) (.nil))) (by kernel_rfl) ⟨.inr rfl, trivial⟩, trivial⟩ ?_
  refine AX.block ?_
  obtain ⟨x15, e21, h⟩ := bd_e h
  refine AX.wk (Wk.forget [0, 1, 5, 6] [0, 1] (s' := ⟨[(0, .pt 0 0), (1, .v (.int .i64 p1)), (5, .sl 1 0 (([] : List (ByteArray × Int)).length)), (6, .v (.int .i64 x4))], [(0, .box [.bs true 1 (List.map enc_y p2), .v (.int .i64 (IntKind.wrap .i64 (p3 + 1)))]), (1, .arr 2 (List.map enc_si ([] : List (ByteArray × Int))))]⟩) (by kernel_rfl)) ?_
  refine AX.mono (s_spec_goodDefs_L1 p1 p2 FU (([] : List (ByteArray × Int)), x4, IntKind.wrap .i64 (p3 + 1)) x15 e21) ?_
  rintro _ _ ⟨rfl, rfl⟩
  skip
  refine AX.seq ?_
  refine AX.reg (its := []) [4] [0, 1] (s1 := ⟨[(4, .sl 1 0 x15.1.length)], [(0, .box [.bs true 1 (List.map enc_y p2), .v (.int .i64 x15.2)]), (1, .arr 2 (List.map enc_si x15.1))]⟩) (C := True) (by kernel_rfl) trivial trivial ?_
  refine AX.ret ?_
  refine fin_wk (Wk.forget [4] [0, 1] (s' := ⟨[(4, .sl 1 0 x15.1.length)], [(0, .box [.bs true 1 (List.map enc_y p2), .v (.int .i64 x15.2)]), (1, .arr 2 (List.map enc_si x15.1))]⟩) (by kernel_rfl)) ?_
  have hr := Option.some.inj h
  subst hr
  exact ⟨_, Wk.refl _, .inr rfl, ⟨[1], by kernel_rfl, ⟨rfl, rfl, trivial⟩, [.sl 1 0 x15.1.length], by kernel_rfl, by kernel_rfl⟩⟩

theorem s_spec_anyName (p1 : List (Int)) (p2 : Int) (r : ByteArray) (h : m_spec_anyName p1 p2 = some r) :
    Eng.Spec Tryz.prog 29 [.pt 0 0] [.box [.bs true 1 (List.map enc_y p1), .v (.int .i64 p2)]] (.v (.string r)) [.box [.bs true 1 (List.map enc_y p1), .v (.int .i64 (IntKind.wrap .i64 ((IntKind.wrap .i64 (p2 + 1)) + 1)))]] := by
  unfold m_spec_anyName at h
  refine Eng.Spec.body Tryz.func29 (by kernel_rfl) rfl (by kernel_rfl) ?_
  refine AX.wkpost ?_
  refine AX.seq ?_
  refine AX.reg (its := []) [0] [0] (s1 := ⟨[(0, .pt 0 0)], [(0, .box [.bs true 1 (List.map enc_y p1), .v (.int .i64 p2)])]⟩) (C := True) (by kernel_rfl) trivial trivial ?_
  refine AX.seq ?_
  refine AX.seq ?_
  obtain ⟨x3, e1, h⟩ := bd_e h
  refine AX.reg (its := [.auto {}, .call 15 [.pt 0 0, .v (.int .i64 16)] (handO (rho ([0] ++ [])) [0] [.box [.bs true 1 (List.map enc_y p1), .v (.int .i64 p2)]] ++ []) (callEv [0] [] (.v (.int .i64 x3)) [.box [.bs true 1 (List.map enc_y p1), .v (.int .i64 (IntKind.wrap .i64 (p2 + 1)))]])]) [0, 5] [0] (s1 := ⟨[(0, .pt 0 0), (5, .v (.bool (decide (x3 = 0))))], [(0, .box [.bs true 1 (List.map enc_y p1), .v (.int .i64 (IntKind.wrap .i64 (p2 + 1)))])]⟩) (C := ((([.pt 0 0, .v (.int .i64 16)] : List AV) = [.pt 0 0, .v (.int .i64 16)]) ∧ (AO.box [.bs true 1 (List.map enc_y p1), .v (.int .i64 p2)] = AO.box [.bs true 1 (List.map enc_y p1), .v (.int .i64 p2)]) ∧ True) ∧ True) (by kernel_rfl) ⟨⟨rfl, rfl, trivial⟩, trivial⟩ ⟨call_ok (ks := [0]) (ns := []) (bor := []) (bobjs := []) (s_spec_reader_pick 16 p1 p2 x3 e1) (.cons (.c1 (.c0 (.same _ (by kernel_rfl) (by kernel_rfl)))) (.cons (.c1 (.c0 (.same _ (by kernel_rfl) (by kernel_rfl)))) (.nil))) (by kernel_rfl) ⟨.inr rfl, trivial⟩, trivial⟩ ?_
  rcases bool_cases (decide (x3 = 0)) with b2 | b2
  · replace h := cd_t b2 h
    refine AX.condT (decide (x3 = 0)) (by kernel_rfl) b2 ?_
    refine AX.seq ?_
    obtain ⟨x4, e3, h⟩ := bd_e h
    refine AX.reg (its := [.auto {}, .auto { nk := 1 }, .call 31 [.pt 0 0, .sl 1 0 (([ByteArray.empty, (ByteArray.mk #[65]), (ByteArray.mk #[116, 111, 111, 108, 111, 110, 103]), (ByteArray.mk #[97, 49]), (ByteArray.mk #[97, 32, 98]), (ByteArray.mk #[97, 98, 99, 100, 101, 102])] : List (ByteArray)).length)] (handO (rho ([0] ++ [])) [0] [.box [.bs true 1 (List.map enc_y p1), .v (.int .i64 (IntKind.wrap .i64 (p2 + 1)))]] ++ [(1, .arr 1 (List.map enc_s ([ByteArray.empty, (ByteArray.mk #[65]), (ByteArray.mk #[116, 111, 111, 108, 111, 110, 103]), (ByteArray.mk #[97, 49]), (ByteArray.mk #[97, 32, 98]), (ByteArray.mk #[97, 98, 99, 100, 101, 102])] : List (ByteArray))))]) (callEv [0] [] (.v (.string x4)) [.box [.bs true 1 (List.map enc_y p1), .v (.int .i64 (IntKind.wrap .i64 ((IntKind.wrap .i64 (p2 + 1)) + 1)))]])]) [2] [0] (s1 := ⟨[(2, .v (.string x4))], [(0, .box [.bs true 1 (List.map enc_y p1), .v (.int .i64 (IntKind.wrap .i64 ((IntKind.wrap .i64 (p2 + 1)) + 1)))])]⟩) (C := ((([.pt 0 0, .sl 1 0 (([ByteArray.empty, (ByteArray.mk #[65]), (ByteArray.mk #[116, 111, 111, 108, 111, 110, 103]), (ByteArray.mk #[97, 49]), (ByteArray.mk #[97, 32, 98]), (ByteArray.mk #[97, 98, 99, 100, 101, 102])] : List (ByteArray)).length)] : List AV) = [.pt 0 0, .sl 1 0 (([ByteArray.empty, (ByteArray.mk #[65]), (ByteArray.mk #[116, 111, 111, 108, 111, 110, 103]), (ByteArray.mk #[97, 49]), (ByteArray.mk #[97, 32, 98]), (ByteArray.mk #[97, 98, 99, 100, 101, 102])] : List (ByteArray)).length)]) ∧ (AO.box [.bs true 1 (List.map enc_y p1), .v (.int .i64 (IntKind.wrap .i64 (p2 + 1)))] = AO.box [.bs true 1 (List.map enc_y p1), .v (.int .i64 (IntKind.wrap .i64 (p2 + 1)))]) ∧ (AO.arr 1 (List.map enc_s ([ByteArray.empty, (ByteArray.mk #[65]), (ByteArray.mk #[116, 111, 111, 108, 111, 110, 103]), (ByteArray.mk #[97, 49]), (ByteArray.mk #[97, 32, 98]), (ByteArray.mk #[97, 98, 99, 100, 101, 102])] : List (ByteArray))) = AO.arr 1 (List.map enc_s ([ByteArray.empty, (ByteArray.mk #[65]), (ByteArray.mk #[116, 111, 111, 108, 111, 110, 103]), (ByteArray.mk #[97, 49]), (ByteArray.mk #[97, 32, 98]), (ByteArray.mk #[97, 98, 99, 100, 101, 102])] : List (ByteArray)))) ∧ True) ∧ True) (by kernel_rfl) ⟨⟨rfl, rfl, rfl, trivial⟩, trivial⟩ ⟨call_ok (ks := [0]) (ns := []) (bor := [1]) (bobjs := [(1, .arr 1 (List.map enc_s ([ByteArray.empty, (ByteArray.mk #[65]), (ByteArray.mk #[116, 111, 111, 108, 111, 110, 103]), (ByteArray.mk #[97, 49]), (ByteArray.mk #[97, 32, 98]), (ByteArray.mk #[97, 98, 99, 100, 101, 102])] : List (ByteArray))))]) (s_spec_reader_of ([ByteArray.empty, (ByteArray.mk #[65]), (ByteArray.mk #[116, 111, 111, 108, 111, 110, 103]), (ByteArray.mk #[97, 49]), (ByteArray.mk #[97, 32, 98]), (ByteArray.mk #[97, 98, 99, 100, 101, 102])] : List (ByteArray)) p1 (IntKind.wrap .i64 (p2 + 1)) x4 e3) (.cons (.c1 (.c0 (.same _ (by kernel_rfl) (by kernel_rfl)))) (.cons (.c1 (.c0 (.arr rfl rfl ((rfl).trans (List.length_map ..).symm)))) (.nil))) (by kernel_rfl) ⟨.inr rfl, trivial⟩, trivial⟩ ?_
    refine AX.ret ?_
    refine fin_wk (Wk.forget [2] [0] (s' := ⟨[(2, .v (.string x4))], [(0, .box [.bs true 1 (List.map enc_y p1), .v (.int .i64 (IntKind.wrap .i64 ((IntKind.wrap .i64 (p2 + 1)) + 1)))])]⟩) (by kernel_rfl)) ?_
    have hr := Option.some.inj h
    subst hr
    exact ⟨_, Wk.refl _, .inr rfl, ⟨[], by kernel_rfl, ⟨rfl, trivial⟩, [.v (.string x4)], by kernel_rfl, by kernel_rfl⟩⟩
  · replace h := cd_f b2 h
    refine AX.condF (decide (x3 = 0)) (by kernel_rfl) b2 ?_
    refine AX.skip ?_
    refine AX.seq ?_
    obtain ⟨x5, e4, h⟩ := bd_e h
    refine AX.reg (its := [.auto {}, .call 56 [.pt 0 0] (handO (rho ([0] ++ [])) [0] [.box [.bs true 1 (List.map enc_y p1), .v (.int .i64 (IntKind.wrap .i64 (p2 + 1)))]] ++ []) (callEv [0] [] (.v (.string x5)) [.box [.bs true 1 (List.map enc_y p1), .v (.int .i64 (IntKind.wrap .i64 ((IntKind.wrap .i64 (p2 + 1)) + 1)))]])]) [2] [0] (s1 := ⟨[(2, .v (.string x5))], [(0, .box [.bs true 1 (List.map enc_y p1), .v (.int .i64 (IntKind.wrap .i64 ((IntKind.wrap .i64 (p2 + 1)) + 1)))])]⟩) (C := ((([.pt 0 0] : List AV) = [.pt 0 0]) ∧ (AO.box [.bs true 1 (List.map enc_y p1), .v (.int .i64 (IntKind.wrap .i64 (p2 + 1)))] = AO.box [.bs true 1 (List.map enc_y p1), .v (.int .i64 (IntKind.wrap .i64 (p2 + 1)))]) ∧ True) ∧ True) (by kernel_rfl) ⟨⟨rfl, rfl, trivial⟩, trivial⟩ ⟨call_ok (ks := [0]) (ns := []) (bor := []) (bobjs := []) (s_spec_aName p1 (IntKind.wrap .i64 (p2 + 1)) x5 e4) (.cons (.c1 (.c0 (.same _ (by kernel_rfl) (by kernel_rfl)))) (.nil)) (by kernel_rfl) ⟨.inr rfl, trivial⟩, trivial⟩ ?_
    refine AX.ret ?_
    refine fin_wk (Wk.forget [2] [0] (s' := ⟨[(2, .v (.string x5))], [(0, .box [.bs true 1 (List.map enc_y p1), .v (.int .i64 (IntKind.wrap .i64 ((IntKind.wrap .i64 (p2 + 1)) + 1)))])]⟩) (by kernel_rfl)) ?_
    have hr := Option.some.inj h
    subst hr
    exact ⟨_, Wk.refl _, .inr rfl, ⟨[], by kernel_rfl, ⟨rfl, trivial⟩, [.v (.string x5)], by kernel_rfl, by kernel_rfl⟩⟩

theorem s_spec_someItems_L1 (p2 : List (Int)) (x4 : (List (ByteArray × Int)) × Int) (n : Nat) (g : (List (ByteArray × Bool × Int)) × Int × Int) (out : (List (ByteArray × Bool × Int)) × Int) (h : m_spec_someItems_L1 p2 x4 n g.1 g.2.1 g.2.2 = some out) :
    AX Tryz.prog 69 1 (codeAt [1, 1, 1, 0, 1, 1] (bodyOf Tryz.f14)) ((fun g : (List (ByteArray × Bool × Int)) × Int × Int => (⟨[(0, .pt 0 0), (5, .sl 1 0 g.1.length), (6, .sl 2 0 x4.1.length), (7, .v (.int .i64 g.2.1))], [(0, .box [.bs true 1 (List.map enc_y p2), .v (.int .i64 g.2.2)]), (1, .arr 3 (List.map enc_sbi g.1)), (2, .arr 2 (List.map enc_si x4.1))]⟩ : S)) g) (fun ex s => ex = .exit 0 ∧ s = (fun o : (List (ByteArray × Bool × Int)) × Int => (⟨[(0, .pt 0 0), (5, .sl 1 0 o.1.length)], [(0, .box [.bs true 1 (List.map enc_y p2), .v (.int .i64 o.2)]), (1, .arr 3 (List.map enc_sbi o.1))]⟩ : S)) out) := by
  refine AX.wkpost ?_
  refine AX.loop (G := Nat × ((List (ByteArray × Bool × Int)) × Int × Int)) (fun q => (fun g : (List (ByteArray × Bool × Int)) × Int × Int => (⟨[(0, .pt 0 0), (5, .sl 1 0 g.1.length), (6, .sl 2 0 x4.1.length), (7, .v (.int .i64 g.2.1))], [(0, .box [.bs true 1 (List.map enc_y p2), .v (.int .i64 g.2.2)]), (1, .arr 3 (List.map enc_sbi g.1)), (2, .arr 2 (List.map enc_si x4.1))]⟩ : S)) q.2) (fun q => m_spec_someItems_L1 p2 x4 q.1 q.2.1 q.2.2.1 q.2.2.2 = some out) (fun q => q.1) (n, g) h (Wk.refl _) ?_
  clear h
  rintro ⟨fu, v5, v6, v7⟩ h
  cases fu with
  | zero => cases h
  | succ fu =>
    rw [m_spec_someItems_L1] at h
    refine AX.seq ?_
    refine AX.seq ?_
    refine AX.reg (its := []) [0, 5, 6, 7, 17] [0, 1, 2] (s1 := ⟨[(0, .pt 0 0), (5, .sl 1 0 v5.length), (6, .sl 2 0 x4.1.length), (7, .v (.int .i64 v6)), (17, .v (.bool (decide (v6 < (x4.1.length : Int)))))], [(0, .box [.bs true 1 (List.map enc_y p2), .v (.int .i64 v7)]), (1, .arr 3 (List.map enc_sbi v5)), (2, .arr 2 (List.map enc_si x4.1))]⟩) (C := True) (by kernel_rfl) trivial trivial ?_
    rcases bool_cases (decide (v6 < (x4.1.length : Int))) with b2 | b2
    · replace h := cd_t b2 h
      refine AX.condT (decide (v6 < (x4.1.length : Int))) (by kernel_rfl) b2 ?_
      refine AX.skip ?_
      refine AX.seq ?_
      refine AX.block ?_
      refine AX.seq ?_
      obtain ⟨g3, h⟩ := gd_e h
      refine AX.drw mixed (its := [.auto {}, .auto {}, .auto {}, .auto {}, .auto { y := some (.v (.string ((gt x4.1 v6).1))) }, .auto {}, .auto {}, .auto {}, .auto {}, .auto { y := some (.v (.int .i64 ((gt x4.1 v6).2))) }, .auto {}, .auto { nk := 3 }]) [0, 5, 6, 7, 8] [0, 1, 2, 3] (s1 := ⟨[(0, .pt 0 0), (5, .sl 1 0 v5.length), (6, .sl 2 0 x4.1.length), (7, .v (.int .i64 v6)), (8, .pt 3 0)], [(0, .box [.bs true 1 (List.map enc_y p2), .v (.int .i64 v7)]), (1, .arr 3 (List.map enc_sbi v5)), (2, .arr 2 (List.map enc_si x4.1)), (3, .box [.v (.string ((gt x4.1 v6).1)), .v (.bool false), .v (.int .i64 ((gt x4.1 v6).2))])]⟩) (C := (0 ≤ v6 ∧ v6 < (x4.1.length : Int)) ∧ (True ∧ (AV.v (((List.map enc_si x4.1).getD (0 + v6.toNat) []).getD 0 undef) = .v (.string ((gt x4.1 v6).1)))) ∧ (0 ≤ v6 ∧ v6 < (x4.1.length : Int)) ∧ (True ∧ (AV.v (((List.map enc_si x4.1).getD (0 + v6.toNat) []).getD 1 undef) = .v (.int .i64 ((gt x4.1 v6).2)))) ∧ True) (by kernel_rfl) ⟨g3, ⟨⟨trivial, (congrArg (fun z : List Value => AV.v (z.getD 0 undef)) (idx_arr (enc := enc_si) rfl g3))⟩, ⟨g3, ⟨⟨trivial, (congrArg (fun z : List Value => AV.v (z.getD 1 undef)) (idx_arr (enc := enc_si) rfl g3))⟩, trivial⟩⟩⟩⟩ trivial ?_
      refine AX.seq ?_
      refine AX.seq ?_
      obtain ⟨x8, e4, h⟩ := bd_e h
      refine AX.reg (its := [.auto {}, .call 15 [.pt 0 0, .v (.int .i64 2)] (handO (rho ([0] ++ [])) [0] [.box [.bs true 1 (List.map enc_y p2), .v (.int .i64 v7)]] ++ []) (callEv [0] [] (.v (.int .i64 x8)) [.box [.bs true 1 (List.map enc_y p2), .v (.int .i64 (IntKind.wrap .i64 (v7 + 1)))]])]) [0, 5, 6, 7, 8, 33] [0, 1, 2, 3] (s1 := ⟨[(0, .pt 0 0), (5, .sl 1 0 v5.length), (6, .sl 2 0 x4.1.length), (7, .v (.int .i64 v6)), (8, .pt 3 0), (33, .v (.bool (decide (x8 = 0))))], [(0, .box [.bs true 1 (List.map enc_y p2), .v (.int .i64 (IntKind.wrap .i64 (v7 + 1)))]), (1, .arr 3 (List.map enc_sbi v5)), (2, .arr 2 (List.map enc_si x4.1)), (3, .box [.v (.string ((gt x4.1 v6).1)), .v (.bool false), .v (.int .i64 ((gt x4.1 v6).2))])]⟩) (C := ((([.pt 0 0, .v (.int .i64 2)] : List AV) = [.pt 0 0, .v (.int .i64 2)]) ∧ (AO.box [.bs true 1 (List.map enc_y p2), .v (.int .i64 v7)] = AO.box [.bs true 1 (List.map enc_y p2), .v (.int .i64 v7)]) ∧ True) ∧ True) (by kernel_rfl) ⟨⟨rfl, rfl, trivial⟩, trivial⟩ ⟨call_ok (ks := [0]) (ns := []) (bor := []) (bobjs := []) (s_spec_reader_pick 2 p2 v7 x8 e4) (.cons (.c1 (.c0 (.same _ (by kernel_rfl) (by kernel_rfl)))) (.cons (.c1 (.c0 (.same _ (by kernel_rfl) (by kernel_rfl)))) (.nil))) (by kernel_rfl) ⟨.inr rfl, trivial⟩, trivial⟩ ?_
      rcases bool_cases (decide (x8 = 0)) with b5 | b5
      · replace h := cd_t b5 h
        refine AX.condT (decide (x8 = 0)) (by kernel_rfl) b5 ?_
        refine AX.reg (its := [.auto {}, .auto {}, .auto {}, .auto {}, .auto { y := some (.v (.string ((gt x4.1 v6).1))) }]) [0, 5, 6, 7, 8] [0, 1, 2, 3] (s1 := ⟨[(0, .pt 0 0), (5, .sl 1 0 v5.length), (6, .sl 2 0 x4.1.length), (7, .v (.int .i64 v6)), (8, .pt 3 0)], [(0, .box [.bs true 1 (List.map enc_y p2), .v (.int .i64 (IntKind.wrap .i64 (v7 + 1)))]), (1, .arr 3 (List.map enc_sbi v5)), (2, .arr 2 (List.map enc_si x4.1)), (3, .box [.v (.string ((gt x4.1 v6).1)), .v (.bool true), .v (.int .i64 0)])]⟩) (C := (0 ≤ v6 ∧ v6 < (x4.1.length : Int)) ∧ (True ∧ (AV.v (((List.map enc_si x4.1).getD (0 + v6.toNat) []).getD 0 undef) = .v (.string ((gt x4.1 v6).1)))) ∧ True) (by kernel_rfl) ⟨g3, ⟨⟨trivial, (congrArg (fun z : List Value => AV.v (z.getD 0 undef)) (idx_arr (enc := enc_si) rfl g3))⟩, trivial⟩⟩ trivial ?_
        obtain ⟨g6, h⟩ := gd_e h
        refine AX.reg (its := [.auto {}, .auto {}, .auto { nk := 4 }, .auto { y := some (.sl 5 0 ((v5 ++ ([((gt x4.1 v6).1, true, 0)] : List (ByteArray × Bool × Int))).length)), els := some (List.map enc_sbi v5), els2 := some (List.map enc_sbi ([((gt x4.1 v6).1, true, 0)] : List (ByteArray × Bool × Int))), nk := 5 }]) [0, 5, 6, 7] [0, 2, 5] (s1 := ⟨[(0, .pt 0 0), (5, .sl 5 0 ((v5 ++ ([((gt x4.1 v6).1, true, 0)] : List (ByteArray × Bool × Int))).length)), (6, .sl 2 0 x4.1.length), (7, .v (.int .i64 v6))], [(0, .box [.bs true 1 (List.map enc_y p2), .v (.int .i64 (IntKind.wrap .i64 (v7 + 1)))]), (2, .arr 2 (List.map enc_si x4.1)), (5, .arr 3 (List.map enc_sbi v5 ++ List.map enc_sbi ([((gt x4.1 v6).1, true, 0)] : List (ByteArray × Bool × Int))))]⟩) (C := ((((((List.map enc_sbi v5).drop 0).take (v5.length) = List.map enc_sbi v5) ∧ (((List.map enc_sbi ([((gt x4.1 v6).1, true, 0)] : List (ByteArray × Bool × Int))).drop 0).take (([((gt x4.1 v6).1, true, 0)] : List (ByteArray × Bool × Int)).length) = List.map enc_sbi ([((gt x4.1 v6).1, true, 0)] : List (ByteArray × Bool × Int)))) ∧ (List.map enc_sbi v5).length + (List.map enc_sbi ([((gt x4.1 v6).1, true, 0)] : List (ByteArray × Bool × Int))).length ≤ 1099511627776) ∧ (AV.sl 5 0 (List.map enc_sbi v5 ++ List.map enc_sbi ([((gt x4.1 v6).1, true, 0)] : List (ByteArray × Bool × Int))).length = AV.sl 5 0 (v5 ++ ([((gt x4.1 v6).1, true, 0)] : List (ByteArray × Bool × Int))).length)) ∧ True) (by kernel_rfl) ⟨⟨⟨⟨(dt_all (enc := enc_sbi) rfl rfl), (dt_all (enc := enc_sbi) rfl rfl)⟩, (by simp only [List.length_map, List.length_nil, List.length_replicate]; simpa using g6)⟩, sl_len (enc := enc_sbi) (app_can (enc := enc_sbi) rfl (rfl))⟩, trivial⟩ trivial ?_
        refine AX.reg (its := [.auto {}, .auto { raw := true }]) [0, 5, 6, 7] [0, 2, 5] (s1 := ⟨[(0, .pt 0 0), (5, .sl 5 0 ((v5 ++ ([((gt x4.1 v6).1, true, 0)] : List (ByteArray × Bool × Int))).length)), (6, .sl 2 0 x4.1.length), (7, .v (.int .i64 (IntKind.wrap .i64 (v6 + 1))))], [(0, .box [.bs true 1 (List.map enc_y p2), .v (.int .i64 (IntKind.wrap .i64 (v7 + 1)))]), (2, .arr 2 (List.map enc_si x4.1)), (5, .arr 3 (List.map enc_sbi v5 ++ List.map enc_sbi ([((gt x4.1 v6).1, true, 0)] : List (ByteArray × Bool × Int))))]⟩) (C := True) (by kernel_rfl) trivial trivial ?_
        refine ⟨(fu, (v5 ++ ([((gt x4.1 v6).1, true, 0)] : List (ByteArray × Bool × Int)), IntKind.wrap .i64 (v6 + 1), IntKind.wrap .i64 (v7 + 1))), h, Nat.lt_succ_self _, ?_⟩
        refine Wk.trans (Wk.swap 1 5 (Nat.le_of_ble_eq_true (by kernel_rfl)) (Nat.le_of_ble_eq_true (by kernel_rfl)) rfl) ?_
        refine Wk.trans (Wk.forget [0, 5, 6, 7] [0, 1, 2] (s' := ⟨[(0, .pt 0 0), (5, .sl 1 0 ((v5 ++ ([((gt x4.1 v6).1, true, 0)] : List (ByteArray × Bool × Int))).length)), (6, .sl 2 0 x4.1.length), (7, .v (.int .i64 (IntKind.wrap .i64 (v6 + 1))))], [(0, .box [.bs true 1 (List.map enc_y p2), .v (.int .i64 (IntKind.wrap .i64 (v7 + 1)))]), (1, .arr 3 (List.map enc_sbi v5 ++ List.map enc_sbi ([((gt x4.1 v6).1, true, 0)] : List (ByteArray × Bool × Int)))), (2, .arr 2 (List.map enc_si x4.1))]⟩) (by kernel_rfl)) ?_
        refine Wk.trans (Wk.of_eq (congrArg (fun z => (⟨[(0, .pt 0 0), (5, .sl 1 0 ((v5 ++ ([((gt x4.1 v6).1, true, 0)] : List (ByteArray × Bool × Int))).length)), (6, .sl 2 0 x4.1.length), (7, .v (.int .i64 (IntKind.wrap .i64 (v6 + 1))))], [(0, .box [.bs true 1 (List.map enc_y p2), .v (.int .i64 (IntKind.wrap .i64 (v7 + 1)))]), (1, .arr 3 (z)), (2, .arr 2 (List.map enc_si x4.1))]⟩ : S)) (app_can (enc := enc_sbi) rfl (rfl) : List.map enc_sbi v5 ++ List.map enc_sbi ([((gt x4.1 v6).1, true, 0)] : List (ByteArray × Bool × Int)) = List.map enc_sbi (v5 ++ ([((gt x4.1 v6).1, true, 0)] : List (ByteArray × Bool × Int)))))) ?_
        exact Wk.refl _
      · replace h := cd_f b5 h
        refine AX.condF (decide (x8 = 0)) (by kernel_rfl) b5 ?_
        refine AX.skip ?_
        obtain ⟨g7, h⟩ := gd_e h
        refine AX.reg (its := [.auto {}, .auto {}, .auto { nk := 4 }, .auto { y := some (.sl 5 0 ((v5 ++ ([((gt x4.1 v6).1, false, (gt x4.1 v6).2)] : List (ByteArray × Bool × Int))).length)), els := some (List.map enc_sbi v5), els2 := some (List.map enc_sbi ([((gt x4.1 v6).1, false, (gt x4.1 v6).2)] : List (ByteArray × Bool × Int))), nk := 5 }]) [0, 5, 6, 7] [0, 2, 5] (s1 := ⟨[(0, .pt 0 0), (5, .sl 5 0 ((v5 ++ ([((gt x4.1 v6).1, false, (gt x4.1 v6).2)] : List (ByteArray × Bool × Int))).length)), (6, .sl 2 0 x4.1.length), (7, .v (.int .i64 v6))], [(0, .box [.bs true 1 (List.map enc_y p2), .v (.int .i64 (IntKind.wrap .i64 (v7 + 1)))]), (2, .arr 2 (List.map enc_si x4.1)), (5, .arr 3 (List.map enc_sbi v5 ++ List.map enc_sbi ([((gt x4.1 v6).1, false, (gt x4.1 v6).2)] : List (ByteArray × Bool × Int))))]⟩) (C := ((((((List.map enc_sbi v5).drop 0).take (v5.length) = List.map enc_sbi v5) ∧ (((List.map enc_sbi ([((gt x4.1 v6).1, false, (gt x4.1 v6).2)] : List (ByteArray × Bool × Int))).drop 0).take (([((gt x4.1 v6).1, false, (gt x4.1 v6).2)] : List (ByteArray × Bool × Int)).length) = List.map enc_sbi ([((gt x4.1 v6).1, false, (gt x4.1 v6).2)] : List (ByteArray × Bool × Int)))) ∧ (List.map enc_sbi v5).length + (List.map enc_sbi ([((gt x4.1 v6).1, false, (gt x4.1 v6).2)] : List (ByteArray × Bool × Int))).length ≤ 1099511627776) ∧ (AV.sl 5 0 (List.map enc_sbi v5 ++ List.map enc_sbi ([((gt x4.1 v6).1, false, (gt x4.1 v6).2)] : List (ByteArray × Bool × Int))).length = AV.sl 5 0 (v5 ++ ([((gt x4.1 v6).1, false, (gt x4.1 v6).2)] : List (ByteArray × Bool × Int))).length)) ∧ True) (by kernel_rfl) ⟨⟨⟨⟨(dt_all (enc := enc_sbi) rfl rfl), (dt_all (enc := enc_sbi) rfl rfl)⟩, (by simp only [List.length_map, List.length_nil, List.length_replicate]; simpa using g7)⟩, sl_len (enc := enc_sbi) (app_can (enc := enc_sbi) rfl (rfl))⟩, trivial⟩ trivial ?_
        refine AX.reg (its := [.auto {}, .auto { raw := true }]) [0, 5, 6, 7] [0, 2, 5] (s1 := ⟨[(0, .pt 0 0), (5, .sl 5 0 ((v5 ++ ([((gt x4.1 v6).1, false, (gt x4.1 v6).2)] : List (ByteArray × Bool × Int))).length)), (6, .sl 2 0 x4.1.length), (7, .v (.int .i64 (IntKind.wrap .i64 (v6 + 1))))], [(0, .box [.bs true 1 (List.map enc_y p2), .v (.int .i64 (IntKind.wrap .i64 (v7 + 1)))]), (2, .arr 2 (List.map enc_si x4.1)), (5, .arr 3 (List.map enc_sbi v5 ++ List.map enc_sbi ([((gt x4.1 v6).1, false, (gt x4.1 v6).2)] : List (ByteArray × Bool × Int))))]⟩) (C := True) (by kernel_rfl) trivial trivial ?_
        refine ⟨(fu, (v5 ++ ([((gt x4.1 v6).1, false, (gt x4.1 v6).2)] : List (ByteArray × Bool × Int)), IntKind.wrap .i64 (v6 + 1), IntKind.wrap .i64 (v7 + 1))), h, Nat.lt_succ_self _, ?_⟩
        refine Wk.trans (Wk.swap 1 5 (Nat.le_of_ble_eq_true (by kernel_rfl)) (Nat.le_of_ble_eq_true (by kernel_rfl)) rfl) ?_
        refine Wk.trans (Wk.forget [0, 5, 6, 7] [0, 1, 2] (s' := ⟨[(0, .pt 0 0), (5, .sl 1 0 ((v5 ++ ([((gt x4.1 v6).1, false, (gt x4.1 v6).2)] : List (ByteArray × Bool × Int))).length)), (6, .sl 2 0 x4.1.length), (7, .v (.int .i64 (IntKind.wrap .i64 (v6 + 1))))], [(0, .box [.bs true 1 (List.map enc_y p2), .v (.int .i64 (IntKind.wrap .i64 (v7 + 1)))]), (1, .arr 3 (List.map enc_sbi v5 ++ List.map enc_sbi ([((gt x4.1 v6).1, false, (gt x4.1 v6).2)] : List (ByteArray × Bool × Int)))), (2, .arr 2 (List.map enc_si x4.1))]⟩) (by kernel_rfl)) ?_
        refine Wk.trans (Wk.of_eq (congrArg (fun z => (⟨[(0, .pt 0 0), (5, .sl 1 0 ((v5 ++ ([((gt x4.1 v6).1, false, (gt x4.1 v6).2)] : List (ByteArray × Bool × Int))).length)), (6, .sl 2 0 x4.1.length), (7, .v (.int .i64 (IntKind.wrap .i64 (v6 + 1))))], [(0, .box [.bs true 1 (List.map enc_y p2), .v (.int .i64 (IntKind.wrap .i64 (v7 + 1)))]), (1, .arr 3 (z)), (2, .arr 2 (List.map enc_si x4.1))]⟩ : S)) (app_can (enc := enc_sbi) rfl (rfl) : List.map enc_sbi v5 ++ List.map enc_sbi ([((gt x4.1 v6).1, false, (gt x4.1 v6).2)] : List (ByteArray × Bool × Int)) = List.map enc_sbi (v5 ++ ([((gt x4.1 v6).1, false, (gt x4.1 v6).2)] : List (ByteArray × Bool × Int)))))) ?_
        exact Wk.refl _
    · replace h := cd_f b2 h
      refine AX.condF (decide (v6 < (x4.1.length : Int))) (by kernel_rfl) b2 ?_
      refine AX.exit ?_
      refine fin_wk (Wk.forget [0, 5] [0, 1] (s' := ⟨[(0, .pt 0 0), (5, .sl 1 0 v5.length)], [(0, .box [.bs true 1 (List.map enc_y p2), .v (.int .i64 v7)]), (1, .arr 3 (List.map enc_sbi v5))]⟩) (by kernel_rfl)) ?_
      have hr := Option.some.inj h
      subst hr
      exact ⟨_, Wk.refl _, ⟨rfl, rfl⟩⟩

theorem s_spec_someItems (p1 : Int) (p2 : List (Int)) (p3 : Int) (r : (List (ByteArray × Bool × Int)) × Int) (h : m_spec_someItems p1 p2 p3 = some r) :
    Eng.Spec Tryz.prog 14 [.pt 0 0, .v (.int .i64 p1)] [.box [.bs true 1 (List.map enc_y p2), .v (.int .i64 p3)]] (.sl 1 0 r.1.length) [.box [.bs true 1 (List.map enc_y p2), .v (.int .i64 r.2)], .arr 3 (List.map enc_sbi r.1)] := by
  unfold m_spec_someItems at h
  refine Eng.Spec.body Tryz.func14 (by kernel_rfl) rfl (by kernel_rfl) ?_
  refine AX.wkpost ?_
  refine AX.seq ?_
  refine AX.reg (its := []) [0, 1] [0] (s1 := ⟨[(0, .pt 0 0), (1, .v (.int .i64 p1))], [(0, .box [.bs true 1 (List.map enc_y p2), .v (.int .i64 p3)])]⟩) (C := True) (by kernel_rfl) trivial trivial ?_
  refine AX.seq ?_
  refine AX.reg (its := [.auto { nk := 1 }]) [0, 1, 5] [0, 1] (s1 := ⟨[(0, .pt 0 0), (1, .v (.int .i64 p1)), (5, .sl 1 0 (([] : List (ByteArray × Bool × Int)).length))], [(0, .box [.bs true 1 (List.map enc_y p2), .v (.int .i64 p3)]), (1, .arr 3 (List.map enc_sbi ([] : List (ByteArray × Bool × Int))))]⟩) (C := True) (by kernel_rfl) trivial trivial ?_
  refine AX.seq ?_
  obtain ⟨x4, e1, h⟩ := bd_e h
  refine AX.reg (its := [.auto {}, .auto {}, .call 28 [.pt 0 0, .v (.int .i64 p1)] (handO (rho ([0] ++ [2])) [0] [.box [.bs true 1 (List.map enc_y p2), .v (.int .i64 p3)]] ++ []) (callEv [0] [2] (.sl 1 0 x4.1.length) [.box [.bs true 1 (List.map enc_y p2), .v (.int .i64 x4.2)], .arr 2 (List.map enc_si x4.1)])]) [0, 5, 6] [0, 1, 2] (s1 := ⟨[(0, .pt 0 0), (5, .sl 1 0 (([] : List (ByteArray × Bool × Int)).length)), (6, .sl 2 0 x4.1.length)], [(0, .box [.bs true 1 (List.map enc_y p2), .v (.int .i64 x4.2)]), (1, .arr 3 (List.map enc_sbi ([] : List (ByteArray × Bool × Int)))), (2, .arr 2 (List.map enc_si x4.1))]⟩) (C := ((([.pt 0 0, .v (.int .i64 p1)] : List AV) = [.pt 0 0, .v (.int .i64 p1)]) ∧ (AO.box [.bs true 1 (List.map enc_y p2), .v (.int .i64 p3)] = AO.box [.bs true 1 (List.map enc_y p2), .v (.int .i64 p3)]) ∧ True) ∧ True) (by kernel_rfl) ⟨⟨rfl, rfl, trivial⟩, trivial⟩ ⟨call_ok (ks := [0]) (ns := [2]) (bor := []) (bobjs := []) (s_spec_goodDefs p1 p2 p3 x4 e1) (.cons (.c1 (.c0 (.same _ (by kernel_rfl) (by kernel_rfl)))) (.cons (.c1 (.c0 (.same _ (by kernel_rfl) (by kernel_rfl)))) (.nil))) (by kernel_rfl) ⟨.inr rfl, trivial⟩, trivial⟩ ?_
  refine AX.seq ?_
  refine AX.seq ?_
  refine AX.reg (its := []) [0, 5, 6, 7] [0, 1, 2] (s1 := ⟨[(0, .pt 0 0), (5, .sl 1 0 (([] : List (ByteArray × Bool × Int)).length)), (6, .sl 2 0 x4.1.length), (7, .v (.int .i64 0))], [(0, .box [.bs true 1 (List.map enc_y p2), .v (.int .i64 x4.2)]), (1, .arr 3 (List.map enc_sbi ([] : List (ByteArray × Bool × Int)))), (2, .arr 2 (List.map enc_si x4.1))]⟩) (C := True) (by kernel_rfl) trivial trivial ?_
  refine AX.block ?_
  obtain ⟨x9, e8, h⟩ := bd_e h
  refine AX.wk (Wk.forget [0, 5, 6, 7] [0, 1, 2] (s' := ⟨[(0, .pt 0 0), (5, .sl 1 0 (([] : List (ByteArray × Bool × Int)).length)), (6, .sl 2 0 x4.1.length), (7, .v (.int .i64 0))], [(0, .box [.bs true 1 (List.map enc_y p2), .v (.int .i64 x4.2)]), (1, .arr 3 (List.map enc_sbi ([] : List (ByteArray × Bool × Int)))), (2, .arr 2 (List.map enc_si x4.1))]⟩) (by kernel_rfl)) ?_
  refine AX.mono (s_spec_someItems_L1 p2 x4 FU (([] : List (ByteArray × Bool × Int)), 0, x4.2) x9 e8) ?_
  rintro _ _ ⟨rfl, rfl⟩
  skip
  refine AX.seq ?_
  refine AX.seq ?_
  rcases bool_cases (decide (0 < (x9.1.length : Int))) with b9 | b9
  · replace h := cd_t b9 h
    obtain ⟨x10, e10, h⟩ := bd_e h
    refine AX.reg (its := [.auto {}, .auto {}, .auto { y := some (.v (.bool true)) }, .auto {}, .auto {}, .call 15 [.pt 0 0, .v (.int .i64 16)] (handO (rho ([0] ++ [])) [0] [.box [.bs true 1 (List.map enc_y p2), .v (.int .i64 x9.2)]] ++ []) (callEv [0] [] (.v (.int .i64 x10)) [.box [.bs true 1 (List.map enc_y p2), .v (.int .i64 (IntKind.wrap .i64 (x9.2 + 1)))]])]) [0, 5, 51] [0, 1] (s1 := ⟨[(0, .pt 0 0), (5, .sl 1 0 x9.1.length), (51, .v (.bool (decide (x10 = 0))))], [(0, .box [.bs true 1 (List.map enc_y p2), .v (.int .i64 (IntKind.wrap .i64 (x9.2 + 1)))]), (1, .arr 3 (List.map enc_sbi x9.1))]⟩) (C := ((True) ∧ ((.v (.bool (decide (0 < (x9.1.length : Int)))) : AV) = (.v (.bool true) : AV))) ∧ ((([.pt 0 0, .v (.int .i64 16)] : List AV) = [.pt 0 0, .v (.int .i64 16)]) ∧ (AO.box [.bs true 1 (List.map enc_y p2), .v (.int .i64 x9.2)] = AO.box [.bs true 1 (List.map enc_y p2), .v (.int .i64 x9.2)]) ∧ True) ∧ True) (by kernel_rfl) ⟨⟨trivial, (congrArg (fun z => AV.v (.bool z)) b9)⟩, ⟨⟨rfl, rfl, trivial⟩, trivial⟩⟩ ⟨call_ok (ks := [0]) (ns := []) (bor := []) (bobjs := []) (s_spec_reader_pick 16 p2 x9.2 x10 e10) (.cons (.c1 (.c0 (.same _ (by kernel_rfl) (by kernel_rfl)))) (.cons (.c1 (.c0 (.same _ (by kernel_rfl) (by kernel_rfl)))) (.nil))) (by kernel_rfl) ⟨.inr rfl, trivial⟩, trivial⟩ ?_
    rcases bool_cases (decide (x10 = 0)) with b11 | b11
    · replace h := cd_t b11 h
      refine AX.condT (decide (x10 = 0)) (by kernel_rfl) b11 ?_
      refine AX.seq ?_
      obtain ⟨x11, e12, h⟩ := bd_e h
      refine AX.reg (its := [.auto {}, .auto {}, .auto {}, .call 15 [.pt 0 0, .v (.int .i64 (x9.1.length : Int))] (handO (rho ([0] ++ [])) [0] [.box [.bs true 1 (List.map enc_y p2), .v (.int .i64 (IntKind.wrap .i64 (x9.2 + 1)))]] ++ []) (callEv [0] [] (.v (.int .i64 x11)) [.box [.bs true 1 (List.map enc_y p2), .v (.int .i64 (IntKind.wrap .i64 ((IntKind.wrap .i64 (x9.2 + 1)) + 1)))]])]) [0, 5, 9] [0, 1] (s1 := ⟨[(0, .pt 0 0), (5, .sl 1 0 x9.1.length), (9, .v (.int .i64 x11))], [(0, .box [.bs true 1 (List.map enc_y p2), .v (.int .i64 (IntKind.wrap .i64 ((IntKind.wrap .i64 (x9.2 + 1)) + 1)))]), (1, .arr 3 (List.map enc_sbi x9.1))]⟩) (C := ((([.pt 0 0, .v (.int .i64 (x9.1.length : Int))] : List AV) = [.pt 0 0, .v (.int .i64 (x9.1.length : Int))]) ∧ (AO.box [.bs true 1 (List.map enc_y p2), .v (.int .i64 (IntKind.wrap .i64 (x9.2 + 1)))] = AO.box [.bs true 1 (List.map enc_y p2), .v (.int .i64 (IntKind.wrap .i64 (x9.2 + 1)))]) ∧ True) ∧ True) (by kernel_rfl) ⟨⟨rfl, rfl, trivial⟩, trivial⟩ ⟨call_ok (ks := [0]) (ns := []) (bor := []) (bobjs := []) (s_spec_reader_pick (x9.1.length : Int) p2 (IntKind.wrap .i64 (x9.2 + 1)) x11 e12) (.cons (.c1 (.c0 (.same _ (by kernel_rfl) (by kernel_rfl)))) (.cons (.c1 (.c0 (.same _ (by kernel_rfl) (by kernel_rfl)))) (.nil))) (by kernel_rfl) ⟨.inr rfl, trivial⟩, trivial⟩ ?_
      obtain ⟨x12, e13, h⟩ := bd_e h
      obtain ⟨x13, e14, h⟩ := bd_e h
      obtain ⟨x14, e15, h⟩ := bd_e h
      obtain ⟨g16, h⟩ := gd_e h
      refine AX.reg (its := [.auto {}, .auto {}, .auto {}, .call 29 [.pt 0 0] (handO (rho ([0] ++ [])) [0] [.box [.bs true 1 (List.map enc_y p2), .v (.int .i64 (IntKind.wrap .i64 ((IntKind.wrap .i64 (x9.2 + 1)) + 1)))]] ++ []) (callEv [0] [] (.v (.string x12)) [.box [.bs true 1 (List.map enc_y p2), .v (.int .i64 (IntKind.wrap .i64 ((IntKind.wrap .i64 ((IntKind.wrap .i64 ((IntKind.wrap .i64 (x9.2 + 1)) + 1)) + 1)) + 1)))]]), .auto {}, .call 15 [.pt 0 0, .v (.int .i64 2)] (handO (rho ([0] ++ [])) [0] [.box [.bs true 1 (List.map enc_y p2), .v (.int .i64 (IntKind.wrap .i64 ((IntKind.wrap .i64 ((IntKind.wrap .i64 ((IntKind.wrap .i64 (x9.2 + 1)) + 1)) + 1)) + 1)))]] ++ []) (callEv [0] [] (.v (.int .i64 x13)) [.box [.bs true 1 (List.map enc_y p2), .v (.int .i64 (IntKind.wrap .i64 ((IntKind.wrap .i64 ((IntKind.wrap .i64 ((IntKind.wrap .i64 ((IntKind.wrap .i64 (x9.2 + 1)) + 1)) + 1)) + 1)) + 1)))]]), .auto {}, .auto {}, .auto { nk := 2 }, .call 30 [.pt 0 0, .sl 2 0 (([5, (-1), 4096, 1001] : List (Int)).length)] (handO (rho ([0] ++ [])) [0] [.box [.bs true 1 (List.map enc_y p2), .v (.int .i64 (IntKind.wrap .i64 ((IntKind.wrap .i64 ((IntKind.wrap .i64 ((IntKind.wrap .i64 ((IntKind.wrap .i64 (x9.2 + 1)) + 1)) + 1)) + 1)) + 1)))]] ++ [(2, .arr 1 (List.map enc_i ([5, (-1), 4096, 1001] : List (Int))))]) (callEv [0] [] (.v (.int .i64 x14)) [.box [.bs true 1 (List.map enc_y p2), .v (.int .i64 (IntKind.wrap .i64 ((IntKind.wrap .i64 ((IntKind.wrap .i64 ((IntKind.wrap .i64 ((IntKind.wrap .i64 ((IntKind.wrap .i64 (x9.2 + 1)) + 1)) + 1)) + 1)) + 1)) + 1)))]])]) [5] [0, 1] (s1 := ⟨[(5, .sl 1 0 x9.1.length)], [(0, .box [.bs true 1 (List.map enc_y p2), .v (.int .i64 (IntKind.wrap .i64 ((IntKind.wrap .i64 ((IntKind.wrap .i64 ((IntKind.wrap .i64 ((IntKind.wrap .i64 ((IntKind.wrap .i64 (x9.2 + 1)) + 1)) + 1)) + 1)) + 1)) + 1)))]), (1, .arr 3 ((List.map enc_sbi x9.1).set (0 + x11.toNat) [(.string x12), (.bool (decide (x13 = 0))), (.int .i64 x14)]))]⟩) (C := ((([.pt 0 0] : List AV) = [.pt 0 0]) ∧ (AO.box [.bs true 1 (List.map enc_y p2), .v (.int .i64 (IntKind.wrap .i64 ((IntKind.wrap .i64 (x9.2 + 1)) + 1)))] = AO.box [.bs true 1 (List.map enc_y p2), .v (.int .i64 (IntKind.wrap .i64 ((IntKind.wrap .i64 (x9.2 + 1)) + 1)))]) ∧ True) ∧ ((([.pt 0 0, .v (.int .i64 2)] : List AV) = [.pt 0 0, .v (.int .i64 2)]) ∧ (AO.box [.bs true 1 (List.map enc_y p2), .v (.int .i64 (IntKind.wrap .i64 ((IntKind.wrap .i64 ((IntKind.wrap .i64 ((IntKind.wrap .i64 (x9.2 + 1)) + 1)) + 1)) + 1)))] = AO.box [.bs true 1 (List.map enc_y p2), .v (.int .i64 (IntKind.wrap .i64 ((IntKind.wrap .i64 ((IntKind.wrap .i64 ((IntKind.wrap .i64 (x9.2 + 1)) + 1)) + 1)) + 1)))]) ∧ True) ∧ ((([.pt 0 0, .sl 2 0 (([5, (-1), 4096, 1001] : List (Int)).length)] : List AV) = [.pt 0 0, .sl 2 0 (([5, (-1), 4096, 1001] : List (Int)).length)]) ∧ (AO.box [.bs true 1 (List.map enc_y p2), .v (.int .i64 (IntKind.wrap .i64 ((IntKind.wrap .i64 ((IntKind.wrap .i64 ((IntKind.wrap .i64 ((IntKind.wrap .i64 (x9.2 + 1)) + 1)) + 1)) + 1)) + 1)))] = AO.box [.bs true 1 (List.map enc_y p2), .v (.int .i64 (IntKind.wrap .i64 ((IntKind.wrap .i64 ((IntKind.wrap .i64 ((IntKind.wrap .i64 ((IntKind.wrap .i64 (x9.2 + 1)) + 1)) + 1)) + 1)) + 1)))]) ∧ (AO.arr 1 (List.map enc_i ([5, (-1), 4096, 1001] : List (Int))) = AO.arr 1 (List.map enc_i ([5, (-1), 4096, 1001] : List (Int)))) ∧ True) ∧ (0 ≤ x11 ∧ x11 < (x9.1.length : Int)) ∧ True) (by kernel_rfl) ⟨⟨rfl, rfl, trivial⟩, ⟨⟨rfl, rfl, trivial⟩, ⟨⟨rfl, rfl, rfl, trivial⟩, ⟨g16, trivial⟩⟩⟩⟩ ⟨call_ok (ks := [0]) (ns := []) (bor := []) (bobjs := []) (s_spec_anyName p2 (IntKind.wrap .i64 ((IntKind.wrap .i64 (x9.2 + 1)) + 1)) x12 e13) (.cons (.c1 (.c0 (.same _ (by kernel_rfl) (by kernel_rfl)))) (.nil)) (by kernel_rfl) ⟨.inr rfl, trivial⟩, ⟨call_ok (ks := [0]) (ns := []) (bor := []) (bobjs := []) (s_spec_reader_pick 2 p2 (IntKind.wrap .i64 ((IntKind.wrap .i64 ((IntKind.wrap .i64 ((IntKind.wrap .i64 (x9.2 + 1)) + 1)) + 1)) + 1)) x13 e14) (.cons (.c1 (.c0 (.same _ (by kernel_rfl) (by kernel_rfl)))) (.cons (.c1 (.c0 (.same _ (by kernel_rfl) (by kernel_rfl)))) (.nil))) (by kernel_rfl) ⟨.inr rfl, trivial⟩, ⟨call_ok (ks := [0]) (ns := []) (bor := [2]) (bobjs := [(2, .arr 1 (List.map enc_i ([5, (-1), 4096, 1001] : List (Int))))]) (s_spec_reader_one ([5, (-1), 4096, 1001] : List (Int)) p2 (IntKind.wrap .i64 ((IntKind.wrap .i64 ((IntKind.wrap .i64 ((IntKind.wrap .i64 ((IntKind.wrap .i64 (x9.2 + 1)) + 1)) + 1)) + 1)) + 1)) x14 e15) (.cons (.c1 (.c0 (.same _ (by kernel_rfl) (by kernel_rfl)))) (.cons (.c1 (.c0 (.arr rfl rfl ((rfl).trans (List.length_map ..).symm)))) (.nil))) (by kernel_rfl) ⟨.inr rfl, trivial⟩, trivial⟩⟩⟩ ?_
      refine AX.seq ?_
      refine AX.reg (its := []) [4] [0, 1] (s1 := ⟨[(4, .sl 1 0 x9.1.length)], [(0, .box [.bs true 1 (List.map enc_y p2), .v (.int .i64 (IntKind.wrap .i64 ((IntKind.wrap .i64 ((IntKind.wrap .i64 ((IntKind.wrap .i64 ((IntKind.wrap .i64 ((IntKind.wrap .i64 (x9.2 + 1)) + 1)) + 1)) + 1)) + 1)) + 1)))]), (1, .arr 3 ((List.map enc_sbi x9.1).set (0 + x11.toNat) [(.string x12), (.bool (decide (x13 = 0))), (.int .i64 x14)]))]⟩) (C := True) (by kernel_rfl) trivial trivial ?_
      refine AX.ret ?_
      refine fin_wk (Wk.forget [4] [0, 1] (s' := ⟨[(4, .sl 1 0 x9.1.length)], [(0, .box [.bs true 1 (List.map enc_y p2), .v (.int .i64 (IntKind.wrap .i64 ((IntKind.wrap .i64 ((IntKind.wrap .i64 ((IntKind.wrap .i64 ((IntKind.wrap .i64 ((IntKind.wrap .i64 (x9.2 + 1)) + 1)) + 1)) + 1)) + 1)) + 1)))]), (1, .arr 3 ((List.map enc_sbi x9.1).set (0 + x11.toNat) [(.string x12), (.bool (decide (x13 = 0))), (.int .i64 x14)]))]⟩) (by kernel_rfl)) ?_
      refine fin_wk (Wk.of_eq (congrArg (fun z => (⟨[(4, .sl 1 0 x9.1.length)], [(0, .box [.bs true 1 (List.map enc_y p2), .v (.int .i64 (IntKind.wrap .i64 ((IntKind.wrap .i64 ((IntKind.wrap .i64 ((IntKind.wrap .i64 ((IntKind.wrap .i64 ((IntKind.wrap .i64 (x9.2 + 1)) + 1)) + 1)) + 1)) + 1)) + 1)))]), (1, .arr 3 (z))]⟩ : S)) (set_can (enc := enc_sbi) rfl (0 + x11.toNat) (x12, decide (x13 = 0), x14)))) ?_
      refine fin_wk (Wk.of_eq (congrArg (fun z => (⟨[(4, .sl 1 0 z)], [(0, .box [.bs true 1 (List.map enc_y p2), .v (.int .i64 (IntKind.wrap .i64 ((IntKind.wrap .i64 ((IntKind.wrap .i64 ((IntKind.wrap .i64 ((IntKind.wrap .i64 ((IntKind.wrap .i64 (x9.2 + 1)) + 1)) + 1)) + 1)) + 1)) + 1)))]), (1, .arr 3 (List.map enc_sbi (x9.1.set (0 + x11.toNat) (x12, decide (x13 = 0), x14))))]⟩ : S)) (set_len ((rfl : x9.1.length = x9.1.length)) (0 + x11.toNat) (x12, decide (x13 = 0), x14)))) ?_
      have hr := Option.some.inj h
      subst hr
      exact ⟨_, Wk.refl _, .inr rfl, ⟨[1], by kernel_rfl, ⟨rfl, rfl, trivial⟩, [.sl 1 0 ((x9.1.set (0 + x11.toNat) (x12, decide (x13 = 0), x14)).length)], by kernel_rfl, by kernel_rfl⟩⟩
    · replace h := cd_f b11 h
      refine AX.condF (decide (x10 = 0)) (by kernel_rfl) b11 ?_
      refine AX.skip ?_
      refine AX.seq ?_
      refine AX.reg (its := []) [4] [0, 1] (s1 := ⟨[(4, .sl 1 0 x9.1.length)], [(0, .box [.bs true 1 (List.map enc_y p2), .v (.int .i64 (IntKind.wrap .i64 (x9.2 + 1)))]), (1, .arr 3 (List.map enc_sbi x9.1))]⟩) (C := True) (by kernel_rfl) trivial trivial ?_
      refine AX.ret ?_
      refine fin_wk (Wk.forget [4] [0, 1] (s' := ⟨[(4, .sl 1 0 x9.1.length)], [(0, .box [.bs true 1 (List.map enc_y p2), .v (.int .i64 (IntKind.wrap .i64 (x9.2 + 1)))]), (1, .arr 3 (List.map enc_sbi x9.1))]⟩) (by kernel_rfl)) ?_
      have hr := Option.some.inj h
      subst hr
      exact ⟨_, Wk.refl _, .inr rfl, ⟨[1], by kernel_rfl, ⟨rfl, rfl, trivial⟩, [.sl 1 0 x9.1.length], by kernel_rfl, by kernel_rfl⟩⟩
  · replace h := cd_f b9 h
    refine AX.reg (its := [.auto {}, .auto {}, .auto { y := some (.v (.bool false)) }]) [0, 5, 51] [0, 1] (s1 := ⟨[(0, .pt 0 0), (5, .sl 1 0 x9.1.length), (51, .v (.bool false))], [(0, .box [.bs true 1 (List.map enc_y p2), .v (.int .i64 x9.2)]), (1, .arr 3 (List.map enc_sbi x9.1))]⟩) (C := ((True) ∧ ((.v (.bool (decide (0 < (x9.1.length : Int)))) : AV) = (.v (.bool false) : AV))) ∧ True) (by kernel_rfl) ⟨⟨trivial, (congrArg (fun z => AV.v (.bool z)) b9)⟩, trivial⟩ trivial ?_
    refine AX.cond_false (by kernel_rfl) ?_
    refine AX.skip ?_
    refine AX.seq ?_
    refine AX.reg (its := []) [4] [0, 1] (s1 := ⟨[(4, .sl 1 0 x9.1.length)], [(0, .box [.bs true 1 (List.map enc_y p2), .v (.int .i64 x9.2)]), (1, .arr 3 (List.map enc_sbi x9.1))]⟩) (C := True) (by kernel_rfl) trivial trivial ?_
    refine AX.ret ?_
    refine fin_wk (Wk.forget [4] [0, 1] (s' := ⟨[(4, .sl 1 0 x9.1.length)], [(0, .box [.bs true 1 (List.map enc_y p2), .v (.int .i64 x9.2)]), (1, .arr 3 (List.map enc_sbi x9.1))]⟩) (by kernel_rfl)) ?_
    have hr := Option.some.inj h
    subst hr
    exact ⟨_, Wk.refl _, .inr rfl, ⟨[1], by kernel_rfl, ⟨rfl, rfl, trivial⟩, [.sl 1 0 x9.1.length], by kernel_rfl, by kernel_rfl⟩⟩

theorem s_spec_number : ∀ (fu : Nat) (p1 : Int) (r : ByteArray) (h : m_spec_number fu p1 = some r),
    Eng.Spec Tryz.prog 55 [.v (.int .i64 p1)] [] (.v (.string r)) [] := by
  intro fu
  induction fu with
  | zero => intro p1 r h; cases h
  | succ fu ih =>
    intro p1 r h
    rw [m_spec_number] at h
    refine Eng.Spec.body Tryz.func55 (by kernel_rfl) rfl (by kernel_rfl) ?_
    refine AX.wkpost ?_
    refine AX.seq ?_
    refine AX.reg (its := []) [0] [] (s1 := ⟨[(0, .v (.int .i64 p1))], []⟩) (C := True) (by kernel_rfl) trivial trivial ?_
    refine AX.seq ?_
    refine AX.seq ?_
    refine AX.reg (its := []) [0, 4] [] (s1 := ⟨[(0, .v (.int .i64 p1)), (4, .v (.bool (decide (p1 < 10))))], []⟩) (C := True) (by kernel_rfl) trivial trivial ?_
    rcases bool_cases (decide (p1 < 10)) with b1 | b1
    · replace h := cd_t b1 h
      refine AX.condT (decide (p1 < 10)) (by kernel_rfl) b1 ?_
      refine AX.seq ?_
      obtain ⟨g2, h⟩ := gd_e h
      obtain ⟨v2, q3, h⟩ := nm_e h
      refine AX.reg (its := [.auto {}, .auto {}, .auto { raw := true }, .auto { y := some (.v (.string v2)) }]) [2] [] (s1 := ⟨[(2, .v (.string v2))], []⟩) (C := ((0 ≤ p1 ∧ p1 ≤ (IntKind.wrap .i64 (p1 + 1)) ∧ (IntKind.wrap .i64 (p1 + 1)) ≤ ((ByteArray.mk #[48, 49, 50, 51, 52, 53, 54, 55, 56, 57]).size : Int)) ∧ ((.v (.string ((ByteArray.mk #[48, 49, 50, 51, 52, 53, 54, 55, 56, 57]).extract p1.toNat (IntKind.wrap .i64 (p1 + 1)).toNat)) : AV) = (.v (.string v2) : AV))) ∧ True) (by kernel_rfl) ⟨⟨g2, (congrArg (fun z => AV.v (.string z)) q3)⟩, trivial⟩ trivial ?_
      refine AX.ret ?_
      refine fin_wk (Wk.forget [2] [] (s' := ⟨[(2, .v (.string v2))], []⟩) (by kernel_rfl)) ?_
      have hr := Option.some.inj h
      subst hr
      exact ⟨_, Wk.refl _, .inr rfl, ⟨[], by kernel_rfl, trivial, [.v (.string v2)], by kernel_rfl, by kernel_rfl⟩⟩
    · replace h := cd_f b1 h
      refine AX.condF (decide (p1 < 10)) (by kernel_rfl) b1 ?_
      refine AX.skip ?_
      refine AX.seq ?_
      obtain ⟨g4, h⟩ := gd_e h
      obtain ⟨x3, e5, h⟩ := bd_e h
      obtain ⟨g6, h⟩ := gd_e h
      obtain ⟨x4, e7, h⟩ := bd_e h
      obtain ⟨g8, h⟩ := gd_e h
      refine AX.reg (its := [.auto {}, .auto {}, .call 55 [.v (.int .i64 (Int.tdiv p1 10))] (handO (rho ([] ++ [])) [] [] ++ []) (callEv [] [] (.v (.string x3)) []), .auto {}, .auto {}, .call 55 [.v (.int .i64 (Int.tmod p1 10))] (handO (rho ([] ++ [])) [] [] ++ []) (callEv [] [] (.v (.string x4)) [])]) [2] [] (s1 := ⟨[(2, .v (.string (x3 ++ x4)))], []⟩) (C := ((10 : Int) ≠ 0 ∧ IntKind.wrap .i64 (Int.tdiv p1 10) = Int.tdiv p1 10) ∧ ((([.v (.int .i64 (Int.tdiv p1 10))] : List AV) = [.v (.int .i64 (Int.tdiv p1 10))]) ∧ True) ∧ ((10 : Int) ≠ 0) ∧ ((([.v (.int .i64 (Int.tmod p1 10))] : List AV) = [.v (.int .i64 (Int.tmod p1 10))]) ∧ True) ∧ (x3.size + x4.size ≤ 9223372036854775807) ∧ True) (by kernel_rfl) ⟨g4, ⟨⟨rfl, trivial⟩, ⟨g6, ⟨⟨rfl, trivial⟩, ⟨g8, trivial⟩⟩⟩⟩⟩ ⟨call_ok (ks := []) (ns := []) (bor := []) (bobjs := []) (ih (Int.tdiv p1 10) x3 e5) (.cons (.c1 (.c0 (.same _ (by kernel_rfl) (by kernel_rfl)))) (.nil)) (by kernel_rfl) trivial, ⟨call_ok (ks := []) (ns := []) (bor := []) (bobjs := []) (ih (Int.tmod p1 10) x4 e7) (.cons (.c1 (.c0 (.same _ (by kernel_rfl) (by kernel_rfl)))) (.nil)) (by kernel_rfl) trivial, trivial⟩⟩ ?_
      refine AX.ret ?_
      refine fin_wk (Wk.forget [2] [] (s' := ⟨[(2, .v (.string (x3 ++ x4)))], []⟩) (by kernel_rfl)) ?_
      have hr := Option.some.inj h
      subst hr
      exact ⟨_, Wk.refl _, .inr rfl, ⟨[], by kernel_rfl, trivial, [.v (.string (x3 ++ x4))], by kernel_rfl, by kernel_rfl⟩⟩

theorem s_spec_signedText (p1 : Int) (r : ByteArray) (h : m_spec_signedText p1 = some r) :
    Eng.Spec Tryz.prog 27 [.v (.int .i64 p1)] [] (.v (.string r)) [] := by
  unfold m_spec_signedText at h
  refine Eng.Spec.body Tryz.func27 (by kernel_rfl) rfl (by kernel_rfl) ?_
  refine AX.wkpost ?_
  refine AX.seq ?_
  refine AX.reg (its := []) [0] [] (s1 := ⟨[(0, .v (.int .i64 p1))], []⟩) (C := True) (by kernel_rfl) trivial trivial ?_
  refine AX.seq ?_
  refine AX.seq ?_
  refine AX.reg (its := []) [0, 4] [] (s1 := ⟨[(0, .v (.int .i64 p1)), (4, .v (.bool (decide (p1 < 0))))], []⟩) (C := True) (by kernel_rfl) trivial trivial ?_
  rcases bool_cases (decide (p1 < 0)) with b1 | b1
  · replace h := cd_t b1 h
    refine AX.condT (decide (p1 < 0)) (by kernel_rfl) b1 ?_
    refine AX.seq ?_
    obtain ⟨x2, e2, h⟩ := bd_e h
    obtain ⟨g3, h⟩ := gd_e h
    refine AX.reg (its := [.auto {}, .auto { raw := true }, .call 55 [.v (.int .i64 (IntKind.wrap .i64 (0 - p1)))] (handO (rho ([] ++ [])) [] [] ++ []) (callEv [] [] (.v (.string x2)) [])]) [2] [] (s1 := ⟨[(2, .v (.string ((ByteArray.mk #[45]) ++ x2)))], []⟩) (C := ((([.v (.int .i64 (IntKind.wrap .i64 (0 - p1)))] : List AV) = [.v (.int .i64 (IntKind.wrap .i64 (0 - p1)))]) ∧ True) ∧ ((ByteArray.mk #[45]).size + x2.size ≤ 9223372036854775807) ∧ True) (by kernel_rfl) ⟨⟨rfl, trivial⟩, ⟨g3, trivial⟩⟩ ⟨call_ok (ks := []) (ns := []) (bor := []) (bobjs := []) (s_spec_number FU (IntKind.wrap .i64 (0 - p1)) x2 e2) (.cons (.c1 (.c0 (.same _ (by kernel_rfl) (by kernel_rfl)))) (.nil)) (by kernel_rfl) trivial, trivial⟩ ?_
    refine AX.ret ?_
    refine fin_wk (Wk.forget [2] [] (s' := ⟨[(2, .v (.string ((ByteArray.mk #[45]) ++ x2)))], []⟩) (by kernel_rfl)) ?_
    have hr := Option.some.inj h
    subst hr
    exact ⟨_, Wk.refl _, .inr rfl, ⟨[], by kernel_rfl, trivial, [.v (.string ((ByteArray.mk #[45]) ++ x2))], by kernel_rfl, by kernel_rfl⟩⟩
  · replace h := cd_f b1 h
    refine AX.condF (decide (p1 < 0)) (by kernel_rfl) b1 ?_
    refine AX.skip ?_
    refine AX.seq ?_
    obtain ⟨x3, e4, h⟩ := bd_e h
    refine AX.reg (its := [.auto {}, .call 55 [.v (.int .i64 p1)] (handO (rho ([] ++ [])) [] [] ++ []) (callEv [] [] (.v (.string x3)) [])]) [2] [] (s1 := ⟨[(2, .v (.string x3))], []⟩) (C := ((([.v (.int .i64 p1)] : List AV) = [.v (.int .i64 p1)]) ∧ True) ∧ True) (by kernel_rfl) ⟨⟨rfl, trivial⟩, trivial⟩ ⟨call_ok (ks := []) (ns := []) (bor := []) (bobjs := []) (s_spec_number FU p1 x3 e4) (.cons (.c1 (.c0 (.same _ (by kernel_rfl) (by kernel_rfl)))) (.nil)) (by kernel_rfl) trivial, trivial⟩ ?_
    refine AX.ret ?_
    refine fin_wk (Wk.forget [2] [] (s' := ⟨[(2, .v (.string x3))], []⟩) (by kernel_rfl)) ?_
    have hr := Option.some.inj h
    subst hr
    exact ⟨_, Wk.refl _, .inr rfl, ⟨[], by kernel_rfl, trivial, [.v (.string x3)], by kernel_rfl, by kernel_rfl⟩⟩

theorem s_spec_itemLines_L1 (p1 : List (ByteArray × Bool × Int)) (n : Nat) (g : ByteArray × Int) (out : ByteArray) (h : m_spec_itemLines_L1 p1 n g.1 g.2 = some out) :
    AX Tryz.prog 36 0 (codeAt [1, 1, 0, 1, 1] (bodyOf Tryz.f13)) ((fun g : ByteArray × Int => (⟨[(0, .bs false 3 (List.map enc_sbi p1)), (3, .v (.string g.1)), (4, .v (.int .i64 g.2))], []⟩ : S)) g) (fun ex s => ex = .exit 0 ∧ s = (fun o : ByteArray => (⟨[(3, .v (.string o))], []⟩ : S)) out) := by
  refine AX.wkpost ?_
  refine AX.loop (G := Nat × (ByteArray × Int)) (fun q => (fun g : ByteArray × Int => (⟨[(0, .bs false 3 (List.map enc_sbi p1)), (3, .v (.string g.1)), (4, .v (.int .i64 g.2))], []⟩ : S)) q.2) (fun q => m_spec_itemLines_L1 p1 q.1 q.2.1 q.2.2 = some out) (fun q => q.1) (n, g) h (Wk.refl _) ?_
  clear h
  rintro ⟨fu, v2, v3⟩ h
  cases fu with
  | zero => cases h
  | succ fu =>
    rw [m_spec_itemLines_L1] at h
    refine AX.seq ?_
    refine AX.seq ?_
    refine AX.reg (its := [.auto {}, .auto {}, .auto { y := some (.v (.int .i64 (p1.length : Int))) }]) [0, 3, 4, 8] [] (s1 := ⟨[(0, .bs false 3 (List.map enc_sbi p1)), (3, .v (.string v2)), (4, .v (.int .i64 v3)), (8, .v (.bool (decide (v3 < (p1.length : Int)))))], []⟩) (C := (True ∧ (AV.v (.int .i64 ((List.map enc_sbi p1).length : Int)) = AV.v (.int .i64 (p1.length : Int)))) ∧ True) (by kernel_rfl) ⟨⟨trivial, len_map enc_sbi p1⟩, trivial⟩ trivial ?_
    rcases bool_cases (decide (v3 < (p1.length : Int))) with b1 | b1
    · replace h := cd_t b1 h
      refine AX.condT (decide (v3 < (p1.length : Int))) (by kernel_rfl) b1 ?_
      refine AX.skip ?_
      refine AX.seq ?_
      refine AX.block ?_
      refine AX.seq ?_
      obtain ⟨g2, h⟩ := gd_e h
      obtain ⟨g3, h⟩ := gd_e h
      refine AX.reg (its := [.auto {}, .auto {}, .auto {}, .auto { y := some (.be 3 (enc_sbi (gt p1 v3)) 0) }]) [0, 3, 4] [] (s1 := ⟨[(0, .bs false 3 (List.map enc_sbi p1)), (3, .v (.string (v2 ++ ((gt p1 v3).1)))), (4, .v (.int .i64 v3))], []⟩) (C := ((0 ≤ v3 ∧ v3 < ((List.map enc_sbi p1).length : Int)) ∧ (AV.be 3 ((List.map enc_sbi p1).getD v3.toNat []) 0 = AV.be 3 (enc_sbi (gt p1 v3)) 0)) ∧ (v2.size + ((gt p1 v3).1).size ≤ 9223372036854775807) ∧ True) (by kernel_rfl) ⟨idx_bs enc_sbi p1 v3 3 g2, ⟨g3, trivial⟩⟩ trivial ?_
      refine AX.seq ?_
      refine AX.seq ?_
      refine AX.reg (its := [.auto {}, .auto {}, .auto { y := some (.be 3 (enc_sbi (gt p1 v3)) 0) }]) [0, 3, 4, 23] [] (s1 := ⟨[(0, .bs false 3 (List.map enc_sbi p1)), (3, .v (.string (v2 ++ ((gt p1 v3).1)))), (4, .v (.int .i64 v3)), (23, .v (.bool (!((gt p1 v3).2.1))))], []⟩) (C := ((0 ≤ v3 ∧ v3 < ((List.map enc_sbi p1).length : Int)) ∧ (AV.be 3 ((List.map enc_sbi p1).getD v3.toNat []) 0 = AV.be 3 (enc_sbi (gt p1 v3)) 0)) ∧ True) (by kernel_rfl) ⟨idx_bs enc_sbi p1 v3 3 g2, trivial⟩ trivial ?_
      rcases bool_cases ((!((gt p1 v3).2.1))) with b4 | b4
      · replace h := cd_t b4 h
        refine AX.condT ((!((gt p1 v3).2.1))) (by kernel_rfl) b4 ?_
        obtain ⟨g5, h⟩ := gd_e h
        obtain ⟨x4, e6, h⟩ := bd_e h
        obtain ⟨g7, h⟩ := gd_e h
        obtain ⟨v5, q8, h⟩ := nm_e h
        refine AX.reg (its := [.auto {}, .auto {}, .auto {}, .auto {}, .auto { y := some (.be 3 (enc_sbi (gt p1 v3)) 0) }, .auto {}, .auto {}, .call 27 [.v (.int .i64 ((gt p1 v3).2.2))] (handO (rho ([] ++ [])) [] [] ++ []) (callEv [] [] (.v (.string x4)) []), .auto { y := some (.v (.string v5)) }]) [0, 3, 4] [] (s1 := ⟨[(0, .bs false 3 (List.map enc_sbi p1)), (3, .v (.string v5)), (4, .v (.int .i64 v3))], []⟩) (C := ((v2 ++ ((gt p1 v3).1)).size + (ByteArray.mk #[32, 61, 32]).size ≤ 9223372036854775807) ∧ ((0 ≤ v3 ∧ v3 < ((List.map enc_sbi p1).length : Int)) ∧ (AV.be 3 ((List.map enc_sbi p1).getD v3.toNat []) 0 = AV.be 3 (enc_sbi (gt p1 v3)) 0)) ∧ ((([.v (.int .i64 ((gt p1 v3).2.2))] : List AV) = [.v (.int .i64 ((gt p1 v3).2.2))]) ∧ True) ∧ ((((v2 ++ ((gt p1 v3).1)) ++ (ByteArray.mk #[32, 61, 32])).size + x4.size ≤ 9223372036854775807) ∧ ((.v (.string (((v2 ++ ((gt p1 v3).1)) ++ (ByteArray.mk #[32, 61, 32])) ++ x4)) : AV) = (.v (.string v5) : AV))) ∧ True) (by kernel_rfl) ⟨g5, ⟨idx_bs enc_sbi p1 v3 3 g2, ⟨⟨rfl, trivial⟩, ⟨⟨g7, (congrArg (fun z => AV.v (.string z)) q8)⟩, trivial⟩⟩⟩⟩ ⟨call_ok (ks := []) (ns := []) (bor := []) (bobjs := []) (s_spec_signedText ((gt p1 v3).2.2) x4 e6) (.cons (.c1 (.c0 (.same _ (by kernel_rfl) (by kernel_rfl)))) (.nil)) (by kernel_rfl) trivial, trivial⟩ ?_
        obtain ⟨g9, h⟩ := gd_e h
        refine AX.reg (its := []) [0, 3, 4] [] (s1 := ⟨[(0, .bs false 3 (List.map enc_sbi p1)), (3, .v (.string (v5 ++ (ByteArray.mk #[10])))), (4, .v (.int .i64 v3))], []⟩) (C := (v5.size + (ByteArray.mk #[10]).size ≤ 9223372036854775807) ∧ True) (by kernel_rfl) ⟨g9, trivial⟩ trivial ?_
        refine AX.reg (its := [.auto {}, .auto { raw := true }]) [0, 3, 4] [] (s1 := ⟨[(0, .bs false 3 (List.map enc_sbi p1)), (3, .v (.string (v5 ++ (ByteArray.mk #[10])))), (4, .v (.int .i64 (IntKind.wrap .i64 (v3 + 1))))], []⟩) (C := True) (by kernel_rfl) trivial trivial ?_
        refine ⟨(fu, (v5 ++ (ByteArray.mk #[10]), IntKind.wrap .i64 (v3 + 1))), h, Nat.lt_succ_self _, ?_⟩
        refine Wk.trans (Wk.forget [0, 3, 4] [] (s' := ⟨[(0, .bs false 3 (List.map enc_sbi p1)), (3, .v (.string (v5 ++ (ByteArray.mk #[10])))), (4, .v (.int .i64 (IntKind.wrap .i64 (v3 + 1))))], []⟩) (by kernel_rfl)) ?_
        exact Wk.refl _
      · replace h := cd_f b4 h
        refine AX.condF ((!((gt p1 v3).2.1))) (by kernel_rfl) b4 ?_
        refine AX.skip ?_
        obtain ⟨g10, h⟩ := gd_e h
        refine AX.reg (its := []) [0, 3, 4] [] (s1 := ⟨[(0, .bs false 3 (List.map enc_sbi p1)), (3, .v (.string ((v2 ++ ((gt p1 v3).1)) ++ (ByteArray.mk #[10])))), (4, .v (.int .i64 v3))], []⟩) (C := ((v2 ++ ((gt p1 v3).1)).size + (ByteArray.mk #[10]).size ≤ 9223372036854775807) ∧ True) (by kernel_rfl) ⟨g10, trivial⟩ trivial ?_
        refine AX.reg (its := [.auto {}, .auto { raw := true }]) [0, 3, 4] [] (s1 := ⟨[(0, .bs false 3 (List.map enc_sbi p1)), (3, .v (.string ((v2 ++ ((gt p1 v3).1)) ++ (ByteArray.mk #[10])))), (4, .v (.int .i64 (IntKind.wrap .i64 (v3 + 1))))], []⟩) (C := True) (by kernel_rfl) trivial trivial ?_
        refine ⟨(fu, ((v2 ++ ((gt p1 v3).1)) ++ (ByteArray.mk #[10]), IntKind.wrap .i64 (v3 + 1))), h, Nat.lt_succ_self _, ?_⟩
        refine Wk.trans (Wk.forget [0, 3, 4] [] (s' := ⟨[(0, .bs false 3 (List.map enc_sbi p1)), (3, .v (.string ((v2 ++ ((gt p1 v3).1)) ++ (ByteArray.mk #[10])))), (4, .v (.int .i64 (IntKind.wrap .i64 (v3 + 1))))], []⟩) (by kernel_rfl)) ?_
        exact Wk.refl _
    · replace h := cd_f b1 h
      refine AX.condF (decide (v3 < (p1.length : Int))) (by kernel_rfl) b1 ?_
      refine AX.exit ?_
      refine fin_wk (Wk.forget [3] [] (s' := ⟨[(3, .v (.string v2))], []⟩) (by kernel_rfl)) ?_
      have hr := Option.some.inj h
      subst hr
      exact ⟨_, Wk.refl _, ⟨rfl, rfl⟩⟩

theorem s_spec_itemLines (p1 : List (ByteArray × Bool × Int)) (r : ByteArray) (h : m_spec_itemLines p1 = some r) :
    Eng.Spec Tryz.prog 13 [.bs false 3 (List.map enc_sbi p1)] [] (.v (.string r)) [] := by
  unfold m_spec_itemLines at h
  refine Eng.Spec.body Tryz.func13 (by kernel_rfl) rfl (by kernel_rfl) ?_
  refine AX.wkpost ?_
  refine AX.seq ?_
  refine AX.reg (its := []) [0] [] (s1 := ⟨[(0, .bs false 3 (List.map enc_sbi p1))], []⟩) (C := True) (by kernel_rfl) trivial trivial ?_
  refine AX.seq ?_
  refine AX.reg (its := []) [0, 3] [] (s1 := ⟨[(0, .bs false 3 (List.map enc_sbi p1)), (3, .v (.string ByteArray.empty))], []⟩) (C := True) (by kernel_rfl) trivial trivial ?_
  refine AX.seq ?_
  refine AX.seq ?_
  refine AX.reg (its := []) [0, 3, 4] [] (s1 := ⟨[(0, .bs false 3 (List.map enc_sbi p1)), (3, .v (.string ByteArray.empty)), (4, .v (.int .i64 0))], []⟩) (C := True) (by kernel_rfl) trivial trivial ?_
  refine AX.block ?_
  obtain ⟨x6, e11, h⟩ := bd_e h
  refine AX.wk (Wk.forget [0, 3, 4] [] (s' := ⟨[(0, .bs false 3 (List.map enc_sbi p1)), (3, .v (.string ByteArray.empty)), (4, .v (.int .i64 0))], []⟩) (by kernel_rfl)) ?_
  refine AX.mono (s_spec_itemLines_L1 p1 FU (ByteArray.empty, 0) x6 e11) ?_
  rintro _ _ ⟨rfl, rfl⟩
  skip
  refine AX.seq ?_
  refine AX.reg (its := []) [2] [] (s1 := ⟨[(2, .v (.string x6))], []⟩) (C := True) (by kernel_rfl) trivial trivial ?_
  refine AX.ret ?_
  refine fin_wk (Wk.forget [2] [] (s' := ⟨[(2, .v (.string x6))], []⟩) (by kernel_rfl)) ?_
  have hr := Option.some.inj h
  subst hr
  exact ⟨_, Wk.refl _, .inr rfl, ⟨[], by kernel_rfl, trivial, [.v (.string x6)], by kernel_rfl, by kernel_rfl⟩⟩

theorem s_spec_mutate (p1 : ByteArray) (p2 : List (Int)) (p3 : Int) (r : ByteArray × Int) (h : m_spec_mutate p1 p2 p3 = some r) :
    Eng.Spec Tryz.prog 16 [.pt 0 0, .v (.string p1)] [.box [.bs true 1 (List.map enc_y p2), .v (.int .i64 p3)]] (.v (.string r.1)) [.box [.bs true 1 (List.map enc_y p2), .v (.int .i64 r.2)]] := by
  unfold m_spec_mutate at h
  refine Eng.Spec.body Tryz.func16 (by kernel_rfl) rfl (by kernel_rfl) ?_
  refine AX.wkpost ?_
  refine AX.seq ?_
  refine AX.reg (its := []) [0, 1] [0] (s1 := ⟨[(0, .pt 0 0), (1, .v (.string p1))], [(0, .box [.bs true 1 (List.map enc_y p2), .v (.int .i64 p3)])]⟩) (C := True) (by kernel_rfl) trivial trivial ?_
  refine AX.seq ?_
  obtain ⟨x4, e1, h⟩ := bd_e h
  refine AX.reg (its := [.auto {}, .auto {}, .auto {}, .auto { raw := true }, .call 15 [.pt 0 0, .v (.int .i64 (IntKind.wrap .i64 ((p1.size : Int) + 1)))] (handO (rho ([0] ++ [])) [0] [.box [.bs true 1 (List.map enc_y p2), .v (.int .i64 p3)]] ++ []) (callEv [0] [] (.v (.int .i64 x4)) [.box [.bs true 1 (List.map enc_y p2), .v (.int .i64 (IntKind.wrap .i64 (p3 + 1)))]])]) [0, 1, 5] [0] (s1 := ⟨[(0, .pt 0 0), (1, .v (.string p1)), (5, .v (.int .i64 x4))], [(0, .box [.bs true 1 (List.map enc_y p2), .v (.int .i64 (IntKind.wrap .i64 (p3 + 1)))])]⟩) (C := ((([.pt 0 0, .v (.int .i64 (IntKind.wrap .i64 ((p1.size : Int) + 1)))] : List AV) = [.pt 0 0, .v (.int .i64 (IntKind.wrap .i64 ((p1.size : Int) + 1)))]) ∧ (AO.box [.bs true 1 (List.map enc_y p2), .v (.int .i64 p3)] = AO.box [.bs true 1 (List.map enc_y p2), .v (.int .i64 p3)]) ∧ True) ∧ True) (by kernel_rfl) ⟨⟨rfl, rfl, trivial⟩, trivial⟩ ⟨call_ok (ks := [0]) (ns := []) (bor := []) (bobjs := []) (s_spec_reader_pick (IntKind.wrap .i64 ((p1.size : Int) + 1)) p2 p3 x4 e1) (.cons (.c1 (.c0 (.same _ (by kernel_rfl) (by kernel_rfl)))) (.cons (.c1 (.c0 (.same _ (by kernel_rfl) (by kernel_rfl)))) (.nil))) (by kernel_rfl) ⟨.inr rfl, trivial⟩, trivial⟩ ?_
  refine AX.seq ?_
  refine AX.seq ?_
  obtain ⟨x5, e2, h⟩ := bd_e h
  refine AX.reg (its := [.auto {}, .call 15 [.pt 0 0, .v (.int .i64 5)] (handO (rho ([0] ++ [])) [0] [.box [.bs true 1 (List.map enc_y p2), .v (.int .i64 (IntKind.wrap .i64 (p3 + 1)))]] ++ []) (callEv [0] [] (.v (.int .i64 x5)) [.box [.bs true 1 (List.map enc_y p2), .v (.int .i64 (IntKind.wrap .i64 ((IntKind.wrap .i64 (p3 + 1)) + 1)))]])]) [0, 1, 5, 12] [0] (s1 := ⟨[(0, .pt 0 0), (1, .v (.string p1)), (5, .v (.int .i64 x4)), (12, .v (.int .i64 x5))], [(0, .box [.bs true 1 (List.map enc_y p2), .v (.int .i64 (IntKind.wrap .i64 ((IntKind.wrap .i64 (p3 + 1)) + 1)))])]⟩) (C := ((([.pt 0 0, .v (.int .i64 5)] : List AV) = [.pt 0 0, .v (.int .i64 5)]) ∧ (AO.box [.bs true 1 (List.map enc_y p2), .v (.int .i64 (IntKind.wrap .i64 (p3 + 1)))] = AO.box [.bs true 1 (List.map enc_y p2), .v (.int .i64 (IntKind.wrap .i64 (p3 + 1)))]) ∧ True) ∧ True) (by kernel_rfl) ⟨⟨rfl, rfl, trivial⟩, trivial⟩ ⟨call_ok (ks := [0]) (ns := []) (bor := []) (bobjs := []) (s_spec_reader_pick 5 p2 (IntKind.wrap .i64 (p3 + 1)) x5 e2) (.cons (.c1 (.c0 (.same _ (by kernel_rfl) (by kernel_rfl)))) (.cons (.c1 (.c0 (.same _ (by kernel_rfl) (by kernel_rfl)))) (.nil))) (by kernel_rfl) ⟨.inr rfl, trivial⟩, trivial⟩ ?_
  refine AX.block ?_
  refine AX.seq ?_
  refine AX.seq ?_
  refine AX.reg (its := []) [0, 1, 5, 12, 13] [0] (s1 := ⟨[(0, .pt 0 0), (1, .v (.string p1)), (5, .v (.int .i64 x4)), (12, .v (.int .i64 x5)), (13, .v (.bool (decide (x5 = 0))))], [(0, .box [.bs true 1 (List.map enc_y p2), .v (.int .i64 (IntKind.wrap .i64 ((IntKind.wrap .i64 (p3 + 1)) + 1)))])]⟩) (C := True) (by kernel_rfl) trivial trivial ?_
  rcases bool_cases (decide (x5 = 0)) with b3 | b3
  · replace h := cd_t b3 h
    refine AX.condT (decide (x5 = 0)) (by kernel_rfl) b3 ?_
    refine AX.skip ?_
    refine AX.condT (decide (x5 = 0)) (by kernel_rfl) b3 ?_
    refine AX.seq ?_
    refine AX.reg (its := []) [0, 1, 5, 19] [0] (s1 := ⟨[(0, .pt 0 0), (1, .v (.string p1)), (5, .v (.int .i64 x4)), (19, .v (.bool (decide (x4 < (p1.size : Int)))))], [(0, .box [.bs true 1 (List.map enc_y p2), .v (.int .i64 (IntKind.wrap .i64 ((IntKind.wrap .i64 (p3 + 1)) + 1)))])]⟩) (C := True) (by kernel_rfl) trivial trivial ?_
    rcases bool_cases (decide (x4 < (p1.size : Int))) with b4 | b4
    · replace h := cd_t b4 h
      refine AX.condT (decide (x4 < (p1.size : Int))) (by kernel_rfl) b4 ?_
      refine AX.seq ?_
      obtain ⟨g5, h⟩ := gd_e h
      obtain ⟨x6, e6, h⟩ := bd_e h
      obtain ⟨g7, h⟩ := gd_e h
      obtain ⟨g8, h⟩ := gd_e h
      obtain ⟨v7, q9, h⟩ := nm_e h
      obtain ⟨g10, h⟩ := gd_e h
      refine AX.drw mixed (its := [.auto {}, .auto {}, .auto {}, .auto {}, .auto { nk := 1 }, .call 31 [.pt 0 0, .sl 1 0 (([(ByteArray.mk #[48]), (ByteArray.mk #[49]), (ByteArray.mk #[124]), (ByteArray.mk #[32]), (ByteArray.mk #[97]), (ByteArray.mk #[33]), (ByteArray.mk #[45]), (ByteArray.mk #[61]), (ByteArray.mk #[10])] : List (ByteArray)).length)] (handO (rho ([0] ++ [])) [0] [.box [.bs true 1 (List.map enc_y p2), .v (.int .i64 (IntKind.wrap .i64 ((IntKind.wrap .i64 (p3 + 1)) + 1)))]] ++ [(1, .arr 1 (List.map enc_s ([(ByteArray.mk #[48]), (ByteArray.mk #[49]), (ByteArray.mk #[124]), (ByteArray.mk #[32]), (ByteArray.mk #[97]), (ByteArray.mk #[33]), (ByteArray.mk #[45]), (ByteArray.mk #[61]), (ByteArray.mk #[10])] : List (ByteArray))))]) (callEv [0] [] (.v (.string x6)) [.box [.bs true 1 (List.map enc_y p2), .v (.int .i64 (IntKind.wrap .i64 ((IntKind.wrap .i64 ((IntKind.wrap .i64 (p3 + 1)) + 1)) + 1)))]]), .auto {}, .auto {}, .auto {}, .auto { raw := true }, .auto { y := some (.v (.string v7)) }]) [4] [0] (s1 := ⟨[(4, .v (.string (((p1.extract (0 : Int).toNat x4.toNat) ++ x6) ++ v7)))], [(0, .box [.bs true 1 (List.map enc_y p2), .v (.int .i64 (IntKind.wrap .i64 ((IntKind.wrap .i64 ((IntKind.wrap .i64 (p3 + 1)) + 1)) + 1)))])]⟩) (C := (0 ≤ (0 : Int) ∧ (0 : Int) ≤ x4 ∧ x4 ≤ (p1.size : Int)) ∧ ((([.pt 0 0, .sl 1 0 (([(ByteArray.mk #[48]), (ByteArray.mk #[49]), (ByteArray.mk #[124]), (ByteArray.mk #[32]), (ByteArray.mk #[97]), (ByteArray.mk #[33]), (ByteArray.mk #[45]), (ByteArray.mk #[61]), (ByteArray.mk #[10])] : List (ByteArray)).length)] : List AV) = [.pt 0 0, .sl 1 0 (([(ByteArray.mk #[48]), (ByteArray.mk #[49]), (ByteArray.mk #[124]), (ByteArray.mk #[32]), (ByteArray.mk #[97]), (ByteArray.mk #[33]), (ByteArray.mk #[45]), (ByteArray.mk #[61]), (ByteArray.mk #[10])] : List (ByteArray)).length)]) ∧ (AO.box [.bs true 1 (List.map enc_y p2), .v (.int .i64 (IntKind.wrap .i64 ((IntKind.wrap .i64 (p3 + 1)) + 1)))] = AO.box [.bs true 1 (List.map enc_y p2), .v (.int .i64 (IntKind.wrap .i64 ((IntKind.wrap .i64 (p3 + 1)) + 1)))]) ∧ (AO.arr 1 (List.map enc_s ([(ByteArray.mk #[48]), (ByteArray.mk #[49]), (ByteArray.mk #[124]), (ByteArray.mk #[32]), (ByteArray.mk #[97]), (ByteArray.mk #[33]), (ByteArray.mk #[45]), (ByteArray.mk #[61]), (ByteArray.mk #[10])] : List (ByteArray))) = AO.arr 1 (List.map enc_s ([(ByteArray.mk #[48]), (ByteArray.mk #[49]), (ByteArray.mk #[124]), (ByteArray.mk #[32]), (ByteArray.mk #[97]), (ByteArray.mk #[33]), (ByteArray.mk #[45]), (ByteArray.mk #[61]), (ByteArray.mk #[10])] : List (ByteArray)))) ∧ True) ∧ ((p1.extract (0 : Int).toNat x4.toNat).size + x6.size ≤ 9223372036854775807) ∧ ((0 ≤ (IntKind.wrap .i64 (x4 + 1)) ∧ (IntKind.wrap .i64 (x4 + 1)) ≤ (p1.size : Int) ∧ (p1.size : Int) ≤ (p1.size : Int)) ∧ ((.v (.string (p1.extract (IntKind.wrap .i64 (x4 + 1)).toNat (p1.size : Int).toNat)) : AV) = (.v (.string v7) : AV))) ∧ (((p1.extract (0 : Int).toNat x4.toNat) ++ x6).size + v7.size ≤ 9223372036854775807) ∧ True) (by kernel_rfl) ⟨g5, ⟨⟨rfl, rfl, rfl, trivial⟩, ⟨g7, ⟨⟨g8, (congrArg (fun z => AV.v (.string z)) q9)⟩, ⟨g10, trivial⟩⟩⟩⟩⟩ ⟨call_ok (ks := [0]) (ns := []) (bor := [1]) (bobjs := [(1, .arr 1 (List.map enc_s ([(ByteArray.mk #[48]), (ByteArray.mk #[49]), (ByteArray.mk #[124]), (ByteArray.mk #[32]), (ByteArray.mk #[97]), (ByteArray.mk #[33]), (ByteArray.mk #[45]), (ByteArray.mk #[61]), (ByteArray.mk #[10])] : List (ByteArray))))]) (s_spec_reader_of ([(ByteArray.mk #[48]), (ByteArray.mk #[49]), (ByteArray.mk #[124]), (ByteArray.mk #[32]), (ByteArray.mk #[97]), (ByteArray.mk #[33]), (ByteArray.mk #[45]), (ByteArray.mk #[61]), (ByteArray.mk #[10])] : List (ByteArray)) p2 (IntKind.wrap .i64 ((IntKind.wrap .i64 (p3 + 1)) + 1)) x6 e6) (.cons (.c1 (.c0 (.same _ (by kernel_rfl) (by kernel_rfl)))) (.cons (.c1 (.c0 (.arr rfl rfl ((rfl).trans (List.length_map ..).symm)))) (.nil))) (by kernel_rfl) ⟨.inr rfl, trivial⟩, trivial⟩ ?_
      refine AX.ret ?_
      refine fin_wk (Wk.forget [4] [0] (s' := ⟨[(4, .v (.string (((p1.extract (0 : Int).toNat x4.toNat) ++ x6) ++ v7)))], [(0, .box [.bs true 1 (List.map enc_y p2), .v (.int .i64 (IntKind.wrap .i64 ((IntKind.wrap .i64 ((IntKind.wrap .i64 (p3 + 1)) + 1)) + 1)))])]⟩) (by kernel_rfl)) ?_
      have hr := Option.some.inj h
      subst hr
      exact ⟨_, Wk.refl _, .inr rfl, ⟨[], by kernel_rfl, ⟨rfl, trivial⟩, [.v (.string (((p1.extract (0 : Int).toNat x4.toNat) ++ x6) ++ v7))], by kernel_rfl, by kernel_rfl⟩⟩
    · replace h := cd_f b4 h
      refine AX.condF (decide (x4 < (p1.size : Int))) (by kernel_rfl) b4 ?_
      refine AX.skip ?_
      refine AX.seq ?_
      refine AX.reg (its := []) [4] [0] (s1 := ⟨[(4, .v (.string p1))], [(0, .box [.bs true 1 (List.map enc_y p2), .v (.int .i64 (IntKind.wrap .i64 ((IntKind.wrap .i64 (p3 + 1)) + 1)))])]⟩) (C := True) (by kernel_rfl) trivial trivial ?_
      refine AX.ret ?_
      refine fin_wk (Wk.forget [4] [0] (s' := ⟨[(4, .v (.string p1))], [(0, .box [.bs true 1 (List.map enc_y p2), .v (.int .i64 (IntKind.wrap .i64 ((IntKind.wrap .i64 (p3 + 1)) + 1)))])]⟩) (by kernel_rfl)) ?_
      have hr := Option.some.inj h
      subst hr
      exact ⟨_, Wk.refl _, .inr rfl, ⟨[], by kernel_rfl, ⟨rfl, trivial⟩, [.v (.string p1)], by kernel_rfl, by kernel_rfl⟩⟩
  · replace h := cd_f b3 h
    refine AX.condF (decide (x5 = 0)) (by kernel_rfl) b3 ?_
    refine AX.reg (its := []) [0, 1, 5, 12, 13] [0] (s1 := ⟨[(0, .pt 0 0), (1, .v (.string p1)), (5, .v (.int .i64 x4)), (12, .v (.int .i64 x5)), (13, .v (.bool (decide (x5 = 1))))], [(0, .box [.bs true 1 (List.map enc_y p2), .v (.int .i64 (IntKind.wrap .i64 ((IntKind.wrap .i64 (p3 + 1)) + 1)))])]⟩) (C := True) (by kernel_rfl) trivial trivial ?_
    rcases bool_cases (decide (x5 = 1)) with b11 | b11
    · replace h := cd_t b11 h
      refine AX.condT (decide (x5 = 1)) (by kernel_rfl) b11 ?_
      refine AX.seq ?_
      refine AX.reg (its := []) [0, 1, 5, 19] [0] (s1 := ⟨[(0, .pt 0 0), (1, .v (.string p1)), (5, .v (.int .i64 x4)), (19, .v (.bool (decide (x4 < (p1.size : Int)))))], [(0, .box [.bs true 1 (List.map enc_y p2), .v (.int .i64 (IntKind.wrap .i64 ((IntKind.wrap .i64 (p3 + 1)) + 1)))])]⟩) (C := True) (by kernel_rfl) trivial trivial ?_
      rcases bool_cases (decide (x4 < (p1.size : Int))) with b12 | b12
      · replace h := cd_t b12 h
        refine AX.condT (decide (x4 < (p1.size : Int))) (by kernel_rfl) b12 ?_
        refine AX.seq ?_
        obtain ⟨g13, h⟩ := gd_e h
        obtain ⟨x8, e14, h⟩ := bd_e h
        obtain ⟨g15, h⟩ := gd_e h
        obtain ⟨g16, h⟩ := gd_e h
        obtain ⟨v9, q17, h⟩ := nm_e h
        obtain ⟨g18, h⟩ := gd_e h
        refine AX.drw mixed (its := [.auto {}, .auto {}, .auto {}, .auto {}, .auto { nk := 1 }, .call 31 [.pt 0 0, .sl 1 0 (([(ByteArray.mk #[48]), (ByteArray.mk #[49]), (ByteArray.mk #[124]), (ByteArray.mk #[32]), (ByteArray.mk #[97]), (ByteArray.mk #[33]), (ByteArray.mk #[45]), (ByteArray.mk #[61]), (ByteArray.mk #[10])] : List (ByteArray)).length)] (handO (rho ([0] ++ [])) [0] [.box [.bs true 1 (List.map enc_y p2), .v (.int .i64 (IntKind.wrap .i64 ((IntKind.wrap .i64 (p3 + 1)) + 1)))]] ++ [(1, .arr 1 (List.map enc_s ([(ByteArray.mk #[48]), (ByteArray.mk #[49]), (ByteArray.mk #[124]), (ByteArray.mk #[32]), (ByteArray.mk #[97]), (ByteArray.mk #[33]), (ByteArray.mk #[45]), (ByteArray.mk #[61]), (ByteArray.mk #[10])] : List (ByteArray))))]) (callEv [0] [] (.v (.string x8)) [.box [.bs true 1 (List.map enc_y p2), .v (.int .i64 (IntKind.wrap .i64 ((IntKind.wrap .i64 ((IntKind.wrap .i64 (p3 + 1)) + 1)) + 1)))]]), .auto {}, .auto {}, .auto {}, .auto { raw := true }, .auto { y := some (.v (.string v9)) }]) [4] [0] (s1 := ⟨[(4, .v (.string (((p1.extract (0 : Int).toNat x4.toNat) ++ x8) ++ v9)))], [(0, .box [.bs true 1 (List.map enc_y p2), .v (.int .i64 (IntKind.wrap .i64 ((IntKind.wrap .i64 ((IntKind.wrap .i64 (p3 + 1)) + 1)) + 1)))])]⟩) (C := (0 ≤ (0 : Int) ∧ (0 : Int) ≤ x4 ∧ x4 ≤ (p1.size : Int)) ∧ ((([.pt 0 0, .sl 1 0 (([(ByteArray.mk #[48]), (ByteArray.mk #[49]), (ByteArray.mk #[124]), (ByteArray.mk #[32]), (ByteArray.mk #[97]), (ByteArray.mk #[33]), (ByteArray.mk #[45]), (ByteArray.mk #[61]), (ByteArray.mk #[10])] : List (ByteArray)).length)] : List AV) = [.pt 0 0, .sl 1 0 (([(ByteArray.mk #[48]), (ByteArray.mk #[49]), (ByteArray.mk #[124]), (ByteArray.mk #[32]), (ByteArray.mk #[97]), (ByteArray.mk #[33]), (ByteArray.mk #[45]), (ByteArray.mk #[61]), (ByteArray.mk #[10])] : List (ByteArray)).length)]) ∧ (AO.box [.bs true 1 (List.map enc_y p2), .v (.int .i64 (IntKind.wrap .i64 ((IntKind.wrap .i64 (p3 + 1)) + 1)))] = AO.box [.bs true 1 (List.map enc_y p2), .v (.int .i64 (IntKind.wrap .i64 ((IntKind.wrap .i64 (p3 + 1)) + 1)))]) ∧ (AO.arr 1 (List.map enc_s ([(ByteArray.mk #[48]), (ByteArray.mk #[49]), (ByteArray.mk #[124]), (ByteArray.mk #[32]), (ByteArray.mk #[97]), (ByteArray.mk #[33]), (ByteArray.mk #[45]), (ByteArray.mk #[61]), (ByteArray.mk #[10])] : List (ByteArray))) = AO.arr 1 (List.map enc_s ([(ByteArray.mk #[48]), (ByteArray.mk #[49]), (ByteArray.mk #[124]), (ByteArray.mk #[32]), (ByteArray.mk #[97]), (ByteArray.mk #[33]), (ByteArray.mk #[45]), (ByteArray.mk #[61]), (ByteArray.mk #[10])] : List (ByteArray)))) ∧ True) ∧ ((p1.extract (0 : Int).toNat x4.toNat).size + x8.size ≤ 9223372036854775807) ∧ ((0 ≤ (IntKind.wrap .i64 (x4 + 1)) ∧ (IntKind.wrap .i64 (x4 + 1)) ≤ (p1.size : Int) ∧ (p1.size : Int) ≤ (p1.size : Int)) ∧ ((.v (.string (p1.extract (IntKind.wrap .i64 (x4 + 1)).toNat (p1.size : Int).toNat)) : AV) = (.v (.string v9) : AV))) ∧ (((p1.extract (0 : Int).toNat x4.toNat) ++ x8).size + v9.size ≤ 9223372036854775807) ∧ True) (by kernel_rfl) ⟨g13, ⟨⟨rfl, rfl, rfl, trivial⟩, ⟨g15, ⟨⟨g16, (congrArg (fun z => AV.v (.string z)) q17)⟩, ⟨g18, trivial⟩⟩⟩⟩⟩ ⟨call_ok (ks := [0]) (ns := []) (bor := [1]) (bobjs := [(1, .arr 1 (List.map enc_s ([(ByteArray.mk #[48]), (ByteArray.mk #[49]), (ByteArray.mk #[124]), (ByteArray.mk #[32]), (ByteArray.mk #[97]), (ByteArray.mk #[33]), (ByteArray.mk #[45]), (ByteArray.mk #[61]), (ByteArray.mk #[10])] : List (ByteArray))))]) (s_spec_reader_of ([(ByteArray.mk #[48]), (ByteArray.mk #[49]), (ByteArray.mk #[124]), (ByteArray.mk #[32]), (ByteArray.mk #[97]), (ByteArray.mk #[33]), (ByteArray.mk #[45]), (ByteArray.mk #[61]), (ByteArray.mk #[10])] : List (ByteArray)) p2 (IntKind.wrap .i64 ((IntKind.wrap .i64 (p3 + 1)) + 1)) x8 e14) (.cons (.c1 (.c0 (.same _ (by kernel_rfl) (by kernel_rfl)))) (.cons (.c1 (.c0 (.arr rfl rfl ((rfl).trans (List.length_map ..).symm)))) (.nil))) (by kernel_rfl) ⟨.inr rfl, trivial⟩, trivial⟩ ?_
        refine AX.ret ?_
        refine fin_wk (Wk.forget [4] [0] (s' := ⟨[(4, .v (.string (((p1.extract (0 : Int).toNat x4.toNat) ++ x8) ++ v9)))], [(0, .box [.bs true 1 (List.map enc_y p2), .v (.int .i64 (IntKind.wrap .i64 ((IntKind.wrap .i64 ((IntKind.wrap .i64 (p3 + 1)) + 1)) + 1)))])]⟩) (by kernel_rfl)) ?_
        have hr := Option.some.inj h
        subst hr
        exact ⟨_, Wk.refl _, .inr rfl, ⟨[], by kernel_rfl, ⟨rfl, trivial⟩, [.v (.string (((p1.extract (0 : Int).toNat x4.toNat) ++ x8) ++ v9))], by kernel_rfl, by kernel_rfl⟩⟩
      · replace h := cd_f b12 h
        refine AX.condF (decide (x4 < (p1.size : Int))) (by kernel_rfl) b12 ?_
        refine AX.skip ?_
        refine AX.seq ?_
        refine AX.reg (its := []) [4] [0] (s1 := ⟨[(4, .v (.string p1))], [(0, .box [.bs true 1 (List.map enc_y p2), .v (.int .i64 (IntKind.wrap .i64 ((IntKind.wrap .i64 (p3 + 1)) + 1)))])]⟩) (C := True) (by kernel_rfl) trivial trivial ?_
        refine AX.ret ?_
        refine fin_wk (Wk.forget [4] [0] (s' := ⟨[(4, .v (.string p1))], [(0, .box [.bs true 1 (List.map enc_y p2), .v (.int .i64 (IntKind.wrap .i64 ((IntKind.wrap .i64 (p3 + 1)) + 1)))])]⟩) (by kernel_rfl)) ?_
        have hr := Option.some.inj h
        subst hr
        exact ⟨_, Wk.refl _, .inr rfl, ⟨[], by kernel_rfl, ⟨rfl, trivial⟩, [.v (.string p1)], by kernel_rfl, by kernel_rfl⟩⟩
    · replace h := cd_f b11 h
      refine AX.condF (decide (x5 = 1)) (by kernel_rfl) b11 ?_
      refine AX.seq ?_
      refine AX.reg (its := []) [0, 1, 5, 12, 32] [0] (s1 := ⟨[(0, .pt 0 0), (1, .v (.string p1)), (5, .v (.int .i64 x4)), (12, .v (.int .i64 x5)), (32, .v (.bool (decide (x5 = 2))))], [(0, .box [.bs true 1 (List.map enc_y p2), .v (.int .i64 (IntKind.wrap .i64 ((IntKind.wrap .i64 (p3 + 1)) + 1)))])]⟩) (C := True) (by kernel_rfl) trivial trivial ?_
      rcases bool_cases (decide (x5 = 2)) with b19 | b19
      · replace h := cd_t b19 h
        refine AX.condT (decide (x5 = 2)) (by kernel_rfl) b19 ?_
        refine AX.seq ?_
        obtain ⟨g20, h⟩ := gd_e h
        refine AX.reg (its := []) [4] [0] (s1 := ⟨[(4, .v (.string (p1.extract (0 : Int).toNat x4.toNat)))], [(0, .box [.bs true 1 (List.map enc_y p2), .v (.int .i64 (IntKind.wrap .i64 ((IntKind.wrap .i64 (p3 + 1)) + 1)))])]⟩) (C := (0 ≤ (0 : Int) ∧ (0 : Int) ≤ x4 ∧ x4 ≤ (p1.size : Int)) ∧ True) (by kernel_rfl) ⟨g20, trivial⟩ trivial ?_
        refine AX.ret ?_
        refine fin_wk (Wk.forget [4] [0] (s' := ⟨[(4, .v (.string (p1.extract (0 : Int).toNat x4.toNat)))], [(0, .box [.bs true 1 (List.map enc_y p2), .v (.int .i64 (IntKind.wrap .i64 ((IntKind.wrap .i64 (p3 + 1)) + 1)))])]⟩) (by kernel_rfl)) ?_
        have hr := Option.some.inj h
        subst hr
        exact ⟨_, Wk.refl _, .inr rfl, ⟨[], by kernel_rfl, ⟨rfl, trivial⟩, [.v (.string (p1.extract (0 : Int).toNat x4.toNat))], by kernel_rfl, by kernel_rfl⟩⟩
      · replace h := cd_f b19 h
        refine AX.condF (decide (x5 = 2)) (by kernel_rfl) b19 ?_
        refine AX.seq ?_
        refine AX.reg (its := []) [0, 1, 37] [0] (s1 := ⟨[(0, .pt 0 0), (1, .v (.string p1)), (37, .v (.bool (decide (x5 = 3))))], [(0, .box [.bs true 1 (List.map enc_y p2), .v (.int .i64 (IntKind.wrap .i64 ((IntKind.wrap .i64 (p3 + 1)) + 1)))])]⟩) (C := True) (by kernel_rfl) trivial trivial ?_
        rcases bool_cases (decide (x5 = 3)) with b21 | b21
        · replace h := cd_t b21 h
          refine AX.condT (decide (x5 = 3)) (by kernel_rfl) b21 ?_
          refine AX.seq ?_
          obtain ⟨x10, e22, h⟩ := bd_e h
          obtain ⟨g23, h⟩ := gd_e h
          refine AX.reg (its := [.auto {}, .auto {}, .auto { nk := 1 }, .call 31 [.pt 0 0, .sl 1 0 (([(ByteArray.mk #[48]), (ByteArray.mk #[124]), (ByteArray.mk #[32]), (ByteArray.mk #[97]), (ByteArray.mk #[10])] : List (ByteArray)).length)] (handO (rho ([0] ++ [])) [0] [.box [.bs true 1 (List.map enc_y p2), .v (.int .i64 (IntKind.wrap .i64 ((IntKind.wrap .i64 (p3 + 1)) + 1)))]] ++ [(1, .arr 1 (List.map enc_s ([(ByteArray.mk #[48]), (ByteArray.mk #[124]), (ByteArray.mk #[32]), (ByteArray.mk #[97]), (ByteArray.mk #[10])] : List (ByteArray))))]) (callEv [0] [] (.v (.string x10)) [.box [.bs true 1 (List.map enc_y p2), .v (.int .i64 (IntKind.wrap .i64 ((IntKind.wrap .i64 ((IntKind.wrap .i64 (p3 + 1)) + 1)) + 1)))]])]) [4] [0] (s1 := ⟨[(4, .v (.string (p1 ++ x10)))], [(0, .box [.bs true 1 (List.map enc_y p2), .v (.int .i64 (IntKind.wrap .i64 ((IntKind.wrap .i64 ((IntKind.wrap .i64 (p3 + 1)) + 1)) + 1)))])]⟩) (C := ((([.pt 0 0, .sl 1 0 (([(ByteArray.mk #[48]), (ByteArray.mk #[124]), (ByteArray.mk #[32]), (ByteArray.mk #[97]), (ByteArray.mk #[10])] : List (ByteArray)).length)] : List AV) = [.pt 0 0, .sl 1 0 (([(ByteArray.mk #[48]), (ByteArray.mk #[124]), (ByteArray.mk #[32]), (ByteArray.mk #[97]), (ByteArray.mk #[10])] : List (ByteArray)).length)]) ∧ (AO.box [.bs true 1 (List.map enc_y p2), .v (.int .i64 (IntKind.wrap .i64 ((IntKind.wrap .i64 (p3 + 1)) + 1)))] = AO.box [.bs true 1 (List.map enc_y p2), .v (.int .i64 (IntKind.wrap .i64 ((IntKind.wrap .i64 (p3 + 1)) + 1)))]) ∧ (AO.arr 1 (List.map enc_s ([(ByteArray.mk #[48]), (ByteArray.mk #[124]), (ByteArray.mk #[32]), (ByteArray.mk #[97]), (ByteArray.mk #[10])] : List (ByteArray))) = AO.arr 1 (List.map enc_s ([(ByteArray.mk #[48]), (ByteArray.mk #[124]), (ByteArray.mk #[32]), (ByteArray.mk #[97]), (ByteArray.mk #[10])] : List (ByteArray)))) ∧ True) ∧ (p1.size + x10.size ≤ 9223372036854775807) ∧ True) (by kernel_rfl) ⟨⟨rfl, rfl, rfl, trivial⟩, ⟨g23, trivial⟩⟩ ⟨call_ok (ks := [0]) (ns := []) (bor := [1]) (bobjs := [(1, .arr 1 (List.map enc_s ([(ByteArray.mk #[48]), (ByteArray.mk #[124]), (ByteArray.mk #[32]), (ByteArray.mk #[97]), (ByteArray.mk #[10])] : List (ByteArray))))]) (s_spec_reader_of ([(ByteArray.mk #[48]), (ByteArray.mk #[124]), (ByteArray.mk #[32]), (ByteArray.mk #[97]), (ByteArray.mk #[10])] : List (ByteArray)) p2 (IntKind.wrap .i64 ((IntKind.wrap .i64 (p3 + 1)) + 1)) x10 e22) (.cons (.c1 (.c0 (.same _ (by kernel_rfl) (by kernel_rfl)))) (.cons (.c1 (.c0 (.arr rfl rfl ((rfl).trans (List.length_map ..).symm)))) (.nil))) (by kernel_rfl) ⟨.inr rfl, trivial⟩, trivial⟩ ?_
          refine AX.ret ?_
          refine fin_wk (Wk.forget [4] [0] (s' := ⟨[(4, .v (.string (p1 ++ x10)))], [(0, .box [.bs true 1 (List.map enc_y p2), .v (.int .i64 (IntKind.wrap .i64 ((IntKind.wrap .i64 ((IntKind.wrap .i64 (p3 + 1)) + 1)) + 1)))])]⟩) (by kernel_rfl)) ?_
          have hr := Option.some.inj h
          subst hr
          exact ⟨_, Wk.refl _, .inr rfl, ⟨[], by kernel_rfl, ⟨rfl, trivial⟩, [.v (.string (p1 ++ x10))], by kernel_rfl, by kernel_rfl⟩⟩
        · replace h := cd_f b21 h
          refine AX.condF (decide (x5 = 3)) (by kernel_rfl) b21 ?_
          refine AX.skip ?_
          refine AX.seq ?_
          refine AX.reg (its := []) [4] [0] (s1 := ⟨[(4, .v (.string p1))], [(0, .box [.bs true 1 (List.map enc_y p2), .v (.int .i64 (IntKind.wrap .i64 ((IntKind.wrap .i64 (p3 + 1)) + 1)))])]⟩) (C := True) (by kernel_rfl) trivial trivial ?_
          refine AX.ret ?_
          refine fin_wk (Wk.forget [4] [0] (s' := ⟨[(4, .v (.string p1))], [(0, .box [.bs true 1 (List.map enc_y p2), .v (.int .i64 (IntKind.wrap .i64 ((IntKind.wrap .i64 (p3 + 1)) + 1)))])]⟩) (by kernel_rfl)) ?_
          have hr := Option.some.inj h
          subst hr
          exact ⟨_, Wk.refl _, .inr rfl, ⟨[], by kernel_rfl, ⟨rfl, trivial⟩, [.v (.string p1)], by kernel_rfl, by kernel_rfl⟩⟩

theorem s_spec_DrawParseEnum (p1 : List (Int)) (r : ByteArray) (h : m_spec_DrawParseEnum p1 = some r) :
    Eng.Spec Tryz.prog 4 [.bs true 1 (List.map enc_y p1)] [] (.v (.string r)) [] := by
  unfold m_spec_DrawParseEnum at h
  refine Eng.Spec.body Tryz.func4 (by kernel_rfl) rfl (by kernel_rfl) ?_
  refine AX.wkpost ?_
  refine AX.seq ?_
  refine AX.reg (its := []) [0] [] (s1 := ⟨[(0, .bs true 1 (List.map enc_y p1))], []⟩) (C := True) (by kernel_rfl) trivial trivial ?_
  refine AX.seq ?_
  obtain ⟨x2, e1, h⟩ := bd_e h
  refine AX.reg (its := [.auto {}, .call 12 [.bs true 1 (List.map enc_y p1)] (handO (rho ([] ++ [0])) [] [] ++ []) (callEv [] [0] (.pt 0 0) [.box [.bs true 1 (List.map enc_y x2), .v (.int .i64 0)]])]) [3] [0] (s1 := ⟨[(3, .pt 0 0)], [(0, .box [.bs true 1 (List.map enc_y x2), .v (.int .i64 0)])]⟩) (C := ((([.bs true 1 (List.map enc_y p1)] : List AV) = [.bs true 1 (List.map enc_y p1)]) ∧ True) ∧ True) (by kernel_rfl) ⟨⟨rfl, trivial⟩, trivial⟩ ⟨call_ok (ks := []) (ns := [0]) (bor := []) (bobjs := []) (s_spec_newReader p1 x2 e1) (.cons (.c1 (.c0 (.same _ (by kernel_rfl) (by kernel_rfl)))) (.nil)) (by kernel_rfl) trivial, trivial⟩ ?_
  refine AX.seq ?_
  obtain ⟨x3, e2, h⟩ := bd_e h
  obtain ⟨x4, e3, h⟩ := bd_e h
  obtain ⟨g4, h⟩ := gd_e h
  refine AX.reg (its := [.auto {}, .call 14 [.pt 0 0, .v (.int .i64 1000)] (handO (rho ([0] ++ [1])) [0] [.box [.bs true 1 (List.map enc_y x2), .v (.int .i64 0)]] ++ []) (callEv [0] [1] (.sl 1 0 x3.1.length) [.box [.bs true 1 (List.map enc_y x2), .v (.int .i64 x3.2)], .arr 3 (List.map enc_sbi x3.1)]), .call 13 [.sl 1 0 x3.1.length] (handO (rho ([] ++ [])) [] [] ++ [(1, .arr 3 (List.map enc_sbi x3.1))]) (callEv [] [] (.v (.string x4)) [])]) [3, 4] [0] (s1 := ⟨[(3, .pt 0 0), (4, .v (.string ((ByteArray.mk #[101, 110, 117, 109, 10]) ++ x4)))], [(0, .box [.bs true 1 (List.map enc_y x2), .v (.int .i64 x3.2)])]⟩) (C := ((([.pt 0 0, .v (.int .i64 1000)] : List AV) = [.pt 0 0, .v (.int .i64 1000)]) ∧ (AO.box [.bs true 1 (List.map enc_y x2), .v (.int .i64 0)] = AO.box [.bs true 1 (List.map enc_y x2), .v (.int .i64 0)]) ∧ True) ∧ ((([.sl 1 0 x3.1.length] : List AV) = [.sl 1 0 x3.1.length]) ∧ (AO.arr 3 (List.map enc_sbi x3.1) = AO.arr 3 (List.map enc_sbi x3.1)) ∧ True) ∧ ((ByteArray.mk #[101, 110, 117, 109, 10]).size + x4.size ≤ 9223372036854775807) ∧ True) (by kernel_rfl) ⟨⟨rfl, rfl, trivial⟩, ⟨⟨rfl, rfl, trivial⟩, ⟨g4, trivial⟩⟩⟩ ⟨call_ok (ks := [0]) (ns := [1]) (bor := []) (bobjs := []) (s_spec_someItems 1000 x2 0 x3 e2) (.cons (.c1 (.c0 (.same _ (by kernel_rfl) (by kernel_rfl)))) (.cons (.c1 (.c0 (.same _ (by kernel_rfl) (by kernel_rfl)))) (.nil))) (by kernel_rfl) ⟨.inr rfl, trivial⟩, ⟨call_ok (ks := []) (ns := []) (bor := [1]) (bobjs := [(1, .arr 3 (List.map enc_sbi x3.1))]) (s_spec_itemLines x3.1 x4 e3) (.cons (.c1 (.c0 (.arr rfl rfl ((rfl).trans (List.length_map ..).symm)))) (.nil)) (by kernel_rfl) trivial, trivial⟩⟩ ?_
  refine AX.seq ?_
  refine AX.seq ?_
  obtain ⟨x5, e5, h⟩ := bd_e h
  refine AX.reg (its := [.auto {}, .call 15 [.pt 0 0, .v (.int .i64 3)] (handO (rho ([0] ++ [])) [0] [.box [.bs true 1 (List.map enc_y x2), .v (.int .i64 x3.2)]] ++ []) (callEv [0] [] (.v (.int .i64 x5)) [.box [.bs true 1 (List.map enc_y x2), .v (.int .i64 (IntKind.wrap .i64 (x3.2 + 1)))]])]) [3, 4, 13] [0] (s1 := ⟨[(3, .pt 0 0), (4, .v (.string ((ByteArray.mk #[101, 110, 117, 109, 10]) ++ x4))), (13, .v (.bool (decide (x5 = 0))))], [(0, .box [.bs true 1 (List.map enc_y x2), .v (.int .i64 (IntKind.wrap .i64 (x3.2 + 1)))])]⟩) (C := ((([.pt 0 0, .v (.int .i64 3)] : List AV) = [.pt 0 0, .v (.int .i64 3)]) ∧ (AO.box [.bs true 1 (List.map enc_y x2), .v (.int .i64 x3.2)] = AO.box [.bs true 1 (List.map enc_y x2), .v (.int .i64 x3.2)]) ∧ True) ∧ True) (by kernel_rfl) ⟨⟨rfl, rfl, trivial⟩, trivial⟩ ⟨call_ok (ks := [0]) (ns := []) (bor := []) (bobjs := []) (s_spec_reader_pick 3 x2 x3.2 x5 e5) (.cons (.c1 (.c0 (.same _ (by kernel_rfl) (by kernel_rfl)))) (.cons (.c1 (.c0 (.same _ (by kernel_rfl) (by kernel_rfl)))) (.nil))) (by kernel_rfl) ⟨.inr rfl, trivial⟩, trivial⟩ ?_
  rcases bool_cases (decide (x5 = 0)) with b6 | b6
  · replace h := cd_t b6 h
    refine AX.condT (decide (x5 = 0)) (by kernel_rfl) b6 ?_
    obtain ⟨x6, e7, h⟩ := bd_e h
    refine AX.reg (its := [.auto {}, .auto {}, .call 16 [.pt 0 0, .v (.string ((ByteArray.mk #[101, 110, 117, 109, 10]) ++ x4))] (handO (rho ([0] ++ [])) [0] [.box [.bs true 1 (List.map enc_y x2), .v (.int .i64 (IntKind.wrap .i64 (x3.2 + 1)))]] ++ []) (callEv [0] [] (.v (.string x6.1)) [.box [.bs true 1 (List.map enc_y x2), .v (.int .i64 x6.2)]])]) [4] [] (s1 := ⟨[(4, .v (.string x6.1))], []⟩) (C := ((([.pt 0 0, .v (.string ((ByteArray.mk #[101, 110, 117, 109, 10]) ++ x4))] : List AV) = [.pt 0 0, .v (.string ((ByteArray.mk #[101, 110, 117, 109, 10]) ++ x4))]) ∧ (AO.box [.bs true 1 (List.map enc_y x2), .v (.int .i64 (IntKind.wrap .i64 (x3.2 + 1)))] = AO.box [.bs true 1 (List.map enc_y x2), .v (.int .i64 (IntKind.wrap .i64 (x3.2 + 1)))]) ∧ True) ∧ True) (by kernel_rfl) ⟨⟨rfl, rfl, trivial⟩, trivial⟩ ⟨call_ok (ks := [0]) (ns := []) (bor := []) (bobjs := []) (s_spec_mutate ((ByteArray.mk #[101, 110, 117, 109, 10]) ++ x4) x2 (IntKind.wrap .i64 (x3.2 + 1)) x6 e7) (.cons (.c1 (.c0 (.same _ (by kernel_rfl) (by kernel_rfl)))) (.cons (.c1 (.c0 (.same _ (by kernel_rfl) (by kernel_rfl)))) (.nil))) (by kernel_rfl) ⟨.inr rfl, trivial⟩, trivial⟩ ?_
    refine AX.seq ?_
    refine AX.reg (its := []) [2] [] (s1 := ⟨[(2, .v (.string x6.1))], []⟩) (C := True) (by kernel_rfl) trivial trivial ?_
    refine AX.ret ?_
    refine fin_wk (Wk.forget [2] [] (s' := ⟨[(2, .v (.string x6.1))], []⟩) (by kernel_rfl)) ?_
    have hr := Option.some.inj h
    subst hr
    exact ⟨_, Wk.refl _, .inr rfl, ⟨[], by kernel_rfl, trivial, [.v (.string x6.1)], by kernel_rfl, by kernel_rfl⟩⟩
  · replace h := cd_f b6 h
    refine AX.condF (decide (x5 = 0)) (by kernel_rfl) b6 ?_
    refine AX.skip ?_
    refine AX.seq ?_
    refine AX.reg (its := []) [2] [] (s1 := ⟨[(2, .v (.string ((ByteArray.mk #[101, 110, 117, 109, 10]) ++ x4)))], []⟩) (C := True) (by kernel_rfl) trivial trivial ?_
    refine AX.ret ?_
    refine fin_wk (Wk.forget [2] [] (s' := ⟨[(2, .v (.string ((ByteArray.mk #[101, 110, 117, 109, 10]) ++ x4)))], []⟩) (by kernel_rfl)) ?_
    have hr := Option.some.inj h
    subst hr
    exact ⟨_, Wk.refl _, .inr rfl, ⟨[], by kernel_rfl, trivial, [.v (.string ((ByteArray.mk #[101, 110, 117, 109, 10]) ++ x4))], by kernel_rfl, by kernel_rfl⟩⟩

end Go.Eng
