/- What is proved here: each function keeps to its model, whatever its arguments, wherever the model has an answer. Printed by gen.py. -/
import Derived.Test.YtomemaanjendhaaGreatDoorCArmTextModels
import Derived.Test.YtomemaanjendhaaGreatDoorProg
import Derived.Test.YtomemaanjendhaaGreatDoorCArmTextShelf
import Derived.KernelRfl
set_option linter.unusedVariables false
set_option linter.unusedSimpArgs false
set_option linter.unnecessarySimpa false
namespace Go.Eng
open Go Go.Proofs

theorem mixed : Tryz.prog.follows .mixedOrders = true := by kernel_rfl

theorem s_spec_newReader (p1 : List (Int)) (r : List (Int)) (h : m_spec_newReader p1 = some r) :
    Eng.Spec Tryz.prog 24 [.bs true 1 (List.map enc_y p1)] [] (.pt 0 0) [.box [.bs true 1 (List.map enc_y r), .v (.int .i64 0)]] := by
  unfold m_spec_newReader at h
  refine Eng.Spec.body Tryz.func24 (by kernel_rfl) rfl (by kernel_rfl) ?_
  refine AX.wkpost ?_
  refine AX.seq ?_
  refine AX.reg (its := []) [0] [] (s1 := ⟨[(0, .bs true 1 (List.map enc_y p1))], []⟩) (C := True) (by kernel_rfl) trivial trivial ?_
  refine AX.seq ?_
  refine AX.seq ?_
  refine AX.reg (its := [.auto {}, .auto { y := some (.v (.int .i64 (p1.length : Int))) }]) [0, 5] [] (s1 := ⟨[(0, .bs true 1 (List.map enc_y p1)), (5, .v (.bool (decide (2000 < (p1.length : Int)))))], []⟩) (C := (True ∧ (AV.v (.int .i64 ((List.map enc_y p1).length : Int)) = AV.v (.int .i64 (p1.length : Int)))) ∧ True) (by kernel_rfl) ⟨⟨trivial, len_map enc_y p1⟩, trivial⟩ trivial ?_
  rcases bool_cases (decide (2000 < (p1.length : Int))) with b1 | b1
  · replace h := cd_t b1 h
    refine AX.condT (decide (2000 < (p1.length : Int))) (by kernel_rfl) b1 ?_
    obtain ⟨g2, h⟩ := gd_e h
    refine AX.reg (its := [.auto {}, .auto { y := some (.bs true 1 (List.map enc_y (sub p1 (0 : Int) (2000 : Int)))) }]) [0] [] (s1 := ⟨[(0, .bs true 1 (List.map enc_y (sub p1 (0 : Int) (2000 : Int))))], []⟩) (C := ((0 ≤ (0 : Int) ∧ (0 : Int) ≤ (2000 : Int) ∧ (2000 : Int) ≤ ((List.map enc_y p1).length : Int) ∧ ((List.map enc_y p1).length : Int) ≤ ((List.map enc_y p1).length : Int)) ∧ (AV.bs true 1 (((List.map enc_y p1).drop (0 : Int).toNat).take ((2000 : Int).toNat - (0 : Int).toNat)) = (.bs true 1 (List.map enc_y (sub p1 (0 : Int) (2000 : Int))) : AV))) ∧ True) (by kernel_rfl) ⟨⟨by first | exact g2 | simpa only [List.length_map] using g2, by first | exact sub_can enc_y p1 (0 : Int) (2000 : Int) true 1 | (simp only [List.length_map]; exact sub_can enc_y p1 (0 : Int) (2000 : Int) true 1)⟩, trivial⟩ trivial ?_
    refine AX.seq ?_
    refine AX.reg (its := [.auto {}, .auto {}, .auto { nk := 0 }]) [2] [0] (s1 := ⟨[(2, .pt 0 0)], [(0, .box [.bs true 1 (List.map enc_y (sub p1 (0 : Int) (2000 : Int))), .v (.int .i64 0)])]⟩) (C := True) (by kernel_rfl) trivial trivial ?_
    refine AX.ret ?_
    refine fin_wk (Wk.forget [2] [0] (s' := ⟨[(2, .pt 0 0)], [(0, .box [.bs true 1 (List.map enc_y (sub p1 (0 : Int) (2000 : Int))), .v (.int .i64 0)])]⟩) (by kernel_rfl)) ?_
    have hr := Option.some.inj h
    subst hr
    exact ⟨_, Wk.refl _, .inr rfl, ⟨[0], by kernel_rfl, ⟨rfl, trivial⟩, [.pt 0 0], by kernel_rfl, by kernel_rfl⟩⟩
  · replace h := cd_f b1 h
    refine AX.condF (decide (2000 < (p1.length : Int))) (by kernel_rfl) b1 ?_
    refine AX.skip ?_
    refine AX.seq ?_
    refine AX.reg (its := [.auto {}, .auto {}, .auto { nk := 0 }]) [2] [0] (s1 := ⟨[(2, .pt 0 0)], [(0, .box [.bs true 1 (List.map enc_y p1), .v (.int .i64 0)])]⟩) (C := True) (by kernel_rfl) trivial trivial ?_
    refine AX.ret ?_
    refine fin_wk (Wk.forget [2] [0] (s' := ⟨[(2, .pt 0 0)], [(0, .box [.bs true 1 (List.map enc_y p1), .v (.int .i64 0)])]⟩) (by kernel_rfl)) ?_
    have hr := Option.some.inj h
    subst hr
    exact ⟨_, Wk.refl _, .inr rfl, ⟨[0], by kernel_rfl, ⟨rfl, trivial⟩, [.pt 0 0], by kernel_rfl, by kernel_rfl⟩⟩

theorem s_spec_reader_pick (p1 : Int) (p2 : List (Int)) (p3 : Int) (r : Int) (h : m_spec_reader_pick p1 p2 p3 = some r) :
    Eng.Spec Tryz.prog 27 [.pt 0 0, .v (.int .i64 p1)] [.box [.bs true 1 (List.map enc_y p2), .v (.int .i64 p3)]] (.v (.int .i64 r)) [.box [.bs true 1 (List.map enc_y p2), .v (.int .i64 (IntKind.wrap .i64 (p3 + 1)))]] := by
  unfold m_spec_reader_pick at h
  refine Eng.Spec.body Tryz.func27 (by kernel_rfl) rfl (by kernel_rfl) ?_
  refine AX.wkpost ?_
  refine AX.seq ?_
  refine AX.reg (its := []) [0, 1] [0] (s1 := ⟨[(0, .pt 0 0), (1, .v (.int .i64 p1))], [(0, .box [.bs true 1 (List.map enc_y p2), .v (.int .i64 p3)])]⟩) (C := True) (by kernel_rfl) trivial trivial ?_
  refine AX.seq ?_
  refine AX.reg (its := [.auto {}, .auto {}, .auto {}, .auto {}, .auto {}, .auto { raw := true }]) [0, 1] [0] (s1 := ⟨[(0, .pt 0 0), (1, .v (.int .i64 p1))], [(0, .box [.bs true 1 (List.map enc_y p2), .v (.int .i64 (IntKind.wrap .i64 (p3 + 1)))])]⟩) (C := True) (by kernel_rfl) trivial trivial ?_
  refine AX.seq ?_
  refine AX.seq ?_
  rcases bool_cases (decide (p1 < 1)) with b1 | b1
  · replace h := cd_t b1 h
    refine AX.reg (its := [.auto {}, .auto { y := some (.v (.bool true)) }]) [0, 1, 24] [0] (s1 := ⟨[(0, .pt 0 0), (1, .v (.int .i64 p1)), (24, .v (.bool true))], [(0, .box [.bs true 1 (List.map enc_y p2), .v (.int .i64 (IntKind.wrap .i64 (p3 + 1)))])]⟩) (C := ((True) ∧ ((.v (.bool (decide (p1 < 1))) : AV) = (.v (.bool true) : AV))) ∧ True) (by kernel_rfl) ⟨⟨trivial, (congrArg (fun z => AV.v (.bool z)) b1)⟩, trivial⟩ trivial ?_
    refine AX.cond_true (by kernel_rfl) ?_
    refine AX.seq ?_
    refine AX.reg (its := []) [4] [0] (s1 := ⟨[(4, .v (.int .i64 0))], [(0, .box [.bs true 1 (List.map enc_y p2), .v (.int .i64 (IntKind.wrap .i64 (p3 + 1)))])]⟩) (C := True) (by kernel_rfl) trivial trivial ?_
    refine AX.ret ?_
    refine fin_wk (Wk.forget [4] [0] (s' := ⟨[(4, .v (.int .i64 0))], [(0, .box [.bs true 1 (List.map enc_y p2), .v (.int .i64 (IntKind.wrap .i64 (p3 + 1)))])]⟩) (by kernel_rfl)) ?_
    have hr := Option.some.inj h
    subst hr
    exact ⟨_, Wk.refl _, .inr rfl, ⟨[], by kernel_rfl, ⟨rfl, trivial⟩, [.v (.int .i64 0)], by kernel_rfl, by kernel_rfl⟩⟩
  · replace h := cd_f b1 h
    refine AX.reg (its := [.auto {}, .auto { y := some (.v (.bool false)) }, .auto {}, .auto {}, .auto {}, .auto {}, .auto {}, .auto { y := some (.v (.int .i64 (p2.length : Int))) }]) [0, 1, 24] [0] (s1 := ⟨[(0, .pt 0 0), (1, .v (.int .i64 p1)), (24, .v (.bool (decide ((p2.length : Int) = 0))))], [(0, .box [.bs true 1 (List.map enc_y p2), .v (.int .i64 (IntKind.wrap .i64 (p3 + 1)))])]⟩) (C := ((True) ∧ ((.v (.bool (decide (p1 < 1))) : AV) = (.v (.bool false) : AV))) ∧ (True ∧ (AV.v (.int .i64 ((List.map enc_y p2).length : Int)) = AV.v (.int .i64 (p2.length : Int)))) ∧ True) (by kernel_rfl) ⟨⟨trivial, (congrArg (fun z => AV.v (.bool z)) b1)⟩, ⟨⟨trivial, len_map enc_y p2⟩, trivial⟩⟩ trivial ?_
    rcases bool_cases (decide ((p2.length : Int) = 0)) with b2 | b2
    · replace h := cd_t b2 h
      refine AX.condT (decide ((p2.length : Int) = 0)) (by kernel_rfl) b2 ?_
      refine AX.seq ?_
      refine AX.reg (its := []) [4] [0] (s1 := ⟨[(4, .v (.int .i64 0))], [(0, .box [.bs true 1 (List.map enc_y p2), .v (.int .i64 (IntKind.wrap .i64 (p3 + 1)))])]⟩) (C := True) (by kernel_rfl) trivial trivial ?_
      refine AX.ret ?_
      refine fin_wk (Wk.forget [4] [0] (s' := ⟨[(4, .v (.int .i64 0))], [(0, .box [.bs true 1 (List.map enc_y p2), .v (.int .i64 (IntKind.wrap .i64 (p3 + 1)))])]⟩) (by kernel_rfl)) ?_
      have hr := Option.some.inj h
      subst hr
      exact ⟨_, Wk.refl _, .inr rfl, ⟨[], by kernel_rfl, ⟨rfl, trivial⟩, [.v (.int .i64 0)], by kernel_rfl, by kernel_rfl⟩⟩
    · replace h := cd_f b2 h
      refine AX.condF (decide ((p2.length : Int) = 0)) (by kernel_rfl) b2 ?_
      refine AX.skip ?_
      refine AX.seq ?_
      refine AX.reg (its := [.auto {}, .auto {}, .auto {}, .auto {}, .auto { raw := true }]) [0, 1, 5] [0] (s1 := ⟨[(0, .pt 0 0), (1, .v (.int .i64 p1)), (5, .v (.int .i64 (IntKind.wrap .i64 ((IntKind.wrap .i64 (p3 + 1)) - 1))))], [(0, .box [.bs true 1 (List.map enc_y p2), .v (.int .i64 (IntKind.wrap .i64 (p3 + 1)))])]⟩) (C := True) (by kernel_rfl) trivial trivial ?_
      refine AX.seq ?_
      refine AX.seq ?_
      obtain ⟨v4, q3, h⟩ := nm_e h
      refine AX.reg (its := [.auto {}, .auto {}, .auto {}, .auto {}, .auto {}, .auto { y := some (.v (.int .i64 (p2.length : Int))) }, .auto { y := some (.v (.bool v4)) }]) [0, 1, 5, 36] [0] (s1 := ⟨[(0, .pt 0 0), (1, .v (.int .i64 p1)), (5, .v (.int .i64 (IntKind.wrap .i64 ((IntKind.wrap .i64 (p3 + 1)) - 1)))), (36, .v (.bool v4))], [(0, .box [.bs true 1 (List.map enc_y p2), .v (.int .i64 (IntKind.wrap .i64 (p3 + 1)))])]⟩) (C := (True ∧ (AV.v (.int .i64 ((List.map enc_y p2).length : Int)) = AV.v (.int .i64 (p2.length : Int)))) ∧ ((True) ∧ ((.v (.bool (decide ((IntKind.wrap .i64 ((IntKind.wrap .i64 (p3 + 1)) - 1)) < (p2.length : Int)))) : AV) = (.v (.bool v4) : AV))) ∧ True) (by kernel_rfl) ⟨⟨trivial, len_map enc_y p2⟩, ⟨⟨trivial, (congrArg (fun z => AV.v (.bool z)) q3)⟩, trivial⟩⟩ trivial ?_
      rcases bool_cases (v4) with b4 | b4
      · replace h := cd_t b4 h
        refine AX.condT (v4) (by kernel_rfl) b4 ?_
        refine AX.seq ?_
        obtain ⟨g5, h⟩ := gd_e h
        obtain ⟨v5, q6, h⟩ := nm_e h
        obtain ⟨g7, h⟩ := gd_e h
        refine AX.reg (its := [.auto {}, .auto {}, .auto {}, .auto {}, .auto {}, .auto { y := some (.be 1 (enc_y (gt p2 (IntKind.wrap .i64 ((IntKind.wrap .i64 (p3 + 1)) - 1)))) 0) }, .auto { y := some (.v (.int .u8 v5)) }, .auto { raw := true }]) [4] [0] (s1 := ⟨[(4, .v (.int .i64 (Int.tmod (IntKind.wrap .i64 (v5)) p1)))], [(0, .box [.bs true 1 (List.map enc_y p2), .v (.int .i64 (IntKind.wrap .i64 (p3 + 1)))])]⟩) (C := ((0 ≤ (IntKind.wrap .i64 ((IntKind.wrap .i64 (p3 + 1)) - 1)) ∧ (IntKind.wrap .i64 ((IntKind.wrap .i64 (p3 + 1)) - 1)) < ((List.map enc_y p2).length : Int)) ∧ (AV.be 1 ((List.map enc_y p2).getD (IntKind.wrap .i64 ((IntKind.wrap .i64 (p3 + 1)) - 1)).toNat []) 0 = AV.be 1 (enc_y (gt p2 (IntKind.wrap .i64 ((IntKind.wrap .i64 (p3 + 1)) - 1)))) 0)) ∧ ((True) ∧ ((.v (.int .u8 (gt p2 (IntKind.wrap .i64 ((IntKind.wrap .i64 (p3 + 1)) - 1)))) : AV) = (.v (.int .u8 v5) : AV))) ∧ (p1 ≠ 0) ∧ True) (by kernel_rfl) ⟨idx_bs enc_y p2 (IntKind.wrap .i64 ((IntKind.wrap .i64 (p3 + 1)) - 1)) 1 g5, ⟨⟨trivial, (congrArg (fun z => AV.v (.int .u8 z)) q6)⟩, ⟨g7, trivial⟩⟩⟩ trivial ?_
        refine AX.ret ?_
        refine fin_wk (Wk.forget [4] [0] (s' := ⟨[(4, .v (.int .i64 (Int.tmod (IntKind.wrap .i64 (v5)) p1)))], [(0, .box [.bs true 1 (List.map enc_y p2), .v (.int .i64 (IntKind.wrap .i64 (p3 + 1)))])]⟩) (by kernel_rfl)) ?_
        have hr := Option.some.inj h
        subst hr
        exact ⟨_, Wk.refl _, .inr rfl, ⟨[], by kernel_rfl, ⟨rfl, trivial⟩, [.v (.int .i64 (Int.tmod (IntKind.wrap .i64 (v5)) p1))], by kernel_rfl, by kernel_rfl⟩⟩
      · replace h := cd_f b4 h
        refine AX.condF (v4) (by kernel_rfl) b4 ?_
        refine AX.skip ?_
        refine AX.seq ?_
        obtain ⟨g8, h⟩ := gd_e h
        obtain ⟨v6, q9, h⟩ := nm_e h
        obtain ⟨g10, h⟩ := gd_e h
        obtain ⟨v7, q11, h⟩ := nm_e h
        obtain ⟨g12, h⟩ := gd_e h
        obtain ⟨v8, q13, h⟩ := nm_e h
        obtain ⟨v9, q14, h⟩ := nm_e h
        obtain ⟨v10, q15, h⟩ := nm_e h
        obtain ⟨g16, h⟩ := gd_e h
        obtain ⟨v11, q17, h⟩ := nm_e h
        obtain ⟨v12, q18, h⟩ := nm_e h
        refine AX.drw mixed (its := (.auto {} :: .auto {} :: .auto {} :: .auto {} :: .auto {} :: .auto {} :: .auto {} :: .auto {} :: .auto {} :: .auto { y := some (.v (.int .i64 (p2.length : Int))) } :: .auto { y := some (.v (.int .i64 v6)) } :: .auto { y := some (.be 1 (enc_y (gt p2 v6)) 0) } :: .auto {} :: .auto { raw := true } :: .auto { raw := true } :: .auto {} :: .auto {} :: .auto {} :: .auto {} :: .auto {} :: .auto { y := some (.v (.int .i64 v7)), raw := true } :: .auto { raw := true } :: .auto {} :: .auto {} :: .auto {} :: .auto {} :: .auto { y := some (.v (.int .i64 (p2.length : Int))) } :: .auto {} :: .auto { y := some (.be 1 (enc_y (gt p2 (Int.tmod (IntKind.wrap .i64 (v7 + 3)) (p2.length : Int)))) 0) } :: .auto { y := some (.v (.int .u8 v8)) } :: .auto { raw := true } :: .auto { raw := true } :: .auto { y := some (.v (.int .i64 v9)), raw := true } :: .auto {} :: .auto { y := some (.v (.int .i64 v10)), raw := true } :: .auto { raw := true } :: .auto {} :: .auto {} :: .auto {} :: .auto {} :: .auto {} :: .auto { y := some (.v (.int .i64 (p2.length : Int))) } :: .auto { y := some (.v (.int .i64 v11)) } :: .auto { raw := true } :: .auto { y := some (.v (.int .i64 v12)), raw := true } :: [])) [1, 6] [0] (s1 := ⟨[(1, .v (.int .i64 p1)), (6, .v (.int .i64 v12))], [(0, .box [.bs true 1 (List.map enc_y p2), .v (.int .i64 (IntKind.wrap .i64 (p3 + 1)))])]⟩) (C := (True ∧ (AV.v (.int .i64 ((List.map enc_y p2).length : Int)) = AV.v (.int .i64 (p2.length : Int)))) ∧ (((p2.length : Int) ≠ 0) ∧ ((.v (.int .i64 (Int.tmod (IntKind.wrap .i64 ((IntKind.wrap .i64 (p3 + 1)) - 1)) (p2.length : Int))) : AV) = (.v (.int .i64 v6) : AV))) ∧ ((0 ≤ v6 ∧ v6 < ((List.map enc_y p2).length : Int)) ∧ (AV.be 1 ((List.map enc_y p2).getD v6.toNat []) 0 = AV.be 1 (enc_y (gt p2 v6)) 0)) ∧ ((True) ∧ ((.v (.int .i64 (IntKind.wrap .i64 ((IntKind.wrap .i64 ((IntKind.wrap .i64 (p3 + 1)) - 1)) * 7))) : AV) = (.v (.int .i64 v7) : AV))) ∧ (True ∧ (AV.v (.int .i64 ((List.map enc_y p2).length : Int)) = AV.v (.int .i64 (p2.length : Int)))) ∧ ((p2.length : Int) ≠ 0) ∧ ((0 ≤ (Int.tmod (IntKind.wrap .i64 (v7 + 3)) (p2.length : Int)) ∧ (Int.tmod (IntKind.wrap .i64 (v7 + 3)) (p2.length : Int)) < ((List.map enc_y p2).length : Int)) ∧ (AV.be 1 ((List.map enc_y p2).getD (Int.tmod (IntKind.wrap .i64 (v7 + 3)) (p2.length : Int)).toNat []) 0 = AV.be 1 (enc_y (gt p2 (Int.tmod (IntKind.wrap .i64 (v7 + 3)) (p2.length : Int)))) 0)) ∧ ((True) ∧ ((.v (.int .u8 (gt p2 (Int.tmod (IntKind.wrap .i64 (v7 + 3)) (p2.length : Int)))) : AV) = (.v (.int .u8 v8) : AV))) ∧ ((True) ∧ ((.v (.int .i64 (IntKind.wrap .i64 ((IntKind.wrap .i64 ((IntKind.wrap .i64 ((gt p2 v6))) * 131)) + (IntKind.wrap .i64 ((IntKind.wrap .i64 (v8)) * 1117))))) : AV) = (.v (.int .i64 v9) : AV))) ∧ ((True) ∧ ((.v (.int .i64 (IntKind.wrap .i64 ((IntKind.wrap .i64 ((IntKind.wrap .i64 (p3 + 1)) - 1)) * 29))) : AV) = (.v (.int .i64 v10) : AV))) ∧ (True ∧ (AV.v (.int .i64 ((List.map enc_y p2).length : Int)) = AV.v (.int .i64 (p2.length : Int)))) ∧ (((p2.length : Int) ≠ 0 ∧ IntKind.wrap .i64 (Int.tdiv (IntKind.wrap .i64 ((IntKind.wrap .i64 (p3 + 1)) - 1)) (p2.length : Int)) = Int.tdiv (IntKind.wrap .i64 ((IntKind.wrap .i64 (p3 + 1)) - 1)) (p2.length : Int)) ∧ ((.v (.int .i64 (Int.tdiv (IntKind.wrap .i64 ((IntKind.wrap .i64 (p3 + 1)) - 1)) (p2.length : Int))) : AV) = (.v (.int .i64 v11) : AV))) ∧ ((True) ∧ ((.v (.int .i64 (IntKind.wrap .i64 ((IntKind.wrap .i64 (v9 + v10)) + (IntKind.wrap .i64 (v11 * 53))))) : AV) = (.v (.int .i64 v12) : AV))) ∧ True) (by kernel_rfl) ⟨⟨trivial, len_map enc_y p2⟩, ⟨⟨g8, (congrArg (fun z => AV.v (.int .i64 z)) q9)⟩, ⟨idx_bs enc_y p2 v6 1 g10, ⟨⟨trivial, (congrArg (fun z => AV.v (.int .i64 z)) q11)⟩, ⟨⟨trivial, len_map enc_y p2⟩, ⟨g8, ⟨idx_bs enc_y p2 (Int.tmod (IntKind.wrap .i64 (v7 + 3)) (p2.length : Int)) 1 g12, ⟨⟨trivial, (congrArg (fun z => AV.v (.int .u8 z)) q13)⟩, ⟨⟨trivial, (congrArg (fun z => AV.v (.int .i64 z)) q14)⟩, ⟨⟨trivial, (congrArg (fun z => AV.v (.int .i64 z)) q15)⟩, ⟨⟨trivial, len_map enc_y p2⟩, ⟨⟨g16, (congrArg (fun z => AV.v (.int .i64 z)) q17)⟩, ⟨⟨trivial, (congrArg (fun z => AV.v (.int .i64 z)) q18)⟩, trivial⟩⟩⟩⟩⟩⟩⟩⟩⟩⟩⟩⟩⟩ trivial ?_
        refine AX.seq ?_
        obtain ⟨g19, h⟩ := gd_e h
        refine AX.reg (its := []) [1, 6] [0] (s1 := ⟨[(1, .v (.int .i64 p1)), (6, .v (.int .i64 (Go.bits .xor .i64 v12 (Int.tdiv v12 64))))], [(0, .box [.bs true 1 (List.map enc_y p2), .v (.int .i64 (IntKind.wrap .i64 (p3 + 1)))])]⟩) (C := ((64 : Int) ≠ 0 ∧ IntKind.wrap .i64 (Int.tdiv v12 64) = Int.tdiv v12 64) ∧ True) (by kernel_rfl) ⟨g19, trivial⟩ trivial ?_
        refine AX.seq ?_
        obtain ⟨g20, h⟩ := gd_e h
        refine AX.reg (its := []) [4] [0] (s1 := ⟨[(4, .v (.int .i64 (Int.tmod (Go.bits .xor .i64 v12 (Int.tdiv v12 64)) p1)))], [(0, .box [.bs true 1 (List.map enc_y p2), .v (.int .i64 (IntKind.wrap .i64 (p3 + 1)))])]⟩) (C := (p1 ≠ 0) ∧ True) (by kernel_rfl) ⟨g20, trivial⟩ trivial ?_
        refine AX.ret ?_
        refine fin_wk (Wk.forget [4] [0] (s' := ⟨[(4, .v (.int .i64 (Int.tmod (Go.bits .xor .i64 v12 (Int.tdiv v12 64)) p1)))], [(0, .box [.bs true 1 (List.map enc_y p2), .v (.int .i64 (IntKind.wrap .i64 (p3 + 1)))])]⟩) (by kernel_rfl)) ?_
        have hr := Option.some.inj h
        subst hr
        exact ⟨_, Wk.refl _, .inr rfl, ⟨[], by kernel_rfl, ⟨rfl, trivial⟩, [.v (.int .i64 (Int.tmod (Go.bits .xor .i64 v12 (Int.tdiv v12 64)) p1))], by kernel_rfl, by kernel_rfl⟩⟩

theorem s_spec_reader_one (p1 : List (Int)) (p2 : List (Int)) (p3 : Int) (r : Int) (h : m_spec_reader_one p1 p2 p3 = some r) :
    Eng.Spec Tryz.prog 98 [.pt 0 0, .bs false 1 (List.map enc_i p1)] [.box [.bs true 1 (List.map enc_y p2), .v (.int .i64 p3)]] (.v (.int .i64 r)) [.box [.bs true 1 (List.map enc_y p2), .v (.int .i64 (IntKind.wrap .i64 (p3 + 1)))]] := by
  unfold m_spec_reader_one at h
  refine Eng.Spec.body Tryz.func98 (by kernel_rfl) rfl (by kernel_rfl) ?_
  refine AX.wkpost ?_
  refine AX.seq ?_
  refine AX.reg (its := []) [0, 1] [0] (s1 := ⟨[(0, .pt 0 0), (1, .bs false 1 (List.map enc_i p1))], [(0, .box [.bs true 1 (List.map enc_y p2), .v (.int .i64 p3)])]⟩) (C := True) (by kernel_rfl) trivial trivial ?_
  refine AX.seq ?_
  obtain ⟨x4, e1, h⟩ := bd_e h
  obtain ⟨g2, h⟩ := gd_e h
  refine AX.reg (its := [.auto {}, .auto {}, .auto {}, .auto { y := some (.v (.int .i64 (p1.length : Int))) }, .call 27 [.pt 0 0, .v (.int .i64 (p1.length : Int))] (handO (rho ([0] ++ [])) [0] [.box [.bs true 1 (List.map enc_y p2), .v (.int .i64 p3)]] ++ []) (callEv [0] [] (.v (.int .i64 x4)) [.box [.bs true 1 (List.map enc_y p2), .v (.int .i64 (IntKind.wrap .i64 (p3 + 1)))]]), .auto { y := some (.be 1 (enc_i (gt p1 x4)) 0) }]) [4] [0] (s1 := ⟨[(4, .v (.int .i64 (gt p1 x4)))], [(0, .box [.bs true 1 (List.map enc_y p2), .v (.int .i64 (IntKind.wrap .i64 (p3 + 1)))])]⟩) (C := (True ∧ (AV.v (.int .i64 ((List.map enc_i p1).length : Int)) = AV.v (.int .i64 (p1.length : Int)))) ∧ ((([.pt 0 0, .v (.int .i64 (p1.length : Int))] : List AV) = [.pt 0 0, .v (.int .i64 (p1.length : Int))]) ∧ (AO.box [.bs true 1 (List.map enc_y p2), .v (.int .i64 p3)] = AO.box [.bs true 1 (List.map enc_y p2), .v (.int .i64 p3)]) ∧ True) ∧ ((0 ≤ x4 ∧ x4 < ((List.map enc_i p1).length : Int)) ∧ (AV.be 1 ((List.map enc_i p1).getD x4.toNat []) 0 = AV.be 1 (enc_i (gt p1 x4)) 0)) ∧ True) (by kernel_rfl) ⟨⟨trivial, len_map enc_i p1⟩, ⟨⟨rfl, rfl, trivial⟩, ⟨idx_bs enc_i p1 x4 1 g2, trivial⟩⟩⟩ ⟨call_ok (ks := [0]) (ns := []) (bor := []) (bobjs := []) (s_spec_reader_pick (p1.length : Int) p2 p3 x4 e1) (.cons (.c1 (.c0 (.same _ (by kernel_rfl) (by kernel_rfl)))) (.cons (.c1 (.c0 (.same _ (by kernel_rfl) (by kernel_rfl)))) (.nil))) (by kernel_rfl) ⟨.inr rfl, trivial⟩, trivial⟩ ?_
  refine AX.ret ?_
  refine fin_wk (Wk.forget [4] [0] (s' := ⟨[(4, .v (.int .i64 (gt p1 x4)))], [(0, .box [.bs true 1 (List.map enc_y p2), .v (.int .i64 (IntKind.wrap .i64 (p3 + 1)))])]⟩) (by kernel_rfl)) ?_
  have hr := Option.some.inj h
  subst hr
  exact ⟨_, Wk.refl _, .inr rfl, ⟨[], by kernel_rfl, ⟨rfl, trivial⟩, [.v (.int .i64 (gt p1 x4))], by kernel_rfl, by kernel_rfl⟩⟩

theorem s_spec_reader_of (p1 : List (ByteArray)) (p2 : List (Int)) (p3 : Int) (r : ByteArray) (h : m_spec_reader_of p1 p2 p3 = some r) :
    Eng.Spec Tryz.prog 63 [.pt 0 0, .bs false 1 (List.map enc_s p1)] [.box [.bs true 1 (List.map enc_y p2), .v (.int .i64 p3)]] (.v (.string r)) [.box [.bs true 1 (List.map enc_y p2), .v (.int .i64 (IntKind.wrap .i64 (p3 + 1)))]] := by
  unfold m_spec_reader_of at h
  refine Eng.Spec.body Tryz.func63 (by kernel_rfl) rfl (by kernel_rfl) ?_
  refine AX.wkpost ?_
  refine AX.seq ?_
  refine AX.reg (its := []) [0, 1] [0] (s1 := ⟨[(0, .pt 0 0), (1, .bs false 1 (List.map enc_s p1))], [(0, .box [.bs true 1 (List.map enc_y p2), .v (.int .i64 p3)])]⟩) (C := True) (by kernel_rfl) trivial trivial ?_
  refine AX.seq ?_
  obtain ⟨x4, e1, h⟩ := bd_e h
  obtain ⟨g2, h⟩ := gd_e h
  refine AX.reg (its := [.auto {}, .auto {}, .auto {}, .auto { y := some (.v (.int .i64 (p1.length : Int))) }, .call 27 [.pt 0 0, .v (.int .i64 (p1.length : Int))] (handO (rho ([0] ++ [])) [0] [.box [.bs true 1 (List.map enc_y p2), .v (.int .i64 p3)]] ++ []) (callEv [0] [] (.v (.int .i64 x4)) [.box [.bs true 1 (List.map enc_y p2), .v (.int .i64 (IntKind.wrap .i64 (p3 + 1)))]]), .auto { y := some (.be 1 (enc_s (gt p1 x4)) 0) }]) [4] [0] (s1 := ⟨[(4, .v (.string (gt p1 x4)))], [(0, .box [.bs true 1 (List.map enc_y p2), .v (.int .i64 (IntKind.wrap .i64 (p3 + 1)))])]⟩) (C := (True ∧ (AV.v (.int .i64 ((List.map enc_s p1).length : Int)) = AV.v (.int .i64 (p1.length : Int)))) ∧ ((([.pt 0 0, .v (.int .i64 (p1.length : Int))] : List AV) = [.pt 0 0, .v (.int .i64 (p1.length : Int))]) ∧ (AO.box [.bs true 1 (List.map enc_y p2), .v (.int .i64 p3)] = AO.box [.bs true 1 (List.map enc_y p2), .v (.int .i64 p3)]) ∧ True) ∧ ((0 ≤ x4 ∧ x4 < ((List.map enc_s p1).length : Int)) ∧ (AV.be 1 ((List.map enc_s p1).getD x4.toNat []) 0 = AV.be 1 (enc_s (gt p1 x4)) 0)) ∧ True) (by kernel_rfl) ⟨⟨trivial, len_map enc_s p1⟩, ⟨⟨rfl, rfl, trivial⟩, ⟨idx_bs enc_s p1 x4 1 g2, trivial⟩⟩⟩ ⟨call_ok (ks := [0]) (ns := []) (bor := []) (bobjs := []) (s_spec_reader_pick (p1.length : Int) p2 p3 x4 e1) (.cons (.c1 (.c0 (.same _ (by kernel_rfl) (by kernel_rfl)))) (.cons (.c1 (.c0 (.same _ (by kernel_rfl) (by kernel_rfl)))) (.nil))) (by kernel_rfl) ⟨.inr rfl, trivial⟩, trivial⟩ ?_
  refine AX.ret ?_
  refine fin_wk (Wk.forget [4] [0] (s' := ⟨[(4, .v (.string (gt p1 x4)))], [(0, .box [.bs true 1 (List.map enc_y p2), .v (.int .i64 (IntKind.wrap .i64 (p3 + 1)))])]⟩) (by kernel_rfl)) ?_
  have hr := Option.some.inj h
  subst hr
  exact ⟨_, Wk.refl _, .inr rfl, ⟨[], by kernel_rfl, ⟨rfl, trivial⟩, [.v (.string (gt p1 x4))], by kernel_rfl, by kernel_rfl⟩⟩

theorem s_spec_aName (p1 : List (Int)) (p2 : Int) (r : ByteArray) (h : m_spec_aName p1 p2 = some r) :
    Eng.Spec Tryz.prog 125 [.pt 0 0] [.box [.bs true 1 (List.map enc_y p1), .v (.int .i64 p2)]] (.v (.string r)) [.box [.bs true 1 (List.map enc_y p1), .v (.int .i64 (IntKind.wrap .i64 (p2 + 1)))]] := by
  unfold m_spec_aName at h
  refine Eng.Spec.body Tryz.func125 (by kernel_rfl) rfl (by kernel_rfl) ?_
  refine AX.wkpost ?_
  refine AX.seq ?_
  refine AX.reg (its := []) [0] [0] (s1 := ⟨[(0, .pt 0 0)], [(0, .box [.bs true 1 (List.map enc_y p1), .v (.int .i64 p2)])]⟩) (C := True) (by kernel_rfl) trivial trivial ?_
  refine AX.seq ?_
  obtain ⟨x3, e1, h⟩ := bd_e h
  refine AX.reg (its := [.auto {}, .auto { nk := 1 }, .call 63 [.pt 0 0, .sl 1 0 (([(ByteArray.mk #[97]), (ByteArray.mk #[98]), (ByteArray.mk #[99]), (ByteArray.mk #[100]), (ByteArray.mk #[101]), (ByteArray.mk #[97, 98]), (ByteArray.mk #[114, 101, 100]), (ByteArray.mk #[98, 108, 117, 101]), (ByteArray.mk #[111, 110]), (ByteArray.mk #[111, 102, 102]), (ByteArray.mk #[97, 108, 108]), (ByteArray.mk #[102])] : List (ByteArray)).length)] (handO (rho ([0] ++ [])) [0] [.box [.bs true 1 (List.map enc_y p1), .v (.int .i64 p2)]] ++ [(1, .arr 1 (List.map enc_s ([(ByteArray.mk #[97]), (ByteArray.mk #[98]), (ByteArray.mk #[99]), (ByteArray.mk #[100]), (ByteArray.mk #[101]), (ByteArray.mk #[97, 98]), (ByteArray.mk #[114, 101, 100]), (ByteArray.mk #[98, 108, 117, 101]), (ByteArray.mk #[111, 110]), (ByteArray.mk #[111, 102, 102]), (ByteArray.mk #[97, 108, 108]), (ByteArray.mk #[102])] : List (ByteArray))))]) (callEv [0] [] (.v (.string x3)) [.box [.bs true 1 (List.map enc_y p1), .v (.int .i64 (IntKind.wrap .i64 (p2 + 1)))]])]) [2] [0] (s1 := ⟨[(2, .v (.string x3))], [(0, .box [.bs true 1 (List.map enc_y p1), .v (.int .i64 (IntKind.wrap .i64 (p2 + 1)))])]⟩) (C := ((([.pt 0 0, .sl 1 0 (([(ByteArray.mk #[97]), (ByteArray.mk #[98]), (ByteArray.mk #[99]), (ByteArray.mk #[100]), (ByteArray.mk #[101]), (ByteArray.mk #[97, 98]), (ByteArray.mk #[114, 101, 100]), (ByteArray.mk #[98, 108, 117, 101]), (ByteArray.mk #[111, 110]), (ByteArray.mk #[111, 102, 102]), (ByteArray.mk #[97, 108, 108]), (ByteArray.mk #[102])] : List (ByteArray)).length)] : List AV) = [.pt 0 0, .sl 1 0 (([(ByteArray.mk #[97]), (ByteArray.mk #[98]), (ByteArray.mk #[99]), (ByteArray.mk #[100]), (ByteArray.mk #[101]), (ByteArray.mk #[97, 98]), (ByteArray.mk #[114, 101, 100]), (ByteArray.mk #[98, 108, 117, 101]), (ByteArray.mk #[111, 110]), (ByteArray.mk #[111, 102, 102]), (ByteArray.mk #[97, 108, 108]), (ByteArray.mk #[102])] : List (ByteArray)).length)]) ∧ (AO.box [.bs true 1 (List.map enc_y p1), .v (.int .i64 p2)] = AO.box [.bs true 1 (List.map enc_y p1), .v (.int .i64 p2)]) ∧ (AO.arr 1 (List.map enc_s ([(ByteArray.mk #[97]), (ByteArray.mk #[98]), (ByteArray.mk #[99]), (ByteArray.mk #[100]), (ByteArray.mk #[101]), (ByteArray.mk #[97, 98]), (ByteArray.mk #[114, 101, 100]), (ByteArray.mk #[98, 108, 117, 101]), (ByteArray.mk #[111, 110]), (ByteArray.mk #[111, 102, 102]), (ByteArray.mk #[97, 108, 108]), (ByteArray.mk #[102])] : List (ByteArray))) = AO.arr 1 (List.map enc_s ([(ByteArray.mk #[97]), (ByteArray.mk #[98]), (ByteArray.mk #[99]), (ByteArray.mk #[100]), (ByteArray.mk #[101]), (ByteArray.mk #[97, 98]), (ByteArray.mk #[114, 101, 100]), (ByteArray.mk #[98, 108, 117, 101]), (ByteArray.mk #[111, 110]), (ByteArray.mk #[111, 102, 102]), (ByteArray.mk #[97, 108, 108]), (ByteArray.mk #[102])] : List (ByteArray)))) ∧ True) ∧ True) (by kernel_rfl) ⟨⟨rfl, rfl, rfl, trivial⟩, trivial⟩ ⟨call_ok (ks := [0]) (ns := []) (bor := [1]) (bobjs := [(1, .arr 1 (List.map enc_s ([(ByteArray.mk #[97]), (ByteArray.mk #[98]), (ByteArray.mk #[99]), (ByteArray.mk #[100]), (ByteArray.mk #[101]), (ByteArray.mk #[97, 98]), (ByteArray.mk #[114, 101, 100]), (ByteArray.mk #[98, 108, 117, 101]), (ByteArray.mk #[111, 110]), (ByteArray.mk #[111, 102, 102]), (ByteArray.mk #[97, 108, 108]), (ByteArray.mk #[102])] : List (ByteArray))))]) (s_spec_reader_of ([(ByteArray.mk #[97]), (ByteArray.mk #[98]), (ByteArray.mk #[99]), (ByteArray.mk #[100]), (ByteArray.mk #[101]), (ByteArray.mk #[97, 98]), (ByteArray.mk #[114, 101, 100]), (ByteArray.mk #[98, 108, 117, 101]), (ByteArray.mk #[111, 110]), (ByteArray.mk #[111, 102, 102]), (ByteArray.mk #[97, 108, 108]), (ByteArray.mk #[102])] : List (ByteArray)) p1 p2 x3 e1) (.cons (.c1 (.c0 (.same _ (by kernel_rfl) (by kernel_rfl)))) (.cons (.c1 (.c0 (.arr rfl rfl ((rfl).trans (List.length_map ..).symm)))) (.nil))) (by kernel_rfl) ⟨.inr rfl, trivial⟩, trivial⟩ ?_
  refine AX.ret ?_
  refine fin_wk (Wk.forget [2] [0] (s' := ⟨[(2, .v (.string x3))], [(0, .box [.bs true 1 (List.map enc_y p1), .v (.int .i64 (IntKind.wrap .i64 (p2 + 1)))])]⟩) (by kernel_rfl)) ?_
  have hr := Option.some.inj h
  subst hr
  exact ⟨_, Wk.refl _, .inr rfl, ⟨[], by kernel_rfl, ⟨rfl, trivial⟩, [.v (.string x3)], by kernel_rfl, by kernel_rfl⟩⟩

theorem s_spec_indexOf_L1 (p1 : List (ByteArray × Int)) (p2 : ByteArray) (n : Nat) (g : Int) (out : Int ⊕ Unit) (h : m_spec_indexOf_L1 p1 p2 n g = some out) :
    AX Tryz.prog 20 0 (codeAt [1, 0, 1, 1] (bodyOf Tryz.f108)) ((fun g : Int => (⟨[(0, .bs false 2 (List.map enc_si p1)), (1, .v (.string p2)), (5, .v (.int .i64 g))], []⟩ : S)) g) (fun ex s => (∃ o : Int, out = Sum.inl o ∧ ex = .ret ∧ s = ⟨[(4, .v (.int .i64 o))], []⟩) ∨ (∃ o : Unit, out = Sum.inr o ∧ ex = .exit 0 ∧ s = ⟨[], []⟩)) := by
  refine AX.wkpost ?_
  refine AX.loop (G := Nat × (Int)) (fun q => (fun g : Int => (⟨[(0, .bs false 2 (List.map enc_si p1)), (1, .v (.string p2)), (5, .v (.int .i64 g))], []⟩ : S)) q.2) (fun q => m_spec_indexOf_L1 p1 p2 q.1 q.2 = some out) (fun q => q.1) (n, g) h (Wk.refl _) ?_
  clear h
  rintro ⟨fu, v3⟩ h
  cases fu with
  | zero => cases h
  | succ fu =>
    rw [m_spec_indexOf_L1] at h
    refine AX.seq ?_
    refine AX.seq ?_
    refine AX.reg (its := [.auto {}, .auto {}, .auto { y := some (.v (.int .i64 (p1.length : Int))) }]) [0, 1, 5, 9] [] (s1 := ⟨[(0, .bs false 2 (List.map enc_si p1)), (1, .v (.string p2)), (5, .v (.int .i64 v3)), (9, .v (.bool (decide (v3 < (p1.length : Int)))))], []⟩) (C := (True ∧ (AV.v (.int .i64 ((List.map enc_si p1).length : Int)) = AV.v (.int .i64 (p1.length : Int)))) ∧ True) (by kernel_rfl) ⟨⟨trivial, len_map enc_si p1⟩, trivial⟩ trivial ?_
    rcases bool_cases (decide (v3 < (p1.length : Int))) with b1 | b1
    · replace h := cd_t b1 h
      refine AX.condT (decide (v3 < (p1.length : Int))) (by kernel_rfl) b1 ?_
      refine AX.skip ?_
      refine AX.seq ?_
      refine AX.block ?_
      refine AX.seq ?_
      obtain ⟨g2, h⟩ := gd_e h
      refine AX.reg (its := [.auto {}, .auto {}, .auto { y := some (.be 2 (enc_si (gt p1 v3)) 0) }]) [0, 1, 5, 18] [] (s1 := ⟨[(0, .bs false 2 (List.map enc_si p1)), (1, .v (.string p2)), (5, .v (.int .i64 v3)), (18, .v (.bool (decide (((gt p1 v3).1) = p2))))], []⟩) (C := ((0 ≤ v3 ∧ v3 < ((List.map enc_si p1).length : Int)) ∧ (AV.be 2 ((List.map enc_si p1).getD v3.toNat []) 0 = AV.be 2 (enc_si (gt p1 v3)) 0)) ∧ True) (by kernel_rfl) ⟨idx_bs enc_si p1 v3 2 g2, trivial⟩ trivial ?_
      rcases bool_cases (decide (((gt p1 v3).1) = p2)) with b3 | b3
      · replace h := cd_t b3 h
        refine AX.condT (decide (((gt p1 v3).1) = p2)) (by kernel_rfl) b3 ?_
        refine AX.seq ?_
        refine AX.reg (its := []) [4] [] (s1 := ⟨[(4, .v (.int .i64 v3))], []⟩) (C := True) (by kernel_rfl) trivial trivial ?_
        refine AX.ret ?_
        refine fin_wk (Wk.forget [4] [] (s' := ⟨[(4, .v (.int .i64 v3))], []⟩) (by kernel_rfl)) ?_
        have hr := Option.some.inj h
        subst hr
        exact ⟨_, Wk.refl _, .inl ⟨v3, rfl, rfl, rfl⟩⟩
      · replace h := cd_f b3 h
        refine AX.condF (decide (((gt p1 v3).1) = p2)) (by kernel_rfl) b3 ?_
        refine AX.skip ?_
        refine AX.reg (its := [.auto {}, .auto { raw := true }]) [0, 1, 5] [] (s1 := ⟨[(0, .bs false 2 (List.map enc_si p1)), (1, .v (.string p2)), (5, .v (.int .i64 (IntKind.wrap .i64 (v3 + 1))))], []⟩) (C := True) (by kernel_rfl) trivial trivial ?_
        refine ⟨(fu, IntKind.wrap .i64 (v3 + 1)), h, Nat.lt_succ_self _, ?_⟩
        refine Wk.trans (Wk.forget [0, 1, 5] [] (s' := ⟨[(0, .bs false 2 (List.map enc_si p1)), (1, .v (.string p2)), (5, .v (.int .i64 (IntKind.wrap .i64 (v3 + 1))))], []⟩) (by kernel_rfl)) ?_
        exact Wk.refl _
    · replace h := cd_f b1 h
      refine AX.condF (decide (v3 < (p1.length : Int))) (by kernel_rfl) b1 ?_
      refine AX.exit ?_
      refine fin_wk (Wk.forget [] [] (s' := ⟨[], []⟩) (by kernel_rfl)) ?_
      have hr := Option.some.inj h
      subst hr
      exact ⟨_, Wk.refl _, .inr ⟨(), rfl, rfl, rfl⟩⟩

theorem s_spec_indexOf (p1 : List (ByteArray × Int)) (p2 : ByteArray) (r : Int) (h : m_spec_indexOf p1 p2 = some r) :
    Eng.Spec Tryz.prog 108 [.bs false 2 (List.map enc_si p1), .v (.string p2)] [] (.v (.int .i64 r)) [] := by
  unfold m_spec_indexOf at h
  refine Eng.Spec.body Tryz.func108 (by kernel_rfl) rfl (by kernel_rfl) ?_
  refine AX.wkpost ?_
  refine AX.seq ?_
  refine AX.reg (its := []) [0, 1] [] (s1 := ⟨[(0, .bs false 2 (List.map enc_si p1)), (1, .v (.string p2))], []⟩) (C := True) (by kernel_rfl) trivial trivial ?_
  refine AX.seq ?_
  refine AX.seq ?_
  refine AX.reg (its := []) [0, 1, 5] [] (s1 := ⟨[(0, .bs false 2 (List.map enc_si p1)), (1, .v (.string p2)), (5, .v (.int .i64 0))], []⟩) (C := True) (by kernel_rfl) trivial trivial ?_
  refine AX.block ?_
  obtain ⟨x4, e4, h⟩ := bd_e h
  refine AX.wk (Wk.forget [0, 1, 5] [] (s' := ⟨[(0, .bs false 2 (List.map enc_si p1)), (1, .v (.string p2)), (5, .v (.int .i64 0))], []⟩) (by kernel_rfl)) ?_
  refine AX.mono (s_spec_indexOf_L1 p1 p2 FU 0 x4 e4) ?_
  rintro _ _ (⟨x5, rfl, rfl, rfl⟩ | ⟨x6, rfl, rfl, rfl⟩)
  · replace h := sm_l h
    refine fin_wk (Wk.forget [4] [] (s' := ⟨[(4, .v (.int .i64 x5))], []⟩) (by kernel_rfl)) ?_
    have hr := Option.some.inj h
    subst hr
    exact ⟨_, Wk.refl _, .inr rfl, ⟨[], by kernel_rfl, trivial, [.v (.int .i64 x5)], by kernel_rfl, by kernel_rfl⟩⟩
  · replace h := sm_r h
    refine AX.seq ?_
    refine AX.reg (its := []) [4] [] (s1 := ⟨[(4, .v (.int .i64 (-1)))], []⟩) (C := True) (by kernel_rfl) trivial trivial ?_
    refine AX.ret ?_
    refine fin_wk (Wk.forget [4] [] (s' := ⟨[(4, .v (.int .i64 (-1)))], []⟩) (by kernel_rfl)) ?_
    have hr := Option.some.inj h
    subst hr
    exact ⟨_, Wk.refl _, .inr rfl, ⟨[], by kernel_rfl, trivial, [.v (.int .i64 (-1))], by kernel_rfl, by kernel_rfl⟩⟩

theorem s_spec_goodDefs_L1 (p1 : Int) (p2 : List (Int)) (n : Nat) (g : (List (ByteArray × Int)) × Int × Int) (out : (List (ByteArray × Int)) × Int) (h : m_spec_goodDefs_L1 p1 p2 n g.1 g.2.1 g.2.2 = some out) :
    AX Tryz.prog 51 1 (codeAt [1, 1, 0, 1, 1] (bodyOf Tryz.f124)) ((fun g : (List (ByteArray × Int)) × Int × Int => (⟨[(0, .pt 0 0), (1, .v (.int .i64 p1)), (5, .sl 1 0 g.1.length), (6, .v (.int .i64 g.2.1))], [(0, .box [.bs true 1 (List.map enc_y p2), .v (.int .i64 g.2.2)]), (1, .arr 2 (List.map enc_si g.1))]⟩ : S)) g) (fun ex s => ex = .exit 0 ∧ s = (fun o : (List (ByteArray × Int)) × Int => (⟨[(5, .sl 1 0 o.1.length)], [(0, .box [.bs true 1 (List.map enc_y p2), .v (.int .i64 o.2)]), (1, .arr 2 (List.map enc_si o.1))]⟩ : S)) out) := by
  refine AX.wkpost ?_
  refine AX.loop (G := Nat × ((List (ByteArray × Int)) × Int × Int)) (fun q => (fun g : (List (ByteArray × Int)) × Int × Int => (⟨[(0, .pt 0 0), (1, .v (.int .i64 p1)), (5, .sl 1 0 g.1.length), (6, .v (.int .i64 g.2.1))], [(0, .box [.bs true 1 (List.map enc_y p2), .v (.int .i64 g.2.2)]), (1, .arr 2 (List.map enc_si g.1))]⟩ : S)) q.2) (fun q => m_spec_goodDefs_L1 p1 p2 q.1 q.2.1 q.2.2.1 q.2.2.2 = some out) (fun q => q.1) (n, g) h (Wk.refl _) ?_
  clear h
  rintro ⟨fu, v5, v6, v7⟩ h
  cases fu with
  | zero => cases h
  | succ fu =>
    rw [m_spec_goodDefs_L1] at h
    refine AX.seq ?_
    refine AX.seq ?_
    refine AX.reg (its := []) [0, 1, 5, 6, 13] [0, 1] (s1 := ⟨[(0, .pt 0 0), (1, .v (.int .i64 p1)), (5, .sl 1 0 v5.length), (6, .v (.int .i64 v6)), (13, .v (.bool (decide (0 < v6))))], [(0, .box [.bs true 1 (List.map enc_y p2), .v (.int .i64 v7)]), (1, .arr 2 (List.map enc_si v5))]⟩) (C := True) (by kernel_rfl) trivial trivial ?_
    rcases bool_cases (decide (0 < v6)) with b2 | b2
    · replace h := cd_t b2 h
      refine AX.condT (decide (0 < v6)) (by kernel_rfl) b2 ?_
      refine AX.skip ?_
      refine AX.seq ?_
      refine AX.block ?_
      refine AX.seq ?_
      obtain ⟨x8, e3, h⟩ := bd_e h
      obtain ⟨x9, e4, h⟩ := bd_e h
      obtain ⟨x10, e5, h⟩ := bd_e h
      refine AX.reg (its := [.auto {}, .call 125 [.pt 0 0] (handO (rho ([0] ++ [])) [0] [.box [.bs true 1 (List.map enc_y p2), .v (.int .i64 v7)]] ++ []) (callEv [0] [] (.v (.string x8)) [.box [.bs true 1 (List.map enc_y p2), .v (.int .i64 (IntKind.wrap .i64 (v7 + 1)))]]), .auto {}, .auto {}, .call 27 [.pt 0 0, .v (.int .i64 12)] (handO (rho ([0] ++ [])) [0] [.box [.bs true 1 (List.map enc_y p2), .v (.int .i64 (IntKind.wrap .i64 (v7 + 1)))]] ++ []) (callEv [0] [] (.v (.int .i64 x9)) [.box [.bs true 1 (List.map enc_y p2), .v (.int .i64 (IntKind.wrap .i64 ((IntKind.wrap .i64 (v7 + 1)) + 1)))]]), .auto { nk := 2 }, .call 98 [.pt 0 0, .sl 2 0 (([1, 2, 3, 4, 5, 0, 8, x9, (-1), 7, 1000, 16] : List (Int)).length)] (handO (rho ([0] ++ [])) [0] [.box [.bs true 1 (List.map enc_y p2), .v (.int .i64 (IntKind.wrap .i64 ((IntKind.wrap .i64 (v7 + 1)) + 1)))]] ++ [(2, .arr 1 (List.map enc_i ([1, 2, 3, 4, 5, 0, 8, x9, (-1), 7, 1000, 16] : List (Int))))]) (callEv [0] [] (.v (.int .i64 x10)) [.box [.bs true 1 (List.map enc_y p2), .v (.int .i64 (IntKind.wrap .i64 ((IntKind.wrap .i64 ((IntKind.wrap .i64 (v7 + 1)) + 1)) + 1)))]]), .auto {}, .auto { nk := 3 }]) [0, 1, 5, 6, 7] [0, 1, 3] (s1 := ⟨[(0, .pt 0 0), (1, .v (.int .i64 p1)), (5, .sl 1 0 v5.length), (6, .v (.int .i64 v6)), (7, .pt 3 0)], [(0, .box [.bs true 1 (List.map enc_y p2), .v (.int .i64 (IntKind.wrap .i64 ((IntKind.wrap .i64 ((IntKind.wrap .i64 (v7 + 1)) + 1)) + 1)))]), (1, .arr 2 (List.map enc_si v5)), (3, .box [.v (.string x8), .v (.int .i64 x10)])]⟩) (C := ((([.pt 0 0] : List AV) = [.pt 0 0]) ∧ (AO.box [.bs true 1 (List.map enc_y p2), .v (.int .i64 v7)] = AO.box [.bs true 1 (List.map enc_y p2), .v (.int .i64 v7)]) ∧ True) ∧ ((([.pt 0 0, .v (.int .i64 12)] : List AV) = [.pt 0 0, .v (.int .i64 12)]) ∧ (AO.box [.bs true 1 (List.map enc_y p2), .v (.int .i64 (IntKind.wrap .i64 (v7 + 1)))] = AO.box [.bs true 1 (List.map enc_y p2), .v (.int .i64 (IntKind.wrap .i64 (v7 + 1)))]) ∧ True) ∧ ((([.pt 0 0, .sl 2 0 (([1, 2, 3, 4, 5, 0, 8, x9, (-1), 7, 1000, 16] : List (Int)).length)] : List AV) = [.pt 0 0, .sl 2 0 (([1, 2, 3, 4, 5, 0, 8, x9, (-1), 7, 1000, 16] : List (Int)).length)]) ∧ (AO.box [.bs true 1 (List.map enc_y p2), .v (.int .i64 (IntKind.wrap .i64 ((IntKind.wrap .i64 (v7 + 1)) + 1)))] = AO.box [.bs true 1 (List.map enc_y p2), .v (.int .i64 (IntKind.wrap .i64 ((IntKind.wrap .i64 (v7 + 1)) + 1)))]) ∧ (AO.arr 1 (List.map enc_i ([1, 2, 3, 4, 5, 0, 8, x9, (-1), 7, 1000, 16] : List (Int))) = AO.arr 1 (List.map enc_i ([1, 2, 3, 4, 5, 0, 8, x9, (-1), 7, 1000, 16] : List (Int)))) ∧ True) ∧ True) (by kernel_rfl) ⟨⟨rfl, rfl, trivial⟩, ⟨⟨rfl, rfl, trivial⟩, ⟨⟨rfl, rfl, rfl, trivial⟩, trivial⟩⟩⟩ ⟨call_ok (ks := [0]) (ns := []) (bor := []) (bobjs := []) (s_spec_aName p2 v7 x8 e3) (.cons (.c1 (.c0 (.same _ (by kernel_rfl) (by kernel_rfl)))) (.nil)) (by kernel_rfl) ⟨.inr rfl, trivial⟩, ⟨call_ok (ks := [0]) (ns := []) (bor := []) (bobjs := []) (s_spec_reader_pick 12 p2 (IntKind.wrap .i64 (v7 + 1)) x9 e4) (.cons (.c1 (.c0 (.same _ (by kernel_rfl) (by kernel_rfl)))) (.cons (.c1 (.c0 (.same _ (by kernel_rfl) (by kernel_rfl)))) (.nil))) (by kernel_rfl) ⟨.inr rfl, trivial⟩, ⟨call_ok (ks := [0]) (ns := []) (bor := [2]) (bobjs := [(2, .arr 1 (List.map enc_i ([1, 2, 3, 4, 5, 0, 8, x9, (-1), 7, 1000, 16] : List (Int))))]) (s_spec_reader_one ([1, 2, 3, 4, 5, 0, 8, x9, (-1), 7, 1000, 16] : List (Int)) p2 (IntKind.wrap .i64 ((IntKind.wrap .i64 (v7 + 1)) + 1)) x10 e5) (.cons (.c1 (.c0 (.same _ (by kernel_rfl) (by kernel_rfl)))) (.cons (.c1 (.c0 (.arr rfl rfl ((rfl).trans (List.length_map ..).symm)))) (.nil))) (by kernel_rfl) ⟨.inr rfl, trivial⟩, trivial⟩⟩⟩ ?_
      refine AX.seq ?_
      refine AX.seq ?_
      refine AX.reg (its := []) [0, 1, 5, 6, 7, 25] [0, 1, 3] (s1 := ⟨[(0, .pt 0 0), (1, .v (.int .i64 p1)), (5, .sl 1 0 v5.length), (6, .v (.int .i64 v6)), (7, .pt 3 0), (25, .v (.bool (decide (p1 = 4095))))], [(0, .box [.bs true 1 (List.map enc_y p2), .v (.int .i64 (IntKind.wrap .i64 ((IntKind.wrap .i64 ((IntKind.wrap .i64 (v7 + 1)) + 1)) + 1)))]), (1, .arr 2 (List.map enc_si v5)), (3, .box [.v (.string x8), .v (.int .i64 x10)])]⟩) (C := True) (by kernel_rfl) trivial trivial ?_
      rcases bool_cases (decide (p1 = 4095)) with b6 | b6
      · replace h := cd_t b6 h
        refine AX.condT (decide (p1 = 4095)) (by kernel_rfl) b6 ?_
        obtain ⟨x11, e7, h⟩ := bd_e h
        obtain ⟨x12, e8, h⟩ := bd_e h
        refine AX.reg (its := [.auto {}, .auto {}, .call 27 [.pt 0 0, .v (.int .i64 64)] (handO (rho ([0] ++ [])) [0] [.box [.bs true 1 (List.map enc_y p2), .v (.int .i64 (IntKind.wrap .i64 ((IntKind.wrap .i64 ((IntKind.wrap .i64 (v7 + 1)) + 1)) + 1)))]] ++ []) (callEv [0] [] (.v (.int .i64 x11)) [.box [.bs true 1 (List.map enc_y p2), .v (.int .i64 (IntKind.wrap .i64 ((IntKind.wrap .i64 ((IntKind.wrap .i64 ((IntKind.wrap .i64 (v7 + 1)) + 1)) + 1)) + 1)))]]), .auto { nk := 4 }, .call 98 [.pt 0 0, .sl 4 0 (([1, 2, 4, 8, 3, 16, 0, 6, 7, x11, 2048, 5, 1, 2, 4] : List (Int)).length)] (handO (rho ([0] ++ [])) [0] [.box [.bs true 1 (List.map enc_y p2), .v (.int .i64 (IntKind.wrap .i64 ((IntKind.wrap .i64 ((IntKind.wrap .i64 ((IntKind.wrap .i64 (v7 + 1)) + 1)) + 1)) + 1)))]] ++ [(4, .arr 1 (List.map enc_i ([1, 2, 4, 8, 3, 16, 0, 6, 7, x11, 2048, 5, 1, 2, 4] : List (Int))))]) (callEv [0] [] (.v (.int .i64 x12)) [.box [.bs true 1 (List.map enc_y p2), .v (.int .i64 (IntKind.wrap .i64 ((IntKind.wrap .i64 ((IntKind.wrap .i64 ((IntKind.wrap .i64 ((IntKind.wrap .i64 (v7 + 1)) + 1)) + 1)) + 1)) + 1)))]])]) [0, 1, 5, 6, 7] [0, 1, 3] (s1 := ⟨[(0, .pt 0 0), (1, .v (.int .i64 p1)), (5, .sl 1 0 v5.length), (6, .v (.int .i64 v6)), (7, .pt 3 0)], [(0, .box [.bs true 1 (List.map enc_y p2), .v (.int .i64 (IntKind.wrap .i64 ((IntKind.wrap .i64 ((IntKind.wrap .i64 ((IntKind.wrap .i64 ((IntKind.wrap .i64 (v7 + 1)) + 1)) + 1)) + 1)) + 1)))]), (1, .arr 2 (List.map enc_si v5)), (3, .box [.v (.string x8), .v (.int .i64 x12)])]⟩) (C := ((([.pt 0 0, .v (.int .i64 64)] : List AV) = [.pt 0 0, .v (.int .i64 64)]) ∧ (AO.box [.bs true 1 (List.map enc_y p2), .v (.int .i64 (IntKind.wrap .i64 ((IntKind.wrap .i64 ((IntKind.wrap .i64 (v7 + 1)) + 1)) + 1)))] = AO.box [.bs true 1 (List.map enc_y p2), .v (.int .i64 (IntKind.wrap .i64 ((IntKind.wrap .i64 ((IntKind.wrap .i64 (v7 + 1)) + 1)) + 1)))]) ∧ True) ∧ ((([.pt 0 0, .sl 4 0 (([1, 2, 4, 8, 3, 16, 0, 6, 7, x11, 2048, 5, 1, 2, 4] : List (Int)).length)] : List AV) = [.pt 0 0, .sl 4 0 (([1, 2, 4, 8, 3, 16, 0, 6, 7, x11, 2048, 5, 1, 2, 4] : List (Int)).length)]) ∧ (AO.box [.bs true 1 (List.map enc_y p2), .v (.int .i64 (IntKind.wrap .i64 ((IntKind.wrap .i64 ((IntKind.wrap .i64 ((IntKind.wrap .i64 (v7 + 1)) + 1)) + 1)) + 1)))] = AO.box [.bs true 1 (List.map enc_y p2), .v (.int .i64 (IntKind.wrap .i64 ((IntKind.wrap .i64 ((IntKind.wrap .i64 ((IntKind.wrap .i64 (v7 + 1)) + 1)) + 1)) + 1)))]) ∧ (AO.arr 1 (List.map enc_i ([1, 2, 4, 8, 3, 16, 0, 6, 7, x11, 2048, 5, 1, 2, 4] : List (Int))) = AO.arr 1 (List.map enc_i ([1, 2, 4, 8, 3, 16, 0, 6, 7, x11, 2048, 5, 1, 2, 4] : List (Int)))) ∧ True) ∧ True) (by kernel_rfl) ⟨⟨rfl, rfl, trivial⟩, ⟨⟨rfl, rfl, rfl, trivial⟩, trivial⟩⟩ ⟨call_ok (ks := [0]) (ns := []) (bor := []) (bobjs := []) (s_spec_reader_pick 64 p2 (IntKind.wrap .i64 ((IntKind.wrap .i64 ((IntKind.wrap .i64 (v7 + 1)) + 1)) + 1)) x11 e7) (.cons (.c1 (.c0 (.same _ (by kernel_rfl) (by kernel_rfl)))) (.cons (.c1 (.c0 (.same _ (by kernel_rfl) (by kernel_rfl)))) (.nil))) (by kernel_rfl) ⟨.inr rfl, trivial⟩, ⟨call_ok (ks := [0]) (ns := []) (bor := [4]) (bobjs := [(4, .arr 1 (List.map enc_i ([1, 2, 4, 8, 3, 16, 0, 6, 7, x11, 2048, 5, 1, 2, 4] : List (Int))))]) (s_spec_reader_one ([1, 2, 4, 8, 3, 16, 0, 6, 7, x11, 2048, 5, 1, 2, 4] : List (Int)) p2 (IntKind.wrap .i64 ((IntKind.wrap .i64 ((IntKind.wrap .i64 ((IntKind.wrap .i64 (v7 + 1)) + 1)) + 1)) + 1)) x12 e8) (.cons (.c1 (.c0 (.same _ (by kernel_rfl) (by kernel_rfl)))) (.cons (.c1 (.c0 (.arr rfl rfl ((rfl).trans (List.length_map ..).symm)))) (.nil))) (by kernel_rfl) ⟨.inr rfl, trivial⟩, trivial⟩⟩ ?_
        refine AX.seq ?_
        obtain ⟨x13, e9, h⟩ := bd_e h
        rcases bool_cases (decide (x13 < 0)) with b10 | b10
        · replace h := cd_t b10 h
          rcases bool_cases (decide (0 ≤ x12)) with b11 | b11
          · replace h := cd_t b11 h
            refine AX.reg (its := [.auto {}, .auto {}, .auto {}, .call 108 [.sl 1 0 v5.length, .v (.string x8)] (handO (rho ([] ++ [])) [] [] ++ [(1, .arr 2 (List.map enc_si v5))]) (callEv [] [] (.v (.int .i64 x13)) []), .auto { y := some (.v (.bool true)) }, .auto {}, .auto {}, .auto {}, .auto { y := some (.v (.bool true)) }]) [0, 1, 5, 6, 7, 45] [0, 1, 3] (s1 := ⟨[(0, .pt 0 0), (1, .v (.int .i64 p1)), (5, .sl 1 0 v5.length), (6, .v (.int .i64 v6)), (7, .pt 3 0), (45, .v (.bool true))], [(0, .box [.bs true 1 (List.map enc_y p2), .v (.int .i64 (IntKind.wrap .i64 ((IntKind.wrap .i64 ((IntKind.wrap .i64 ((IntKind.wrap .i64 ((IntKind.wrap .i64 (v7 + 1)) + 1)) + 1)) + 1)) + 1)))]), (1, .arr 2 (List.map enc_si v5)), (3, .box [.v (.string x8), .v (.int .i64 x12)])]⟩) (C := ((([.sl 1 0 v5.length, .v (.string x8)] : List AV) = [.sl 1 0 v5.length, .v (.string x8)]) ∧ (AO.arr 2 (List.map enc_si v5) = AO.arr 2 (List.map enc_si v5)) ∧ True) ∧ ((True) ∧ ((.v (.bool (decide (x13 < 0))) : AV) = (.v (.bool true) : AV))) ∧ ((True) ∧ ((.v (.bool (decide (0 ≤ x12))) : AV) = (.v (.bool true) : AV))) ∧ True) (by kernel_rfl) ⟨⟨rfl, rfl, trivial⟩, ⟨⟨trivial, (congrArg (fun z => AV.v (.bool z)) b10)⟩, ⟨⟨trivial, (congrArg (fun z => AV.v (.bool z)) b11)⟩, trivial⟩⟩⟩ ⟨call_ok (ks := []) (ns := []) (bor := [1]) (bobjs := [(1, .arr 2 (List.map enc_si v5))]) (s_spec_indexOf v5 x8 x13 e9) (.cons (.c1 (.c0 (.arr rfl rfl ((rfl).trans (List.length_map ..).symm)))) (.cons (.c1 (.c0 (.same _ (by kernel_rfl) (by kernel_rfl)))) (.nil))) (by kernel_rfl) trivial, trivial⟩ ?_
            refine AX.cond_true (by kernel_rfl) ?_
            obtain ⟨g12, h⟩ := gd_e h
            refine AX.reg (its := [.auto {}, .auto {}, .auto { nk := 4 }, .auto { y := some (.sl 5 0 ((v5 ++ ([(x8, x12)] : List (ByteArray × Int))).length)), els := some (List.map enc_si v5), els2 := some (List.map enc_si ([(x8, x12)] : List (ByteArray × Int))), nk := 5 }]) [0, 1, 5, 6] [0, 5] (s1 := ⟨[(0, .pt 0 0), (1, .v (.int .i64 p1)), (5, .sl 5 0 ((v5 ++ ([(x8, x12)] : List (ByteArray × Int))).length)), (6, .v (.int .i64 v6))], [(0, .box [.bs true 1 (List.map enc_y p2), .v (.int .i64 (IntKind.wrap .i64 ((IntKind.wrap .i64 ((IntKind.wrap .i64 ((IntKind.wrap .i64 ((IntKind.wrap .i64 (v7 + 1)) + 1)) + 1)) + 1)) + 1)))]), (5, .arr 2 (List.map enc_si v5 ++ List.map enc_si ([(x8, x12)] : List (ByteArray × Int))))]⟩) (C := ((((((List.map enc_si v5).drop 0).take (v5.length) = List.map enc_si v5) ∧ (((List.map enc_si ([(x8, x12)] : List (ByteArray × Int))).drop 0).take (([(x8, x12)] : List (ByteArray × Int)).length) = List.map enc_si ([(x8, x12)] : List (ByteArray × Int)))) ∧ (List.map enc_si v5).length + (List.map enc_si ([(x8, x12)] : List (ByteArray × Int))).length ≤ 1099511627776) ∧ (AV.sl 5 0 (List.map enc_si v5 ++ List.map enc_si ([(x8, x12)] : List (ByteArray × Int))).length = AV.sl 5 0 (v5 ++ ([(x8, x12)] : List (ByteArray × Int))).length)) ∧ True) (by kernel_rfl) ⟨⟨⟨⟨(dt_all (enc := enc_si) rfl rfl), (dt_all (enc := enc_si) rfl rfl)⟩, (by simp only [List.length_map, List.length_nil, List.length_replicate]; simpa using g12)⟩, sl_len (enc := enc_si) (app_can (enc := enc_si) rfl (rfl))⟩, trivial⟩ trivial ?_
            refine AX.reg (its := [.auto {}, .auto { raw := true }]) [0, 1, 5, 6] [0, 5] (s1 := ⟨[(0, .pt 0 0), (1, .v (.int .i64 p1)), (5, .sl 5 0 ((v5 ++ ([(x8, x12)] : List (ByteArray × Int))).length)), (6, .v (.int .i64 (IntKind.wrap .i64 (v6 - 1))))], [(0, .box [.bs true 1 (List.map enc_y p2), .v (.int .i64 (IntKind.wrap .i64 ((IntKind.wrap .i64 ((IntKind.wrap .i64 ((IntKind.wrap .i64 ((IntKind.wrap .i64 (v7 + 1)) + 1)) + 1)) + 1)) + 1)))]), (5, .arr 2 (List.map enc_si v5 ++ List.map enc_si ([(x8, x12)] : List (ByteArray × Int))))]⟩) (C := True) (by kernel_rfl) trivial trivial ?_
            refine ⟨(fu, (v5 ++ ([(x8, x12)] : List (ByteArray × Int)), IntKind.wrap .i64 (v6 - 1), IntKind.wrap .i64 ((IntKind.wrap .i64 ((IntKind.wrap .i64 ((IntKind.wrap .i64 ((IntKind.wrap .i64 (v7 + 1)) + 1)) + 1)) + 1)) + 1))), h, Nat.lt_succ_self _, ?_⟩
            refine Wk.trans (Wk.swap 1 5 (Nat.le_of_ble_eq_true (by kernel_rfl)) (Nat.le_of_ble_eq_true (by kernel_rfl)) rfl) ?_
            refine Wk.trans (Wk.forget [0, 1, 5, 6] [0, 1] (s' := ⟨[(0, .pt 0 0), (1, .v (.int .i64 p1)), (5, .sl 1 0 ((v5 ++ ([(x8, x12)] : List (ByteArray × Int))).length)), (6, .v (.int .i64 (IntKind.wrap .i64 (v6 - 1))))], [(0, .box [.bs true 1 (List.map enc_y p2), .v (.int .i64 (IntKind.wrap .i64 ((IntKind.wrap .i64 ((IntKind.wrap .i64 ((IntKind.wrap .i64 ((IntKind.wrap .i64 (v7 + 1)) + 1)) + 1)) + 1)) + 1)))]), (1, .arr 2 (List.map enc_si v5 ++ List.map enc_si ([(x8, x12)] : List (ByteArray × Int))))]⟩) (by kernel_rfl)) ?_
            refine Wk.trans (Wk.of_eq (congrArg (fun z => (⟨[(0, .pt 0 0), (1, .v (.int .i64 p1)), (5, .sl 1 0 ((v5 ++ ([(x8, x12)] : List (ByteArray × Int))).length)), (6, .v (.int .i64 (IntKind.wrap .i64 (v6 - 1))))], [(0, .box [.bs true 1 (List.map enc_y p2), .v (.int .i64 (IntKind.wrap .i64 ((IntKind.wrap .i64 ((IntKind.wrap .i64 ((IntKind.wrap .i64 ((IntKind.wrap .i64 (v7 + 1)) + 1)) + 1)) + 1)) + 1)))]), (1, .arr 2 (z))]⟩ : S)) (app_can (enc := enc_si) rfl (rfl) : List.map enc_si v5 ++ List.map enc_si ([(x8, x12)] : List (ByteArray × Int)) = List.map enc_si (v5 ++ ([(x8, x12)] : List (ByteArray × Int)))))) ?_
            exact Wk.refl _
          · replace h := cd_f b11 h
            refine AX.reg (its := [.auto {}, .auto {}, .auto {}, .call 108 [.sl 1 0 v5.length, .v (.string x8)] (handO (rho ([] ++ [])) [] [] ++ [(1, .arr 2 (List.map enc_si v5))]) (callEv [] [] (.v (.int .i64 x13)) []), .auto { y := some (.v (.bool true)) }, .auto {}, .auto {}, .auto {}, .auto { y := some (.v (.bool false)) }]) [0, 1, 5, 6, 7, 45] [0, 1, 3] (s1 := ⟨[(0, .pt 0 0), (1, .v (.int .i64 p1)), (5, .sl 1 0 v5.length), (6, .v (.int .i64 v6)), (7, .pt 3 0), (45, .v (.bool (!decide (p1 = 4095))))], [(0, .box [.bs true 1 (List.map enc_y p2), .v (.int .i64 (IntKind.wrap .i64 ((IntKind.wrap .i64 ((IntKind.wrap .i64 ((IntKind.wrap .i64 ((IntKind.wrap .i64 (v7 + 1)) + 1)) + 1)) + 1)) + 1)))]), (1, .arr 2 (List.map enc_si v5)), (3, .box [.v (.string x8), .v (.int .i64 x12)])]⟩) (C := ((([.sl 1 0 v5.length, .v (.string x8)] : List AV) = [.sl 1 0 v5.length, .v (.string x8)]) ∧ (AO.arr 2 (List.map enc_si v5) = AO.arr 2 (List.map enc_si v5)) ∧ True) ∧ ((True) ∧ ((.v (.bool (decide (x13 < 0))) : AV) = (.v (.bool true) : AV))) ∧ ((True) ∧ ((.v (.bool (decide (0 ≤ x12))) : AV) = (.v (.bool false) : AV))) ∧ True) (by kernel_rfl) ⟨⟨rfl, rfl, trivial⟩, ⟨⟨trivial, (congrArg (fun z => AV.v (.bool z)) b10)⟩, ⟨⟨trivial, (congrArg (fun z => AV.v (.bool z)) b11)⟩, trivial⟩⟩⟩ ⟨call_ok (ks := []) (ns := []) (bor := [1]) (bobjs := [(1, .arr 2 (List.map enc_si v5))]) (s_spec_indexOf v5 x8 x13 e9) (.cons (.c1 (.c0 (.arr rfl rfl ((rfl).trans (List.length_map ..).symm)))) (.cons (.c1 (.c0 (.same _ (by kernel_rfl) (by kernel_rfl)))) (.nil))) (by kernel_rfl) trivial, trivial⟩ ?_
            rcases bool_cases ((!decide (p1 = 4095))) with b13 | b13
            · replace h := cd_t b13 h
              refine AX.condT ((!decide (p1 = 4095))) (by kernel_rfl) b13 ?_
              obtain ⟨g14, h⟩ := gd_e h
              refine AX.reg (its := [.auto {}, .auto {}, .auto { nk := 4 }, .auto { y := some (.sl 5 0 ((v5 ++ ([(x8, x12)] : List (ByteArray × Int))).length)), els := some (List.map enc_si v5), els2 := some (List.map enc_si ([(x8, x12)] : List (ByteArray × Int))), nk := 5 }]) [0, 1, 5, 6] [0, 5] (s1 := ⟨[(0, .pt 0 0), (1, .v (.int .i64 p1)), (5, .sl 5 0 ((v5 ++ ([(x8, x12)] : List (ByteArray × Int))).length)), (6, .v (.int .i64 v6))], [(0, .box [.bs true 1 (List.map enc_y p2), .v (.int .i64 (IntKind.wrap .i64 ((IntKind.wrap .i64 ((IntKind.wrap .i64 ((IntKind.wrap .i64 ((IntKind.wrap .i64 (v7 + 1)) + 1)) + 1)) + 1)) + 1)))]), (5, .arr 2 (List.map enc_si v5 ++ List.map enc_si ([(x8, x12)] : List (ByteArray × Int))))]⟩) (C := ((((((List.map enc_si v5).drop 0).take (v5.length) = List.map enc_si v5) ∧ (((List.map enc_si ([(x8, x12)] : List (ByteArray × Int))).drop 0).take (([(x8, x12)] : List (ByteArray × Int)).length) = List.map enc_si ([(x8, x12)] : List (ByteArray × Int)))) ∧ (List.map enc_si v5).length + (List.map enc_si ([(x8, x12)] : List (ByteArray × Int))).length ≤ 1099511627776) ∧ (AV.sl 5 0 (List.map enc_si v5 ++ List.map enc_si ([(x8, x12)] : List (ByteArray × Int))).length = AV.sl 5 0 (v5 ++ ([(x8, x12)] : List (ByteArray × Int))).length)) ∧ True) (by kernel_rfl) ⟨⟨⟨⟨(dt_all (enc := enc_si) rfl rfl), (dt_all (enc := enc_si) rfl rfl)⟩, (by simp only [List.length_map, List.length_nil, List.length_replicate]; simpa using g14)⟩, sl_len (enc := enc_si) (app_can (enc := enc_si) rfl (rfl))⟩, trivial⟩ trivial ?_
              refine AX.reg (its := [.auto {}, .auto { raw := true }]) [0, 1, 5, 6] [0, 5] (s1 := ⟨[(0, .pt 0 0), (1, .v (.int .i64 p1)), (5, .sl 5 0 ((v5 ++ ([(x8, x12)] : List (ByteArray × Int))).length)), (6, .v (.int .i64 (IntKind.wrap .i64 (v6 - 1))))], [(0, .box [.bs true 1 (List.map enc_y p2), .v (.int .i64 (IntKind.wrap .i64 ((IntKind.wrap .i64 ((IntKind.wrap .i64 ((IntKind.wrap .i64 ((IntKind.wrap .i64 (v7 + 1)) + 1)) + 1)) + 1)) + 1)))]), (5, .arr 2 (List.map enc_si v5 ++ List.map enc_si ([(x8, x12)] : List (ByteArray × Int))))]⟩) (C := True) (by kernel_rfl) trivial trivial ?_
              refine ⟨(fu, (v5 ++ ([(x8, x12)] : List (ByteArray × Int)), IntKind.wrap .i64 (v6 - 1), IntKind.wrap .i64 ((IntKind.wrap .i64 ((IntKind.wrap .i64 ((IntKind.wrap .i64 ((IntKind.wrap .i64 (v7 + 1)) + 1)) + 1)) + 1)) + 1))), h, Nat.lt_succ_self _, ?_⟩
              refine Wk.trans (Wk.swap 1 5 (Nat.le_of_ble_eq_true (by kernel_rfl)) (Nat.le_of_ble_eq_true (by kernel_rfl)) rfl) ?_
              refine Wk.trans (Wk.forget [0, 1, 5, 6] [0, 1] (s' := ⟨[(0, .pt 0 0), (1, .v (.int .i64 p1)), (5, .sl 1 0 ((v5 ++ ([(x8, x12)] : List (ByteArray × Int))).length)), (6, .v (.int .i64 (IntKind.wrap .i64 (v6 - 1))))], [(0, .box [.bs true 1 (List.map enc_y p2), .v (.int .i64 (IntKind.wrap .i64 ((IntKind.wrap .i64 ((IntKind.wrap .i64 ((IntKind.wrap .i64 ((IntKind.wrap .i64 (v7 + 1)) + 1)) + 1)) + 1)) + 1)))]), (1, .arr 2 (List.map enc_si v5 ++ List.map enc_si ([(x8, x12)] : List (ByteArray × Int))))]⟩) (by kernel_rfl)) ?_
              refine Wk.trans (Wk.of_eq (congrArg (fun z => (⟨[(0, .pt 0 0), (1, .v (.int .i64 p1)), (5, .sl 1 0 ((v5 ++ ([(x8, x12)] : List (ByteArray × Int))).length)), (6, .v (.int .i64 (IntKind.wrap .i64 (v6 - 1))))], [(0, .box [.bs true 1 (List.map enc_y p2), .v (.int .i64 (IntKind.wrap .i64 ((IntKind.wrap .i64 ((IntKind.wrap .i64 ((IntKind.wrap .i64 ((IntKind.wrap .i64 (v7 + 1)) + 1)) + 1)) + 1)) + 1)))]), (1, .arr 2 (z))]⟩ : S)) (app_can (enc := enc_si) rfl (rfl) : List.map enc_si v5 ++ List.map enc_si ([(x8, x12)] : List (ByteArray × Int)) = List.map enc_si (v5 ++ ([(x8, x12)] : List (ByteArray × Int)))))) ?_
              exact Wk.refl _
            · replace h := cd_f b13 h
              refine AX.condF ((!decide (p1 = 4095))) (by kernel_rfl) b13 ?_
              refine AX.skip ?_
              refine AX.reg (its := [.auto {}, .auto { raw := true }]) [0, 1, 5, 6] [0, 1] (s1 := ⟨[(0, .pt 0 0), (1, .v (.int .i64 p1)), (5, .sl 1 0 v5.length), (6, .v (.int .i64 (IntKind.wrap .i64 (v6 - 1))))], [(0, .box [.bs true 1 (List.map enc_y p2), .v (.int .i64 (IntKind.wrap .i64 ((IntKind.wrap .i64 ((IntKind.wrap .i64 ((IntKind.wrap .i64 ((IntKind.wrap .i64 (v7 + 1)) + 1)) + 1)) + 1)) + 1)))]), (1, .arr 2 (List.map enc_si v5))]⟩) (C := True) (by kernel_rfl) trivial trivial ?_
              refine ⟨(fu, (v5, IntKind.wrap .i64 (v6 - 1), IntKind.wrap .i64 ((IntKind.wrap .i64 ((IntKind.wrap .i64 ((IntKind.wrap .i64 ((IntKind.wrap .i64 (v7 + 1)) + 1)) + 1)) + 1)) + 1))), h, Nat.lt_succ_self _, ?_⟩
              refine Wk.trans (Wk.forget [0, 1, 5, 6] [0, 1] (s' := ⟨[(0, .pt 0 0), (1, .v (.int .i64 p1)), (5, .sl 1 0 v5.length), (6, .v (.int .i64 (IntKind.wrap .i64 (v6 - 1))))], [(0, .box [.bs true 1 (List.map enc_y p2), .v (.int .i64 (IntKind.wrap .i64 ((IntKind.wrap .i64 ((IntKind.wrap .i64 ((IntKind.wrap .i64 ((IntKind.wrap .i64 (v7 + 1)) + 1)) + 1)) + 1)) + 1)))]), (1, .arr 2 (List.map enc_si v5))]⟩) (by kernel_rfl)) ?_
              exact Wk.refl _
        · replace h := cd_f b10 h
          refine AX.reg (its := [.auto {}, .auto {}, .auto {}, .call 108 [.sl 1 0 v5.length, .v (.string x8)] (handO (rho ([] ++ [])) [] [] ++ [(1, .arr 2 (List.map enc_si v5))]) (callEv [] [] (.v (.int .i64 x13)) []), .auto { y := some (.v (.bool false)) }]) [0, 1, 5, 6, 7, 45] [0, 1, 3] (s1 := ⟨[(0, .pt 0 0), (1, .v (.int .i64 p1)), (5, .sl 1 0 v5.length), (6, .v (.int .i64 v6)), (7, .pt 3 0), (45, .v (.bool false))], [(0, .box [.bs true 1 (List.map enc_y p2), .v (.int .i64 (IntKind.wrap .i64 ((IntKind.wrap .i64 ((IntKind.wrap .i64 ((IntKind.wrap .i64 ((IntKind.wrap .i64 (v7 + 1)) + 1)) + 1)) + 1)) + 1)))]), (1, .arr 2 (List.map enc_si v5)), (3, .box [.v (.string x8), .v (.int .i64 x12)])]⟩) (C := ((([.sl 1 0 v5.length, .v (.string x8)] : List AV) = [.sl 1 0 v5.length, .v (.string x8)]) ∧ (AO.arr 2 (List.map enc_si v5) = AO.arr 2 (List.map enc_si v5)) ∧ True) ∧ ((True) ∧ ((.v (.bool (decide (x13 < 0))) : AV) = (.v (.bool false) : AV))) ∧ True) (by kernel_rfl) ⟨⟨rfl, rfl, trivial⟩, ⟨⟨trivial, (congrArg (fun z => AV.v (.bool z)) b10)⟩, trivial⟩⟩ ⟨call_ok (ks := []) (ns := []) (bor := [1]) (bobjs := [(1, .arr 2 (List.map enc_si v5))]) (s_spec_indexOf v5 x8 x13 e9) (.cons (.c1 (.c0 (.arr rfl rfl ((rfl).trans (List.length_map ..).symm)))) (.cons (.c1 (.c0 (.same _ (by kernel_rfl) (by kernel_rfl)))) (.nil))) (by kernel_rfl) trivial, trivial⟩ ?_
          refine AX.cond_false (by kernel_rfl) ?_
          refine AX.skip ?_
          refine AX.reg (its := [.auto {}, .auto { raw := true }]) [0, 1, 5, 6] [0, 1] (s1 := ⟨[(0, .pt 0 0), (1, .v (.int .i64 p1)), (5, .sl 1 0 v5.length), (6, .v (.int .i64 (IntKind.wrap .i64 (v6 - 1))))], [(0, .box [.bs true 1 (List.map enc_y p2), .v (.int .i64 (IntKind.wrap .i64 ((IntKind.wrap .i64 ((IntKind.wrap .i64 ((IntKind.wrap .i64 ((IntKind.wrap .i64 (v7 + 1)) + 1)) + 1)) + 1)) + 1)))]), (1, .arr 2 (List.map enc_si v5))]⟩) (C := True) (by kernel_rfl) trivial trivial ?_
          refine ⟨(fu, (v5, IntKind.wrap .i64 (v6 - 1), IntKind.wrap .i64 ((IntKind.wrap .i64 ((IntKind.wrap .i64 ((IntKind.wrap .i64 ((IntKind.wrap .i64 (v7 + 1)) + 1)) + 1)) + 1)) + 1))), h, Nat.lt_succ_self _, ?_⟩
          refine Wk.trans (Wk.forget [0, 1, 5, 6] [0, 1] (s' := ⟨[(0, .pt 0 0), (1, .v (.int .i64 p1)), (5, .sl 1 0 v5.length), (6, .v (.int .i64 (IntKind.wrap .i64 (v6 - 1))))], [(0, .box [.bs true 1 (List.map enc_y p2), .v (.int .i64 (IntKind.wrap .i64 ((IntKind.wrap .i64 ((IntKind.wrap .i64 ((IntKind.wrap .i64 ((IntKind.wrap .i64 (v7 + 1)) + 1)) + 1)) + 1)) + 1)))]), (1, .arr 2 (List.map enc_si v5))]⟩) (by kernel_rfl)) ?_
          exact Wk.refl _
      · replace h := cd_f b6 h
        refine AX.condF (decide (p1 = 4095)) (by kernel_rfl) b6 ?_
        refine AX.skip ?_
        refine AX.seq ?_
        obtain ⟨x14, e15, h⟩ := bd_e h
        rcases bool_cases (decide (x14 < 0)) with b16 | b16
        · replace h := cd_t b16 h
          rcases bool_cases (decide (0 ≤ x10)) with b17 | b17
          · replace h := cd_t b17 h
            refine AX.reg (its := [.auto {}, .auto {}, .auto {}, .call 108 [.sl 1 0 v5.length, .v (.string x8)] (handO (rho ([] ++ [])) [] [] ++ [(1, .arr 2 (List.map enc_si v5))]) (callEv [] [] (.v (.int .i64 x14)) []), .auto { y := some (.v (.bool true)) }, .auto {}, .auto {}, .auto {}, .auto { y := some (.v (.bool true)) }]) [0, 1, 5, 6, 7, 45] [0, 1, 3] (s1 := ⟨[(0, .pt 0 0), (1, .v (.int .i64 p1)), (5, .sl 1 0 v5.length), (6, .v (.int .i64 v6)), (7, .pt 3 0), (45, .v (.bool true))], [(0, .box [.bs true 1 (List.map enc_y p2), .v (.int .i64 (IntKind.wrap .i64 ((IntKind.wrap .i64 ((IntKind.wrap .i64 (v7 + 1)) + 1)) + 1)))]), (1, .arr 2 (List.map enc_si v5)), (3, .box [.v (.string x8), .v (.int .i64 x10)])]⟩) (C := ((([.sl 1 0 v5.length, .v (.string x8)] : List AV) = [.sl 1 0 v5.length, .v (.string x8)]) ∧ (AO.arr 2 (List.map enc_si v5) = AO.arr 2 (List.map enc_si v5)) ∧ True) ∧ ((True) ∧ ((.v (.bool (decide (x14 < 0))) : AV) = (.v (.bool true) : AV))) ∧ ((True) ∧ ((.v (.bool (decide (0 ≤ x10))) : AV) = (.v (.bool true) : AV))) ∧ True) (by kernel_rfl) ⟨⟨rfl, rfl, trivial⟩, ⟨⟨trivial, (congrArg (fun z => AV.v (.bool z)) b16)⟩, ⟨⟨trivial, (congrArg (fun z => AV.v (.bool z)) b17)⟩, trivial⟩⟩⟩ ⟨call_ok (ks := []) (ns := []) (bor := [1]) (bobjs := [(1, .arr 2 (List.map enc_si v5))]) (s_spec_indexOf v5 x8 x14 e15) (.cons (.c1 (.c0 (.arr rfl rfl ((rfl).trans (List.length_map ..).symm)))) (.cons (.c1 (.c0 (.same _ (by kernel_rfl) (by kernel_rfl)))) (.nil))) (by kernel_rfl) trivial, trivial⟩ ?_
            refine AX.cond_true (by kernel_rfl) ?_
            obtain ⟨g18, h⟩ := gd_e h
            refine AX.reg (its := [.auto {}, .auto {}, .auto { nk := 4 }, .auto { y := some (.sl 5 0 ((v5 ++ ([(x8, x10)] : List (ByteArray × Int))).length)), els := some (List.map enc_si v5), els2 := some (List.map enc_si ([(x8, x10)] : List (ByteArray × Int))), nk := 5 }]) [0, 1, 5, 6] [0, 5] (s1 := ⟨[(0, .pt 0 0), (1, .v (.int .i64 p1)), (5, .sl 5 0 ((v5 ++ ([(x8, x10)] : List (ByteArray × Int))).length)), (6, .v (.int .i64 v6))], [(0, .box [.bs true 1 (List.map enc_y p2), .v (.int .i64 (IntKind.wrap .i64 ((IntKind.wrap .i64 ((IntKind.wrap .i64 (v7 + 1)) + 1)) + 1)))]), (5, .arr 2 (List.map enc_si v5 ++ List.map enc_si ([(x8, x10)] : List (ByteArray × Int))))]⟩) (C := ((((((List.map enc_si v5).drop 0).take (v5.length) = List.map enc_si v5) ∧ (((List.map enc_si ([(x8, x10)] : List (ByteArray × Int))).drop 0).take (([(x8, x10)] : List (ByteArray × Int)).length) = List.map enc_si ([(x8, x10)] : List (ByteArray × Int)))) ∧ (List.map enc_si v5).length + (List.map enc_si ([(x8, x10)] : List (ByteArray × Int))).length ≤ 1099511627776) ∧ (AV.sl 5 0 (List.map enc_si v5 ++ List.map enc_si ([(x8, x10)] : List (ByteArray × Int))).length = AV.sl 5 0 (v5 ++ ([(x8, x10)] : List (ByteArray × Int))).length)) ∧ True) (by kernel_rfl) ⟨⟨⟨⟨(dt_all (enc := enc_si) rfl rfl), (dt_all (enc := enc_si) rfl rfl)⟩, (by simp only [List.length_map, List.length_nil, List.length_replicate]; simpa using g18)⟩, sl_len (enc := enc_si) (app_can (enc := enc_si) rfl (rfl))⟩, trivial⟩ trivial ?_
            refine AX.reg (its := [.auto {}, .auto { raw := true }]) [0, 1, 5, 6] [0, 5] (s1 := ⟨[(0, .pt 0 0), (1, .v (.int .i64 p1)), (5, .sl 5 0 ((v5 ++ ([(x8, x10)] : List (ByteArray × Int))).length)), (6, .v (.int .i64 (IntKind.wrap .i64 (v6 - 1))))], [(0, .box [.bs true 1 (List.map enc_y p2), .v (.int .i64 (IntKind.wrap .i64 ((IntKind.wrap .i64 ((IntKind.wrap .i64 (v7 + 1)) + 1)) + 1)))]), (5, .arr 2 (List.map enc_si v5 ++ List.map enc_si ([(x8, x10)] : List (ByteArray × Int))))]⟩) (C := True) (by kernel_rfl) trivial trivial ?_
            refine ⟨(fu, (v5 ++ ([(x8, x10)] : List (ByteArray × Int)), IntKind.wrap .i64 (v6 - 1), IntKind.wrap .i64 ((IntKind.wrap .i64 ((IntKind.wrap .i64 (v7 + 1)) + 1)) + 1))), h, Nat.lt_succ_self _, ?_⟩
            refine Wk.trans (Wk.swap 1 5 (Nat.le_of_ble_eq_true (by kernel_rfl)) (Nat.le_of_ble_eq_true (by kernel_rfl)) rfl) ?_
            refine Wk.trans (Wk.forget [0, 1, 5, 6] [0, 1] (s' := ⟨[(0, .pt 0 0), (1, .v (.int .i64 p1)), (5, .sl 1 0 ((v5 ++ ([(x8, x10)] : List (ByteArray × Int))).length)), (6, .v (.int .i64 (IntKind.wrap .i64 (v6 - 1))))], [(0, .box [.bs true 1 (List.map enc_y p2), .v (.int .i64 (IntKind.wrap .i64 ((IntKind.wrap .i64 ((IntKind.wrap .i64 (v7 + 1)) + 1)) + 1)))]), (1, .arr 2 (List.map enc_si v5 ++ List.map enc_si ([(x8, x10)] : List (ByteArray × Int))))]⟩) (by kernel_rfl)) ?_
            refine Wk.trans (Wk.of_eq (congrArg (fun z => (⟨[(0, .pt 0 0), (1, .v (.int .i64 p1)), (5, .sl 1 0 ((v5 ++ ([(x8, x10)] : List (ByteArray × Int))).length)), (6, .v (.int .i64 (IntKind.wrap .i64 (v6 - 1))))], [(0, .box [.bs true 1 (List.map enc_y p2), .v (.int .i64 (IntKind.wrap .i64 ((IntKind.wrap .i64 ((IntKind.wrap .i64 (v7 + 1)) + 1)) + 1)))]), (1, .arr 2 (z))]⟩ : S)) (app_can (enc := enc_si) rfl (rfl) : List.map enc_si v5 ++ List.map enc_si ([(x8, x10)] : List (ByteArray × Int)) = List.map enc_si (v5 ++ ([(x8, x10)] : List (ByteArray × Int)))))) ?_
            exact Wk.refl _
          · replace h := cd_f b17 h
            refine AX.reg (its := [.auto {}, .auto {}, .auto {}, .call 108 [.sl 1 0 v5.length, .v (.string x8)] (handO (rho ([] ++ [])) [] [] ++ [(1, .arr 2 (List.map enc_si v5))]) (callEv [] [] (.v (.int .i64 x14)) []), .auto { y := some (.v (.bool true)) }, .auto {}, .auto {}, .auto {}, .auto { y := some (.v (.bool false)) }]) [0, 1, 5, 6, 7, 45] [0, 1, 3] (s1 := ⟨[(0, .pt 0 0), (1, .v (.int .i64 p1)), (5, .sl 1 0 v5.length), (6, .v (.int .i64 v6)), (7, .pt 3 0), (45, .v (.bool (!decide (p1 = 4095))))], [(0, .box [.bs true 1 (List.map enc_y p2), .v (.int .i64 (IntKind.wrap .i64 ((IntKind.wrap .i64 ((IntKind.wrap .i64 (v7 + 1)) + 1)) + 1)))]), (1, .arr 2 (List.map enc_si v5)), (3, .box [.v (.string x8), .v (.int .i64 x10)])]⟩) (C := ((([.sl 1 0 v5.length, .v (.string x8)] : List AV) = [.sl 1 0 v5.length, .v (.string x8)]) ∧ (AO.arr 2 (List.map enc_si v5) = AO.arr 2 (List.map enc_si v5)) ∧ True) ∧ ((True) ∧ ((.v (.bool (decide (x14 < 0))) : AV) = (.v (.bool true) : AV))) ∧ ((True) ∧ ((.v (.bool (decide (0 ≤ x10))) : AV) = (.v (.bool false) : AV))) ∧ True) (by kernel_rfl) ⟨⟨rfl, rfl, trivial⟩, ⟨⟨trivial, (congrArg (fun z => AV.v (.bool z)) b16)⟩, ⟨⟨trivial, (congrArg (fun z => AV.v (.bool z)) b17)⟩, trivial⟩⟩⟩ ⟨call_ok (ks := []) (ns := []) (bor := [1]) (bobjs := [(1, .arr 2 (List.map enc_si v5))]) (s_spec_indexOf v5 x8 x14 e15) (.cons (.c1 (.c0 (.arr rfl rfl ((rfl).trans (List.length_map ..).symm)))) (.cons (.c1 (.c0 (.same _ (by kernel_rfl) (by kernel_rfl)))) (.nil))) (by kernel_rfl) trivial, trivial⟩ ?_
            rcases bool_cases ((!decide (p1 = 4095))) with b19 | b19
            · replace h := cd_t b19 h
              refine AX.condT ((!decide (p1 = 4095))) (by kernel_rfl) b19 ?_
              obtain ⟨g20, h⟩ := gd_e h
              refine AX.reg (its := [.auto {}, .auto {}, .auto { nk := 4 }, .auto { y := some (.sl 5 0 ((v5 ++ ([(x8, x10)] : List (ByteArray × Int))).length)), els := some (List.map enc_si v5), els2 := some (List.map enc_si ([(x8, x10)] : List (ByteArray × Int))), nk := 5 }]) [0, 1, 5, 6] [0, 5] (s1 := ⟨[(0, .pt 0 0), (1, .v (.int .i64 p1)), (5, .sl 5 0 ((v5 ++ ([(x8, x10)] : List (ByteArray × Int))).length)), (6, .v (.int .i64 v6))], [(0, .box [.bs true 1 (List.map enc_y p2), .v (.int .i64 (IntKind.wrap .i64 ((IntKind.wrap .i64 ((IntKind.wrap .i64 (v7 + 1)) + 1)) + 1)))]), (5, .arr 2 (List.map enc_si v5 ++ List.map enc_si ([(x8, x10)] : List (ByteArray × Int))))]⟩) (C := ((((((List.map enc_si v5).drop 0).take (v5.length) = List.map enc_si v5) ∧ (((List.map enc_si ([(x8, x10)] : List (ByteArray × Int))).drop 0).take (([(x8, x10)] : List (ByteArray × Int)).length) = List.map enc_si ([(x8, x10)] : List (ByteArray × Int)))) ∧ (List.map enc_si v5).length + (List.map enc_si ([(x8, x10)] : List (ByteArray × Int))).length ≤ 1099511627776) ∧ (AV.sl 5 0 (List.map enc_si v5 ++ List.map enc_si ([(x8, x10)] : List (ByteArray × Int))).length = AV.sl 5 0 (v5 ++ ([(x8, x10)] : List (ByteArray × Int))).length)) ∧ True) (by kernel_rfl) ⟨⟨⟨⟨(dt_all (enc := enc_si) rfl rfl), (dt_all (enc := enc_si) rfl rfl)⟩, (by simp only [List.length_map, List.length_nil, List.length_replicate]; simpa using g20)⟩, sl_len (enc := enc_si) (app_can (enc := enc_si) rfl (rfl))⟩, trivial⟩ trivial ?_
              refine AX.reg (its := [.auto {}, .auto { raw := true }]) [0, 1, 5, 6] [0, 5] (s1 := ⟨[(0, .pt 0 0), (1, .v (.int .i64 p1)), (5, .sl 5 0 ((v5 ++ ([(x8, x10)] : List (ByteArray × Int))).length)), (6, .v (.int .i64 (IntKind.wrap .i64 (v6 - 1))))], [(0, .box [.bs true 1 (List.map enc_y p2), .v (.int .i64 (IntKind.wrap .i64 ((IntKind.wrap .i64 ((IntKind.wrap .i64 (v7 + 1)) + 1)) + 1)))]), (5, .arr 2 (List.map enc_si v5 ++ List.map enc_si ([(x8, x10)] : List (ByteArray × Int))))]⟩) (C := True) (by kernel_rfl) trivial trivial ?_
              refine ⟨(fu, (v5 ++ ([(x8, x10)] : List (ByteArray × Int)), IntKind.wrap .i64 (v6 - 1), IntKind.wrap .i64 ((IntKind.wrap .i64 ((IntKind.wrap .i64 (v7 + 1)) + 1)) + 1))), h, Nat.lt_succ_self _, ?_⟩
              refine Wk.trans (Wk.swap 1 5 (Nat.le_of_ble_eq_true (by kernel_rfl)) (Nat.le_of_ble_eq_true (by kernel_rfl)) rfl) ?_
              refine Wk.trans (Wk.forget [0, 1, 5, 6] [0, 1] (s' := ⟨[(0, .pt 0 0), (1, .v (.int .i64 p1)), (5, .sl 1 0 ((v5 ++ ([(x8, x10)] : List (ByteArray × Int))).length)), (6, .v (.int .i64 (IntKind.wrap .i64 (v6 - 1))))], [(0, .box [.bs true 1 (List.map enc_y p2), .v (.int .i64 (IntKind.wrap .i64 ((IntKind.wrap .i64 ((IntKind.wrap .i64 (v7 + 1)) + 1)) + 1)))]), (1, .arr 2 (List.map enc_si v5 ++ List.map enc_si ([(x8, x10)] : List (ByteArray × Int))))]⟩) (by kernel_rfl)) ?_
              refine Wk.trans (Wk.of_eq (congrArg (fun z => (⟨[(0, .pt 0 0), (1, .v (.int .i64 p1)), (5, .sl 1 0 ((v5 ++ ([(x8, x10)] : List (ByteArray × Int))).length)), (6, .v (.int .i64 (IntKind.wrap .i64 (v6 - 1))))], [(0, .box [.bs true 1 (List.map enc_y p2), .v (.int .i64 (IntKind.wrap .i64 ((IntKind.wrap .i64 ((IntKind.wrap .i64 (v7 + 1)) + 1)) + 1)))]), (1, .arr 2 (z))]⟩ : S)) (app_can (enc := enc_si) rfl (rfl) : List.map enc_si v5 ++ List.map enc_si ([(x8, x10)] : List (ByteArray × Int)) = List.map enc_si (v5 ++ ([(x8, x10)] : List (ByteArray × Int)))))) ?_
              exact Wk.refl _
            · replace h := cd_f b19 h
              refine AX.condF ((!decide (p1 = 4095))) (by kernel_rfl) b19 ?_
              refine AX.skip ?_
              refine AX.reg (its := [.auto {}, .auto { raw := true }]) [0, 1, 5, 6] [0, 1] (s1 := ⟨[(0, .pt 0 0), (1, .v (.int .i64 p1)), (5, .sl 1 0 v5.length), (6, .v (.int .i64 (IntKind.wrap .i64 (v6 - 1))))], [(0, .box [.bs true 1 (List.map enc_y p2), .v (.int .i64 (IntKind.wrap .i64 ((IntKind.wrap .i64 ((IntKind.wrap .i64 (v7 + 1)) + 1)) + 1)))]), (1, .arr 2 (List.map enc_si v5))]⟩) (C := True) (by kernel_rfl) trivial trivial ?_
              refine ⟨(fu, (v5, IntKind.wrap .i64 (v6 - 1), IntKind.wrap .i64 ((IntKind.wrap .i64 ((IntKind.wrap .i64 (v7 + 1)) + 1)) + 1))), h, Nat.lt_succ_self _, ?_⟩
              refine Wk.trans (Wk.forget [0, 1, 5, 6] [0, 1] (s' := ⟨[(0, .pt 0 0), (1, .v (.int .i64 p1)), (5, .sl 1 0 v5.length), (6, .v (.int .i64 (IntKind.wrap .i64 (v6 - 1))))], [(0, .box [.bs true 1 (List.map enc_y p2), .v (.int .i64 (IntKind.wrap .i64 ((IntKind.wrap .i64 ((IntKind.wrap .i64 (v7 + 1)) + 1)) + 1)))]), (1, .arr 2 (List.map enc_si v5))]⟩) (by kernel_rfl)) ?_
              exact Wk.refl _
        · replace h := cd_f b16 h
          refine AX.reg (its := [.auto {}, .auto {}, .auto {}, .call 108 [.sl 1 0 v5.length, .v (.string x8)] (handO (rho ([] ++ [])) [] [] ++ [(1, .arr 2 (List.map enc_si v5))]) (callEv [] [] (.v (.int .i64 x14)) []), .auto { y := some (.v (.bool false)) }]) [0, 1, 5, 6, 7, 45] [0, 1, 3] (s1 := ⟨[(0, .pt 0 0), (1, .v (.int .i64 p1)), (5, .sl 1 0 v5.length), (6, .v (.int .i64 v6)), (7, .pt 3 0), (45, .v (.bool false))], [(0, .box [.bs true 1 (List.map enc_y p2), .v (.int .i64 (IntKind.wrap .i64 ((IntKind.wrap .i64 ((IntKind.wrap .i64 (v7 + 1)) + 1)) + 1)))]), (1, .arr 2 (List.map enc_si v5)), (3, .box [.v (.string x8), .v (.int .i64 x10)])]⟩) (C := ((([.sl 1 0 v5.length, .v (.string x8)] : List AV) = [.sl 1 0 v5.length, .v (.string x8)]) ∧ (AO.arr 2 (List.map enc_si v5) = AO.arr 2 (List.map enc_si v5)) ∧ True) ∧ ((True) ∧ ((.v (.bool (decide (x14 < 0))) : AV) = (.v (.bool false) : AV))) ∧ True) (by kernel_rfl) ⟨⟨rfl, rfl, trivial⟩, ⟨⟨trivial, (congrArg (fun z => AV.v (.bool z)) b16)⟩, trivial⟩⟩ ⟨call_ok (ks := []) (ns := []) (bor := [1]) (bobjs := [(1, .arr 2 (List.map enc_si v5))]) (s_spec_indexOf v5 x8 x14 e15) (.cons (.c1 (.c0 (.arr rfl rfl ((rfl).trans (List.length_map ..).symm)))) (.cons (.c1 (.c0 (.same _ (by kernel_rfl) (by kernel_rfl)))) (.nil))) (by kernel_rfl) trivial, trivial⟩ ?_
          refine AX.cond_false (by kernel_rfl) ?_
          refine AX.skip ?_
          refine AX.reg (its := [.auto {}, .auto { raw := true }]) [0, 1, 5, 6] [0, 1] (s1 := ⟨[(0, .pt 0 0), (1, .v (.int .i64 p1)), (5, .sl 1 0 v5.length), (6, .v (.int .i64 (IntKind.wrap .i64 (v6 - 1))))], [(0, .box [.bs true 1 (List.map enc_y p2), .v (.int .i64 (IntKind.wrap .i64 ((IntKind.wrap .i64 ((IntKind.wrap .i64 (v7 + 1)) + 1)) + 1)))]), (1, .arr 2 (List.map enc_si v5))]⟩) (C := True) (by kernel_rfl) trivial trivial ?_
          refine ⟨(fu, (v5, IntKind.wrap .i64 (v6 - 1), IntKind.wrap .i64 ((IntKind.wrap .i64 ((IntKind.wrap .i64 (v7 + 1)) + 1)) + 1))), h, Nat.lt_succ_self _, ?_⟩
          refine Wk.trans (Wk.forget [0, 1, 5, 6] [0, 1] (s' := ⟨[(0, .pt 0 0), (1, .v (.int .i64 p1)), (5, .sl 1 0 v5.length), (6, .v (.int .i64 (IntKind.wrap .i64 (v6 - 1))))], [(0, .box [.bs true 1 (List.map enc_y p2), .v (.int .i64 (IntKind.wrap .i64 ((IntKind.wrap .i64 ((IntKind.wrap .i64 (v7 + 1)) + 1)) + 1)))]), (1, .arr 2 (List.map enc_si v5))]⟩) (by kernel_rfl)) ?_
          exact Wk.refl _
    · replace h := cd_f b2 h
      refine AX.condF (decide (0 < v6)) (by kernel_rfl) b2 ?_
      refine AX.exit ?_
      refine fin_wk (Wk.forget [5] [0, 1] (s' := ⟨[(5, .sl 1 0 v5.length)], [(0, .box [.bs true 1 (List.map enc_y p2), .v (.int .i64 v7)]), (1, .arr 2 (List.map enc_si v5))]⟩) (by kernel_rfl)) ?_
      have hr := Option.some.inj h
      subst hr
      exact ⟨_, Wk.refl _, ⟨rfl, rfl⟩⟩

theorem s_spec_goodDefs (p1 : Int) (p2 : List (Int)) (p3 : Int) (r : (List (ByteArray × Int)) × Int) (h : m_spec_goodDefs p1 p2 p3 = some r) :
    Eng.Spec Tryz.prog 124 [.pt 0 0, .v (.int .i64 p1)] [.box [.bs true 1 (List.map enc_y p2), .v (.int .i64 p3)]] (.sl 1 0 r.1.length) [.box [.bs true 1 (List.map enc_y p2), .v (.int .i64 r.2)], .arr 2 (List.map enc_si r.1)] := by
  unfold m_spec_goodDefs at h
  refine Eng.Spec.body Tryz.func124 (by kernel_rfl) rfl (by kernel_rfl) ?_
  refine AX.wkpost ?_
  refine AX.seq ?_
  refine AX.reg (its := []) [0, 1] [0] (s1 := ⟨[(0, .pt 0 0), (1, .v (.int .i64 p1))], [(0, .box [.bs true 1 (List.map enc_y p2), .v (.int .i64 p3)])]⟩) (C := True) (by kernel_rfl) trivial trivial ?_
  refine AX.seq ?_
  refine AX.reg (its := [.auto { nk := 1 }]) [0, 1, 5] [0, 1] (s1 := ⟨[(0, .pt 0 0), (1, .v (.int .i64 p1)), (5, .sl 1 0 (([] : List (ByteArray × Int)).length))], [(0, .box [.bs true 1 (List.map enc_y p2), .v (.int .i64 p3)]), (1, .arr 2 (List.map enc_si ([] : List (ByteArray × Int))))]⟩) (C := True) (by kernel_rfl) trivial trivial ?_
  refine AX.seq ?_
  refine AX.seq ?_
  obtain ⟨x4, e1, h⟩ := bd_e h
  refine AX.reg (its := [.auto {}, .auto { nk := 2 }, .call 98 [.pt 0 0, .sl 2 0 (([4, 3, 5, 2, 6, 1, 0, 12] : List (Int)).length)] (handO (rho ([0] ++ [])) [0] [.box [.bs true 1 (List.map enc_y p2), .v (.int .i64 p3)]] ++ [(2, .arr 1 (List.map enc_i ([4, 3, 5, 2, 6, 1, 0, 12] : List (Int))))]) (callEv [0] [] (.v (.int .i64 x4)) [.box [.bs true 1 (List.map enc_y p2), .v (.int .i64 (IntKind.wrap .i64 (p3 + 1)))]])]) [0, 1, 5, 6] [0, 1] (s1 := ⟨[(0, .pt 0 0), (1, .v (.int .i64 p1)), (5, .sl 1 0 (([] : List (ByteArray × Int)).length)), (6, .v (.int .i64 x4))], [(0, .box [.bs true 1 (List.map enc_y p2), .v (.int .i64 (IntKind.wrap .i64 (p3 + 1)))]), (1, .arr 2 (List.map enc_si ([] : List (ByteArray × Int))))]⟩) (C := ((([.pt 0 0, .sl 2 0 (([4, 3, 5, 2, 6, 1, 0, 12] : List (Int)).length)] : List AV) = [.pt 0 0, .sl 2 0 (([4, 3, 5, 2, 6, 1, 0, 12] : List (Int)).length)]) ∧ (AO.box [.bs true 1 (List.map enc_y p2), .v (.int .i64 p3)] = AO.box [.bs true 1 (List.map enc_y p2), .v (.int .i64 p3)]) ∧ (AO.arr 1 (List.map enc_i ([4, 3, 5, 2, 6, 1, 0, 12] : List (Int))) = AO.arr 1 (List.map enc_i ([4, 3, 5, 2, 6, 1, 0, 12] : List (Int)))) ∧ True) ∧ True) (by kernel_rfl) ⟨⟨rfl, rfl, rfl, trivial⟩, trivial⟩ ⟨call_ok (ks := [0]) (ns := []) (bor := [2]) (bobjs := [(2, .arr 1 (List.map enc_i ([4, 3, 5, 2, 6, 1, 0, 12] : List (Int))))]) (s_spec_reader_one ([4, 3, 5, 2, 6, 1, 0, 12] : List (Int)) p2 p3 x4 e1) (.cons (.c1 (.c0 (.same _ (by kernel_rfl) (by kernel_rfl)))) (.cons (.c1 (.c0 (.arr rfl rfl ((rfl).trans (List.length_map ..).symm)))) (.nil))) (by kernel_rfl) ⟨.inr rfl, trivial⟩, trivial⟩ ?_
  refine AX.block ?_
  obtain ⟨x15, e21, h⟩ := bd_e h
  refine AX.wk (Wk.forget [0, 1, 5, 6] [0, 1] (s' := ⟨[(0, .pt 0 0), (1, .v (.int .i64 p1)), (5, .sl 1 0 (([] : List (ByteArray × Int)).length)), (6, .v (.int .i64 x4))], [(0, .box [.bs true 1 (List.map enc_y p2), .v (.int .i64 (IntKind.wrap .i64 (p3 + 1)))]), (1, .arr 2 (List.map enc_si ([] : List (ByteArray × Int))))]⟩) (by kernel_rfl)) ?_
  refine AX.mono (s_spec_goodDefs_L1 p1 p2 FU (([] : List (ByteArray × Int)), x4, IntKind.wrap .i64 (p3 + 1)) x15 e21) ?_
  rintro _ _ ⟨rfl, rfl⟩
  skip
  refine AX.seq ?_
  refine AX.reg (its := []) [4] [0, 1] (s1 := ⟨[(4, .sl 1 0 x15.1.length)], [(0, .box [.bs true 1 (List.map enc_y p2), .v (.int .i64 x15.2)]), (1, .arr 2 (List.map enc_si x15.1))]⟩) (C := True) (by kernel_rfl) trivial trivial ?_
  refine AX.ret ?_
  refine fin_wk (Wk.forget [4] [0, 1] (s' := ⟨[(4, .sl 1 0 x15.1.length)], [(0, .box [.bs true 1 (List.map enc_y p2), .v (.int .i64 x15.2)]), (1, .arr 2 (List.map enc_si x15.1))]⟩) (by kernel_rfl)) ?_
  have hr := Option.some.inj h
  subst hr
  exact ⟨_, Wk.refl _, .inr rfl, ⟨[1], by kernel_rfl, ⟨rfl, rfl, trivial⟩, [.sl 1 0 x15.1.length], by kernel_rfl, by kernel_rfl⟩⟩

theorem s_spec_goodFlag (p1 : List (Int)) (p2 : Int) (r : (List (ByteArray × Int)) × Int × Int) (h : m_spec_goodFlag p1 p2 = some r) :
    Eng.Spec Tryz.prog 97 [.pt 0 0] [.box [.bs true 1 (List.map enc_y p1), .v (.int .i64 p2)]] (.agg [.sl 1 0 r.1.length, .v (.int .i64 r.2.1)]) [.box [.bs true 1 (List.map enc_y p1), .v (.int .i64 r.2.2)], .arr 2 (List.map enc_si r.1)] := by
  unfold m_spec_goodFlag at h
  refine Eng.Spec.body Tryz.func97 (by kernel_rfl) rfl (by kernel_rfl) ?_
  refine AX.wkpost ?_
  refine AX.seq ?_
  refine AX.reg (its := [.auto { nk := 1 }]) [0, 2] [0, 1] (s1 := ⟨[(0, .pt 0 0), (2, .pt 1 0)], [(0, .box [.bs true 1 (List.map enc_y p1), .v (.int .i64 p2)]), (1, .box [.v (.slice none 0 0), .v (.int .i64 0)])]⟩) (C := True) (by kernel_rfl) trivial trivial ?_
  refine AX.seq ?_
  obtain ⟨x3, e1, h⟩ := bd_e h
  obtain ⟨x4, e2, h⟩ := bd_e h
  refine AX.reg (its := [.auto {}, .call 124 [.pt 0 0, .v (.int .i64 4095)] (handO (rho ([0] ++ [2])) [0] [.box [.bs true 1 (List.map enc_y p1), .v (.int .i64 p2)]] ++ []) (callEv [0] [2] (.sl 1 0 x3.1.length) [.box [.bs true 1 (List.map enc_y p1), .v (.int .i64 x3.2)], .arr 2 (List.map enc_si x3.1)]), .auto {}, .call 27 [.pt 0 0, .v (.int .i64 4)] (handO (rho ([0] ++ [])) [0] [.box [.bs true 1 (List.map enc_y p1), .v (.int .i64 x3.2)]] ++ []) (callEv [0] [] (.v (.int .i64 x4)) [.box [.bs true 1 (List.map enc_y p1), .v (.int .i64 (IntKind.wrap .i64 (x3.2 + 1)))]])]) [2] [0, 1, 2] (s1 := ⟨[(2, .pt 1 0)], [(0, .box [.bs true 1 (List.map enc_y p1), .v (.int .i64 (IntKind.wrap .i64 (x3.2 + 1)))]), (1, .box [.sl 2 0 x3.1.length, .v (.int .i64 x4)]), (2, .arr 2 (List.map enc_si x3.1))]⟩) (C := ((([.pt 0 0, .v (.int .i64 4095)] : List AV) = [.pt 0 0, .v (.int .i64 4095)]) ∧ (AO.box [.bs true 1 (List.map enc_y p1), .v (.int .i64 p2)] = AO.box [.bs true 1 (List.map enc_y p1), .v (.int .i64 p2)]) ∧ True) ∧ ((([.pt 0 0, .v (.int .i64 4)] : List AV) = [.pt 0 0, .v (.int .i64 4)]) ∧ (AO.box [.bs true 1 (List.map enc_y p1), .v (.int .i64 x3.2)] = AO.box [.bs true 1 (List.map enc_y p1), .v (.int .i64 x3.2)]) ∧ True) ∧ True) (by kernel_rfl) ⟨⟨rfl, rfl, trivial⟩, ⟨⟨rfl, rfl, trivial⟩, trivial⟩⟩ ⟨call_ok (ks := [0]) (ns := [2]) (bor := []) (bobjs := []) (s_spec_goodDefs 4095 p1 p2 x3 e1) (.cons (.c1 (.c0 (.same _ (by kernel_rfl) (by kernel_rfl)))) (.cons (.c1 (.c0 (.same _ (by kernel_rfl) (by kernel_rfl)))) (.nil))) (by kernel_rfl) ⟨.inr rfl, trivial⟩, ⟨call_ok (ks := [0]) (ns := []) (bor := []) (bobjs := []) (s_spec_reader_pick 4 p1 x3.2 x4 e2) (.cons (.c1 (.c0 (.same _ (by kernel_rfl) (by kernel_rfl)))) (.cons (.c1 (.c0 (.same _ (by kernel_rfl) (by kernel_rfl)))) (.nil))) (by kernel_rfl) ⟨.inr rfl, trivial⟩, trivial⟩⟩ ?_
  refine AX.ret ?_
  refine fin_wk (Wk.forget [2] [0, 1, 2] (s' := ⟨[(2, .pt 1 0)], [(0, .box [.bs true 1 (List.map enc_y p1), .v (.int .i64 (IntKind.wrap .i64 (x3.2 + 1)))]), (1, .box [.sl 2 0 x3.1.length, .v (.int .i64 x4)]), (2, .arr 2 (List.map enc_si x3.1))]⟩) (by kernel_rfl)) ?_
  have hr := Option.some.inj h
  subst hr
  exact ⟨_, Wk.refl _, .inr rfl, ⟨[2], by kernel_rfl, ⟨rfl, rfl, trivial⟩, [.agg [.sl 2 0 x3.1.length, .v (.int .i64 x4)]], by kernel_rfl, by kernel_rfl⟩⟩

theorem s_spec_anyName (p1 : List (Int)) (p2 : Int) (r : ByteArray) (h : m_spec_anyName p1 p2 = some r) :
    Eng.Spec Tryz.prog 99 [.pt 0 0] [.box [.bs true 1 (List.map enc_y p1), .v (.int .i64 p2)]] (.v (.string r)) [.box [.bs true 1 (List.map enc_y p1), .v (.int .i64 (IntKind.wrap .i64 ((IntKind.wrap .i64 (p2 + 1)) + 1)))]] := by
  unfold m_spec_anyName at h
  refine Eng.Spec.body Tryz.func99 (by kernel_rfl) rfl (by kernel_rfl) ?_
  refine AX.wkpost ?_
  refine AX.seq ?_
  refine AX.reg (its := []) [0] [0] (s1 := ⟨[(0, .pt 0 0)], [(0, .box [.bs true 1 (List.map enc_y p1), .v (.int .i64 p2)])]⟩) (C := True) (by kernel_rfl) trivial trivial ?_
  refine AX.seq ?_
  refine AX.seq ?_
  obtain ⟨x3, e1, h⟩ := bd_e h
  refine AX.reg (its := [.auto {}, .call 27 [.pt 0 0, .v (.int .i64 16)] (handO (rho ([0] ++ [])) [0] [.box [.bs true 1 (List.map enc_y p1), .v (.int .i64 p2)]] ++ []) (callEv [0] [] (.v (.int .i64 x3)) [.box [.bs true 1 (List.map enc_y p1), .v (.int .i64 (IntKind.wrap .i64 (p2 + 1)))]])]) [0, 5] [0] (s1 := ⟨[(0, .pt 0 0), (5, .v (.bool (decide (x3 = 0))))], [(0, .box [.bs true 1 (List.map enc_y p1), .v (.int .i64 (IntKind.wrap .i64 (p2 + 1)))])]⟩) (C := ((([.pt 0 0, .v (.int .i64 16)] : List AV) = [.pt 0 0, .v (.int .i64 16)]) ∧ (AO.box [.bs true 1 (List.map enc_y p1), .v (.int .i64 p2)] = AO.box [.bs true 1 (List.map enc_y p1), .v (.int .i64 p2)]) ∧ True) ∧ True) (by kernel_rfl) ⟨⟨rfl, rfl, trivial⟩, trivial⟩ ⟨call_ok (ks := [0]) (ns := []) (bor := []) (bobjs := []) (s_spec_reader_pick 16 p1 p2 x3 e1) (.cons (.c1 (.c0 (.same _ (by kernel_rfl) (by kernel_rfl)))) (.cons (.c1 (.c0 (.same _ (by kernel_rfl) (by kernel_rfl)))) (.nil))) (by kernel_rfl) ⟨.inr rfl, trivial⟩, trivial⟩ ?_
  rcases bool_cases (decide (x3 = 0)) with b2 | b2
  · replace h := cd_t b2 h
    refine AX.condT (decide (x3 = 0)) (by kernel_rfl) b2 ?_
    refine AX.seq ?_
    obtain ⟨x4, e3, h⟩ := bd_e h
    refine AX.reg (its := [.auto {}, .auto { nk := 1 }, .call 63 [.pt 0 0, .sl 1 0 (([ByteArray.empty, (ByteArray.mk #[65]), (ByteArray.mk #[116, 111, 111, 108, 111, 110, 103]), (ByteArray.mk #[97, 49]), (ByteArray.mk #[97, 32, 98]), (ByteArray.mk #[97, 98, 99, 100, 101, 102])] : List (ByteArray)).length)] (handO (rho ([0] ++ [])) [0] [.box [.bs true 1 (List.map enc_y p1), .v (.int .i64 (IntKind.wrap .i64 (p2 + 1)))]] ++ [(1, .arr 1 (List.map enc_s ([ByteArray.empty, (ByteArray.mk #[65]), (ByteArray.mk #[116, 111, 111, 108, 111, 110, 103]), (ByteArray.mk #[97, 49]), (ByteArray.mk #[97, 32, 98]), (ByteArray.mk #[97, 98, 99, 100, 101, 102])] : List (ByteArray))))]) (callEv [0] [] (.v (.string x4)) [.box [.bs true 1 (List.map enc_y p1), .v (.int .i64 (IntKind.wrap .i64 ((IntKind.wrap .i64 (p2 + 1)) + 1)))]])]) [2] [0] (s1 := ⟨[(2, .v (.string x4))], [(0, .box [.bs true 1 (List.map enc_y p1), .v (.int .i64 (IntKind.wrap .i64 ((IntKind.wrap .i64 (p2 + 1)) + 1)))])]⟩) (C := ((([.pt 0 0, .sl 1 0 (([ByteArray.empty, (ByteArray.mk #[65]), (ByteArray.mk #[116, 111, 111, 108, 111, 110, 103]), (ByteArray.mk #[97, 49]), (ByteArray.mk #[97, 32, 98]), (ByteArray.mk #[97, 98, 99, 100, 101, 102])] : List (ByteArray)).length)] : List AV) = [.pt 0 0, .sl 1 0 (([ByteArray.empty, (ByteArray.mk #[65]), (ByteArray.mk #[116, 111, 111, 108, 111, 110, 103]), (ByteArray.mk #[97, 49]), (ByteArray.mk #[97, 32, 98]), (ByteArray.mk #[97, 98, 99, 100, 101, 102])] : List (ByteArray)).length)]) ∧ (AO.box [.bs true 1 (List.map enc_y p1), .v (.int .i64 (IntKind.wrap .i64 (p2 + 1)))] = AO.box [.bs true 1 (List.map enc_y p1), .v (.int .i64 (IntKind.wrap .i64 (p2 + 1)))]) ∧ (AO.arr 1 (List.map enc_s ([ByteArray.empty, (ByteArray.mk #[65]), (ByteArray.mk #[116, 111, 111, 108, 111, 110, 103]), (ByteArray.mk #[97, 49]), (ByteArray.mk #[97, 32, 98]), (ByteArray.mk #[97, 98, 99, 100, 101, 102])] : List (ByteArray))) = AO.arr 1 (List.map enc_s ([ByteArray.empty, (ByteArray.mk #[65]), (ByteArray.mk #[116, 111, 111, 108, 111, 110, 103]), (ByteArray.mk #[97, 49]), (ByteArray.mk #[97, 32, 98]), (ByteArray.mk #[97, 98, 99, 100, 101, 102])] : List (ByteArray)))) ∧ True) ∧ True) (by kernel_rfl) ⟨⟨rfl, rfl, rfl, trivial⟩, trivial⟩ ⟨call_ok (ks := [0]) (ns := []) (bor := [1]) (bobjs := [(1, .arr 1 (List.map enc_s ([ByteArray.empty, (ByteArray.mk #[65]), (ByteArray.mk #[116, 111, 111, 108, 111, 110, 103]), (ByteArray.mk #[97, 49]), (ByteArray.mk #[97, 32, 98]), (ByteArray.mk #[97, 98, 99, 100, 101, 102])] : List (ByteArray))))]) (s_spec_reader_of ([ByteArray.empty, (ByteArray.mk #[65]), (ByteArray.mk #[116, 111, 111, 108, 111, 110, 103]), (ByteArray.mk #[97, 49]), (ByteArray.mk #[97, 32, 98]), (ByteArray.mk #[97, 98, 99, 100, 101, 102])] : List (ByteArray)) p1 (IntKind.wrap .i64 (p2 + 1)) x4 e3) (.cons (.c1 (.c0 (.same _ (by kernel_rfl) (by kernel_rfl)))) (.cons (.c1 (.c0 (.arr rfl rfl ((rfl).trans (List.length_map ..).symm)))) (.nil))) (by kernel_rfl) ⟨.inr rfl, trivial⟩, trivial⟩ ?_
    refine AX.ret ?_
    refine fin_wk (Wk.forget [2] [0] (s' := ⟨[(2, .v (.string x4))], [(0, .box [.bs true 1 (List.map enc_y p1), .v (.int .i64 (IntKind.wrap .i64 ((IntKind.wrap .i64 (p2 + 1)) + 1)))])]⟩) (by kernel_rfl)) ?_
    have hr := Option.some.inj h
    subst hr
    exact ⟨_, Wk.refl _, .inr rfl, ⟨[], by kernel_rfl, ⟨rfl, trivial⟩, [.v (.string x4)], by kernel_rfl, by kernel_rfl⟩⟩
  · replace h := cd_f b2 h
    refine AX.condF (decide (x3 = 0)) (by kernel_rfl) b2 ?_
    refine AX.skip ?_
    refine AX.seq ?_
    obtain ⟨x5, e4, h⟩ := bd_e h
    refine AX.reg (its := [.auto {}, .call 125 [.pt 0 0] (handO (rho ([0] ++ [])) [0] [.box [.bs true 1 (List.map enc_y p1), .v (.int .i64 (IntKind.wrap .i64 (p2 + 1)))]] ++ []) (callEv [0] [] (.v (.string x5)) [.box [.bs true 1 (List.map enc_y p1), .v (.int .i64 (IntKind.wrap .i64 ((IntKind.wrap .i64 (p2 + 1)) + 1)))]])]) [2] [0] (s1 := ⟨[(2, .v (.string x5))], [(0, .box [.bs true 1 (List.map enc_y p1), .v (.int .i64 (IntKind.wrap .i64 ((IntKind.wrap .i64 (p2 + 1)) + 1)))])]⟩) (C := ((([.pt 0 0] : List AV) = [.pt 0 0]) ∧ (AO.box [.bs true 1 (List.map enc_y p1), .v (.int .i64 (IntKind.wrap .i64 (p2 + 1)))] = AO.box [.bs true 1 (List.map enc_y p1), .v (.int .i64 (IntKind.wrap .i64 (p2 + 1)))]) ∧ True) ∧ True) (by kernel_rfl) ⟨⟨rfl, rfl, trivial⟩, trivial⟩ ⟨call_ok (ks := [0]) (ns := []) (bor := []) (bobjs := []) (s_spec_aName p1 (IntKind.wrap .i64 (p2 + 1)) x5 e4) (.cons (.c1 (.c0 (.same _ (by kernel_rfl) (by kernel_rfl)))) (.nil)) (by kernel_rfl) ⟨.inr rfl, trivial⟩, trivial⟩ ?_
    refine AX.ret ?_
    refine fin_wk (Wk.forget [2] [0] (s' := ⟨[(2, .v (.string x5))], [(0, .box [.bs true 1 (List.map enc_y p1), .v (.int .i64 (IntKind.wrap .i64 ((IntKind.wrap .i64 (p2 + 1)) + 1)))])]⟩) (by kernel_rfl)) ?_
    have hr := Option.some.inj h
    subst hr
    exact ⟨_, Wk.refl _, .inr rfl, ⟨[], by kernel_rfl, ⟨rfl, trivial⟩, [.v (.string x5)], by kernel_rfl, by kernel_rfl⟩⟩

theorem s_spec_someFlag (p1 : List (Int)) (p2 : Int) (r : (List (ByteArray × Int)) × Int × Int) (h : m_spec_someFlag p1 p2 = some r) :
    Eng.Spec Tryz.prog 58 [.pt 0 0] [.box [.bs true 1 (List.map enc_y p1), .v (.int .i64 p2)]] (.agg [.sl 1 0 r.1.length, .v (.int .i64 r.2.1)]) [.box [.bs true 1 (List.map enc_y p1), .v (.int .i64 r.2.2)], .arr 2 (List.map enc_si r.1)] := by
  unfold m_spec_someFlag at h
  refine Eng.Spec.body Tryz.func58 (by kernel_rfl) rfl (by kernel_rfl) ?_
  refine AX.wkpost ?_
  refine AX.seq ?_
  refine AX.reg (its := [.auto { nk := 1 }]) [0, 2] [0, 1] (s1 := ⟨[(0, .pt 0 0), (2, .pt 1 0)], [(0, .box [.bs true 1 (List.map enc_y p1), .v (.int .i64 p2)]), (1, .box [.v (.slice none 0 0), .v (.int .i64 0)])]⟩) (C := True) (by kernel_rfl) trivial trivial ?_
  refine AX.seq ?_
  obtain ⟨x3, e1, h⟩ := bd_e h
  refine AX.reg (its := [.auto {}, .call 97 [.pt 0 0] (handO (rho ([0] ++ [2])) [0] [.box [.bs true 1 (List.map enc_y p1), .v (.int .i64 p2)]] ++ []) (callEv [0] [2] (.agg [.sl 1 0 x3.1.length, .v (.int .i64 x3.2.1)]) [.box [.bs true 1 (List.map enc_y p1), .v (.int .i64 x3.2.2)], .arr 2 (List.map enc_si x3.1)]), .auto { nk := 3 }]) [0, 2, 3] [0, 1, 2, 3] (s1 := ⟨[(0, .pt 0 0), (2, .pt 1 0), (3, .pt 3 0)], [(0, .box [.bs true 1 (List.map enc_y p1), .v (.int .i64 x3.2.2)]), (1, .box [.v (.slice none 0 0), .v (.int .i64 0)]), (2, .arr 2 (List.map enc_si x3.1)), (3, .box [.sl 2 0 x3.1.length, .v (.int .i64 x3.2.1)])]⟩) (C := ((([.pt 0 0] : List AV) = [.pt 0 0]) ∧ (AO.box [.bs true 1 (List.map enc_y p1), .v (.int .i64 p2)] = AO.box [.bs true 1 (List.map enc_y p1), .v (.int .i64 p2)]) ∧ True) ∧ True) (by kernel_rfl) ⟨⟨rfl, rfl, trivial⟩, trivial⟩ ⟨call_ok (ks := [0]) (ns := [2]) (bor := []) (bobjs := []) (s_spec_goodFlag p1 p2 x3 e1) (.cons (.c1 (.c0 (.same _ (by kernel_rfl) (by kernel_rfl)))) (.nil)) (by kernel_rfl) ⟨.inr rfl, trivial⟩, trivial⟩ ?_
  refine AX.seq ?_
  refine AX.seq ?_
  obtain ⟨x4, e2, h⟩ := bd_e h
  refine AX.reg (its := [.auto {}, .call 27 [.pt 0 0, .v (.int .i64 24)] (handO (rho ([0] ++ [])) [0] [.box [.bs true 1 (List.map enc_y p1), .v (.int .i64 x3.2.2)]] ++ []) (callEv [0] [] (.v (.int .i64 x4)) [.box [.bs true 1 (List.map enc_y p1), .v (.int .i64 (IntKind.wrap .i64 (x3.2.2 + 1)))]])]) [0, 2, 3, 7] [0, 1, 2, 3] (s1 := ⟨[(0, .pt 0 0), (2, .pt 1 0), (3, .pt 3 0), (7, .v (.int .i64 x4))], [(0, .box [.bs true 1 (List.map enc_y p1), .v (.int .i64 (IntKind.wrap .i64 (x3.2.2 + 1)))]), (1, .box [.v (.slice none 0 0), .v (.int .i64 0)]), (2, .arr 2 (List.map enc_si x3.1)), (3, .box [.sl 2 0 x3.1.length, .v (.int .i64 x3.2.1)])]⟩) (C := ((([.pt 0 0, .v (.int .i64 24)] : List AV) = [.pt 0 0, .v (.int .i64 24)]) ∧ (AO.box [.bs true 1 (List.map enc_y p1), .v (.int .i64 x3.2.2)] = AO.box [.bs true 1 (List.map enc_y p1), .v (.int .i64 x3.2.2)]) ∧ True) ∧ True) (by kernel_rfl) ⟨⟨rfl, rfl, trivial⟩, trivial⟩ ⟨call_ok (ks := [0]) (ns := []) (bor := []) (bobjs := []) (s_spec_reader_pick 24 p1 x3.2.2 x4 e2) (.cons (.c1 (.c0 (.same _ (by kernel_rfl) (by kernel_rfl)))) (.cons (.c1 (.c0 (.same _ (by kernel_rfl) (by kernel_rfl)))) (.nil))) (by kernel_rfl) ⟨.inr rfl, trivial⟩, trivial⟩ ?_
  refine AX.block ?_
  refine AX.seq ?_
  refine AX.reg (its := []) [0, 2, 3, 7, 8] [0, 1, 2, 3] (s1 := ⟨[(0, .pt 0 0), (2, .pt 1 0), (3, .pt 3 0), (7, .v (.int .i64 x4)), (8, .v (.bool (decide (x4 = 0))))], [(0, .box [.bs true 1 (List.map enc_y p1), .v (.int .i64 (IntKind.wrap .i64 (x3.2.2 + 1)))]), (1, .box [.v (.slice none 0 0), .v (.int .i64 0)]), (2, .arr 2 (List.map enc_si x3.1)), (3, .box [.sl 2 0 x3.1.length, .v (.int .i64 x3.2.1)])]⟩) (C := True) (by kernel_rfl) trivial trivial ?_
  rcases bool_cases (decide (x4 = 0)) with b3 | b3
  · replace h := cd_t b3 h
    refine AX.condT (decide (x4 = 0)) (by kernel_rfl) b3 ?_
    obtain ⟨x5, e4, h⟩ := bd_e h
    refine AX.reg (its := [.auto {}, .auto { nk := 4 }, .call 98 [.pt 0 0, .sl 4 0 (([(-1), 4] : List (Int)).length)] (handO (rho ([0] ++ [])) [0] [.box [.bs true 1 (List.map enc_y p1), .v (.int .i64 (IntKind.wrap .i64 (x3.2.2 + 1)))]] ++ [(4, .arr 1 (List.map enc_i ([(-1), 4] : List (Int))))]) (callEv [0] [] (.v (.int .i64 x5)) [.box [.bs true 1 (List.map enc_y p1), .v (.int .i64 (IntKind.wrap .i64 ((IntKind.wrap .i64 (x3.2.2 + 1)) + 1)))]])]) [2, 3] [0, 1, 2, 3] (s1 := ⟨[(2, .pt 1 0), (3, .pt 3 0)], [(0, .box [.bs true 1 (List.map enc_y p1), .v (.int .i64 (IntKind.wrap .i64 ((IntKind.wrap .i64 (x3.2.2 + 1)) + 1)))]), (1, .box [.v (.slice none 0 0), .v (.int .i64 0)]), (2, .arr 2 (List.map enc_si x3.1)), (3, .box [.sl 2 0 x3.1.length, .v (.int .i64 x5)])]⟩) (C := ((([.pt 0 0, .sl 4 0 (([(-1), 4] : List (Int)).length)] : List AV) = [.pt 0 0, .sl 4 0 (([(-1), 4] : List (Int)).length)]) ∧ (AO.box [.bs true 1 (List.map enc_y p1), .v (.int .i64 (IntKind.wrap .i64 (x3.2.2 + 1)))] = AO.box [.bs true 1 (List.map enc_y p1), .v (.int .i64 (IntKind.wrap .i64 (x3.2.2 + 1)))]) ∧ (AO.arr 1 (List.map enc_i ([(-1), 4] : List (Int))) = AO.arr 1 (List.map enc_i ([(-1), 4] : List (Int)))) ∧ True) ∧ True) (by kernel_rfl) ⟨⟨rfl, rfl, rfl, trivial⟩, trivial⟩ ⟨call_ok (ks := [0]) (ns := []) (bor := [4]) (bobjs := [(4, .arr 1 (List.map enc_i ([(-1), 4] : List (Int))))]) (s_spec_reader_one ([(-1), 4] : List (Int)) p1 (IntKind.wrap .i64 (x3.2.2 + 1)) x5 e4) (.cons (.c1 (.c0 (.same _ (by kernel_rfl) (by kernel_rfl)))) (.cons (.c1 (.c0 (.arr rfl rfl ((rfl).trans (List.length_map ..).symm)))) (.nil))) (by kernel_rfl) ⟨.inr rfl, trivial⟩, trivial⟩ ?_
    refine AX.seq ?_
    refine AX.reg (its := []) [2] [0, 1, 2] (s1 := ⟨[(2, .pt 1 0)], [(0, .box [.bs true 1 (List.map enc_y p1), .v (.int .i64 (IntKind.wrap .i64 ((IntKind.wrap .i64 (x3.2.2 + 1)) + 1)))]), (1, .box [.sl 2 0 x3.1.length, .v (.int .i64 x5)]), (2, .arr 2 (List.map enc_si x3.1))]⟩) (C := True) (by kernel_rfl) trivial trivial ?_
    refine AX.ret ?_
    refine fin_wk (Wk.forget [2] [0, 1, 2] (s' := ⟨[(2, .pt 1 0)], [(0, .box [.bs true 1 (List.map enc_y p1), .v (.int .i64 (IntKind.wrap .i64 ((IntKind.wrap .i64 (x3.2.2 + 1)) + 1)))]), (1, .box [.sl 2 0 x3.1.length, .v (.int .i64 x5)]), (2, .arr 2 (List.map enc_si x3.1))]⟩) (by kernel_rfl)) ?_
    have hr := Option.some.inj h
    subst hr
    exact ⟨_, Wk.refl _, .inr rfl, ⟨[2], by kernel_rfl, ⟨rfl, rfl, trivial⟩, [.agg [.sl 2 0 x3.1.length, .v (.int .i64 x5)]], by kernel_rfl, by kernel_rfl⟩⟩
  · replace h := cd_f b3 h
    refine AX.condF (decide (x4 = 0)) (by kernel_rfl) b3 ?_
    refine AX.seq ?_
    refine AX.reg (its := []) [0, 2, 3, 14] [0, 1, 2, 3] (s1 := ⟨[(0, .pt 0 0), (2, .pt 1 0), (3, .pt 3 0), (14, .v (.bool (decide (x4 = 1))))], [(0, .box [.bs true 1 (List.map enc_y p1), .v (.int .i64 (IntKind.wrap .i64 (x3.2.2 + 1)))]), (1, .box [.v (.slice none 0 0), .v (.int .i64 0)]), (2, .arr 2 (List.map enc_si x3.1)), (3, .box [.sl 2 0 x3.1.length, .v (.int .i64 x3.2.1)])]⟩) (C := True) (by kernel_rfl) trivial trivial ?_
    rcases bool_cases (decide (x4 = 1)) with b5 | b5
    · replace h := cd_t b5 h
      refine AX.condT (decide (x4 = 1)) (by kernel_rfl) b5 ?_
      obtain ⟨x6, e6, h⟩ := bd_e h
      obtain ⟨x7, e7, h⟩ := bd_e h
      obtain ⟨g8, h⟩ := gd_e h
      refine AX.drw mixed (its := [.auto {}, .auto {}, .auto {}, .call 99 [.pt 0 0] (handO (rho ([0] ++ [])) [0] [.box [.bs true 1 (List.map enc_y p1), .v (.int .i64 (IntKind.wrap .i64 (x3.2.2 + 1)))]] ++ []) (callEv [0] [] (.v (.string x6)) [.box [.bs true 1 (List.map enc_y p1), .v (.int .i64 (IntKind.wrap .i64 ((IntKind.wrap .i64 ((IntKind.wrap .i64 (x3.2.2 + 1)) + 1)) + 1)))]]), .auto {}, .auto { nk := 4 }, .call 98 [.pt 0 0, .sl 4 0 (([(-1), 4096, 1] : List (Int)).length)] (handO (rho ([0] ++ [])) [0] [.box [.bs true 1 (List.map enc_y p1), .v (.int .i64 (IntKind.wrap .i64 ((IntKind.wrap .i64 ((IntKind.wrap .i64 (x3.2.2 + 1)) + 1)) + 1)))]] ++ [(4, .arr 1 (List.map enc_i ([(-1), 4096, 1] : List (Int))))]) (callEv [0] [] (.v (.int .i64 x7)) [.box [.bs true 1 (List.map enc_y p1), .v (.int .i64 (IntKind.wrap .i64 ((IntKind.wrap .i64 ((IntKind.wrap .i64 ((IntKind.wrap .i64 (x3.2.2 + 1)) + 1)) + 1)) + 1)))]]), .auto {}, .auto { nk := 5 }, .auto { y := some (.sl 6 0 ((x3.1 ++ ([(x6, x7)] : List (ByteArray × Int))).length)), els := some (List.map enc_si x3.1), els2 := some (List.map enc_si ([(x6, x7)] : List (ByteArray × Int))), nk := 6 }]) [2, 3] [0, 1, 3, 6] (s1 := ⟨[(2, .pt 1 0), (3, .pt 3 0)], [(0, .box [.bs true 1 (List.map enc_y p1), .v (.int .i64 (IntKind.wrap .i64 ((IntKind.wrap .i64 ((IntKind.wrap .i64 ((IntKind.wrap .i64 (x3.2.2 + 1)) + 1)) + 1)) + 1)))]), (1, .box [.v (.slice none 0 0), .v (.int .i64 0)]), (3, .box [.sl 6 0 ((x3.1 ++ ([(x6, x7)] : List (ByteArray × Int))).length), .v (.int .i64 x3.2.1)]), (6, .arr 2 (List.map enc_si x3.1 ++ List.map enc_si ([(x6, x7)] : List (ByteArray × Int))))]⟩) (C := ((([.pt 0 0] : List AV) = [.pt 0 0]) ∧ (AO.box [.bs true 1 (List.map enc_y p1), .v (.int .i64 (IntKind.wrap .i64 (x3.2.2 + 1)))] = AO.box [.bs true 1 (List.map enc_y p1), .v (.int .i64 (IntKind.wrap .i64 (x3.2.2 + 1)))]) ∧ True) ∧ ((([.pt 0 0, .sl 4 0 (([(-1), 4096, 1] : List (Int)).length)] : List AV) = [.pt 0 0, .sl 4 0 (([(-1), 4096, 1] : List (Int)).length)]) ∧ (AO.box [.bs true 1 (List.map enc_y p1), .v (.int .i64 (IntKind.wrap .i64 ((IntKind.wrap .i64 ((IntKind.wrap .i64 (x3.2.2 + 1)) + 1)) + 1)))] = AO.box [.bs true 1 (List.map enc_y p1), .v (.int .i64 (IntKind.wrap .i64 ((IntKind.wrap .i64 ((IntKind.wrap .i64 (x3.2.2 + 1)) + 1)) + 1)))]) ∧ (AO.arr 1 (List.map enc_i ([(-1), 4096, 1] : List (Int))) = AO.arr 1 (List.map enc_i ([(-1), 4096, 1] : List (Int)))) ∧ True) ∧ ((((((List.map enc_si x3.1).drop 0).take (x3.1.length) = List.map enc_si x3.1) ∧ (((List.map enc_si ([(x6, x7)] : List (ByteArray × Int))).drop 0).take (([(x6, x7)] : List (ByteArray × Int)).length) = List.map enc_si ([(x6, x7)] : List (ByteArray × Int)))) ∧ (List.map enc_si x3.1).length + (List.map enc_si ([(x6, x7)] : List (ByteArray × Int))).length ≤ 1099511627776) ∧ (AV.sl 6 0 (List.map enc_si x3.1 ++ List.map enc_si ([(x6, x7)] : List (ByteArray × Int))).length = AV.sl 6 0 (x3.1 ++ ([(x6, x7)] : List (ByteArray × Int))).length)) ∧ True) (by kernel_rfl) ⟨⟨rfl, rfl, trivial⟩, ⟨⟨rfl, rfl, rfl, trivial⟩, ⟨⟨⟨⟨(dt_all (enc := enc_si) rfl rfl), (dt_all (enc := enc_si) rfl rfl)⟩, (by simp only [List.length_map, List.length_nil, List.length_replicate]; simpa using g8)⟩, sl_len (enc := enc_si) (app_can (enc := enc_si) rfl (rfl))⟩, trivial⟩⟩⟩ ⟨call_ok (ks := [0]) (ns := []) (bor := []) (bobjs := []) (s_spec_anyName p1 (IntKind.wrap .i64 (x3.2.2 + 1)) x6 e6) (.cons (.c1 (.c0 (.same _ (by kernel_rfl) (by kernel_rfl)))) (.nil)) (by kernel_rfl) ⟨.inr rfl, trivial⟩, ⟨call_ok (ks := [0]) (ns := []) (bor := [4]) (bobjs := [(4, .arr 1 (List.map enc_i ([(-1), 4096, 1] : List (Int))))]) (s_spec_reader_one ([(-1), 4096, 1] : List (Int)) p1 (IntKind.wrap .i64 ((IntKind.wrap .i64 ((IntKind.wrap .i64 (x3.2.2 + 1)) + 1)) + 1)) x7 e7) (.cons (.c1 (.c0 (.same _ (by kernel_rfl) (by kernel_rfl)))) (.cons (.c1 (.c0 (.arr rfl rfl ((rfl).trans (List.length_map ..).symm)))) (.nil))) (by kernel_rfl) ⟨.inr rfl, trivial⟩, trivial⟩⟩ ?_
      refine AX.seq ?_
      refine AX.reg (its := []) [2] [0, 1, 6] (s1 := ⟨[(2, .pt 1 0)], [(0, .box [.bs true 1 (List.map enc_y p1), .v (.int .i64 (IntKind.wrap .i64 ((IntKind.wrap .i64 ((IntKind.wrap .i64 ((IntKind.wrap .i64 (x3.2.2 + 1)) + 1)) + 1)) + 1)))]), (1, .box [.sl 6 0 ((x3.1 ++ ([(x6, x7)] : List (ByteArray × Int))).length), .v (.int .i64 x3.2.1)]), (6, .arr 2 (List.map enc_si x3.1 ++ List.map enc_si ([(x6, x7)] : List (ByteArray × Int))))]⟩) (C := True) (by kernel_rfl) trivial trivial ?_
      refine AX.ret ?_
      refine fin_wk (Wk.swap 2 6 (Nat.le_of_ble_eq_true (by kernel_rfl)) (Nat.le_of_ble_eq_true (by kernel_rfl)) rfl) ?_
      refine fin_wk (Wk.forget [2] [0, 1, 2] (s' := ⟨[(2, .pt 1 0)], [(0, .box [.bs true 1 (List.map enc_y p1), .v (.int .i64 (IntKind.wrap .i64 ((IntKind.wrap .i64 ((IntKind.wrap .i64 ((IntKind.wrap .i64 (x3.2.2 + 1)) + 1)) + 1)) + 1)))]), (1, .box [.sl 2 0 ((x3.1 ++ ([(x6, x7)] : List (ByteArray × Int))).length), .v (.int .i64 x3.2.1)]), (2, .arr 2 (List.map enc_si x3.1 ++ List.map enc_si ([(x6, x7)] : List (ByteArray × Int))))]⟩) (by kernel_rfl)) ?_
      refine fin_wk (Wk.of_eq (congrArg (fun z => (⟨[(2, .pt 1 0)], [(0, .box [.bs true 1 (List.map enc_y p1), .v (.int .i64 (IntKind.wrap .i64 ((IntKind.wrap .i64 ((IntKind.wrap .i64 ((IntKind.wrap .i64 (x3.2.2 + 1)) + 1)) + 1)) + 1)))]), (1, .box [.sl 2 0 ((x3.1 ++ ([(x6, x7)] : List (ByteArray × Int))).length), .v (.int .i64 x3.2.1)]), (2, .arr 2 (z))]⟩ : S)) (app_can (enc := enc_si) rfl (rfl) : List.map enc_si x3.1 ++ List.map enc_si ([(x6, x7)] : List (ByteArray × Int)) = List.map enc_si (x3.1 ++ ([(x6, x7)] : List (ByteArray × Int)))))) ?_
      have hr := Option.some.inj h
      subst hr
      exact ⟨_, Wk.refl _, .inr rfl, ⟨[2], by kernel_rfl, ⟨rfl, rfl, trivial⟩, [.agg [.sl 2 0 ((x3.1 ++ ([(x6, x7)] : List (ByteArray × Int))).length), .v (.int .i64 x3.2.1)]], by kernel_rfl, by kernel_rfl⟩⟩
    · replace h := cd_f b5 h
      refine AX.condF (decide (x4 = 1)) (by kernel_rfl) b5 ?_
      refine AX.skip ?_
      refine AX.seq ?_
      refine AX.reg (its := []) [2] [0, 1, 2] (s1 := ⟨[(2, .pt 1 0)], [(0, .box [.bs true 1 (List.map enc_y p1), .v (.int .i64 (IntKind.wrap .i64 (x3.2.2 + 1)))]), (1, .box [.sl 2 0 x3.1.length, .v (.int .i64 x3.2.1)]), (2, .arr 2 (List.map enc_si x3.1))]⟩) (C := True) (by kernel_rfl) trivial trivial ?_
      refine AX.ret ?_
      refine fin_wk (Wk.forget [2] [0, 1, 2] (s' := ⟨[(2, .pt 1 0)], [(0, .box [.bs true 1 (List.map enc_y p1), .v (.int .i64 (IntKind.wrap .i64 (x3.2.2 + 1)))]), (1, .box [.sl 2 0 x3.1.length, .v (.int .i64 x3.2.1)]), (2, .arr 2 (List.map enc_si x3.1))]⟩) (by kernel_rfl)) ?_
      have hr := Option.some.inj h
      subst hr
      exact ⟨_, Wk.refl _, .inr rfl, ⟨[2], by kernel_rfl, ⟨rfl, rfl, trivial⟩, [.agg [.sl 2 0 x3.1.length, .v (.int .i64 x3.2.1)]], by kernel_rfl, by kernel_rfl⟩⟩

theorem s_spec_valueAt_L1 (p1 : List (ByteArray × Int)) (p2 : Int) (n : Nat) (g : Int) (out : Int ⊕ Unit) (h : m_spec_valueAt_L1 p1 p2 n g = some out) :
    AX Tryz.prog 20 0 (codeAt [1, 0, 1, 1] (bodyOf Tryz.f115)) ((fun g : Int => (⟨[(0, .bs false 2 (List.map enc_si p1)), (1, .v (.int .i64 p2)), (5, .v (.int .i64 g))], []⟩ : S)) g) (fun ex s => (∃ o : Int, out = Sum.inl o ∧ ex = .ret ∧ s = ⟨[(4, .v (.int .i64 o))], []⟩) ∨ (∃ o : Unit, out = Sum.inr o ∧ ex = .exit 0 ∧ s = ⟨[], []⟩)) := by
  refine AX.wkpost ?_
  refine AX.loop (G := Nat × (Int)) (fun q => (fun g : Int => (⟨[(0, .bs false 2 (List.map enc_si p1)), (1, .v (.int .i64 p2)), (5, .v (.int .i64 g))], []⟩ : S)) q.2) (fun q => m_spec_valueAt_L1 p1 p2 q.1 q.2 = some out) (fun q => q.1) (n, g) h (Wk.refl _) ?_
  clear h
  rintro ⟨fu, v3⟩ h
  cases fu with
  | zero => cases h
  | succ fu =>
    rw [m_spec_valueAt_L1] at h
    refine AX.seq ?_
    refine AX.seq ?_
    refine AX.reg (its := [.auto {}, .auto {}, .auto { y := some (.v (.int .i64 (p1.length : Int))) }]) [0, 1, 5, 9] [] (s1 := ⟨[(0, .bs false 2 (List.map enc_si p1)), (1, .v (.int .i64 p2)), (5, .v (.int .i64 v3)), (9, .v (.bool (decide (v3 < (p1.length : Int)))))], []⟩) (C := (True ∧ (AV.v (.int .i64 ((List.map enc_si p1).length : Int)) = AV.v (.int .i64 (p1.length : Int)))) ∧ True) (by kernel_rfl) ⟨⟨trivial, len_map enc_si p1⟩, trivial⟩ trivial ?_
    rcases bool_cases (decide (v3 < (p1.length : Int))) with b1 | b1
    · replace h := cd_t b1 h
      refine AX.condT (decide (v3 < (p1.length : Int))) (by kernel_rfl) b1 ?_
      refine AX.skip ?_
      refine AX.seq ?_
      refine AX.block ?_
      refine AX.seq ?_
      obtain ⟨g2, h⟩ := gd_e h
      refine AX.reg (its := [.auto {}, .auto {}, .auto { y := some (.be 2 (enc_si (gt p1 v3)) 0) }]) [0, 1, 5, 18] [] (s1 := ⟨[(0, .bs false 2 (List.map enc_si p1)), (1, .v (.int .i64 p2)), (5, .v (.int .i64 v3)), (18, .v (.bool (decide (((gt p1 v3).2) = p2))))], []⟩) (C := ((0 ≤ v3 ∧ v3 < ((List.map enc_si p1).length : Int)) ∧ (AV.be 2 ((List.map enc_si p1).getD v3.toNat []) 0 = AV.be 2 (enc_si (gt p1 v3)) 0)) ∧ True) (by kernel_rfl) ⟨idx_bs enc_si p1 v3 2 g2, trivial⟩ trivial ?_
      rcases bool_cases (decide (((gt p1 v3).2) = p2)) with b3 | b3
      · replace h := cd_t b3 h
        refine AX.condT (decide (((gt p1 v3).2) = p2)) (by kernel_rfl) b3 ?_
        refine AX.seq ?_
        refine AX.reg (its := []) [4] [] (s1 := ⟨[(4, .v (.int .i64 v3))], []⟩) (C := True) (by kernel_rfl) trivial trivial ?_
        refine AX.ret ?_
        refine fin_wk (Wk.forget [4] [] (s' := ⟨[(4, .v (.int .i64 v3))], []⟩) (by kernel_rfl)) ?_
        have hr := Option.some.inj h
        subst hr
        exact ⟨_, Wk.refl _, .inl ⟨v3, rfl, rfl, rfl⟩⟩
      · replace h := cd_f b3 h
        refine AX.condF (decide (((gt p1 v3).2) = p2)) (by kernel_rfl) b3 ?_
        refine AX.skip ?_
        refine AX.reg (its := [.auto {}, .auto { raw := true }]) [0, 1, 5] [] (s1 := ⟨[(0, .bs false 2 (List.map enc_si p1)), (1, .v (.int .i64 p2)), (5, .v (.int .i64 (IntKind.wrap .i64 (v3 + 1))))], []⟩) (C := True) (by kernel_rfl) trivial trivial ?_
        refine ⟨(fu, IntKind.wrap .i64 (v3 + 1)), h, Nat.lt_succ_self _, ?_⟩
        refine Wk.trans (Wk.forget [0, 1, 5] [] (s' := ⟨[(0, .bs false 2 (List.map enc_si p1)), (1, .v (.int .i64 p2)), (5, .v (.int .i64 (IntKind.wrap .i64 (v3 + 1))))], []⟩) (by kernel_rfl)) ?_
        exact Wk.refl _
    · replace h := cd_f b1 h
      refine AX.condF (decide (v3 < (p1.length : Int))) (by kernel_rfl) b1 ?_
      refine AX.exit ?_
      refine fin_wk (Wk.forget [] [] (s' := ⟨[], []⟩) (by kernel_rfl)) ?_
      have hr := Option.some.inj h
      subst hr
      exact ⟨_, Wk.refl _, .inr ⟨(), rfl, rfl, rfl⟩⟩

theorem s_spec_valueAt (p1 : List (ByteArray × Int)) (p2 : Int) (r : Int) (h : m_spec_valueAt p1 p2 = some r) :
    Eng.Spec Tryz.prog 115 [.bs false 2 (List.map enc_si p1), .v (.int .i64 p2)] [] (.v (.int .i64 r)) [] := by
  unfold m_spec_valueAt at h
  refine Eng.Spec.body Tryz.func115 (by kernel_rfl) rfl (by kernel_rfl) ?_
  refine AX.wkpost ?_
  refine AX.seq ?_
  refine AX.reg (its := []) [0, 1] [] (s1 := ⟨[(0, .bs false 2 (List.map enc_si p1)), (1, .v (.int .i64 p2))], []⟩) (C := True) (by kernel_rfl) trivial trivial ?_
  refine AX.seq ?_
  refine AX.seq ?_
  refine AX.reg (its := []) [0, 1, 5] [] (s1 := ⟨[(0, .bs false 2 (List.map enc_si p1)), (1, .v (.int .i64 p2)), (5, .v (.int .i64 0))], []⟩) (C := True) (by kernel_rfl) trivial trivial ?_
  refine AX.block ?_
  obtain ⟨x4, e4, h⟩ := bd_e h
  refine AX.wk (Wk.forget [0, 1, 5] [] (s' := ⟨[(0, .bs false 2 (List.map enc_si p1)), (1, .v (.int .i64 p2)), (5, .v (.int .i64 0))], []⟩) (by kernel_rfl)) ?_
  refine AX.mono (s_spec_valueAt_L1 p1 p2 FU 0 x4 e4) ?_
  rintro _ _ (⟨x5, rfl, rfl, rfl⟩ | ⟨x6, rfl, rfl, rfl⟩)
  · replace h := sm_l h
    refine fin_wk (Wk.forget [4] [] (s' := ⟨[(4, .v (.int .i64 x5))], []⟩) (by kernel_rfl)) ?_
    have hr := Option.some.inj h
    subst hr
    exact ⟨_, Wk.refl _, .inr rfl, ⟨[], by kernel_rfl, trivial, [.v (.int .i64 x5)], by kernel_rfl, by kernel_rfl⟩⟩
  · replace h := sm_r h
    refine AX.seq ?_
    refine AX.reg (its := []) [4] [] (s1 := ⟨[(4, .v (.int .i64 (-1)))], []⟩) (C := True) (by kernel_rfl) trivial trivial ?_
    refine AX.ret ?_
    refine fin_wk (Wk.forget [4] [] (s' := ⟨[(4, .v (.int .i64 (-1)))], []⟩) (by kernel_rfl)) ?_
    have hr := Option.some.inj h
    subst hr
    exact ⟨_, Wk.refl _, .inr rfl, ⟨[], by kernel_rfl, trivial, [.v (.int .i64 (-1))], by kernel_rfl, by kernel_rfl⟩⟩

theorem s_spec_singles_L1 (p1 : List (ByteArray × Int)) (n : Nat) (g : (List (ByteArray × Int)) × Int) (out : List (ByteArray × Int)) (h : m_spec_singles_L1 p1 n g.1 g.2 = some out) :
    AX Tryz.prog 24 0 (codeAt [1, 1, 0, 1, 1] (bodyOf Tryz.f95)) ((fun g : (List (ByteArray × Int)) × Int => (⟨[(0, .bs false 2 (List.map enc_si p1)), (3, .sl 0 0 g.1.length), (4, .v (.int .i64 g.2))], [(0, .arr 2 (List.map enc_si g.1))]⟩ : S)) g) (fun ex s => ex = .exit 0 ∧ s = (fun o : List (ByteArray × Int) => (⟨[(3, .sl 0 0 o.length)], [(0, .arr 2 (List.map enc_si o))]⟩ : S)) out) := by
  refine AX.wkpost ?_
  refine AX.loop (G := Nat × ((List (ByteArray × Int)) × Int)) (fun q => (fun g : (List (ByteArray × Int)) × Int => (⟨[(0, .bs false 2 (List.map enc_si p1)), (3, .sl 0 0 g.1.length), (4, .v (.int .i64 g.2))], [(0, .arr 2 (List.map enc_si g.1))]⟩ : S)) q.2) (fun q => m_spec_singles_L1 p1 q.1 q.2.1 q.2.2 = some out) (fun q => q.1) (n, g) h (Wk.refl _) ?_
  clear h
  rintro ⟨fu, v2, v3⟩ h
  cases fu with
  | zero => cases h
  | succ fu =>
    rw [m_spec_singles_L1] at h
    refine AX.seq ?_
    refine AX.seq ?_
    refine AX.reg (its := []) [0, 3, 4, 8] [0] (s1 := ⟨[(0, .bs false 2 (List.map enc_si p1)), (3, .sl 0 0 v2.length), (4, .v (.int .i64 v3)), (8, .v (.bool (decide (v3 ≤ 4095))))], [(0, .arr 2 (List.map enc_si v2))]⟩) (C := True) (by kernel_rfl) trivial trivial ?_
    rcases bool_cases (decide (v3 ≤ 4095)) with b1 | b1
    · replace h := cd_t b1 h
      refine AX.condT (decide (v3 ≤ 4095)) (by kernel_rfl) b1 ?_
      refine AX.skip ?_
      refine AX.seq ?_
      refine AX.block ?_
      refine AX.seq ?_
      obtain ⟨x4, e2, h⟩ := bd_e h
      refine AX.reg (its := [.auto {}, .auto {}, .call 115 [.bs false 2 (List.map enc_si p1), .v (.int .i64 v3)] (handO (rho ([] ++ [])) [] [] ++ []) (callEv [] [] (.v (.int .i64 x4)) [])]) [0, 3, 4, 5] [0] (s1 := ⟨[(0, .bs false 2 (List.map enc_si p1)), (3, .sl 0 0 v2.length), (4, .v (.int .i64 v3)), (5, .v (.int .i64 x4))], [(0, .arr 2 (List.map enc_si v2))]⟩) (C := ((([.bs false 2 (List.map enc_si p1), .v (.int .i64 v3)] : List AV) = [.bs false 2 (List.map enc_si p1), .v (.int .i64 v3)]) ∧ True) ∧ True) (by kernel_rfl) ⟨⟨rfl, trivial⟩, trivial⟩ ⟨call_ok (ks := []) (ns := []) (bor := []) (bobjs := []) (s_spec_valueAt p1 v3 x4 e2) (.cons (.c1 (.c0 (.same _ (by kernel_rfl) (by kernel_rfl)))) (.cons (.c1 (.c0 (.same _ (by kernel_rfl) (by kernel_rfl)))) (.nil))) (by kernel_rfl) trivial, trivial⟩ ?_
      refine AX.seq ?_
      refine AX.reg (its := []) [0, 3, 4, 5, 15] [0] (s1 := ⟨[(0, .bs false 2 (List.map enc_si p1)), (3, .sl 0 0 v2.length), (4, .v (.int .i64 v3)), (5, .v (.int .i64 x4)), (15, .v (.bool (decide (0 ≤ x4))))], [(0, .arr 2 (List.map enc_si v2))]⟩) (C := True) (by kernel_rfl) trivial trivial ?_
      rcases bool_cases (decide (0 ≤ x4)) with b3 | b3
      · replace h := cd_t b3 h
        refine AX.condT (decide (0 ≤ x4)) (by kernel_rfl) b3 ?_
        obtain ⟨g4, h⟩ := gd_e h
        obtain ⟨g5, h⟩ := gd_e h
        refine AX.reg (its := [.auto {}, .auto {}, .auto {}, .auto { y := some (.be 2 (enc_si (gt p1 x4)) 0) }, .auto {}, .auto { nk := 1 }, .auto { y := some (.sl 2 0 ((v2 ++ ([((gt p1 x4).1, (gt p1 x4).2)] : List (ByteArray × Int))).length)), els := some (List.map enc_si v2), els2 := some (List.map enc_si ([((gt p1 x4).1, (gt p1 x4).2)] : List (ByteArray × Int))), nk := 2 }]) [0, 3, 4] [2] (s1 := ⟨[(0, .bs false 2 (List.map enc_si p1)), (3, .sl 2 0 ((v2 ++ ([((gt p1 x4).1, (gt p1 x4).2)] : List (ByteArray × Int))).length)), (4, .v (.int .i64 v3))], [(2, .arr 2 (List.map enc_si v2 ++ List.map enc_si ([((gt p1 x4).1, (gt p1 x4).2)] : List (ByteArray × Int))))]⟩) (C := ((0 ≤ x4 ∧ x4 < ((List.map enc_si p1).length : Int)) ∧ (AV.be 2 ((List.map enc_si p1).getD x4.toNat []) 0 = AV.be 2 (enc_si (gt p1 x4)) 0)) ∧ ((((((List.map enc_si v2).drop 0).take (v2.length) = List.map enc_si v2) ∧ (((List.map enc_si ([((gt p1 x4).1, (gt p1 x4).2)] : List (ByteArray × Int))).drop 0).take (([((gt p1 x4).1, (gt p1 x4).2)] : List (ByteArray × Int)).length) = List.map enc_si ([((gt p1 x4).1, (gt p1 x4).2)] : List (ByteArray × Int)))) ∧ (List.map enc_si v2).length + (List.map enc_si ([((gt p1 x4).1, (gt p1 x4).2)] : List (ByteArray × Int))).length ≤ 1099511627776) ∧ (AV.sl 2 0 (List.map enc_si v2 ++ List.map enc_si ([((gt p1 x4).1, (gt p1 x4).2)] : List (ByteArray × Int))).length = AV.sl 2 0 (v2 ++ ([((gt p1 x4).1, (gt p1 x4).2)] : List (ByteArray × Int))).length)) ∧ True) (by kernel_rfl) ⟨idx_bs enc_si p1 x4 2 g4, ⟨⟨⟨⟨(dt_all (enc := enc_si) rfl rfl), (dt_all (enc := enc_si) rfl rfl)⟩, (by simp only [List.length_map, List.length_nil, List.length_replicate]; simpa using g5)⟩, sl_len (enc := enc_si) (app_can (enc := enc_si) rfl (rfl))⟩, trivial⟩⟩ trivial ?_
        refine AX.reg (its := [.auto {}, .auto { raw := true }]) [0, 3, 4] [2] (s1 := ⟨[(0, .bs false 2 (List.map enc_si p1)), (3, .sl 2 0 ((v2 ++ ([((gt p1 x4).1, (gt p1 x4).2)] : List (ByteArray × Int))).length)), (4, .v (.int .i64 (IntKind.wrap .i64 (v3 * 2))))], [(2, .arr 2 (List.map enc_si v2 ++ List.map enc_si ([((gt p1 x4).1, (gt p1 x4).2)] : List (ByteArray × Int))))]⟩) (C := True) (by kernel_rfl) trivial trivial ?_
        refine ⟨(fu, (v2 ++ ([((gt p1 x4).1, (gt p1 x4).2)] : List (ByteArray × Int)), IntKind.wrap .i64 (v3 * 2))), h, Nat.lt_succ_self _, ?_⟩
        refine Wk.trans (Wk.swap 0 2 (Nat.le_of_ble_eq_true (by kernel_rfl)) (Nat.le_of_ble_eq_true (by kernel_rfl)) rfl) ?_
        refine Wk.trans (Wk.forget [0, 3, 4] [0] (s' := ⟨[(0, .bs false 2 (List.map enc_si p1)), (3, .sl 0 0 ((v2 ++ ([((gt p1 x4).1, (gt p1 x4).2)] : List (ByteArray × Int))).length)), (4, .v (.int .i64 (IntKind.wrap .i64 (v3 * 2))))], [(0, .arr 2 (List.map enc_si v2 ++ List.map enc_si ([((gt p1 x4).1, (gt p1 x4).2)] : List (ByteArray × Int))))]⟩) (by kernel_rfl)) ?_
        refine Wk.trans (Wk.of_eq (congrArg (fun z => (⟨[(0, .bs false 2 (List.map enc_si p1)), (3, .sl 0 0 ((v2 ++ ([((gt p1 x4).1, (gt p1 x4).2)] : List (ByteArray × Int))).length)), (4, .v (.int .i64 (IntKind.wrap .i64 (v3 * 2))))], [(0, .arr 2 (z))]⟩ : S)) (app_can (enc := enc_si) rfl (rfl) : List.map enc_si v2 ++ List.map enc_si ([((gt p1 x4).1, (gt p1 x4).2)] : List (ByteArray × Int)) = List.map enc_si (v2 ++ ([((gt p1 x4).1, (gt p1 x4).2)] : List (ByteArray × Int)))))) ?_
        exact Wk.refl _
      · replace h := cd_f b3 h
        refine AX.condF (decide (0 ≤ x4)) (by kernel_rfl) b3 ?_
        refine AX.skip ?_
        refine AX.reg (its := [.auto {}, .auto { raw := true }]) [0, 3, 4] [0] (s1 := ⟨[(0, .bs false 2 (List.map enc_si p1)), (3, .sl 0 0 v2.length), (4, .v (.int .i64 (IntKind.wrap .i64 (v3 * 2))))], [(0, .arr 2 (List.map enc_si v2))]⟩) (C := True) (by kernel_rfl) trivial trivial ?_
        refine ⟨(fu, (v2, IntKind.wrap .i64 (v3 * 2))), h, Nat.lt_succ_self _, ?_⟩
        refine Wk.trans (Wk.forget [0, 3, 4] [0] (s' := ⟨[(0, .bs false 2 (List.map enc_si p1)), (3, .sl 0 0 v2.length), (4, .v (.int .i64 (IntKind.wrap .i64 (v3 * 2))))], [(0, .arr 2 (List.map enc_si v2))]⟩) (by kernel_rfl)) ?_
        exact Wk.refl _
    · replace h := cd_f b1 h
      refine AX.condF (decide (v3 ≤ 4095)) (by kernel_rfl) b1 ?_
      refine AX.exit ?_
      refine fin_wk (Wk.forget [3] [0] (s' := ⟨[(3, .sl 0 0 v2.length)], [(0, .arr 2 (List.map enc_si v2))]⟩) (by kernel_rfl)) ?_
      have hr := Option.some.inj h
      subst hr
      exact ⟨_, Wk.refl _, ⟨rfl, rfl⟩⟩

theorem s_spec_singles (p1 : List (ByteArray × Int)) (r : List (ByteArray × Int)) (h : m_spec_singles p1 = some r) :
    Eng.Spec Tryz.prog 95 [.bs false 2 (List.map enc_si p1)] [] (.sl 0 0 r.length) [.arr 2 (List.map enc_si r)] := by
  unfold m_spec_singles at h
  refine Eng.Spec.body Tryz.func95 (by kernel_rfl) rfl (by kernel_rfl) ?_
  refine AX.wkpost ?_
  refine AX.seq ?_
  refine AX.reg (its := []) [0] [] (s1 := ⟨[(0, .bs false 2 (List.map enc_si p1))], []⟩) (C := True) (by kernel_rfl) trivial trivial ?_
  refine AX.seq ?_
  refine AX.reg (its := [.auto { nk := 0 }]) [0, 3] [0] (s1 := ⟨[(0, .bs false 2 (List.map enc_si p1)), (3, .sl 0 0 (([] : List (ByteArray × Int)).length))], [(0, .arr 2 (List.map enc_si ([] : List (ByteArray × Int))))]⟩) (C := True) (by kernel_rfl) trivial trivial ?_
  refine AX.seq ?_
  refine AX.seq ?_
  refine AX.reg (its := []) [0, 3, 4] [0] (s1 := ⟨[(0, .bs false 2 (List.map enc_si p1)), (3, .sl 0 0 (([] : List (ByteArray × Int)).length)), (4, .v (.int .i64 1))], [(0, .arr 2 (List.map enc_si ([] : List (ByteArray × Int))))]⟩) (C := True) (by kernel_rfl) trivial trivial ?_
  refine AX.block ?_
  obtain ⟨x5, e6, h⟩ := bd_e h
  refine AX.wk (Wk.forget [0, 3, 4] [0] (s' := ⟨[(0, .bs false 2 (List.map enc_si p1)), (3, .sl 0 0 (([] : List (ByteArray × Int)).length)), (4, .v (.int .i64 1))], [(0, .arr 2 (List.map enc_si ([] : List (ByteArray × Int))))]⟩) (by kernel_rfl)) ?_
  refine AX.mono (s_spec_singles_L1 p1 FU (([] : List (ByteArray × Int)), 1) x5 e6) ?_
  rintro _ _ ⟨rfl, rfl⟩
  skip
  refine AX.seq ?_
  refine AX.reg (its := []) [2] [0] (s1 := ⟨[(2, .sl 0 0 x5.length)], [(0, .arr 2 (List.map enc_si x5))]⟩) (C := True) (by kernel_rfl) trivial trivial ?_
  refine AX.ret ?_
  refine fin_wk (Wk.forget [2] [0] (s' := ⟨[(2, .sl 0 0 x5.length)], [(0, .arr 2 (List.map enc_si x5))]⟩) (by kernel_rfl)) ?_
  have hr := Option.some.inj h
  subst hr
  exact ⟨_, Wk.refl _, .inr rfl, ⟨[0], by kernel_rfl, ⟨rfl, trivial⟩, [.sl 0 0 x5.length], by kernel_rfl, by kernel_rfl⟩⟩

theorem s_spec_anArm_L1 (p3 : List (Int)) (x5 : List (ByteArray × Int)) (n : Nat) (g : Int × Int × Int × Int) (out : Int × Int × Int) (h : m_spec_anArm_L1 p3 x5 n g.1 g.2.1 g.2.2.1 g.2.2.2 = some out) :
    AX Tryz.prog 43 1 (codeAt [1, 1, 1, 0, 1, 1] (bodyOf Tryz.f116)) ((fun g : Int × Int × Int × Int => (⟨[(0, .pt 0 0), (4, .pt 1 0), (5, .pt 2 0), (6, .sl 3 0 x5.length), (7, .v (.int .i64 g.2.2.1))], [(0, .box [.bs true 1 (List.map enc_y p3), .v (.int .i64 g.2.2.2)]), (1, .box [.v (.int .i64 0), .v (.int .i64 0)]), (2, .box [.v (.int .i64 g.1), .v (.int .i64 g.2.1)]), (3, .arr 2 (List.map enc_si x5))]⟩ : S)) g) (fun ex s => ex = .exit 0 ∧ s = (fun o : Int × Int × Int => (⟨[(4, .pt 1 0), (5, .pt 2 0)], [(0, .box [.bs true 1 (List.map enc_y p3), .v (.int .i64 o.2.2)]), (1, .box [.v (.int .i64 0), .v (.int .i64 0)]), (2, .box [.v (.int .i64 o.1), .v (.int .i64 o.2.1)])]⟩ : S)) out) := by
  refine AX.wkpost ?_
  refine AX.loop (G := Nat × (Int × Int × Int × Int)) (fun q => (fun g : Int × Int × Int × Int => (⟨[(0, .pt 0 0), (4, .pt 1 0), (5, .pt 2 0), (6, .sl 3 0 x5.length), (7, .v (.int .i64 g.2.2.1))], [(0, .box [.bs true 1 (List.map enc_y p3), .v (.int .i64 g.2.2.2)]), (1, .box [.v (.int .i64 0), .v (.int .i64 0)]), (2, .box [.v (.int .i64 g.1), .v (.int .i64 g.2.1)]), (3, .arr 2 (List.map enc_si x5))]⟩ : S)) q.2) (fun q => m_spec_anArm_L1 p3 x5 q.1 q.2.1 q.2.2.1 q.2.2.2.1 q.2.2.2.2 = some out) (fun q => q.1) (n, g) h (Wk.refl _) ?_
  clear h
  rintro ⟨fu, v6, v7, v8, v9⟩ h
  cases fu with
  | zero => cases h
  | succ fu =>
    rw [m_spec_anArm_L1] at h
    refine AX.seq ?_
    refine AX.seq ?_
    refine AX.reg (its := []) [0, 4, 5, 6, 7, 15] [0, 1, 2, 3] (s1 := ⟨[(0, .pt 0 0), (4, .pt 1 0), (5, .pt 2 0), (6, .sl 3 0 x5.length), (7, .v (.int .i64 v8)), (15, .v (.bool (decide (v8 < (x5.length : Int)))))], [(0, .box [.bs true 1 (List.map enc_y p3), .v (.int .i64 v9)]), (1, .box [.v (.int .i64 0), .v (.int .i64 0)]), (2, .box [.v (.int .i64 v6), .v (.int .i64 v7)]), (3, .arr 2 (List.map enc_si x5))]⟩) (C := True) (by kernel_rfl) trivial trivial ?_
    rcases bool_cases (decide (v8 < (x5.length : Int))) with b2 | b2
    · replace h := cd_t b2 h
      refine AX.condT (decide (v8 < (x5.length : Int))) (by kernel_rfl) b2 ?_
      refine AX.skip ?_
      refine AX.seq ?_
      refine AX.block ?_
      refine AX.seq ?_
      obtain ⟨x10, e3, h⟩ := bd_e h
      refine AX.reg (its := [.auto {}, .call 27 [.pt 0 0, .v (.int .i64 4)] (handO (rho ([0] ++ [])) [0] [.box [.bs true 1 (List.map enc_y p3), .v (.int .i64 v9)]] ++ []) (callEv [0] [] (.v (.int .i64 x10)) [.box [.bs true 1 (List.map enc_y p3), .v (.int .i64 (IntKind.wrap .i64 (v9 + 1)))]])]) [0, 4, 5, 6, 7, 19] [0, 1, 2, 3] (s1 := ⟨[(0, .pt 0 0), (4, .pt 1 0), (5, .pt 2 0), (6, .sl 3 0 x5.length), (7, .v (.int .i64 v8)), (19, .v (.int .i64 x10))], [(0, .box [.bs true 1 (List.map enc_y p3), .v (.int .i64 (IntKind.wrap .i64 (v9 + 1)))]), (1, .box [.v (.int .i64 0), .v (.int .i64 0)]), (2, .box [.v (.int .i64 v6), .v (.int .i64 v7)]), (3, .arr 2 (List.map enc_si x5))]⟩) (C := ((([.pt 0 0, .v (.int .i64 4)] : List AV) = [.pt 0 0, .v (.int .i64 4)]) ∧ (AO.box [.bs true 1 (List.map enc_y p3), .v (.int .i64 v9)] = AO.box [.bs true 1 (List.map enc_y p3), .v (.int .i64 v9)]) ∧ True) ∧ True) (by kernel_rfl) ⟨⟨rfl, rfl, trivial⟩, trivial⟩ ⟨call_ok (ks := [0]) (ns := []) (bor := []) (bobjs := []) (s_spec_reader_pick 4 p3 v9 x10 e3) (.cons (.c1 (.c0 (.same _ (by kernel_rfl) (by kernel_rfl)))) (.cons (.c1 (.c0 (.same _ (by kernel_rfl) (by kernel_rfl)))) (.nil))) (by kernel_rfl) ⟨.inr rfl, trivial⟩, trivial⟩ ?_
      refine AX.block ?_
      refine AX.seq ?_
      refine AX.reg (its := []) [0, 4, 5, 6, 7, 19, 20] [0, 1, 2, 3] (s1 := ⟨[(0, .pt 0 0), (4, .pt 1 0), (5, .pt 2 0), (6, .sl 3 0 x5.length), (7, .v (.int .i64 v8)), (19, .v (.int .i64 x10)), (20, .v (.bool (decide (x10 = 0))))], [(0, .box [.bs true 1 (List.map enc_y p3), .v (.int .i64 (IntKind.wrap .i64 (v9 + 1)))]), (1, .box [.v (.int .i64 0), .v (.int .i64 0)]), (2, .box [.v (.int .i64 v6), .v (.int .i64 v7)]), (3, .arr 2 (List.map enc_si x5))]⟩) (C := True) (by kernel_rfl) trivial trivial ?_
      rcases bool_cases (decide (x10 = 0)) with b4 | b4
      · replace h := cd_t b4 h
        refine AX.condT (decide (x10 = 0)) (by kernel_rfl) b4 ?_
        obtain ⟨g5, h⟩ := gd_e h
        refine AX.drw mixed (its := [.auto {}, .auto {}, .auto {}, .auto {}, .auto {}, .auto {}, .auto { y := some (.v (.int .i64 ((gt x5 v8).2))) }, .auto { raw := true }]) [0, 4, 5, 6, 7] [0, 1, 2, 3] (s1 := ⟨[(0, .pt 0 0), (4, .pt 1 0), (5, .pt 2 0), (6, .sl 3 0 x5.length), (7, .v (.int .i64 v8))], [(0, .box [.bs true 1 (List.map enc_y p3), .v (.int .i64 (IntKind.wrap .i64 (v9 + 1)))]), (1, .box [.v (.int .i64 0), .v (.int .i64 0)]), (2, .box [.v (.int .i64 (IntKind.wrap .i64 (v6 + ((gt x5 v8).2)))), .v (.int .i64 v7)]), (3, .arr 2 (List.map enc_si x5))]⟩) (C := (0 ≤ v8 ∧ v8 < (x5.length : Int)) ∧ (True ∧ (AV.v (((List.map enc_si x5).getD (0 + v8.toNat) []).getD 1 undef) = .v (.int .i64 ((gt x5 v8).2)))) ∧ True) (by kernel_rfl) ⟨g5, ⟨⟨trivial, (congrArg (fun z : List Value => AV.v (z.getD 1 undef)) (idx_arr (enc := enc_si) rfl g5))⟩, trivial⟩⟩ trivial ?_
        refine AX.reg (its := [.auto {}, .auto { raw := true }]) [0, 4, 5, 6, 7] [0, 1, 2, 3] (s1 := ⟨[(0, .pt 0 0), (4, .pt 1 0), (5, .pt 2 0), (6, .sl 3 0 x5.length), (7, .v (.int .i64 (IntKind.wrap .i64 (v8 + 1))))], [(0, .box [.bs true 1 (List.map enc_y p3), .v (.int .i64 (IntKind.wrap .i64 (v9 + 1)))]), (1, .box [.v (.int .i64 0), .v (.int .i64 0)]), (2, .box [.v (.int .i64 (IntKind.wrap .i64 (v6 + ((gt x5 v8).2)))), .v (.int .i64 v7)]), (3, .arr 2 (List.map enc_si x5))]⟩) (C := True) (by kernel_rfl) trivial trivial ?_
        refine ⟨(fu, (IntKind.wrap .i64 (v6 + ((gt x5 v8).2)), v7, IntKind.wrap .i64 (v8 + 1), IntKind.wrap .i64 (v9 + 1))), h, Nat.lt_succ_self _, ?_⟩
        refine Wk.trans (Wk.forget [0, 4, 5, 6, 7] [0, 1, 2, 3] (s' := ⟨[(0, .pt 0 0), (4, .pt 1 0), (5, .pt 2 0), (6, .sl 3 0 x5.length), (7, .v (.int .i64 (IntKind.wrap .i64 (v8 + 1))))], [(0, .box [.bs true 1 (List.map enc_y p3), .v (.int .i64 (IntKind.wrap .i64 (v9 + 1)))]), (1, .box [.v (.int .i64 0), .v (.int .i64 0)]), (2, .box [.v (.int .i64 (IntKind.wrap .i64 (v6 + ((gt x5 v8).2)))), .v (.int .i64 v7)]), (3, .arr 2 (List.map enc_si x5))]⟩) (by kernel_rfl)) ?_
        exact Wk.refl _
      · replace h := cd_f b4 h
        refine AX.condF (decide (x10 = 0)) (by kernel_rfl) b4 ?_
        refine AX.seq ?_
        refine AX.reg (its := []) [0, 4, 5, 6, 7, 31] [0, 1, 2, 3] (s1 := ⟨[(0, .pt 0 0), (4, .pt 1 0), (5, .pt 2 0), (6, .sl 3 0 x5.length), (7, .v (.int .i64 v8)), (31, .v (.bool (decide (x10 = 1))))], [(0, .box [.bs true 1 (List.map enc_y p3), .v (.int .i64 (IntKind.wrap .i64 (v9 + 1)))]), (1, .box [.v (.int .i64 0), .v (.int .i64 0)]), (2, .box [.v (.int .i64 v6), .v (.int .i64 v7)]), (3, .arr 2 (List.map enc_si x5))]⟩) (C := True) (by kernel_rfl) trivial trivial ?_
        rcases bool_cases (decide (x10 = 1)) with b6 | b6
        · replace h := cd_t b6 h
          refine AX.condT (decide (x10 = 1)) (by kernel_rfl) b6 ?_
          obtain ⟨g7, h⟩ := gd_e h
          refine AX.drw mixed (its := [.auto {}, .auto {}, .auto {}, .auto {}, .auto {}, .auto {}, .auto { y := some (.v (.int .i64 ((gt x5 v8).2))) }, .auto { raw := true }]) [0, 4, 5, 6, 7] [0, 1, 2, 3] (s1 := ⟨[(0, .pt 0 0), (4, .pt 1 0), (5, .pt 2 0), (6, .sl 3 0 x5.length), (7, .v (.int .i64 v8))], [(0, .box [.bs true 1 (List.map enc_y p3), .v (.int .i64 (IntKind.wrap .i64 (v9 + 1)))]), (1, .box [.v (.int .i64 0), .v (.int .i64 0)]), (2, .box [.v (.int .i64 v6), .v (.int .i64 (IntKind.wrap .i64 (v7 + ((gt x5 v8).2))))]), (3, .arr 2 (List.map enc_si x5))]⟩) (C := (0 ≤ v8 ∧ v8 < (x5.length : Int)) ∧ (True ∧ (AV.v (((List.map enc_si x5).getD (0 + v8.toNat) []).getD 1 undef) = .v (.int .i64 ((gt x5 v8).2)))) ∧ True) (by kernel_rfl) ⟨g7, ⟨⟨trivial, (congrArg (fun z : List Value => AV.v (z.getD 1 undef)) (idx_arr (enc := enc_si) rfl g7))⟩, trivial⟩⟩ trivial ?_
          refine AX.reg (its := [.auto {}, .auto { raw := true }]) [0, 4, 5, 6, 7] [0, 1, 2, 3] (s1 := ⟨[(0, .pt 0 0), (4, .pt 1 0), (5, .pt 2 0), (6, .sl 3 0 x5.length), (7, .v (.int .i64 (IntKind.wrap .i64 (v8 + 1))))], [(0, .box [.bs true 1 (List.map enc_y p3), .v (.int .i64 (IntKind.wrap .i64 (v9 + 1)))]), (1, .box [.v (.int .i64 0), .v (.int .i64 0)]), (2, .box [.v (.int .i64 v6), .v (.int .i64 (IntKind.wrap .i64 (v7 + ((gt x5 v8).2))))]), (3, .arr 2 (List.map enc_si x5))]⟩) (C := True) (by kernel_rfl) trivial trivial ?_
          refine ⟨(fu, (v6, IntKind.wrap .i64 (v7 + ((gt x5 v8).2)), IntKind.wrap .i64 (v8 + 1), IntKind.wrap .i64 (v9 + 1))), h, Nat.lt_succ_self _, ?_⟩
          refine Wk.trans (Wk.forget [0, 4, 5, 6, 7] [0, 1, 2, 3] (s' := ⟨[(0, .pt 0 0), (4, .pt 1 0), (5, .pt 2 0), (6, .sl 3 0 x5.length), (7, .v (.int .i64 (IntKind.wrap .i64 (v8 + 1))))], [(0, .box [.bs true 1 (List.map enc_y p3), .v (.int .i64 (IntKind.wrap .i64 (v9 + 1)))]), (1, .box [.v (.int .i64 0), .v (.int .i64 0)]), (2, .box [.v (.int .i64 v6), .v (.int .i64 (IntKind.wrap .i64 (v7 + ((gt x5 v8).2))))]), (3, .arr 2 (List.map enc_si x5))]⟩) (by kernel_rfl)) ?_
          exact Wk.refl _
        · replace h := cd_f b6 h
          refine AX.condF (decide (x10 = 1)) (by kernel_rfl) b6 ?_
          refine AX.skip ?_
          refine AX.reg (its := [.auto {}, .auto { raw := true }]) [0, 4, 5, 6, 7] [0, 1, 2, 3] (s1 := ⟨[(0, .pt 0 0), (4, .pt 1 0), (5, .pt 2 0), (6, .sl 3 0 x5.length), (7, .v (.int .i64 (IntKind.wrap .i64 (v8 + 1))))], [(0, .box [.bs true 1 (List.map enc_y p3), .v (.int .i64 (IntKind.wrap .i64 (v9 + 1)))]), (1, .box [.v (.int .i64 0), .v (.int .i64 0)]), (2, .box [.v (.int .i64 v6), .v (.int .i64 v7)]), (3, .arr 2 (List.map enc_si x5))]⟩) (C := True) (by kernel_rfl) trivial trivial ?_
          refine ⟨(fu, (v6, v7, IntKind.wrap .i64 (v8 + 1), IntKind.wrap .i64 (v9 + 1))), h, Nat.lt_succ_self _, ?_⟩
          refine Wk.trans (Wk.forget [0, 4, 5, 6, 7] [0, 1, 2, 3] (s' := ⟨[(0, .pt 0 0), (4, .pt 1 0), (5, .pt 2 0), (6, .sl 3 0 x5.length), (7, .v (.int .i64 (IntKind.wrap .i64 (v8 + 1))))], [(0, .box [.bs true 1 (List.map enc_y p3), .v (.int .i64 (IntKind.wrap .i64 (v9 + 1)))]), (1, .box [.v (.int .i64 0), .v (.int .i64 0)]), (2, .box [.v (.int .i64 v6), .v (.int .i64 v7)]), (3, .arr 2 (List.map enc_si x5))]⟩) (by kernel_rfl)) ?_
          exact Wk.refl _
    · replace h := cd_f b2 h
      refine AX.condF (decide (v8 < (x5.length : Int))) (by kernel_rfl) b2 ?_
      refine AX.exit ?_
      refine fin_wk (Wk.forget [4, 5] [0, 1, 2] (s' := ⟨[(4, .pt 1 0), (5, .pt 2 0)], [(0, .box [.bs true 1 (List.map enc_y p3), .v (.int .i64 v9)]), (1, .box [.v (.int .i64 0), .v (.int .i64 0)]), (2, .box [.v (.int .i64 v6), .v (.int .i64 v7)])]⟩) (by kernel_rfl)) ?_
      have hr := Option.some.inj h
      subst hr
      exact ⟨_, Wk.refl _, ⟨rfl, rfl⟩⟩

theorem s_spec_anArm (p1 : List (ByteArray × Int)) (p2 : Int) (p3 : List (Int)) (p4 : Int) (r : Int × Int × Int) (h : m_spec_anArm p1 p2 p3 p4 = some r) :
    Eng.Spec Tryz.prog 116 [.pt 0 0, .agg [.bs false 2 (List.map enc_si p1), .v (.int .i64 p2)]] [.box [.bs true 1 (List.map enc_y p3), .v (.int .i64 p4)]] (.agg [.v (.int .i64 r.1), .v (.int .i64 r.2.1)]) [.box [.bs true 1 (List.map enc_y p3), .v (.int .i64 r.2.2)]] := by
  unfold m_spec_anArm at h
  refine Eng.Spec.body Tryz.func116 (by kernel_rfl) rfl (by kernel_rfl) ?_
  refine AX.wkpost ?_
  refine AX.seq ?_
  refine AX.reg (its := [.auto { nk := 1 }, .auto { nk := 2 }]) [0, 3, 4] [0, 1, 2] (s1 := ⟨[(0, .pt 0 0), (3, .pt 1 0), (4, .pt 2 0)], [(0, .box [.bs true 1 (List.map enc_y p3), .v (.int .i64 p4)]), (1, .box [.bs false 2 (List.map enc_si p1), .v (.int .i64 p2)]), (2, .box [.v (.int .i64 0), .v (.int .i64 0)])]⟩) (C := True) (by kernel_rfl) trivial trivial ?_
  refine AX.seq ?_
  refine AX.reg (its := [.auto {}, .auto { nk := 3 }]) [0, 3, 4, 5] [0, 1, 2, 3] (s1 := ⟨[(0, .pt 0 0), (3, .pt 1 0), (4, .pt 2 0), (5, .pt 3 0)], [(0, .box [.bs true 1 (List.map enc_y p3), .v (.int .i64 p4)]), (1, .box [.bs false 2 (List.map enc_si p1), .v (.int .i64 p2)]), (2, .box [.v (.int .i64 0), .v (.int .i64 0)]), (3, .box [.v (.int .i64 0), .v (.int .i64 0)])]⟩) (C := True) (by kernel_rfl) trivial trivial ?_
  refine AX.seq ?_
  obtain ⟨x5, e1, h⟩ := bd_e h
  refine AX.reg (its := [.auto {}, .auto {}, .call 95 [.bs false 2 (List.map enc_si p1)] (handO (rho ([] ++ [4])) [] [] ++ []) (callEv [] [4] (.sl 0 0 x5.length) [.arr 2 (List.map enc_si x5)])]) [0, 4, 5, 6] [0, 2, 3, 4] (s1 := ⟨[(0, .pt 0 0), (4, .pt 2 0), (5, .pt 3 0), (6, .sl 4 0 x5.length)], [(0, .box [.bs true 1 (List.map enc_y p3), .v (.int .i64 p4)]), (2, .box [.v (.int .i64 0), .v (.int .i64 0)]), (3, .box [.v (.int .i64 0), .v (.int .i64 0)]), (4, .arr 2 (List.map enc_si x5))]⟩) (C := ((([.bs false 2 (List.map enc_si p1)] : List AV) = [.bs false 2 (List.map enc_si p1)]) ∧ True) ∧ True) (by kernel_rfl) ⟨⟨rfl, trivial⟩, trivial⟩ ⟨call_ok (ks := []) (ns := [4]) (bor := []) (bobjs := []) (s_spec_singles p1 x5 e1) (.cons (.c1 (.c0 (.same _ (by kernel_rfl) (by kernel_rfl)))) (.nil)) (by kernel_rfl) trivial, trivial⟩ ?_
  refine AX.seq ?_
  refine AX.seq ?_
  refine AX.reg (its := []) [0, 4, 5, 6, 7] [0, 2, 3, 4] (s1 := ⟨[(0, .pt 0 0), (4, .pt 2 0), (5, .pt 3 0), (6, .sl 4 0 x5.length), (7, .v (.int .i64 0))], [(0, .box [.bs true 1 (List.map enc_y p3), .v (.int .i64 p4)]), (2, .box [.v (.int .i64 0), .v (.int .i64 0)]), (3, .box [.v (.int .i64 0), .v (.int .i64 0)]), (4, .arr 2 (List.map enc_si x5))]⟩) (C := True) (by kernel_rfl) trivial trivial ?_
  refine AX.block ?_
  obtain ⟨x11, e8, h⟩ := bd_e h
  refine AX.wk (Wk.swap 1 2 (Nat.le_of_ble_eq_true (by kernel_rfl)) (Nat.le_of_ble_eq_true (by kernel_rfl)) rfl) ?_
  refine AX.wk (Wk.swap 2 3 (Nat.le_of_ble_eq_true (by kernel_rfl)) (Nat.le_of_ble_eq_true (by kernel_rfl)) rfl) ?_
  refine AX.wk (Wk.swap 3 4 (Nat.le_of_ble_eq_true (by kernel_rfl)) (Nat.le_of_ble_eq_true (by kernel_rfl)) rfl) ?_
  refine AX.wk (Wk.forget [0, 4, 5, 6, 7] [0, 1, 2, 3] (s' := ⟨[(0, .pt 0 0), (4, .pt 1 0), (5, .pt 2 0), (6, .sl 3 0 x5.length), (7, .v (.int .i64 0))], [(0, .box [.bs true 1 (List.map enc_y p3), .v (.int .i64 p4)]), (1, .box [.v (.int .i64 0), .v (.int .i64 0)]), (2, .box [.v (.int .i64 0), .v (.int .i64 0)]), (3, .arr 2 (List.map enc_si x5))]⟩) (by kernel_rfl)) ?_
  refine AX.mono (s_spec_anArm_L1 p3 x5 FU (0, 0, 0, p4) x11 e8) ?_
  rintro _ _ ⟨rfl, rfl⟩
  skip
  refine AX.seq ?_
  refine AX.reg (its := []) [4] [0, 1] (s1 := ⟨[(4, .pt 1 0)], [(0, .box [.bs true 1 (List.map enc_y p3), .v (.int .i64 x11.2.2)]), (1, .box [.v (.int .i64 x11.1), .v (.int .i64 x11.2.1)])]⟩) (C := True) (by kernel_rfl) trivial trivial ?_
  refine AX.ret ?_
  refine fin_wk (Wk.forget [4] [0, 1] (s' := ⟨[(4, .pt 1 0)], [(0, .box [.bs true 1 (List.map enc_y p3), .v (.int .i64 x11.2.2)]), (1, .box [.v (.int .i64 x11.1), .v (.int .i64 x11.2.1)])]⟩) (by kernel_rfl)) ?_
  have hr := Option.some.inj h
  subst hr
  exact ⟨_, Wk.refl _, .inr rfl, ⟨[], by kernel_rfl, ⟨rfl, trivial⟩, [.agg [.v (.int .i64 x11.1), .v (.int .i64 x11.2.1)]], by kernel_rfl, by kernel_rfl⟩⟩

theorem s_spec_someArm (p1 : List (ByteArray × Int)) (p2 : Int) (p3 : List (Int)) (p4 : Int) (r : Int × Int × Int) (h : m_spec_someArm p1 p2 p3 p4 = some r) :
    Eng.Spec Tryz.prog 86 [.pt 0 0, .agg [.bs false 2 (List.map enc_si p1), .v (.int .i64 p2)]] [.box [.bs true 1 (List.map enc_y p3), .v (.int .i64 p4)]] (.agg [.v (.int .i64 r.1), .v (.int .i64 r.2.1)]) [.box [.bs true 1 (List.map enc_y p3), .v (.int .i64 r.2.2)]] := by
  unfold m_spec_someArm at h
  refine Eng.Spec.body Tryz.func86 (by kernel_rfl) rfl (by kernel_rfl) ?_
  refine AX.wkpost ?_
  refine AX.seq ?_
  refine AX.reg (its := [.auto { nk := 1 }, .auto { nk := 2 }]) [0, 3, 4] [0, 1, 2] (s1 := ⟨[(0, .pt 0 0), (3, .pt 1 0), (4, .pt 2 0)], [(0, .box [.bs true 1 (List.map enc_y p3), .v (.int .i64 p4)]), (1, .box [.bs false 2 (List.map enc_si p1), .v (.int .i64 p2)]), (2, .box [.v (.int .i64 0), .v (.int .i64 0)])]⟩) (C := True) (by kernel_rfl) trivial trivial ?_
  refine AX.seq ?_
  obtain ⟨x5, e1, h⟩ := bd_e h
  refine AX.reg (its := [.auto {}, .auto {}, .call 116 [.pt 0 0, .agg [.bs false 2 (List.map enc_si p1), .v (.int .i64 p2)]] (handO (rho ([0] ++ [])) [0] [.box [.bs true 1 (List.map enc_y p3), .v (.int .i64 p4)]] ++ []) (callEv [0] [] (.agg [.v (.int .i64 x5.1), .v (.int .i64 x5.2.1)]) [.box [.bs true 1 (List.map enc_y p3), .v (.int .i64 x5.2.2)]]), .auto { nk := 3 }]) [0, 4, 5] [0, 2, 3] (s1 := ⟨[(0, .pt 0 0), (4, .pt 2 0), (5, .pt 3 0)], [(0, .box [.bs true 1 (List.map enc_y p3), .v (.int .i64 x5.2.2)]), (2, .box [.v (.int .i64 0), .v (.int .i64 0)]), (3, .box [.v (.int .i64 x5.1), .v (.int .i64 x5.2.1)])]⟩) (C := ((([.pt 0 0, .agg [.bs false 2 (List.map enc_si p1), .v (.int .i64 p2)]] : List AV) = [.pt 0 0, .agg [.bs false 2 (List.map enc_si p1), .v (.int .i64 p2)]]) ∧ (AO.box [.bs true 1 (List.map enc_y p3), .v (.int .i64 p4)] = AO.box [.bs true 1 (List.map enc_y p3), .v (.int .i64 p4)]) ∧ True) ∧ True) (by kernel_rfl) ⟨⟨rfl, rfl, trivial⟩, trivial⟩ ⟨call_ok (ks := [0]) (ns := []) (bor := []) (bobjs := []) (s_spec_anArm p1 p2 p3 p4 x5 e1) (.cons (.c1 (.c0 (.same _ (by kernel_rfl) (by kernel_rfl)))) (.cons (.c1 (.agg (.cons (.same _ (by kernel_rfl) (by kernel_rfl)) (.cons (.same _ (by kernel_rfl) (by kernel_rfl)) (.nil))))) (.nil))) (by kernel_rfl) ⟨.inr rfl, trivial⟩, trivial⟩ ?_
  refine AX.seq ?_
  refine AX.seq ?_
  obtain ⟨x6, e2, h⟩ := bd_e h
  refine AX.reg (its := [.auto {}, .call 27 [.pt 0 0, .v (.int .i64 16)] (handO (rho ([0] ++ [])) [0] [.box [.bs true 1 (List.map enc_y p3), .v (.int .i64 x5.2.2)]] ++ []) (callEv [0] [] (.v (.int .i64 x6)) [.box [.bs true 1 (List.map enc_y p3), .v (.int .i64 (IntKind.wrap .i64 (x5.2.2 + 1)))]])]) [0, 4, 5, 10] [0, 2, 3] (s1 := ⟨[(0, .pt 0 0), (4, .pt 2 0), (5, .pt 3 0), (10, .v (.int .i64 x6))], [(0, .box [.bs true 1 (List.map enc_y p3), .v (.int .i64 (IntKind.wrap .i64 (x5.2.2 + 1)))]), (2, .box [.v (.int .i64 0), .v (.int .i64 0)]), (3, .box [.v (.int .i64 x5.1), .v (.int .i64 x5.2.1)])]⟩) (C := ((([.pt 0 0, .v (.int .i64 16)] : List AV) = [.pt 0 0, .v (.int .i64 16)]) ∧ (AO.box [.bs true 1 (List.map enc_y p3), .v (.int .i64 x5.2.2)] = AO.box [.bs true 1 (List.map enc_y p3), .v (.int .i64 x5.2.2)]) ∧ True) ∧ True) (by kernel_rfl) ⟨⟨rfl, rfl, trivial⟩, trivial⟩ ⟨call_ok (ks := [0]) (ns := []) (bor := []) (bobjs := []) (s_spec_reader_pick 16 p3 x5.2.2 x6 e2) (.cons (.c1 (.c0 (.same _ (by kernel_rfl) (by kernel_rfl)))) (.cons (.c1 (.c0 (.same _ (by kernel_rfl) (by kernel_rfl)))) (.nil))) (by kernel_rfl) ⟨.inr rfl, trivial⟩, trivial⟩ ?_
  refine AX.block ?_
  refine AX.seq ?_
  refine AX.reg (its := []) [0, 4, 5, 10, 11] [0, 2, 3] (s1 := ⟨[(0, .pt 0 0), (4, .pt 2 0), (5, .pt 3 0), (10, .v (.int .i64 x6)), (11, .v (.bool (decide (x6 = 0))))], [(0, .box [.bs true 1 (List.map enc_y p3), .v (.int .i64 (IntKind.wrap .i64 (x5.2.2 + 1)))]), (2, .box [.v (.int .i64 0), .v (.int .i64 0)]), (3, .box [.v (.int .i64 x5.1), .v (.int .i64 x5.2.1)])]⟩) (C := True) (by kernel_rfl) trivial trivial ?_
  rcases bool_cases (decide (x6 = 0)) with b3 | b3
  · replace h := cd_t b3 h
    refine AX.condT (decide (x6 = 0)) (by kernel_rfl) b3 ?_
    obtain ⟨x7, e4, h⟩ := bd_e h
    refine AX.reg (its := [.auto {}, .auto { nk := 4 }, .call 98 [.pt 0 0, .sl 4 0 (([(-1), 4096, 32, 1] : List (Int)).length)] (handO (rho ([0] ++ [])) [0] [.box [.bs true 1 (List.map enc_y p3), .v (.int .i64 (IntKind.wrap .i64 (x5.2.2 + 1)))]] ++ [(4, .arr 1 (List.map enc_i ([(-1), 4096, 32, 1] : List (Int))))]) (callEv [0] [] (.v (.int .i64 x7)) [.box [.bs true 1 (List.map enc_y p3), .v (.int .i64 (IntKind.wrap .i64 ((IntKind.wrap .i64 (x5.2.2 + 1)) + 1)))]])]) [4, 5] [0, 2, 3] (s1 := ⟨[(4, .pt 2 0), (5, .pt 3 0)], [(0, .box [.bs true 1 (List.map enc_y p3), .v (.int .i64 (IntKind.wrap .i64 ((IntKind.wrap .i64 (x5.2.2 + 1)) + 1)))]), (2, .box [.v (.int .i64 0), .v (.int .i64 0)]), (3, .box [.v (.int .i64 x7), .v (.int .i64 x5.2.1)])]⟩) (C := ((([.pt 0 0, .sl 4 0 (([(-1), 4096, 32, 1] : List (Int)).length)] : List AV) = [.pt 0 0, .sl 4 0 (([(-1), 4096, 32, 1] : List (Int)).length)]) ∧ (AO.box [.bs true 1 (List.map enc_y p3), .v (.int .i64 (IntKind.wrap .i64 (x5.2.2 + 1)))] = AO.box [.bs true 1 (List.map enc_y p3), .v (.int .i64 (IntKind.wrap .i64 (x5.2.2 + 1)))]) ∧ (AO.arr 1 (List.map enc_i ([(-1), 4096, 32, 1] : List (Int))) = AO.arr 1 (List.map enc_i ([(-1), 4096, 32, 1] : List (Int)))) ∧ True) ∧ True) (by kernel_rfl) ⟨⟨rfl, rfl, rfl, trivial⟩, trivial⟩ ⟨call_ok (ks := [0]) (ns := []) (bor := [4]) (bobjs := [(4, .arr 1 (List.map enc_i ([(-1), 4096, 32, 1] : List (Int))))]) (s_spec_reader_one ([(-1), 4096, 32, 1] : List (Int)) p3 (IntKind.wrap .i64 (x5.2.2 + 1)) x7 e4) (.cons (.c1 (.c0 (.same _ (by kernel_rfl) (by kernel_rfl)))) (.cons (.c1 (.c0 (.arr rfl rfl ((rfl).trans (List.length_map ..).symm)))) (.nil))) (by kernel_rfl) ⟨.inr rfl, trivial⟩, trivial⟩ ?_
    refine AX.seq ?_
    refine AX.reg (its := []) [4] [0, 2] (s1 := ⟨[(4, .pt 2 0)], [(0, .box [.bs true 1 (List.map enc_y p3), .v (.int .i64 (IntKind.wrap .i64 ((IntKind.wrap .i64 (x5.2.2 + 1)) + 1)))]), (2, .box [.v (.int .i64 x7), .v (.int .i64 x5.2.1)])]⟩) (C := True) (by kernel_rfl) trivial trivial ?_
    refine AX.ret ?_
    refine fin_wk (Wk.swap 1 2 (Nat.le_of_ble_eq_true (by kernel_rfl)) (Nat.le_of_ble_eq_true (by kernel_rfl)) rfl) ?_
    refine fin_wk (Wk.forget [4] [0, 1] (s' := ⟨[(4, .pt 1 0)], [(0, .box [.bs true 1 (List.map enc_y p3), .v (.int .i64 (IntKind.wrap .i64 ((IntKind.wrap .i64 (x5.2.2 + 1)) + 1)))]), (1, .box [.v (.int .i64 x7), .v (.int .i64 x5.2.1)])]⟩) (by kernel_rfl)) ?_
    have hr := Option.some.inj h
    subst hr
    exact ⟨_, Wk.refl _, .inr rfl, ⟨[], by kernel_rfl, ⟨rfl, trivial⟩, [.agg [.v (.int .i64 x7), .v (.int .i64 x5.2.1)]], by kernel_rfl, by kernel_rfl⟩⟩
  · replace h := cd_f b3 h
    refine AX.condF (decide (x6 = 0)) (by kernel_rfl) b3 ?_
    refine AX.seq ?_
    refine AX.reg (its := []) [0, 4, 5, 17] [0, 2, 3] (s1 := ⟨[(0, .pt 0 0), (4, .pt 2 0), (5, .pt 3 0), (17, .v (.bool (decide (x6 = 1))))], [(0, .box [.bs true 1 (List.map enc_y p3), .v (.int .i64 (IntKind.wrap .i64 (x5.2.2 + 1)))]), (2, .box [.v (.int .i64 0), .v (.int .i64 0)]), (3, .box [.v (.int .i64 x5.1), .v (.int .i64 x5.2.1)])]⟩) (C := True) (by kernel_rfl) trivial trivial ?_
    rcases bool_cases (decide (x6 = 1)) with b5 | b5
    · replace h := cd_t b5 h
      refine AX.condT (decide (x6 = 1)) (by kernel_rfl) b5 ?_
      obtain ⟨x8, e6, h⟩ := bd_e h
      refine AX.reg (its := [.auto {}, .auto {}, .auto {}, .auto { nk := 4 }, .call 98 [.pt 0 0, .sl 4 0 (([(-1), 4096, 32, x5.1] : List (Int)).length)] (handO (rho ([0] ++ [])) [0] [.box [.bs true 1 (List.map enc_y p3), .v (.int .i64 (IntKind.wrap .i64 (x5.2.2 + 1)))]] ++ [(4, .arr 1 (List.map enc_i ([(-1), 4096, 32, x5.1] : List (Int))))]) (callEv [0] [] (.v (.int .i64 x8)) [.box [.bs true 1 (List.map enc_y p3), .v (.int .i64 (IntKind.wrap .i64 ((IntKind.wrap .i64 (x5.2.2 + 1)) + 1)))]])]) [4, 5] [0, 2, 3] (s1 := ⟨[(4, .pt 2 0), (5, .pt 3 0)], [(0, .box [.bs true 1 (List.map enc_y p3), .v (.int .i64 (IntKind.wrap .i64 ((IntKind.wrap .i64 (x5.2.2 + 1)) + 1)))]), (2, .box [.v (.int .i64 0), .v (.int .i64 0)]), (3, .box [.v (.int .i64 x5.1), .v (.int .i64 x8)])]⟩) (C := ((([.pt 0 0, .sl 4 0 (([(-1), 4096, 32, x5.1] : List (Int)).length)] : List AV) = [.pt 0 0, .sl 4 0 (([(-1), 4096, 32, x5.1] : List (Int)).length)]) ∧ (AO.box [.bs true 1 (List.map enc_y p3), .v (.int .i64 (IntKind.wrap .i64 (x5.2.2 + 1)))] = AO.box [.bs true 1 (List.map enc_y p3), .v (.int .i64 (IntKind.wrap .i64 (x5.2.2 + 1)))]) ∧ (AO.arr 1 (List.map enc_i ([(-1), 4096, 32, x5.1] : List (Int))) = AO.arr 1 (List.map enc_i ([(-1), 4096, 32, x5.1] : List (Int)))) ∧ True) ∧ True) (by kernel_rfl) ⟨⟨rfl, rfl, rfl, trivial⟩, trivial⟩ ⟨call_ok (ks := [0]) (ns := []) (bor := [4]) (bobjs := [(4, .arr 1 (List.map enc_i ([(-1), 4096, 32, x5.1] : List (Int))))]) (s_spec_reader_one ([(-1), 4096, 32, x5.1] : List (Int)) p3 (IntKind.wrap .i64 (x5.2.2 + 1)) x8 e6) (.cons (.c1 (.c0 (.same _ (by kernel_rfl) (by kernel_rfl)))) (.cons (.c1 (.c0 (.arr rfl rfl ((rfl).trans (List.length_map ..).symm)))) (.nil))) (by kernel_rfl) ⟨.inr rfl, trivial⟩, trivial⟩ ?_
      refine AX.seq ?_
      refine AX.reg (its := []) [4] [0, 2] (s1 := ⟨[(4, .pt 2 0)], [(0, .box [.bs true 1 (List.map enc_y p3), .v (.int .i64 (IntKind.wrap .i64 ((IntKind.wrap .i64 (x5.2.2 + 1)) + 1)))]), (2, .box [.v (.int .i64 x5.1), .v (.int .i64 x8)])]⟩) (C := True) (by kernel_rfl) trivial trivial ?_
      refine AX.ret ?_
      refine fin_wk (Wk.swap 1 2 (Nat.le_of_ble_eq_true (by kernel_rfl)) (Nat.le_of_ble_eq_true (by kernel_rfl)) rfl) ?_
      refine fin_wk (Wk.forget [4] [0, 1] (s' := ⟨[(4, .pt 1 0)], [(0, .box [.bs true 1 (List.map enc_y p3), .v (.int .i64 (IntKind.wrap .i64 ((IntKind.wrap .i64 (x5.2.2 + 1)) + 1)))]), (1, .box [.v (.int .i64 x5.1), .v (.int .i64 x8)])]⟩) (by kernel_rfl)) ?_
      have hr := Option.some.inj h
      subst hr
      exact ⟨_, Wk.refl _, .inr rfl, ⟨[], by kernel_rfl, ⟨rfl, trivial⟩, [.agg [.v (.int .i64 x5.1), .v (.int .i64 x8)]], by kernel_rfl, by kernel_rfl⟩⟩
    · replace h := cd_f b5 h
      refine AX.condF (decide (x6 = 1)) (by kernel_rfl) b5 ?_
      refine AX.skip ?_
      refine AX.seq ?_
      refine AX.reg (its := []) [4] [0, 2] (s1 := ⟨[(4, .pt 2 0)], [(0, .box [.bs true 1 (List.map enc_y p3), .v (.int .i64 (IntKind.wrap .i64 (x5.2.2 + 1)))]), (2, .box [.v (.int .i64 x5.1), .v (.int .i64 x5.2.1)])]⟩) (C := True) (by kernel_rfl) trivial trivial ?_
      refine AX.ret ?_
      refine fin_wk (Wk.swap 1 2 (Nat.le_of_ble_eq_true (by kernel_rfl)) (Nat.le_of_ble_eq_true (by kernel_rfl)) rfl) ?_
      refine fin_wk (Wk.forget [4] [0, 1] (s' := ⟨[(4, .pt 1 0)], [(0, .box [.bs true 1 (List.map enc_y p3), .v (.int .i64 (IntKind.wrap .i64 (x5.2.2 + 1)))]), (1, .box [.v (.int .i64 x5.1), .v (.int .i64 x5.2.1)])]⟩) (by kernel_rfl)) ?_
      have hr := Option.some.inj h
      subst hr
      exact ⟨_, Wk.refl _, .inr rfl, ⟨[], by kernel_rfl, ⟨rfl, trivial⟩, [.agg [.v (.int .i64 x5.1), .v (.int .i64 x5.2.1)]], by kernel_rfl, by kernel_rfl⟩⟩

theorem s_spec_armIn (p1 : List (Int)) (p2 : Int) (r : (List (ByteArray × Int)) × Int × Int × Int × Int) (h : m_spec_armIn p1 p2 = some r) :
    Eng.Spec Tryz.prog 50 [.pt 0 0] [.box [.bs true 1 (List.map enc_y p1), .v (.int .i64 p2)]] (.tup [.agg [.sl 1 0 r.1.length, .v (.int .i64 r.2.1)], .agg [.v (.int .i64 r.2.2.1), .v (.int .i64 r.2.2.2.1)]]) [.box [.bs true 1 (List.map enc_y p1), .v (.int .i64 r.2.2.2.2)], .arr 2 (List.map enc_si r.1)] := by
  unfold m_spec_armIn at h
  refine Eng.Spec.body Tryz.func50 (by kernel_rfl) rfl (by kernel_rfl) ?_
  refine AX.wkpost ?_
  refine AX.seq ?_
  refine AX.reg (its := [.auto { nk := 1 }, .auto { nk := 2 }]) [0, 2, 3] [0, 1, 2] (s1 := ⟨[(0, .pt 0 0), (2, .pt 1 0), (3, .pt 2 0)], [(0, .box [.bs true 1 (List.map enc_y p1), .v (.int .i64 p2)]), (1, .box [.v (.slice none 0 0), .v (.int .i64 0)]), (2, .box [.v (.int .i64 0), .v (.int .i64 0)])]⟩) (C := True) (by kernel_rfl) trivial trivial ?_
  refine AX.seq ?_
  obtain ⟨x3, e1, h⟩ := bd_e h
  refine AX.reg (its := [.auto {}, .call 58 [.pt 0 0] (handO (rho ([0] ++ [3])) [0] [.box [.bs true 1 (List.map enc_y p1), .v (.int .i64 p2)]] ++ []) (callEv [0] [3] (.agg [.sl 1 0 x3.1.length, .v (.int .i64 x3.2.1)]) [.box [.bs true 1 (List.map enc_y p1), .v (.int .i64 x3.2.2)], .arr 2 (List.map enc_si x3.1)]), .auto { nk := 4 }]) [0, 2, 3, 4] [0, 1, 2, 3, 4] (s1 := ⟨[(0, .pt 0 0), (2, .pt 1 0), (3, .pt 2 0), (4, .pt 4 0)], [(0, .box [.bs true 1 (List.map enc_y p1), .v (.int .i64 x3.2.2)]), (1, .box [.v (.slice none 0 0), .v (.int .i64 0)]), (2, .box [.v (.int .i64 0), .v (.int .i64 0)]), (3, .arr 2 (List.map enc_si x3.1)), (4, .box [.sl 3 0 x3.1.length, .v (.int .i64 x3.2.1)])]⟩) (C := ((([.pt 0 0] : List AV) = [.pt 0 0]) ∧ (AO.box [.bs true 1 (List.map enc_y p1), .v (.int .i64 p2)] = AO.box [.bs true 1 (List.map enc_y p1), .v (.int .i64 p2)]) ∧ True) ∧ True) (by kernel_rfl) ⟨⟨rfl, rfl, trivial⟩, trivial⟩ ⟨call_ok (ks := [0]) (ns := [3]) (bor := []) (bobjs := []) (s_spec_someFlag p1 p2 x3 e1) (.cons (.c1 (.c0 (.same _ (by kernel_rfl) (by kernel_rfl)))) (.nil)) (by kernel_rfl) ⟨.inr rfl, trivial⟩, trivial⟩ ?_
  refine AX.seq ?_
  obtain ⟨x4, e2, h⟩ := bd_e h
  refine AX.drw mixed (its := [.auto {}, .auto {}, .auto {}, .call 86 [.pt 0 0, .agg [.sl 3 0 x3.1.length, .v (.int .i64 x3.2.1)]] (handO (rho ([0] ++ [])) [0] [.box [.bs true 1 (List.map enc_y p1), .v (.int .i64 x3.2.2)]] ++ [(3, .arr 2 (List.map enc_si x3.1))]) (callEv [0] [] (.agg [.v (.int .i64 x4.1), .v (.int .i64 x4.2.1)]) [.box [.bs true 1 (List.map enc_y p1), .v (.int .i64 x4.2.2)]])]) [2, 3] [0, 1, 2, 3] (s1 := ⟨[(2, .pt 1 0), (3, .pt 2 0)], [(0, .box [.bs true 1 (List.map enc_y p1), .v (.int .i64 x4.2.2)]), (1, .box [.sl 3 0 x3.1.length, .v (.int .i64 x3.2.1)]), (2, .box [.v (.int .i64 x4.1), .v (.int .i64 x4.2.1)]), (3, .arr 2 (List.map enc_si x3.1))]⟩) (C := ((([.pt 0 0, .agg [.sl 3 0 x3.1.length, .v (.int .i64 x3.2.1)]] : List AV) = [.pt 0 0, .agg [.sl 3 0 x3.1.length, .v (.int .i64 x3.2.1)]]) ∧ (AO.box [.bs true 1 (List.map enc_y p1), .v (.int .i64 x3.2.2)] = AO.box [.bs true 1 (List.map enc_y p1), .v (.int .i64 x3.2.2)]) ∧ (AO.arr 2 (List.map enc_si x3.1) = AO.arr 2 (List.map enc_si x3.1)) ∧ True) ∧ True) (by kernel_rfl) ⟨⟨rfl, rfl, rfl, trivial⟩, trivial⟩ ⟨call_ok (ks := [0]) (ns := []) (bor := [3]) (bobjs := [(3, .arr 2 (List.map enc_si x3.1))]) (s_spec_someArm x3.1 x3.2.1 p1 x3.2.2 x4 e2) (.cons (.c1 (.c0 (.same _ (by kernel_rfl) (by kernel_rfl)))) (.cons (.c1 (.agg (.cons (.arr rfl rfl ((rfl).trans (List.length_map ..).symm)) (.cons (.same _ (by kernel_rfl) (by kernel_rfl)) (.nil))))) (.nil))) (by kernel_rfl) ⟨.inr rfl, trivial⟩, trivial⟩ ?_
  refine AX.ret ?_
  refine fin_wk (Wk.swap 2 3 (Nat.le_of_ble_eq_true (by kernel_rfl)) (Nat.le_of_ble_eq_true (by kernel_rfl)) rfl) ?_
  refine fin_wk (Wk.forget [2, 3] [0, 1, 2, 3] (s' := ⟨[(2, .pt 1 0), (3, .pt 3 0)], [(0, .box [.bs true 1 (List.map enc_y p1), .v (.int .i64 x4.2.2)]), (1, .box [.sl 2 0 x3.1.length, .v (.int .i64 x3.2.1)]), (2, .arr 2 (List.map enc_si x3.1)), (3, .box [.v (.int .i64 x4.1), .v (.int .i64 x4.2.1)])]⟩) (by kernel_rfl)) ?_
  have hr := Option.some.inj h
  subst hr
  exact ⟨_, Wk.refl _, .inr rfl, ⟨[2], by kernel_rfl, ⟨rfl, rfl, trivial⟩, [.agg [.sl 2 0 x3.1.length, .v (.int .i64 x3.2.1)], .agg [.v (.int .i64 x4.1), .v (.int .i64 x4.2.1)]], by kernel_rfl, by kernel_rfl⟩⟩

theorem s_spec_DrawArmText (p1 : List (Int)) (r : (List (ByteArray × Int)) × Int × Int × Int) (h : m_spec_DrawArmText p1 = some r) :
    Eng.Spec Tryz.prog 20 [.bs true 1 (List.map enc_y p1)] [] (.tup [.agg [.sl 0 0 r.1.length, .v (.int .i64 r.2.1)], .agg [.v (.int .i64 r.2.2.1), .v (.int .i64 r.2.2.2)]]) [.arr 2 (List.map enc_si r.1)] := by
  unfold m_spec_DrawArmText at h
  refine Eng.Spec.body Tryz.func20 (by kernel_rfl) rfl (by kernel_rfl) ?_
  refine AX.wkpost ?_
  refine AX.seq ?_
  refine AX.reg (its := [.auto { nk := 0 }, .auto { nk := 1 }]) [0, 2, 3] [0, 1] (s1 := ⟨[(0, .bs true 1 (List.map enc_y p1)), (2, .pt 0 0), (3, .pt 1 0)], [(0, .box [.v (.slice none 0 0), .v (.int .i64 0)]), (1, .box [.v (.int .i64 0), .v (.int .i64 0)])]⟩) (C := True) (by kernel_rfl) trivial trivial ?_
  refine AX.seq ?_
  obtain ⟨x2, e1, h⟩ := bd_e h
  obtain ⟨x3, e2, h⟩ := bd_e h
  refine AX.reg (its := [.auto {}, .call 24 [.bs true 1 (List.map enc_y p1)] (handO (rho ([] ++ [2])) [] [] ++ []) (callEv [] [2] (.pt 0 0) [.box [.bs true 1 (List.map enc_y x2), .v (.int .i64 0)]]), .call 50 [.pt 2 0] (handO (rho ([2] ++ [3])) [2] [.box [.bs true 1 (List.map enc_y x2), .v (.int .i64 0)]] ++ []) (callEv [2] [3] (.tup [.agg [.sl 1 0 x3.1.length, .v (.int .i64 x3.2.1)], .agg [.v (.int .i64 x3.2.2.1), .v (.int .i64 x3.2.2.2.1)]]) [.box [.bs true 1 (List.map enc_y x2), .v (.int .i64 x3.2.2.2.2)], .arr 2 (List.map enc_si x3.1)])]) [2, 3] [0, 1, 3] (s1 := ⟨[(2, .pt 0 0), (3, .pt 1 0)], [(0, .box [.sl 3 0 x3.1.length, .v (.int .i64 x3.2.1)]), (1, .box [.v (.int .i64 x3.2.2.1), .v (.int .i64 x3.2.2.2.1)]), (3, .arr 2 (List.map enc_si x3.1))]⟩) (C := ((([.bs true 1 (List.map enc_y p1)] : List AV) = [.bs true 1 (List.map enc_y p1)]) ∧ True) ∧ ((([.pt 2 0] : List AV) = [.pt 2 0]) ∧ (AO.box [.bs true 1 (List.map enc_y x2), .v (.int .i64 0)] = AO.box [.bs true 1 (List.map enc_y x2), .v (.int .i64 0)]) ∧ True) ∧ True) (by kernel_rfl) ⟨⟨rfl, trivial⟩, ⟨⟨rfl, rfl, trivial⟩, trivial⟩⟩ ⟨call_ok (ks := []) (ns := [2]) (bor := []) (bobjs := []) (s_spec_newReader p1 x2 e1) (.cons (.c1 (.c0 (.same _ (by kernel_rfl) (by kernel_rfl)))) (.nil)) (by kernel_rfl) trivial, ⟨call_ok (ks := [2]) (ns := [3]) (bor := []) (bobjs := []) (s_spec_armIn x2 0 x3 e2) (.cons (.c1 (.c0 (.same _ (by kernel_rfl) (by kernel_rfl)))) (.nil)) (by kernel_rfl) ⟨.inr rfl, trivial⟩, trivial⟩⟩ ?_
  refine AX.ret ?_
  refine fin_wk (Wk.swap 1 3 (Nat.le_of_ble_eq_true (by kernel_rfl)) (Nat.le_of_ble_eq_true (by kernel_rfl)) rfl) ?_
  refine fin_wk (Wk.swap 2 3 (Nat.le_of_ble_eq_true (by kernel_rfl)) (Nat.le_of_ble_eq_true (by kernel_rfl)) rfl) ?_
  refine fin_wk (Wk.forget [2, 3] [0, 1, 2] (s' := ⟨[(2, .pt 0 0), (3, .pt 2 0)], [(0, .box [.sl 1 0 x3.1.length, .v (.int .i64 x3.2.1)]), (1, .arr 2 (List.map enc_si x3.1)), (2, .box [.v (.int .i64 x3.2.2.1), .v (.int .i64 x3.2.2.2.1)])]⟩) (by kernel_rfl)) ?_
  have hr := Option.some.inj h
  subst hr
  exact ⟨_, Wk.refl _, .inr rfl, ⟨[1], by kernel_rfl, ⟨rfl, trivial⟩, [.agg [.sl 1 0 x3.1.length, .v (.int .i64 x3.2.1)], .agg [.v (.int .i64 x3.2.2.1), .v (.int .i64 x3.2.2.2.1)]], by kernel_rfl, by kernel_rfl⟩⟩

theorem s_impl_in (p1 : Int) (p2 : Int) (p3 : Int) (r : Bool) (h : m_impl_in p1 p2 p3 = some r) :
    Eng.Spec Tryz.prog 35 [.v (.int .i64 p1), .v (.int .i64 p2), .v (.int .i64 p3)] [] (.v (.bool r)) [] := by
  unfold m_impl_in at h
  refine Eng.Spec.body Tryz.func35 (by kernel_rfl) rfl (by kernel_rfl) ?_
  refine AX.wkpost ?_
  refine AX.seq ?_
  refine AX.reg (its := []) [0, 1, 2] [] (s1 := ⟨[(0, .v (.int .i64 p1)), (1, .v (.int .i64 p2)), (2, .v (.int .i64 p3))], []⟩) (C := True) (by kernel_rfl) trivial trivial ?_
  refine AX.seq ?_
  rcases bool_cases (decide (p2 ≤ p1)) with b1 | b1
  · replace h := cd_t b1 h
    refine AX.reg (its := [.auto {}, .auto {}, .auto { y := some (.v (.bool true)) }]) [6] [] (s1 := ⟨[(6, .v (.bool (decide (p1 ≤ p3))))], []⟩) (C := ((True) ∧ ((.v (.bool (decide (p2 ≤ p1))) : AV) = (.v (.bool true) : AV))) ∧ True) (by kernel_rfl) ⟨⟨trivial, (congrArg (fun z => AV.v (.bool z)) b1)⟩, trivial⟩ trivial ?_
    refine AX.ret ?_
    refine fin_wk (Wk.forget [6] [] (s' := ⟨[(6, .v (.bool (decide (p1 ≤ p3))))], []⟩) (by kernel_rfl)) ?_
    have hr := Option.some.inj h
    subst hr
    exact ⟨_, Wk.refl _, .inr rfl, ⟨[], by kernel_rfl, trivial, [.v (.bool (decide (p1 ≤ p3)))], by kernel_rfl, by kernel_rfl⟩⟩
  · replace h := cd_f b1 h
    refine AX.reg (its := [.auto {}, .auto {}, .auto { y := some (.v (.bool false)) }]) [6] [] (s1 := ⟨[(6, .v (.bool false))], []⟩) (C := ((True) ∧ ((.v (.bool (decide (p2 ≤ p1))) : AV) = (.v (.bool false) : AV))) ∧ True) (by kernel_rfl) ⟨⟨trivial, (congrArg (fun z => AV.v (.bool z)) b1)⟩, trivial⟩ trivial ?_
    refine AX.ret ?_
    refine fin_wk (Wk.forget [6] [] (s' := ⟨[(6, .v (.bool false))], []⟩) (by kernel_rfl)) ?_
    have hr := Option.some.inj h
    subst hr
    exact ⟨_, Wk.refl _, .inr rfl, ⟨[], by kernel_rfl, trivial, [.v (.bool false)], by kernel_rfl, by kernel_rfl⟩⟩

end Go.Eng
