/- What is proved here: each function keeps to its model, whatever its arguments, wherever the model has an answer. Printed by gen.py. -/
import Derived.Test.YtomemaanjendhaaDoorCExactParseEnumModels
import Derived.Test.YtomemaanjendhaaDoorProg
import Derived.Test.YtomemaanjendhaaDoorCExactParseEnumShelf
import Derived.KernelRfl
set_option linter.unusedVariables false
set_option linter.unusedSimpArgs false
set_option linter.unnecessarySimpa false
namespace Go.Eng
open Go Go.Proofs

theorem mixed : Tryd.prog.follows .mixedOrders = true := by kernel_rfl

theorem s_spec_splitAt_L1 (p1 : ByteArray) (p2 : Int) (n : Nat) (g : List (ByteArray) × Int × Int) (out : List (ByteArray) × Int) (h : m_spec_splitAt_L1 p1 p2 n g.1 g.2.1 g.2.2 = some out) :
    AX Tryd.prog 35 0 (codeAt [1, 1, 1, 0, 1, 1] (bodyOf Tryd.f80)) ((fun g : List (ByteArray) × Int × Int => (⟨[(0, .v (.string p1)), (1, .v (.int .u8 p2)), (5, .sl 0 0 g.1.length), (6, .v (.int .i64 g.2.1)), (7, .v (.int .i64 g.2.2))], [(0, .arr 1 (List.map enc_s g.1))]⟩ : S)) g) (fun ex s => ex = .exit 0 ∧ s = (fun o : List (ByteArray) × Int => (⟨[(0, .v (.string p1)), (5, .sl 0 0 o.1.length), (6, .v (.int .i64 o.2))], [(0, .arr 1 (List.map enc_s o.1))]⟩ : S)) out) := by
  refine AX.wkpost ?_
  refine AX.loop (G := Nat × (List (ByteArray) × Int × Int)) (fun q => (fun g : List (ByteArray) × Int × Int => (⟨[(0, .v (.string p1)), (1, .v (.int .u8 p2)), (5, .sl 0 0 g.1.length), (6, .v (.int .i64 g.2.1)), (7, .v (.int .i64 g.2.2))], [(0, .arr 1 (List.map enc_s g.1))]⟩ : S)) q.2) (fun q => m_spec_splitAt_L1 p1 p2 q.1 q.2.1 q.2.2.1 q.2.2.2 = some out) (fun q => q.1) (n, g) h (Wk.refl _) ?_
  clear h
  rintro ⟨fu, v3, v4, v5⟩ h
  cases fu with
  | zero => cases h
  | succ fu =>
    rw [m_spec_splitAt_L1] at h
    refine AX.seq ?_
    refine AX.seq ?_
    refine AX.reg (its := []) [0, 1, 5, 6, 7, 12] [0] (s1 := ⟨[(0, .v (.string p1)), (1, .v (.int .u8 p2)), (5, .sl 0 0 v3.length), (6, .v (.int .i64 v4)), (7, .v (.int .i64 v5)), (12, .v (.bool (decide (v5 < (p1.size : Int)))))], [(0, .arr 1 (List.map enc_s v3))]⟩) (C := True) (by kernel_rfl) trivial trivial ?_
    rcases bool_cases (decide (v5 < (p1.size : Int))) with b1 | b1
    · replace h := cd_t b1 h
      refine AX.condT (decide (v5 < (p1.size : Int))) (by kernel_rfl) b1 ?_
      refine AX.skip ?_
      refine AX.seq ?_
      refine AX.block ?_
      refine AX.seq ?_
      obtain ⟨g2, h⟩ := gd_e h
      refine AX.reg (its := []) [0, 1, 5, 6, 7, 19] [0] (s1 := ⟨[(0, .v (.string p1)), (1, .v (.int .u8 p2)), (5, .sl 0 0 v3.length), (6, .v (.int .i64 v4)), (7, .v (.int .i64 v5)), (19, .v (.bool (decide ((byteAt p1 v5.toNat) = p2))))], [(0, .arr 1 (List.map enc_s v3))]⟩) (C := (0 ≤ v5 ∧ v5 < (p1.size : Int)) ∧ True) (by kernel_rfl) ⟨g2, trivial⟩ trivial ?_
      rcases bool_cases (decide ((byteAt p1 v5.toNat) = p2)) with b3 | b3
      · replace h := cd_t b3 h
        refine AX.condT (decide ((byteAt p1 v5.toNat) = p2)) (by kernel_rfl) b3 ?_
        refine AX.seq ?_
        obtain ⟨g4, h⟩ := gd_e h
        obtain ⟨g5, h⟩ := gd_e h
        refine AX.reg (its := [.auto {}, .auto {}, .auto {}, .auto {}, .auto {}, .auto { nk := 1 }, .auto { y := some (.sl 2 0 ((v3 ++ ([p1.extract v4.toNat v5.toNat] : List (ByteArray))).length)), els := some (List.map enc_s v3), els2 := some (List.map enc_s ([p1.extract v4.toNat v5.toNat] : List (ByteArray))), nk := 2 }]) [0, 1, 5, 7] [2] (s1 := ⟨[(0, .v (.string p1)), (1, .v (.int .u8 p2)), (5, .sl 2 0 ((v3 ++ ([p1.extract v4.toNat v5.toNat] : List (ByteArray))).length)), (7, .v (.int .i64 v5))], [(2, .arr 1 (List.map enc_s v3 ++ List.map enc_s ([p1.extract v4.toNat v5.toNat] : List (ByteArray))))]⟩) (C := (0 ≤ v4 ∧ v4 ≤ v5 ∧ v5 ≤ (p1.size : Int)) ∧ ((((((List.map enc_s v3).drop 0).take (v3.length) = List.map enc_s v3) ∧ (((List.map enc_s ([p1.extract v4.toNat v5.toNat] : List (ByteArray))).drop 0).take (([p1.extract v4.toNat v5.toNat] : List (ByteArray)).length) = List.map enc_s ([p1.extract v4.toNat v5.toNat] : List (ByteArray)))) ∧ (List.map enc_s v3).length + (List.map enc_s ([p1.extract v4.toNat v5.toNat] : List (ByteArray))).length ≤ 1099511627776) ∧ (AV.sl 2 0 (List.map enc_s v3 ++ List.map enc_s ([p1.extract v4.toNat v5.toNat] : List (ByteArray))).length = AV.sl 2 0 (v3 ++ ([p1.extract v4.toNat v5.toNat] : List (ByteArray))).length)) ∧ True) (by kernel_rfl) ⟨g4, ⟨⟨⟨⟨(dt_all (enc := enc_s) rfl rfl), (dt_all (enc := enc_s) rfl rfl)⟩, (by simp only [List.length_map, List.length_nil, List.length_replicate]; simpa using g5)⟩, sl_len (enc := enc_s) (app_can (enc := enc_s) rfl (rfl))⟩, trivial⟩⟩ trivial ?_
        refine AX.reg (its := [.auto {}, .auto { raw := true }]) [0, 1, 5, 6, 7] [2] (s1 := ⟨[(0, .v (.string p1)), (1, .v (.int .u8 p2)), (5, .sl 2 0 ((v3 ++ ([p1.extract v4.toNat v5.toNat] : List (ByteArray))).length)), (6, .v (.int .i64 (IntKind.wrap .i64 (v5 + 1)))), (7, .v (.int .i64 v5))], [(2, .arr 1 (List.map enc_s v3 ++ List.map enc_s ([p1.extract v4.toNat v5.toNat] : List (ByteArray))))]⟩) (C := True) (by kernel_rfl) trivial trivial ?_
        refine AX.reg (its := [.auto {}, .auto { raw := true }]) [0, 1, 5, 6, 7] [2] (s1 := ⟨[(0, .v (.string p1)), (1, .v (.int .u8 p2)), (5, .sl 2 0 ((v3 ++ ([p1.extract v4.toNat v5.toNat] : List (ByteArray))).length)), (6, .v (.int .i64 (IntKind.wrap .i64 (v5 + 1)))), (7, .v (.int .i64 (IntKind.wrap .i64 (v5 + 1))))], [(2, .arr 1 (List.map enc_s v3 ++ List.map enc_s ([p1.extract v4.toNat v5.toNat] : List (ByteArray))))]⟩) (C := True) (by kernel_rfl) trivial trivial ?_
        refine ⟨(fu, (v3 ++ ([p1.extract v4.toNat v5.toNat] : List (ByteArray)), IntKind.wrap .i64 (v5 + 1), IntKind.wrap .i64 (v5 + 1))), h, Nat.lt_succ_self _, ?_⟩
        refine Wk.trans (Wk.swap 0 2 (Nat.le_of_ble_eq_true (by kernel_rfl)) (Nat.le_of_ble_eq_true (by kernel_rfl)) rfl) ?_
        refine Wk.trans (Wk.forget [0, 1, 5, 6, 7] [0] (s' := ⟨[(0, .v (.string p1)), (1, .v (.int .u8 p2)), (5, .sl 0 0 ((v3 ++ ([p1.extract v4.toNat v5.toNat] : List (ByteArray))).length)), (6, .v (.int .i64 (IntKind.wrap .i64 (v5 + 1)))), (7, .v (.int .i64 (IntKind.wrap .i64 (v5 + 1))))], [(0, .arr 1 (List.map enc_s v3 ++ List.map enc_s ([p1.extract v4.toNat v5.toNat] : List (ByteArray))))]⟩) (by kernel_rfl)) ?_
        refine Wk.trans (Wk.of_eq (congrArg (fun z => (⟨[(0, .v (.string p1)), (1, .v (.int .u8 p2)), (5, .sl 0 0 ((v3 ++ ([p1.extract v4.toNat v5.toNat] : List (ByteArray))).length)), (6, .v (.int .i64 (IntKind.wrap .i64 (v5 + 1)))), (7, .v (.int .i64 (IntKind.wrap .i64 (v5 + 1))))], [(0, .arr 1 (z))]⟩ : S)) (app_can (enc := enc_s) rfl (rfl) : List.map enc_s v3 ++ List.map enc_s ([p1.extract v4.toNat v5.toNat] : List (ByteArray)) = List.map enc_s (v3 ++ ([p1.extract v4.toNat v5.toNat] : List (ByteArray)))))) ?_
        exact Wk.refl _
      · replace h := cd_f b3 h
        refine AX.condF (decide ((byteAt p1 v5.toNat) = p2)) (by kernel_rfl) b3 ?_
        refine AX.skip ?_
        refine AX.reg (its := [.auto {}, .auto { raw := true }]) [0, 1, 5, 6, 7] [0] (s1 := ⟨[(0, .v (.string p1)), (1, .v (.int .u8 p2)), (5, .sl 0 0 v3.length), (6, .v (.int .i64 v4)), (7, .v (.int .i64 (IntKind.wrap .i64 (v5 + 1))))], [(0, .arr 1 (List.map enc_s v3))]⟩) (C := True) (by kernel_rfl) trivial trivial ?_
        refine ⟨(fu, (v3, v4, IntKind.wrap .i64 (v5 + 1))), h, Nat.lt_succ_self _, ?_⟩
        refine Wk.trans (Wk.forget [0, 1, 5, 6, 7] [0] (s' := ⟨[(0, .v (.string p1)), (1, .v (.int .u8 p2)), (5, .sl 0 0 v3.length), (6, .v (.int .i64 v4)), (7, .v (.int .i64 (IntKind.wrap .i64 (v5 + 1))))], [(0, .arr 1 (List.map enc_s v3))]⟩) (by kernel_rfl)) ?_
        exact Wk.refl _
    · replace h := cd_f b1 h
      refine AX.condF (decide (v5 < (p1.size : Int))) (by kernel_rfl) b1 ?_
      refine AX.exit ?_
      refine fin_wk (Wk.forget [0, 5, 6] [0] (s' := ⟨[(0, .v (.string p1)), (5, .sl 0 0 v3.length), (6, .v (.int .i64 v4))], [(0, .arr 1 (List.map enc_s v3))]⟩) (by kernel_rfl)) ?_
      have hr := Option.some.inj h
      subst hr
      exact ⟨_, Wk.refl _, ⟨rfl, rfl⟩⟩

theorem s_spec_splitAt (p1 : ByteArray) (p2 : Int) (r : List (ByteArray)) (h : m_spec_splitAt p1 p2 = some r) :
    Eng.Spec Tryd.prog 80 [.v (.string p1), .v (.int .u8 p2)] [] (.sl 0 0 r.length) [.arr 1 (List.map enc_s r)] := by
  unfold m_spec_splitAt at h
  refine Eng.Spec.body Tryd.func80 (by kernel_rfl) rfl (by kernel_rfl) ?_
  refine AX.wkpost ?_
  refine AX.seq ?_
  refine AX.reg (its := []) [0, 1] [] (s1 := ⟨[(0, .v (.string p1)), (1, .v (.int .u8 p2))], []⟩) (C := True) (by kernel_rfl) trivial trivial ?_
  refine AX.seq ?_
  refine AX.reg (its := [.auto { nk := 0 }]) [0, 1, 5] [0] (s1 := ⟨[(0, .v (.string p1)), (1, .v (.int .u8 p2)), (5, .sl 0 0 (([] : List (ByteArray)).length))], [(0, .arr 1 (List.map enc_s ([] : List (ByteArray))))]⟩) (C := True) (by kernel_rfl) trivial trivial ?_
  refine AX.seq ?_
  refine AX.reg (its := []) [0, 1, 5, 6] [0] (s1 := ⟨[(0, .v (.string p1)), (1, .v (.int .u8 p2)), (5, .sl 0 0 (([] : List (ByteArray)).length)), (6, .v (.int .i64 0))], [(0, .arr 1 (List.map enc_s ([] : List (ByteArray))))]⟩) (C := True) (by kernel_rfl) trivial trivial ?_
  refine AX.seq ?_
  refine AX.seq ?_
  refine AX.reg (its := []) [0, 1, 5, 6, 7] [0] (s1 := ⟨[(0, .v (.string p1)), (1, .v (.int .u8 p2)), (5, .sl 0 0 (([] : List (ByteArray)).length)), (6, .v (.int .i64 0)), (7, .v (.int .i64 0))], [(0, .arr 1 (List.map enc_s ([] : List (ByteArray))))]⟩) (C := True) (by kernel_rfl) trivial trivial ?_
  refine AX.block ?_
  obtain ⟨x6, e6, h⟩ := bd_e h
  refine AX.wk (Wk.forget [0, 1, 5, 6, 7] [0] (s' := ⟨[(0, .v (.string p1)), (1, .v (.int .u8 p2)), (5, .sl 0 0 (([] : List (ByteArray)).length)), (6, .v (.int .i64 0)), (7, .v (.int .i64 0))], [(0, .arr 1 (List.map enc_s ([] : List (ByteArray))))]⟩) (by kernel_rfl)) ?_
  refine AX.mono (s_spec_splitAt_L1 p1 p2 FU (([] : List (ByteArray)), 0, 0) x6 e6) ?_
  rintro _ _ ⟨rfl, rfl⟩
  skip
  refine AX.seq ?_
  obtain ⟨g7, h⟩ := gd_e h
  obtain ⟨g8, h⟩ := gd_e h
  refine AX.reg (its := [.auto {}, .auto {}, .auto {}, .auto {}, .auto { nk := 1 }, .auto { y := some (.sl 2 0 ((x6.1 ++ ([p1.extract x6.2.toNat (p1.size : Int).toNat] : List (ByteArray))).length)), els := some (List.map enc_s x6.1), els2 := some (List.map enc_s ([p1.extract x6.2.toNat (p1.size : Int).toNat] : List (ByteArray))), nk := 2 }]) [4] [2] (s1 := ⟨[(4, .sl 2 0 ((x6.1 ++ ([p1.extract x6.2.toNat (p1.size : Int).toNat] : List (ByteArray))).length))], [(2, .arr 1 (List.map enc_s x6.1 ++ List.map enc_s ([p1.extract x6.2.toNat (p1.size : Int).toNat] : List (ByteArray))))]⟩) (C := (0 ≤ x6.2 ∧ x6.2 ≤ (p1.size : Int) ∧ (p1.size : Int) ≤ (p1.size : Int)) ∧ ((((((List.map enc_s x6.1).drop 0).take (x6.1.length) = List.map enc_s x6.1) ∧ (((List.map enc_s ([p1.extract x6.2.toNat (p1.size : Int).toNat] : List (ByteArray))).drop 0).take (([p1.extract x6.2.toNat (p1.size : Int).toNat] : List (ByteArray)).length) = List.map enc_s ([p1.extract x6.2.toNat (p1.size : Int).toNat] : List (ByteArray)))) ∧ (List.map enc_s x6.1).length + (List.map enc_s ([p1.extract x6.2.toNat (p1.size : Int).toNat] : List (ByteArray))).length ≤ 1099511627776) ∧ (AV.sl 2 0 (List.map enc_s x6.1 ++ List.map enc_s ([p1.extract x6.2.toNat (p1.size : Int).toNat] : List (ByteArray))).length = AV.sl 2 0 (x6.1 ++ ([p1.extract x6.2.toNat (p1.size : Int).toNat] : List (ByteArray))).length)) ∧ True) (by kernel_rfl) ⟨g7, ⟨⟨⟨⟨(dt_all (enc := enc_s) rfl rfl), (dt_all (enc := enc_s) rfl rfl)⟩, (by simp only [List.length_map, List.length_nil, List.length_replicate]; simpa using g8)⟩, sl_len (enc := enc_s) (app_can (enc := enc_s) rfl (rfl))⟩, trivial⟩⟩ trivial ?_
  refine AX.ret ?_
  refine fin_wk (Wk.swap 0 2 (Nat.le_of_ble_eq_true (by kernel_rfl)) (Nat.le_of_ble_eq_true (by kernel_rfl)) rfl) ?_
  refine fin_wk (Wk.forget [4] [0] (s' := ⟨[(4, .sl 0 0 ((x6.1 ++ ([p1.extract x6.2.toNat (p1.size : Int).toNat] : List (ByteArray))).length))], [(0, .arr 1 (List.map enc_s x6.1 ++ List.map enc_s ([p1.extract x6.2.toNat (p1.size : Int).toNat] : List (ByteArray))))]⟩) (by kernel_rfl)) ?_
  refine fin_wk (Wk.of_eq (congrArg (fun z => (⟨[(4, .sl 0 0 ((x6.1 ++ ([p1.extract x6.2.toNat (p1.size : Int).toNat] : List (ByteArray))).length))], [(0, .arr 1 (z))]⟩ : S)) (app_can (enc := enc_s) rfl (rfl) : List.map enc_s x6.1 ++ List.map enc_s ([p1.extract x6.2.toNat (p1.size : Int).toNat] : List (ByteArray)) = List.map enc_s (x6.1 ++ ([p1.extract x6.2.toNat (p1.size : Int).toNat] : List (ByteArray)))))) ?_
  have hr := Option.some.inj h
  subst hr
  exact ⟨_, Wk.refl _, .inr rfl, ⟨[0], by kernel_rfl, ⟨rfl, trivial⟩, [.sl 0 0 ((x6.1 ++ ([p1.extract x6.2.toNat (p1.size : Int).toNat] : List (ByteArray))).length)], by kernel_rfl, by kernel_rfl⟩⟩

theorem s_spec_number : ∀ (fu : Nat) (p1 : Int) (r : ByteArray) (h : m_spec_number fu p1 = some r),
    Eng.Spec Tryd.prog 61 [.v (.int .i64 p1)] [] (.v (.string r)) [] := by
  intro fu
  induction fu with
  | zero => intro p1 r h; cases h
  | succ fu ih =>
    intro p1 r h
    rw [m_spec_number] at h
    refine Eng.Spec.body Tryd.func61 (by kernel_rfl) rfl (by kernel_rfl) ?_
    refine AX.wkpost ?_
    refine AX.seq ?_
    refine AX.reg (its := []) [0] [] (s1 := ⟨[(0, .v (.int .i64 p1))], []⟩) (C := True) (by kernel_rfl) trivial trivial ?_
    refine AX.seq ?_
    refine AX.seq ?_
    refine AX.reg (its := []) [0, 4] [] (s1 := ⟨[(0, .v (.int .i64 p1)), (4, .v (.bool (decide (p1 < 10))))], []⟩) (C := True) (by kernel_rfl) trivial trivial ?_
    rcases bool_cases (decide (p1 < 10)) with b1 | b1
    · replace h := cd_t b1 h
      refine AX.condT (decide (p1 < 10)) (by kernel_rfl) b1 ?_
      refine AX.seq ?_
      obtain ⟨g2, h⟩ := gd_e h
      obtain ⟨v2, q3, h⟩ := nm_e h
      refine AX.reg (its := [.auto {}, .auto {}, .auto { raw := true }, .auto { y := some (.v (.string v2)) }]) [2] [] (s1 := ⟨[(2, .v (.string v2))], []⟩) (C := ((0 ≤ p1 ∧ p1 ≤ (IntKind.wrap .i64 (p1 + 1)) ∧ (IntKind.wrap .i64 (p1 + 1)) ≤ ((ByteArray.mk #[48, 49, 50, 51, 52, 53, 54, 55, 56, 57]).size : Int)) ∧ ((.v (.string ((ByteArray.mk #[48, 49, 50, 51, 52, 53, 54, 55, 56, 57]).extract p1.toNat (IntKind.wrap .i64 (p1 + 1)).toNat)) : AV) = (.v (.string v2) : AV))) ∧ True) (by kernel_rfl) ⟨⟨g2, (congrArg (fun z => AV.v (.string z)) q3)⟩, trivial⟩ trivial ?_
      refine AX.ret ?_
      refine fin_wk (Wk.forget [2] [] (s' := ⟨[(2, .v (.string v2))], []⟩) (by kernel_rfl)) ?_
      have hr := Option.some.inj h
      subst hr
      exact ⟨_, Wk.refl _, .inr rfl, ⟨[], by kernel_rfl, trivial, [.v (.string v2)], by kernel_rfl, by kernel_rfl⟩⟩
    · replace h := cd_f b1 h
      refine AX.condF (decide (p1 < 10)) (by kernel_rfl) b1 ?_
      refine AX.skip ?_
      refine AX.seq ?_
      obtain ⟨g4, h⟩ := gd_e h
      obtain ⟨x3, e5, h⟩ := bd_e h
      obtain ⟨g6, h⟩ := gd_e h
      obtain ⟨x4, e7, h⟩ := bd_e h
      obtain ⟨g8, h⟩ := gd_e h
      refine AX.reg (its := [.auto {}, .auto {}, .call 61 [.v (.int .i64 (Int.tdiv p1 10))] (handO (rho ([] ++ [])) [] [] ++ []) (callEv [] [] (.v (.string x3)) []), .auto {}, .auto {}, .call 61 [.v (.int .i64 (Int.tmod p1 10))] (handO (rho ([] ++ [])) [] [] ++ []) (callEv [] [] (.v (.string x4)) [])]) [2] [] (s1 := ⟨[(2, .v (.string (x3 ++ x4)))], []⟩) (C := ((10 : Int) ≠ 0 ∧ IntKind.wrap .i64 (Int.tdiv p1 10) = Int.tdiv p1 10) ∧ ((([.v (.int .i64 (Int.tdiv p1 10))] : List AV) = [.v (.int .i64 (Int.tdiv p1 10))]) ∧ True) ∧ ((10 : Int) ≠ 0) ∧ ((([.v (.int .i64 (Int.tmod p1 10))] : List AV) = [.v (.int .i64 (Int.tmod p1 10))]) ∧ True) ∧ (x3.size + x4.size ≤ 9223372036854775807) ∧ True) (by kernel_rfl) ⟨g4, ⟨⟨rfl, trivial⟩, ⟨g6, ⟨⟨rfl, trivial⟩, ⟨g8, trivial⟩⟩⟩⟩⟩ ⟨call_ok (ks := []) (ns := []) (bor := []) (bobjs := []) (ih (Int.tdiv p1 10) x3 e5) (.cons (.c1 (.c0 (.same _ (by kernel_rfl) (by kernel_rfl)))) (.nil)) (by kernel_rfl) trivial, ⟨call_ok (ks := []) (ns := []) (bor := []) (bobjs := []) (ih (Int.tmod p1 10) x4 e7) (.cons (.c1 (.c0 (.same _ (by kernel_rfl) (by kernel_rfl)))) (.nil)) (by kernel_rfl) trivial, trivial⟩⟩ ?_
      refine AX.ret ?_
      refine fin_wk (Wk.forget [2] [] (s' := ⟨[(2, .v (.string (x3 ++ x4)))], []⟩) (by kernel_rfl)) ?_
      have hr := Option.some.inj h
      subst hr
      exact ⟨_, Wk.refl _, .inr rfl, ⟨[], by kernel_rfl, trivial, [.v (.string (x3 ++ x4))], by kernel_rfl, by kernel_rfl⟩⟩

theorem s_spec_readNumber_L1 (p1 : ByteArray) (n : Nat) (g : Int × Int) (out : Unit ⊕ Int) (h : m_spec_readNumber_L1 p1 n g.1 g.2 = some out) :
    AX Tryd.prog 46 0 (codeAt [1, 1, 0, 1, 1] (bodyOf Tryd.f125)) ((fun g : Int × Int => (⟨[(0, .v (.string p1)), (3, .v (.int .i64 g.1)), (4, .v (.int .i64 g.2))], []⟩ : S)) g) (fun ex s => (∃ o : Unit, out = Sum.inl o ∧ ex = .ret ∧ s = ⟨[(2, .v (.int .i64 (-1)))], []⟩) ∨ (∃ o : Int, out = Sum.inr o ∧ ex = .exit 0 ∧ s = ⟨[(0, .v (.string p1)), (3, .v (.int .i64 o))], []⟩)) := by
  refine AX.wkpost ?_
  refine AX.loop (G := Nat × (Int × Int)) (fun q => (fun g : Int × Int => (⟨[(0, .v (.string p1)), (3, .v (.int .i64 g.1)), (4, .v (.int .i64 g.2))], []⟩ : S)) q.2) (fun q => m_spec_readNumber_L1 p1 q.1 q.2.1 q.2.2 = some out) (fun q => q.1) (n, g) h (Wk.refl _) ?_
  clear h
  rintro ⟨fu, v2, v3⟩ h
  cases fu with
  | zero => cases h
  | succ fu =>
    rw [m_spec_readNumber_L1] at h
    refine AX.seq ?_
    refine AX.seq ?_
    refine AX.reg (its := []) [0, 3, 4, 8] [] (s1 := ⟨[(0, .v (.string p1)), (3, .v (.int .i64 v2)), (4, .v (.int .i64 v3)), (8, .v (.bool (decide (v3 < (p1.size : Int)))))], []⟩) (C := True) (by kernel_rfl) trivial trivial ?_
    rcases bool_cases (decide (v3 < (p1.size : Int))) with b1 | b1
    · replace h := cd_t b1 h
      refine AX.condT (decide (v3 < (p1.size : Int))) (by kernel_rfl) b1 ?_
      refine AX.skip ?_
      refine AX.seq ?_
      refine AX.block ?_
      refine AX.seq ?_
      refine AX.seq ?_
      obtain ⟨g2, h⟩ := gd_e h
      rcases bool_cases (decide ((byteAt p1 v3.toNat) < 48)) with b3 | b3
      · replace h := cd_t b3 h
        refine AX.reg (its := [.auto {}, .auto {}, .auto {}, .auto { y := some (.v (.bool true)) }]) [0, 3, 4, 24] [] (s1 := ⟨[(0, .v (.string p1)), (3, .v (.int .i64 v2)), (4, .v (.int .i64 v3)), (24, .v (.bool true))], []⟩) (C := (0 ≤ v3 ∧ v3 < (p1.size : Int)) ∧ ((True) ∧ ((.v (.bool (decide ((byteAt p1 v3.toNat) < 48))) : AV) = (.v (.bool true) : AV))) ∧ True) (by kernel_rfl) ⟨g2, ⟨⟨trivial, (congrArg (fun z => AV.v (.bool z)) b3)⟩, trivial⟩⟩ trivial ?_
        refine AX.cond_true (by kernel_rfl) ?_
        refine AX.seq ?_
        refine AX.reg (its := []) [2] [] (s1 := ⟨[(2, .v (.int .i64 (-1)))], []⟩) (C := True) (by kernel_rfl) trivial trivial ?_
        refine AX.ret ?_
        refine fin_wk (Wk.forget [2] [] (s' := ⟨[(2, .v (.int .i64 (-1)))], []⟩) (by kernel_rfl)) ?_
        have hr := Option.some.inj h
        subst hr
        exact ⟨_, Wk.refl _, .inl ⟨(), rfl, rfl, rfl⟩⟩
      · replace h := cd_f b3 h
        rcases bool_cases (decide (57 < (byteAt p1 v3.toNat))) with b4 | b4
        · replace h := cd_t b4 h
          refine AX.reg (its := [.auto {}, .auto {}, .auto {}, .auto { y := some (.v (.bool false)) }, .auto {}, .auto {}, .auto {}, .auto {}, .auto { y := some (.v (.bool true)) }]) [0, 3, 4, 24] [] (s1 := ⟨[(0, .v (.string p1)), (3, .v (.int .i64 v2)), (4, .v (.int .i64 v3)), (24, .v (.bool true))], []⟩) (C := (0 ≤ v3 ∧ v3 < (p1.size : Int)) ∧ ((True) ∧ ((.v (.bool (decide ((byteAt p1 v3.toNat) < 48))) : AV) = (.v (.bool false) : AV))) ∧ (0 ≤ v3 ∧ v3 < (p1.size : Int)) ∧ ((True) ∧ ((.v (.bool (decide (57 < (byteAt p1 v3.toNat)))) : AV) = (.v (.bool true) : AV))) ∧ True) (by kernel_rfl) ⟨g2, ⟨⟨trivial, (congrArg (fun z => AV.v (.bool z)) b3)⟩, ⟨g2, ⟨⟨trivial, (congrArg (fun z => AV.v (.bool z)) b4)⟩, trivial⟩⟩⟩⟩ trivial ?_
          refine AX.cond_true (by kernel_rfl) ?_
          refine AX.seq ?_
          refine AX.reg (its := []) [2] [] (s1 := ⟨[(2, .v (.int .i64 (-1)))], []⟩) (C := True) (by kernel_rfl) trivial trivial ?_
          refine AX.ret ?_
          refine fin_wk (Wk.forget [2] [] (s' := ⟨[(2, .v (.int .i64 (-1)))], []⟩) (by kernel_rfl)) ?_
          have hr := Option.some.inj h
          subst hr
          exact ⟨_, Wk.refl _, .inl ⟨(), rfl, rfl, rfl⟩⟩
        · replace h := cd_f b4 h
          refine AX.reg (its := [.auto {}, .auto {}, .auto {}, .auto { y := some (.v (.bool false)) }, .auto {}, .auto {}, .auto {}, .auto {}, .auto { y := some (.v (.bool false)) }]) [0, 3, 4, 24] [] (s1 := ⟨[(0, .v (.string p1)), (3, .v (.int .i64 v2)), (4, .v (.int .i64 v3)), (24, .v (.bool (decide (4095 < v2))))], []⟩) (C := (0 ≤ v3 ∧ v3 < (p1.size : Int)) ∧ ((True) ∧ ((.v (.bool (decide ((byteAt p1 v3.toNat) < 48))) : AV) = (.v (.bool false) : AV))) ∧ (0 ≤ v3 ∧ v3 < (p1.size : Int)) ∧ ((True) ∧ ((.v (.bool (decide (57 < (byteAt p1 v3.toNat)))) : AV) = (.v (.bool false) : AV))) ∧ True) (by kernel_rfl) ⟨g2, ⟨⟨trivial, (congrArg (fun z => AV.v (.bool z)) b3)⟩, ⟨g2, ⟨⟨trivial, (congrArg (fun z => AV.v (.bool z)) b4)⟩, trivial⟩⟩⟩⟩ trivial ?_
          rcases bool_cases (decide (4095 < v2)) with b5 | b5
          · replace h := cd_t b5 h
            refine AX.condT (decide (4095 < v2)) (by kernel_rfl) b5 ?_
            refine AX.seq ?_
            refine AX.reg (its := []) [2] [] (s1 := ⟨[(2, .v (.int .i64 (-1)))], []⟩) (C := True) (by kernel_rfl) trivial trivial ?_
            refine AX.ret ?_
            refine fin_wk (Wk.forget [2] [] (s' := ⟨[(2, .v (.int .i64 (-1)))], []⟩) (by kernel_rfl)) ?_
            have hr := Option.some.inj h
            subst hr
            exact ⟨_, Wk.refl _, .inl ⟨(), rfl, rfl, rfl⟩⟩
          · replace h := cd_f b5 h
            refine AX.condF (decide (4095 < v2)) (by kernel_rfl) b5 ?_
            refine AX.skip ?_
            obtain ⟨v4, q6, h⟩ := nm_e h
            refine AX.reg (its := [.auto {}, .auto { raw := true }, .auto {}, .auto {}, .auto {}, .auto { raw := true }, .auto { y := some (.v (.int .i64 v4)), raw := true }, .auto { raw := true }]) [0, 3, 4] [] (s1 := ⟨[(0, .v (.string p1)), (3, .v (.int .i64 (IntKind.wrap .i64 ((IntKind.wrap .i64 (10 * v2)) + v4)))), (4, .v (.int .i64 v3))], []⟩) (C := (0 ≤ v3 ∧ v3 < (p1.size : Int)) ∧ ((True) ∧ ((.v (.int .i64 (IntKind.wrap .i64 (IntKind.wrap .u8 ((byteAt p1 v3.toNat) - 48)))) : AV) = (.v (.int .i64 v4) : AV))) ∧ True) (by kernel_rfl) ⟨g2, ⟨⟨trivial, (congrArg (fun z => AV.v (.int .i64 z)) q6)⟩, trivial⟩⟩ trivial ?_
            refine AX.reg (its := [.auto {}, .auto { raw := true }]) [0, 3, 4] [] (s1 := ⟨[(0, .v (.string p1)), (3, .v (.int .i64 (IntKind.wrap .i64 ((IntKind.wrap .i64 (10 * v2)) + v4)))), (4, .v (.int .i64 (IntKind.wrap .i64 (v3 + 1))))], []⟩) (C := True) (by kernel_rfl) trivial trivial ?_
            refine ⟨(fu, (IntKind.wrap .i64 ((IntKind.wrap .i64 (10 * v2)) + v4), IntKind.wrap .i64 (v3 + 1))), h, Nat.lt_succ_self _, ?_⟩
            refine Wk.trans (Wk.forget [0, 3, 4] [] (s' := ⟨[(0, .v (.string p1)), (3, .v (.int .i64 (IntKind.wrap .i64 ((IntKind.wrap .i64 (10 * v2)) + v4)))), (4, .v (.int .i64 (IntKind.wrap .i64 (v3 + 1))))], []⟩) (by kernel_rfl)) ?_
            exact Wk.refl _
    · replace h := cd_f b1 h
      refine AX.condF (decide (v3 < (p1.size : Int))) (by kernel_rfl) b1 ?_
      refine AX.exit ?_
      refine fin_wk (Wk.forget [0, 3] [] (s' := ⟨[(0, .v (.string p1)), (3, .v (.int .i64 v2))], []⟩) (by kernel_rfl)) ?_
      have hr := Option.some.inj h
      subst hr
      exact ⟨_, Wk.refl _, .inr ⟨v2, rfl, rfl, rfl⟩⟩

theorem s_spec_readNumber (p1 : ByteArray) (r : Int) (h : m_spec_readNumber p1 = some r) :
    Eng.Spec Tryd.prog 125 [.v (.string p1)] [] (.v (.int .i64 r)) [] := by
  unfold m_spec_readNumber at h
  refine Eng.Spec.body Tryd.func125 (by kernel_rfl) rfl (by kernel_rfl) ?_
  refine AX.wkpost ?_
  refine AX.seq ?_
  refine AX.reg (its := []) [0] [] (s1 := ⟨[(0, .v (.string p1))], []⟩) (C := True) (by kernel_rfl) trivial trivial ?_
  refine AX.seq ?_
  refine AX.reg (its := []) [0, 3] [] (s1 := ⟨[(0, .v (.string p1)), (3, .v (.int .i64 0))], []⟩) (C := True) (by kernel_rfl) trivial trivial ?_
  refine AX.seq ?_
  refine AX.seq ?_
  refine AX.reg (its := []) [0, 3, 4] [] (s1 := ⟨[(0, .v (.string p1)), (3, .v (.int .i64 0)), (4, .v (.int .i64 0))], []⟩) (C := True) (by kernel_rfl) trivial trivial ?_
  refine AX.block ?_
  obtain ⟨x5, e7, h⟩ := bd_e h
  refine AX.wk (Wk.forget [0, 3, 4] [] (s' := ⟨[(0, .v (.string p1)), (3, .v (.int .i64 0)), (4, .v (.int .i64 0))], []⟩) (by kernel_rfl)) ?_
  refine AX.mono (s_spec_readNumber_L1 p1 FU (0, 0) x5 e7) ?_
  rintro _ _ (⟨x6, rfl, rfl, rfl⟩ | ⟨x7, rfl, rfl, rfl⟩)
  · replace h := sm_l h
    refine fin_wk (Wk.forget [2] [] (s' := ⟨[(2, .v (.int .i64 (-1)))], []⟩) (by kernel_rfl)) ?_
    have hr := Option.some.inj h
    subst hr
    exact ⟨_, Wk.refl _, .inr rfl, ⟨[], by kernel_rfl, trivial, [.v (.int .i64 (-1))], by kernel_rfl, by kernel_rfl⟩⟩
  · replace h := sm_r h
    refine AX.seq ?_
    refine AX.seq ?_
    rcases bool_cases (decide (p1 = ByteArray.empty)) with b8 | b8
    · replace h := cd_t b8 h
      refine AX.reg (its := [.auto {}, .auto { y := some (.v (.bool true)) }]) [3, 44] [] (s1 := ⟨[(3, .v (.int .i64 x7)), (44, .v (.bool true))], []⟩) (C := ((True) ∧ ((.v (.bool (decide (p1 = ByteArray.empty))) : AV) = (.v (.bool true) : AV))) ∧ True) (by kernel_rfl) ⟨⟨trivial, (congrArg (fun z => AV.v (.bool z)) b8)⟩, trivial⟩ trivial ?_
      refine AX.cond_true (by kernel_rfl) ?_
      refine AX.seq ?_
      refine AX.reg (its := []) [2] [] (s1 := ⟨[(2, .v (.int .i64 (-1)))], []⟩) (C := True) (by kernel_rfl) trivial trivial ?_
      refine AX.ret ?_
      refine fin_wk (Wk.forget [2] [] (s' := ⟨[(2, .v (.int .i64 (-1)))], []⟩) (by kernel_rfl)) ?_
      have hr := Option.some.inj h
      subst hr
      exact ⟨_, Wk.refl _, .inr rfl, ⟨[], by kernel_rfl, trivial, [.v (.int .i64 (-1))], by kernel_rfl, by kernel_rfl⟩⟩
    · replace h := cd_f b8 h
      rcases bool_cases (decide (4096 < x7)) with b9 | b9
      · replace h := cd_t b9 h
        refine AX.reg (its := [.auto {}, .auto { y := some (.v (.bool false)) }, .auto {}, .auto {}, .auto { y := some (.v (.bool true)) }]) [3, 44] [] (s1 := ⟨[(3, .v (.int .i64 x7)), (44, .v (.bool true))], []⟩) (C := ((True) ∧ ((.v (.bool (decide (p1 = ByteArray.empty))) : AV) = (.v (.bool false) : AV))) ∧ ((True) ∧ ((.v (.bool (decide (4096 < x7))) : AV) = (.v (.bool true) : AV))) ∧ True) (by kernel_rfl) ⟨⟨trivial, (congrArg (fun z => AV.v (.bool z)) b8)⟩, ⟨⟨trivial, (congrArg (fun z => AV.v (.bool z)) b9)⟩, trivial⟩⟩ trivial ?_
        refine AX.cond_true (by kernel_rfl) ?_
        refine AX.seq ?_
        refine AX.reg (its := []) [2] [] (s1 := ⟨[(2, .v (.int .i64 (-1)))], []⟩) (C := True) (by kernel_rfl) trivial trivial ?_
        refine AX.ret ?_
        refine fin_wk (Wk.forget [2] [] (s' := ⟨[(2, .v (.int .i64 (-1)))], []⟩) (by kernel_rfl)) ?_
        have hr := Option.some.inj h
        subst hr
        exact ⟨_, Wk.refl _, .inr rfl, ⟨[], by kernel_rfl, trivial, [.v (.int .i64 (-1))], by kernel_rfl, by kernel_rfl⟩⟩
      · replace h := cd_f b9 h
        obtain ⟨x8, e10, h⟩ := bd_e h
        refine AX.reg (its := [.auto {}, .auto { y := some (.v (.bool false)) }, .auto {}, .auto {}, .auto { y := some (.v (.bool false)) }, .auto {}, .auto {}, .auto {}, .call 61 [.v (.int .i64 x7)] (handO (rho ([] ++ [])) [] [] ++ []) (callEv [] [] (.v (.string x8)) [])]) [3, 44] [] (s1 := ⟨[(3, .v (.int .i64 x7)), (44, .v (.bool (!decide (x8 = p1))))], []⟩) (C := ((True) ∧ ((.v (.bool (decide (p1 = ByteArray.empty))) : AV) = (.v (.bool false) : AV))) ∧ ((True) ∧ ((.v (.bool (decide (4096 < x7))) : AV) = (.v (.bool false) : AV))) ∧ ((([.v (.int .i64 x7)] : List AV) = [.v (.int .i64 x7)]) ∧ True) ∧ True) (by kernel_rfl) ⟨⟨trivial, (congrArg (fun z => AV.v (.bool z)) b8)⟩, ⟨⟨trivial, (congrArg (fun z => AV.v (.bool z)) b9)⟩, ⟨⟨rfl, trivial⟩, trivial⟩⟩⟩ ⟨call_ok (ks := []) (ns := []) (bor := []) (bobjs := []) (s_spec_number FU x7 x8 e10) (.cons (.c1 (.c0 (.same _ (by kernel_rfl) (by kernel_rfl)))) (.nil)) (by kernel_rfl) trivial, trivial⟩ ?_
        rcases bool_cases ((!decide (x8 = p1))) with b11 | b11
        · replace h := cd_t b11 h
          refine AX.condT ((!decide (x8 = p1))) (by kernel_rfl) b11 ?_
          refine AX.seq ?_
          refine AX.reg (its := []) [2] [] (s1 := ⟨[(2, .v (.int .i64 (-1)))], []⟩) (C := True) (by kernel_rfl) trivial trivial ?_
          refine AX.ret ?_
          refine fin_wk (Wk.forget [2] [] (s' := ⟨[(2, .v (.int .i64 (-1)))], []⟩) (by kernel_rfl)) ?_
          have hr := Option.some.inj h
          subst hr
          exact ⟨_, Wk.refl _, .inr rfl, ⟨[], by kernel_rfl, trivial, [.v (.int .i64 (-1))], by kernel_rfl, by kernel_rfl⟩⟩
        · replace h := cd_f b11 h
          refine AX.condF ((!decide (x8 = p1))) (by kernel_rfl) b11 ?_
          refine AX.skip ?_
          refine AX.seq ?_
          refine AX.reg (its := []) [2] [] (s1 := ⟨[(2, .v (.int .i64 x7))], []⟩) (C := True) (by kernel_rfl) trivial trivial ?_
          refine AX.ret ?_
          refine fin_wk (Wk.forget [2] [] (s' := ⟨[(2, .v (.int .i64 x7))], []⟩) (by kernel_rfl)) ?_
          have hr := Option.some.inj h
          subst hr
          exact ⟨_, Wk.refl _, .inr rfl, ⟨[], by kernel_rfl, trivial, [.v (.int .i64 x7)], by kernel_rfl, by kernel_rfl⟩⟩

theorem s_spec_readSigned (p1 : ByteArray) (r : Int × Bool) (h : m_spec_readSigned p1 = some r) :
    Eng.Spec Tryd.prog 132 [.v (.string p1)] [] (.tup [.v (.int .i64 r.1), .v (.bool r.2)]) [] := by
  unfold m_spec_readSigned at h
  refine Eng.Spec.body Tryd.func132 (by kernel_rfl) rfl (by kernel_rfl) ?_
  refine AX.wkpost ?_
  refine AX.seq ?_
  refine AX.reg (its := []) [0] [] (s1 := ⟨[(0, .v (.string p1))], []⟩) (C := True) (by kernel_rfl) trivial trivial ?_
  refine AX.seq ?_
  rcases bool_cases ((!decide (p1 = ByteArray.empty))) with b1 | b1
  · replace h := cd_t b1 h
    obtain ⟨g2, h⟩ := gd_e h
    refine AX.reg (its := [.auto {}, .auto { y := some (.v (.bool true)) }]) [0, 4] [] (s1 := ⟨[(0, .v (.string p1)), (4, .v (.bool (decide ((byteAt p1 (0 : Int).toNat) = 45))))], []⟩) (C := ((True) ∧ ((.v (.bool (!decide (p1 = ByteArray.empty))) : AV) = (.v (.bool true) : AV))) ∧ (0 ≤ (0 : Int) ∧ (0 : Int) < (p1.size : Int)) ∧ True) (by kernel_rfl) ⟨⟨trivial, (congrArg (fun z => AV.v (.bool z)) b1)⟩, ⟨g2, trivial⟩⟩ trivial ?_
    refine AX.seq ?_
    refine AX.seq ?_
    refine AX.reg (its := []) [0, 4, 13] [] (s1 := ⟨[(0, .v (.string p1)), (4, .v (.bool (decide ((byteAt p1 (0 : Int).toNat) = 45)))), (13, .v (.bool (decide ((byteAt p1 (0 : Int).toNat) = 45))))], []⟩) (C := True) (by kernel_rfl) trivial trivial ?_
    rcases bool_cases (decide ((byteAt p1 (0 : Int).toNat) = 45)) with b3 | b3
    · replace h := cd_t b3 h
      refine AX.condT (decide ((byteAt p1 (0 : Int).toNat) = 45)) (by kernel_rfl) b3 ?_
      obtain ⟨g4, h⟩ := gd_e h
      refine AX.reg (its := []) [0, 4] [] (s1 := ⟨[(0, .v (.string (p1.extract (1 : Int).toNat (p1.size : Int).toNat))), (4, .v (.bool (decide ((byteAt p1 (0 : Int).toNat) = 45))))], []⟩) (C := (0 ≤ (1 : Int) ∧ (1 : Int) ≤ (p1.size : Int) ∧ (p1.size : Int) ≤ (p1.size : Int)) ∧ True) (by kernel_rfl) ⟨g4, trivial⟩ trivial ?_
      refine AX.seq ?_
      obtain ⟨x2, e5, h⟩ := bd_e h
      refine AX.reg (its := [.auto {}, .call 125 [.v (.string (p1.extract (1 : Int).toNat (p1.size : Int).toNat))] (handO (rho ([] ++ [])) [] [] ++ []) (callEv [] [] (.v (.int .i64 x2)) [])]) [4, 5] [] (s1 := ⟨[(4, .v (.bool (decide ((byteAt p1 (0 : Int).toNat) = 45)))), (5, .v (.int .i64 x2))], []⟩) (C := ((([.v (.string (p1.extract (1 : Int).toNat (p1.size : Int).toNat))] : List AV) = [.v (.string (p1.extract (1 : Int).toNat (p1.size : Int).toNat))]) ∧ True) ∧ True) (by kernel_rfl) ⟨⟨rfl, trivial⟩, trivial⟩ ⟨call_ok (ks := []) (ns := []) (bor := []) (bobjs := []) (s_spec_readNumber (p1.extract (1 : Int).toNat (p1.size : Int).toNat) x2 e5) (.cons (.c1 (.c0 (.same _ (by kernel_rfl) (by kernel_rfl)))) (.nil)) (by kernel_rfl) trivial, trivial⟩ ?_
      refine AX.seq ?_
      refine AX.seq ?_
      rcases bool_cases (decide (x2 < 0)) with b6 | b6
      · replace h := cd_t b6 h
        refine AX.reg (its := [.auto {}, .auto { y := some (.v (.bool true)) }]) [4, 5, 26] [] (s1 := ⟨[(4, .v (.bool (decide ((byteAt p1 (0 : Int).toNat) = 45)))), (5, .v (.int .i64 x2)), (26, .v (.bool true))], []⟩) (C := ((True) ∧ ((.v (.bool (decide (x2 < 0))) : AV) = (.v (.bool true) : AV))) ∧ True) (by kernel_rfl) ⟨⟨trivial, (congrArg (fun z => AV.v (.bool z)) b6)⟩, trivial⟩ trivial ?_
        refine AX.cond_true (by kernel_rfl) ?_
        refine AX.seq ?_
        refine AX.reg (its := []) [2, 3] [] (s1 := ⟨[(2, .v (.int .i64 0)), (3, .v (.bool false))], []⟩) (C := True) (by kernel_rfl) trivial trivial ?_
        refine AX.ret ?_
        refine fin_wk (Wk.forget [2, 3] [] (s' := ⟨[(2, .v (.int .i64 0)), (3, .v (.bool false))], []⟩) (by kernel_rfl)) ?_
        have hr := Option.some.inj h
        subst hr
        exact ⟨_, Wk.refl _, .inr rfl, ⟨[], by kernel_rfl, trivial, [.v (.int .i64 0), .v (.bool false)], by kernel_rfl, by kernel_rfl⟩⟩
      · replace h := cd_f b6 h
        refine AX.reg (its := [.auto {}, .auto { y := some (.v (.bool false)) }, .auto {}, .auto { y := some (.v (.bool true)) }]) [4, 5, 26] [] (s1 := ⟨[(4, .v (.bool (decide ((byteAt p1 (0 : Int).toNat) = 45)))), (5, .v (.int .i64 x2)), (26, .v (.bool (decide (x2 = 0))))], []⟩) (C := ((True) ∧ ((.v (.bool (decide (x2 < 0))) : AV) = (.v (.bool false) : AV))) ∧ ((True) ∧ ((.v (.bool (decide ((byteAt p1 (0 : Int).toNat) = 45))) : AV) = (.v (.bool true) : AV))) ∧ True) (by kernel_rfl) ⟨⟨trivial, (congrArg (fun z => AV.v (.bool z)) b6)⟩, ⟨⟨trivial, (congrArg (fun z => AV.v (.bool z)) b3)⟩, trivial⟩⟩ trivial ?_
        rcases bool_cases (decide (x2 = 0)) with b7 | b7
        · replace h := cd_t b7 h
          refine AX.condT (decide (x2 = 0)) (by kernel_rfl) b7 ?_
          refine AX.seq ?_
          refine AX.reg (its := []) [2, 3] [] (s1 := ⟨[(2, .v (.int .i64 0)), (3, .v (.bool false))], []⟩) (C := True) (by kernel_rfl) trivial trivial ?_
          refine AX.ret ?_
          refine fin_wk (Wk.forget [2, 3] [] (s' := ⟨[(2, .v (.int .i64 0)), (3, .v (.bool false))], []⟩) (by kernel_rfl)) ?_
          have hr := Option.some.inj h
          subst hr
          exact ⟨_, Wk.refl _, .inr rfl, ⟨[], by kernel_rfl, trivial, [.v (.int .i64 0), .v (.bool false)], by kernel_rfl, by kernel_rfl⟩⟩
        · replace h := cd_f b7 h
          refine AX.condF (decide (x2 = 0)) (by kernel_rfl) b7 ?_
          refine AX.skip ?_
          refine AX.seq ?_
          refine AX.seq ?_
          refine AX.reg (its := []) [5, 27] [] (s1 := ⟨[(5, .v (.int .i64 x2)), (27, .v (.bool (decide ((byteAt p1 (0 : Int).toNat) = 45))))], []⟩) (C := True) (by kernel_rfl) trivial trivial ?_
          refine AX.condT (decide ((byteAt p1 (0 : Int).toNat) = 45)) (by kernel_rfl) b3 ?_
          refine AX.seq ?_
          refine AX.reg (its := [.auto {}, .auto { raw := true }]) [2, 3] [] (s1 := ⟨[(2, .v (.int .i64 (IntKind.wrap .i64 (0 - x2)))), (3, .v (.bool true))], []⟩) (C := True) (by kernel_rfl) trivial trivial ?_
          refine AX.ret ?_
          refine fin_wk (Wk.forget [2, 3] [] (s' := ⟨[(2, .v (.int .i64 (IntKind.wrap .i64 (0 - x2)))), (3, .v (.bool true))], []⟩) (by kernel_rfl)) ?_
          have hr := Option.some.inj h
          subst hr
          exact ⟨_, Wk.refl _, .inr rfl, ⟨[], by kernel_rfl, trivial, [.v (.int .i64 (IntKind.wrap .i64 (0 - x2))), .v (.bool true)], by kernel_rfl, by kernel_rfl⟩⟩
    · replace h := cd_f b3 h
      refine AX.condF (decide ((byteAt p1 (0 : Int).toNat) = 45)) (by kernel_rfl) b3 ?_
      refine AX.skip ?_
      refine AX.seq ?_
      obtain ⟨x3, e8, h⟩ := bd_e h
      refine AX.reg (its := [.auto {}, .call 125 [.v (.string p1)] (handO (rho ([] ++ [])) [] [] ++ []) (callEv [] [] (.v (.int .i64 x3)) [])]) [4, 5] [] (s1 := ⟨[(4, .v (.bool (decide ((byteAt p1 (0 : Int).toNat) = 45)))), (5, .v (.int .i64 x3))], []⟩) (C := ((([.v (.string p1)] : List AV) = [.v (.string p1)]) ∧ True) ∧ True) (by kernel_rfl) ⟨⟨rfl, trivial⟩, trivial⟩ ⟨call_ok (ks := []) (ns := []) (bor := []) (bobjs := []) (s_spec_readNumber p1 x3 e8) (.cons (.c1 (.c0 (.same _ (by kernel_rfl) (by kernel_rfl)))) (.nil)) (by kernel_rfl) trivial, trivial⟩ ?_
      refine AX.seq ?_
      refine AX.seq ?_
      rcases bool_cases (decide (x3 < 0)) with b9 | b9
      · replace h := cd_t b9 h
        refine AX.reg (its := [.auto {}, .auto { y := some (.v (.bool true)) }]) [4, 5, 26] [] (s1 := ⟨[(4, .v (.bool (decide ((byteAt p1 (0 : Int).toNat) = 45)))), (5, .v (.int .i64 x3)), (26, .v (.bool true))], []⟩) (C := ((True) ∧ ((.v (.bool (decide (x3 < 0))) : AV) = (.v (.bool true) : AV))) ∧ True) (by kernel_rfl) ⟨⟨trivial, (congrArg (fun z => AV.v (.bool z)) b9)⟩, trivial⟩ trivial ?_
        refine AX.cond_true (by kernel_rfl) ?_
        refine AX.seq ?_
        refine AX.reg (its := []) [2, 3] [] (s1 := ⟨[(2, .v (.int .i64 0)), (3, .v (.bool false))], []⟩) (C := True) (by kernel_rfl) trivial trivial ?_
        refine AX.ret ?_
        refine fin_wk (Wk.forget [2, 3] [] (s' := ⟨[(2, .v (.int .i64 0)), (3, .v (.bool false))], []⟩) (by kernel_rfl)) ?_
        have hr := Option.some.inj h
        subst hr
        exact ⟨_, Wk.refl _, .inr rfl, ⟨[], by kernel_rfl, trivial, [.v (.int .i64 0), .v (.bool false)], by kernel_rfl, by kernel_rfl⟩⟩
      · replace h := cd_f b9 h
        refine AX.reg (its := [.auto {}, .auto { y := some (.v (.bool false)) }, .auto {}, .auto { y := some (.v (.bool false)) }]) [4, 5, 26] [] (s1 := ⟨[(4, .v (.bool (decide ((byteAt p1 (0 : Int).toNat) = 45)))), (5, .v (.int .i64 x3)), (26, .v (.bool false))], []⟩) (C := ((True) ∧ ((.v (.bool (decide (x3 < 0))) : AV) = (.v (.bool false) : AV))) ∧ ((True) ∧ ((.v (.bool (decide ((byteAt p1 (0 : Int).toNat) = 45))) : AV) = (.v (.bool false) : AV))) ∧ True) (by kernel_rfl) ⟨⟨trivial, (congrArg (fun z => AV.v (.bool z)) b9)⟩, ⟨⟨trivial, (congrArg (fun z => AV.v (.bool z)) b3)⟩, trivial⟩⟩ trivial ?_
        refine AX.cond_false (by kernel_rfl) ?_
        refine AX.skip ?_
        refine AX.seq ?_
        refine AX.seq ?_
        refine AX.reg (its := []) [5, 27] [] (s1 := ⟨[(5, .v (.int .i64 x3)), (27, .v (.bool (decide ((byteAt p1 (0 : Int).toNat) = 45))))], []⟩) (C := True) (by kernel_rfl) trivial trivial ?_
        refine AX.condF (decide ((byteAt p1 (0 : Int).toNat) = 45)) (by kernel_rfl) b3 ?_
        refine AX.skip ?_
        refine AX.seq ?_
        refine AX.reg (its := []) [2, 3] [] (s1 := ⟨[(2, .v (.int .i64 x3)), (3, .v (.bool true))], []⟩) (C := True) (by kernel_rfl) trivial trivial ?_
        refine AX.ret ?_
        refine fin_wk (Wk.forget [2, 3] [] (s' := ⟨[(2, .v (.int .i64 x3)), (3, .v (.bool true))], []⟩) (by kernel_rfl)) ?_
        have hr := Option.some.inj h
        subst hr
        exact ⟨_, Wk.refl _, .inr rfl, ⟨[], by kernel_rfl, trivial, [.v (.int .i64 x3), .v (.bool true)], by kernel_rfl, by kernel_rfl⟩⟩
  · replace h := cd_f b1 h
    refine AX.reg (its := [.auto {}, .auto { y := some (.v (.bool false)) }]) [0, 4] [] (s1 := ⟨[(0, .v (.string p1)), (4, .v (.bool false))], []⟩) (C := ((True) ∧ ((.v (.bool (!decide (p1 = ByteArray.empty))) : AV) = (.v (.bool false) : AV))) ∧ True) (by kernel_rfl) ⟨⟨trivial, (congrArg (fun z => AV.v (.bool z)) b1)⟩, trivial⟩ trivial ?_
    refine AX.seq ?_
    refine AX.seq ?_
    refine AX.reg (its := []) [0, 4, 13] [] (s1 := ⟨[(0, .v (.string p1)), (4, .v (.bool false)), (13, .v (.bool false))], []⟩) (C := True) (by kernel_rfl) trivial trivial ?_
    refine AX.cond_false (by kernel_rfl) ?_
    refine AX.skip ?_
    refine AX.seq ?_
    obtain ⟨x4, e10, h⟩ := bd_e h
    refine AX.reg (its := [.auto {}, .call 125 [.v (.string p1)] (handO (rho ([] ++ [])) [] [] ++ []) (callEv [] [] (.v (.int .i64 x4)) [])]) [4, 5] [] (s1 := ⟨[(4, .v (.bool false)), (5, .v (.int .i64 x4))], []⟩) (C := ((([.v (.string p1)] : List AV) = [.v (.string p1)]) ∧ True) ∧ True) (by kernel_rfl) ⟨⟨rfl, trivial⟩, trivial⟩ ⟨call_ok (ks := []) (ns := []) (bor := []) (bobjs := []) (s_spec_readNumber p1 x4 e10) (.cons (.c1 (.c0 (.same _ (by kernel_rfl) (by kernel_rfl)))) (.nil)) (by kernel_rfl) trivial, trivial⟩ ?_
    refine AX.seq ?_
    refine AX.seq ?_
    rcases bool_cases (decide (x4 < 0)) with b11 | b11
    · replace h := cd_t b11 h
      refine AX.reg (its := [.auto {}, .auto { y := some (.v (.bool true)) }]) [4, 5, 26] [] (s1 := ⟨[(4, .v (.bool false)), (5, .v (.int .i64 x4)), (26, .v (.bool true))], []⟩) (C := ((True) ∧ ((.v (.bool (decide (x4 < 0))) : AV) = (.v (.bool true) : AV))) ∧ True) (by kernel_rfl) ⟨⟨trivial, (congrArg (fun z => AV.v (.bool z)) b11)⟩, trivial⟩ trivial ?_
      refine AX.cond_true (by kernel_rfl) ?_
      refine AX.seq ?_
      refine AX.reg (its := []) [2, 3] [] (s1 := ⟨[(2, .v (.int .i64 0)), (3, .v (.bool false))], []⟩) (C := True) (by kernel_rfl) trivial trivial ?_
      refine AX.ret ?_
      refine fin_wk (Wk.forget [2, 3] [] (s' := ⟨[(2, .v (.int .i64 0)), (3, .v (.bool false))], []⟩) (by kernel_rfl)) ?_
      have hr := Option.some.inj h
      subst hr
      exact ⟨_, Wk.refl _, .inr rfl, ⟨[], by kernel_rfl, trivial, [.v (.int .i64 0), .v (.bool false)], by kernel_rfl, by kernel_rfl⟩⟩
    · replace h := cd_f b11 h
      refine AX.reg (its := [.auto {}, .auto { y := some (.v (.bool false)) }]) [4, 5, 26] [] (s1 := ⟨[(4, .v (.bool false)), (5, .v (.int .i64 x4)), (26, .v (.bool false))], []⟩) (C := ((True) ∧ ((.v (.bool (decide (x4 < 0))) : AV) = (.v (.bool false) : AV))) ∧ True) (by kernel_rfl) ⟨⟨trivial, (congrArg (fun z => AV.v (.bool z)) b11)⟩, trivial⟩ trivial ?_
      refine AX.cond_false (by kernel_rfl) ?_
      refine AX.skip ?_
      refine AX.seq ?_
      refine AX.seq ?_
      refine AX.reg (its := []) [5, 27] [] (s1 := ⟨[(5, .v (.int .i64 x4)), (27, .v (.bool false))], []⟩) (C := True) (by kernel_rfl) trivial trivial ?_
      refine AX.cond_false (by kernel_rfl) ?_
      refine AX.skip ?_
      refine AX.seq ?_
      refine AX.reg (its := []) [2, 3] [] (s1 := ⟨[(2, .v (.int .i64 x4)), (3, .v (.bool true))], []⟩) (C := True) (by kernel_rfl) trivial trivial ?_
      refine AX.ret ?_
      refine fin_wk (Wk.forget [2, 3] [] (s' := ⟨[(2, .v (.int .i64 x4)), (3, .v (.bool true))], []⟩) (by kernel_rfl)) ?_
      have hr := Option.some.inj h
      subst hr
      exact ⟨_, Wk.refl _, .inr rfl, ⟨[], by kernel_rfl, trivial, [.v (.int .i64 x4), .v (.bool true)], by kernel_rfl, by kernel_rfl⟩⟩

theorem s_spec_parseItem (p1 : ByteArray) (r : ByteArray × Bool × Int × Bool) (h : m_spec_parseItem p1 = some r) :
    Eng.Spec Tryd.prog 91 [.v (.string p1)] [] (.tup [.agg [.v (.string r.1), .v (.bool r.2.1), .v (.int .i64 r.2.2.1)], .v (.bool r.2.2.2)]) [] := by
  unfold m_spec_parseItem at h
  refine Eng.Spec.body Tryd.func91 (by kernel_rfl) rfl (by kernel_rfl) ?_
  refine AX.wkpost ?_
  refine AX.seq ?_
  refine AX.reg (its := [.auto { nk := 0 }]) [0, 2] [0] (s1 := ⟨[(0, .v (.string p1)), (2, .pt 0 0)], [(0, .box [.v (.string ByteArray.empty), .v (.bool false), .v (.int .i64 0)])]⟩) (C := True) (by kernel_rfl) trivial trivial ?_
  refine AX.seq ?_
  obtain ⟨x2, e1, h⟩ := bd_e h
  refine AX.reg (its := [.auto {}, .call 80 [.v (.string p1), .v (.int .u8 32)] (handO (rho ([] ++ [1])) [] [] ++ []) (callEv [] [1] (.sl 0 0 x2.length) [.arr 1 (List.map enc_s x2)])]) [0, 2, 4] [0, 1] (s1 := ⟨[(0, .v (.string p1)), (2, .pt 0 0), (4, .sl 1 0 x2.length)], [(0, .box [.v (.string ByteArray.empty), .v (.bool false), .v (.int .i64 0)]), (1, .arr 1 (List.map enc_s x2))]⟩) (C := ((([.v (.string p1), .v (.int .u8 32)] : List AV) = [.v (.string p1), .v (.int .u8 32)]) ∧ True) ∧ True) (by kernel_rfl) ⟨⟨rfl, trivial⟩, trivial⟩ ⟨call_ok (ks := []) (ns := [1]) (bor := []) (bobjs := []) (s_spec_splitAt p1 32 x2 e1) (.cons (.c1 (.c0 (.same _ (by kernel_rfl) (by kernel_rfl)))) (.cons (.c1 (.c0 (.same _ (by kernel_rfl) (by kernel_rfl)))) (.nil))) (by kernel_rfl) trivial, trivial⟩ ?_
  refine AX.seq ?_
  refine AX.seq ?_
  refine AX.reg (its := []) [0, 2, 4, 11] [0, 1] (s1 := ⟨[(0, .v (.string p1)), (2, .pt 0 0), (4, .sl 1 0 x2.length), (11, .v (.bool (decide ((x2.length : Int) = 1))))], [(0, .box [.v (.string ByteArray.empty), .v (.bool false), .v (.int .i64 0)]), (1, .arr 1 (List.map enc_s x2))]⟩) (C := True) (by kernel_rfl) trivial trivial ?_
  rcases bool_cases (decide ((x2.length : Int) = 1)) with b2 | b2
  · replace h := cd_t b2 h
    refine AX.condT (decide ((x2.length : Int) = 1)) (by kernel_rfl) b2 ?_
    refine AX.seq ?_
    refine AX.reg (its := []) [2, 3] [0] (s1 := ⟨[(2, .pt 0 0), (3, .v (.bool true))], [(0, .box [.v (.string p1), .v (.bool true), .v (.int .i64 0)])]⟩) (C := True) (by kernel_rfl) trivial trivial ?_
    refine AX.ret ?_
    refine fin_wk (Wk.forget [2, 3] [0] (s' := ⟨[(2, .pt 0 0), (3, .v (.bool true))], [(0, .box [.v (.string p1), .v (.bool true), .v (.int .i64 0)])]⟩) (by kernel_rfl)) ?_
    have hr := Option.some.inj h
    subst hr
    exact ⟨_, Wk.refl _, .inr rfl, ⟨[], by kernel_rfl, trivial, [.agg [.v (.string p1), .v (.bool true), .v (.int .i64 0)], .v (.bool true)], by kernel_rfl, by kernel_rfl⟩⟩
  · replace h := cd_f b2 h
    refine AX.condF (decide ((x2.length : Int) = 1)) (by kernel_rfl) b2 ?_
    refine AX.skip ?_
    refine AX.seq ?_
    refine AX.seq ?_
    rcases bool_cases ((!decide ((x2.length : Int) = 3))) with b3 | b3
    · replace h := cd_t b3 h
      refine AX.reg (its := [.auto {}, .auto {}, .auto { y := some (.v (.bool true)) }]) [2, 4, 22] [0, 1] (s1 := ⟨[(2, .pt 0 0), (4, .sl 1 0 x2.length), (22, .v (.bool true))], [(0, .box [.v (.string ByteArray.empty), .v (.bool false), .v (.int .i64 0)]), (1, .arr 1 (List.map enc_s x2))]⟩) (C := ((True) ∧ ((.v (.bool (!decide ((x2.length : Int) = 3))) : AV) = (.v (.bool true) : AV))) ∧ True) (by kernel_rfl) ⟨⟨trivial, (congrArg (fun z => AV.v (.bool z)) b3)⟩, trivial⟩ trivial ?_
      refine AX.cond_true (by kernel_rfl) ?_
      refine AX.seq ?_
      refine AX.reg (its := []) [2, 3] [0] (s1 := ⟨[(2, .pt 0 0), (3, .v (.bool false))], [(0, .box [.v (.string ByteArray.empty), .v (.bool false), .v (.int .i64 0)])]⟩) (C := True) (by kernel_rfl) trivial trivial ?_
      refine AX.ret ?_
      refine fin_wk (Wk.forget [2, 3] [0] (s' := ⟨[(2, .pt 0 0), (3, .v (.bool false))], [(0, .box [.v (.string ByteArray.empty), .v (.bool false), .v (.int .i64 0)])]⟩) (by kernel_rfl)) ?_
      have hr := Option.some.inj h
      subst hr
      exact ⟨_, Wk.refl _, .inr rfl, ⟨[], by kernel_rfl, trivial, [.agg [.v (.string ByteArray.empty), .v (.bool false), .v (.int .i64 0)], .v (.bool false)], by kernel_rfl, by kernel_rfl⟩⟩
    · replace h := cd_f b3 h
      obtain ⟨g4, h⟩ := gd_e h
      refine AX.reg (its := [.auto {}, .auto {}, .auto { y := some (.v (.bool false)) }, .auto {}, .auto {}, .auto {}, .auto { y := some (.v (.string (gt x2 (1 : Int)))) }]) [2, 4, 22] [0, 1] (s1 := ⟨[(2, .pt 0 0), (4, .sl 1 0 x2.length), (22, .v (.bool (!decide ((gt x2 (1 : Int)) = (ByteArray.mk #[61])))))], [(0, .box [.v (.string ByteArray.empty), .v (.bool false), .v (.int .i64 0)]), (1, .arr 1 (List.map enc_s x2))]⟩) (C := ((True) ∧ ((.v (.bool (!decide ((x2.length : Int) = 3))) : AV) = (.v (.bool false) : AV))) ∧ (0 ≤ (1 : Int) ∧ (1 : Int) < (x2.length : Int)) ∧ (True ∧ (AV.v (((List.map enc_s x2).getD (0 + (1 : Int).toNat) []).getD 0 undef) = .v (.string (gt x2 (1 : Int))))) ∧ True) (by kernel_rfl) ⟨⟨trivial, (congrArg (fun z => AV.v (.bool z)) b3)⟩, ⟨g4, ⟨⟨trivial, (congrArg (fun z : List Value => AV.v (z.getD 0 undef)) (idx_arr (enc := enc_s) rfl g4))⟩, trivial⟩⟩⟩ trivial ?_
      rcases bool_cases ((!decide ((gt x2 (1 : Int)) = (ByteArray.mk #[61])))) with b5 | b5
      · replace h := cd_t b5 h
        refine AX.condT ((!decide ((gt x2 (1 : Int)) = (ByteArray.mk #[61])))) (by kernel_rfl) b5 ?_
        refine AX.seq ?_
        refine AX.reg (its := []) [2, 3] [0] (s1 := ⟨[(2, .pt 0 0), (3, .v (.bool false))], [(0, .box [.v (.string ByteArray.empty), .v (.bool false), .v (.int .i64 0)])]⟩) (C := True) (by kernel_rfl) trivial trivial ?_
        refine AX.ret ?_
        refine fin_wk (Wk.forget [2, 3] [0] (s' := ⟨[(2, .pt 0 0), (3, .v (.bool false))], [(0, .box [.v (.string ByteArray.empty), .v (.bool false), .v (.int .i64 0)])]⟩) (by kernel_rfl)) ?_
        have hr := Option.some.inj h
        subst hr
        exact ⟨_, Wk.refl _, .inr rfl, ⟨[], by kernel_rfl, trivial, [.agg [.v (.string ByteArray.empty), .v (.bool false), .v (.int .i64 0)], .v (.bool false)], by kernel_rfl, by kernel_rfl⟩⟩
      · replace h := cd_f b5 h
        refine AX.condF ((!decide ((gt x2 (1 : Int)) = (ByteArray.mk #[61])))) (by kernel_rfl) b5 ?_
        refine AX.skip ?_
        refine AX.seq ?_
        obtain ⟨g6, h⟩ := gd_e h
        obtain ⟨x3, e7, h⟩ := bd_e h
        refine AX.reg (its := [.auto {}, .auto {}, .auto { y := some (.v (.string (gt x2 (2 : Int)))) }, .call 132 [.v (.string (gt x2 (2 : Int)))] (handO (rho ([] ++ [])) [] [] ++ []) (callEv [] [] (.tup [.v (.int .i64 x3.1), .v (.bool x3.2)]) [])]) [2, 4, 5, 6] [0, 1] (s1 := ⟨[(2, .pt 0 0), (4, .sl 1 0 x2.length), (5, .v (.int .i64 x3.1)), (6, .v (.bool x3.2))], [(0, .box [.v (.string ByteArray.empty), .v (.bool false), .v (.int .i64 0)]), (1, .arr 1 (List.map enc_s x2))]⟩) (C := (0 ≤ (2 : Int) ∧ (2 : Int) < (x2.length : Int)) ∧ (True ∧ (AV.v (((List.map enc_s x2).getD (0 + (2 : Int).toNat) []).getD 0 undef) = .v (.string (gt x2 (2 : Int))))) ∧ ((([.v (.string (gt x2 (2 : Int)))] : List AV) = [.v (.string (gt x2 (2 : Int)))]) ∧ True) ∧ True) (by kernel_rfl) ⟨g6, ⟨⟨trivial, (congrArg (fun z : List Value => AV.v (z.getD 0 undef)) (idx_arr (enc := enc_s) rfl g6))⟩, ⟨⟨rfl, trivial⟩, trivial⟩⟩⟩ ⟨call_ok (ks := []) (ns := []) (bor := []) (bobjs := []) (s_spec_readSigned (gt x2 (2 : Int)) x3 e7) (.cons (.c1 (.c0 (.same _ (by kernel_rfl) (by kernel_rfl)))) (.nil)) (by kernel_rfl) trivial, trivial⟩ ?_
        refine AX.seq ?_
        obtain ⟨g8, h⟩ := gd_e h
        refine AX.reg (its := [.auto {}, .auto {}, .auto { y := some (.v (.string (gt x2 (0 : Int)))) }]) [2, 3] [0] (s1 := ⟨[(2, .pt 0 0), (3, .v (.bool x3.2))], [(0, .box [.v (.string (gt x2 (0 : Int))), .v (.bool false), .v (.int .i64 x3.1)])]⟩) (C := (0 ≤ (0 : Int) ∧ (0 : Int) < (x2.length : Int)) ∧ (True ∧ (AV.v (((List.map enc_s x2).getD (0 + (0 : Int).toNat) []).getD 0 undef) = .v (.string (gt x2 (0 : Int))))) ∧ True) (by kernel_rfl) ⟨g8, ⟨⟨trivial, (congrArg (fun z : List Value => AV.v (z.getD 0 undef)) (idx_arr (enc := enc_s) rfl g8))⟩, trivial⟩⟩ trivial ?_
        refine AX.ret ?_
        refine fin_wk (Wk.forget [2, 3] [0] (s' := ⟨[(2, .pt 0 0), (3, .v (.bool x3.2))], [(0, .box [.v (.string (gt x2 (0 : Int))), .v (.bool false), .v (.int .i64 x3.1)])]⟩) (by kernel_rfl)) ?_
        have hr := Option.some.inj h
        subst hr
        exact ⟨_, Wk.refl _, .inr rfl, ⟨[], by kernel_rfl, trivial, [.agg [.v (.string (gt x2 (0 : Int))), .v (.bool false), .v (.int .i64 x3.1)], .v (.bool x3.2)], by kernel_rfl, by kernel_rfl⟩⟩

theorem s_spec_parseItems_L1 (x2 : List (ByteArray)) (n : Nat) (g : (List (ByteArray × Bool × Int)) × Int) (out : Unit ⊕ List (ByteArray × Bool × Int)) (h : m_spec_parseItems_L1 x2 n g.1 g.2 = some out) :
    AX Tryd.prog 50 0 (codeAt [1, 1, 1, 1, 0, 1, 1] (bodyOf Tryd.f45)) ((fun g : (List (ByteArray × Bool × Int)) × Int => (⟨[(5, .sl 0 0 x2.length), (6, .sl 1 0 g.1.length), (7, .v (.int .i64 g.2))], [(0, .arr 1 (List.map enc_s x2)), (1, .arr 3 (List.map enc_sbi g.1))]⟩ : S)) g) (fun ex s => (∃ o : Unit, out = Sum.inl o ∧ ex = .ret ∧ s = ⟨[(2, .v (.string ByteArray.empty)), (3, .v (.slice none 0 0)), (4, .v (.bool false))], []⟩) ∨ (∃ o : List (ByteArray × Bool × Int), out = Sum.inr o ∧ ex = .exit 0 ∧ s = ⟨[(5, .sl 0 0 x2.length), (6, .sl 1 0 o.length)], [(0, .arr 1 (List.map enc_s x2)), (1, .arr 3 (List.map enc_sbi o))]⟩)) := by
  refine AX.wkpost ?_
  refine AX.loop (G := Nat × ((List (ByteArray × Bool × Int)) × Int)) (fun q => (fun g : (List (ByteArray × Bool × Int)) × Int => (⟨[(5, .sl 0 0 x2.length), (6, .sl 1 0 g.1.length), (7, .v (.int .i64 g.2))], [(0, .arr 1 (List.map enc_s x2)), (1, .arr 3 (List.map enc_sbi g.1))]⟩ : S)) q.2) (fun q => m_spec_parseItems_L1 x2 q.1 q.2.1 q.2.2 = some out) (fun q => q.1) (n, g) h (Wk.refl _) ?_
  clear h
  rintro ⟨fu, v4, v5⟩ h
  cases fu with
  | zero => cases h
  | succ fu =>
    rw [m_spec_parseItems_L1] at h
    refine AX.seq ?_
    refine AX.seq ?_
    refine AX.reg (its := [.auto {}, .auto { raw := true }]) [5, 6, 7, 29] [0, 1] (s1 := ⟨[(5, .sl 0 0 x2.length), (6, .sl 1 0 v4.length), (7, .v (.int .i64 v5)), (29, .v (.bool (decide ((IntKind.wrap .i64 (v5 + 1)) < (x2.length : Int)))))], [(0, .arr 1 (List.map enc_s x2)), (1, .arr 3 (List.map enc_sbi v4))]⟩) (C := True) (by kernel_rfl) trivial trivial ?_
    rcases bool_cases (decide ((IntKind.wrap .i64 (v5 + 1)) < (x2.length : Int))) with b6 | b6
    · replace h := cd_t b6 h
      refine AX.condT (decide ((IntKind.wrap .i64 (v5 + 1)) < (x2.length : Int))) (by kernel_rfl) b6 ?_
      refine AX.skip ?_
      refine AX.seq ?_
      refine AX.block ?_
      refine AX.seq ?_
      obtain ⟨g7, h⟩ := gd_e h
      obtain ⟨x6, e8, h⟩ := bd_e h
      refine AX.reg (its := [.auto {}, .auto {}, .auto {}, .auto { y := some (.v (.string (gt x2 v5))) }, .call 91 [.v (.string (gt x2 v5))] (handO (rho ([] ++ [])) [] [] ++ []) (callEv [] [] (.tup [.agg [.v (.string x6.1), .v (.bool x6.2.1), .v (.int .i64 x6.2.2.1)], .v (.bool x6.2.2.2)]) []), .auto {}, .auto {}, .auto {}, .auto { nk := 2 }]) [5, 6, 7, 8, 9] [0, 1, 2] (s1 := ⟨[(5, .sl 0 0 x2.length), (6, .sl 1 0 v4.length), (7, .v (.int .i64 v5)), (8, .pt 2 0), (9, .v (.bool x6.2.2.2))], [(0, .arr 1 (List.map enc_s x2)), (1, .arr 3 (List.map enc_sbi v4)), (2, .box [.v (.string x6.1), .v (.bool x6.2.1), .v (.int .i64 x6.2.2.1)])]⟩) (C := (0 ≤ v5 ∧ v5 < (x2.length : Int)) ∧ (True ∧ (AV.v (((List.map enc_s x2).getD (0 + v5.toNat) []).getD 0 undef) = .v (.string (gt x2 v5)))) ∧ ((([.v (.string (gt x2 v5))] : List AV) = [.v (.string (gt x2 v5))]) ∧ True) ∧ True) (by kernel_rfl) ⟨g7, ⟨⟨trivial, (congrArg (fun z : List Value => AV.v (z.getD 0 undef)) (idx_arr (enc := enc_s) rfl g7))⟩, ⟨⟨rfl, trivial⟩, trivial⟩⟩⟩ ⟨call_ok (ks := []) (ns := []) (bor := []) (bobjs := []) (s_spec_parseItem (gt x2 v5) x6 e8) (.cons (.c1 (.c0 (.same _ (by kernel_rfl) (by kernel_rfl)))) (.nil)) (by kernel_rfl) trivial, trivial⟩ ?_
      refine AX.seq ?_
      refine AX.seq ?_
      refine AX.reg (its := []) [5, 6, 7, 8, 41] [0, 1, 2] (s1 := ⟨[(5, .sl 0 0 x2.length), (6, .sl 1 0 v4.length), (7, .v (.int .i64 v5)), (8, .pt 2 0), (41, .v (.bool (!x6.2.2.2)))], [(0, .arr 1 (List.map enc_s x2)), (1, .arr 3 (List.map enc_sbi v4)), (2, .box [.v (.string x6.1), .v (.bool x6.2.1), .v (.int .i64 x6.2.2.1)])]⟩) (C := True) (by kernel_rfl) trivial trivial ?_
      rcases bool_cases ((!x6.2.2.2)) with b9 | b9
      · replace h := cd_t b9 h
        refine AX.condT ((!x6.2.2.2)) (by kernel_rfl) b9 ?_
        refine AX.seq ?_
        refine AX.reg (its := []) [2, 3, 4] [] (s1 := ⟨[(2, .v (.string ByteArray.empty)), (3, .v (.slice none 0 0)), (4, .v (.bool false))], []⟩) (C := True) (by kernel_rfl) trivial trivial ?_
        refine AX.ret ?_
        refine fin_wk (Wk.forget [2, 3, 4] [] (s' := ⟨[(2, .v (.string ByteArray.empty)), (3, .v (.slice none 0 0)), (4, .v (.bool false))], []⟩) (by kernel_rfl)) ?_
        have hr := Option.some.inj h
        subst hr
        exact ⟨_, Wk.refl _, .inl ⟨(), rfl, rfl, rfl⟩⟩
      · replace h := cd_f b9 h
        refine AX.condF ((!x6.2.2.2)) (by kernel_rfl) b9 ?_
        refine AX.skip ?_
        obtain ⟨g10, h⟩ := gd_e h
        refine AX.reg (its := [.auto {}, .auto {}, .auto { nk := 3 }, .auto { y := some (.sl 4 0 ((v4 ++ ([(x6.1, x6.2.1, x6.2.2.1)] : List (ByteArray × Bool × Int))).length)), els := some (List.map enc_sbi v4), els2 := some (List.map enc_sbi ([(x6.1, x6.2.1, x6.2.2.1)] : List (ByteArray × Bool × Int))), nk := 4 }]) [5, 6, 7] [0, 4] (s1 := ⟨[(5, .sl 0 0 x2.length), (6, .sl 4 0 ((v4 ++ ([(x6.1, x6.2.1, x6.2.2.1)] : List (ByteArray × Bool × Int))).length)), (7, .v (.int .i64 v5))], [(0, .arr 1 (List.map enc_s x2)), (4, .arr 3 (List.map enc_sbi v4 ++ List.map enc_sbi ([(x6.1, x6.2.1, x6.2.2.1)] : List (ByteArray × Bool × Int))))]⟩) (C := ((((((List.map enc_sbi v4).drop 0).take (v4.length) = List.map enc_sbi v4) ∧ (((List.map enc_sbi ([(x6.1, x6.2.1, x6.2.2.1)] : List (ByteArray × Bool × Int))).drop 0).take (([(x6.1, x6.2.1, x6.2.2.1)] : List (ByteArray × Bool × Int)).length) = List.map enc_sbi ([(x6.1, x6.2.1, x6.2.2.1)] : List (ByteArray × Bool × Int)))) ∧ (List.map enc_sbi v4).length + (List.map enc_sbi ([(x6.1, x6.2.1, x6.2.2.1)] : List (ByteArray × Bool × Int))).length ≤ 1099511627776) ∧ (AV.sl 4 0 (List.map enc_sbi v4 ++ List.map enc_sbi ([(x6.1, x6.2.1, x6.2.2.1)] : List (ByteArray × Bool × Int))).length = AV.sl 4 0 (v4 ++ ([(x6.1, x6.2.1, x6.2.2.1)] : List (ByteArray × Bool × Int))).length)) ∧ True) (by kernel_rfl) ⟨⟨⟨⟨(dt_all (enc := enc_sbi) rfl rfl), (dt_all (enc := enc_sbi) rfl rfl)⟩, (by simp only [List.length_map, List.length_nil, List.length_replicate]; simpa using g10)⟩, sl_len (enc := enc_sbi) (app_can (enc := enc_sbi) rfl (rfl))⟩, trivial⟩ trivial ?_
        refine AX.reg (its := [.auto {}, .auto { raw := true }]) [5, 6, 7] [0, 4] (s1 := ⟨[(5, .sl 0 0 x2.length), (6, .sl 4 0 ((v4 ++ ([(x6.1, x6.2.1, x6.2.2.1)] : List (ByteArray × Bool × Int))).length)), (7, .v (.int .i64 (IntKind.wrap .i64 (v5 + 1))))], [(0, .arr 1 (List.map enc_s x2)), (4, .arr 3 (List.map enc_sbi v4 ++ List.map enc_sbi ([(x6.1, x6.2.1, x6.2.2.1)] : List (ByteArray × Bool × Int))))]⟩) (C := True) (by kernel_rfl) trivial trivial ?_
        refine ⟨(fu, (v4 ++ ([(x6.1, x6.2.1, x6.2.2.1)] : List (ByteArray × Bool × Int)), IntKind.wrap .i64 (v5 + 1))), h, Nat.lt_succ_self _, ?_⟩
        refine Wk.trans (Wk.swap 1 4 (Nat.le_of_ble_eq_true (by kernel_rfl)) (Nat.le_of_ble_eq_true (by kernel_rfl)) rfl) ?_
        refine Wk.trans (Wk.forget [5, 6, 7] [0, 1] (s' := ⟨[(5, .sl 0 0 x2.length), (6, .sl 1 0 ((v4 ++ ([(x6.1, x6.2.1, x6.2.2.1)] : List (ByteArray × Bool × Int))).length)), (7, .v (.int .i64 (IntKind.wrap .i64 (v5 + 1))))], [(0, .arr 1 (List.map enc_s x2)), (1, .arr 3 (List.map enc_sbi v4 ++ List.map enc_sbi ([(x6.1, x6.2.1, x6.2.2.1)] : List (ByteArray × Bool × Int))))]⟩) (by kernel_rfl)) ?_
        refine Wk.trans (Wk.of_eq (congrArg (fun z => (⟨[(5, .sl 0 0 x2.length), (6, .sl 1 0 ((v4 ++ ([(x6.1, x6.2.1, x6.2.2.1)] : List (ByteArray × Bool × Int))).length)), (7, .v (.int .i64 (IntKind.wrap .i64 (v5 + 1))))], [(0, .arr 1 (List.map enc_s x2)), (1, .arr 3 (z))]⟩ : S)) (app_can (enc := enc_sbi) rfl (rfl) : List.map enc_sbi v4 ++ List.map enc_sbi ([(x6.1, x6.2.1, x6.2.2.1)] : List (ByteArray × Bool × Int)) = List.map enc_sbi (v4 ++ ([(x6.1, x6.2.1, x6.2.2.1)] : List (ByteArray × Bool × Int)))))) ?_
        exact Wk.refl _
    · replace h := cd_f b6 h
      refine AX.condF (decide ((IntKind.wrap .i64 (v5 + 1)) < (x2.length : Int))) (by kernel_rfl) b6 ?_
      refine AX.exit ?_
      refine fin_wk (Wk.forget [5, 6] [0, 1] (s' := ⟨[(5, .sl 0 0 x2.length), (6, .sl 1 0 v4.length)], [(0, .arr 1 (List.map enc_s x2)), (1, .arr 3 (List.map enc_sbi v4))]⟩) (by kernel_rfl)) ?_
      have hr := Option.some.inj h
      subst hr
      exact ⟨_, Wk.refl _, .inr ⟨v4, rfl, rfl, rfl⟩⟩

theorem s_spec_parseItems (p1 : ByteArray) (r : ByteArray × (List (ByteArray × Bool × Int)) × Bool) (h : m_spec_parseItems p1 = some r) :
    Eng.Spec Tryd.prog 45 [.v (.string p1)] [] (.tup [.v (.string r.1), .sl 0 0 r.2.1.length, .v (.bool r.2.2)]) [.arr 3 (List.map enc_sbi r.2.1)] := by
  unfold m_spec_parseItems at h
  refine Eng.Spec.body Tryd.func45 (by kernel_rfl) rfl (by kernel_rfl) ?_
  refine AX.wkpost ?_
  refine AX.seq ?_
  refine AX.reg (its := []) [0] [] (s1 := ⟨[(0, .v (.string p1))], []⟩) (C := True) (by kernel_rfl) trivial trivial ?_
  refine AX.seq ?_
  obtain ⟨x2, e1, h⟩ := bd_e h
  refine AX.reg (its := [.auto {}, .call 80 [.v (.string p1), .v (.int .u8 10)] (handO (rho ([] ++ [0])) [] [] ++ []) (callEv [] [0] (.sl 0 0 x2.length) [.arr 1 (List.map enc_s x2)])]) [5] [0] (s1 := ⟨[(5, .sl 0 0 x2.length)], [(0, .arr 1 (List.map enc_s x2))]⟩) (C := ((([.v (.string p1), .v (.int .u8 10)] : List AV) = [.v (.string p1), .v (.int .u8 10)]) ∧ True) ∧ True) (by kernel_rfl) ⟨⟨rfl, trivial⟩, trivial⟩ ⟨call_ok (ks := []) (ns := [0]) (bor := []) (bobjs := []) (s_spec_splitAt p1 10 x2 e1) (.cons (.c1 (.c0 (.same _ (by kernel_rfl) (by kernel_rfl)))) (.cons (.c1 (.c0 (.same _ (by kernel_rfl) (by kernel_rfl)))) (.nil))) (by kernel_rfl) trivial, trivial⟩ ?_
  refine AX.seq ?_
  refine AX.seq ?_
  rcases bool_cases (decide ((x2.length : Int) < 2)) with b2 | b2
  · replace h := cd_t b2 h
    refine AX.reg (its := [.auto {}, .auto {}, .auto { y := some (.v (.bool true)) }]) [5, 23] [0] (s1 := ⟨[(5, .sl 0 0 x2.length), (23, .v (.bool true))], [(0, .arr 1 (List.map enc_s x2))]⟩) (C := ((True) ∧ ((.v (.bool (decide ((x2.length : Int) < 2))) : AV) = (.v (.bool true) : AV))) ∧ True) (by kernel_rfl) ⟨⟨trivial, (congrArg (fun z => AV.v (.bool z)) b2)⟩, trivial⟩ trivial ?_
    refine AX.cond_true (by kernel_rfl) ?_
    refine AX.seq ?_
    refine AX.reg (its := []) [2, 3, 4] [] (s1 := ⟨[(2, .v (.string ByteArray.empty)), (3, .v (.slice none 0 0)), (4, .v (.bool false))], []⟩) (C := True) (by kernel_rfl) trivial trivial ?_
    refine AX.ret ?_
    refine fin_wk (Wk.mat 3 0 3 (by kernel_rfl) (Nat.le_of_ble_eq_true (by kernel_rfl)) (by kernel_rfl) rfl) ?_
    refine fin_wk (Wk.forget [2, 3, 4] [0] (s' := ⟨[(2, .v (.string ByteArray.empty)), (3, .sl 0 0 (([] : List (ByteArray × Bool × Int)).length)), (4, .v (.bool false))], [(0, .arr 3 (List.map enc_sbi ([] : List (ByteArray × Bool × Int))))]⟩) (by kernel_rfl)) ?_
    have hr := Option.some.inj h
    subst hr
    exact ⟨_, Wk.refl _, .inr rfl, ⟨[0], by kernel_rfl, ⟨rfl, trivial⟩, [.v (.string ByteArray.empty), .sl 0 0 (([] : List (ByteArray × Bool × Int)).length), .v (.bool false)], by kernel_rfl, by kernel_rfl⟩⟩
  · replace h := cd_f b2 h
    obtain ⟨g3, h⟩ := gd_e h
    obtain ⟨v3, q4, h⟩ := nm_e h
    refine AX.reg (its := [.auto {}, .auto {}, .auto { y := some (.v (.bool false)) }, .auto {}, .auto {}, .auto {}, .auto {}, .auto { raw := true }, .auto {}, .auto { y := some (.v (.string (gt x2 (IntKind.wrap .i64 ((x2.length : Int) - 1))))) }, .auto { y := some (.v (.bool v3)) }]) [5, 23] [0] (s1 := ⟨[(5, .sl 0 0 x2.length), (23, .v (.bool v3))], [(0, .arr 1 (List.map enc_s x2))]⟩) (C := ((True) ∧ ((.v (.bool (decide ((x2.length : Int) < 2))) : AV) = (.v (.bool false) : AV))) ∧ (0 ≤ (IntKind.wrap .i64 ((x2.length : Int) - 1)) ∧ (IntKind.wrap .i64 ((x2.length : Int) - 1)) < (x2.length : Int)) ∧ (True ∧ (AV.v (((List.map enc_s x2).getD (0 + (IntKind.wrap .i64 ((x2.length : Int) - 1)).toNat) []).getD 0 undef) = .v (.string (gt x2 (IntKind.wrap .i64 ((x2.length : Int) - 1)))))) ∧ ((True) ∧ ((.v (.bool (!decide ((gt x2 (IntKind.wrap .i64 ((x2.length : Int) - 1))) = ByteArray.empty))) : AV) = (.v (.bool v3) : AV))) ∧ True) (by kernel_rfl) ⟨⟨trivial, (congrArg (fun z => AV.v (.bool z)) b2)⟩, ⟨g3, ⟨⟨trivial, (congrArg (fun z : List Value => AV.v (z.getD 0 undef)) (idx_arr (enc := enc_s) rfl g3))⟩, ⟨⟨trivial, (congrArg (fun z => AV.v (.bool z)) q4)⟩, trivial⟩⟩⟩⟩ trivial ?_
    rcases bool_cases (v3) with b5 | b5
    · replace h := cd_t b5 h
      refine AX.condT (v3) (by kernel_rfl) b5 ?_
      refine AX.seq ?_
      refine AX.reg (its := []) [2, 3, 4] [] (s1 := ⟨[(2, .v (.string ByteArray.empty)), (3, .v (.slice none 0 0)), (4, .v (.bool false))], []⟩) (C := True) (by kernel_rfl) trivial trivial ?_
      refine AX.ret ?_
      refine fin_wk (Wk.mat 3 0 3 (by kernel_rfl) (Nat.le_of_ble_eq_true (by kernel_rfl)) (by kernel_rfl) rfl) ?_
      refine fin_wk (Wk.forget [2, 3, 4] [0] (s' := ⟨[(2, .v (.string ByteArray.empty)), (3, .sl 0 0 (([] : List (ByteArray × Bool × Int)).length)), (4, .v (.bool false))], [(0, .arr 3 (List.map enc_sbi ([] : List (ByteArray × Bool × Int))))]⟩) (by kernel_rfl)) ?_
      have hr := Option.some.inj h
      subst hr
      exact ⟨_, Wk.refl _, .inr rfl, ⟨[0], by kernel_rfl, ⟨rfl, trivial⟩, [.v (.string ByteArray.empty), .sl 0 0 (([] : List (ByteArray × Bool × Int)).length), .v (.bool false)], by kernel_rfl, by kernel_rfl⟩⟩
    · replace h := cd_f b5 h
      refine AX.condF (v3) (by kernel_rfl) b5 ?_
      refine AX.skip ?_
      refine AX.seq ?_
      refine AX.reg (its := [.auto { nk := 1 }]) [5, 6] [0, 1] (s1 := ⟨[(5, .sl 0 0 x2.length), (6, .sl 1 0 (([] : List (ByteArray × Bool × Int)).length))], [(0, .arr 1 (List.map enc_s x2)), (1, .arr 3 (List.map enc_sbi ([] : List (ByteArray × Bool × Int))))]⟩) (C := True) (by kernel_rfl) trivial trivial ?_
      refine AX.seq ?_
      refine AX.seq ?_
      refine AX.reg (its := []) [5, 6, 7] [0, 1] (s1 := ⟨[(5, .sl 0 0 x2.length), (6, .sl 1 0 (([] : List (ByteArray × Bool × Int)).length)), (7, .v (.int .i64 1))], [(0, .arr 1 (List.map enc_s x2)), (1, .arr 3 (List.map enc_sbi ([] : List (ByteArray × Bool × Int))))]⟩) (C := True) (by kernel_rfl) trivial trivial ?_
      refine AX.block ?_
      obtain ⟨x7, e11, h⟩ := bd_e h
      refine AX.wk (Wk.forget [5, 6, 7] [0, 1] (s' := ⟨[(5, .sl 0 0 x2.length), (6, .sl 1 0 (([] : List (ByteArray × Bool × Int)).length)), (7, .v (.int .i64 1))], [(0, .arr 1 (List.map enc_s x2)), (1, .arr 3 (List.map enc_sbi ([] : List (ByteArray × Bool × Int))))]⟩) (by kernel_rfl)) ?_
      refine AX.mono (s_spec_parseItems_L1 x2 FU (([] : List (ByteArray × Bool × Int)), 1) x7 e11) ?_
      rintro _ _ (⟨x8, rfl, rfl, rfl⟩ | ⟨x9, rfl, rfl, rfl⟩)
      · replace h := sm_l h
        refine fin_wk (Wk.mat 3 0 3 (by kernel_rfl) (Nat.le_of_ble_eq_true (by kernel_rfl)) (by kernel_rfl) rfl) ?_
        refine fin_wk (Wk.forget [2, 3, 4] [0] (s' := ⟨[(2, .v (.string ByteArray.empty)), (3, .sl 0 0 (([] : List (ByteArray × Bool × Int)).length)), (4, .v (.bool false))], [(0, .arr 3 (List.map enc_sbi ([] : List (ByteArray × Bool × Int))))]⟩) (by kernel_rfl)) ?_
        have hr := Option.some.inj h
        subst hr
        exact ⟨_, Wk.refl _, .inr rfl, ⟨[0], by kernel_rfl, ⟨rfl, trivial⟩, [.v (.string ByteArray.empty), .sl 0 0 (([] : List (ByteArray × Bool × Int)).length), .v (.bool false)], by kernel_rfl, by kernel_rfl⟩⟩
      · replace h := sm_r h
        refine AX.seq ?_
        obtain ⟨g12, h⟩ := gd_e h
        refine AX.reg (its := [.auto {}, .auto {}, .auto { y := some (.v (.string (gt x2 (0 : Int)))) }]) [2, 3, 4] [1] (s1 := ⟨[(2, .v (.string (gt x2 (0 : Int)))), (3, .sl 1 0 x9.length), (4, .v (.bool true))], [(1, .arr 3 (List.map enc_sbi x9))]⟩) (C := (0 ≤ (0 : Int) ∧ (0 : Int) < (x2.length : Int)) ∧ (True ∧ (AV.v (((List.map enc_s x2).getD (0 + (0 : Int).toNat) []).getD 0 undef) = .v (.string (gt x2 (0 : Int))))) ∧ True) (by kernel_rfl) ⟨g12, ⟨⟨trivial, (congrArg (fun z : List Value => AV.v (z.getD 0 undef)) (idx_arr (enc := enc_s) rfl g12))⟩, trivial⟩⟩ trivial ?_
        refine AX.ret ?_
        refine fin_wk (Wk.swap 0 1 (Nat.le_of_ble_eq_true (by kernel_rfl)) (Nat.le_of_ble_eq_true (by kernel_rfl)) rfl) ?_
        refine fin_wk (Wk.forget [2, 3, 4] [0] (s' := ⟨[(2, .v (.string (gt x2 (0 : Int)))), (3, .sl 0 0 x9.length), (4, .v (.bool true))], [(0, .arr 3 (List.map enc_sbi x9))]⟩) (by kernel_rfl)) ?_
        have hr := Option.some.inj h
        subst hr
        exact ⟨_, Wk.refl _, .inr rfl, ⟨[0], by kernel_rfl, ⟨rfl, trivial⟩, [.v (.string (gt x2 (0 : Int))), .sl 0 0 x9.length, .v (.bool true)], by kernel_rfl, by kernel_rfl⟩⟩

theorem s_spec_inRange (p1 : Int) (p2 : Int) (p3 : Int) (r : Bool) (h : m_spec_inRange p1 p2 p3 = some r) :
    Eng.Spec Tryd.prog 59 [.v (.int .i64 p1), .v (.int .i64 p2), .v (.int .i64 p3)] [] (.v (.bool r)) [] := by
  unfold m_spec_inRange at h
  refine Eng.Spec.body Tryd.func59 (by kernel_rfl) rfl (by kernel_rfl) ?_
  refine AX.wkpost ?_
  refine AX.seq ?_
  refine AX.reg (its := []) [0, 1, 2] [] (s1 := ⟨[(0, .v (.int .i64 p1)), (1, .v (.int .i64 p2)), (2, .v (.int .i64 p3))], []⟩) (C := True) (by kernel_rfl) trivial trivial ?_
  refine AX.seq ?_
  rcases bool_cases (decide (p2 ≤ p1)) with b1 | b1
  · replace h := cd_t b1 h
    refine AX.reg (its := [.auto {}, .auto {}, .auto { y := some (.v (.bool true)) }]) [6] [] (s1 := ⟨[(6, .v (.bool (decide (p1 ≤ p3))))], []⟩) (C := ((True) ∧ ((.v (.bool (decide (p2 ≤ p1))) : AV) = (.v (.bool true) : AV))) ∧ True) (by kernel_rfl) ⟨⟨trivial, (congrArg (fun z => AV.v (.bool z)) b1)⟩, trivial⟩ trivial ?_
    refine AX.ret ?_
    refine fin_wk (Wk.forget [6] [] (s' := ⟨[(6, .v (.bool (decide (p1 ≤ p3))))], []⟩) (by kernel_rfl)) ?_
    have hr := Option.some.inj h
    subst hr
    exact ⟨_, Wk.refl _, .inr rfl, ⟨[], by kernel_rfl, trivial, [.v (.bool (decide (p1 ≤ p3)))], by kernel_rfl, by kernel_rfl⟩⟩
  · replace h := cd_f b1 h
    refine AX.reg (its := [.auto {}, .auto {}, .auto { y := some (.v (.bool false)) }]) [6] [] (s1 := ⟨[(6, .v (.bool false))], []⟩) (C := ((True) ∧ ((.v (.bool (decide (p2 ≤ p1))) : AV) = (.v (.bool false) : AV))) ∧ True) (by kernel_rfl) ⟨⟨trivial, (congrArg (fun z => AV.v (.bool z)) b1)⟩, trivial⟩ trivial ?_
    refine AX.ret ?_
    refine fin_wk (Wk.forget [6] [] (s' := ⟨[(6, .v (.bool false))], []⟩) (by kernel_rfl)) ?_
    have hr := Option.some.inj h
    subst hr
    exact ⟨_, Wk.refl _, .inr rfl, ⟨[], by kernel_rfl, trivial, [.v (.bool false)], by kernel_rfl, by kernel_rfl⟩⟩

theorem s_spec_validName_L1 (p1 : ByteArray) (n : Nat) (g : Int) (out : Unit ⊕ Unit) (h : m_spec_validName_L1 p1 n g = some out) :
    AX Tryd.prog 23 0 (codeAt [1, 0, 1, 1] (bodyOf Tryd.f124)) ((fun g : Int => (⟨[(0, .v (.string p1)), (3, .v (.int .i64 g))], []⟩ : S)) g) (fun ex s => (∃ o : Unit, out = Sum.inl o ∧ ex = .ret ∧ s = ⟨[(2, .v (.bool false))], []⟩) ∨ (∃ o : Unit, out = Sum.inr o ∧ ex = .exit 0 ∧ s = ⟨[(0, .v (.string p1))], []⟩)) := by
  refine AX.wkpost ?_
  refine AX.loop (G := Nat × (Int)) (fun q => (fun g : Int => (⟨[(0, .v (.string p1)), (3, .v (.int .i64 g))], []⟩ : S)) q.2) (fun q => m_spec_validName_L1 p1 q.1 q.2 = some out) (fun q => q.1) (n, g) h (Wk.refl _) ?_
  clear h
  rintro ⟨fu, v2⟩ h
  cases fu with
  | zero => cases h
  | succ fu =>
    rw [m_spec_validName_L1] at h
    refine AX.seq ?_
    refine AX.seq ?_
    refine AX.reg (its := []) [0, 3, 7] [] (s1 := ⟨[(0, .v (.string p1)), (3, .v (.int .i64 v2)), (7, .v (.bool (decide (v2 < (p1.size : Int)))))], []⟩) (C := True) (by kernel_rfl) trivial trivial ?_
    rcases bool_cases (decide (v2 < (p1.size : Int))) with b1 | b1
    · replace h := cd_t b1 h
      refine AX.condT (decide (v2 < (p1.size : Int))) (by kernel_rfl) b1 ?_
      refine AX.skip ?_
      refine AX.seq ?_
      refine AX.block ?_
      refine AX.seq ?_
      obtain ⟨g2, h⟩ := gd_e h
      rcases bool_cases (decide ((byteAt p1 v2.toNat) < 97)) with b3 | b3
      · replace h := cd_t b3 h
        refine AX.reg (its := [.auto {}, .auto {}, .auto {}, .auto { y := some (.v (.bool true)) }]) [0, 3, 19] [] (s1 := ⟨[(0, .v (.string p1)), (3, .v (.int .i64 v2)), (19, .v (.bool true))], []⟩) (C := (0 ≤ v2 ∧ v2 < (p1.size : Int)) ∧ ((True) ∧ ((.v (.bool (decide ((byteAt p1 v2.toNat) < 97))) : AV) = (.v (.bool true) : AV))) ∧ True) (by kernel_rfl) ⟨g2, ⟨⟨trivial, (congrArg (fun z => AV.v (.bool z)) b3)⟩, trivial⟩⟩ trivial ?_
        refine AX.cond_true (by kernel_rfl) ?_
        refine AX.seq ?_
        refine AX.reg (its := []) [2] [] (s1 := ⟨[(2, .v (.bool false))], []⟩) (C := True) (by kernel_rfl) trivial trivial ?_
        refine AX.ret ?_
        refine fin_wk (Wk.forget [2] [] (s' := ⟨[(2, .v (.bool false))], []⟩) (by kernel_rfl)) ?_
        have hr := Option.some.inj h
        subst hr
        exact ⟨_, Wk.refl _, .inl ⟨(), rfl, rfl, rfl⟩⟩
      · replace h := cd_f b3 h
        refine AX.reg (its := [.auto {}, .auto {}, .auto {}, .auto { y := some (.v (.bool false)) }]) [0, 3, 19] [] (s1 := ⟨[(0, .v (.string p1)), (3, .v (.int .i64 v2)), (19, .v (.bool (decide (122 < (byteAt p1 v2.toNat)))))], []⟩) (C := (0 ≤ v2 ∧ v2 < (p1.size : Int)) ∧ ((True) ∧ ((.v (.bool (decide ((byteAt p1 v2.toNat) < 97))) : AV) = (.v (.bool false) : AV))) ∧ (0 ≤ v2 ∧ v2 < (p1.size : Int)) ∧ True) (by kernel_rfl) ⟨g2, ⟨⟨trivial, (congrArg (fun z => AV.v (.bool z)) b3)⟩, ⟨g2, trivial⟩⟩⟩ trivial ?_
        rcases bool_cases (decide (122 < (byteAt p1 v2.toNat))) with b4 | b4
        · replace h := cd_t b4 h
          refine AX.condT (decide (122 < (byteAt p1 v2.toNat))) (by kernel_rfl) b4 ?_
          refine AX.seq ?_
          refine AX.reg (its := []) [2] [] (s1 := ⟨[(2, .v (.bool false))], []⟩) (C := True) (by kernel_rfl) trivial trivial ?_
          refine AX.ret ?_
          refine fin_wk (Wk.forget [2] [] (s' := ⟨[(2, .v (.bool false))], []⟩) (by kernel_rfl)) ?_
          have hr := Option.some.inj h
          subst hr
          exact ⟨_, Wk.refl _, .inl ⟨(), rfl, rfl, rfl⟩⟩
        · replace h := cd_f b4 h
          refine AX.condF (decide (122 < (byteAt p1 v2.toNat))) (by kernel_rfl) b4 ?_
          refine AX.skip ?_
          refine AX.reg (its := [.auto {}, .auto { raw := true }]) [0, 3] [] (s1 := ⟨[(0, .v (.string p1)), (3, .v (.int .i64 (IntKind.wrap .i64 (v2 + 1))))], []⟩) (C := True) (by kernel_rfl) trivial trivial ?_
          refine ⟨(fu, IntKind.wrap .i64 (v2 + 1)), h, Nat.lt_succ_self _, ?_⟩
          refine Wk.trans (Wk.forget [0, 3] [] (s' := ⟨[(0, .v (.string p1)), (3, .v (.int .i64 (IntKind.wrap .i64 (v2 + 1))))], []⟩) (by kernel_rfl)) ?_
          exact Wk.refl _
    · replace h := cd_f b1 h
      refine AX.condF (decide (v2 < (p1.size : Int))) (by kernel_rfl) b1 ?_
      refine AX.exit ?_
      refine fin_wk (Wk.forget [0] [] (s' := ⟨[(0, .v (.string p1))], []⟩) (by kernel_rfl)) ?_
      have hr := Option.some.inj h
      subst hr
      exact ⟨_, Wk.refl _, .inr ⟨(), rfl, rfl, rfl⟩⟩

theorem s_spec_validName (p1 : ByteArray) (r : Bool) (h : m_spec_validName p1 = some r) :
    Eng.Spec Tryd.prog 124 [.v (.string p1)] [] (.v (.bool r)) [] := by
  unfold m_spec_validName at h
  refine Eng.Spec.body Tryd.func124 (by kernel_rfl) rfl (by kernel_rfl) ?_
  refine AX.wkpost ?_
  refine AX.seq ?_
  refine AX.reg (its := []) [0] [] (s1 := ⟨[(0, .v (.string p1))], []⟩) (C := True) (by kernel_rfl) trivial trivial ?_
  refine AX.seq ?_
  refine AX.seq ?_
  refine AX.reg (its := []) [0, 3] [] (s1 := ⟨[(0, .v (.string p1)), (3, .v (.int .i64 0))], []⟩) (C := True) (by kernel_rfl) trivial trivial ?_
  refine AX.block ?_
  obtain ⟨x3, e5, h⟩ := bd_e h
  refine AX.wk (Wk.forget [0, 3] [] (s' := ⟨[(0, .v (.string p1)), (3, .v (.int .i64 0))], []⟩) (by kernel_rfl)) ?_
  refine AX.mono (s_spec_validName_L1 p1 FU 0 x3 e5) ?_
  rintro _ _ (⟨x4, rfl, rfl, rfl⟩ | ⟨x5, rfl, rfl, rfl⟩)
  · replace h := sm_l h
    refine fin_wk (Wk.forget [2] [] (s' := ⟨[(2, .v (.bool false))], []⟩) (by kernel_rfl)) ?_
    have hr := Option.some.inj h
    subst hr
    exact ⟨_, Wk.refl _, .inr rfl, ⟨[], by kernel_rfl, trivial, [.v (.bool false)], by kernel_rfl, by kernel_rfl⟩⟩
  · replace h := sm_r h
    refine AX.seq ?_
    obtain ⟨x6, e6, h⟩ := bd_e h
    refine AX.reg (its := [.auto {}, .auto {}, .call 59 [.v (.int .i64 (p1.size : Int)), .v (.int .i64 1), .v (.int .i64 6)] (handO (rho ([] ++ [])) [] [] ++ []) (callEv [] [] (.v (.bool x6)) [])]) [2] [] (s1 := ⟨[(2, .v (.bool x6))], []⟩) (C := ((([.v (.int .i64 (p1.size : Int)), .v (.int .i64 1), .v (.int .i64 6)] : List AV) = [.v (.int .i64 (p1.size : Int)), .v (.int .i64 1), .v (.int .i64 6)]) ∧ True) ∧ True) (by kernel_rfl) ⟨⟨rfl, trivial⟩, trivial⟩ ⟨call_ok (ks := []) (ns := []) (bor := []) (bobjs := []) (s_spec_inRange (p1.size : Int) 1 6 x6 e6) (.cons (.c1 (.c0 (.same _ (by kernel_rfl) (by kernel_rfl)))) (.cons (.c1 (.c0 (.same _ (by kernel_rfl) (by kernel_rfl)))) (.cons (.c1 (.c0 (.same _ (by kernel_rfl) (by kernel_rfl)))) (.nil)))) (by kernel_rfl) trivial, trivial⟩ ?_
    refine AX.ret ?_
    refine fin_wk (Wk.forget [2] [] (s' := ⟨[(2, .v (.bool x6))], []⟩) (by kernel_rfl)) ?_
    have hr := Option.some.inj h
    subst hr
    exact ⟨_, Wk.refl _, .inr rfl, ⟨[], by kernel_rfl, trivial, [.v (.bool x6)], by kernel_rfl, by kernel_rfl⟩⟩

theorem s_spec_validItems_L2 (p1 : List (ByteArray × Bool × Int)) (p2 : Int) (p3 : Int) (v4 : Int) (n : Nat) (g : Int) (out : Unit ⊕ Unit) (h : m_spec_validItems_L2 p1 p2 p3 v4 n g = some out) :
    AX Tryd.prog 67 0 (codeAt [1, 0, 1, 1, 1, 1, 0, 1, 1, 1, 1] (bodyOf Tryd.f92)) ((fun g : Int => (⟨[(0, .bs false 3 (List.map enc_sbi p1)), (1, .v (.int .i64 p2)), (2, .v (.int .i64 p3)), (7, .v (.int .i64 v4)), (8, .v (.int .i64 g))], []⟩ : S)) g) (fun ex s => (∃ o : Unit, out = Sum.inl o ∧ ex = .ret ∧ s = ⟨[(6, .v (.bool false))], []⟩) ∨ (∃ o : Unit, out = Sum.inr o ∧ ex = .exit 2 ∧ s = ⟨[(0, .bs false 3 (List.map enc_sbi p1)), (1, .v (.int .i64 p2)), (2, .v (.int .i64 p3)), (7, .v (.int .i64 v4))], []⟩)) := by
  refine AX.wkpost ?_
  refine AX.loop (G := Nat × (Int)) (fun q => (fun g : Int => (⟨[(0, .bs false 3 (List.map enc_sbi p1)), (1, .v (.int .i64 p2)), (2, .v (.int .i64 p3)), (7, .v (.int .i64 v4)), (8, .v (.int .i64 g))], []⟩ : S)) q.2) (fun q => m_spec_validItems_L2 p1 p2 p3 v4 q.1 q.2 = some out) (fun q => q.1) (n, g) h (Wk.refl _) ?_
  clear h
  rintro ⟨fu, v7⟩ h
  cases fu with
  | zero => cases h
  | succ fu =>
    rw [m_spec_validItems_L2] at h
    refine AX.seq ?_
    refine AX.seq ?_
    refine AX.reg (its := []) [0, 1, 2, 7, 8, 50] [] (s1 := ⟨[(0, .bs false 3 (List.map enc_sbi p1)), (1, .v (.int .i64 p2)), (2, .v (.int .i64 p3)), (7, .v (.int .i64 v4)), (8, .v (.int .i64 v7)), (50, .v (.bool (decide (v7 < v4))))], []⟩) (C := True) (by kernel_rfl) trivial trivial ?_
    rcases bool_cases (decide (v7 < v4)) with b9 | b9
    · replace h := cd_t b9 h
      refine AX.condT (decide (v7 < v4)) (by kernel_rfl) b9 ?_
      refine AX.skip ?_
      refine AX.seq ?_
      refine AX.block ?_
      refine AX.seq ?_
      obtain ⟨g10, h⟩ := gd_e h
      obtain ⟨g11, h⟩ := gd_e h
      refine AX.drw mixed (its := [.auto {}, .auto {}, .auto { y := some (.be 3 (enc_sbi (gt p1 v7)) 0) }, .auto {}, .auto {}, .auto {}, .auto {}, .auto { y := some (.be 3 (enc_sbi (gt p1 v4)) 0) }]) [0, 1, 2, 7, 8, 63] [] (s1 := ⟨[(0, .bs false 3 (List.map enc_sbi p1)), (1, .v (.int .i64 p2)), (2, .v (.int .i64 p3)), (7, .v (.int .i64 v4)), (8, .v (.int .i64 v7)), (63, .v (.bool (decide (((gt p1 v7).1) = ((gt p1 v4).1)))))], []⟩) (C := ((0 ≤ v7 ∧ v7 < ((List.map enc_sbi p1).length : Int)) ∧ (AV.be 3 ((List.map enc_sbi p1).getD v7.toNat []) 0 = AV.be 3 (enc_sbi (gt p1 v7)) 0)) ∧ ((0 ≤ v4 ∧ v4 < ((List.map enc_sbi p1).length : Int)) ∧ (AV.be 3 ((List.map enc_sbi p1).getD v4.toNat []) 0 = AV.be 3 (enc_sbi (gt p1 v4)) 0)) ∧ True) (by kernel_rfl) ⟨idx_bs enc_sbi p1 v7 3 g10, ⟨idx_bs enc_sbi p1 v4 3 g11, trivial⟩⟩ trivial ?_
      rcases bool_cases (decide (((gt p1 v7).1) = ((gt p1 v4).1))) with b12 | b12
      · replace h := cd_t b12 h
        refine AX.condT (decide (((gt p1 v7).1) = ((gt p1 v4).1))) (by kernel_rfl) b12 ?_
        refine AX.seq ?_
        refine AX.reg (its := []) [6] [] (s1 := ⟨[(6, .v (.bool false))], []⟩) (C := True) (by kernel_rfl) trivial trivial ?_
        refine AX.ret ?_
        refine fin_wk (Wk.forget [6] [] (s' := ⟨[(6, .v (.bool false))], []⟩) (by kernel_rfl)) ?_
        have hr := Option.some.inj h
        subst hr
        exact ⟨_, Wk.refl _, .inl ⟨(), rfl, rfl, rfl⟩⟩
      · replace h := cd_f b12 h
        refine AX.condF (decide (((gt p1 v7).1) = ((gt p1 v4).1))) (by kernel_rfl) b12 ?_
        refine AX.skip ?_
        refine AX.reg (its := [.auto {}, .auto { raw := true }]) [0, 1, 2, 7, 8] [] (s1 := ⟨[(0, .bs false 3 (List.map enc_sbi p1)), (1, .v (.int .i64 p2)), (2, .v (.int .i64 p3)), (7, .v (.int .i64 v4)), (8, .v (.int .i64 (IntKind.wrap .i64 (v7 + 1))))], []⟩) (C := True) (by kernel_rfl) trivial trivial ?_
        refine ⟨(fu, IntKind.wrap .i64 (v7 + 1)), h, Nat.lt_succ_self _, ?_⟩
        refine Wk.trans (Wk.forget [0, 1, 2, 7, 8] [] (s' := ⟨[(0, .bs false 3 (List.map enc_sbi p1)), (1, .v (.int .i64 p2)), (2, .v (.int .i64 p3)), (7, .v (.int .i64 v4)), (8, .v (.int .i64 (IntKind.wrap .i64 (v7 + 1))))], []⟩) (by kernel_rfl)) ?_
        exact Wk.refl _
    · replace h := cd_f b9 h
      refine AX.condF (decide (v7 < v4)) (by kernel_rfl) b9 ?_
      refine AX.exit ?_
      refine fin_wk (Wk.forget [0, 1, 2, 7] [] (s' := ⟨[(0, .bs false 3 (List.map enc_sbi p1)), (1, .v (.int .i64 p2)), (2, .v (.int .i64 p3)), (7, .v (.int .i64 v4))], []⟩) (by kernel_rfl)) ?_
      have hr := Option.some.inj h
      subst hr
      exact ⟨_, Wk.refl _, .inr ⟨(), rfl, rfl, rfl⟩⟩

theorem s_spec_validItems_L3 (p1 : List (ByteArray × Bool × Int)) (p2 : Int) (p3 : Int) (v4 : Int) (n : Nat) (g : Int) (out : Unit ⊕ Unit) (h : m_spec_validItems_L3 p1 p2 p3 v4 n g = some out) :
    AX Tryd.prog 67 0 (codeAt [1, 0, 1, 1, 1, 1, 0, 1, 1, 1, 1] (bodyOf Tryd.f92)) ((fun g : Int => (⟨[(0, .bs false 3 (List.map enc_sbi p1)), (1, .v (.int .i64 p2)), (2, .v (.int .i64 p3)), (7, .v (.int .i64 v4)), (8, .v (.int .i64 g))], []⟩ : S)) g) (fun ex s => (∃ o : Unit, out = Sum.inl o ∧ ex = .ret ∧ s = ⟨[(6, .v (.bool false))], []⟩) ∨ (∃ o : Unit, out = Sum.inr o ∧ ex = .exit 2 ∧ s = ⟨[(0, .bs false 3 (List.map enc_sbi p1)), (1, .v (.int .i64 p2)), (2, .v (.int .i64 p3)), (7, .v (.int .i64 v4))], []⟩)) := by
  refine AX.wkpost ?_
  refine AX.loop (G := Nat × (Int)) (fun q => (fun g : Int => (⟨[(0, .bs false 3 (List.map enc_sbi p1)), (1, .v (.int .i64 p2)), (2, .v (.int .i64 p3)), (7, .v (.int .i64 v4)), (8, .v (.int .i64 g))], []⟩ : S)) q.2) (fun q => m_spec_validItems_L3 p1 p2 p3 v4 q.1 q.2 = some out) (fun q => q.1) (n, g) h (Wk.refl _) ?_
  clear h
  rintro ⟨fu, v12⟩ h
  cases fu with
  | zero => cases h
  | succ fu =>
    rw [m_spec_validItems_L3] at h
    refine AX.seq ?_
    refine AX.seq ?_
    refine AX.reg (its := []) [0, 1, 2, 7, 8, 50] [] (s1 := ⟨[(0, .bs false 3 (List.map enc_sbi p1)), (1, .v (.int .i64 p2)), (2, .v (.int .i64 p3)), (7, .v (.int .i64 v4)), (8, .v (.int .i64 v12)), (50, .v (.bool (decide (v12 < v4))))], []⟩) (C := True) (by kernel_rfl) trivial trivial ?_
    rcases bool_cases (decide (v12 < v4)) with b16 | b16
    · replace h := cd_t b16 h
      refine AX.condT (decide (v12 < v4)) (by kernel_rfl) b16 ?_
      refine AX.skip ?_
      refine AX.seq ?_
      refine AX.block ?_
      refine AX.seq ?_
      obtain ⟨g17, h⟩ := gd_e h
      obtain ⟨g18, h⟩ := gd_e h
      refine AX.drw mixed (its := [.auto {}, .auto {}, .auto { y := some (.be 3 (enc_sbi (gt p1 v12)) 0) }, .auto {}, .auto {}, .auto {}, .auto {}, .auto { y := some (.be 3 (enc_sbi (gt p1 v4)) 0) }]) [0, 1, 2, 7, 8, 63] [] (s1 := ⟨[(0, .bs false 3 (List.map enc_sbi p1)), (1, .v (.int .i64 p2)), (2, .v (.int .i64 p3)), (7, .v (.int .i64 v4)), (8, .v (.int .i64 v12)), (63, .v (.bool (decide (((gt p1 v12).1) = ((gt p1 v4).1)))))], []⟩) (C := ((0 ≤ v12 ∧ v12 < ((List.map enc_sbi p1).length : Int)) ∧ (AV.be 3 ((List.map enc_sbi p1).getD v12.toNat []) 0 = AV.be 3 (enc_sbi (gt p1 v12)) 0)) ∧ ((0 ≤ v4 ∧ v4 < ((List.map enc_sbi p1).length : Int)) ∧ (AV.be 3 ((List.map enc_sbi p1).getD v4.toNat []) 0 = AV.be 3 (enc_sbi (gt p1 v4)) 0)) ∧ True) (by kernel_rfl) ⟨idx_bs enc_sbi p1 v12 3 g17, ⟨idx_bs enc_sbi p1 v4 3 g18, trivial⟩⟩ trivial ?_
      rcases bool_cases (decide (((gt p1 v12).1) = ((gt p1 v4).1))) with b19 | b19
      · replace h := cd_t b19 h
        refine AX.condT (decide (((gt p1 v12).1) = ((gt p1 v4).1))) (by kernel_rfl) b19 ?_
        refine AX.seq ?_
        refine AX.reg (its := []) [6] [] (s1 := ⟨[(6, .v (.bool false))], []⟩) (C := True) (by kernel_rfl) trivial trivial ?_
        refine AX.ret ?_
        refine fin_wk (Wk.forget [6] [] (s' := ⟨[(6, .v (.bool false))], []⟩) (by kernel_rfl)) ?_
        have hr := Option.some.inj h
        subst hr
        exact ⟨_, Wk.refl _, .inl ⟨(), rfl, rfl, rfl⟩⟩
      · replace h := cd_f b19 h
        refine AX.condF (decide (((gt p1 v12).1) = ((gt p1 v4).1))) (by kernel_rfl) b19 ?_
        refine AX.skip ?_
        refine AX.reg (its := [.auto {}, .auto { raw := true }]) [0, 1, 2, 7, 8] [] (s1 := ⟨[(0, .bs false 3 (List.map enc_sbi p1)), (1, .v (.int .i64 p2)), (2, .v (.int .i64 p3)), (7, .v (.int .i64 v4)), (8, .v (.int .i64 (IntKind.wrap .i64 (v12 + 1))))], []⟩) (C := True) (by kernel_rfl) trivial trivial ?_
        refine ⟨(fu, IntKind.wrap .i64 (v12 + 1)), h, Nat.lt_succ_self _, ?_⟩
        refine Wk.trans (Wk.forget [0, 1, 2, 7, 8] [] (s' := ⟨[(0, .bs false 3 (List.map enc_sbi p1)), (1, .v (.int .i64 p2)), (2, .v (.int .i64 p3)), (7, .v (.int .i64 v4)), (8, .v (.int .i64 (IntKind.wrap .i64 (v12 + 1))))], []⟩) (by kernel_rfl)) ?_
        exact Wk.refl _
    · replace h := cd_f b16 h
      refine AX.condF (decide (v12 < v4)) (by kernel_rfl) b16 ?_
      refine AX.exit ?_
      refine fin_wk (Wk.forget [0, 1, 2, 7] [] (s' := ⟨[(0, .bs false 3 (List.map enc_sbi p1)), (1, .v (.int .i64 p2)), (2, .v (.int .i64 p3)), (7, .v (.int .i64 v4))], []⟩) (by kernel_rfl)) ?_
      have hr := Option.some.inj h
      subst hr
      exact ⟨_, Wk.refl _, .inr ⟨(), rfl, rfl, rfl⟩⟩

theorem s_spec_validItems_L1 (p1 : List (ByteArray × Bool × Int)) (p2 : Int) (p3 : Int) (n : Nat) (g : Int) (out : Unit ⊕ Unit) (h : m_spec_validItems_L1 p1 p2 p3 n g = some out) :
    AX Tryd.prog 67 0 (codeAt [1, 0, 1, 1] (bodyOf Tryd.f92)) ((fun g : Int => (⟨[(0, .bs false 3 (List.map enc_sbi p1)), (1, .v (.int .i64 p2)), (2, .v (.int .i64 p3)), (7, .v (.int .i64 g))], []⟩ : S)) g) (fun ex s => (∃ o : Unit, out = Sum.inl o ∧ ex = .ret ∧ s = ⟨[(6, .v (.bool false))], []⟩) ∨ (∃ o : Unit, out = Sum.inr o ∧ ex = .exit 0 ∧ s = ⟨[(0, .bs false 3 (List.map enc_sbi p1))], []⟩)) := by
  refine AX.wkpost ?_
  refine AX.loop (G := Nat × (Int)) (fun q => (fun g : Int => (⟨[(0, .bs false 3 (List.map enc_sbi p1)), (1, .v (.int .i64 p2)), (2, .v (.int .i64 p3)), (7, .v (.int .i64 g))], []⟩ : S)) q.2) (fun q => m_spec_validItems_L1 p1 p2 p3 q.1 q.2 = some out) (fun q => q.1) (n, g) h (Wk.refl _) ?_
  clear h
  rintro ⟨fu, v4⟩ h
  cases fu with
  | zero => cases h
  | succ fu =>
    rw [m_spec_validItems_L1] at h
    refine AX.seq ?_
    refine AX.seq ?_
    refine AX.reg (its := [.auto {}, .auto {}, .auto { y := some (.v (.int .i64 (p1.length : Int))) }]) [0, 1, 2, 7, 12] [] (s1 := ⟨[(0, .bs false 3 (List.map enc_sbi p1)), (1, .v (.int .i64 p2)), (2, .v (.int .i64 p3)), (7, .v (.int .i64 v4)), (12, .v (.bool (decide (v4 < (p1.length : Int)))))], []⟩) (C := (True ∧ (AV.v (.int .i64 ((List.map enc_sbi p1).length : Int)) = AV.v (.int .i64 (p1.length : Int)))) ∧ True) (by kernel_rfl) ⟨⟨trivial, len_map enc_sbi p1⟩, trivial⟩ trivial ?_
    rcases bool_cases (decide (v4 < (p1.length : Int))) with b1 | b1
    · replace h := cd_t b1 h
      refine AX.condT (decide (v4 < (p1.length : Int))) (by kernel_rfl) b1 ?_
      refine AX.skip ?_
      refine AX.seq ?_
      refine AX.block ?_
      refine AX.seq ?_
      refine AX.seq ?_
      obtain ⟨g2, h⟩ := gd_e h
      obtain ⟨x5, e3, h⟩ := bd_e h
      rcases bool_cases ((!x5)) with b4 | b4
      · replace h := cd_t b4 h
        refine AX.reg (its := [.auto {}, .auto {}, .auto { y := some (.be 3 (enc_sbi (gt p1 v4)) 0) }, .auto {}, .auto {}, .call 124 [.v (.string ((gt p1 v4).1))] (handO (rho ([] ++ [])) [] [] ++ []) (callEv [] [] (.v (.bool x5)) []), .auto { y := some (.v (.bool true)) }]) [0, 1, 2, 7, 47] [] (s1 := ⟨[(0, .bs false 3 (List.map enc_sbi p1)), (1, .v (.int .i64 p2)), (2, .v (.int .i64 p3)), (7, .v (.int .i64 v4)), (47, .v (.bool true))], []⟩) (C := ((0 ≤ v4 ∧ v4 < ((List.map enc_sbi p1).length : Int)) ∧ (AV.be 3 ((List.map enc_sbi p1).getD v4.toNat []) 0 = AV.be 3 (enc_sbi (gt p1 v4)) 0)) ∧ ((([.v (.string ((gt p1 v4).1))] : List AV) = [.v (.string ((gt p1 v4).1))]) ∧ True) ∧ ((True) ∧ ((.v (.bool (!x5)) : AV) = (.v (.bool true) : AV))) ∧ True) (by kernel_rfl) ⟨idx_bs enc_sbi p1 v4 3 g2, ⟨⟨rfl, trivial⟩, ⟨⟨trivial, (congrArg (fun z => AV.v (.bool z)) b4)⟩, trivial⟩⟩⟩ ⟨call_ok (ks := []) (ns := []) (bor := []) (bobjs := []) (s_spec_validName ((gt p1 v4).1) x5 e3) (.cons (.c1 (.c0 (.same _ (by kernel_rfl) (by kernel_rfl)))) (.nil)) (by kernel_rfl) trivial, trivial⟩ ?_
        refine AX.cond_true (by kernel_rfl) ?_
        refine AX.seq ?_
        refine AX.reg (its := []) [6] [] (s1 := ⟨[(6, .v (.bool false))], []⟩) (C := True) (by kernel_rfl) trivial trivial ?_
        refine AX.ret ?_
        refine fin_wk (Wk.forget [6] [] (s' := ⟨[(6, .v (.bool false))], []⟩) (by kernel_rfl)) ?_
        have hr := Option.some.inj h
        subst hr
        exact ⟨_, Wk.refl _, .inl ⟨(), rfl, rfl, rfl⟩⟩
      · replace h := cd_f b4 h
        rcases bool_cases ((gt p1 v4).2.1) with b5 | b5
        · replace h := cd_t b5 h
          rcases bool_cases ((!decide (((gt p1 v4).2.2) = 0))) with b6 | b6
          · replace h := cd_t b6 h
            refine AX.reg (its := [.auto {}, .auto {}, .auto { y := some (.be 3 (enc_sbi (gt p1 v4)) 0) }, .auto {}, .auto {}, .call 124 [.v (.string ((gt p1 v4).1))] (handO (rho ([] ++ [])) [] [] ++ []) (callEv [] [] (.v (.bool x5)) []), .auto { y := some (.v (.bool false)) }, .auto {}, .auto {}, .auto {}, .auto { y := some (.be 3 (enc_sbi (gt p1 v4)) 0) }, .auto {}, .auto { y := some (.v (.bool true)) }, .auto {}, .auto {}, .auto {}, .auto { y := some (.be 3 (enc_sbi (gt p1 v4)) 0) }, .auto {}, .auto {}, .auto { y := some (.v (.bool true)) }]) [0, 1, 2, 7, 47] [] (s1 := ⟨[(0, .bs false 3 (List.map enc_sbi p1)), (1, .v (.int .i64 p2)), (2, .v (.int .i64 p3)), (7, .v (.int .i64 v4)), (47, .v (.bool true))], []⟩) (C := ((0 ≤ v4 ∧ v4 < ((List.map enc_sbi p1).length : Int)) ∧ (AV.be 3 ((List.map enc_sbi p1).getD v4.toNat []) 0 = AV.be 3 (enc_sbi (gt p1 v4)) 0)) ∧ ((([.v (.string ((gt p1 v4).1))] : List AV) = [.v (.string ((gt p1 v4).1))]) ∧ True) ∧ ((True) ∧ ((.v (.bool (!x5)) : AV) = (.v (.bool false) : AV))) ∧ ((0 ≤ v4 ∧ v4 < ((List.map enc_sbi p1).length : Int)) ∧ (AV.be 3 ((List.map enc_sbi p1).getD v4.toNat []) 0 = AV.be 3 (enc_sbi (gt p1 v4)) 0)) ∧ ((True) ∧ ((.v (.bool ((gt p1 v4).2.1)) : AV) = (.v (.bool true) : AV))) ∧ ((0 ≤ v4 ∧ v4 < ((List.map enc_sbi p1).length : Int)) ∧ (AV.be 3 ((List.map enc_sbi p1).getD v4.toNat []) 0 = AV.be 3 (enc_sbi (gt p1 v4)) 0)) ∧ ((True) ∧ ((.v (.bool (!decide (((gt p1 v4).2.2) = 0))) : AV) = (.v (.bool true) : AV))) ∧ True) (by kernel_rfl) ⟨idx_bs enc_sbi p1 v4 3 g2, ⟨⟨rfl, trivial⟩, ⟨⟨trivial, (congrArg (fun z => AV.v (.bool z)) b4)⟩, ⟨idx_bs enc_sbi p1 v4 3 g2, ⟨⟨trivial, (congrArg (fun z => AV.v (.bool z)) b5)⟩, ⟨idx_bs enc_sbi p1 v4 3 g2, ⟨⟨trivial, (congrArg (fun z => AV.v (.bool z)) b6)⟩, trivial⟩⟩⟩⟩⟩⟩⟩ ⟨call_ok (ks := []) (ns := []) (bor := []) (bobjs := []) (s_spec_validName ((gt p1 v4).1) x5 e3) (.cons (.c1 (.c0 (.same _ (by kernel_rfl) (by kernel_rfl)))) (.nil)) (by kernel_rfl) trivial, trivial⟩ ?_
            refine AX.cond_true (by kernel_rfl) ?_
            refine AX.seq ?_
            refine AX.reg (its := []) [6] [] (s1 := ⟨[(6, .v (.bool false))], []⟩) (C := True) (by kernel_rfl) trivial trivial ?_
            refine AX.ret ?_
            refine fin_wk (Wk.forget [6] [] (s' := ⟨[(6, .v (.bool false))], []⟩) (by kernel_rfl)) ?_
            have hr := Option.some.inj h
            subst hr
            exact ⟨_, Wk.refl _, .inl ⟨(), rfl, rfl, rfl⟩⟩
          · replace h := cd_f b6 h
            obtain ⟨x6, e7, h⟩ := bd_e h
            refine AX.reg (its := (.auto {} :: .auto {} :: .auto { y := some (.be 3 (enc_sbi (gt p1 v4)) 0) } :: .auto {} :: .auto {} :: .call 124 [.v (.string ((gt p1 v4).1))] (handO (rho ([] ++ [])) [] [] ++ []) (callEv [] [] (.v (.bool x5)) []) :: .auto { y := some (.v (.bool false)) } :: .auto {} :: .auto {} :: .auto {} :: .auto { y := some (.be 3 (enc_sbi (gt p1 v4)) 0) } :: .auto {} :: .auto { y := some (.v (.bool true)) } :: .auto {} :: .auto {} :: .auto {} :: .auto { y := some (.be 3 (enc_sbi (gt p1 v4)) 0) } :: .auto {} :: .auto {} :: .auto { y := some (.v (.bool false)) } :: .auto {} :: .auto {} :: .auto {} :: .auto {} :: .auto {} :: .auto { y := some (.be 3 (enc_sbi (gt p1 v4)) 0) } :: .auto {} :: .auto {} :: .auto {} :: .auto {} :: .call 59 [.v (.int .i64 ((gt p1 v4).2.2)), .v (.int .i64 p2), .v (.int .i64 p3)] (handO (rho ([] ++ [])) [] [] ++ []) (callEv [] [] (.v (.bool x6)) []) :: [])) [0, 1, 2, 7, 47] [] (s1 := ⟨[(0, .bs false 3 (List.map enc_sbi p1)), (1, .v (.int .i64 p2)), (2, .v (.int .i64 p3)), (7, .v (.int .i64 v4)), (47, .v (.bool (!x6)))], []⟩) (C := ((0 ≤ v4 ∧ v4 < ((List.map enc_sbi p1).length : Int)) ∧ (AV.be 3 ((List.map enc_sbi p1).getD v4.toNat []) 0 = AV.be 3 (enc_sbi (gt p1 v4)) 0)) ∧ ((([.v (.string ((gt p1 v4).1))] : List AV) = [.v (.string ((gt p1 v4).1))]) ∧ True) ∧ ((True) ∧ ((.v (.bool (!x5)) : AV) = (.v (.bool false) : AV))) ∧ ((0 ≤ v4 ∧ v4 < ((List.map enc_sbi p1).length : Int)) ∧ (AV.be 3 ((List.map enc_sbi p1).getD v4.toNat []) 0 = AV.be 3 (enc_sbi (gt p1 v4)) 0)) ∧ ((True) ∧ ((.v (.bool ((gt p1 v4).2.1)) : AV) = (.v (.bool true) : AV))) ∧ ((0 ≤ v4 ∧ v4 < ((List.map enc_sbi p1).length : Int)) ∧ (AV.be 3 ((List.map enc_sbi p1).getD v4.toNat []) 0 = AV.be 3 (enc_sbi (gt p1 v4)) 0)) ∧ ((True) ∧ ((.v (.bool (!decide (((gt p1 v4).2.2) = 0))) : AV) = (.v (.bool false) : AV))) ∧ ((0 ≤ v4 ∧ v4 < ((List.map enc_sbi p1).length : Int)) ∧ (AV.be 3 ((List.map enc_sbi p1).getD v4.toNat []) 0 = AV.be 3 (enc_sbi (gt p1 v4)) 0)) ∧ ((([.v (.int .i64 ((gt p1 v4).2.2)), .v (.int .i64 p2), .v (.int .i64 p3)] : List AV) = [.v (.int .i64 ((gt p1 v4).2.2)), .v (.int .i64 p2), .v (.int .i64 p3)]) ∧ True) ∧ True) (by kernel_rfl) ⟨idx_bs enc_sbi p1 v4 3 g2, ⟨⟨rfl, trivial⟩, ⟨⟨trivial, (congrArg (fun z => AV.v (.bool z)) b4)⟩, ⟨idx_bs enc_sbi p1 v4 3 g2, ⟨⟨trivial, (congrArg (fun z => AV.v (.bool z)) b5)⟩, ⟨idx_bs enc_sbi p1 v4 3 g2, ⟨⟨trivial, (congrArg (fun z => AV.v (.bool z)) b6)⟩, ⟨idx_bs enc_sbi p1 v4 3 g2, ⟨⟨rfl, trivial⟩, trivial⟩⟩⟩⟩⟩⟩⟩⟩⟩ ⟨call_ok (ks := []) (ns := []) (bor := []) (bobjs := []) (s_spec_validName ((gt p1 v4).1) x5 e3) (.cons (.c1 (.c0 (.same _ (by kernel_rfl) (by kernel_rfl)))) (.nil)) (by kernel_rfl) trivial, ⟨call_ok (ks := []) (ns := []) (bor := []) (bobjs := []) (s_spec_inRange ((gt p1 v4).2.2) p2 p3 x6 e7) (.cons (.c1 (.c0 (.same _ (by kernel_rfl) (by kernel_rfl)))) (.cons (.c1 (.c0 (.same _ (by kernel_rfl) (by kernel_rfl)))) (.cons (.c1 (.c0 (.same _ (by kernel_rfl) (by kernel_rfl)))) (.nil)))) (by kernel_rfl) trivial, trivial⟩⟩ ?_
            rcases bool_cases ((!x6)) with b8 | b8
            · replace h := cd_t b8 h
              refine AX.condT ((!x6)) (by kernel_rfl) b8 ?_
              refine AX.seq ?_
              refine AX.reg (its := []) [6] [] (s1 := ⟨[(6, .v (.bool false))], []⟩) (C := True) (by kernel_rfl) trivial trivial ?_
              refine AX.ret ?_
              refine fin_wk (Wk.forget [6] [] (s' := ⟨[(6, .v (.bool false))], []⟩) (by kernel_rfl)) ?_
              have hr := Option.some.inj h
              subst hr
              exact ⟨_, Wk.refl _, .inl ⟨(), rfl, rfl, rfl⟩⟩
            · replace h := cd_f b8 h
              refine AX.condF ((!x6)) (by kernel_rfl) b8 ?_
              refine AX.skip ?_
              refine AX.seq ?_
              refine AX.reg (its := []) [0, 1, 2, 7, 8] [] (s1 := ⟨[(0, .bs false 3 (List.map enc_sbi p1)), (1, .v (.int .i64 p2)), (2, .v (.int .i64 p3)), (7, .v (.int .i64 v4)), (8, .v (.int .i64 0))], []⟩) (C := True) (by kernel_rfl) trivial trivial ?_
              refine AX.block ?_
              obtain ⟨x8, e13, h⟩ := bd_e h
              refine AX.wk (Wk.forget [0, 1, 2, 7, 8] [] (s' := ⟨[(0, .bs false 3 (List.map enc_sbi p1)), (1, .v (.int .i64 p2)), (2, .v (.int .i64 p3)), (7, .v (.int .i64 v4)), (8, .v (.int .i64 0))], []⟩) (by kernel_rfl)) ?_
              refine AX.mono (s_spec_validItems_L2 p1 p2 p3 v4 FU 0 x8 e13) ?_
              rintro _ _ (⟨x9, rfl, rfl, rfl⟩ | ⟨x10, rfl, rfl, rfl⟩)
              · replace h := sm_l h
                refine fin_wk (Wk.forget [6] [] (s' := ⟨[(6, .v (.bool false))], []⟩) (by kernel_rfl)) ?_
                have hr := Option.some.inj h
                subst hr
                exact ⟨_, Wk.refl _, .inl ⟨(), rfl, rfl, rfl⟩⟩
              · replace h := sm_r h
                refine AX.reg (its := [.auto {}, .auto { raw := true }]) [0, 1, 2, 7] [] (s1 := ⟨[(0, .bs false 3 (List.map enc_sbi p1)), (1, .v (.int .i64 p2)), (2, .v (.int .i64 p3)), (7, .v (.int .i64 (IntKind.wrap .i64 (v4 + 1))))], []⟩) (C := True) (by kernel_rfl) trivial trivial ?_
                refine ⟨(fu, IntKind.wrap .i64 (v4 + 1)), h, Nat.lt_succ_self _, ?_⟩
                refine Wk.trans (Wk.forget [0, 1, 2, 7] [] (s' := ⟨[(0, .bs false 3 (List.map enc_sbi p1)), (1, .v (.int .i64 p2)), (2, .v (.int .i64 p3)), (7, .v (.int .i64 (IntKind.wrap .i64 (v4 + 1))))], []⟩) (by kernel_rfl)) ?_
                exact Wk.refl _
        · replace h := cd_f b5 h
          obtain ⟨x11, e14, h⟩ := bd_e h
          refine AX.reg (its := (.auto {} :: .auto {} :: .auto { y := some (.be 3 (enc_sbi (gt p1 v4)) 0) } :: .auto {} :: .auto {} :: .call 124 [.v (.string ((gt p1 v4).1))] (handO (rho ([] ++ [])) [] [] ++ []) (callEv [] [] (.v (.bool x5)) []) :: .auto { y := some (.v (.bool false)) } :: .auto {} :: .auto {} :: .auto {} :: .auto { y := some (.be 3 (enc_sbi (gt p1 v4)) 0) } :: .auto {} :: .auto { y := some (.v (.bool false)) } :: .auto {} :: .auto {} :: .auto {} :: .auto {} :: .auto {} :: .auto {} :: .auto {} :: .auto {} :: .auto {} :: .auto {} :: .auto {} :: .auto {} :: .auto { y := some (.be 3 (enc_sbi (gt p1 v4)) 0) } :: .auto {} :: .auto {} :: .auto {} :: .auto {} :: .call 59 [.v (.int .i64 ((gt p1 v4).2.2)), .v (.int .i64 p2), .v (.int .i64 p3)] (handO (rho ([] ++ [])) [] [] ++ []) (callEv [] [] (.v (.bool x11)) []) :: [])) [0, 1, 2, 7, 47] [] (s1 := ⟨[(0, .bs false 3 (List.map enc_sbi p1)), (1, .v (.int .i64 p2)), (2, .v (.int .i64 p3)), (7, .v (.int .i64 v4)), (47, .v (.bool (!x11)))], []⟩) (C := ((0 ≤ v4 ∧ v4 < ((List.map enc_sbi p1).length : Int)) ∧ (AV.be 3 ((List.map enc_sbi p1).getD v4.toNat []) 0 = AV.be 3 (enc_sbi (gt p1 v4)) 0)) ∧ ((([.v (.string ((gt p1 v4).1))] : List AV) = [.v (.string ((gt p1 v4).1))]) ∧ True) ∧ ((True) ∧ ((.v (.bool (!x5)) : AV) = (.v (.bool false) : AV))) ∧ ((0 ≤ v4 ∧ v4 < ((List.map enc_sbi p1).length : Int)) ∧ (AV.be 3 ((List.map enc_sbi p1).getD v4.toNat []) 0 = AV.be 3 (enc_sbi (gt p1 v4)) 0)) ∧ ((True) ∧ ((.v (.bool ((gt p1 v4).2.1)) : AV) = (.v (.bool false) : AV))) ∧ ((0 ≤ v4 ∧ v4 < ((List.map enc_sbi p1).length : Int)) ∧ (AV.be 3 ((List.map enc_sbi p1).getD v4.toNat []) 0 = AV.be 3 (enc_sbi (gt p1 v4)) 0)) ∧ ((([.v (.int .i64 ((gt p1 v4).2.2)), .v (.int .i64 p2), .v (.int .i64 p3)] : List AV) = [.v (.int .i64 ((gt p1 v4).2.2)), .v (.int .i64 p2), .v (.int .i64 p3)]) ∧ True) ∧ True) (by kernel_rfl) ⟨idx_bs enc_sbi p1 v4 3 g2, ⟨⟨rfl, trivial⟩, ⟨⟨trivial, (congrArg (fun z => AV.v (.bool z)) b4)⟩, ⟨idx_bs enc_sbi p1 v4 3 g2, ⟨⟨trivial, (congrArg (fun z => AV.v (.bool z)) b5)⟩, ⟨idx_bs enc_sbi p1 v4 3 g2, ⟨⟨rfl, trivial⟩, trivial⟩⟩⟩⟩⟩⟩⟩ ⟨call_ok (ks := []) (ns := []) (bor := []) (bobjs := []) (s_spec_validName ((gt p1 v4).1) x5 e3) (.cons (.c1 (.c0 (.same _ (by kernel_rfl) (by kernel_rfl)))) (.nil)) (by kernel_rfl) trivial, ⟨call_ok (ks := []) (ns := []) (bor := []) (bobjs := []) (s_spec_inRange ((gt p1 v4).2.2) p2 p3 x11 e14) (.cons (.c1 (.c0 (.same _ (by kernel_rfl) (by kernel_rfl)))) (.cons (.c1 (.c0 (.same _ (by kernel_rfl) (by kernel_rfl)))) (.cons (.c1 (.c0 (.same _ (by kernel_rfl) (by kernel_rfl)))) (.nil)))) (by kernel_rfl) trivial, trivial⟩⟩ ?_
          rcases bool_cases ((!x11)) with b15 | b15
          · replace h := cd_t b15 h
            refine AX.condT ((!x11)) (by kernel_rfl) b15 ?_
            refine AX.seq ?_
            refine AX.reg (its := []) [6] [] (s1 := ⟨[(6, .v (.bool false))], []⟩) (C := True) (by kernel_rfl) trivial trivial ?_
            refine AX.ret ?_
            refine fin_wk (Wk.forget [6] [] (s' := ⟨[(6, .v (.bool false))], []⟩) (by kernel_rfl)) ?_
            have hr := Option.some.inj h
            subst hr
            exact ⟨_, Wk.refl _, .inl ⟨(), rfl, rfl, rfl⟩⟩
          · replace h := cd_f b15 h
            refine AX.condF ((!x11)) (by kernel_rfl) b15 ?_
            refine AX.skip ?_
            refine AX.seq ?_
            refine AX.reg (its := []) [0, 1, 2, 7, 8] [] (s1 := ⟨[(0, .bs false 3 (List.map enc_sbi p1)), (1, .v (.int .i64 p2)), (2, .v (.int .i64 p3)), (7, .v (.int .i64 v4)), (8, .v (.int .i64 0))], []⟩) (C := True) (by kernel_rfl) trivial trivial ?_
            refine AX.block ?_
            obtain ⟨x13, e20, h⟩ := bd_e h
            refine AX.wk (Wk.forget [0, 1, 2, 7, 8] [] (s' := ⟨[(0, .bs false 3 (List.map enc_sbi p1)), (1, .v (.int .i64 p2)), (2, .v (.int .i64 p3)), (7, .v (.int .i64 v4)), (8, .v (.int .i64 0))], []⟩) (by kernel_rfl)) ?_
            refine AX.mono (s_spec_validItems_L3 p1 p2 p3 v4 FU 0 x13 e20) ?_
            rintro _ _ (⟨x14, rfl, rfl, rfl⟩ | ⟨x15, rfl, rfl, rfl⟩)
            · replace h := sm_l h
              refine fin_wk (Wk.forget [6] [] (s' := ⟨[(6, .v (.bool false))], []⟩) (by kernel_rfl)) ?_
              have hr := Option.some.inj h
              subst hr
              exact ⟨_, Wk.refl _, .inl ⟨(), rfl, rfl, rfl⟩⟩
            · replace h := sm_r h
              refine AX.reg (its := [.auto {}, .auto { raw := true }]) [0, 1, 2, 7] [] (s1 := ⟨[(0, .bs false 3 (List.map enc_sbi p1)), (1, .v (.int .i64 p2)), (2, .v (.int .i64 p3)), (7, .v (.int .i64 (IntKind.wrap .i64 (v4 + 1))))], []⟩) (C := True) (by kernel_rfl) trivial trivial ?_
              refine ⟨(fu, IntKind.wrap .i64 (v4 + 1)), h, Nat.lt_succ_self _, ?_⟩
              refine Wk.trans (Wk.forget [0, 1, 2, 7] [] (s' := ⟨[(0, .bs false 3 (List.map enc_sbi p1)), (1, .v (.int .i64 p2)), (2, .v (.int .i64 p3)), (7, .v (.int .i64 (IntKind.wrap .i64 (v4 + 1))))], []⟩) (by kernel_rfl)) ?_
              exact Wk.refl _
    · replace h := cd_f b1 h
      refine AX.condF (decide (v4 < (p1.length : Int))) (by kernel_rfl) b1 ?_
      refine AX.exit ?_
      refine fin_wk (Wk.forget [0] [] (s' := ⟨[(0, .bs false 3 (List.map enc_sbi p1))], []⟩) (by kernel_rfl)) ?_
      have hr := Option.some.inj h
      subst hr
      exact ⟨_, Wk.refl _, .inr ⟨(), rfl, rfl, rfl⟩⟩

theorem s_spec_validItems (p1 : List (ByteArray × Bool × Int)) (p2 : Int) (p3 : Int) (r : Bool) (h : m_spec_validItems p1 p2 p3 = some r) :
    Eng.Spec Tryd.prog 92 [.bs false 3 (List.map enc_sbi p1), .v (.int .i64 p2), .v (.int .i64 p3)] [] (.v (.bool r)) [] := by
  unfold m_spec_validItems at h
  refine Eng.Spec.body Tryd.func92 (by kernel_rfl) rfl (by kernel_rfl) ?_
  refine AX.wkpost ?_
  refine AX.seq ?_
  refine AX.reg (its := []) [0, 1, 2] [] (s1 := ⟨[(0, .bs false 3 (List.map enc_sbi p1)), (1, .v (.int .i64 p2)), (2, .v (.int .i64 p3))], []⟩) (C := True) (by kernel_rfl) trivial trivial ?_
  refine AX.seq ?_
  refine AX.seq ?_
  refine AX.reg (its := []) [0, 1, 2, 7] [] (s1 := ⟨[(0, .bs false 3 (List.map enc_sbi p1)), (1, .v (.int .i64 p2)), (2, .v (.int .i64 p3)), (7, .v (.int .i64 0))], []⟩) (C := True) (by kernel_rfl) trivial trivial ?_
  refine AX.block ?_
  obtain ⟨x16, e21, h⟩ := bd_e h
  refine AX.wk (Wk.forget [0, 1, 2, 7] [] (s' := ⟨[(0, .bs false 3 (List.map enc_sbi p1)), (1, .v (.int .i64 p2)), (2, .v (.int .i64 p3)), (7, .v (.int .i64 0))], []⟩) (by kernel_rfl)) ?_
  refine AX.mono (s_spec_validItems_L1 p1 p2 p3 FU 0 x16 e21) ?_
  rintro _ _ (⟨x17, rfl, rfl, rfl⟩ | ⟨x18, rfl, rfl, rfl⟩)
  · replace h := sm_l h
    refine fin_wk (Wk.forget [6] [] (s' := ⟨[(6, .v (.bool false))], []⟩) (by kernel_rfl)) ?_
    have hr := Option.some.inj h
    subst hr
    exact ⟨_, Wk.refl _, .inr rfl, ⟨[], by kernel_rfl, trivial, [.v (.bool false)], by kernel_rfl, by kernel_rfl⟩⟩
  · replace h := sm_r h
    refine AX.seq ?_
    refine AX.reg (its := [.auto {}, .auto { y := some (.v (.int .i64 (p1.length : Int))) }]) [6] [] (s1 := ⟨[(6, .v (.bool (decide ((p1.length : Int) ≤ 12))))], []⟩) (C := (True ∧ (AV.v (.int .i64 ((List.map enc_sbi p1).length : Int)) = AV.v (.int .i64 (p1.length : Int)))) ∧ True) (by kernel_rfl) ⟨⟨trivial, len_map enc_sbi p1⟩, trivial⟩ trivial ?_
    refine AX.ret ?_
    refine fin_wk (Wk.forget [6] [] (s' := ⟨[(6, .v (.bool (decide ((p1.length : Int) ≤ 12))))], []⟩) (by kernel_rfl)) ?_
    have hr := Option.some.inj h
    subst hr
    exact ⟨_, Wk.refl _, .inr rfl, ⟨[], by kernel_rfl, trivial, [.v (.bool (decide ((p1.length : Int) ≤ 12)))], by kernel_rfl, by kernel_rfl⟩⟩

theorem s_spec_highest_L1 (p1 : List (ByteArray × Int)) (n : Nat) (g : Int × Int) (out : Int) (h : m_spec_highest_L1 p1 n g.1 g.2 = some out) :
    AX Tryd.prog 27 0 (codeAt [1, 1, 1, 0, 1, 1] (bodyOf Tryd.f93)) ((fun g : Int × Int => (⟨[(0, .bs false 2 (List.map enc_si p1)), (3, .v (.int .i64 g.1)), (4, .v (.int .i64 g.2))], []⟩ : S)) g) (fun ex s => ex = .exit 0 ∧ s = (fun o : Int => (⟨[(3, .v (.int .i64 o))], []⟩ : S)) out) := by
  refine AX.wkpost ?_
  refine AX.loop (G := Nat × (Int × Int)) (fun q => (fun g : Int × Int => (⟨[(0, .bs false 2 (List.map enc_si p1)), (3, .v (.int .i64 g.1)), (4, .v (.int .i64 g.2))], []⟩ : S)) q.2) (fun q => m_spec_highest_L1 p1 q.1 q.2.1 q.2.2 = some out) (fun q => q.1) (n, g) h (Wk.refl _) ?_
  clear h
  rintro ⟨fu, v2, v3⟩ h
  cases fu with
  | zero => cases h
  | succ fu =>
    rw [m_spec_highest_L1] at h
    refine AX.seq ?_
    refine AX.seq ?_
    refine AX.reg (its := [.auto {}, .auto {}, .auto { y := some (.v (.int .i64 (p1.length : Int))) }]) [0, 3, 4, 15] [] (s1 := ⟨[(0, .bs false 2 (List.map enc_si p1)), (3, .v (.int .i64 v2)), (4, .v (.int .i64 v3)), (15, .v (.bool (decide (v3 < (p1.length : Int)))))], []⟩) (C := (True ∧ (AV.v (.int .i64 ((List.map enc_si p1).length : Int)) = AV.v (.int .i64 (p1.length : Int)))) ∧ True) (by kernel_rfl) ⟨⟨trivial, len_map enc_si p1⟩, trivial⟩ trivial ?_
    rcases bool_cases (decide (v3 < (p1.length : Int))) with b3 | b3
    · replace h := cd_t b3 h
      refine AX.condT (decide (v3 < (p1.length : Int))) (by kernel_rfl) b3 ?_
      refine AX.skip ?_
      refine AX.seq ?_
      refine AX.block ?_
      obtain ⟨g4, h⟩ := gd_e h
      refine AX.reg (its := [.auto {}, .auto {}, .auto {}, .auto { y := some (.be 2 (enc_si (gt p1 v3)) 0) }]) [0, 3, 4] [] (s1 := ⟨[(0, .bs false 2 (List.map enc_si p1)), (3, .v (.int .i64 (if ((gt p1 v3).2) > v2 then ((gt p1 v3).2) else v2))), (4, .v (.int .i64 v3))], []⟩) (C := ((0 ≤ v3 ∧ v3 < ((List.map enc_si p1).length : Int)) ∧ (AV.be 2 ((List.map enc_si p1).getD v3.toNat []) 0 = AV.be 2 (enc_si (gt p1 v3)) 0)) ∧ True) (by kernel_rfl) ⟨idx_bs enc_si p1 v3 2 g4, trivial⟩ trivial ?_
      refine AX.reg (its := [.auto {}, .auto { raw := true }]) [0, 3, 4] [] (s1 := ⟨[(0, .bs false 2 (List.map enc_si p1)), (3, .v (.int .i64 (if ((gt p1 v3).2) > v2 then ((gt p1 v3).2) else v2))), (4, .v (.int .i64 (IntKind.wrap .i64 (v3 + 1))))], []⟩) (C := True) (by kernel_rfl) trivial trivial ?_
      refine ⟨(fu, ((if ((gt p1 v3).2) > v2 then ((gt p1 v3).2) else v2), IntKind.wrap .i64 (v3 + 1))), h, Nat.lt_succ_self _, ?_⟩
      refine Wk.trans (Wk.forget [0, 3, 4] [] (s' := ⟨[(0, .bs false 2 (List.map enc_si p1)), (3, .v (.int .i64 (if ((gt p1 v3).2) > v2 then ((gt p1 v3).2) else v2))), (4, .v (.int .i64 (IntKind.wrap .i64 (v3 + 1))))], []⟩) (by kernel_rfl)) ?_
      exact Wk.refl _
    · replace h := cd_f b3 h
      refine AX.condF (decide (v3 < (p1.length : Int))) (by kernel_rfl) b3 ?_
      refine AX.exit ?_
      refine fin_wk (Wk.forget [3] [] (s' := ⟨[(3, .v (.int .i64 v2))], []⟩) (by kernel_rfl)) ?_
      have hr := Option.some.inj h
      subst hr
      exact ⟨_, Wk.refl _, ⟨rfl, rfl⟩⟩

theorem s_spec_highest (p1 : List (ByteArray × Int)) (r : Int) (h : m_spec_highest p1 = some r) :
    Eng.Spec Tryd.prog 93 [.bs false 2 (List.map enc_si p1)] [] (.v (.int .i64 r)) [] := by
  unfold m_spec_highest at h
  refine Eng.Spec.body Tryd.func93 (by kernel_rfl) rfl (by kernel_rfl) ?_
  refine AX.wkpost ?_
  refine AX.seq ?_
  refine AX.reg (its := []) [0] [] (s1 := ⟨[(0, .bs false 2 (List.map enc_si p1))], []⟩) (C := True) (by kernel_rfl) trivial trivial ?_
  refine AX.seq ?_
  refine AX.seq ?_
  refine AX.reg (its := [.auto {}, .auto { y := some (.v (.int .i64 (p1.length : Int))) }]) [0, 7] [] (s1 := ⟨[(0, .bs false 2 (List.map enc_si p1)), (7, .v (.bool (decide ((p1.length : Int) = 0))))], []⟩) (C := (True ∧ (AV.v (.int .i64 ((List.map enc_si p1).length : Int)) = AV.v (.int .i64 (p1.length : Int)))) ∧ True) (by kernel_rfl) ⟨⟨trivial, len_map enc_si p1⟩, trivial⟩ trivial ?_
  rcases bool_cases (decide ((p1.length : Int) = 0)) with b1 | b1
  · replace h := cd_t b1 h
    refine AX.condT (decide ((p1.length : Int) = 0)) (by kernel_rfl) b1 ?_
    refine AX.seq ?_
    refine AX.reg (its := []) [2] [] (s1 := ⟨[(2, .v (.int .i64 1))], []⟩) (C := True) (by kernel_rfl) trivial trivial ?_
    refine AX.ret ?_
    refine fin_wk (Wk.forget [2] [] (s' := ⟨[(2, .v (.int .i64 1))], []⟩) (by kernel_rfl)) ?_
    have hr := Option.some.inj h
    subst hr
    exact ⟨_, Wk.refl _, .inr rfl, ⟨[], by kernel_rfl, trivial, [.v (.int .i64 1)], by kernel_rfl, by kernel_rfl⟩⟩
  · replace h := cd_f b1 h
    refine AX.condF (decide ((p1.length : Int) = 0)) (by kernel_rfl) b1 ?_
    refine AX.skip ?_
    refine AX.seq ?_
    obtain ⟨g2, h⟩ := gd_e h
    refine AX.reg (its := [.auto {}, .auto { y := some (.be 2 (enc_si (gt p1 (0 : Int))) 0) }]) [0, 3] [] (s1 := ⟨[(0, .bs false 2 (List.map enc_si p1)), (3, .v (.int .i64 ((gt p1 (0 : Int)).2)))], []⟩) (C := ((0 ≤ (0 : Int) ∧ (0 : Int) < ((List.map enc_si p1).length : Int)) ∧ (AV.be 2 ((List.map enc_si p1).getD (0 : Int).toNat []) 0 = AV.be 2 (enc_si (gt p1 (0 : Int))) 0)) ∧ True) (by kernel_rfl) ⟨idx_bs enc_si p1 (0 : Int) 2 g2, trivial⟩ trivial ?_
    refine AX.seq ?_
    refine AX.seq ?_
    refine AX.reg (its := []) [0, 3, 4] [] (s1 := ⟨[(0, .bs false 2 (List.map enc_si p1)), (3, .v (.int .i64 ((gt p1 (0 : Int)).2))), (4, .v (.int .i64 0))], []⟩) (C := True) (by kernel_rfl) trivial trivial ?_
    refine AX.block ?_
    obtain ⟨x4, e5, h⟩ := bd_e h
    refine AX.wk (Wk.forget [0, 3, 4] [] (s' := ⟨[(0, .bs false 2 (List.map enc_si p1)), (3, .v (.int .i64 ((gt p1 (0 : Int)).2))), (4, .v (.int .i64 0))], []⟩) (by kernel_rfl)) ?_
    refine AX.mono (s_spec_highest_L1 p1 FU ((gt p1 (0 : Int)).2, 0) x4 e5) ?_
    rintro _ _ ⟨rfl, rfl⟩
    skip
    refine AX.seq ?_
    refine AX.reg (its := [.auto {}, .auto { raw := true }]) [2] [] (s1 := ⟨[(2, .v (.int .i64 (IntKind.wrap .i64 (x4 + 1))))], []⟩) (C := True) (by kernel_rfl) trivial trivial ?_
    refine AX.ret ?_
    refine fin_wk (Wk.forget [2] [] (s' := ⟨[(2, .v (.int .i64 (IntKind.wrap .i64 (x4 + 1))))], []⟩) (by kernel_rfl)) ?_
    have hr := Option.some.inj h
    subst hr
    exact ⟨_, Wk.refl _, .inr rfl, ⟨[], by kernel_rfl, trivial, [.v (.int .i64 (IntKind.wrap .i64 (x4 + 1)))], by kernel_rfl, by kernel_rfl⟩⟩

theorem s_spec_indexOf_L1 (p1 : List (ByteArray × Int)) (p2 : ByteArray) (n : Nat) (g : Int) (out : Int ⊕ Unit) (h : m_spec_indexOf_L1 p1 p2 n g = some out) :
    AX Tryd.prog 20 0 (codeAt [1, 0, 1, 1] (bodyOf Tryd.f101)) ((fun g : Int => (⟨[(0, .bs false 2 (List.map enc_si p1)), (1, .v (.string p2)), (5, .v (.int .i64 g))], []⟩ : S)) g) (fun ex s => (∃ o : Int, out = Sum.inl o ∧ ex = .ret ∧ s = ⟨[(4, .v (.int .i64 o))], []⟩) ∨ (∃ o : Unit, out = Sum.inr o ∧ ex = .exit 0 ∧ s = ⟨[], []⟩)) := by
  refine AX.wkpost ?_
  refine AX.loop (G := Nat × (Int)) (fun q => (fun g : Int => (⟨[(0, .bs false 2 (List.map enc_si p1)), (1, .v (.string p2)), (5, .v (.int .i64 g))], []⟩ : S)) q.2) (fun q => m_spec_indexOf_L1 p1 p2 q.1 q.2 = some out) (fun q => q.1) (n, g) h (Wk.refl _) ?_
  clear h
  rintro ⟨fu, v3⟩ h
  cases fu with
  | zero => cases h
  | succ fu =>
    rw [m_spec_indexOf_L1] at h
    refine AX.seq ?_
    refine AX.seq ?_
    refine AX.reg (its := [.auto {}, .auto {}, .auto { y := some (.v (.int .i64 (p1.length : Int))) }]) [0, 1, 5, 9] [] (s1 := ⟨[(0, .bs false 2 (List.map enc_si p1)), (1, .v (.string p2)), (5, .v (.int .i64 v3)), (9, .v (.bool (decide (v3 < (p1.length : Int)))))], []⟩) (C := (True ∧ (AV.v (.int .i64 ((List.map enc_si p1).length : Int)) = AV.v (.int .i64 (p1.length : Int)))) ∧ True) (by kernel_rfl) ⟨⟨trivial, len_map enc_si p1⟩, trivial⟩ trivial ?_
    rcases bool_cases (decide (v3 < (p1.length : Int))) with b1 | b1
    · replace h := cd_t b1 h
      refine AX.condT (decide (v3 < (p1.length : Int))) (by kernel_rfl) b1 ?_
      refine AX.skip ?_
      refine AX.seq ?_
      refine AX.block ?_
      refine AX.seq ?_
      obtain ⟨g2, h⟩ := gd_e h
      refine AX.reg (its := [.auto {}, .auto {}, .auto { y := some (.be 2 (enc_si (gt p1 v3)) 0) }]) [0, 1, 5, 18] [] (s1 := ⟨[(0, .bs false 2 (List.map enc_si p1)), (1, .v (.string p2)), (5, .v (.int .i64 v3)), (18, .v (.bool (decide (((gt p1 v3).1) = p2))))], []⟩) (C := ((0 ≤ v3 ∧ v3 < ((List.map enc_si p1).length : Int)) ∧ (AV.be 2 ((List.map enc_si p1).getD v3.toNat []) 0 = AV.be 2 (enc_si (gt p1 v3)) 0)) ∧ True) (by kernel_rfl) ⟨idx_bs enc_si p1 v3 2 g2, trivial⟩ trivial ?_
      rcases bool_cases (decide (((gt p1 v3).1) = p2)) with b3 | b3
      · replace h := cd_t b3 h
        refine AX.condT (decide (((gt p1 v3).1) = p2)) (by kernel_rfl) b3 ?_
        refine AX.seq ?_
        refine AX.reg (its := []) [4] [] (s1 := ⟨[(4, .v (.int .i64 v3))], []⟩) (C := True) (by kernel_rfl) trivial trivial ?_
        refine AX.ret ?_
        refine fin_wk (Wk.forget [4] [] (s' := ⟨[(4, .v (.int .i64 v3))], []⟩) (by kernel_rfl)) ?_
        have hr := Option.some.inj h
        subst hr
        exact ⟨_, Wk.refl _, .inl ⟨v3, rfl, rfl, rfl⟩⟩
      · replace h := cd_f b3 h
        refine AX.condF (decide (((gt p1 v3).1) = p2)) (by kernel_rfl) b3 ?_
        refine AX.skip ?_
        refine AX.reg (its := [.auto {}, .auto { raw := true }]) [0, 1, 5] [] (s1 := ⟨[(0, .bs false 2 (List.map enc_si p1)), (1, .v (.string p2)), (5, .v (.int .i64 (IntKind.wrap .i64 (v3 + 1))))], []⟩) (C := True) (by kernel_rfl) trivial trivial ?_
        refine ⟨(fu, IntKind.wrap .i64 (v3 + 1)), h, Nat.lt_succ_self _, ?_⟩
        refine Wk.trans (Wk.forget [0, 1, 5] [] (s' := ⟨[(0, .bs false 2 (List.map enc_si p1)), (1, .v (.string p2)), (5, .v (.int .i64 (IntKind.wrap .i64 (v3 + 1))))], []⟩) (by kernel_rfl)) ?_
        exact Wk.refl _
    · replace h := cd_f b1 h
      refine AX.condF (decide (v3 < (p1.length : Int))) (by kernel_rfl) b1 ?_
      refine AX.exit ?_
      refine fin_wk (Wk.forget [] [] (s' := ⟨[], []⟩) (by kernel_rfl)) ?_
      have hr := Option.some.inj h
      subst hr
      exact ⟨_, Wk.refl _, .inr ⟨(), rfl, rfl, rfl⟩⟩

theorem s_spec_indexOf (p1 : List (ByteArray × Int)) (p2 : ByteArray) (r : Int) (h : m_spec_indexOf p1 p2 = some r) :
    Eng.Spec Tryd.prog 101 [.bs false 2 (List.map enc_si p1), .v (.string p2)] [] (.v (.int .i64 r)) [] := by
  unfold m_spec_indexOf at h
  refine Eng.Spec.body Tryd.func101 (by kernel_rfl) rfl (by kernel_rfl) ?_
  refine AX.wkpost ?_
  refine AX.seq ?_
  refine AX.reg (its := []) [0, 1] [] (s1 := ⟨[(0, .bs false 2 (List.map enc_si p1)), (1, .v (.string p2))], []⟩) (C := True) (by kernel_rfl) trivial trivial ?_
  refine AX.seq ?_
  refine AX.seq ?_
  refine AX.reg (its := []) [0, 1, 5] [] (s1 := ⟨[(0, .bs false 2 (List.map enc_si p1)), (1, .v (.string p2)), (5, .v (.int .i64 0))], []⟩) (C := True) (by kernel_rfl) trivial trivial ?_
  refine AX.block ?_
  obtain ⟨x4, e4, h⟩ := bd_e h
  refine AX.wk (Wk.forget [0, 1, 5] [] (s' := ⟨[(0, .bs false 2 (List.map enc_si p1)), (1, .v (.string p2)), (5, .v (.int .i64 0))], []⟩) (by kernel_rfl)) ?_
  refine AX.mono (s_spec_indexOf_L1 p1 p2 FU 0 x4 e4) ?_
  rintro _ _ (⟨x5, rfl, rfl, rfl⟩ | ⟨x6, rfl, rfl, rfl⟩)
  · replace h := sm_l h
    refine fin_wk (Wk.forget [4] [] (s' := ⟨[(4, .v (.int .i64 x5))], []⟩) (by kernel_rfl)) ?_
    have hr := Option.some.inj h
    subst hr
    exact ⟨_, Wk.refl _, .inr rfl, ⟨[], by kernel_rfl, trivial, [.v (.int .i64 x5)], by kernel_rfl, by kernel_rfl⟩⟩
  · replace h := sm_r h
    refine AX.seq ?_
    refine AX.reg (its := []) [4] [] (s1 := ⟨[(4, .v (.int .i64 (-1)))], []⟩) (C := True) (by kernel_rfl) trivial trivial ?_
    refine AX.ret ?_
    refine fin_wk (Wk.forget [4] [] (s' := ⟨[(4, .v (.int .i64 (-1)))], []⟩) (by kernel_rfl)) ?_
    have hr := Option.some.inj h
    subst hr
    exact ⟨_, Wk.refl _, .inr rfl, ⟨[], by kernel_rfl, trivial, [.v (.int .i64 (-1))], by kernel_rfl, by kernel_rfl⟩⟩

theorem s_spec_validDefs_L1 (p1 : List (ByteArray × Int)) (p2 : Int) (p3 : Int) (n : Nat) (g : Int) (out : Unit ⊕ Unit) (h : m_spec_validDefs_L1 p1 p2 p3 n g = some out) :
    AX Tryd.prog 47 0 (codeAt [1, 0, 1, 1] (bodyOf Tryd.f79)) ((fun g : Int => (⟨[(0, .bs false 2 (List.map enc_si p1)), (1, .v (.int .i64 p2)), (2, .v (.int .i64 p3)), (7, .v (.int .i64 g))], []⟩ : S)) g) (fun ex s => (∃ o : Unit, out = Sum.inl o ∧ ex = .ret ∧ s = ⟨[(6, .v (.bool false))], []⟩) ∨ (∃ o : Unit, out = Sum.inr o ∧ ex = .exit 0 ∧ s = ⟨[(0, .bs false 2 (List.map enc_si p1))], []⟩)) := by
  refine AX.wkpost ?_
  refine AX.loop (G := Nat × (Int)) (fun q => (fun g : Int => (⟨[(0, .bs false 2 (List.map enc_si p1)), (1, .v (.int .i64 p2)), (2, .v (.int .i64 p3)), (7, .v (.int .i64 g))], []⟩ : S)) q.2) (fun q => m_spec_validDefs_L1 p1 p2 p3 q.1 q.2 = some out) (fun q => q.1) (n, g) h (Wk.refl _) ?_
  clear h
  rintro ⟨fu, v4⟩ h
  cases fu with
  | zero => cases h
  | succ fu =>
    rw [m_spec_validDefs_L1] at h
    refine AX.seq ?_
    refine AX.seq ?_
    refine AX.reg (its := [.auto {}, .auto {}, .auto { y := some (.v (.int .i64 (p1.length : Int))) }]) [0, 1, 2, 7, 11] [] (s1 := ⟨[(0, .bs false 2 (List.map enc_si p1)), (1, .v (.int .i64 p2)), (2, .v (.int .i64 p3)), (7, .v (.int .i64 v4)), (11, .v (.bool (decide (v4 < (p1.length : Int)))))], []⟩) (C := (True ∧ (AV.v (.int .i64 ((List.map enc_si p1).length : Int)) = AV.v (.int .i64 (p1.length : Int)))) ∧ True) (by kernel_rfl) ⟨⟨trivial, len_map enc_si p1⟩, trivial⟩ trivial ?_
    rcases bool_cases (decide (v4 < (p1.length : Int))) with b1 | b1
    · replace h := cd_t b1 h
      refine AX.condT (decide (v4 < (p1.length : Int))) (by kernel_rfl) b1 ?_
      refine AX.skip ?_
      refine AX.seq ?_
      refine AX.block ?_
      refine AX.seq ?_
      obtain ⟨g2, h⟩ := gd_e h
      obtain ⟨x5, e3, h⟩ := bd_e h
      rcases bool_cases ((!x5)) with b4 | b4
      · replace h := cd_t b4 h
        refine AX.drw mixed (its := [.auto {}, .auto {}, .auto { y := some (.be 2 (enc_si (gt p1 v4)) 0) }, .auto {}, .auto {}, .call 124 [.v (.string ((gt p1 v4).1))] (handO (rho ([] ++ [])) [] [] ++ []) (callEv [] [] (.v (.bool x5)) []), .auto { y := some (.v (.bool true)) }]) [0, 1, 2, 7, 43] [] (s1 := ⟨[(0, .bs false 2 (List.map enc_si p1)), (1, .v (.int .i64 p2)), (2, .v (.int .i64 p3)), (7, .v (.int .i64 v4)), (43, .v (.bool true))], []⟩) (C := ((0 ≤ v4 ∧ v4 < ((List.map enc_si p1).length : Int)) ∧ (AV.be 2 ((List.map enc_si p1).getD v4.toNat []) 0 = AV.be 2 (enc_si (gt p1 v4)) 0)) ∧ ((([.v (.string ((gt p1 v4).1))] : List AV) = [.v (.string ((gt p1 v4).1))]) ∧ True) ∧ ((True) ∧ ((.v (.bool (!x5)) : AV) = (.v (.bool true) : AV))) ∧ True) (by kernel_rfl) ⟨idx_bs enc_si p1 v4 2 g2, ⟨⟨rfl, trivial⟩, ⟨⟨trivial, (congrArg (fun z => AV.v (.bool z)) b4)⟩, trivial⟩⟩⟩ ⟨call_ok (ks := []) (ns := []) (bor := []) (bobjs := []) (s_spec_validName ((gt p1 v4).1) x5 e3) (.cons (.c1 (.c0 (.same _ (by kernel_rfl) (by kernel_rfl)))) (.nil)) (by kernel_rfl) trivial, trivial⟩ ?_
        refine AX.cond_true (by kernel_rfl) ?_
        refine AX.seq ?_
        refine AX.reg (its := []) [6] [] (s1 := ⟨[(6, .v (.bool false))], []⟩) (C := True) (by kernel_rfl) trivial trivial ?_
        refine AX.ret ?_
        refine fin_wk (Wk.forget [6] [] (s' := ⟨[(6, .v (.bool false))], []⟩) (by kernel_rfl)) ?_
        have hr := Option.some.inj h
        subst hr
        exact ⟨_, Wk.refl _, .inl ⟨(), rfl, rfl, rfl⟩⟩
      · replace h := cd_f b4 h
        obtain ⟨x6, e5, h⟩ := bd_e h
        rcases bool_cases ((!x6)) with b6 | b6
        · replace h := cd_t b6 h
          refine AX.drw mixed (its := [.auto {}, .auto {}, .auto { y := some (.be 2 (enc_si (gt p1 v4)) 0) }, .auto {}, .auto {}, .call 124 [.v (.string ((gt p1 v4).1))] (handO (rho ([] ++ [])) [] [] ++ []) (callEv [] [] (.v (.bool x5)) []), .auto { y := some (.v (.bool false)) }, .auto {}, .auto {}, .auto {}, .auto { y := some (.be 2 (enc_si (gt p1 v4)) 0) }, .auto {}, .auto {}, .auto {}, .auto {}, .call 59 [.v (.int .i64 ((gt p1 v4).2)), .v (.int .i64 p2), .v (.int .i64 p3)] (handO (rho ([] ++ [])) [] [] ++ []) (callEv [] [] (.v (.bool x6)) []), .auto { y := some (.v (.bool true)) }]) [0, 1, 2, 7, 43] [] (s1 := ⟨[(0, .bs false 2 (List.map enc_si p1)), (1, .v (.int .i64 p2)), (2, .v (.int .i64 p3)), (7, .v (.int .i64 v4)), (43, .v (.bool true))], []⟩) (C := ((0 ≤ v4 ∧ v4 < ((List.map enc_si p1).length : Int)) ∧ (AV.be 2 ((List.map enc_si p1).getD v4.toNat []) 0 = AV.be 2 (enc_si (gt p1 v4)) 0)) ∧ ((([.v (.string ((gt p1 v4).1))] : List AV) = [.v (.string ((gt p1 v4).1))]) ∧ True) ∧ ((True) ∧ ((.v (.bool (!x5)) : AV) = (.v (.bool false) : AV))) ∧ ((0 ≤ v4 ∧ v4 < ((List.map enc_si p1).length : Int)) ∧ (AV.be 2 ((List.map enc_si p1).getD v4.toNat []) 0 = AV.be 2 (enc_si (gt p1 v4)) 0)) ∧ ((([.v (.int .i64 ((gt p1 v4).2)), .v (.int .i64 p2), .v (.int .i64 p3)] : List AV) = [.v (.int .i64 ((gt p1 v4).2)), .v (.int .i64 p2), .v (.int .i64 p3)]) ∧ True) ∧ ((True) ∧ ((.v (.bool (!x6)) : AV) = (.v (.bool true) : AV))) ∧ True) (by kernel_rfl) ⟨idx_bs enc_si p1 v4 2 g2, ⟨⟨rfl, trivial⟩, ⟨⟨trivial, (congrArg (fun z => AV.v (.bool z)) b4)⟩, ⟨idx_bs enc_si p1 v4 2 g2, ⟨⟨rfl, trivial⟩, ⟨⟨trivial, (congrArg (fun z => AV.v (.bool z)) b6)⟩, trivial⟩⟩⟩⟩⟩⟩ ⟨call_ok (ks := []) (ns := []) (bor := []) (bobjs := []) (s_spec_validName ((gt p1 v4).1) x5 e3) (.cons (.c1 (.c0 (.same _ (by kernel_rfl) (by kernel_rfl)))) (.nil)) (by kernel_rfl) trivial, ⟨call_ok (ks := []) (ns := []) (bor := []) (bobjs := []) (s_spec_inRange ((gt p1 v4).2) p2 p3 x6 e5) (.cons (.c1 (.c0 (.same _ (by kernel_rfl) (by kernel_rfl)))) (.cons (.c1 (.c0 (.same _ (by kernel_rfl) (by kernel_rfl)))) (.cons (.c1 (.c0 (.same _ (by kernel_rfl) (by kernel_rfl)))) (.nil)))) (by kernel_rfl) trivial, trivial⟩⟩ ?_
          refine AX.cond_true (by kernel_rfl) ?_
          refine AX.seq ?_
          refine AX.reg (its := []) [6] [] (s1 := ⟨[(6, .v (.bool false))], []⟩) (C := True) (by kernel_rfl) trivial trivial ?_
          refine AX.ret ?_
          refine fin_wk (Wk.forget [6] [] (s' := ⟨[(6, .v (.bool false))], []⟩) (by kernel_rfl)) ?_
          have hr := Option.some.inj h
          subst hr
          exact ⟨_, Wk.refl _, .inl ⟨(), rfl, rfl, rfl⟩⟩
        · replace h := cd_f b6 h
          obtain ⟨g7, h⟩ := gd_e h
          obtain ⟨x7, e8, h⟩ := bd_e h
          refine AX.drw mixed (its := [.auto {}, .auto {}, .auto { y := some (.be 2 (enc_si (gt p1 v4)) 0) }, .auto {}, .auto {}, .call 124 [.v (.string ((gt p1 v4).1))] (handO (rho ([] ++ [])) [] [] ++ []) (callEv [] [] (.v (.bool x5)) []), .auto { y := some (.v (.bool false)) }, .auto {}, .auto {}, .auto {}, .auto { y := some (.be 2 (enc_si (gt p1 v4)) 0) }, .auto {}, .auto {}, .auto {}, .auto {}, .call 59 [.v (.int .i64 ((gt p1 v4).2)), .v (.int .i64 p2), .v (.int .i64 p3)] (handO (rho ([] ++ [])) [] [] ++ []) (callEv [] [] (.v (.bool x6)) []), .auto { y := some (.v (.bool false)) }, .auto {}, .auto {}, .auto {}, .auto {}, .auto { y := some (.bs false 2 (List.map enc_si (sub p1 (0 : Int) v4))) }, .auto {}, .auto {}, .auto { y := some (.be 2 (enc_si (gt p1 v4)) 0) }, .auto {}, .auto {}, .call 101 [.bs false 2 (List.map enc_si (sub p1 (0 : Int) v4)), .v (.string ((gt p1 v4).1))] (handO (rho ([] ++ [])) [] [] ++ []) (callEv [] [] (.v (.int .i64 x7)) [])]) [0, 1, 2, 7, 43] [] (s1 := ⟨[(0, .bs false 2 (List.map enc_si p1)), (1, .v (.int .i64 p2)), (2, .v (.int .i64 p3)), (7, .v (.int .i64 v4)), (43, .v (.bool (decide (0 ≤ x7))))], []⟩) (C := ((0 ≤ v4 ∧ v4 < ((List.map enc_si p1).length : Int)) ∧ (AV.be 2 ((List.map enc_si p1).getD v4.toNat []) 0 = AV.be 2 (enc_si (gt p1 v4)) 0)) ∧ ((([.v (.string ((gt p1 v4).1))] : List AV) = [.v (.string ((gt p1 v4).1))]) ∧ True) ∧ ((True) ∧ ((.v (.bool (!x5)) : AV) = (.v (.bool false) : AV))) ∧ ((0 ≤ v4 ∧ v4 < ((List.map enc_si p1).length : Int)) ∧ (AV.be 2 ((List.map enc_si p1).getD v4.toNat []) 0 = AV.be 2 (enc_si (gt p1 v4)) 0)) ∧ ((([.v (.int .i64 ((gt p1 v4).2)), .v (.int .i64 p2), .v (.int .i64 p3)] : List AV) = [.v (.int .i64 ((gt p1 v4).2)), .v (.int .i64 p2), .v (.int .i64 p3)]) ∧ True) ∧ ((True) ∧ ((.v (.bool (!x6)) : AV) = (.v (.bool false) : AV))) ∧ ((0 ≤ (0 : Int) ∧ (0 : Int) ≤ v4 ∧ v4 ≤ ((List.map enc_si p1).length : Int) ∧ ((List.map enc_si p1).length : Int) ≤ ((List.map enc_si p1).length : Int)) ∧ (AV.bs false 2 (((List.map enc_si p1).drop (0 : Int).toNat).take (v4.toNat - (0 : Int).toNat)) = (.bs false 2 (List.map enc_si (sub p1 (0 : Int) v4)) : AV))) ∧ ((0 ≤ v4 ∧ v4 < ((List.map enc_si p1).length : Int)) ∧ (AV.be 2 ((List.map enc_si p1).getD v4.toNat []) 0 = AV.be 2 (enc_si (gt p1 v4)) 0)) ∧ ((([.bs false 2 (List.map enc_si (sub p1 (0 : Int) v4)), .v (.string ((gt p1 v4).1))] : List AV) = [.bs false 2 (List.map enc_si (sub p1 (0 : Int) v4)), .v (.string ((gt p1 v4).1))]) ∧ True) ∧ True) (by kernel_rfl) ⟨idx_bs enc_si p1 v4 2 g2, ⟨⟨rfl, trivial⟩, ⟨⟨trivial, (congrArg (fun z => AV.v (.bool z)) b4)⟩, ⟨idx_bs enc_si p1 v4 2 g2, ⟨⟨rfl, trivial⟩, ⟨⟨trivial, (congrArg (fun z => AV.v (.bool z)) b6)⟩, ⟨⟨by first | exact g7 | simpa only [List.length_map] using g7, by first | exact sub_can enc_si p1 (0 : Int) v4 false 2 | (simp only [List.length_map]; exact sub_can enc_si p1 (0 : Int) v4 false 2)⟩, ⟨idx_bs enc_si p1 v4 2 g2, ⟨⟨rfl, trivial⟩, trivial⟩⟩⟩⟩⟩⟩⟩⟩⟩ ⟨call_ok (ks := []) (ns := []) (bor := []) (bobjs := []) (s_spec_validName ((gt p1 v4).1) x5 e3) (.cons (.c1 (.c0 (.same _ (by kernel_rfl) (by kernel_rfl)))) (.nil)) (by kernel_rfl) trivial, ⟨call_ok (ks := []) (ns := []) (bor := []) (bobjs := []) (s_spec_inRange ((gt p1 v4).2) p2 p3 x6 e5) (.cons (.c1 (.c0 (.same _ (by kernel_rfl) (by kernel_rfl)))) (.cons (.c1 (.c0 (.same _ (by kernel_rfl) (by kernel_rfl)))) (.cons (.c1 (.c0 (.same _ (by kernel_rfl) (by kernel_rfl)))) (.nil)))) (by kernel_rfl) trivial, ⟨call_ok (ks := []) (ns := []) (bor := []) (bobjs := []) (s_spec_indexOf (sub p1 (0 : Int) v4) ((gt p1 v4).1) x7 e8) (.cons (.c1 (.c0 (.same _ (by kernel_rfl) (by kernel_rfl)))) (.cons (.c1 (.c0 (.same _ (by kernel_rfl) (by kernel_rfl)))) (.nil))) (by kernel_rfl) trivial, trivial⟩⟩⟩ ?_
          rcases bool_cases (decide (0 ≤ x7)) with b9 | b9
          · replace h := cd_t b9 h
            refine AX.condT (decide (0 ≤ x7)) (by kernel_rfl) b9 ?_
            refine AX.seq ?_
            refine AX.reg (its := []) [6] [] (s1 := ⟨[(6, .v (.bool false))], []⟩) (C := True) (by kernel_rfl) trivial trivial ?_
            refine AX.ret ?_
            refine fin_wk (Wk.forget [6] [] (s' := ⟨[(6, .v (.bool false))], []⟩) (by kernel_rfl)) ?_
            have hr := Option.some.inj h
            subst hr
            exact ⟨_, Wk.refl _, .inl ⟨(), rfl, rfl, rfl⟩⟩
          · replace h := cd_f b9 h
            refine AX.condF (decide (0 ≤ x7)) (by kernel_rfl) b9 ?_
            refine AX.skip ?_
            refine AX.reg (its := [.auto {}, .auto { raw := true }]) [0, 1, 2, 7] [] (s1 := ⟨[(0, .bs false 2 (List.map enc_si p1)), (1, .v (.int .i64 p2)), (2, .v (.int .i64 p3)), (7, .v (.int .i64 (IntKind.wrap .i64 (v4 + 1))))], []⟩) (C := True) (by kernel_rfl) trivial trivial ?_
            refine ⟨(fu, IntKind.wrap .i64 (v4 + 1)), h, Nat.lt_succ_self _, ?_⟩
            refine Wk.trans (Wk.forget [0, 1, 2, 7] [] (s' := ⟨[(0, .bs false 2 (List.map enc_si p1)), (1, .v (.int .i64 p2)), (2, .v (.int .i64 p3)), (7, .v (.int .i64 (IntKind.wrap .i64 (v4 + 1))))], []⟩) (by kernel_rfl)) ?_
            exact Wk.refl _
    · replace h := cd_f b1 h
      refine AX.condF (decide (v4 < (p1.length : Int))) (by kernel_rfl) b1 ?_
      refine AX.exit ?_
      refine fin_wk (Wk.forget [0] [] (s' := ⟨[(0, .bs false 2 (List.map enc_si p1))], []⟩) (by kernel_rfl)) ?_
      have hr := Option.some.inj h
      subst hr
      exact ⟨_, Wk.refl _, .inr ⟨(), rfl, rfl, rfl⟩⟩

theorem s_spec_validDefs (p1 : List (ByteArray × Int)) (p2 : Int) (p3 : Int) (r : Bool) (h : m_spec_validDefs p1 p2 p3 = some r) :
    Eng.Spec Tryd.prog 79 [.bs false 2 (List.map enc_si p1), .v (.int .i64 p2), .v (.int .i64 p3)] [] (.v (.bool r)) [] := by
  unfold m_spec_validDefs at h
  refine Eng.Spec.body Tryd.func79 (by kernel_rfl) rfl (by kernel_rfl) ?_
  refine AX.wkpost ?_
  refine AX.seq ?_
  refine AX.reg (its := []) [0, 1, 2] [] (s1 := ⟨[(0, .bs false 2 (List.map enc_si p1)), (1, .v (.int .i64 p2)), (2, .v (.int .i64 p3))], []⟩) (C := True) (by kernel_rfl) trivial trivial ?_
  refine AX.seq ?_
  refine AX.seq ?_
  refine AX.reg (its := []) [0, 1, 2, 7] [] (s1 := ⟨[(0, .bs false 2 (List.map enc_si p1)), (1, .v (.int .i64 p2)), (2, .v (.int .i64 p3)), (7, .v (.int .i64 0))], []⟩) (C := True) (by kernel_rfl) trivial trivial ?_
  refine AX.block ?_
  obtain ⟨x8, e10, h⟩ := bd_e h
  refine AX.wk (Wk.forget [0, 1, 2, 7] [] (s' := ⟨[(0, .bs false 2 (List.map enc_si p1)), (1, .v (.int .i64 p2)), (2, .v (.int .i64 p3)), (7, .v (.int .i64 0))], []⟩) (by kernel_rfl)) ?_
  refine AX.mono (s_spec_validDefs_L1 p1 p2 p3 FU 0 x8 e10) ?_
  rintro _ _ (⟨x9, rfl, rfl, rfl⟩ | ⟨x10, rfl, rfl, rfl⟩)
  · replace h := sm_l h
    refine fin_wk (Wk.forget [6] [] (s' := ⟨[(6, .v (.bool false))], []⟩) (by kernel_rfl)) ?_
    have hr := Option.some.inj h
    subst hr
    exact ⟨_, Wk.refl _, .inr rfl, ⟨[], by kernel_rfl, trivial, [.v (.bool false)], by kernel_rfl, by kernel_rfl⟩⟩
  · replace h := sm_r h
    refine AX.seq ?_
    refine AX.reg (its := [.auto {}, .auto { y := some (.v (.int .i64 (p1.length : Int))) }]) [6] [] (s1 := ⟨[(6, .v (.bool (decide ((p1.length : Int) ≤ 12))))], []⟩) (C := (True ∧ (AV.v (.int .i64 ((List.map enc_si p1).length : Int)) = AV.v (.int .i64 (p1.length : Int)))) ∧ True) (by kernel_rfl) ⟨⟨trivial, len_map enc_si p1⟩, trivial⟩ trivial ?_
    refine AX.ret ?_
    refine fin_wk (Wk.forget [6] [] (s' := ⟨[(6, .v (.bool (decide ((p1.length : Int) ≤ 12))))], []⟩) (by kernel_rfl)) ?_
    have hr := Option.some.inj h
    subst hr
    exact ⟨_, Wk.refl _, .inr rfl, ⟨[], by kernel_rfl, trivial, [.v (.bool (decide ((p1.length : Int) ≤ 12)))], by kernel_rfl, by kernel_rfl⟩⟩

theorem s_spec_validEnum (p1 : List (ByteArray × Int)) (r : Bool) (h : m_spec_validEnum p1 = some r) :
    Eng.Spec Tryd.prog 58 [.agg [.bs false 2 (List.map enc_si p1)]] [] (.v (.bool r)) [] := by
  unfold m_spec_validEnum at h
  refine Eng.Spec.body Tryd.func58 (by kernel_rfl) rfl (by kernel_rfl) ?_
  refine AX.wkpost ?_
  refine AX.seq ?_
  refine AX.reg (its := [.auto { nk := 0 }]) [1] [0] (s1 := ⟨[(1, .pt 0 0)], [(0, .box [.bs false 2 (List.map enc_si p1)])]⟩) (C := True) (by kernel_rfl) trivial trivial ?_
  refine AX.seq ?_
  obtain ⟨x2, e1, h⟩ := bd_e h
  refine AX.reg (its := [.auto {}, .auto {}, .call 79 [.bs false 2 (List.map enc_si p1), .v (.int .i64 (-1000)), .v (.int .i64 1000)] (handO (rho ([] ++ [])) [] [] ++ []) (callEv [] [] (.v (.bool x2)) [])]) [2] [] (s1 := ⟨[(2, .v (.bool x2))], []⟩) (C := ((([.bs false 2 (List.map enc_si p1), .v (.int .i64 (-1000)), .v (.int .i64 1000)] : List AV) = [.bs false 2 (List.map enc_si p1), .v (.int .i64 (-1000)), .v (.int .i64 1000)]) ∧ True) ∧ True) (by kernel_rfl) ⟨⟨rfl, trivial⟩, trivial⟩ ⟨call_ok (ks := []) (ns := []) (bor := []) (bobjs := []) (s_spec_validDefs p1 (-1000) 1000 x2 e1) (.cons (.c1 (.c0 (.same _ (by kernel_rfl) (by kernel_rfl)))) (.cons (.c1 (.c0 (.same _ (by kernel_rfl) (by kernel_rfl)))) (.cons (.c1 (.c0 (.same _ (by kernel_rfl) (by kernel_rfl)))) (.nil)))) (by kernel_rfl) trivial, trivial⟩ ?_
  refine AX.ret ?_
  refine fin_wk (Wk.forget [2] [] (s' := ⟨[(2, .v (.bool x2))], []⟩) (by kernel_rfl)) ?_
  have hr := Option.some.inj h
  subst hr
  exact ⟨_, Wk.refl _, .inr rfl, ⟨[], by kernel_rfl, trivial, [.v (.bool x2)], by kernel_rfl, by kernel_rfl⟩⟩

theorem s_spec_BuildEnum_L1 (p1 : List (ByteArray × Bool × Int)) (n : Nat) (g : (List (ByteArray × Int)) × Int) (out : List (ByteArray × Int)) (h : m_spec_BuildEnum_L1 p1 n g.1 g.2 = some out) :
    AX Tryd.prog 49 0 (codeAt [1, 1, 1, 0, 1, 1] (bodyOf Tryd.f46)) ((fun g : (List (ByteArray × Int)) × Int => (⟨[(0, .bs false 3 (List.map enc_sbi p1)), (2, .pt 0 0), (4, .pt 1 0), (5, .v (.int .i64 g.2))], [(0, .box [.v (.slice none 0 0)]), (1, .box [.sl 2 0 g.1.length]), (2, .arr 2 (List.map enc_si g.1))]⟩ : S)) g) (fun ex s => ex = .exit 0 ∧ s = (fun o : List (ByteArray × Int) => (⟨[(2, .pt 0 0), (4, .pt 1 0)], [(0, .box [.v (.slice none 0 0)]), (1, .box [.sl 2 0 o.length]), (2, .arr 2 (List.map enc_si o))]⟩ : S)) out) := by
  refine AX.wkpost ?_
  refine AX.loop (G := Nat × ((List (ByteArray × Int)) × Int)) (fun q => (fun g : (List (ByteArray × Int)) × Int => (⟨[(0, .bs false 3 (List.map enc_sbi p1)), (2, .pt 0 0), (4, .pt 1 0), (5, .v (.int .i64 g.2))], [(0, .box [.v (.slice none 0 0)]), (1, .box [.sl 2 0 g.1.length]), (2, .arr 2 (List.map enc_si g.1))]⟩ : S)) q.2) (fun q => m_spec_BuildEnum_L1 p1 q.1 q.2.1 q.2.2 = some out) (fun q => q.1) (n, g) h (Wk.refl _) ?_
  clear h
  rintro ⟨fu, v3, v4⟩ h
  cases fu with
  | zero => cases h
  | succ fu =>
    rw [m_spec_BuildEnum_L1] at h
    refine AX.seq ?_
    refine AX.seq ?_
    refine AX.reg (its := [.auto {}, .auto {}, .auto { y := some (.v (.int .i64 (p1.length : Int))) }]) [0, 2, 4, 5, 15] [0, 1, 2] (s1 := ⟨[(0, .bs false 3 (List.map enc_sbi p1)), (2, .pt 0 0), (4, .pt 1 0), (5, .v (.int .i64 v4)), (15, .v (.bool (decide (v4 < (p1.length : Int)))))], [(0, .box [.v (.slice none 0 0)]), (1, .box [.sl 2 0 v3.length]), (2, .arr 2 (List.map enc_si v3))]⟩) (C := (True ∧ (AV.v (.int .i64 ((List.map enc_sbi p1).length : Int)) = AV.v (.int .i64 (p1.length : Int)))) ∧ True) (by kernel_rfl) ⟨⟨trivial, len_map enc_sbi p1⟩, trivial⟩ trivial ?_
    rcases bool_cases (decide (v4 < (p1.length : Int))) with b3 | b3
    · replace h := cd_t b3 h
      refine AX.condT (decide (v4 < (p1.length : Int))) (by kernel_rfl) b3 ?_
      refine AX.skip ?_
      refine AX.seq ?_
      refine AX.block ?_
      refine AX.seq ?_
      obtain ⟨g4, h⟩ := gd_e h
      refine AX.drw mixed (its := [.auto {}, .auto {}, .auto { y := some (.be 3 (enc_sbi (gt p1 v4)) 0) }, .auto {}, .auto {}, .auto {}, .auto {}, .auto { y := some (.be 3 (enc_sbi (gt p1 v4)) 0) }, .auto {}, .auto {}, .auto {}, .auto { nk := 3 }]) [0, 2, 4, 5, 6] [0, 1, 2, 3] (s1 := ⟨[(0, .bs false 3 (List.map enc_sbi p1)), (2, .pt 0 0), (4, .pt 1 0), (5, .v (.int .i64 v4)), (6, .pt 3 0)], [(0, .box [.v (.slice none 0 0)]), (1, .box [.sl 2 0 v3.length]), (2, .arr 2 (List.map enc_si v3)), (3, .box [.v (.string ((gt p1 v4).1)), .v (.int .i64 ((gt p1 v4).2.2))])]⟩) (C := ((0 ≤ v4 ∧ v4 < ((List.map enc_sbi p1).length : Int)) ∧ (AV.be 3 ((List.map enc_sbi p1).getD v4.toNat []) 0 = AV.be 3 (enc_sbi (gt p1 v4)) 0)) ∧ ((0 ≤ v4 ∧ v4 < ((List.map enc_sbi p1).length : Int)) ∧ (AV.be 3 ((List.map enc_sbi p1).getD v4.toNat []) 0 = AV.be 3 (enc_sbi (gt p1 v4)) 0)) ∧ True) (by kernel_rfl) ⟨idx_bs enc_sbi p1 v4 3 g4, ⟨idx_bs enc_sbi p1 v4 3 g4, trivial⟩⟩ trivial ?_
      refine AX.seq ?_
      refine AX.seq ?_
      refine AX.reg (its := [.auto {}, .auto {}, .auto { y := some (.be 3 (enc_sbi (gt p1 v4)) 0) }]) [0, 2, 4, 5, 6, 33] [0, 1, 2, 3] (s1 := ⟨[(0, .bs false 3 (List.map enc_sbi p1)), (2, .pt 0 0), (4, .pt 1 0), (5, .v (.int .i64 v4)), (6, .pt 3 0), (33, .v (.bool ((gt p1 v4).2.1)))], [(0, .box [.v (.slice none 0 0)]), (1, .box [.sl 2 0 v3.length]), (2, .arr 2 (List.map enc_si v3)), (3, .box [.v (.string ((gt p1 v4).1)), .v (.int .i64 ((gt p1 v4).2.2))])]⟩) (C := ((0 ≤ v4 ∧ v4 < ((List.map enc_sbi p1).length : Int)) ∧ (AV.be 3 ((List.map enc_sbi p1).getD v4.toNat []) 0 = AV.be 3 (enc_sbi (gt p1 v4)) 0)) ∧ True) (by kernel_rfl) ⟨idx_bs enc_sbi p1 v4 3 g4, trivial⟩ trivial ?_
      rcases bool_cases ((gt p1 v4).2.1) with b5 | b5
      · replace h := cd_t b5 h
        refine AX.condT ((gt p1 v4).2.1) (by kernel_rfl) b5 ?_
        obtain ⟨x5, e6, h⟩ := bd_e h
        refine AX.reg (its := [.auto {}, .auto {}, .call 93 [.sl 2 0 v3.length] (handO (rho ([] ++ [])) [] [] ++ [(2, .arr 2 (List.map enc_si v3))]) (callEv [] [] (.v (.int .i64 x5)) [])]) [0, 2, 4, 5, 6] [0, 1, 2, 3] (s1 := ⟨[(0, .bs false 3 (List.map enc_sbi p1)), (2, .pt 0 0), (4, .pt 1 0), (5, .v (.int .i64 v4)), (6, .pt 3 0)], [(0, .box [.v (.slice none 0 0)]), (1, .box [.sl 2 0 v3.length]), (2, .arr 2 (List.map enc_si v3)), (3, .box [.v (.string ((gt p1 v4).1)), .v (.int .i64 x5)])]⟩) (C := ((([.sl 2 0 v3.length] : List AV) = [.sl 2 0 v3.length]) ∧ (AO.arr 2 (List.map enc_si v3) = AO.arr 2 (List.map enc_si v3)) ∧ True) ∧ True) (by kernel_rfl) ⟨⟨rfl, rfl, trivial⟩, trivial⟩ ⟨call_ok (ks := []) (ns := []) (bor := [2]) (bobjs := [(2, .arr 2 (List.map enc_si v3))]) (s_spec_highest v3 x5 e6) (.cons (.c1 (.c0 (.arr rfl rfl ((rfl).trans (List.length_map ..).symm)))) (.nil)) (by kernel_rfl) trivial, trivial⟩ ?_
        obtain ⟨g7, h⟩ := gd_e h
        refine AX.reg (its := [.auto {}, .auto {}, .auto {}, .auto { nk := 4 }, .auto { y := some (.sl 5 0 ((v3 ++ ([((gt p1 v4).1, x5)] : List (ByteArray × Int))).length)), els := some (List.map enc_si v3), els2 := some (List.map enc_si ([((gt p1 v4).1, x5)] : List (ByteArray × Int))), nk := 5 }]) [0, 2, 4, 5] [0, 1, 5] (s1 := ⟨[(0, .bs false 3 (List.map enc_sbi p1)), (2, .pt 0 0), (4, .pt 1 0), (5, .v (.int .i64 v4))], [(0, .box [.v (.slice none 0 0)]), (1, .box [.sl 5 0 ((v3 ++ ([((gt p1 v4).1, x5)] : List (ByteArray × Int))).length)]), (5, .arr 2 (List.map enc_si v3 ++ List.map enc_si ([((gt p1 v4).1, x5)] : List (ByteArray × Int))))]⟩) (C := ((((((List.map enc_si v3).drop 0).take (v3.length) = List.map enc_si v3) ∧ (((List.map enc_si ([((gt p1 v4).1, x5)] : List (ByteArray × Int))).drop 0).take (([((gt p1 v4).1, x5)] : List (ByteArray × Int)).length) = List.map enc_si ([((gt p1 v4).1, x5)] : List (ByteArray × Int)))) ∧ (List.map enc_si v3).length + (List.map enc_si ([((gt p1 v4).1, x5)] : List (ByteArray × Int))).length ≤ 1099511627776) ∧ (AV.sl 5 0 (List.map enc_si v3 ++ List.map enc_si ([((gt p1 v4).1, x5)] : List (ByteArray × Int))).length = AV.sl 5 0 (v3 ++ ([((gt p1 v4).1, x5)] : List (ByteArray × Int))).length)) ∧ True) (by kernel_rfl) ⟨⟨⟨⟨(dt_all (enc := enc_si) rfl rfl), (dt_all (enc := enc_si) rfl rfl)⟩, (by simp only [List.length_map, List.length_nil, List.length_replicate]; simpa using g7)⟩, sl_len (enc := enc_si) (app_can (enc := enc_si) rfl (rfl))⟩, trivial⟩ trivial ?_
        refine AX.reg (its := [.auto {}, .auto { raw := true }]) [0, 2, 4, 5] [0, 1, 5] (s1 := ⟨[(0, .bs false 3 (List.map enc_sbi p1)), (2, .pt 0 0), (4, .pt 1 0), (5, .v (.int .i64 (IntKind.wrap .i64 (v4 + 1))))], [(0, .box [.v (.slice none 0 0)]), (1, .box [.sl 5 0 ((v3 ++ ([((gt p1 v4).1, x5)] : List (ByteArray × Int))).length)]), (5, .arr 2 (List.map enc_si v3 ++ List.map enc_si ([((gt p1 v4).1, x5)] : List (ByteArray × Int))))]⟩) (C := True) (by kernel_rfl) trivial trivial ?_
        refine ⟨(fu, (v3 ++ ([((gt p1 v4).1, x5)] : List (ByteArray × Int)), IntKind.wrap .i64 (v4 + 1))), h, Nat.lt_succ_self _, ?_⟩
        refine Wk.trans (Wk.swap 2 5 (Nat.le_of_ble_eq_true (by kernel_rfl)) (Nat.le_of_ble_eq_true (by kernel_rfl)) rfl) ?_
        refine Wk.trans (Wk.forget [0, 2, 4, 5] [0, 1, 2] (s' := ⟨[(0, .bs false 3 (List.map enc_sbi p1)), (2, .pt 0 0), (4, .pt 1 0), (5, .v (.int .i64 (IntKind.wrap .i64 (v4 + 1))))], [(0, .box [.v (.slice none 0 0)]), (1, .box [.sl 2 0 ((v3 ++ ([((gt p1 v4).1, x5)] : List (ByteArray × Int))).length)]), (2, .arr 2 (List.map enc_si v3 ++ List.map enc_si ([((gt p1 v4).1, x5)] : List (ByteArray × Int))))]⟩) (by kernel_rfl)) ?_
        refine Wk.trans (Wk.of_eq (congrArg (fun z => (⟨[(0, .bs false 3 (List.map enc_sbi p1)), (2, .pt 0 0), (4, .pt 1 0), (5, .v (.int .i64 (IntKind.wrap .i64 (v4 + 1))))], [(0, .box [.v (.slice none 0 0)]), (1, .box [.sl 2 0 ((v3 ++ ([((gt p1 v4).1, x5)] : List (ByteArray × Int))).length)]), (2, .arr 2 (z))]⟩ : S)) (app_can (enc := enc_si) rfl (rfl) : List.map enc_si v3 ++ List.map enc_si ([((gt p1 v4).1, x5)] : List (ByteArray × Int)) = List.map enc_si (v3 ++ ([((gt p1 v4).1, x5)] : List (ByteArray × Int)))))) ?_
        exact Wk.refl _
      · replace h := cd_f b5 h
        refine AX.condF ((gt p1 v4).2.1) (by kernel_rfl) b5 ?_
        refine AX.skip ?_
        obtain ⟨g8, h⟩ := gd_e h
        refine AX.reg (its := [.auto {}, .auto {}, .auto {}, .auto { nk := 4 }, .auto { y := some (.sl 5 0 ((v3 ++ ([((gt p1 v4).1, (gt p1 v4).2.2)] : List (ByteArray × Int))).length)), els := some (List.map enc_si v3), els2 := some (List.map enc_si ([((gt p1 v4).1, (gt p1 v4).2.2)] : List (ByteArray × Int))), nk := 5 }]) [0, 2, 4, 5] [0, 1, 5] (s1 := ⟨[(0, .bs false 3 (List.map enc_sbi p1)), (2, .pt 0 0), (4, .pt 1 0), (5, .v (.int .i64 v4))], [(0, .box [.v (.slice none 0 0)]), (1, .box [.sl 5 0 ((v3 ++ ([((gt p1 v4).1, (gt p1 v4).2.2)] : List (ByteArray × Int))).length)]), (5, .arr 2 (List.map enc_si v3 ++ List.map enc_si ([((gt p1 v4).1, (gt p1 v4).2.2)] : List (ByteArray × Int))))]⟩) (C := ((((((List.map enc_si v3).drop 0).take (v3.length) = List.map enc_si v3) ∧ (((List.map enc_si ([((gt p1 v4).1, (gt p1 v4).2.2)] : List (ByteArray × Int))).drop 0).take (([((gt p1 v4).1, (gt p1 v4).2.2)] : List (ByteArray × Int)).length) = List.map enc_si ([((gt p1 v4).1, (gt p1 v4).2.2)] : List (ByteArray × Int)))) ∧ (List.map enc_si v3).length + (List.map enc_si ([((gt p1 v4).1, (gt p1 v4).2.2)] : List (ByteArray × Int))).length ≤ 1099511627776) ∧ (AV.sl 5 0 (List.map enc_si v3 ++ List.map enc_si ([((gt p1 v4).1, (gt p1 v4).2.2)] : List (ByteArray × Int))).length = AV.sl 5 0 (v3 ++ ([((gt p1 v4).1, (gt p1 v4).2.2)] : List (ByteArray × Int))).length)) ∧ True) (by kernel_rfl) ⟨⟨⟨⟨(dt_all (enc := enc_si) rfl rfl), (dt_all (enc := enc_si) rfl rfl)⟩, (by simp only [List.length_map, List.length_nil, List.length_replicate]; simpa using g8)⟩, sl_len (enc := enc_si) (app_can (enc := enc_si) rfl (rfl))⟩, trivial⟩ trivial ?_
        refine AX.reg (its := [.auto {}, .auto { raw := true }]) [0, 2, 4, 5] [0, 1, 5] (s1 := ⟨[(0, .bs false 3 (List.map enc_sbi p1)), (2, .pt 0 0), (4, .pt 1 0), (5, .v (.int .i64 (IntKind.wrap .i64 (v4 + 1))))], [(0, .box [.v (.slice none 0 0)]), (1, .box [.sl 5 0 ((v3 ++ ([((gt p1 v4).1, (gt p1 v4).2.2)] : List (ByteArray × Int))).length)]), (5, .arr 2 (List.map enc_si v3 ++ List.map enc_si ([((gt p1 v4).1, (gt p1 v4).2.2)] : List (ByteArray × Int))))]⟩) (C := True) (by kernel_rfl) trivial trivial ?_
        refine ⟨(fu, (v3 ++ ([((gt p1 v4).1, (gt p1 v4).2.2)] : List (ByteArray × Int)), IntKind.wrap .i64 (v4 + 1))), h, Nat.lt_succ_self _, ?_⟩
        refine Wk.trans (Wk.swap 2 5 (Nat.le_of_ble_eq_true (by kernel_rfl)) (Nat.le_of_ble_eq_true (by kernel_rfl)) rfl) ?_
        refine Wk.trans (Wk.forget [0, 2, 4, 5] [0, 1, 2] (s' := ⟨[(0, .bs false 3 (List.map enc_sbi p1)), (2, .pt 0 0), (4, .pt 1 0), (5, .v (.int .i64 (IntKind.wrap .i64 (v4 + 1))))], [(0, .box [.v (.slice none 0 0)]), (1, .box [.sl 2 0 ((v3 ++ ([((gt p1 v4).1, (gt p1 v4).2.2)] : List (ByteArray × Int))).length)]), (2, .arr 2 (List.map enc_si v3 ++ List.map enc_si ([((gt p1 v4).1, (gt p1 v4).2.2)] : List (ByteArray × Int))))]⟩) (by kernel_rfl)) ?_
        refine Wk.trans (Wk.of_eq (congrArg (fun z => (⟨[(0, .bs false 3 (List.map enc_sbi p1)), (2, .pt 0 0), (4, .pt 1 0), (5, .v (.int .i64 (IntKind.wrap .i64 (v4 + 1))))], [(0, .box [.v (.slice none 0 0)]), (1, .box [.sl 2 0 ((v3 ++ ([((gt p1 v4).1, (gt p1 v4).2.2)] : List (ByteArray × Int))).length)]), (2, .arr 2 (z))]⟩ : S)) (app_can (enc := enc_si) rfl (rfl) : List.map enc_si v3 ++ List.map enc_si ([((gt p1 v4).1, (gt p1 v4).2.2)] : List (ByteArray × Int)) = List.map enc_si (v3 ++ ([((gt p1 v4).1, (gt p1 v4).2.2)] : List (ByteArray × Int)))))) ?_
        exact Wk.refl _
    · replace h := cd_f b3 h
      refine AX.condF (decide (v4 < (p1.length : Int))) (by kernel_rfl) b3 ?_
      refine AX.exit ?_
      refine fin_wk (Wk.forget [2, 4] [0, 1, 2] (s' := ⟨[(2, .pt 0 0), (4, .pt 1 0)], [(0, .box [.v (.slice none 0 0)]), (1, .box [.sl 2 0 v3.length]), (2, .arr 2 (List.map enc_si v3))]⟩) (by kernel_rfl)) ?_
      have hr := Option.some.inj h
      subst hr
      exact ⟨_, Wk.refl _, ⟨rfl, rfl⟩⟩

theorem s_spec_BuildEnum (p1 : List (ByteArray × Bool × Int)) (r : (List (ByteArray × Int)) × Bool) (h : m_spec_BuildEnum p1 = some r) :
    Eng.Spec Tryd.prog 46 [.bs false 3 (List.map enc_sbi p1)] [] (.tup [.agg [.sl 0 0 r.1.length], .v (.bool r.2)]) [.arr 2 (List.map enc_si r.1)] := by
  unfold m_spec_BuildEnum at h
  refine Eng.Spec.body Tryd.func46 (by kernel_rfl) rfl (by kernel_rfl) ?_
  refine AX.wkpost ?_
  refine AX.seq ?_
  refine AX.reg (its := [.auto { nk := 0 }]) [0, 2] [0] (s1 := ⟨[(0, .bs false 3 (List.map enc_sbi p1)), (2, .pt 0 0)], [(0, .box [.v (.slice none 0 0)])]⟩) (C := True) (by kernel_rfl) trivial trivial ?_
  refine AX.seq ?_
  refine AX.seq ?_
  obtain ⟨x2, e1, h⟩ := bd_e h
  refine AX.reg (its := [.auto {}, .call 92 [.bs false 3 (List.map enc_sbi p1), .v (.int .i64 (-1000)), .v (.int .i64 1000)] (handO (rho ([] ++ [])) [] [] ++ []) (callEv [] [] (.v (.bool x2)) [])]) [0, 2, 9] [0] (s1 := ⟨[(0, .bs false 3 (List.map enc_sbi p1)), (2, .pt 0 0), (9, .v (.bool (!x2)))], [(0, .box [.v (.slice none 0 0)])]⟩) (C := ((([.bs false 3 (List.map enc_sbi p1), .v (.int .i64 (-1000)), .v (.int .i64 1000)] : List AV) = [.bs false 3 (List.map enc_sbi p1), .v (.int .i64 (-1000)), .v (.int .i64 1000)]) ∧ True) ∧ True) (by kernel_rfl) ⟨⟨rfl, trivial⟩, trivial⟩ ⟨call_ok (ks := []) (ns := []) (bor := []) (bobjs := []) (s_spec_validItems p1 (-1000) 1000 x2 e1) (.cons (.c1 (.c0 (.same _ (by kernel_rfl) (by kernel_rfl)))) (.cons (.c1 (.c0 (.same _ (by kernel_rfl) (by kernel_rfl)))) (.cons (.c1 (.c0 (.same _ (by kernel_rfl) (by kernel_rfl)))) (.nil)))) (by kernel_rfl) trivial, trivial⟩ ?_
  rcases bool_cases ((!x2)) with b2 | b2
  · replace h := cd_t b2 h
    refine AX.condT ((!x2)) (by kernel_rfl) b2 ?_
    refine AX.seq ?_
    refine AX.reg (its := []) [2, 3] [0] (s1 := ⟨[(2, .pt 0 0), (3, .v (.bool false))], [(0, .box [.v (.slice none 0 0)])]⟩) (C := True) (by kernel_rfl) trivial trivial ?_
    refine AX.ret ?_
    refine fin_wk (Wk.matB 0 0 1 2 (cs := [.v (.slice none 0 0)]) (by kernel_rfl) (by kernel_rfl) (Nat.le_of_ble_eq_true (by kernel_rfl)) (by kernel_rfl) (by decide) rfl) ?_
    refine fin_wk (Wk.forget [2, 3] [0, 1] (s' := ⟨[(2, .pt 0 0), (3, .v (.bool false))], [(0, .box [.sl 1 0 (([] : List (ByteArray × Int)).length)]), (1, .arr 2 (List.map enc_si ([] : List (ByteArray × Int))))]⟩) (by kernel_rfl)) ?_
    have hr := Option.some.inj h
    subst hr
    exact ⟨_, Wk.refl _, .inr rfl, ⟨[1], by kernel_rfl, ⟨rfl, trivial⟩, [.agg [.sl 1 0 (([] : List (ByteArray × Int)).length)], .v (.bool false)], by kernel_rfl, by kernel_rfl⟩⟩
  · replace h := cd_f b2 h
    refine AX.condF ((!x2)) (by kernel_rfl) b2 ?_
    refine AX.skip ?_
    refine AX.seq ?_
    refine AX.reg (its := [.auto {}, .auto { nk := 1 }]) [0, 2, 4] [0, 1] (s1 := ⟨[(0, .bs false 3 (List.map enc_sbi p1)), (2, .pt 0 0), (4, .pt 1 0)], [(0, .box [.v (.slice none 0 0)]), (1, .box [.v (.slice none 0 0)])]⟩) (C := True) (by kernel_rfl) trivial trivial ?_
    refine AX.seq ?_
    refine AX.seq ?_
    refine AX.reg (its := []) [0, 2, 4, 5] [0, 1] (s1 := ⟨[(0, .bs false 3 (List.map enc_sbi p1)), (2, .pt 0 0), (4, .pt 1 0), (5, .v (.int .i64 0))], [(0, .box [.v (.slice none 0 0)]), (1, .box [.v (.slice none 0 0)])]⟩) (C := True) (by kernel_rfl) trivial trivial ?_
    refine AX.block ?_
    obtain ⟨x6, e9, h⟩ := bd_e h
    refine AX.wk (Wk.matB 1 0 2 2 (cs := [.v (.slice none 0 0)]) (by kernel_rfl) (by kernel_rfl) (Nat.le_of_ble_eq_true (by kernel_rfl)) (by kernel_rfl) (by decide) rfl) ?_
    refine AX.wk (Wk.forget [0, 2, 4, 5] [0, 1, 2] (s' := ⟨[(0, .bs false 3 (List.map enc_sbi p1)), (2, .pt 0 0), (4, .pt 1 0), (5, .v (.int .i64 0))], [(0, .box [.v (.slice none 0 0)]), (1, .box [.sl 2 0 (([] : List (ByteArray × Int)).length)]), (2, .arr 2 (List.map enc_si ([] : List (ByteArray × Int))))]⟩) (by kernel_rfl)) ?_
    refine AX.mono (s_spec_BuildEnum_L1 p1 FU (([] : List (ByteArray × Int)), 0) x6 e9) ?_
    rintro _ _ ⟨rfl, rfl⟩
    skip
    refine AX.seq ?_
    refine AX.seq ?_
    obtain ⟨x7, e10, h⟩ := bd_e h
    refine AX.reg (its := [.auto {}, .call 58 [.agg [.sl 2 0 x6.length]] (handO (rho ([] ++ [])) [] [] ++ [(2, .arr 2 (List.map enc_si x6))]) (callEv [] [] (.v (.bool x7)) [])]) [2, 4, 46] [0, 1, 2] (s1 := ⟨[(2, .pt 0 0), (4, .pt 1 0), (46, .v (.bool (!x7)))], [(0, .box [.v (.slice none 0 0)]), (1, .box [.sl 2 0 x6.length]), (2, .arr 2 (List.map enc_si x6))]⟩) (C := ((([.agg [.sl 2 0 x6.length]] : List AV) = [.agg [.sl 2 0 x6.length]]) ∧ (AO.arr 2 (List.map enc_si x6) = AO.arr 2 (List.map enc_si x6)) ∧ True) ∧ True) (by kernel_rfl) ⟨⟨rfl, rfl, trivial⟩, trivial⟩ ⟨call_ok (ks := []) (ns := []) (bor := [2]) (bobjs := [(2, .arr 2 (List.map enc_si x6))]) (s_spec_validEnum x6 x7 e10) (.cons (.c1 (.agg (.cons (.arr rfl rfl ((rfl).trans (List.length_map ..).symm)) (.nil)))) (.nil)) (by kernel_rfl) trivial, trivial⟩ ?_
    rcases bool_cases ((!x7)) with b11 | b11
    · replace h := cd_t b11 h
      refine AX.condT ((!x7)) (by kernel_rfl) b11 ?_
      refine AX.seq ?_
      refine AX.reg (its := []) [2, 3] [0] (s1 := ⟨[(2, .pt 0 0), (3, .v (.bool false))], [(0, .box [.v (.slice none 0 0)])]⟩) (C := True) (by kernel_rfl) trivial trivial ?_
      refine AX.ret ?_
      refine fin_wk (Wk.matB 0 0 1 2 (cs := [.v (.slice none 0 0)]) (by kernel_rfl) (by kernel_rfl) (Nat.le_of_ble_eq_true (by kernel_rfl)) (by kernel_rfl) (by decide) rfl) ?_
      refine fin_wk (Wk.forget [2, 3] [0, 1] (s' := ⟨[(2, .pt 0 0), (3, .v (.bool false))], [(0, .box [.sl 1 0 (([] : List (ByteArray × Int)).length)]), (1, .arr 2 (List.map enc_si ([] : List (ByteArray × Int))))]⟩) (by kernel_rfl)) ?_
      have hr := Option.some.inj h
      subst hr
      exact ⟨_, Wk.refl _, .inr rfl, ⟨[1], by kernel_rfl, ⟨rfl, trivial⟩, [.agg [.sl 1 0 (([] : List (ByteArray × Int)).length)], .v (.bool false)], by kernel_rfl, by kernel_rfl⟩⟩
    · replace h := cd_f b11 h
      refine AX.condF ((!x7)) (by kernel_rfl) b11 ?_
      refine AX.skip ?_
      refine AX.seq ?_
      refine AX.reg (its := []) [2, 3] [0, 2] (s1 := ⟨[(2, .pt 0 0), (3, .v (.bool true))], [(0, .box [.sl 2 0 x6.length]), (2, .arr 2 (List.map enc_si x6))]⟩) (C := True) (by kernel_rfl) trivial trivial ?_
      refine AX.ret ?_
      refine fin_wk (Wk.swap 1 2 (Nat.le_of_ble_eq_true (by kernel_rfl)) (Nat.le_of_ble_eq_true (by kernel_rfl)) rfl) ?_
      refine fin_wk (Wk.forget [2, 3] [0, 1] (s' := ⟨[(2, .pt 0 0), (3, .v (.bool true))], [(0, .box [.sl 1 0 x6.length]), (1, .arr 2 (List.map enc_si x6))]⟩) (by kernel_rfl)) ?_
      have hr := Option.some.inj h
      subst hr
      exact ⟨_, Wk.refl _, .inr rfl, ⟨[1], by kernel_rfl, ⟨rfl, trivial⟩, [.agg [.sl 1 0 x6.length], .v (.bool true)], by kernel_rfl, by kernel_rfl⟩⟩

end Go.Eng
