/- What is proved: the card of the law FnExactParseArm: the law returns true, whatever it is handed, and leaves all as it was; the listed package variables are tied to the program's text. No conditions. -/
import Derived.Test.YtomemaanjendhaaDoorRows
import Derived.Test.YtomemaanjendhaaDoorCards
import Derived.Test.YtomemaanjendhaaDoorTie
import Derived.ProofKit
import Derived.LaidMore
import Derived.Stop.Joined
import Derived.Stop.LaidErr
import Derived.MakeChecks
import Derived.SevenTiedAt
import Derived.Lib.LaidU8
import Derived.Test.YtomemaanjendhaaDoorCExactParseArmPlain1
import Derived.Test.YtomemaanjendhaaDoorCExactParseArmWalk3
namespace Go.Proofs.YtomemaanjendhaaDoor
open Go.ChangeShapes Go.WideShapes Go.ChangeAt Go.RowKit
theorem Tryd.own : ownKnob Tryd.prog.godebug = none := by kernel_rfl
theorem Tryd.laidOut : laidOutB Tryd.prog = true := by kernel_rfl
def laidL : List (String × DataW Unit) := [("unicode/utf8.acceptRanges", Rows.laid_unicode_utf8_acceptRanges), ("unicode/utf8.first", Rows.laid_unicode_utf8_first)]

/-- the heap that the door's own run leaves, the pinned table in its place -/
noncomputable def doorW (os : Os) : World :=
  let w := World.doorLaid Tryd.prog 72 os
  { w with heap := w.heap.modify 4 fun
    | .cells _ t fz => .cells (Lib.firstTab.map (Value.int .u8)).toArray t fz
    | o => o }

/-- the heap that the door's own run leaves meets the condition -/
theorem door_met (os : Os) (args : Array Value) : laidMetH Tryd.prog laidL ((doorW os).forCall (fun _ _ => 0) ⟨#[], args, []⟩).memory :=
  laidMetH_of_parts3 (fuel := 8) (laidMet_of_run' 8 (by kernel_rfl) (by kernel_rfl)) (by kernel_rfl) (by kernel_rfl)

set_option maxRecDepth 100000 in
theorem f_lifted (os : Os) (started : os.Started) (H : Type) (enc : TypeId × Value → H) :
    ReturnsInHanded {} Tryd.checked os 5 .any (fun w args => (Rows.fnExactParseArmSpec.pre enc Tryd.prog Tryd.f5 [] false w args ∧ laidMetH Tryd.prog laidL w) ∧ sizedMet enc Tryd.prog Tryd.f5 (OpenSpec.ofChange Rows.fnExactParseArmSpec) false w args)
      (Rows.fnExactParseArmSpec.post enc Tryd.prog Tryd.f5 false true false false) := by
  refine Eng.rih_shaped (C := Tryd.checked) (X := fun w _ => laidMetH Tryd.prog laidL w) (fun _ _ _ hh h => h.of_heap hh) Tryd.own started (by kernel_rfl) Tryd.func5
    (ChangeSpec.witness_shaped (enc := enc) (C := Tryd.checked) (os := os) (X := fun w _ => laidMetH Tryd.prog laidL w) false (doorW os) #[.agg #[.slice none 0 0, .int .i64 0], .string ByteArray.empty] 8 rfl (World.shaped_of_RefB (by kernel_rfl) (by kernel_rfl)) (by kernel_rfl) (by kernel_rfl) (by kernel_rfl) (door_met os _)) ?_
  intro W base args ds gs before hsh hval0 hW hL
  have hval : ∀ (j : Nat) t v, Tryd.f5.params[j]? = some t → args[j]? = some v → Value.okWide Tryd.prog W .any base t v := hval0
  have hW' := hW
  obtain ⟨p, q, hA0, hV, rfl, hfz, hnd⟩ := hW
  have hA : DataW.TrodAll enc Tryd.prog W 0 (fun _ => true) true Tryd.f5.params.toList args.toList ds p := hA0
  rw [Tryd.params5] at hA hval
  obtain ⟨v0, v1, d0, d1, q0, q1, rfl, rfl, rfl, h0, h1⟩ := trodAll_two hA
  obtain ⟨rfl, rfl⟩ := trodVars_none hV
  clear hA0 hval0
  simp only [List.append_nil] at hW'
  have hlt : ∀ x ∈ q0 ++ q1, x.block < W.heap.size := fun x hx => by simpa using hW'.lt x hx
  have hM : laidMet Tryd.prog laidL W := (MakeChecks.laidMetH_plain Tryd.prog laidL W (by kernel_rfl)) ▸ hL
  have hm0 : laidMet Tryd.prog [("unicode/utf8.acceptRanges", Rows.laid_unicode_utf8_acceptRanges), ("unicode/utf8.first", Rows.laid_unicode_utf8_first)] W := hM
  have hm1 : laidMet Tryd.prog [("unicode/utf8.first", Rows.laid_unicode_utf8_first)] W := hm0.tail
  have fMl : Eng.GXml W := Tryd.laysM146.s1_3 W hsh
  haveI : Eng.GOK W := ⟨⟨(fun p hp => by cases hp), ⟨trivial, trivial, fMl, trivial, trivial⟩⟩⟩
  have g0 := h0
  obtain ⟨fu0, hf0⟩ := g0
  obtain ⟨C0, rfl, _⟩ := okWide_struct Tryd.underlying24 (hval 0 24 v0 rfl rfl)
  obtain ⟨p1, p2, ok0, len0, hz0, hvr0⟩ := Eng.struct2_VR Eng.enc_si (fun x : ByteArray × Int => x.1.size ≤ 9223372036854775807 ∧ Eng.In64 x.2) 2 Tryd.underlying24 (by kernel_rfl) (by kernel_rfl) (by kernel_rfl) (by kernel_rfl) (by kernel_rfl) (by kernel_rfl) (fun fuel cs d p h hp => Eng.slice_VR Eng.enc_si (fun x : ByteArray × Int => x.1.size ≤ 9223372036854775807 ∧ Eng.In64 x.2) 2 Tryd.underlying22 (by kernel_rfl) (by decide) (fun x => ⟨rfl, fun v hv => by simp only [Eng.enc_si, List.mem_cons, List.not_mem_nil, or_false] at hv; rcases hv with rfl | rfl <;> rfl⟩) (fun fuel cs y h => Eng.el_si Tryd.underlying101 (by kernel_rfl) (by kernel_rfl) (by kernel_rfl) (by kernel_rfl) (by kernel_rfl) (by kernel_rfl) (by kernel_rfl) h) h hp) hf0 (fun x hx => hlt x (by simp [hx]))
  have g1 := h1
  obtain ⟨fu1, hf1⟩ := g1
  obtain ⟨p3, rfl⟩ := okWide_string Tryd.underlying9 (hval 1 9 v1 rfl rfl)
  obtain ⟨z1, e1, hz1⟩ := Eng.el_str Tryd.underlying9 hf1
  have e1 : p3 = z1 := by simpa [Value.cells] using e1
  subst e1
  have hs := Eng.s_laws_FnExactParseArm p1 p2 p3 true (Eng.law_FnExactParseArm p1 p2 p3 ok0 len0 hz0 hz1)
  refine (Eng.spec_top hs W [.agg C0, .string p3] ⟨_, _, rfl, hvr0 _ _, _, _, rfl, (by simp only [Eng.VR]), rfl⟩).mono fun e W' ⟨he, hw⟩ => ?_
  subst he
  exact ⟨_, rfl, Eng.post_below (pa := q0 ++ q1) (pv := []) hW' (fun _ _ _ => trodAll_mk1 (shut_bool Tryd.underlying4 true)) (fun sp hsp => trodAll_mk2 (WideElems.Trod_stays Tryd.laidOut (by kernel_rfl) (of_decide_eq_true (by kernel_rfl)) h0 (fun x hx => hw.same (hlt x (by simp [hx]))) (fun x hx => hsp x (by simp [hx]))) (WideElems.Trod_stays Tryd.laidOut (by kernel_rfl) (of_decide_eq_true (by kernel_rfl)) h1 (fun x hx => hw.same (hlt x (by simp [hx]))) (fun x hx => hsp x (by simp [hx])))) (fun _ _ => rfl) (by simp) hw (ok_one (by kernel_rfl) rfl (okWide_bool_mk Tryd.underlying4 true))⟩

theorem row_holds : Rows.FnExactParseArmSaid :=
  OpenClaim.holds_of_wide 5 Tryd.f5 rfl rfl rfl rfl rfl rfl rfl ⟨rfl, rfl, rfl, rfl, rfl⟩ rfl rfl rfl rfl rfl (by kernel_rfl) Tryd.func5 (by kernel_rfl)
    (of_decide_eq_true (by kernel_rfl)) (by unfold Func.isWrapper; first | (rw [if_pos (by decide +kernel)]; kernel_rfl) | (rw [if_neg (by decide +kernel)]; exact ⟨rfl, rfl⟩))
    (fun os started H enc _ => f_lifted os started H enc)

theorem f_holds : Rows.FnExactParseArmCardSaid :=
  Claim7.holds_tied_plain_at .later [] [.data, .pinned] true (true, "bfccc421a6d9793287a71384c28b79a5fd5909a8e97e9c466ee4282b8c813846") true
    row_holds (fun _ h => by cases h) (by kernel_rfl) (fun _ h => by cases h) fnExactParseArm_row_tie rfl ⟨rfl, rfl⟩ (by kernel_rfl) rfl
    (fun f fn hf hfn => by
      obtain rfl : f = 5 := Option.some.inj ((show Tryd.prog.funcNamed "loop.example/namedflags/laws.FnExactParseArm" = some 5 by kernel_rfl).symm.trans hf) |>.symm
      obtain rfl : fn = Tryd.f5 := (Option.some.inj (Tryd.func5.symm.trans hfn)).symm
      exact ⟨by kernel_rfl, fun j t ht => by
        rw [Tryd.params5] at ht
        have hm := Array.mem_of_getElem? ht
        simp only [List.mem_toArray, List.mem_cons, List.not_mem_nil, or_false] at hm
        rcases hm with rfl | rfl <;> exact (show Tryd.prog.wantsStandIn _ = false by kernel_rfl)⟩)
    (by kernel_rfl)
end Go.Proofs.YtomemaanjendhaaDoor
