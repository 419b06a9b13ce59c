/- What is proved: the card of the law FnArmText: the law returns true, whatever it is handed, and leaves all as it was; the listed package variables are tied to the program's text. No conditions. -/
import Derived.Test.YtomemaanjendhaaGreatDoorRows
import Derived.Test.YtomemaanjendhaaGreatDoorCards
import Derived.Test.YtomemaanjendhaaGreatDoorTie
import Derived.ProofKit
import Derived.LaidMore
import Derived.Stop.Joined
import Derived.Stop.LaidErr
import Derived.MakeChecks
import Derived.SevenTiedAt
import Derived.Lib.LaidU8
import Derived.Test.YtomemaanjendhaaGreatDoorCArmTextPlain1
import Derived.Test.YtomemaanjendhaaGreatDoorCArmTextWalk3
namespace Go.Proofs.YtomemaanjendhaaGreatDoor
open Go.ChangeShapes Go.WideShapes Go.ChangeAt Go.RowKit
theorem Tryz.own : ownKnob Tryz.prog.godebug = none := by kernel_rfl
theorem Tryz.laidOut : laidOutB Tryz.prog = true := by kernel_rfl
def laidL : List (String × DataW Unit) := [("unicode/utf8.acceptRanges", Rows.laid_unicode_utf8_acceptRanges), ("unicode/utf8.first", Rows.laid_unicode_utf8_first)]

/-- the heap that the door's own run leaves, the pinned table in its place -/
noncomputable def doorW (os : Os) : World :=
  let w := World.doorLaid Tryz.prog 72 os
  { w with heap := w.heap.modify 3 fun
    | .cells _ t fz => .cells (Lib.firstTab.map (Value.int .u8)).toArray t fz
    | o => o }

/-- the heap that the door's own run leaves meets the condition -/
theorem door_met (os : Os) (args : Array Value) : laidMetH Tryz.prog laidL ((doorW os).forCall (fun _ _ => 0) ⟨#[], args, []⟩).memory :=
  laidMetH_of_parts3 (fuel := 8) (laidMet_of_run' 8 (by kernel_rfl) (by kernel_rfl)) (by kernel_rfl) (by kernel_rfl)

set_option maxRecDepth 100000 in
theorem f_lifted (os : Os) (started : os.Started) (H : Type) (enc : TypeId × Value → H) :
    ReturnsInHanded {} Tryz.checked os 6 .any (fun w args => (Rows.fnArmTextSpec.pre enc Tryz.prog Tryz.f6 [] false w args ∧ laidMetH Tryz.prog laidL w) ∧ sizedMet enc Tryz.prog Tryz.f6 (OpenSpec.ofChange Rows.fnArmTextSpec) false w args)
      (Rows.fnArmTextSpec.post enc Tryz.prog Tryz.f6 false true false false) := by
  refine Eng.rih_shaped (C := Tryz.checked) (X := fun w _ => laidMetH Tryz.prog laidL w) (fun _ _ _ hh h => h.of_heap hh) Tryz.own started (by kernel_rfl) Tryz.func6
    (ChangeSpec.witness_shaped (enc := enc) (C := Tryz.checked) (os := os) (X := fun w _ => laidMetH Tryz.prog laidL w) false (doorW os) #[.slice none 0 0] 8 rfl (World.shaped_of_RefB (by kernel_rfl) (by kernel_rfl)) (by kernel_rfl) (by kernel_rfl) (by kernel_rfl) (door_met os _)) ?_
  intro W base args ds gs before hsh hval0 hW hL
  have hval : ∀ (j : Nat) t v, Tryz.f6.params[j]? = some t → args[j]? = some v → Value.okWide Tryz.prog W .any base t v := hval0
  have hW' := hW
  obtain ⟨p, q, hA0, hV, rfl, hfz, hnd⟩ := hW
  have hA : DataW.TrodAll enc Tryz.prog W 0 (fun _ => true) true Tryz.f6.params.toList args.toList ds p := hA0
  rw [Tryz.params6] at hA hval
  obtain ⟨v0, d0, rfl, rfl, h0⟩ := trodAll_one hA
  obtain ⟨rfl, rfl⟩ := trodVars_none hV
  clear hA0 hval0
  simp only [List.append_nil] at hW'
  have hlt : ∀ x ∈ p, x.block < W.heap.size := fun x hx => by simpa using hW'.lt x hx
  have hM : laidMet Tryz.prog laidL W := (MakeChecks.laidMetH_plain Tryz.prog laidL W (by kernel_rfl)) ▸ hL
  have hm0 : laidMet Tryz.prog [("unicode/utf8.acceptRanges", Rows.laid_unicode_utf8_acceptRanges), ("unicode/utf8.first", Rows.laid_unicode_utf8_first)] W := hM
  have hm1 : laidMet Tryz.prog [("unicode/utf8.first", Rows.laid_unicode_utf8_first)] W := hm0.tail
  have fMl : Eng.GXml W := Tryz.laysM146.s1_3 W hsh
  haveI : Eng.GOK W := ⟨⟨(fun p hp => by cases hp), ⟨trivial, trivial, fMl, trivial, trivial⟩⟩⟩
  have g0 := h0
  obtain ⟨fu0, hf0⟩ := g0
  obtain ⟨a0, l0, c0, rfl⟩ := okWide_slice Tryz.underlying22 (hval 0 22 v0 rfl rfl)
  obtain ⟨p1, w0, e0, ok0, len0, hvr0⟩ := Eng.slice_VR Eng.enc_y (fun x : Int => 0 ≤ x ∧ x < 256) 1 Tryz.underlying22 (by kernel_rfl) (by decide) (fun x => ⟨rfl, fun v hv => by simp only [Eng.enc_y, List.mem_cons, List.not_mem_nil, or_false] at hv; rcases hv with rfl; rfl⟩) (fun fuel cs y h => Eng.el_byte Tryz.underlying5 h) hf0 hlt
  have e0 : .slice a0 l0 c0 = w0 := by simpa [Value.cells] using e0
  subst e0
  have hs := Eng.s_laws_FnArmText p1 true (Eng.law_FnArmText p1 ok0 len0)
  refine (Eng.spec_top hs W [.slice a0 l0 c0] ⟨_, _, rfl, hvr0 _ _, rfl⟩).mono fun e W' ⟨he, hw⟩ => ?_
  subst he
  exact ⟨_, rfl, Eng.post_below (pa := p) (pv := []) hW' (fun _ _ _ => trodAll_mk1 (shut_bool Tryz.underlying4 true)) (fun sp hsp => trodAll_mk1 (WideElems.Trod_stays Tryz.laidOut (by kernel_rfl) (of_decide_eq_true (by kernel_rfl)) h0 (fun x hx => hw.same (hlt x (by simp [hx]))) (fun x hx => hsp x (by simp [hx])))) (fun _ _ => rfl) (by simp) hw (ok_one (by kernel_rfl) rfl (okWide_bool_mk Tryz.underlying4 true))⟩

theorem row_holds : Rows.FnArmTextSaid :=
  OpenClaim.holds_of_wide 6 Tryz.f6 rfl rfl rfl rfl rfl rfl rfl ⟨rfl, rfl, rfl, rfl, rfl⟩ rfl rfl rfl rfl rfl (by kernel_rfl) Tryz.func6 (by kernel_rfl)
    (of_decide_eq_true (by kernel_rfl)) (by unfold Func.isWrapper; first | (rw [if_pos (by decide +kernel)]; kernel_rfl) | (rw [if_neg (by decide +kernel)]; exact ⟨rfl, rfl⟩))
    (fun os started H enc _ => f_lifted os started H enc)

theorem f_holds : Rows.FnArmTextCardSaid :=
  Claim7.holds_tied_plain_at .later [] [.data, .pinned] true (true, "aacffe7f566eaca2fc54331ad127ac7cb3b5329b8860e1568030c9053ffdbc44") true
    row_holds (fun _ h => by cases h) (by kernel_rfl) (fun _ h => by cases h) fnArmText_row_tie rfl ⟨rfl, rfl⟩ (by kernel_rfl) rfl
    (fun f fn hf hfn => by
      obtain rfl : f = 6 := Option.some.inj ((show Tryz.prog.funcNamed "loop.example/namedflags/laws.FnArmText" = some 6 by kernel_rfl).symm.trans hf) |>.symm
      obtain rfl : fn = Tryz.f6 := (Option.some.inj (Tryz.func6.symm.trans hfn)).symm
      exact ⟨by kernel_rfl, fun j t ht => by
        rw [Tryz.params6] at ht
        have hm := Array.mem_of_getElem? ht
        simp only [List.mem_toArray, List.mem_cons, List.not_mem_nil, or_false] at hm
        rcases hm with rfl <;> exact (show Tryz.prog.wantsStandIn _ = false by kernel_rfl)⟩)
    (by kernel_rfl)
end Go.Proofs.YtomemaanjendhaaGreatDoor
