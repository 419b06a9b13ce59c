/- What is proved: the law FnApplyChanges returns true, whatever it is handed, and leaves all as it was. No conditions. -/
import Derived.Test.YteednpcbfencoaaRows
import Derived.ProofKit
import Derived.Test.YteednpcbfencoaaCApplyChangesPlain1
import Derived.Test.YteednpcbfencoaaCApplyChangesWalk4
namespace Go.Proofs.Yteednpcbfencoaa
open Go.ChangeShapes Go.WideShapes Go.ChangeAt Go.RowKit
theorem Try.own : ownKnob Try.prog.godebug = none := by kernel_rfl
theorem Try.laidOut : laidOutB Try.prog = true := by kernel_rfl
set_option maxRecDepth 100000 in
theorem f_lifted (os : Os) (started : os.Started) (H : Type) (enc : TypeId × Value → H) :
    ReturnsInHanded {} Try.checked os 3 .any (Rows.fnApplyChangesSpec.pre6 enc Try.prog Try.f3 Rows.fnApplyChangesRow.domain false) (Rows.fnApplyChangesSpec.post enc Try.prog Try.f3 false true false false) := by
  refine returnsInHanded_of_change (C := Try.checked) Try.own started (by kernel_rfl) Try.func3
    (ChangeSpec.witness6 (enc := enc) (C := Try.checked) false ⟨#[], #[.slice none 0 0], []⟩ 8 (by kernel_rfl) (by kernel_rfl) (by kernel_rfl) (by kernel_rfl)) ?_
  intro W base args ds gs before hval0 hW hcnd _
  have hval : ∀ (j : Nat) t v, Try.f3.params[j]? = some t → args[j]? = some v → Value.okWide Try.prog W .any base t v := hval0
  have hW' := hW
  obtain ⟨p, q, hA0, hV, rfl, hfz, hnd⟩ := hW
  have hA : DataW.TrodAll enc Try.prog W 0 (fun _ => true) true Try.f3.params.toList args.toList ds p := hA0
  rw [Try.params3] at hA hval
  obtain ⟨v0, d0, rfl, rfl, h0⟩ := trodAll_one hA
  obtain ⟨rfl, rfl⟩ := trodVars_none hV
  clear hA0 hval0
  simp only [List.append_nil] at hW'
  have hlt : ∀ x ∈ p, x.block < W.heap.size := fun x hx => by simpa using hW'.lt x hx
  haveI : Eng.GOK W := ⟨⟨fun p hp => (by cases hp), trivial⟩⟩
  have g0 := h0
  obtain ⟨fu0, hf0⟩ := g0
  obtain ⟨a0, l0, c0, rfl⟩ := okWide_slice Try.underlying22 (hval 0 22 v0 rfl rfl)
  obtain ⟨p1, w0, e0, ok0, len0, hvr0⟩ := Eng.slice_VR Eng.enc_y (fun x : Int => 0 ≤ x ∧ x < 256) 1 Try.underlying22 (by kernel_rfl) (by decide) (fun x => ⟨rfl, fun v hv => by simp only [Eng.enc_y, List.mem_cons, List.not_mem_nil, or_false] at hv; rcases hv with rfl; rfl⟩) (fun fuel cs y h => Eng.el_byte Try.underlying5 h) hf0 hlt
  have e0 : .slice a0 l0 c0 = w0 := by simpa [Value.cells] using e0
  subst e0
  have hs := Eng.s_laws_FnApplyChanges p1 true (Eng.law_FnApplyChanges p1 ok0 len0)
  refine (Eng.spec_top hs W [.slice a0 l0 c0] ⟨_, _, rfl, hvr0 _ _, rfl⟩).mono fun e W' ⟨he, hw⟩ => ?_
  subst he
  exact ⟨_, rfl, Eng.post_below (pa := p) (pv := []) hW' (fun _ _ _ => trodAll_mk1 (shut_bool Try.underlying4 true)) (fun sp hsp => trodAll_mk1 (WideElems.Trod_stays Try.laidOut (by kernel_rfl) (of_decide_eq_true (by kernel_rfl)) h0 (fun x hx => hw.same (hlt x (by simp [hx]))) (fun x hx => hsp x (by simp [hx])))) (fun _ _ => rfl) (by simp) hw (ok_one (by kernel_rfl) rfl (okWide_bool_mk Try.underlying4 true))⟩

theorem f_holds : Rows.FnApplyChangesSaid :=
  OpenClaim.holds_of_wide 3 Try.f3 rfl rfl rfl rfl rfl rfl rfl ⟨rfl, rfl, rfl, rfl, rfl⟩ rfl rfl rfl rfl rfl (by kernel_rfl) Try.func3 (by kernel_rfl)
    (of_decide_eq_true (by kernel_rfl)) (by unfold Func.isWrapper; first | (rw [if_pos (by decide +kernel)]; kernel_rfl) | (rw [if_neg (by decide +kernel)]; exact ⟨rfl, rfl⟩))
    (fun os started H enc _ => f_lifted os started H enc)
end Go.Proofs.Yteednpcbfencoaa
