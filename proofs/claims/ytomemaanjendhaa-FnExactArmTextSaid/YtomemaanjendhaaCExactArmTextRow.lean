/- What is proved: the law FnExactArmText returns true, whatever it is handed, and leaves all as it was. No conditions. -/
import Derived.Test.YtomemaanjendhaaRows
import Derived.ProofKit
import Derived.Test.YtomemaanjendhaaCExactArmTextPlain1
import Derived.Test.YtomemaanjendhaaCExactArmTextWalk3
namespace Go.Proofs.Ytomemaanjendhaa
open Go.ChangeShapes Go.WideShapes Go.ChangeAt Go.RowKit
theorem Try.own : ownKnob Try.prog.godebug = none := by kernel_rfl
theorem Try.laidOut : laidOutB Try.prog = true := by kernel_rfl
set_option maxRecDepth 100000 in
theorem f_lifted (os : Os) (started : os.Started) (H : Type) (enc : TypeId × Value → H) :
    ReturnsInHanded {} Try.checked os 3 .any (Rows.fnExactArmTextSpec.pre6 enc Try.prog Try.f3 Rows.fnExactArmTextRow.domain false) (Rows.fnExactArmTextSpec.post enc Try.prog Try.f3 false true false false) := by
  refine returnsInHanded_of_change (C := Try.checked) Try.own started (by kernel_rfl) Try.func3
    (ChangeSpec.witness6 (enc := enc) (C := Try.checked) false ⟨#[], #[.agg #[.slice none 0 0, .int .i64 0], .agg #[.int .i64 0, .int .i64 0]], []⟩ 8 (by kernel_rfl) (by kernel_rfl) (by kernel_rfl) (by kernel_rfl)) ?_
  intro W base args ds gs before hval0 hW hcnd _
  have hval : ∀ (j : Nat) t v, Try.f3.params[j]? = some t → args[j]? = some v → Value.okWide Try.prog W .any base t v := hval0
  have hW' := hW
  obtain ⟨p, q, hA0, hV, rfl, hfz, hnd⟩ := hW
  have hA : DataW.TrodAll enc Try.prog W 0 (fun _ => true) true Try.f3.params.toList args.toList ds p := hA0
  rw [Try.params3] at hA hval
  obtain ⟨v0, v1, d0, d1, q0, q1, rfl, rfl, rfl, h0, h1⟩ := trodAll_two hA
  obtain ⟨rfl, rfl⟩ := trodVars_none hV
  clear hA0 hval0
  simp only [List.append_nil] at hW'
  have hlt : ∀ x ∈ q0 ++ q1, x.block < W.heap.size := fun x hx => by simpa using hW'.lt x hx
  haveI : Eng.GOK W := ⟨⟨fun p hp => (by cases hp), trivial⟩⟩
  have g0 := h0
  obtain ⟨fu0, hf0⟩ := g0
  obtain ⟨C0, rfl, _⟩ := okWide_struct Try.underlying24 (hval 0 24 v0 rfl rfl)
  obtain ⟨p1, p2, ok0, len0, hz0, hvr0⟩ := Eng.struct2_VR Eng.enc_si (fun x : ByteArray × Int => x.1.size ≤ 9223372036854775807 ∧ Eng.In64 x.2) 2 Try.underlying24 (by kernel_rfl) (by kernel_rfl) (by kernel_rfl) (by kernel_rfl) (by kernel_rfl) (by kernel_rfl) (fun fuel cs d p h hp => Eng.slice_VR Eng.enc_si (fun x : ByteArray × Int => x.1.size ≤ 9223372036854775807 ∧ Eng.In64 x.2) 2 Try.underlying22 (by kernel_rfl) (by decide) (fun x => ⟨rfl, fun v hv => by simp only [Eng.enc_si, List.mem_cons, List.not_mem_nil, or_false] at hv; rcases hv with rfl | rfl <;> rfl⟩) (fun fuel cs y h => Eng.el_si Try.underlying47 (by kernel_rfl) (by kernel_rfl) (by kernel_rfl) (by kernel_rfl) (by kernel_rfl) (by kernel_rfl) (by kernel_rfl) h) h hp) hf0 (fun x hx => hlt x (by simp [hx]))
  have g1 := h1
  obtain ⟨fu1, hf1⟩ := g1
  obtain ⟨C1, rfl, _⟩ := okWide_struct Try.underlying26 (hval 1 26 v1 rfl rfl)
  obtain ⟨x1, e1, hz1⟩ := Eng.el_ii Try.underlying26 (by kernel_rfl) (by kernel_rfl) (by kernel_rfl) (by kernel_rfl) (by kernel_rfl) (by kernel_rfl) (by kernel_rfl) hf1
  obtain ⟨p3, p4⟩ := x1
  have e1 : C1 = #[.int .i64 p3, .int .i64 p4] := by obtain ⟨L⟩ := C1; simpa [Value.cells] using e1
  subst e1
  have hs := Eng.s_laws_FnExactArmText p1 p2 p3 p4 true (Eng.law_FnExactArmText p1 p2 p3 p4 ok0 len0 hz0 hz1.1 hz1.2)
  refine (Eng.spec_top hs W [.agg C0, .agg #[.int .i64 p3, .int .i64 p4]] ⟨_, _, rfl, hvr0 _ _, _, _, rfl, (by simp only [Eng.VR]; exact ⟨[.int .i64 p3, .int .i64 p4], rfl, _, _, rfl, by simp only [Eng.VR], _, _, rfl, by simp only [Eng.VR], rfl⟩), rfl⟩).mono fun e W' ⟨he, hw⟩ => ?_
  subst he
  exact ⟨_, rfl, Eng.post_below (pa := q0 ++ q1) (pv := []) hW' (fun _ _ _ => trodAll_mk1 (shut_bool Try.underlying4 true)) (fun sp hsp => trodAll_mk2 (WideElems.Trod_stays Try.laidOut (by kernel_rfl) (of_decide_eq_true (by kernel_rfl)) h0 (fun x hx => hw.same (hlt x (by simp [hx]))) (fun x hx => hsp x (by simp [hx]))) (WideElems.Trod_stays Try.laidOut (by kernel_rfl) (of_decide_eq_true (by kernel_rfl)) h1 (fun x hx => hw.same (hlt x (by simp [hx]))) (fun x hx => hsp x (by simp [hx])))) (fun _ _ => rfl) (by simp) hw (ok_one (by kernel_rfl) rfl (okWide_bool_mk Try.underlying4 true))⟩

theorem f_holds : Rows.FnExactArmTextSaid :=
  OpenClaim.holds_of_wide 3 Try.f3 rfl rfl rfl rfl rfl rfl rfl ⟨rfl, rfl, rfl, rfl, rfl⟩ rfl rfl rfl rfl rfl (by kernel_rfl) Try.func3 (by kernel_rfl)
    (of_decide_eq_true (by kernel_rfl)) (by unfold Func.isWrapper; first | (rw [if_pos (by decide +kernel)]; kernel_rfl) | (rw [if_neg (by decide +kernel)]; exact ⟨rfl, rfl⟩))
    (fun os started H enc _ => f_lifted os started H enc)
end Go.Proofs.Ytomemaanjendhaa
