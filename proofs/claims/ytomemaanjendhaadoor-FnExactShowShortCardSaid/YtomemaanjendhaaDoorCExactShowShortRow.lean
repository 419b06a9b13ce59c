/- What is proved: the card of the law FnExactShowShort: the law returns true, whatever it is handed, and leaves all as it was; the listed package variables are tied to the program's text. No conditions. -/
import Derived.Test.YtomemaanjendhaaDoorRows
import Derived.Test.YtomemaanjendhaaDoorCards
import Derived.Test.YtomemaanjendhaaDoorTie
import Derived.ProofKit
import Derived.LaidMore
import Derived.Stop.Joined
import Derived.Stop.LaidErr
import Derived.MakeChecks
import Derived.SevenTiedAt

import Derived.Test.YtomemaanjendhaaDoorCExactShowShortPlain1
import Derived.Test.YtomemaanjendhaaDoorCExactShowShortWalk3
namespace Go.Proofs.YtomemaanjendhaaDoor
open Go.ChangeShapes Go.WideShapes Go.ChangeAt Go.RowKit
theorem Tryd.own : ownKnob Tryd.prog.godebug = none := by kernel_rfl
theorem Tryd.laidOut : laidOutB Tryd.prog = true := by kernel_rfl
def laidL : List (String × DataW Unit) := [("math/bits.deBruijn32tab", Rows.laid_math_bits_deBruijn32tab), ("math/bits.deBruijn64tab", Rows.laid_math_bits_deBruijn64tab), ("internal/strconv.uint64pow10", Rows.laid_internal_strconv_uint64pow10)]

/-- the heap that the door's own run leaves meets the condition -/
theorem door_met (os : Os) (args : Array Value) : laidMetH Tryd.prog laidL ((World.doorLaid Tryd.prog 72 os).forCall (fun _ _ => 0) ⟨#[], args, []⟩).memory :=
  laidMetH_of_parts3 (fuel := 8) (laidMet_of_run' 8 (by kernel_rfl) (by kernel_rfl)) (by kernel_rfl) (by kernel_rfl)

set_option maxRecDepth 100000 in
theorem f_lifted (os : Os) (started : os.Started) (H : Type) (enc : TypeId × Value → H) :
    ReturnsInHanded {} Tryd.checked os 9 .any (fun w args => (Rows.fnExactShowShortSpec.pre enc Tryd.prog Tryd.f9 [] false w args ∧ laidMetH Tryd.prog laidL w) ∧ sizedMet enc Tryd.prog Tryd.f9 (OpenSpec.ofChange Rows.fnExactShowShortSpec) false w args)
      (Rows.fnExactShowShortSpec.post enc Tryd.prog Tryd.f9 false true false false) := by
  refine Eng.rih_shaped (C := Tryd.checked) (X := fun w _ => laidMetH Tryd.prog laidL w) (fun _ _ _ hh h => h.of_heap hh) Tryd.own started (by kernel_rfl) Tryd.func9
    (ChangeSpec.witness_shaped (enc := enc) (C := Tryd.checked) (os := os) (X := fun w _ => laidMetH Tryd.prog laidL w) false (World.doorLaid Tryd.prog 72 os) #[.agg #[.slice none 0 0, .int .i64 0], .int .i64 0] 8 rfl (World.shaped_of_RefB (by kernel_rfl) (by kernel_rfl)) (by kernel_rfl) (by kernel_rfl) (by kernel_rfl) (door_met os _)) ?_
  intro W base args ds gs before hsh hval0 hW hL
  have hval : ∀ (j : Nat) t v, Tryd.f9.params[j]? = some t → args[j]? = some v → Value.okWide Tryd.prog W .any base t v := hval0
  have hW' := hW
  obtain ⟨p, q, hA0, hV, rfl, hfz, hnd⟩ := hW
  have hA : DataW.TrodAll enc Tryd.prog W 0 (fun _ => true) true Tryd.f9.params.toList args.toList ds p := hA0
  rw [Tryd.params9] at hA hval
  obtain ⟨v0, v1, d0, d1, q0, q1, rfl, rfl, rfl, h0, h1⟩ := trodAll_two hA
  obtain ⟨rfl, rfl⟩ := trodVars_none hV
  clear hA0 hval0
  simp only [List.append_nil] at hW'
  have hlt : ∀ x ∈ q0 ++ q1, x.block < W.heap.size := fun x hx => by simpa using hW'.lt x hx
  have hM : laidMet Tryd.prog laidL W := (MakeChecks.laidMetH_plain Tryd.prog laidL W (by kernel_rfl)) ▸ hL
  have hm0 : laidMet Tryd.prog [("math/bits.deBruijn32tab", Rows.laid_math_bits_deBruijn32tab), ("math/bits.deBruijn64tab", Rows.laid_math_bits_deBruijn64tab), ("internal/strconv.uint64pow10", Rows.laid_internal_strconv_uint64pow10)] W := hM
  have hm1 : laidMet Tryd.prog [("math/bits.deBruijn64tab", Rows.laid_math_bits_deBruijn64tab), ("internal/strconv.uint64pow10", Rows.laid_internal_strconv_uint64pow10)] W := hm0.tail
  have hm1t : laidMet Tryd.prog (("math/bits.deBruijn64tab", Lib.tabData .u8 (Lib.deBruijn64tab.map fun n : Nat => (n : Int))) :: [("internal/strconv.uint64pow10", Rows.laid_internal_strconv_uint64pow10)]) W := (show (Rows.laid_math_bits_deBruijn64tab : DataW Unit) = Lib.tabData .u8 (Lib.deBruijn64tab.map fun n : Nat => (n : Int)) by kernel_rfl) ▸ hm1
  have hTz := Lib.tabIs_of_head (g := 7) (t := 213) (e := 5) (n := 64) (by kernel_rfl) (by kernel_rfl) Tryd.underlying213 Tryd.underlying5 (by kernel_rfl) (by kernel_rfl) hm1t
  have fTz : Eng.GXtz W := fun j hj => (hTz.cell (g := 7) (by kernel_rfl) j (by rw [List.length_map]; exact hj)).trans (by rw [Eng.tab_get])
  have hm2 : laidMet Tryd.prog [("internal/strconv.uint64pow10", Rows.laid_internal_strconv_uint64pow10)] W := hm1.tail
  have hm2t : laidMet Tryd.prog (("internal/strconv.uint64pow10", Lib.tabData .u64 Lib.pow10Tab) :: []) W := (show (Rows.laid_internal_strconv_uint64pow10 : DataW Unit) = Lib.tabData .u64 Lib.pow10Tab by kernel_rfl) ▸ hm2
  have fPow : Eng.GXpow W := Lib.tabIs_of_head (g := 3) (t := 191) (e := 165) (n := 20) (by kernel_rfl) (by kernel_rfl) Tryd.underlying191 Tryd.underlying165 (by kernel_rfl) (by kernel_rfl) hm2t
  haveI : Eng.GOK W := ⟨⟨(fun p hp => by cases hp), ⟨fTz, fPow, trivial, trivial, trivial⟩⟩⟩
  have g0 := h0
  obtain ⟨fu0, hf0⟩ := g0
  obtain ⟨C0, rfl, _⟩ := okWide_struct Tryd.underlying24 (hval 0 24 v0 rfl rfl)
  obtain ⟨p1, p2, ok0, len0, hz0, hvr0⟩ := Eng.struct2_VR Eng.enc_si (fun x : ByteArray × Int => x.1.size ≤ 9223372036854775807 ∧ Eng.In64 x.2) 2 Tryd.underlying24 (by kernel_rfl) (by kernel_rfl) (by kernel_rfl) (by kernel_rfl) (by kernel_rfl) (by kernel_rfl) (fun fuel cs d p h hp => Eng.slice_VR Eng.enc_si (fun x : ByteArray × Int => x.1.size ≤ 9223372036854775807 ∧ Eng.In64 x.2) 2 Tryd.underlying22 (by kernel_rfl) (by decide) (fun x => ⟨rfl, fun v hv => by simp only [Eng.enc_si, List.mem_cons, List.not_mem_nil, or_false] at hv; rcases hv with rfl | rfl <;> rfl⟩) (fun fuel cs y h => Eng.el_si Tryd.underlying101 (by kernel_rfl) (by kernel_rfl) (by kernel_rfl) (by kernel_rfl) (by kernel_rfl) (by kernel_rfl) (by kernel_rfl) h) h hp) hf0 (fun x hx => hlt x (by simp [hx]))
  have g1 := h1
  obtain ⟨fu1, hf1⟩ := g1
  obtain ⟨p3, rfl⟩ := okWide_int Tryd.underlying3 (hval 1 3 v1 rfl rfl)
  obtain ⟨z1, e1, hz1⟩ := Eng.el_int Tryd.underlying3 hf1
  have e1 : p3 = z1 := by simpa [Value.cells] using e1
  subst e1
  have hs := Eng.s_laws_FnExactShowShort p1 p2 p3 true (Eng.law_FnExactShowShort p1 p2 p3 ok0 len0 hz0 hz1)
  refine (Eng.spec_top hs W [.agg C0, .int .i64 p3] ⟨_, _, rfl, hvr0 _ _, _, _, rfl, (by simp only [Eng.VR]), rfl⟩).mono fun e W' ⟨he, hw⟩ => ?_
  subst he
  exact ⟨_, rfl, Eng.post_below (pa := q0 ++ q1) (pv := []) hW' (fun _ _ _ => trodAll_mk1 (shut_bool Tryd.underlying4 true)) (fun sp hsp => trodAll_mk2 (WideElems.Trod_stays Tryd.laidOut (by kernel_rfl) (of_decide_eq_true (by kernel_rfl)) h0 (fun x hx => hw.same (hlt x (by simp [hx]))) (fun x hx => hsp x (by simp [hx]))) (WideElems.Trod_stays Tryd.laidOut (by kernel_rfl) (of_decide_eq_true (by kernel_rfl)) h1 (fun x hx => hw.same (hlt x (by simp [hx]))) (fun x hx => hsp x (by simp [hx])))) (fun _ _ => rfl) (by simp) hw (ok_one (by kernel_rfl) rfl (okWide_bool_mk Tryd.underlying4 true))⟩

theorem row_holds : Rows.FnExactShowShortSaid :=
  OpenClaim.holds_of_wide 9 Tryd.f9 rfl rfl rfl rfl rfl rfl rfl ⟨rfl, rfl, rfl, rfl, rfl⟩ rfl rfl rfl rfl rfl (by kernel_rfl) Tryd.func9 (by kernel_rfl)
    (of_decide_eq_true (by kernel_rfl)) (by unfold Func.isWrapper; first | (rw [if_pos (by decide +kernel)]; kernel_rfl) | (rw [if_neg (by decide +kernel)]; exact ⟨rfl, rfl⟩))
    (fun os started H enc _ => f_lifted os started H enc)

theorem f_holds : Rows.FnExactShowShortCardSaid :=
  Claim7.holds_tied_plain_at .later [] [.data, .data, .data] true (true, "bfccc421a6d9793287a71384c28b79a5fd5909a8e97e9c466ee4282b8c813846") true
    row_holds (fun _ h => by cases h) (by kernel_rfl) (fun _ h => by cases h) fnExactShowShort_row_tie rfl ⟨rfl, rfl⟩ (by kernel_rfl) rfl
    (fun f fn hf hfn => by
      obtain rfl : f = 9 := Option.some.inj ((show Tryd.prog.funcNamed "loop.example/namedflags/laws.FnExactShowShort" = some 9 by kernel_rfl).symm.trans hf) |>.symm
      obtain rfl : fn = Tryd.f9 := (Option.some.inj (Tryd.func9.symm.trans hfn)).symm
      exact ⟨by kernel_rfl, fun j t ht => by
        rw [Tryd.params9] at ht
        have hm := Array.mem_of_getElem? ht
        simp only [List.mem_toArray, List.mem_cons, List.not_mem_nil, or_false] at hm
        rcases hm with rfl | rfl <;> exact (show Tryd.prog.wantsStandIn _ = false by kernel_rfl)⟩)
    (by kernel_rfl)
end Go.Proofs.YtomemaanjendhaaDoor
