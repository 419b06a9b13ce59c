/- What is proved: the card of the law FnExactRunDesk: the law returns true, whatever it is handed, and leaves all as it was; the listed package variables are tied to the program's text. No conditions. -/
import Derived.Test.YtdnlgpmmkchopaaGreatDoorRows
import Derived.Test.YtdnlgpmmkchopaaGreatDoorCards
import Derived.Test.YtdnlgpmmkchopaaGreatDoorTie
import Derived.ProofKit
import Derived.LaidMore
import Derived.Stop.Joined
import Derived.Stop.LaidErr
import Derived.MakeChecks
import Derived.SevenTiedAt
import Derived.Lib.LaidU8
import Derived.Test.YtdnlgpmmkchopaaGreatDoorCExactRunDeskPlain2
import Derived.Test.YtdnlgpmmkchopaaGreatDoorCExactRunDeskWalk7
namespace Go.Proofs.YtdnlgpmmkchopaaGreatDoor
open Go.ChangeShapes Go.WideShapes Go.ChangeAt Go.RowKit
theorem Tryz.own : ownKnob Tryz.prog.godebug = none := by kernel_rfl
theorem Tryz.laidOut : laidOutB Tryz.prog = true := by kernel_rfl
def laidL : List (String × DataW Unit) := [("math/bits.deBruijn32tab", Rows.laid_math_bits_deBruijn32tab), ("math/bits.deBruijn64tab", Rows.laid_math_bits_deBruijn64tab), ("internal/strconv.uint64pow10", Rows.laid_internal_strconv_uint64pow10), ("unicode/utf8.acceptRanges", Rows.laid_unicode_utf8_acceptRanges), ("strconv.ErrRange", Rows.laid_strconv_ErrRange), ("strconv.ErrSyntax", Rows.laid_strconv_ErrSyntax), ("loop.example/namedflags/impl.bounds", Rows.laid_loop_example_namedflags_impl_bounds), ("unicode/utf8.first", Rows.laid_unicode_utf8_first)]

/-- the heap that the door's own run leaves, the pinned table in its place -/
noncomputable def doorW (os : Os) : World :=
  let w := World.doorLaid Tryz.prog 77 os
  { w with heap := w.heap.modify 5 fun
    | .cells _ t fz => .cells (Lib.firstTab.map (Value.int .u8)).toArray t fz
    | o => o }

/-- the heap that the door's own run leaves meets the condition -/
theorem door_met (os : Os) (args : Array Value) : laidMetH Tryz.prog laidL ((doorW os).forCall (fun _ _ => 0) ⟨#[], args, []⟩).memory :=
  laidMetH_of_parts3 (fuel := 8) (laidMet_of_run' 8 (by kernel_rfl) (by kernel_rfl)) (by kernel_rfl) (by kernel_rfl)

set_option maxRecDepth 100000 in
theorem f_lifted (os : Os) (started : os.Started) (H : Type) (enc : TypeId × Value → H) :
    ReturnsInHanded {} Tryz.checked os 4 .any (fun w args => (Rows.fnExactRunDeskSpec.pre enc Tryz.prog Tryz.f4 [] false w args ∧ laidMetH Tryz.prog laidL w) ∧ sizedMet enc Tryz.prog Tryz.f4 (OpenSpec.ofChange Rows.fnExactRunDeskSpec) false w args)
      (Rows.fnExactRunDeskSpec.post enc Tryz.prog Tryz.f4 false true false false) := by
  refine Eng.xO (C := Tryz.checked) (X := fun w _ => laidMetH Tryz.prog laidL w) (fun _ _ _ hh h => h.of_heap hh) Tryz.own started (by kernel_rfl) Tryz.func4
    (ChangeSpec.witness_shaped (enc := enc) (C := Tryz.checked) (os := os) (X := fun w _ => laidMetH Tryz.prog laidL w) false (doorW os) #[.string ByteArray.empty, .slice none 0 0] 8 rfl (World.shaped_of_RefB (by kernel_rfl) (by kernel_rfl)) (by kernel_rfl) (by kernel_rfl) (by kernel_rfl) (door_met os _)) ?_
  intro W base args ds gs before hsh hval0 hW hL
  have hval : ∀ (j : Nat) t v, Tryz.f4.params[j]? = some t → args[j]? = some v → Value.okWide Tryz.prog W .any base t v := hval0
  have hW' := hW
  obtain ⟨p, q, hA0, hV, rfl, hfz, hnd⟩ := hW
  have hA : DataW.TrodAll enc Tryz.prog W 0 (fun _ => true) true Tryz.f4.params.toList args.toList ds p := hA0
  rw [Tryz.params4] at hA hval
  obtain ⟨v0, v1, d0, d1, q0, q1, rfl, rfl, rfl, h0, h1⟩ := trodAll_two hA
  have hVk := hV
  obtain ⟨dv, rfl⟩ : ∃ d, gs = [d] := by obtain ⟨_, _, _, _, d, _, e, _⟩ := trodVars_one hV; exact ⟨d, e⟩
  clear hA0 hval0
  have hlt : ∀ x ∈ q0 ++ q1, x.block < W.heap.size := fun x hx => hW'.lt x (List.mem_append_left _ hx)
  have hM : laidMet Tryz.prog laidL W := (MakeChecks.laidMetH_plain Tryz.prog laidL W (by kernel_rfl)) ▸ hL
  have hm0 : laidMet Tryz.prog [("math/bits.deBruijn32tab", Rows.laid_math_bits_deBruijn32tab), ("math/bits.deBruijn64tab", Rows.laid_math_bits_deBruijn64tab), ("internal/strconv.uint64pow10", Rows.laid_internal_strconv_uint64pow10), ("unicode/utf8.acceptRanges", Rows.laid_unicode_utf8_acceptRanges), ("strconv.ErrRange", Rows.laid_strconv_ErrRange), ("strconv.ErrSyntax", Rows.laid_strconv_ErrSyntax), ("loop.example/namedflags/impl.bounds", Rows.laid_loop_example_namedflags_impl_bounds), ("unicode/utf8.first", Rows.laid_unicode_utf8_first)] W := hM
  have hm1 : laidMet Tryz.prog [("math/bits.deBruijn64tab", Rows.laid_math_bits_deBruijn64tab), ("internal/strconv.uint64pow10", Rows.laid_internal_strconv_uint64pow10), ("unicode/utf8.acceptRanges", Rows.laid_unicode_utf8_acceptRanges), ("strconv.ErrRange", Rows.laid_strconv_ErrRange), ("strconv.ErrSyntax", Rows.laid_strconv_ErrSyntax), ("loop.example/namedflags/impl.bounds", Rows.laid_loop_example_namedflags_impl_bounds), ("unicode/utf8.first", Rows.laid_unicode_utf8_first)] W := hm0.tail
  have hm1t : laidMet Tryz.prog (("math/bits.deBruijn64tab", Lib.tabData .u8 (Lib.deBruijn64tab.map fun n : Nat => (n : Int))) :: [("internal/strconv.uint64pow10", Rows.laid_internal_strconv_uint64pow10), ("unicode/utf8.acceptRanges", Rows.laid_unicode_utf8_acceptRanges), ("strconv.ErrRange", Rows.laid_strconv_ErrRange), ("strconv.ErrSyntax", Rows.laid_strconv_ErrSyntax), ("loop.example/namedflags/impl.bounds", Rows.laid_loop_example_namedflags_impl_bounds), ("unicode/utf8.first", Rows.laid_unicode_utf8_first)]) W := (show (Rows.laid_math_bits_deBruijn64tab : DataW Unit) = Lib.tabData .u8 (Lib.deBruijn64tab.map fun n : Nat => (n : Int)) by kernel_rfl) ▸ hm1
  have hTz := Lib.tabIs_of_head (g := 8) (t := 185) (e := 5) (n := 64) (by kernel_rfl) (by kernel_rfl) Tryz.underlying185 Tryz.underlying5 (by kernel_rfl) (by kernel_rfl) hm1t
  have fTz : Eng.yb W := fun j hj => (hTz.cell (g := 8) (by kernel_rfl) j (by rw [List.length_map]; exact hj)).trans (by rw [Eng.An])
  have hm2 : laidMet Tryz.prog [("internal/strconv.uint64pow10", Rows.laid_internal_strconv_uint64pow10), ("unicode/utf8.acceptRanges", Rows.laid_unicode_utf8_acceptRanges), ("strconv.ErrRange", Rows.laid_strconv_ErrRange), ("strconv.ErrSyntax", Rows.laid_strconv_ErrSyntax), ("loop.example/namedflags/impl.bounds", Rows.laid_loop_example_namedflags_impl_bounds), ("unicode/utf8.first", Rows.laid_unicode_utf8_first)] W := hm1.tail
  have hm2t : laidMet Tryz.prog (("internal/strconv.uint64pow10", Lib.tabData .u64 Lib.pow10Tab) :: [("unicode/utf8.acceptRanges", Rows.laid_unicode_utf8_acceptRanges), ("strconv.ErrRange", Rows.laid_strconv_ErrRange), ("strconv.ErrSyntax", Rows.laid_strconv_ErrSyntax), ("loop.example/namedflags/impl.bounds", Rows.laid_loop_example_namedflags_impl_bounds), ("unicode/utf8.first", Rows.laid_unicode_utf8_first)]) W := (show (Rows.laid_internal_strconv_uint64pow10 : DataW Unit) = Lib.tabData .u64 Lib.pow10Tab by kernel_rfl) ▸ hm2
  have fPow : Eng.tf W := Lib.tabIs_of_head (g := 2) (t := 156) (e := 126) (n := 20) (by kernel_rfl) (by kernel_rfl) Tryz.underlying156 Tryz.underlying126 (by kernel_rfl) (by kernel_rfl) hm2t
  have hm3 : laidMet Tryz.prog [("unicode/utf8.acceptRanges", Rows.laid_unicode_utf8_acceptRanges), ("strconv.ErrRange", Rows.laid_strconv_ErrRange), ("strconv.ErrSyntax", Rows.laid_strconv_ErrSyntax), ("loop.example/namedflags/impl.bounds", Rows.laid_loop_example_namedflags_impl_bounds), ("unicode/utf8.first", Rows.laid_unicode_utf8_first)] W := hm2.tail
  have hm4 : laidMet Tryz.prog [("strconv.ErrRange", Rows.laid_strconv_ErrRange), ("strconv.ErrSyntax", Rows.laid_strconv_ErrSyntax), ("loop.example/namedflags/impl.bounds", Rows.laid_loop_example_namedflags_impl_bounds), ("unicode/utf8.first", Rows.laid_unicode_utf8_first)] W := hm3.tail
  obtain ⟨_, _, vfEr, _⟩ := laid_sentinel (g := 4) (ti := 51) (tp := 181) (te := 183) (ts := 9) hm4 (by kernel_rfl) (by kernel_rfl) Tryz.underlying51 (fun u hu => typeName_ptr_named (nm := "errors.errorString") (by rw [show "*" ++ "errors.errorString" = "*errors.errorString" by decide]; kernel_rfl) (by kernel_rfl) (by decide) u (by rw [show "*" ++ "errors.errorString" = "*errors.errorString" by decide]; exact hu)) Tryz.underlying181 Tryz.underlying183 rfl rfl Tryz.underlying9 (by kernel_rfl) (by kernel_rfl)
  have fEr : Eng.GXe 4 W := ⟨_, by simpa using World.var?_cell (g := 4) (by kernel_rfl) vfEr 0, .inr ⟨_, _, rfl⟩⟩
  have hm5 : laidMet Tryz.prog [("strconv.ErrSyntax", Rows.laid_strconv_ErrSyntax), ("loop.example/namedflags/impl.bounds", Rows.laid_loop_example_namedflags_impl_bounds), ("unicode/utf8.first", Rows.laid_unicode_utf8_first)] W := hm4.tail
  obtain ⟨_, _, vfEs, _⟩ := laid_sentinel (g := 3) (ti := 51) (tp := 181) (te := 183) (ts := 9) hm5 (by kernel_rfl) (by kernel_rfl) Tryz.underlying51 (fun u hu => typeName_ptr_named (nm := "errors.errorString") (by rw [show "*" ++ "errors.errorString" = "*errors.errorString" by decide]; kernel_rfl) (by kernel_rfl) (by decide) u (by rw [show "*" ++ "errors.errorString" = "*errors.errorString" by decide]; exact hu)) Tryz.underlying181 Tryz.underlying183 rfl rfl Tryz.underlying9 (by kernel_rfl) (by kernel_rfl)
  have fEs : Eng.GXe 3 W := ⟨_, by simpa using World.var?_cell (g := 3) (by kernel_rfl) vfEs 0, .inr ⟨_, _, rfl⟩⟩
  have hm6 : laidMet Tryz.prog [("loop.example/namedflags/impl.bounds", Rows.laid_loop_example_namedflags_impl_bounds), ("unicode/utf8.first", Rows.laid_unicode_utf8_first)] W := hm5.tail
  have fBd := Eng.wL (g := 0) (t := 23) (e := 9) (by kernel_rfl) (by kernel_rfl) Tryz.underlying23 Tryz.underlying9 (by kernel_rfl) Eng.boundWords (by decide) (by kernel_rfl) hm6
  have hm7 : laidMet Tryz.prog [("unicode/utf8.first", Rows.laid_unicode_utf8_first)] W := hm6.tail
  have fMl : Eng.wB W := Tryz.laysM146.s1_3 W hsh
  haveI : Eng.GOK W := ⟨⟨(fun p hp => by simp only [Eng.gslices, List.mem_singleton] at hp; subst hp; exact fBd), ⟨fTz, fPow, fMl, fEs, fEr⟩⟩⟩
  have g0 := h0
  obtain ⟨fu0, hf0⟩ := g0
  obtain ⟨p1, rfl⟩ := okWide_string Tryz.underlying9 (hval 0 9 v0 rfl rfl)
  obtain ⟨z0, e0, hz0⟩ := Eng.yR Tryz.underlying9 hf0
  have e0 : p1 = z0 := by simpa [Value.cells] using e0
  subst e0
  have g1 := h1
  obtain ⟨fu1, hf1⟩ := g1
  obtain ⟨a1, l1, c1, rfl⟩ := okWide_slice Tryz.underlying23 (hval 1 23 v1 rfl rfl)
  obtain ⟨p2, w1, e1, ok1, len1, hvr1⟩ := Eng.zX Eng.ab (fun x : ByteArray => x.size ≤ 9223372036854775807) 1 Tryz.underlying23 (by kernel_rfl) (by decide) (fun x => ⟨rfl, fun v hv => by simp only [Eng.ab, List.mem_cons, List.not_mem_nil, or_false] at hv; rcases hv with rfl; rfl⟩) (fun fuel cs y h => Eng.yR Tryz.underlying9 h) hf1 (fun x hx => hlt x (by simp [hx]))
  have e1 : .slice a1 l1 c1 = w1 := by simpa [Value.cells] using e1
  subst e1
  have hs := Eng.nj p1 p2 true (Eng.pm p1 p2 hz0 ok1 len1)
  refine (Eng.vH hs W [.string p1, .slice a1 l1 c1] ⟨_, _, rfl, (by simp only [Eng.VR]), _, _, rfl, hvr1 _ _, rfl⟩).mono fun e W' ⟨he, hw⟩ => ?_
  subst he
  exact ⟨_, rfl, Eng.yr (pa := q0 ++ q1) (pv := q) hW' (fun _ _ _ => trodAll_mk1 (shut_bool Tryz.underlying4 true)) (fun sp hsp => trodAll_mk2 (WideElems.Trod_stays Tryz.laidOut (by kernel_rfl) (of_decide_eq_true (by kernel_rfl)) h0 (fun x hx => hw.same (hlt x (by simp [hx]))) (fun x hx => hsp x (by simp [hx]))) (WideElems.Trod_stays Tryz.laidOut (by kernel_rfl) (of_decide_eq_true (by kernel_rfl)) h1 (fun x hx => hw.same (hlt x (by simp [hx]))) (fun x hx => hsp x (by simp [hx])))) (fun sp hsp => Eng.zl Tryz.laidOut (by kernel_rfl) hVk hw (fun x hx => hsp x (List.mem_append_right _ hx))) (by simp) hw (ok_one (by kernel_rfl) rfl (okWide_bool_mk Tryz.underlying4 true))⟩

theorem row_holds : Rows.FnExactRunDeskSaid :=
  OpenClaim.holds_of_wide 4 Tryz.f4 rfl rfl rfl rfl rfl rfl rfl ⟨rfl, rfl, rfl, rfl, rfl⟩ rfl rfl rfl rfl rfl (by kernel_rfl) Tryz.func4 (by kernel_rfl)
    (of_decide_eq_true (by kernel_rfl)) (by unfold Func.isWrapper; first | (rw [if_pos (by decide +kernel)]; kernel_rfl) | (rw [if_neg (by decide +kernel)]; exact ⟨rfl, rfl⟩))
    (fun os started H enc _ => f_lifted os started H enc)

theorem f_holds : Rows.FnExactRunDeskCardSaid :=
  Claim7.holds_tied_plain_at .later [] [.data, .data, .data, .data, .sentinel, .sentinel, .widerDeep, .pinned] true (true, "6191ba36340a461d4017b2d882b7bbcfcd6b71351d37275fcbb80a58da825f5d") true
    row_holds (fun _ h => by cases h) (by kernel_rfl) (fun _ h => by cases h) fnExactRunDesk_row_tie rfl ⟨rfl, rfl⟩ (by kernel_rfl) rfl
    (fun f fn hf hfn => by
      obtain rfl : f = 4 := Option.some.inj ((show Tryz.prog.funcNamed "loop.example/namedflags/laws.FnExactRunDesk" = some 4 by kernel_rfl).symm.trans hf) |>.symm
      obtain rfl : fn = Tryz.f4 := (Option.some.inj (Tryz.func4.symm.trans hfn)).symm
      exact ⟨by kernel_rfl, fun j t ht => by
        rw [Tryz.params4] at ht
        have hm := Array.mem_of_getElem? ht
        simp only [List.mem_toArray, List.mem_cons, List.not_mem_nil, or_false] at hm
        rcases hm with rfl | rfl <;> exact (show Tryz.prog.wantsStandIn _ = false by kernel_rfl)⟩)
    (by kernel_rfl)
end Go.Proofs.YtdnlgpmmkchopaaGreatDoor
