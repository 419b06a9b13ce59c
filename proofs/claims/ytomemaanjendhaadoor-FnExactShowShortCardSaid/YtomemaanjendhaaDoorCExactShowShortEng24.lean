/- What is proved: an argument that is a slice of bytes is a list that the engine reads; a contract that answers true serves the row. Conditions: the row's own reading of the argument. -/
import Derived.Test.YtomemaanjendhaaDoorCExactShowShortEng23
import Derived.ProofKit
set_option linter.unusedVariables false
set_option linter.unusedSimpArgs false
namespace Go.Eng
open Go Go.RowKit Go.ChangeShapes Go.WideShapes

theorem rdE_keep {W w : World} (h : ∀ b, b < W.heap.size → w.heap[b]? = W.heap[b]?) {b off sz : Nat} {es : List (List Value)} (hb : b < W.heap.size) (hc : RdE W b off sz es) : RdE w b off sz es := by
  unfold RdE at hc ⊢
  rw [h b hb]; exact hc

/-- what a law's own call knows of package variables -/
class GOK (W : World) : Prop where
  ok : Gfact (fun b => b < W.heap.size) W

theorem gTop (W : World) [hW : GOK W] (w : World) (h : ∀ b, b < W.heap.size → w.heap[b]? = W.heap[b]?) : Gfact (fun b => b < W.heap.size) w := by
  obtain ⟨h1, h2⟩ := hW.ok
  refine ⟨fun p hp => ?_, GX_keep h2 h⟩
  obtain ⟨b, off, cap, g1, g2, g3, g4, g5⟩ := h1 p hp
  exact ⟨b, off, cap, cell_keep h g1, g2, g3, g4, rdE_keep h g4 g5⟩

/-- the surroundings of a law's own call: all that is there stays -/
def topX (W : World) [GOK W] : Env where
  w0 := W
  mb := []
  B := fun b => b < W.heap.size
  B1 := fun b => b < W.heap.size
  hB1 := fun _ h => h
  hB := fun b h => ⟨h, by simp⟩
  hG := gTop W
  nin := 0
  m0 := fun _ => none

theorem spec_top {P : Program} {f : FuncId} {args : List AV} {r : Value} (hs : Eng.Spec P f args [] (.v r) []) (W : World) [GOK W] (vs : List Value) (hv : VRs (topX W) (fun _ => none) (shL []) args vs) :
    Calls P f vs.toArray W (fun e W' => e = .returned r ∧ Below W.heap.size W W') := by
  refine (hs.run (topX W) (fun _ => none) vs rfl rfl hv (fun k => by unfold HR; rw [oL_out (l := []) (i := k) (Nat.zero_le k)]; trivial) (fun k k' L L' _ hk => absurd (by simp only [shL, oL_out (l := []) (i := k) (Nat.zero_le k)]; rfl) hk)).mono fun e W' he => ?_
  obtain ⟨v, m', rfl, hr, _, _, _, hf⟩ := he
  simp only [VR] at hr
  subst hr
  exact ⟨rfl, hf.os, hf.tape, hf.output, hf.size, fun b hb => hf.block b hb (by simp [topX])⟩

theorem bytes_VR {H : Type} {enc : TypeId × Value → H} {P : Program} {W : World} [GOK W] {t e : TypeId} (ht : P.underlying t = some (.slice e)) (he : P.underlying e = some (.int .u8)) (hc : P.cellsOf e = 1) {a0 : Option Addr} {len cap : Nat} {d : DataW H} {p : List MemPlace}
    (h : DataW.Trod enc P W 0 (fun _ => true) true t (.slice a0 len cap) d p) (hlt : ∀ x ∈ p, x.block < W.heap.size) :
    ∃ p1 : List Int, (∀ n ∈ p1, 0 ≤ n ∧ n < 256) ∧ p1.length = len ∧ len ≤ maxLen ∧ ∀ m sh, VR (topX W) m sh (.bs true 1 (p1.map fun n => [.int .u8 n])) (.slice a0 len cap) := by
  obtain ⟨fuel, hf⟩ := h
  rcases open_ints ht he hc hf with ⟨hcs, hx⟩ | ⟨a, len', cap', zs, hcs, _, hl, hm, hz, hx, hcell, hwz⟩
  · simp [Value.cells] at hcs
    obtain ⟨rfl, rfl, rfl⟩ := hcs
    refine ⟨[], by simp, rfl, Nat.zero_le _, fun m sh => ?_⟩
    simp only [VR]
    exact ⟨none, 0, rfl, Nat.le_refl _, (fun e he => by cases he), .inl rfl⟩
  · simp [Value.cells] at hcs
    obtain ⟨rfl, rfl, rfl⟩ := hcs
    simp only [Prod.mk.injEq] at hx
    obtain ⟨rfl, rfl⟩ := hx
    simp only [if_true] at hz
    have hlen : (zs.take len).length = len := by simp; omega
    refine ⟨zs.take len, fun n hn => ?_, hlen, by omega, fun m sh => ?_⟩
    · have := hwz n (List.mem_of_mem_take hn)
      simp only [Lit.wf, IntKind.min, IntKind.max, Bool.and_eq_true, decide_eq_true_eq] at this
      simp [IntKind.signed, IntKind.bits] at this
      omega
    · simp only [VR]
      refine ⟨some a, cap, by rw [List.length_map, hlen], by rw [List.length_map, hlen]; exact hl, fun e he => ?_, ?_⟩
      · obtain ⟨n, _, rfl⟩ := List.mem_map.1 he
        exact ⟨rfl, fun x hx => by simp at hx; subst hx; rfl⟩
      · by_cases h0 : len = 0
        · left; subst h0; rfl
        · right
          obtain ⟨b, off, spot⟩ := a
          have c0 := hcell 0 (by omega)
          have hspot : spot = none := by simpa [Addr.add] using World.cell?_spot c0
          subst hspot
          refine ⟨b, off, rfl, ?_, ?_⟩
          · show b < W.heap.size
            exact hlt (.cell b off) (MemPlace.mem_row.2 ⟨0, by omega, by simp⟩)
          · have hb : ∃ C E fz, W.heap[b]? = some (.cells C E fz) := by
              simp only [World.cell?, Addr.add_lit] at c0
              split at c0
              · rename_i C E fz hh; exact ⟨C, E, fz, hh⟩
              · cases c0
            obtain ⟨C, E, fz, hh⟩ := hb
            refine ⟨C, E, fz, hh, fun i e hi j x hj => ?_⟩
            simp only [List.getElem?_map, Option.map_eq_some_iff] at hi
            obtain ⟨n, hn, rfl⟩ := hi
            have hi' : i < len := by
              have := (List.getElem?_eq_some_iff.1 hn).1
              omega
            cases j with
            | zero =>
              simp at hj; subst hj
              have := hcell i (by omega)
              rw [Addr.add_lit, cell_of_row W b _ C E fz hh] at this
              rw [show off + i * 1 + 0 = off + i by omega, this]
              rw [List.getElem?_take, if_pos hi'] at hn
              simp [List.getD_eq_getElem?_getD, hn]
            | succ j => simp at hj

section
variable {H : Type} {enc : TypeId × Value → H} {P : Program}
/-- the row's last step, where of the world behind the call it is known that below the old size nothing has turned -/
theorem post_below {f : Func} {s : ChangeSpec} {apart fresh handsOn again : Bool} {W W' : World} {args : Array Value} {v : Value} {ds gs : List (DataW H)} {before pa pv : List MemPlace}
    (hW : DataW.Whole enc P f.params.toList s.vars apart W args.toList ds gs before)
    (hres : ∀ (b : Nat) (sp : Nat → Bool) (hd : Bool), DataW.TrodAll enc P W' b sp hd f.resultTypes.toList (v.resultList f.resultTypes.size) (s.fn H (ds ++ gs)).results [])
    (hargs : ∀ sp : Nat → Bool, (∀ p ∈ before, sp p.block = true) → DataW.TrodAll enc P W' 0 sp true f.params.toList args.toList (s.fn H (ds ++ gs)).args pa)
    (hvars : ∀ sp : Nat → Bool, (∀ p ∈ before, sp p.block = true) → DataW.TrodVars enc P W' sp s.vars (s.fn H (ds ++ gs)).vars pv)
    (hps : before = pa ++ pv) (hb : Below W.heap.size W W')
    (hok : ∀ (j : Nat) (t : TypeId) (r : Value), f.resultTypes[j]? = some t → (v.resultList f.resultTypes.size)[j]? = some r → Value.okWide P W' .any 0 t r) :
    s.post enc P f apart fresh handsOn again W args v W' := by
  have hlt : ∀ p ∈ before, p.block < W.heap.size := fun p hp => hW.lt p hp
  have hold : ∀ p ∈ before, (fun b => decide (b < W.heap.size)) p.block = true := fun p hp => by simpa using hlt p hp
  refine ⟨ds, gs, before, [], pa, pv, hW, hres _ _ _, hargs _ hold, hvars _ hold, World.keptBut_mono (fun p hp => ⟨hp, ?_⟩) (hb.frame (· ∈ before)), fun _ => ?_⟩
  · rw [hps, List.mem_append] at hp
    exact Or.inr hp
  · obtain ⟨_, _, _, _, _, hz, hn⟩ := hW
    refine ⟨hok, _, _, ([] ++ pa) ++ pv, ⟨[] ++ pa, pv, trodAll_append (hargs _ (fun _ _ => rfl)) (hres _ _ _), hvars _ (fun _ _ => rfl), rfl, ?_, ?_⟩, ?_⟩
    · intro b off hp
      have hin : MemPlace.cell b off ∈ before := by rw [hps]; simpa using hp
      rw [hb.frozen (hlt _ hin)]
      exact hz b off hin
    · intro ha
      have := hn ha
      rw [hps] at this
      simpa using this
    · intro p hp _
      rw [hps]
      simpa using hp
end

end Go.Eng
