/- What is proved: how a contract of the engine serves a walk that is done by hand: a class of flags that a call has answered is read by later calls. Conditions: the contracts. -/
import Derived.Test.YtofdanhfalkjkaaGreatDoorCParseFlagEng26
set_option linter.unusedVariables false
set_option linter.unusedSimpArgs false
namespace Go.Eng
open Go Go.RowKit

variable {P : Program}

/-- what is known of package variables, behind a call that has left all that was -/
theorem gok_of {X : Env} {w : World} (hb : Below X.w0.heap.size X.w0 w) : GOK w :=
  ⟨Gfact.mono (fun b hb' => Nat.lt_of_lt_of_le (X.hB b hb').1 hb.size) (X.hG w (fun b hb' => hb.block b (X.hB b hb').1))⟩

theorem gok_after {W w : World} [GOK W] (hb : Below W.heap.size W w) : GOK w :=
  ⟨Gfact.mono (fun b hb' => Nat.lt_of_lt_of_le hb' hb.size) (gTop W w (fun b hb' => hb.block b hb'))⟩

theorem eq_settled {α : Type} [DecidableEq α] {e a b : α} (h : decide (e = a) = true) (hn : ¬ a = b) : decide (e = b) = false := by
  rw [of_decide_eq_true h]; exact decide_eq_false hn

/-- the line of an answer -/
def deskOne (ok : Bool) (a : ByteArray) : List UInt8 := bif ok then a.data.toList ++ [10] else [119, 114, 111, 110, 103, 10]

/-- the answers to lines, as impl.RunDesk gathers them -/
def deskRun (f : ByteArray → Option ByteArray) (ok : Bool) : List ByteArray → Option (List UInt8)
  | [] => some []
  | l :: r => bd (bif ok then bd (f l) (fun a => gd (a.size ≤ 1000000000) <| some a) else some ByteArray.empty) fun a => bd (deskRun f ok r) fun b => some (deskOne ok a ++ b)

theorem deskRun_out (f : ByteArray → Option ByteArray) (ok : Bool) : ∀ (xs : List ByteArray) (l : List UInt8), deskRun f ok xs = some l →
    (ok = true → ∀ x ∈ xs, f x = some ((f x).getD ByteArray.empty) ∧ ((f x).getD ByteArray.empty).size ≤ 1000000000) ∧ l = xs.flatMap fun x => deskOne ok ((f x).getD ByteArray.empty)
  | [], l, h => by
    rw [deskRun] at h
    cases h
    exact ⟨fun _ x hx => (by cases hx), rfl⟩
  | x :: r, l, h => by
    rw [deskRun] at h
    obtain ⟨a, ha, h⟩ := bd_e h
    obtain ⟨b, hb, h⟩ := bd_e h
    cases h
    obtain ⟨h1, rfl⟩ := deskRun_out f ok r b hb
    cases ok with
    | true =>
      rw [cond_true] at ha
      obtain ⟨q, hq, ha⟩ := bd_e ha
      obtain ⟨g, ha⟩ := gd_e ha
      cases ha
      refine ⟨fun _ y hy => ?_, ?_⟩
      · rcases List.mem_cons.1 hy with rfl | hy
        · rw [hq]; exact ⟨rfl, g⟩
        · exact h1 rfl y hy
      · rw [List.flatMap_cons, hq]; rfl
    | false => exact ⟨fun e => (by cases e), by rw [List.flatMap_cons]; rfl⟩

/-- what a lent slice of texts is in memory, the empty one too -/
theorem bs_texts {X : Env} {m : Nat → Option Loc} {sh : Nat → Sh} {l : Bool} {xs : List ByteArray} {v : Value} (h : VR X m sh (.bs l 1 (xs.map fun x => [.string x])) v) :
    ∃ a c, v = .slice a xs.length c ∧ ∀ (j : Nat) x, xs[j]? = some x → ∃ b off, a = some ⟨b, off, none⟩ ∧ b < X.w0.heap.size ∧ X.w0.cell? ⟨b, off + j, none⟩ = some (.string x) := by
  rcases bs_strings h with ⟨rfl, a, c, rfl⟩ | ⟨b, off, c, rfl, _, h1, h2⟩
  · exact ⟨a, c, rfl, fun j x hx => by simp at hx⟩
  · exact ⟨_, c, rfl, fun j x hx => ⟨b, off, rfl, h1, h2 j x hx⟩⟩

/-- a class of flags that a call has answered, over an array of its own -/
theorem desk_parse {f : FuncId} {s : ByteArray} {n : Nat} {es : List (List Value)} {b : Int} {ok : Bool} (hS : Eng.Spec P f [.v (.string s)] [] (.tup [.agg [.sl 0 0 n, .v (.int .i64 b)], .v (.bool ok)]) [.arr 2 es]) (hn : es.length = n) (W : World) [GOK W] :
    Calls P f #[.string s] W (fun e w1 => ∃ a cap, e = .returned (.tuple #[.agg #[.slice a n cap, .int .i64 b], .bool ok]) ∧ Below W.heap.size W w1 ∧
      ∀ (w2 : World) [GOK w2], Below w1.heap.size w1 w2 → VR (topX w2) (fun _ => none) (shL []) (.bs false 2 es) (.slice a n cap)) := by
  refine (hS.run (topX W) (fun _ => none) [.string s] rfl rfl ?_ (fun k => HR_none k) Dist_none).mono fun e w1 he => ?_
  · unfold VRs; exact ⟨_, _, rfl, by simp only [VR], by simp only [VRs]⟩
  · obtain ⟨v, m', rfl, hr, ho, _, _, hf⟩ := he
    simp only [VR, VRs] at hr
    obtain ⟨C, rfl, x, xs, rfl, ⟨C2, rfl, y, ys, rfl, hy, z, zs, rfl, rfl, rfl⟩, u, us, rfl, rfl, rfl⟩ := hr
    have e0 : shL [.arr 2 es] 0 = .arr 2 es.length := rfl
    rw [e0] at hy
    simp only [] at hy
    obtain ⟨h1, a, cap, rfl, h2, h3⟩ := hy
    refine ⟨a, cap, rfl, ⟨hf.os, hf.tape, hf.output, hf.size, fun b hb => hf.block b hb (by simp [topX])⟩, fun w2 _ hb => ?_⟩
    have h0 := ho 0
    unfold HR at h0
    have e1 : oL [.arr 2 es] 0 = .arr 2 es := rfl
    rw [e1] at h0
    simp only [] at h0
    obtain ⟨g1, g2⟩ := h0
    simp only [VR]
    refine ⟨a, cap, by rw [hn], by omega, g1, ?_⟩
    rcases g2 with ⟨_, g2⟩ | ⟨L, C, E, k1, k2, k3, k4, k5, k6⟩
    · exact .inl g2
    · rcases h3 with rfl | ⟨L', k1', k7, _⟩
      · left
        have : es.length = 0 := by omega
        exact List.eq_nil_of_length_eq_zero this
      · rw [k1] at k1'
        cases k1'
        have hlt : L.b < w1.heap.size := (Array.getElem?_eq_some_iff.1 k2).1
        refine .inr ⟨L.b, L.off, by rw [k7]; simp, Nat.lt_of_lt_of_le hlt hb.size, C, E, (0, 0), (hb.block L.b hlt).trans k2, fun i e hi j x hj => k5 i e hi j x hj⟩

/-- a call that reads a class of flags and a text -/
theorem desk_line {g : FuncId} {es : List (List Value)} {b : Int} {x r : ByteArray} (hS : Eng.Spec P g [.agg [.bs false 2 es, .v (.int .i64 b)], .v (.string x)] [] (.v (.string r)) []) (w : World) [GOK w] {v : Value}
    (hv : VR (topX w) (fun _ => none) (shL []) (.bs false 2 es) v) : Calls P g #[.agg #[v, .int .i64 b], .string x] w (fun e w' => e = .returned (.string r) ∧ Below w.heap.size w w') := by
  refine spec_top hS w [.agg #[v, .int .i64 b], .string x] ?_
  unfold VRs
  refine ⟨_, _, rfl, ?_, ?_⟩
  · unfold VR
    refine ⟨[v, .int .i64 b], rfl, ?_⟩
    unfold VRs
    refine ⟨_, _, rfl, hv, ?_⟩
    unfold VRs
    exact ⟨_, _, rfl, by simp only [VR], by simp only [VRs]⟩
  · unfold VRs
    exact ⟨_, _, rfl, by simp only [VR], by simp only [VRs]⟩

end Go.Eng
