/- What is said here: nothing is proved. What a claim knows of package variables: those that hold a slice of texts or numbers, and what else is known of a world. -/
import Derived.WalkKit
set_option linter.unusedVariables false
namespace Go.Eng
open Go

theorem cell_keep {W w : World} (h : ∀ b, b < W.heap.size → w.heap[b]? = W.heap[b]?) {b off : Nat} {v : Value} (hc : W.cell? ⟨b, off, none⟩ = some v) : w.cell? ⟨b, off, none⟩ = some v := by
  have hb : b < W.heap.size := by
    rcases Nat.lt_or_ge b W.heap.size with h' | h'
    · exact h'
    · simp [World.cell?, Array.getElem?_eq_none h'] at hc
  unfold World.cell? at hc ⊢
  rw [h b hb]; exact hc

theorem var_keep {P : Program} {W w : World} (h : ∀ b, b < W.heap.size → w.heap[b]? = W.heap[b]?) {n : String} {cs : Array Value} (hv : W.var? P n = some cs) : w.var? P n = some cs := by
  unfold World.var? at hv ⊢
  cases hg : P.globalNamed n with
  | none => simp [hg] at hv
  | some g =>
    simp only [hg, Option.bind_some] at hv ⊢
    have hb : g < W.heap.size := by
      rcases Nat.lt_or_ge g W.heap.size with h' | h'
      · exact h'
      · simp [Array.getElem?_eq_none h'] at hv
    rw [h g hb]; exact hv

/-- the words of bounds: strict, fit, eject, keep -/
def boundWords : List ByteArray := [⟨#[115, 116, 114, 105, 99, 116]⟩, ⟨#[102, 105, 116]⟩, ⟨#[101, 106, 101, 99, 116]⟩, ⟨#[107, 101, 101, 112]⟩]

/-- package variables that hold a slice: the variable's block, the size of an element in cells, the elements -/
def gslices : List (Nat × Nat × List (List Value)) := []

/-- what else is known of package variables -/
def GX (w : World) : Prop := True

theorem GX_keep {W w : World} (h : GX W) (hw : ∀ b, b < W.heap.size → w.heap[b]? = W.heap[b]?) : GX w := trivial

end Go.Eng
