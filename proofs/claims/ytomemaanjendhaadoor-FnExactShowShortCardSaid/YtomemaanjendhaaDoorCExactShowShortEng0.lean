/- What is said here: nothing is proved. What a claim knows of package variables: those that hold a slice of texts or numbers, and what else is known of a world. -/
import Derived.WalkKit
import Derived.Test.YtomemaanjendhaaDoorProg
import Derived.Lib.LaidTab
import Derived.Lib.ItoaNum
import Derived.Shelf.Spec.TrailingZeros
set_option linter.unusedVariables false
namespace Go.Eng
open Go

theorem cell_keep {W w : World} (h : ∀ b, b < W.heap.size → w.heap[b]? = W.heap[b]?) {b off : Nat} {v : Value} (hc : W.cell? ⟨b, off, none⟩ = some v) : w.cell? ⟨b, off, none⟩ = some v := by
  have hb : b < W.heap.size := by
    rcases Nat.lt_or_ge b W.heap.size with h' | h'
    · exact h'
    · simp [World.cell?, Array.getElem?_eq_none h'] at hc
  unfold World.cell? at hc ⊢
  rw [h b hb]; exact hc

theorem var_keep {P : Program} {W w : World} (h : ∀ b, b < W.heap.size → w.heap[b]? = W.heap[b]?) {n : String} {cs : Array Value} (hv : W.var? P n = some cs) : w.var? P n = some cs := by
  unfold World.var? at hv ⊢
  cases hg : P.globalNamed n with
  | none => simp [hg] at hv
  | some g =>
    simp only [hg, Option.bind_some] at hv ⊢
    have hb : g < W.heap.size := by
      rcases Nat.lt_or_ge g W.heap.size with h' | h'
      · exact h'
      · simp [Array.getElem?_eq_none h'] at hv
    rw [h g hb]; exact hv

/-- the words of bounds: strict, fit, eject, keep -/
def boundWords : List ByteArray := [⟨#[115, 116, 114, 105, 99, 116]⟩, ⟨#[102, 105, 116]⟩, ⟨#[101, 106, 101, 99, 116]⟩, ⟨#[107, 101, 101, 112]⟩]

/-- package variables that hold a slice: the variable's block, the size of an element in cells, the elements -/
def gslices : List (Nat × Nat × List (List Value)) := []

def GXe (g : Nat) (w : World) : Prop := ∃ ev, w.cell? ⟨g, 0, none⟩ = some ev ∧ (ev = .nilIface ∨ ∃ te pe, ev = .iface te pe)

def GXtz (w : World) : Prop := Go.Proofs.TabAt 7 Lib.deBruijn64tab w

def GXpow (w : World) : Prop := Lib.TabIs Go.Proofs.Tryd.prog w "internal/strconv.uint64pow10" .u64 Lib.pow10Tab

def GXml (w : World) : Prop := True

def GXes (w : World) : Prop := True

def GXer (w : World) : Prop := True

def GX (w : World) : Prop := GXtz w ∧ GXpow w ∧ GXml w ∧ GXes w ∧ GXer w

theorem GX_tz {w : World} (h : GX w) : GXtz w := h.1

theorem GX_pow10 {w : World} (h : GX w) : GXpow w := h.2.1

theorem GX_maxlen {w : World} (h : GX w) : GXml w := h.2.2.1

theorem GX_errsyntax {w : World} (h : GX w) : GXes w := h.2.2.2.1

theorem GX_errrange {w : World} (h : GX w) : GXer w := h.2.2.2.2

theorem GXtz_keep {W w : World} (h : GXtz W) (hw : ∀ b, b < W.heap.size → w.heap[b]? = W.heap[b]?) : GXtz w := fun j hj => cell_keep hw (h j hj)

theorem GXpow_keep {W w : World} (h : GXpow W) (hw : ∀ b, b < W.heap.size → w.heap[b]? = W.heap[b]?) : GXpow w := var_keep hw h

theorem GXml_keep {W w : World} (h : GXml W) (hw : ∀ b, b < W.heap.size → w.heap[b]? = W.heap[b]?) : GXml w := trivial

theorem GXes_keep {W w : World} (h : GXes W) (hw : ∀ b, b < W.heap.size → w.heap[b]? = W.heap[b]?) : GXes w := trivial

theorem GXer_keep {W w : World} (h : GXer W) (hw : ∀ b, b < W.heap.size → w.heap[b]? = W.heap[b]?) : GXer w := trivial

theorem GX_keep {W w : World} (h : GX W) (hw : ∀ b, b < W.heap.size → w.heap[b]? = W.heap[b]?) : GX w :=
  ⟨GXtz_keep h.1 hw, GXpow_keep h.2.1 hw, GXml_keep h.2.2.1 hw, GXes_keep h.2.2.2.1 hw, GXer_keep h.2.2.2.2 hw⟩

end Go.Eng
