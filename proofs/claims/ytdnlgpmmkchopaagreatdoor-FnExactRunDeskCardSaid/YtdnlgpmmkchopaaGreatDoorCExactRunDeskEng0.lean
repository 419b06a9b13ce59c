/- What is said here: nothing is proved. What a claim knows of package variables: those that hold a slice of texts or numbers, and what else is known of a world. -/
import Derived.WalkKit
import Derived.Test.YtdnlgpmmkchopaaGreatDoorProg
import Derived.Lib.LaidTab
import Derived.Lib.ItoaNum
import Derived.Shelf.Spec.TrailingZeros
set_option linter.unusedVariables false
namespace Go.Eng
open Go

theorem kN {W w:World} (h:∀ b,b<W.heap.size→w.heap[b]?=W.heap[b]?) {b off:Nat} {v:Value} (hc:W.cell? ⟨b,off,none⟩=some v):w.cell? ⟨b,off,none⟩=some v:=by
 have hb:b<W.heap.size:=by
  rcases Nat.lt_or_ge b W.heap.size with h' | h'
  ·exact h'
  ·simp [World.cell?,Array.getElem?_eq_none h'] at hc
 unfold World.cell? at hc ⊢
 rw [h b hb];exact hc

theorem vP {P:Program} {W w:World} (h:∀ b,b<W.heap.size→w.heap[b]?=W.heap[b]?) {n:String} {cs:Array Value} (hv:W.var? P n=some cs):w.var? P n=some cs:=by
 unfold World.var? at hv ⊢
 cases hg:P.globalNamed n with
 | none=>simp [hg] at hv
 | some g =>
  simp only [hg,Option.bind_some] at hv ⊢
  have hb:g<W.heap.size:=by
   rcases Nat.lt_or_ge g W.heap.size with h' | h'
   ·exact h'
   ·simp [Array.getElem?_eq_none h'] at hv
  rw [h g hb];exact hv

def boundWords:List ByteArray:=[⟨#[115,116,114,105,99,116]⟩,⟨#[102,105,116]⟩,⟨#[101,106,101,99,116]⟩,⟨#[107,101,101,112]⟩]

def gslices:List (Nat×Nat×List (List Value)):=[(0,1,boundWords.map fun x=>[.string x])]

def GXe (g:Nat) (w:World):Prop:=∃ ev,w.cell? ⟨g,0,none⟩=some ev∧(ev=.nilIface∨∃ te pe,ev=.iface te pe)

def yb (w:World):Prop:=Go.Proofs.TabAt 8 Lib.deBruijn64tab w

def tf (w : World) : Prop := Lib.TabIs Go.Proofs.Tryz.prog w "internal/strconv.uint64pow10" .u64 Lib.pow10Tab

def wB (w:World):Prop:=∃ m:Int,w.cell? ⟨1,0,none⟩=some (.int .i64 m)

def yl (w:World):Prop:=GXe 3 w

def yo (w:World):Prop:=GXe 4 w

def GX (w:World):Prop:=yb w∧tf w∧wB w∧yl w∧yo w

theorem Ab {w:World} (h:GX w):tf w:=h.2.1

theorem uD {w:World} (h:GX w):wB w:=h.2.2.1

theorem vI {w:World} (h:GX w):yl w:=h.2.2.2.1

theorem xk {w:World} (h:GX w):yo w:=h.2.2.2.2

theorem yZ {W w:World} (h:yb W) (hw:∀ b,b<W.heap.size→w.heap[b]?=W.heap[b]?):yb w:=fun j hj=>kN hw (h j hj)

theorem yI {W w:World} (h:tf W) (hw:∀ b,b<W.heap.size→w.heap[b]?=W.heap[b]?):tf w:=vP hw h

theorem zh {W w:World} (h:wB W) (hw:∀ b,b<W.heap.size→w.heap[b]?=W.heap[b]?):wB w:=let ⟨m,hm⟩:=h;⟨m,kN hw hm⟩

theorem yO {W w:World} (h:yl W) (hw:∀ b,b<W.heap.size→w.heap[b]?=W.heap[b]?):yl w:=let ⟨e,h1,h2⟩:=h;⟨e,kN hw h1,h2⟩

theorem yV {W w:World} (h:yo W) (hw:∀ b,b<W.heap.size→w.heap[b]?=W.heap[b]?):yo w:=let ⟨e,h1,h2⟩:=h;⟨e,kN hw h1,h2⟩

theorem AG {W w:World} (h:GX W) (hw:∀ b,b<W.heap.size→w.heap[b]?=W.heap[b]?):GX w :=
 ⟨yZ h.1 hw,yI h.2.1 hw,zh h.2.2.1 hw,yO h.2.2.2.1 hw,yV h.2.2.2.2 hw⟩

end Go.Eng
