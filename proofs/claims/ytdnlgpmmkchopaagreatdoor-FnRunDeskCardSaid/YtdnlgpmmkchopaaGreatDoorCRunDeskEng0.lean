/- What is said here: nothing is proved. What a claim knows of package variables: those that hold a slice of texts or numbers, and what else is known of a world. -/
import Derived.WalkKit
import Derived.Test.YtdnlgpmmkchopaaGreatDoorProg
import Derived.Lib.LaidTab
import Derived.Lib.ItoaNum
import Derived.Shelf.Spec.TrailingZeros
set_option linter.unusedVariables false
namespace Go.Eng
open Go

theorem lO {W w:World} (h:∀ b,b<W.heap.size→w.heap[b]?=W.heap[b]?) {b off:Nat} {v:Value} (hc:W.cell? ⟨b,off,none⟩=some v):w.cell? ⟨b,off,none⟩=some v:=by
 have hb:b<W.heap.size:=by
  rcases Nat.lt_or_ge b W.heap.size with h' | h'
  ·exact h'
  ·simp [World.cell?,Array.getElem?_eq_none h'] at hc
 unfold World.cell? at hc ⊢
 rw [h b hb];exact hc

theorem xJ {P:Program} {W w:World} (h:∀ b,b<W.heap.size→w.heap[b]?=W.heap[b]?) {n:String} {cs:Array Value} (hv:W.var? P n=some cs):w.var? P n=some cs:=by
 unfold World.var? at hv ⊢
 cases hg:P.globalNamed n with
 | none=>simp [hg] at hv
 | some g =>
  simp only [hg,Option.bind_some] at hv ⊢
  have hb:g<W.heap.size:=by
   rcases Nat.lt_or_ge g W.heap.size with h' | h'
   ·exact h'
   ·simp [Array.getElem?_eq_none h'] at hv
  rw [h g hb];exact hv

def boundWords:List ByteArray:=[⟨#[115,116,114,105,99,116]⟩,⟨#[102,105,116]⟩,⟨#[101,106,101,99,116]⟩,⟨#[107,101,101,112]⟩]

def gslices:List (Nat×Nat×List (List Value)):=[(0,1,boundWords.map fun x=>[.string x])]

def GXe (g:Nat) (w:World):Prop:=∃ ev,w.cell? ⟨g,0,none⟩=some ev∧(ev=.nilIface∨∃ te pe,ev=.iface te pe)

def zO (w:World):Prop:=Go.Proofs.TabAt 8 Lib.deBruijn64tab w

def ue (w : World) : Prop := Lib.TabIs Go.Proofs.Tryz.prog w "internal/strconv.uint64pow10" .u64 Lib.pow10Tab

def xi (w:World):Prop:=∃ m:Int,w.cell? ⟨1,0,none⟩=some (.int .i64 m)

def zY (w:World):Prop:=GXe 3 w

def zm (w:World):Prop:=GXe 4 w

def GX (w:World):Prop:=zO w∧ue w∧xi w∧zY w∧zm w

theorem A6 {w:World} (h:GX w):ue w:=h.2.1

theorem vM {w:World} (h:GX w):xi w:=h.2.2.1

theorem xq {w:World} (h:GX w):zY w:=h.2.2.2.1

theorem yx {w:World} (h:GX w):zm w:=h.2.2.2.2

theorem Av {W w:World} (h:zO W) (hw:∀ b,b<W.heap.size→w.heap[b]?=W.heap[b]?):zO w:=fun j hj=>lO hw (h j hj)

theorem zZ {W w:World} (h:ue W) (hw:∀ b,b<W.heap.size→w.heap[b]?=W.heap[b]?):ue w:=xJ hw h

theorem Ay {W w:World} (h:xi W) (hw:∀ b,b<W.heap.size→w.heap[b]?=W.heap[b]?):xi w:=let ⟨m,hm⟩:=h;⟨m,lO hw hm⟩

theorem Af {W w:World} (h:zY W) (hw:∀ b,b<W.heap.size→w.heap[b]?=W.heap[b]?):zY w:=let ⟨e,h1,h2⟩:=h;⟨e,lO hw h1,h2⟩

theorem Ah {W w:World} (h:zm W) (hw:∀ b,b<W.heap.size→w.heap[b]?=W.heap[b]?):zm w:=let ⟨e,h1,h2⟩:=h;⟨e,lO hw h1,h2⟩

theorem BX {W w:World} (h:GX W) (hw:∀ b,b<W.heap.size→w.heap[b]?=W.heap[b]?):GX w :=
 ⟨Av h.1 hw,zZ h.2.1 hw,Ay h.2.2.1 hw,Af h.2.2.2.1 hw,Ah h.2.2.2.2 hw⟩

end Go.Eng
