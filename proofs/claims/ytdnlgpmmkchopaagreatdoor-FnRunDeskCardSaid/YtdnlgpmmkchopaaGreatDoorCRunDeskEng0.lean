/- What is said here: nothing is proved. What a claim knows of package variables: those that hold a slice of texts or numbers, and what else is known of a world. -/
import Derived.WalkKit
import Derived.Test.YtdnlgpmmkchopaaGreatDoorProg
import Derived.Lib.LaidTab
import Derived.Lib.ItoaNum
import Derived.Shelf.Spec.TrailingZeros
set_option linter.unusedVariables false
namespace Go.Eng
open Go

theorem lN {W w:World} (h:∀ b,b<W.heap.size→w.heap[b]?=W.heap[b]?) {b off:Nat} {v:Value} (hc:W.cell? ⟨b,off,none⟩=some v):w.cell? ⟨b,off,none⟩=some v:=by
 have hb:b<W.heap.size:=by
  rcases Nat.lt_or_ge b W.heap.size with h' | h'
  ·exact h'
  ·simp [World.cell?,Array.getElem?_eq_none h'] at hc
 unfold World.cell? at hc ⊢
 rw [h b hb];exact hc

theorem ym {P:Program} {W w:World} (h:∀ b,b<W.heap.size→w.heap[b]?=W.heap[b]?) {n:String} {cs:Array Value} (hv:W.var? P n=some cs):w.var? P n=some cs:=by
 unfold World.var? at hv ⊢
 cases hg:P.globalNamed n with
 | none=>simp [hg] at hv
 | some g =>
  simp only [hg,Option.bind_some] at hv ⊢
  have hb:g<W.heap.size:=by
   rcases Nat.lt_or_ge g W.heap.size with h' | h'
   ·exact h'
   ·simp [Array.getElem?_eq_none h'] at hv
  rw [h g hb];exact hv

def boundWords:List ByteArray:=[⟨#[115,116,114,105,99,116]⟩,⟨#[102,105,116]⟩,⟨#[101,106,101,99,116]⟩,⟨#[107,101,101,112]⟩]

def gslices:List (Nat×Nat×List (List Value)):=[(0,1,boundWords.map fun x=>[.string x])]

def GXe (g:Nat) (w:World):Prop:=∃ ev,w.cell? ⟨g,0,none⟩=some ev∧(ev=.nilIface∨∃ te pe,ev=.iface te pe)

def zA (w:World):Prop:=Go.Proofs.TabAt 8 Lib.deBruijn64tab w

def tJ (w : World) : Prop := Lib.TabIs Go.Proofs.Tryz.prog w "internal/strconv.uint64pow10" .u64 Lib.pow10Tab

def yv (w:World):Prop:=∃ m:Int,w.cell? ⟨1,0,none⟩=some (.int .i64 m)

def zu (w:World):Prop:=GXe 3 w

def zt (w:World):Prop:=GXe 4 w

def GX (w:World):Prop:=zA w∧tJ w∧yv w∧zu w∧zt w

theorem A2 {w:World} (h:GX w):tJ w:=h.2.1

theorem vU {w:World} (h:GX w):yv w:=h.2.2.1

theorem xj {w:World} (h:GX w):zu w:=h.2.2.2.1

theorem yI {w:World} (h:GX w):zt w:=h.2.2.2.2

theorem Al {W w:World} (h:zA W) (hw:∀ b,b<W.heap.size→w.heap[b]?=W.heap[b]?):zA w:=fun j hj=>lN hw (h j hj)

theorem zT {W w:World} (h:tJ W) (hw:∀ b,b<W.heap.size→w.heap[b]?=W.heap[b]?):tJ w:=ym hw h

theorem Ah {W w:World} (h:yv W) (hw:∀ b,b<W.heap.size→w.heap[b]?=W.heap[b]?):yv w:=let ⟨m,hm⟩:=h;⟨m,lN hw hm⟩

theorem Ak {W w:World} (h:zu W) (hw:∀ b,b<W.heap.size→w.heap[b]?=W.heap[b]?):zu w:=let ⟨e,h1,h2⟩:=h;⟨e,lN hw h1,h2⟩

theorem A0 {W w:World} (h:zt W) (hw:∀ b,b<W.heap.size→w.heap[b]?=W.heap[b]?):zt w:=let ⟨e,h1,h2⟩:=h;⟨e,lN hw h1,h2⟩

theorem BW {W w:World} (h:GX W) (hw:∀ b,b<W.heap.size→w.heap[b]?=W.heap[b]?):GX w :=
 ⟨Al h.1 hw,zT h.2.1 hw,Ah h.2.2.1 hw,Ak h.2.2.2.1 hw,A0 h.2.2.2.2 hw⟩

end Go.Eng
