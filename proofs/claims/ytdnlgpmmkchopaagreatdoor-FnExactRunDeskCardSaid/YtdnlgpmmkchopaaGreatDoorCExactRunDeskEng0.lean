/- What is said here: nothing is proved. What a claim knows of package variables: those that hold a slice of texts or numbers, and what else is known of a world. -/
import Derived.WalkKit
import Derived.Test.YtdnlgpmmkchopaaGreatDoorProg
import Derived.Lib.LaidTab
import Derived.Lib.ItoaNum
import Derived.Shelf.Spec.TrailingZeros
set_option linter.unusedVariables false
namespace Go.Eng
open Go

theorem kU {W w:World} (h:∀ b,b<W.heap.size→w.heap[b]?=W.heap[b]?) {b off:Nat} {v:Value} (hc:W.cell? ⟨b,off,none⟩=some v):w.cell? ⟨b,off,none⟩=some v:=by
  have hb:b<W.heap.size:=by
    rcases Nat.lt_or_ge b W.heap.size with h' | h'
    · exact h'
    · simp [World.cell?,Array.getElem?_eq_none h'] at hc
  unfold World.cell? at hc ⊢
  rw [h b hb];exact hc

theorem wK {P:Program} {W w:World} (h:∀ b,b<W.heap.size→w.heap[b]?=W.heap[b]?) {n:String} {cs:Array Value} (hv:W.var? P n=some cs):w.var? P n=some cs:=by
  unfold World.var? at hv ⊢
  cases hg:P.globalNamed n with
  | none=>simp [hg] at hv
  | some g =>
    simp only [hg,Option.bind_some] at hv ⊢
    have hb:g<W.heap.size:=by
      rcases Nat.lt_or_ge g W.heap.size with h' | h'
      · exact h'
      · simp [Array.getElem?_eq_none h'] at hv
    rw [h g hb];exact hv

def boundWords:List ByteArray:=[⟨#[115,116,114,105,99,116]⟩,⟨#[102,105,116]⟩,⟨#[101,106,101,99,116]⟩,⟨#[107,101,101,112]⟩]

def gslices:List (Nat×Nat×List (List Value)):=[(0,1,boundWords.map fun x=>[.string x])]

def GXe (g:Nat) (w:World):Prop:=∃ ev,w.cell? ⟨g,0,none⟩=some ev∧(ev=.nilIface∨∃ te pe,ev=.iface te pe)

def vX (w:World):Prop:=Go.Proofs.TabAt 8 Lib.deBruijn64tab w

def rY (w : World) : Prop := Lib.TabIs Go.Proofs.Tryz.prog w "internal/strconv.uint64pow10" .u64 Lib.pow10Tab

def vQ (w:World):Prop:=∃ m:Int,w.cell? ⟨1,0,none⟩=some (.int .i64 m)

def yv (w:World):Prop:=GXe 3 w

def xR (w:World):Prop:=GXe 4 w

def GX (w:World):Prop:=vX w∧rY w∧vQ w∧yv w∧xR w

theorem Bq {w:World} (h:GX w):vX w:=h.1

theorem zK {w:World} (h:GX w):rY w:=h.2.1

theorem un {w:World} (h:GX w):vQ w:=h.2.2.1

theorem wL {w:World} (h:GX w):yv w:=h.2.2.2.1

theorem xo {w:World} (h:GX w):xR w:=h.2.2.2.2

theorem yM {W w:World} (h:vX W) (hw:∀ b,b<W.heap.size→w.heap[b]?=W.heap[b]?):vX w:=fun j hj=>kU hw (h j hj)

theorem yd {W w:World} (h:rY W) (hw:∀ b,b<W.heap.size→w.heap[b]?=W.heap[b]?):rY w:=wK hw h

theorem yW {W w:World} (h:vQ W) (hw:∀ b,b<W.heap.size→w.heap[b]?=W.heap[b]?):vQ w:=let ⟨m,hm⟩:=h;⟨m,kU hw hm⟩

theorem yP {W w:World} (h:yv W) (hw:∀ b,b<W.heap.size→w.heap[b]?=W.heap[b]?):yv w:=let ⟨e,h1,h2⟩:=h;⟨e,kU hw h1,h2⟩

theorem zb {W w:World} (h:xR W) (hw:∀ b,b<W.heap.size→w.heap[b]?=W.heap[b]?):xR w:=let ⟨e,h1,h2⟩:=h;⟨e,kU hw h1,h2⟩

theorem AG {W w:World} (h:GX W) (hw:∀ b,b<W.heap.size→w.heap[b]?=W.heap[b]?):GX w :=
  ⟨yM h.1 hw,yd h.2.1 hw,yW h.2.2.1 hw,yP h.2.2.2.1 hw,zb h.2.2.2.2 hw⟩

end Go.Eng
