/- What is proved: arguments of a law (numbers, texts, slices of numbers, of texts and of structs of these, structs with such a slice) are data that the engine reads. Conditions: the row's own reading of the argument. -/
import Derived.Test.YtdnlgpmmkchopaaGreatDoorCExactRunDeskEng24
import Derived.Lib.SmallJoins
import Derived.Deep.Strs
set_option linter.unusedVariables false
set_option linter.unusedSimpArgs false
namespace Go.Eng
open Go Go.RowKit Go.ChangeShapes Go.WideShapes

section
variable {H : Type} {enc : TypeId × Value → H} {P : Program} {W : World} {sp : Nat → Bool}

theorem yR {t:TypeId} (ht:P.underlying t=some .string) {fuel:Nat} {cs:List Value} {y:DataW H×List MemPlace} (h:DataW.trod enc P W 0 sp true fuel t cs=some y):∃ s:ByteArray,cs=[.string s]∧s.size≤9223372036854775807:=by
 obtain ⟨s,rfl,_,hw⟩:=DataW.trod_string ht h
 exact ⟨s,rfl,Nat.le_trans hw (by decide)⟩

theorem zX [GOK W] {α:Type} (encα:α→List Value) (ok:α→Prop) (n:Nat) {t e:TypeId} (ht:P.underlying t=some (.slice e)) (hc:P.cellsOf e=n) (hn:0<n)
  (hone:∀ x,(encα x).length=n∧∀ v∈encα x,v.oneCell'=true)
  (hel:∀ (fuel:Nat) (cs:List Value) (y:DataW H×List MemPlace),DataW.trod enc P W 0 sp true fuel e cs=some y→∃ x,cs=encα x∧ok x)
  {fuel:Nat} {cs:List Value} {d:DataW H} {p:List MemPlace} (h:DataW.trod enc P W 0 sp true fuel t cs=some (d,p)) (hlt:∀ x∈p,x.block<W.heap.size) :
  ∃ (xs:List α) (v:Value),cs=[v]∧(∀ x∈xs,ok x)∧xs.length≤9223372036854775807∧∀ m sh,VR (pl W) m sh (.bs true n (xs.map encα)) v:=by
 rcases DataW.trod_slice ht h with ⟨rfl,hx⟩ | ⟨a,len,cap,elems,rest,k,_,rfl,hx,hb,hl,hm,hlen,hels,_,_⟩
 ·refine ⟨[],_,rfl,by simp,by simp,fun m sh=>?_⟩
  simp only [VR]
  exact ⟨none,0,rfl,Nat.le_refl _,(fun e he=>by cases he),.inl rfl⟩
 ·have each:∀ i,i<len→∃ x:α,ok x∧W.cells? 0 (a.add (i*n)) n=some (encα x):=by
   intro i hi
   have h1:=hels i hi
   rw [List.getElem?_eq_getElem (by omega),hc,Option.bind_eq_some_iff] at h1
   obtain ⟨cs',h2,h3⟩:=h1
   obtain ⟨x,rfl,hx⟩:=hel _ _ _ h3
   exact ⟨x,hx,h2⟩
  have hlist:∀ k,k≤len→∃ xs:List α,xs.length=k∧(∀ x∈xs,ok x)∧∀ i x,xs[i]?=some x→W.cells? 0 (a.add (i*n)) n=some (encα x):=by
   intro k
   induction k with
   | zero=>intro _;exact ⟨[],rfl,by simp,by simp⟩
   | succ k ih =>
    intro hk
    obtain ⟨xs,h1,h2,h3⟩:=ih (by omega)
    obtain ⟨x,hx1,hx2⟩:=each k (by omega)
    refine ⟨xs++[x],by simp [h1],fun y hy=>?_,fun i y hi=>?_⟩
    ·rcases List.mem_append.1 hy with hy | hy
     ·exact h2 y hy
     ·simp at hy;subst hy;exact hx1
    ·by_cases hik:i<k
     ·rw [List.getElem?_append_left (by omega)] at hi
      exact h3 i y hi
     ·rw [List.getElem?_append_right (by omega)] at hi
      have hi0:i - xs.length=0:=by
       by_cases e:i - xs.length=0
       ·exact e
       ·rw [List.getElem?_eq_none (by simp;omega)] at hi;cases hi
      rw [hi0] at hi
      simp at hi
      subst hi
      have:i=k:=by omega
      subst this
      exact hx2
  obtain ⟨xs,h1,h2,h3⟩:=hlist len (Nat.le_refl _)
  have hml:maxLen≤9223372036854775807:=by decide
  refine ⟨xs,_,rfl,h2,by omega,fun m sh=>?_⟩
  simp only [VR]
  refine ⟨some a,cap,by rw [List.length_map,h1],by rw [List.length_map,h1];exact hl,fun e he=>?_,?_⟩
  ·obtain ⟨x,_,rfl⟩:=List.mem_map.1 he
   exact hone x
  ·by_cases h0:len=0
   ·left
    have:xs=[]:=List.length_eq_zero_iff.1 (by omega)
    rw [this];rfl
   ·right
    obtain ⟨b,off,spot⟩:=a
    have hx0:∃ x0,xs[0]?=some x0:=⟨xs[0],List.getElem?_eq_getElem (by omega)⟩
    obtain ⟨x0,hx0⟩:=hx0
    obtain ⟨_,g1,g2⟩:=World.cells?_some (h3 0 x0 hx0)
    have c0:=g2 0 hn
    have hspot:spot=none:=by
     have e1:∃ v,(encα x0)[0]?=some v:=⟨(encα x0)[0]'(by rw [(hone x0).1];exact hn),List.getElem?_eq_getElem _⟩
     obtain ⟨v,e1⟩:=e1
     rw [e1] at c0
     simpa [Addr.add] using World.cell?_spot c0
    subst hspot
    have hC:∃ C E fz,W.heap[b]?=some (.cells C E fz):=by
     have e1:∃ v,(encα x0)[0]?=some v:=⟨(encα x0)[0]'(by rw [(hone x0).1];exact hn),List.getElem?_eq_getElem _⟩
     obtain ⟨v,e1⟩:=e1
     rw [e1] at c0
     simp only [World.cell?,Addr.add_lit] at c0
     split at c0
     ·rename_i C E fz hh;exact ⟨C,E,fz,hh⟩
     ·cases c0
    obtain ⟨C,E,fz,hh⟩:=hC
    refine ⟨b,off,rfl,?_,C,E,fz,hh,fun i e hi j x hj=>?_⟩
    ·show b<W.heap.size
     have:MemPlace.cell b off∈p:=by
      simp only [Prod.mk.injEq] at hx
      rw [hx.2]
      refine List.mem_append_left _ (MemPlace.mem_row.2 ⟨0,?_,by simp⟩)
      rw [hlen,hc]
      exact Nat.mul_pos (by omega) hn
     exact hlt _ this
    ·simp only [List.getElem?_map,Option.map_eq_some_iff] at hi
     obtain ⟨z,hz,rfl⟩:=hi
     obtain ⟨_,g1,g2⟩:=World.cells?_some (h3 i z hz)
     have hj':j<n:=by
      have:=(List.getElem?_eq_some_iff.1 hj).1
      rw [(hone z).1] at this;exact this
     have:=g2 j hj'
     rw [hj] at this
     rw [Addr.add_lit,Addr.add_lit,cell_of_row W b _ C E fz hh] at this
     exact this

end
end Go.Eng
