/- What is proved here: each function keeps to its model, whatever its arguments, wherever the model has an answer. Printed by gen.py. -/
import Derived.Test.YtdnlgpmmkchopaaGreatDoorCExactRunDeskModels
import Derived.Test.YtdnlgpmmkchopaaGreatDoorProg
import Derived.Test.YtdnlgpmmkchopaaGreatDoorCExactRunDeskShelf
import Derived.KernelRfl
set_option linter.unusedVariables false
set_option linter.unusedSimpArgs false
namespace Go.Eng
open Go Go.Proofs

theorem mixed:Tryz.prog.follows .mixedOrders=true:=by kernel_rfl

theorem ot (p1:List ByteArray) (n:Nat) (g:Int×Int) (out:Unit ⊕ Int) (h:cg p1 n g.1 g.2=some out) :
  AX Tryz.prog 28 0 (codeAt [1,1,1,0,1,1] (aU Tryz.f9)) ((fun g:Int×Int=>(⟨[(0,.bs true 1 (List.map ab p1)),(1,vi g.1),(5,vi g.2)],[]⟩:S)) g) (fun ex s=>(∃ o:Unit,out=Sum.inl o∧ex=.ret∧s=⟨[(4,vi (-1))],[]⟩)∨(∃ o:Int,out=Sum.inr o∧ex=.exit 0∧s=⟨[(1,vi o)],[]⟩)):=by
 refine AX.wkpost ?_
 refine AX.loop (G:=Nat×(Int×Int)) (fun q=>(fun g:Int×Int=>(⟨[(0,.bs true 1 (List.map ab p1)),(1,vi g.1),(5,vi g.2)],[]⟩:S)) q.2) (fun q=>cg p1 q.1 q.2.1 q.2.2=some out) (fun q=>q.1) (n,g) h (Wk.refl _) ?_
 clear h
 rintro ⟨fu,v3,v4⟩ h
 cases fu with
 | zero=>cases h
 | succ fu =>
  rw [cg] at h
  refine AX.seq ?_
  refine AX.si [aN,aN,aY (vi (p1.length:Int))] [0,1,5,15] [] ⟨[(0,.bs true 1 (List.map ab p1)),(1,vi v3),(5,vi v4),(15,vb (decide (v4<(p1.length:Int))))],[]⟩ (pa (⟨trivial,aS ab p1⟩:(True∧(vi ((List.map ab p1).length:Int)=vi (p1.length:Int)))) <| trivial) trivial ?_
  rcases ac (decide (v4<(p1.length:Int))) with b2 | b2
  ·replace h:=am b2 h
   refine AX.cT (decide (v4<(p1.length:Int))) b2 ?_
   refine AX.skip ?_
   refine AX.seq ?_
   refine AX.block ?_
   refine AX.seq ?_
   obtain ⟨g3,h⟩:=aw h
   refine AX.rh [aN,aN,aN,aY (.be 1 (ab (gt p1 v4)) 0),aN,aN,.auto { raw:=true }] [0,1,5] [] ⟨[(0,.bs true 1 (List.map ab p1)),(1,vi (IntKind.wrap .i64 (v3 - ((gt p1 v4).size:Int)))),(5,vi v4)],[]⟩ (pa (aJ ab p1 v4 1 g3) <| trivial) trivial ?_
   refine AX.seq ?_
   obtain ⟨v5,q4,h⟩:=bT h
   refine AX.rh [aN,aY (vb v5)] [0,1,5,26] [] ⟨[(0,.bs true 1 (List.map ab p1)),(1,vi (IntKind.wrap .i64 (v3 - ((gt p1 v4).size:Int)))),(5,vi v4),(26,vb v5)],[]⟩ (pa (pb (cb q4)) <| trivial) trivial ?_
   rcases ac (v5) with b5 | b5
   ·replace h:=am b5 h
    refine AX.cT (v5) b5 ?_
    refine AX.si [] [4] [] ⟨[(4,vi (-1))],[]⟩ trivial trivial ?_
    refine AX.ret ?_
    refine ae (Wk.fg [4] [] ⟨[(4,vi (-1))],[]⟩) ?_
    have hr:=Option.some.inj h
    subst hr
    exact ⟨_,Wk.refl _,.inl ⟨(),rfl,rfl,rfl⟩⟩
   ·replace h:=aq b5 h
    refine AX.cF (v5) b5 ?_
    refine AX.skip ?_
    refine AX.rh [aN,.auto { raw:=true }] [0,1,5] [] ⟨[(0,.bs true 1 (List.map ab p1)),(1,vi (IntKind.wrap .i64 (v3 - ((gt p1 v4).size:Int)))),(5,vi (IntKind.wrap .i64 (v4+1)))],[]⟩ trivial trivial ?_
    refine ⟨(fu,(IntKind.wrap .i64 (v3 - ((gt p1 v4).size:Int)),IntKind.wrap .i64 (v4+1))),h,Nat.lt_succ_self _,?_⟩
    refine Wk.trans (Wk.fg [0,1,5] [] ⟨[(0,.bs true 1 (List.map ab p1)),(1,vi (IntKind.wrap .i64 (v3 - ((gt p1 v4).size:Int)))),(5,vi (IntKind.wrap .i64 (v4+1)))],[]⟩) ?_
    exact Wk.refl _
  ·replace h:=aq b2 h
   refine AX.cF (decide (v4<(p1.length:Int))) b2 ?_
   refine AX.exit ?_
   refine ae (Wk.fg [1] [] ⟨[(1,vi v3)],[]⟩) ?_
   have hr:=Option.some.inj h
   subst hr
   exact ⟨_,Wk.refl _,.inr ⟨v3,rfl,rfl,rfl⟩⟩

theorem rL (p1:List ByteArray) (p2:Int) (r:Int) (h:fS p1 p2=some r) :
  Eng.al Tryz.prog 9 [.bs true 1 (List.map ab p1),vi p2] [] (vi r) []:=by
 unfold fS at h
 refine Eng.al.body Tryz.func9 (by kernel_rfl) rfl (by kernel_rfl) ?_
 refine AX.wkpost ?_
 refine AX.si [] [0,1] [] ⟨[(0,.bs true 1 (List.map ab p1)),(1,vi p2)],[]⟩ trivial trivial ?_
 refine AX.si [aN,aN,aY (vi (p1.length:Int)),.auto { raw:=true }] [0,1] [] ⟨[(0,.bs true 1 (List.map ab p1)),(1,vi (IntKind.wrap .i64 (p2 - (p1.length:Int))))],[]⟩ (pa (⟨trivial,aS ab p1⟩:(True∧(vi ((List.map ab p1).length:Int)=vi (p1.length:Int)))) <| trivial) trivial ?_
 refine AX.seq ?_
 refine AX.si [] [0,1,11] [] ⟨[(0,.bs true 1 (List.map ab p1)),(1,vi (IntKind.wrap .i64 (p2 - (p1.length:Int)))),(11,vb (decide ((IntKind.wrap .i64 (p2 - (p1.length:Int)))<0)))],[]⟩ trivial trivial ?_
 rcases ac (decide ((IntKind.wrap .i64 (p2 - (p1.length:Int)))<0)) with b1 | b1
 ·replace h:=am b1 h
  refine AX.cT (decide ((IntKind.wrap .i64 (p2 - (p1.length:Int)))<0)) b1 ?_
  refine AX.si [] [4] [] ⟨[(4,vi (-1))],[]⟩ trivial trivial ?_
  refine AX.ret ?_
  refine ae (Wk.fg [4] [] ⟨[(4,vi (-1))],[]⟩) ?_
  have hr:=Option.some.inj h
  subst hr
  exact ⟨_,Wk.refl _,.inr rfl,⟨[],by kernel_rfl,trivial,[vi (-1)],by kernel_rfl,by kernel_rfl⟩⟩
 ·replace h:=aq b1 h
  refine AX.cF (decide ((IntKind.wrap .i64 (p2 - (p1.length:Int)))<0)) b1 ?_
  refine AX.skip ?_
  refine AX.seq ?_
  refine AX.si [] [0,1,5] [] ⟨[(0,.bs true 1 (List.map ab p1)),(1,vi (IntKind.wrap .i64 (p2 - (p1.length:Int)))),(5,vi 0)],[]⟩ trivial trivial ?_
  refine AX.block ?_
  obtain ⟨x6,e6,h⟩:=ak h
  refine AX.wk (Wk.fg [0,1,5] [] ⟨[(0,.bs true 1 (List.map ab p1)),(1,vi (IntKind.wrap .i64 (p2 - (p1.length:Int)))),(5,vi 0)],[]⟩) ?_
  refine AX.mono (ot p1 FU (IntKind.wrap .i64 (p2 - (p1.length:Int)),0) x6 e6) ?_
  rintro _ _ (⟨x7,rfl,rfl,rfl⟩ | ⟨x8,rfl,rfl,rfl⟩)
  ·replace h:=eL h
   refine ae (Wk.fg [4] [] ⟨[(4,vi (-1))],[]⟩) ?_
   have hr:=Option.some.inj h
   subst hr
   exact ⟨_,Wk.refl _,.inr rfl,⟨[],by kernel_rfl,trivial,[vi (-1)],by kernel_rfl,by kernel_rfl⟩⟩
  ·replace h:=eU h
   refine AX.si [] [4] [] ⟨[(4,vi x8)],[]⟩ trivial trivial ?_
   refine AX.ret ?_
   refine ae (Wk.fg [4] [] ⟨[(4,vi x8)],[]⟩) ?_
   have hr:=Option.some.inj h
   subst hr
   exact ⟨_,Wk.refl _,.inr rfl,⟨[],by kernel_rfl,trivial,[vi x8],by kernel_rfl,by kernel_rfl⟩⟩

theorem oG (p1:List ByteArray) (n:Nat) (g:List ByteArray×Int) (out:List ByteArray) (h:cv p1 n g.1 g.2=some out) :
  AX Tryz.prog 22 0 (codeAt [1,1,0,1,1] (aU Tryz.f10)) ((fun g:List ByteArray×Int=>(⟨[(0,.bs true 1 (List.map ab p1)),(3,.sl 0 0 g.1.length),(4,vi g.2)],[(0,.arr 1 (List.map ab g.1))]⟩:S)) g) (fun ex s=>ex=.exit 0∧s=(fun o:List ByteArray=>(⟨[(3,.sl 0 0 o.length)],[(0,.arr 1 (List.map ab o))]⟩:S)) out):=by
 refine AX.wkpost ?_
 refine AX.loop (G:=Nat×(List ByteArray×Int)) (fun q=>(fun g:List ByteArray×Int=>(⟨[(0,.bs true 1 (List.map ab p1)),(3,.sl 0 0 g.1.length),(4,vi g.2)],[(0,.arr 1 (List.map ab g.1))]⟩:S)) q.2) (fun q=>cv p1 q.1 q.2.1 q.2.2=some out) (fun q=>q.1) (n,g) h (Wk.refl _) ?_
 clear h
 rintro ⟨fu,v2,v3⟩ h
 cases fu with
 | zero=>cases h
 | succ fu =>
  rw [cv] at h
  refine AX.seq ?_
  refine AX.si [aN,aN,aY (vi (p1.length:Int))] [0,3,4,11] [0] ⟨[(0,.bs true 1 (List.map ab p1)),(3,.sl 0 0 v2.length),(4,vi v3),(11,vb (decide (v3<(p1.length:Int))))],[(0,.arr 1 (List.map ab v2))]⟩ (pa (⟨trivial,aS ab p1⟩:(True∧(vi ((List.map ab p1).length:Int)=vi (p1.length:Int)))) <| trivial) trivial ?_
  rcases ac (decide (v3<(p1.length:Int))) with b2 | b2
  ·replace h:=am b2 h
   refine AX.cT (decide (v3<(p1.length:Int))) b2 ?_
   refine AX.skip ?_
   refine AX.seq ?_
   refine AX.block ?_
   obtain ⟨g3,h⟩:=aw h
   obtain ⟨g4,h⟩:=aw h
   refine AX.rh [aN,aN,aN,aN,aY (.be 1 (ab (gt p1 v3)) 0)] [0,3,4] [0] ⟨[(0,.bs true 1 (List.map ab p1)),(3,.sl 0 0 v2.length),(4,vi v3)],[(0,.arr 1 ((List.map ab v2).set (0+v3.toNat) [(.string (gt p1 v3))]))]⟩ (pa (aJ ab p1 v3 1 g3) <| pa g4 <| trivial) trivial ?_
   refine AX.rh [aN,.auto { raw:=true }] [0,3,4] [0] ⟨[(0,.bs true 1 (List.map ab p1)),(3,.sl 0 0 v2.length),(4,vi (IntKind.wrap .i64 (v3+1)))],[(0,.arr 1 ((List.map ab v2).set (0+v3.toNat) [(.string (gt p1 v3))]))]⟩ trivial trivial ?_
   refine ⟨(fu,(v2.set (0+v3.toNat) (gt p1 v3),IntKind.wrap .i64 (v3+1))),h,Nat.lt_succ_self _,?_⟩
   refine Wk.trans (Wk.fg [0,3,4] [0] ⟨[(0,.bs true 1 (List.map ab p1)),(3,.sl 0 0 v2.length),(4,vi (IntKind.wrap .i64 (v3+1)))],[(0,.arr 1 ((List.map ab v2).set (0+v3.toNat) [(.string (gt p1 v3))]))]⟩) ?_
   refine Wk.trans (Wk.of_eq (congrArg (fun z=>(⟨[(0,.bs true 1 (List.map ab p1)),(3,.sl 0 0 v2.length),(4,vi (IntKind.wrap .i64 (v3+1)))],[(0,.arr 1 (z))]⟩:S)) (pR (enc:=ab) rfl (0+v3.toNat) (gt p1 v3)))) ?_
   refine Wk.trans (Wk.of_eq (congrArg (fun z=>(⟨[(0,.bs true 1 (List.map ab p1)),(3,.sl 0 0 z),(4,vi (IntKind.wrap .i64 (v3+1)))],[(0,.arr 1 (List.map ab (v2.set (0+v3.toNat) (gt p1 v3))))]⟩:S)) (pL ((rfl:v2.length=v2.length)) (0+v3.toNat) (gt p1 v3)))) ?_
   exact Wk.refl _
  ·replace h:=aq b2 h
   refine AX.cF (decide (v3<(p1.length:Int))) b2 ?_
   refine AX.exit ?_
   refine ae (Wk.fg [3] [0] ⟨[(3,.sl 0 0 v2.length)],[(0,.arr 1 (List.map ab v2))]⟩) ?_
   have hr:=Option.some.inj h
   subst hr
   exact ⟨_,Wk.refl _,⟨rfl,rfl⟩⟩

theorem jB (p1:List ByteArray) (r:List ByteArray) (h:dO p1=some r) :
  Eng.al Tryz.prog 10 [.bs true 1 (List.map ab p1)] [] (.sl 0 0 r.length) [.arr 1 (List.map ab r)]:=by
 unfold dO at h
 refine Eng.al.body Tryz.func10 (by kernel_rfl) rfl (by kernel_rfl) ?_
 refine AX.wkpost ?_
 refine AX.si [] [0] [] ⟨[(0,.bs true 1 (List.map ab p1))],[]⟩ trivial trivial ?_
 refine AX.seq ?_
 obtain ⟨g1,h⟩:=aw h
 refine AX.rh [aN,aY (vi (p1.length:Int)),.auto { y:=some (.sl 0 0 ((List.replicate (p1.length:Int).toNat (ByteArray.empty:ByteArray)).length)),nk:=0 }] [0,3] [0] ⟨[(0,.bs true 1 (List.map ab p1)),(3,.sl 0 0 ((List.replicate (p1.length:Int).toNat (ByteArray.empty:ByteArray)).length))],[(0,.arr 1 (List.replicate (p1.length:Int).toNat (ab (ByteArray.empty:ByteArray))))]⟩ (pa (⟨trivial,aS ab p1⟩:(True∧(vi ((List.map ab p1).length:Int)=vi (p1.length:Int)))) <| pa (⟨g1,cj (enc:=ab) (pM (p1.length:Int).toNat (ByteArray.empty:ByteArray))⟩:((0≤(p1.length:Int)∧(p1.length:Int)=(p1.length:Int)∧(16:Int)*(p1.length:Int)≤281474976710656∧(p1.length:Int)≤9223372036854775807)∧(AV.sl 0 0 (List.replicate (p1.length:Int).toNat (ab (ByteArray.empty:ByteArray))).length=AV.sl 0 0 (List.replicate (p1.length:Int).toNat (ByteArray.empty:ByteArray)).length))) <| trivial) trivial ?_
 refine AX.seq ?_
 refine AX.si [] [0,3,4] [0] ⟨[(0,.bs true 1 (List.map ab p1)),(3,.sl 0 0 ((List.replicate (p1.length:Int).toNat (ByteArray.empty:ByteArray)).length)),(4,vi 0)],[(0,.arr 1 (List.replicate (p1.length:Int).toNat (ab (ByteArray.empty:ByteArray))))]⟩ trivial trivial ?_
 refine AX.block ?_
 obtain ⟨x4,e5,h⟩:=ak h
 refine AX.wk (Wk.fg [0,3,4] [0] ⟨[(0,.bs true 1 (List.map ab p1)),(3,.sl 0 0 ((List.replicate (p1.length:Int).toNat (ByteArray.empty:ByteArray)).length)),(4,vi 0)],[(0,.arr 1 (List.replicate (p1.length:Int).toNat (ab (ByteArray.empty:ByteArray))))]⟩) ?_
 refine AX.wk (Wk.of_eq (congrArg (fun z=>(⟨[(0,.bs true 1 (List.map ab p1)),(3,.sl 0 0 ((List.replicate (p1.length:Int).toNat (ByteArray.empty:ByteArray)).length)),(4,vi 0)],[(0,.arr 1 (z))]⟩:S)) (pM (enc:=ab) (p1.length:Int).toNat (ByteArray.empty:ByteArray)))) ?_
 refine AX.mono (oG p1 FU (List.replicate (p1.length:Int).toNat (ByteArray.empty:ByteArray),0) x4 e5) ?_
 rintro _ _ ⟨rfl,rfl⟩
 skip
 refine AX.si [] [2] [0] ⟨[(2,.sl 0 0 x4.length)],[(0,.arr 1 (List.map ab x4))]⟩ trivial trivial ?_
 refine AX.ret ?_
 refine ae (Wk.fg [2] [0] ⟨[(2,.sl 0 0 x4.length)],[(0,.arr 1 (List.map ab x4))]⟩) ?_
 have hr:=Option.some.inj h
 subst hr
 exact ⟨_,Wk.refl _,.inr rfl,⟨[0],by kernel_rfl,⟨rfl,trivial⟩,[.sl 0 0 x4.length],by kernel_rfl,by kernel_rfl⟩⟩

theorem qk (p1:ByteArray) (p2:Int) (n:Nat) (g:List ByteArray×Int×Int) (out:List ByteArray×Int) (h:ch p1 p2 n g.1 g.2.1 g.2.2=some out) :
  AX Tryz.prog 35 0 (codeAt [1,1,1,0,1,1] (aU Tryz.f48)) ((fun g:List ByteArray×Int×Int=>(⟨[(0,vs p1),(1,.v (.int .u8 p2)),(5,.sl 0 0 g.1.length),(6,vi g.2.1),(7,vi g.2.2)],[(0,.arr 1 (List.map ab g.1))]⟩:S)) g) (fun ex s=>ex=.exit 0∧s=(fun o:List ByteArray×Int=>(⟨[(0,vs p1),(5,.sl 0 0 o.1.length),(6,vi o.2)],[(0,.arr 1 (List.map ab o.1))]⟩:S)) out):=by
 refine AX.wkpost ?_
 refine AX.loop (G:=Nat×(List ByteArray×Int×Int)) (fun q=>(fun g:List ByteArray×Int×Int=>(⟨[(0,vs p1),(1,.v (.int .u8 p2)),(5,.sl 0 0 g.1.length),(6,vi g.2.1),(7,vi g.2.2)],[(0,.arr 1 (List.map ab g.1))]⟩:S)) q.2) (fun q=>ch p1 p2 q.1 q.2.1 q.2.2.1 q.2.2.2=some out) (fun q=>q.1) (n,g) h (Wk.refl _) ?_
 clear h
 rintro ⟨fu,v3,v4,v5⟩ h
 cases fu with
 | zero=>cases h
 | succ fu =>
  rw [ch] at h
  refine AX.seq ?_
  refine AX.si [] [0,1,5,6,7,12] [0] ⟨[(0,vs p1),(1,.v (.int .u8 p2)),(5,.sl 0 0 v3.length),(6,vi v4),(7,vi v5),(12,vb (decide (v5<(p1.size:Int))))],[(0,.arr 1 (List.map ab v3))]⟩ trivial trivial ?_
  rcases ac (decide (v5<(p1.size:Int))) with b1 | b1
  ·replace h:=am b1 h
   refine AX.cT (decide (v5<(p1.size:Int))) b1 ?_
   refine AX.skip ?_
   refine AX.seq ?_
   refine AX.block ?_
   refine AX.seq ?_
   obtain ⟨g2,h⟩:=aw h
   refine AX.rh [] [0,1,5,6,7,19] [0] ⟨[(0,vs p1),(1,.v (.int .u8 p2)),(5,.sl 0 0 v3.length),(6,vi v4),(7,vi v5),(19,vb (decide ((aC p1 v5.toNat)=p2)))],[(0,.arr 1 (List.map ab v3))]⟩ (pa g2 <| trivial) trivial ?_
   rcases ac (decide ((aC p1 v5.toNat)=p2)) with b3 | b3
   ·replace h:=am b3 h
    refine AX.cT (decide ((aC p1 v5.toNat)=p2)) b3 ?_
    refine AX.seq ?_
    obtain ⟨g4,h⟩:=aw h
    obtain ⟨g5,h⟩:=aw h
    refine AX.rh [aN,aN,aN,aN,aN,.auto { nk:=1 },.auto { y:=some (.sl 2 0 ((v3++([p1.extract v4.toNat v5.toNat]:List ByteArray)).length)),els:=some (List.map ab v3),els2:=some (List.map ab ([p1.extract v4.toNat v5.toNat]:List ByteArray)),nk:=2 }] [0,1,5,7] [2] ⟨[(0,vs p1),(1,.v (.int .u8 p2)),(5,.sl 2 0 ((v3++([p1.extract v4.toNat v5.toNat]:List ByteArray)).length)),(7,vi v5)],[(2,.arr 1 (List.map ab v3++List.map ab ([p1.extract v4.toNat v5.toNat]:List ByteArray)))]⟩ (pa g4 <| pa (⟨⟨⟨(bc (enc:=ab) rfl rfl),(bc (enc:=ab) rfl rfl)⟩,(by simp only [List.length_map,List.length_nil,List.length_replicate];simpa using g5)⟩,cj (enc:=ab) (aH (enc:=ab) rfl (rfl))⟩:((((((List.map ab v3).drop 0).take (v3.length)=List.map ab v3)∧(((List.map ab ([p1.extract v4.toNat v5.toNat]:List ByteArray)).drop 0).take (([p1.extract v4.toNat v5.toNat]:List ByteArray).length)=List.map ab ([p1.extract v4.toNat v5.toNat]:List ByteArray)))∧(List.map ab v3).length+(List.map ab ([p1.extract v4.toNat v5.toNat]:List ByteArray)).length≤1099511627776)∧(AV.sl 2 0 (List.map ab v3++List.map ab ([p1.extract v4.toNat v5.toNat]:List ByteArray)).length=AV.sl 2 0 (v3++([p1.extract v4.toNat v5.toNat]:List ByteArray)).length))) <| trivial) trivial ?_
    refine AX.rh [aN,.auto { raw:=true }] [0,1,5,6,7] [2] ⟨[(0,vs p1),(1,.v (.int .u8 p2)),(5,.sl 2 0 ((v3++([p1.extract v4.toNat v5.toNat]:List ByteArray)).length)),(6,vi (IntKind.wrap .i64 (v5+1))),(7,vi v5)],[(2,.arr 1 (List.map ab v3++List.map ab ([p1.extract v4.toNat v5.toNat]:List ByteArray)))]⟩ trivial trivial ?_
    refine AX.rh [aN,.auto { raw:=true }] [0,1,5,6,7] [2] ⟨[(0,vs p1),(1,.v (.int .u8 p2)),(5,.sl 2 0 ((v3++([p1.extract v4.toNat v5.toNat]:List ByteArray)).length)),(6,vi (IntKind.wrap .i64 (v5+1))),(7,vi (IntKind.wrap .i64 (v5+1)))],[(2,.arr 1 (List.map ab v3++List.map ab ([p1.extract v4.toNat v5.toNat]:List ByteArray)))]⟩ trivial trivial ?_
    refine ⟨(fu,(v3++([p1.extract v4.toNat v5.toNat]:List ByteArray),IntKind.wrap .i64 (v5+1),IntKind.wrap .i64 (v5+1))),h,Nat.lt_succ_self _,?_⟩
    refine Wk.trans (Wk.swap 0 2 (Nat.le_of_ble_eq_true (by kernel_rfl)) (Nat.le_of_ble_eq_true (by kernel_rfl)) rfl) ?_
    refine Wk.trans (Wk.fg [0,1,5,6,7] [0] ⟨[(0,vs p1),(1,.v (.int .u8 p2)),(5,.sl 0 0 ((v3++([p1.extract v4.toNat v5.toNat]:List ByteArray)).length)),(6,vi (IntKind.wrap .i64 (v5+1))),(7,vi (IntKind.wrap .i64 (v5+1)))],[(0,.arr 1 (List.map ab v3++List.map ab ([p1.extract v4.toNat v5.toNat]:List ByteArray)))]⟩) ?_
    refine Wk.trans (Wk.of_eq (congrArg (fun z=>(⟨[(0,vs p1),(1,.v (.int .u8 p2)),(5,.sl 0 0 ((v3++([p1.extract v4.toNat v5.toNat]:List ByteArray)).length)),(6,vi (IntKind.wrap .i64 (v5+1))),(7,vi (IntKind.wrap .i64 (v5+1)))],[(0,.arr 1 (z))]⟩:S)) (aH (enc:=ab) rfl (rfl):List.map ab v3++List.map ab ([p1.extract v4.toNat v5.toNat]:List ByteArray)=List.map ab (v3++([p1.extract v4.toNat v5.toNat]:List ByteArray))))) ?_
    exact Wk.refl _
   ·replace h:=aq b3 h
    refine AX.cF (decide ((aC p1 v5.toNat)=p2)) b3 ?_
    refine AX.skip ?_
    refine AX.rh [aN,.auto { raw:=true }] [0,1,5,6,7] [0] ⟨[(0,vs p1),(1,.v (.int .u8 p2)),(5,.sl 0 0 v3.length),(6,vi v4),(7,vi (IntKind.wrap .i64 (v5+1)))],[(0,.arr 1 (List.map ab v3))]⟩ trivial trivial ?_
    refine ⟨(fu,(v3,v4,IntKind.wrap .i64 (v5+1))),h,Nat.lt_succ_self _,?_⟩
    refine Wk.trans (Wk.fg [0,1,5,6,7] [0] ⟨[(0,vs p1),(1,.v (.int .u8 p2)),(5,.sl 0 0 v3.length),(6,vi v4),(7,vi (IntKind.wrap .i64 (v5+1)))],[(0,.arr 1 (List.map ab v3))]⟩) ?_
    exact Wk.refl _
  ·replace h:=aq b1 h
   refine AX.cF (decide (v5<(p1.size:Int))) b1 ?_
   refine AX.exit ?_
   refine ae (Wk.fg [0,5,6] [0] ⟨[(0,vs p1),(5,.sl 0 0 v3.length),(6,vi v4)],[(0,.arr 1 (List.map ab v3))]⟩) ?_
   have hr:=Option.some.inj h
   subst hr
   exact ⟨_,Wk.refl _,⟨rfl,rfl⟩⟩

theorem iO (p1:ByteArray) (p2:Int) (r:List ByteArray) (h:cm p1 p2=some r) :
  Eng.al Tryz.prog 48 [vs p1,.v (.int .u8 p2)] [] (.sl 0 0 r.length) [.arr 1 (List.map ab r)]:=by
 unfold cm at h
 refine Eng.al.body Tryz.func48 (by kernel_rfl) rfl (by kernel_rfl) ?_
 refine AX.wkpost ?_
 refine AX.si [] [0,1] [] ⟨[(0,vs p1),(1,.v (.int .u8 p2))],[]⟩ trivial trivial ?_
 refine AX.si [.auto { nk:=0 }] [0,1,5] [0] ⟨[(0,vs p1),(1,.v (.int .u8 p2)),(5,.sl 0 0 (([]:List ByteArray).length))],[(0,.arr 1 (List.map ab ([]:List ByteArray)))]⟩ trivial trivial ?_
 refine AX.si [] [0,1,5,6] [0] ⟨[(0,vs p1),(1,.v (.int .u8 p2)),(5,.sl 0 0 (([]:List ByteArray).length)),(6,vi 0)],[(0,.arr 1 (List.map ab ([]:List ByteArray)))]⟩ trivial trivial ?_
 refine AX.seq ?_
 refine AX.si [] [0,1,5,6,7] [0] ⟨[(0,vs p1),(1,.v (.int .u8 p2)),(5,.sl 0 0 (([]:List ByteArray).length)),(6,vi 0),(7,vi 0)],[(0,.arr 1 (List.map ab ([]:List ByteArray)))]⟩ trivial trivial ?_
 refine AX.block ?_
 obtain ⟨x6,e6,h⟩:=ak h
 refine AX.wk (Wk.fg [0,1,5,6,7] [0] ⟨[(0,vs p1),(1,.v (.int .u8 p2)),(5,.sl 0 0 (([]:List ByteArray).length)),(6,vi 0),(7,vi 0)],[(0,.arr 1 (List.map ab ([]:List ByteArray)))]⟩) ?_
 refine AX.mono (qk p1 p2 FU (([]:List ByteArray),0,0) x6 e6) ?_
 rintro _ _ ⟨rfl,rfl⟩
 skip
 refine AX.seq ?_
 obtain ⟨g7,h⟩:=aw h
 obtain ⟨g8,h⟩:=aw h
 refine AX.rh [aN,aN,aN,aN,.auto { nk:=1 },.auto { y:=some (.sl 2 0 ((x6.1++([p1.extract x6.2.toNat (p1.size:Int).toNat]:List ByteArray)).length)),els:=some (List.map ab x6.1),els2:=some (List.map ab ([p1.extract x6.2.toNat (p1.size:Int).toNat]:List ByteArray)),nk:=2 }] [4] [2] ⟨[(4,.sl 2 0 ((x6.1++([p1.extract x6.2.toNat (p1.size:Int).toNat]:List ByteArray)).length))],[(2,.arr 1 (List.map ab x6.1++List.map ab ([p1.extract x6.2.toNat (p1.size:Int).toNat]:List ByteArray)))]⟩ (pa g7 <| pa (⟨⟨⟨(bc (enc:=ab) rfl rfl),(bc (enc:=ab) rfl rfl)⟩,(by simp only [List.length_map,List.length_nil,List.length_replicate];simpa using g8)⟩,cj (enc:=ab) (aH (enc:=ab) rfl (rfl))⟩:((((((List.map ab x6.1).drop 0).take (x6.1.length)=List.map ab x6.1)∧(((List.map ab ([p1.extract x6.2.toNat (p1.size:Int).toNat]:List ByteArray)).drop 0).take (([p1.extract x6.2.toNat (p1.size:Int).toNat]:List ByteArray).length)=List.map ab ([p1.extract x6.2.toNat (p1.size:Int).toNat]:List ByteArray)))∧(List.map ab x6.1).length+(List.map ab ([p1.extract x6.2.toNat (p1.size:Int).toNat]:List ByteArray)).length≤1099511627776)∧(AV.sl 2 0 (List.map ab x6.1++List.map ab ([p1.extract x6.2.toNat (p1.size:Int).toNat]:List ByteArray)).length=AV.sl 2 0 (x6.1++([p1.extract x6.2.toNat (p1.size:Int).toNat]:List ByteArray)).length))) <| trivial) trivial ?_
 refine AX.ret ?_
 refine ae (Wk.swap 0 2 (Nat.le_of_ble_eq_true (by kernel_rfl)) (Nat.le_of_ble_eq_true (by kernel_rfl)) rfl) ?_
 refine ae (Wk.fg [4] [0] ⟨[(4,.sl 0 0 ((x6.1++([p1.extract x6.2.toNat (p1.size:Int).toNat]:List ByteArray)).length))],[(0,.arr 1 (List.map ab x6.1++List.map ab ([p1.extract x6.2.toNat (p1.size:Int).toNat]:List ByteArray)))]⟩) ?_
 refine ae (Wk.of_eq (congrArg (fun z=>(⟨[(4,.sl 0 0 ((x6.1++([p1.extract x6.2.toNat (p1.size:Int).toNat]:List ByteArray)).length))],[(0,.arr 1 (z))]⟩:S)) (aH (enc:=ab) rfl (rfl):List.map ab x6.1++List.map ab ([p1.extract x6.2.toNat (p1.size:Int).toNat]:List ByteArray)=List.map ab (x6.1++([p1.extract x6.2.toNat (p1.size:Int).toNat]:List ByteArray))))) ?_
 have hr:=Option.some.inj h
 subst hr
 exact ⟨_,Wk.refl _,.inr rfl,⟨[0],by kernel_rfl,⟨rfl,trivial⟩,[.sl 0 0 ((x6.1++([p1.extract x6.2.toNat (p1.size:Int).toNat]:List ByteArray)).length)],by kernel_rfl,by kernel_rfl⟩⟩

theorem s_spec_number:∀ (fu:Nat) (p1:Int) (r:ByteArray) (h:m_spec_number fu p1=some r),
  Eng.al Tryz.prog 53 [vi p1] [] (vs r) []:=by
 intro fu
 induction fu with
 | zero=>intro p1 r h;cases h
 | succ fu ih =>
  intro p1 r h
  rw [m_spec_number] at h
  refine Eng.al.body Tryz.func53 (by kernel_rfl) rfl (by kernel_rfl) ?_
  refine AX.wkpost ?_
  refine AX.si [] [0] [] ⟨[(0,vi p1)],[]⟩ trivial trivial ?_
  refine AX.seq ?_
  refine AX.si [] [0,4] [] ⟨[(0,vi p1),(4,vb (decide (p1<10)))],[]⟩ trivial trivial ?_
  rcases ac (decide (p1<10)) with b1 | b1
  ·replace h:=am b1 h
   refine AX.cT (decide (p1<10)) b1 ?_
   refine AX.seq ?_
   obtain ⟨g2,h⟩:=aw h
   obtain ⟨v2,q3,h⟩:=bT h
   refine AX.rh [aN,aN,.auto { raw:=true },aY (vs v2)] [2] [] ⟨[(2,vs v2)],[]⟩ (pa (⟨g2,(congrArg (fun z=>vs z) q3)⟩:((0≤p1∧p1≤(IntKind.wrap .i64 (p1+1))∧(IntKind.wrap .i64 (p1+1))≤((ByteArray.mk #[48,49,50,51,52,53,54,55,56,57]).size:Int))∧((vs ((ByteArray.mk #[48,49,50,51,52,53,54,55,56,57]).extract p1.toNat (IntKind.wrap .i64 (p1+1)).toNat):AV)=(vs v2:AV)))) <| trivial) trivial ?_
   refine AX.ret ?_
   refine ae (Wk.fg [2] [] ⟨[(2,vs v2)],[]⟩) ?_
   have hr:=Option.some.inj h
   subst hr
   exact ⟨_,Wk.refl _,.inr rfl,⟨[],by kernel_rfl,trivial,[vs v2],by kernel_rfl,by kernel_rfl⟩⟩
  ·replace h:=aq b1 h
   refine AX.cF (decide (p1<10)) b1 ?_
   refine AX.skip ?_
   refine AX.seq ?_
   obtain ⟨g4,h⟩:=aw h
   obtain ⟨x3,e5,h⟩:=ak h
   obtain ⟨g6,h⟩:=aw h
   obtain ⟨x4,e7,h⟩:=ak h
   obtain ⟨g8,h⟩:=aw h
   refine AX.rh [aN,aN,.call 53 [vi (Int.tdiv p1 10)] hN (ah [] [] (vs x3) []),aN,aN,.call 53 [vi (Int.tmod p1 10)] hN (ah [] [] (vs x4) [])] [2] [] ⟨[(2,vs (x3++x4))],[]⟩ (pa g4 <| pa (smA [vi (Int.tdiv p1 10)]) <| pa g6 <| pa (smA [vi (Int.tmod p1 10)]) <| pa g8 <| trivial) ⟨co (ih (Int.tdiv p1 10) x3 e5) (.cons cS (.nil)),co (ih (Int.tmod p1 10) x4 e7) (.cons cS (.nil)),trivial⟩ ?_
   refine AX.ret ?_
   refine ae (Wk.fg [2] [] ⟨[(2,vs (x3++x4))],[]⟩) ?_
   have hr:=Option.some.inj h
   subst hr
   exact ⟨_,Wk.refl _,.inr rfl,⟨[],by kernel_rfl,trivial,[vs (x3++x4)],by kernel_rfl,by kernel_rfl⟩⟩

theorem nS (p1:ByteArray) (n:Nat) (g:Int×Int) (out:Unit ⊕ Int) (h:bX p1 n g.1 g.2=some out) :
  AX Tryz.prog 46 0 (codeAt [1,1,0,1,1] (aU Tryz.f95)) ((fun g:Int×Int=>(⟨[(0,vs p1),(3,vi g.1),(4,vi g.2)],[]⟩:S)) g) (fun ex s=>(∃ o:Unit,out=Sum.inl o∧ex=.ret∧s=⟨[(2,vi (-1))],[]⟩)∨(∃ o:Int,out=Sum.inr o∧ex=.exit 0∧s=⟨[(0,vs p1),(3,vi o)],[]⟩)):=by
 refine AX.wkpost ?_
 refine AX.loop (G:=Nat×(Int×Int)) (fun q=>(fun g:Int×Int=>(⟨[(0,vs p1),(3,vi g.1),(4,vi g.2)],[]⟩:S)) q.2) (fun q=>bX p1 q.1 q.2.1 q.2.2=some out) (fun q=>q.1) (n,g) h (Wk.refl _) ?_
 clear h
 rintro ⟨fu,v2,v3⟩ h
 cases fu with
 | zero=>cases h
 | succ fu =>
  rw [bX] at h
  refine AX.seq ?_
  refine AX.si [] [0,3,4,8] [] ⟨[(0,vs p1),(3,vi v2),(4,vi v3),(8,vb (decide (v3<(p1.size:Int))))],[]⟩ trivial trivial ?_
  rcases ac (decide (v3<(p1.size:Int))) with b1 | b1
  ·replace h:=am b1 h
   refine AX.cT (decide (v3<(p1.size:Int))) b1 ?_
   refine AX.skip ?_
   refine AX.seq ?_
   refine AX.block ?_
   refine AX.seq ?_
   refine AX.seq ?_
   obtain ⟨g2,h⟩:=aw h
   rcases ac (decide ((aC p1 v3.toNat)<48)) with b3 | b3
   ·replace h:=am b3 h
    refine AX.rh [aN,aN,aN,aY (vb true)] [0,3,4,24] [] ⟨[(0,vs p1),(3,vi v2),(4,vi v3),(24,vb true)],[]⟩ (pa g2 <| pa (pb (cb b3)) <| trivial) trivial ?_
    refine AX.cond_true (by kernel_rfl) ?_
    refine AX.si [] [2] [] ⟨[(2,vi (-1))],[]⟩ trivial trivial ?_
    refine AX.ret ?_
    refine ae (Wk.fg [2] [] ⟨[(2,vi (-1))],[]⟩) ?_
    have hr:=Option.some.inj h
    subst hr
    exact ⟨_,Wk.refl _,.inl ⟨(),rfl,rfl,rfl⟩⟩
   ·replace h:=aq b3 h
    rcases ac (decide (57<(aC p1 v3.toNat))) with b4 | b4
    ·replace h:=am b4 h
     refine AX.rh [aN,aN,aN,aY (vb false),aN,aN,aN,aN,aY (vb true)] [0,3,4,24] [] ⟨[(0,vs p1),(3,vi v2),(4,vi v3),(24,vb true)],[]⟩ (pa g2 <| pa (pb (cb b3)) <| pa g2 <| pa (pb (cb b4)) <| trivial) trivial ?_
     refine AX.cond_true (by kernel_rfl) ?_
     refine AX.si [] [2] [] ⟨[(2,vi (-1))],[]⟩ trivial trivial ?_
     refine AX.ret ?_
     refine ae (Wk.fg [2] [] ⟨[(2,vi (-1))],[]⟩) ?_
     have hr:=Option.some.inj h
     subst hr
     exact ⟨_,Wk.refl _,.inl ⟨(),rfl,rfl,rfl⟩⟩
    ·replace h:=aq b4 h
     refine AX.rh [aN,aN,aN,aY (vb false),aN,aN,aN,aN,aY (vb false)] [0,3,4,24] [] ⟨[(0,vs p1),(3,vi v2),(4,vi v3),(24,vb (decide (4095<v2)))],[]⟩ (pa g2 <| pa (pb (cb b3)) <| pa g2 <| pa (pb (cb b4)) <| trivial) trivial ?_
     rcases ac (decide (4095<v2)) with b5 | b5
     ·replace h:=am b5 h
      refine AX.cT (decide (4095<v2)) b5 ?_
      refine AX.si [] [2] [] ⟨[(2,vi (-1))],[]⟩ trivial trivial ?_
      refine AX.ret ?_
      refine ae (Wk.fg [2] [] ⟨[(2,vi (-1))],[]⟩) ?_
      have hr:=Option.some.inj h
      subst hr
      exact ⟨_,Wk.refl _,.inl ⟨(),rfl,rfl,rfl⟩⟩
     ·replace h:=aq b5 h
      refine AX.cF (decide (4095<v2)) b5 ?_
      refine AX.skip ?_
      obtain ⟨v4,q6,h⟩:=bT h
      refine AX.rh [aN,.auto { raw:=true },aN,aN,aN,.auto { raw:=true },.auto { y:=some (vi v4),raw:=true },.auto { raw:=true }] [0,3,4] [] ⟨[(0,vs p1),(3,vi (IntKind.wrap .i64 ((IntKind.wrap .i64 (10*v2))+v4))),(4,vi v3)],[]⟩ (pa g2 <| pa (⟨trivial,(congrArg (fun z=>vi z) q6)⟩:((True)∧((vi (IntKind.wrap .i64 (IntKind.wrap .u8 ((aC p1 v3.toNat) - 48))):AV)=(vi v4:AV)))) <| trivial) trivial ?_
      refine AX.rh [aN,.auto { raw:=true }] [0,3,4] [] ⟨[(0,vs p1),(3,vi (IntKind.wrap .i64 ((IntKind.wrap .i64 (10*v2))+v4))),(4,vi (IntKind.wrap .i64 (v3+1)))],[]⟩ trivial trivial ?_
      refine ⟨(fu,(IntKind.wrap .i64 ((IntKind.wrap .i64 (10*v2))+v4),IntKind.wrap .i64 (v3+1))),h,Nat.lt_succ_self _,?_⟩
      refine Wk.trans (Wk.fg [0,3,4] [] ⟨[(0,vs p1),(3,vi (IntKind.wrap .i64 ((IntKind.wrap .i64 (10*v2))+v4))),(4,vi (IntKind.wrap .i64 (v3+1)))],[]⟩) ?_
      exact Wk.refl _
  ·replace h:=aq b1 h
   refine AX.cF (decide (v3<(p1.size:Int))) b1 ?_
   refine AX.exit ?_
   refine ae (Wk.fg [0,3] [] ⟨[(0,vs p1),(3,vi v2)],[]⟩) ?_
   have hr:=Option.some.inj h
   subst hr
   exact ⟨_,Wk.refl _,.inr ⟨v2,rfl,rfl,rfl⟩⟩

theorem gK (p1:ByteArray) (r:Int) (h:cE p1=some r) :
  Eng.al Tryz.prog 95 [vs p1] [] (vi r) []:=by
 unfold cE at h
 refine Eng.al.body Tryz.func95 (by kernel_rfl) rfl (by kernel_rfl) ?_
 refine AX.wkpost ?_
 refine AX.si [] [0] [] ⟨[(0,vs p1)],[]⟩ trivial trivial ?_
 refine AX.si [] [0,3] [] ⟨[(0,vs p1),(3,vi 0)],[]⟩ trivial trivial ?_
 refine AX.seq ?_
 refine AX.si [] [0,3,4] [] ⟨[(0,vs p1),(3,vi 0),(4,vi 0)],[]⟩ trivial trivial ?_
 refine AX.block ?_
 obtain ⟨x5,e7,h⟩:=ak h
 refine AX.wk (Wk.fg [0,3,4] [] ⟨[(0,vs p1),(3,vi 0),(4,vi 0)],[]⟩) ?_
 refine AX.mono (nS p1 FU (0,0) x5 e7) ?_
 rintro _ _ (⟨x6,rfl,rfl,rfl⟩ | ⟨x7,rfl,rfl,rfl⟩)
 ·replace h:=eL h
  refine ae (Wk.fg [2] [] ⟨[(2,vi (-1))],[]⟩) ?_
  have hr:=Option.some.inj h
  subst hr
  exact ⟨_,Wk.refl _,.inr rfl,⟨[],by kernel_rfl,trivial,[vi (-1)],by kernel_rfl,by kernel_rfl⟩⟩
 ·replace h:=eU h
  refine AX.seq ?_
  refine AX.seq ?_
  rcases ac (decide (p1=ByteArray.empty)) with b8 | b8
  ·replace h:=am b8 h
   refine AX.rh [aN,aY (vb true)] [3,44] [] ⟨[(3,vi x7),(44,vb true)],[]⟩ (pa (pb (cb b8)) <| trivial) trivial ?_
   refine AX.cond_true (by kernel_rfl) ?_
   refine AX.si [] [2] [] ⟨[(2,vi (-1))],[]⟩ trivial trivial ?_
   refine AX.ret ?_
   refine ae (Wk.fg [2] [] ⟨[(2,vi (-1))],[]⟩) ?_
   have hr:=Option.some.inj h
   subst hr
   exact ⟨_,Wk.refl _,.inr rfl,⟨[],by kernel_rfl,trivial,[vi (-1)],by kernel_rfl,by kernel_rfl⟩⟩
  ·replace h:=aq b8 h
   rcases ac (decide (4096<x7)) with b9 | b9
   ·replace h:=am b9 h
    refine AX.rh [aN,aY (vb false),aN,aN,aY (vb true)] [3,44] [] ⟨[(3,vi x7),(44,vb true)],[]⟩ (pa (pb (cb b8)) <| pa (pb (cb b9)) <| trivial) trivial ?_
    refine AX.cond_true (by kernel_rfl) ?_
    refine AX.si [] [2] [] ⟨[(2,vi (-1))],[]⟩ trivial trivial ?_
    refine AX.ret ?_
    refine ae (Wk.fg [2] [] ⟨[(2,vi (-1))],[]⟩) ?_
    have hr:=Option.some.inj h
    subst hr
    exact ⟨_,Wk.refl _,.inr rfl,⟨[],by kernel_rfl,trivial,[vi (-1)],by kernel_rfl,by kernel_rfl⟩⟩
   ·replace h:=aq b9 h
    obtain ⟨x8,e10,h⟩:=ak h
    refine AX.rh [aN,aY (vb false),aN,aN,aY (vb false),aN,aN,aN,.call 53 [vi x7] hN (ah [] [] (vs x8) [])] [3,44] [] ⟨[(3,vi x7),(44,vb (!decide (x8=p1)))],[]⟩ (pa (pb (cb b8)) <| pa (pb (cb b9)) <| pa (smA [vi x7]) <| trivial) ⟨co (s_spec_number FU x7 x8 e10) (.cons cS (.nil)),trivial⟩ ?_
    rcases ac ((!decide (x8=p1))) with b11 | b11
    ·replace h:=am b11 h
     refine AX.cT ((!decide (x8=p1))) b11 ?_
     refine AX.si [] [2] [] ⟨[(2,vi (-1))],[]⟩ trivial trivial ?_
     refine AX.ret ?_
     refine ae (Wk.fg [2] [] ⟨[(2,vi (-1))],[]⟩) ?_
     have hr:=Option.some.inj h
     subst hr
     exact ⟨_,Wk.refl _,.inr rfl,⟨[],by kernel_rfl,trivial,[vi (-1)],by kernel_rfl,by kernel_rfl⟩⟩
    ·replace h:=aq b11 h
     refine AX.cF ((!decide (x8=p1))) b11 ?_
     refine AX.skip ?_
     refine AX.si [] [2] [] ⟨[(2,vi x7)],[]⟩ trivial trivial ?_
     refine AX.ret ?_
     refine ae (Wk.fg [2] [] ⟨[(2,vi x7)],[]⟩) ?_
     have hr:=Option.some.inj h
     subst hr
     exact ⟨_,Wk.refl _,.inr rfl,⟨[],by kernel_rfl,trivial,[vi x7],by kernel_rfl,by kernel_rfl⟩⟩

theorem lk (p1:ByteArray) (r:Int×Bool) (h:eh p1=some r) :
  Eng.al Tryz.prog 49 [vs p1] [] (.tup [vi r.1,vb r.2]) []:=by
 unfold eh at h
 refine Eng.al.body Tryz.func49 (by kernel_rfl) rfl (by kernel_rfl) ?_
 refine AX.wkpost ?_
 refine AX.si [] [0] [] ⟨[(0,vs p1)],[]⟩ trivial trivial ?_
 refine AX.seq ?_
 rcases ac ((!decide (p1=ByteArray.empty))) with b1 | b1
 ·replace h:=am b1 h
  obtain ⟨g2,h⟩:=aw h
  refine AX.rh [aN,aY (vb true)] [0,4] [] ⟨[(0,vs p1),(4,vb (decide ((aC p1 (0:Int).toNat)=45)))],[]⟩ (pa (pb (cb b1)) <| pa g2 <| trivial) trivial ?_
  refine AX.seq ?_
  refine AX.si [] [0,4,13] [] ⟨[(0,vs p1),(4,vb (decide ((aC p1 (0:Int).toNat)=45))),(13,vb (decide ((aC p1 (0:Int).toNat)=45)))],[]⟩ trivial trivial ?_
  rcases ac (decide ((aC p1 (0:Int).toNat)=45)) with b3 | b3
  ·replace h:=am b3 h
   refine AX.cT (decide ((aC p1 (0:Int).toNat)=45)) b3 ?_
   obtain ⟨g4,h⟩:=aw h
   refine AX.rh [] [0,4] [] ⟨[(0,vs (p1.extract (1:Int).toNat (p1.size:Int).toNat)),(4,vb (decide ((aC p1 (0:Int).toNat)=45)))],[]⟩ (pa g4 <| trivial) trivial ?_
   refine AX.seq ?_
   obtain ⟨x2,e5,h⟩:=ak h
   refine AX.rh [aN,.call 95 [vs (p1.extract (1:Int).toNat (p1.size:Int).toNat)] hN (ah [] [] (vi x2) [])] [4,5] [] ⟨[(4,vb (decide ((aC p1 (0:Int).toNat)=45))),(5,vi x2)],[]⟩ (pa (smA [vs (p1.extract (1:Int).toNat (p1.size:Int).toNat)]) <| trivial) ⟨co (gK (p1.extract (1:Int).toNat (p1.size:Int).toNat) x2 e5) (.cons cS (.nil)),trivial⟩ ?_
   refine AX.seq ?_
   refine AX.seq ?_
   rcases ac (decide (x2<0)) with b6 | b6
   ·replace h:=am b6 h
    refine AX.rh [aN,aY (vb true)] [4,5,26] [] ⟨[(4,vb (decide ((aC p1 (0:Int).toNat)=45))),(5,vi x2),(26,vb true)],[]⟩ (pa (pb (cb b6)) <| trivial) trivial ?_
    refine AX.cond_true (by kernel_rfl) ?_
    refine AX.si [] [2,3] [] ⟨[(2,vi 0),(3,vb false)],[]⟩ trivial trivial ?_
    refine AX.ret ?_
    refine ae (Wk.fg [2,3] [] ⟨[(2,vi 0),(3,vb false)],[]⟩) ?_
    have hr:=Option.some.inj h
    subst hr
    exact ⟨_,Wk.refl _,.inr rfl,⟨[],by kernel_rfl,trivial,[vi 0,vb false],by kernel_rfl,by kernel_rfl⟩⟩
   ·replace h:=aq b6 h
    refine AX.rh [aN,aY (vb false),aN,aY (vb true)] [4,5,26] [] ⟨[(4,vb (decide ((aC p1 (0:Int).toNat)=45))),(5,vi x2),(26,vb (decide (x2=0)))],[]⟩ (pa (pb (cb b6)) <| pa (pb (cb b3)) <| trivial) trivial ?_
    rcases ac (decide (x2=0)) with b7 | b7
    ·replace h:=am b7 h
     refine AX.cT (decide (x2=0)) b7 ?_
     refine AX.si [] [2,3] [] ⟨[(2,vi 0),(3,vb false)],[]⟩ trivial trivial ?_
     refine AX.ret ?_
     refine ae (Wk.fg [2,3] [] ⟨[(2,vi 0),(3,vb false)],[]⟩) ?_
     have hr:=Option.some.inj h
     subst hr
     exact ⟨_,Wk.refl _,.inr rfl,⟨[],by kernel_rfl,trivial,[vi 0,vb false],by kernel_rfl,by kernel_rfl⟩⟩
    ·replace h:=aq b7 h
     refine AX.cF (decide (x2=0)) b7 ?_
     refine AX.skip ?_
     refine AX.seq ?_
     refine AX.si [] [5,27] [] ⟨[(5,vi x2),(27,vb (decide ((aC p1 (0:Int).toNat)=45)))],[]⟩ trivial trivial ?_
     refine AX.cT (decide ((aC p1 (0:Int).toNat)=45)) b3 ?_
     refine AX.si [aN,.auto { raw:=true }] [2,3] [] ⟨[(2,vi (IntKind.wrap .i64 (0 - x2))),(3,vb true)],[]⟩ trivial trivial ?_
     refine AX.ret ?_
     refine ae (Wk.fg [2,3] [] ⟨[(2,vi (IntKind.wrap .i64 (0 - x2))),(3,vb true)],[]⟩) ?_
     have hr:=Option.some.inj h
     subst hr
     exact ⟨_,Wk.refl _,.inr rfl,⟨[],by kernel_rfl,trivial,[vi (IntKind.wrap .i64 (0 - x2)),vb true],by kernel_rfl,by kernel_rfl⟩⟩
  ·replace h:=aq b3 h
   refine AX.cF (decide ((aC p1 (0:Int).toNat)=45)) b3 ?_
   refine AX.skip ?_
   refine AX.seq ?_
   obtain ⟨x3,e8,h⟩:=ak h
   refine AX.rh [aN,.call 95 [vs p1] hN (ah [] [] (vi x3) [])] [4,5] [] ⟨[(4,vb (decide ((aC p1 (0:Int).toNat)=45))),(5,vi x3)],[]⟩ (pa (smA [vs p1]) <| trivial) ⟨co (gK p1 x3 e8) (.cons cS (.nil)),trivial⟩ ?_
   refine AX.seq ?_
   refine AX.seq ?_
   rcases ac (decide (x3<0)) with b9 | b9
   ·replace h:=am b9 h
    refine AX.rh [aN,aY (vb true)] [4,5,26] [] ⟨[(4,vb (decide ((aC p1 (0:Int).toNat)=45))),(5,vi x3),(26,vb true)],[]⟩ (pa (pb (cb b9)) <| trivial) trivial ?_
    refine AX.cond_true (by kernel_rfl) ?_
    refine AX.si [] [2,3] [] ⟨[(2,vi 0),(3,vb false)],[]⟩ trivial trivial ?_
    refine AX.ret ?_
    refine ae (Wk.fg [2,3] [] ⟨[(2,vi 0),(3,vb false)],[]⟩) ?_
    have hr:=Option.some.inj h
    subst hr
    exact ⟨_,Wk.refl _,.inr rfl,⟨[],by kernel_rfl,trivial,[vi 0,vb false],by kernel_rfl,by kernel_rfl⟩⟩
   ·replace h:=aq b9 h
    refine AX.rh [aN,aY (vb false),aN,aY (vb false)] [4,5,26] [] ⟨[(4,vb (decide ((aC p1 (0:Int).toNat)=45))),(5,vi x3),(26,vb false)],[]⟩ (pa (pb (cb b9)) <| pa (pb (cb b3)) <| trivial) trivial ?_
    refine AX.cond_false (by kernel_rfl) ?_
    refine AX.skip ?_
    refine AX.seq ?_
    refine AX.si [] [5,27] [] ⟨[(5,vi x3),(27,vb (decide ((aC p1 (0:Int).toNat)=45)))],[]⟩ trivial trivial ?_
    refine AX.cF (decide ((aC p1 (0:Int).toNat)=45)) b3 ?_
    refine AX.skip ?_
    refine AX.si [] [2,3] [] ⟨[(2,vi x3),(3,vb true)],[]⟩ trivial trivial ?_
    refine AX.ret ?_
    refine ae (Wk.fg [2,3] [] ⟨[(2,vi x3),(3,vb true)],[]⟩) ?_
    have hr:=Option.some.inj h
    subst hr
    exact ⟨_,Wk.refl _,.inr rfl,⟨[],by kernel_rfl,trivial,[vi x3,vb true],by kernel_rfl,by kernel_rfl⟩⟩
 ·replace h:=aq b1 h
  refine AX.rh [aN,aY (vb false)] [0,4] [] ⟨[(0,vs p1),(4,vb false)],[]⟩ (pa (pb (cb b1)) <| trivial) trivial ?_
  refine AX.seq ?_
  refine AX.si [] [0,4,13] [] ⟨[(0,vs p1),(4,vb false),(13,vb false)],[]⟩ trivial trivial ?_
  refine AX.cond_false (by kernel_rfl) ?_
  refine AX.skip ?_
  refine AX.seq ?_
  obtain ⟨x4,e10,h⟩:=ak h
  refine AX.rh [aN,.call 95 [vs p1] hN (ah [] [] (vi x4) [])] [4,5] [] ⟨[(4,vb false),(5,vi x4)],[]⟩ (pa (smA [vs p1]) <| trivial) ⟨co (gK p1 x4 e10) (.cons cS (.nil)),trivial⟩ ?_
  refine AX.seq ?_
  refine AX.seq ?_
  rcases ac (decide (x4<0)) with b11 | b11
  ·replace h:=am b11 h
   refine AX.rh [aN,aY (vb true)] [4,5,26] [] ⟨[(4,vb false),(5,vi x4),(26,vb true)],[]⟩ (pa (pb (cb b11)) <| trivial) trivial ?_
   refine AX.cond_true (by kernel_rfl) ?_
   refine AX.si [] [2,3] [] ⟨[(2,vi 0),(3,vb false)],[]⟩ trivial trivial ?_
   refine AX.ret ?_
   refine ae (Wk.fg [2,3] [] ⟨[(2,vi 0),(3,vb false)],[]⟩) ?_
   have hr:=Option.some.inj h
   subst hr
   exact ⟨_,Wk.refl _,.inr rfl,⟨[],by kernel_rfl,trivial,[vi 0,vb false],by kernel_rfl,by kernel_rfl⟩⟩
  ·replace h:=aq b11 h
   refine AX.rh [aN,aY (vb false)] [4,5,26] [] ⟨[(4,vb false),(5,vi x4),(26,vb false)],[]⟩ (pa (pb (cb b11)) <| trivial) trivial ?_
   refine AX.cond_false (by kernel_rfl) ?_
   refine AX.skip ?_
   refine AX.seq ?_
   refine AX.si [] [5,27] [] ⟨[(5,vi x4),(27,vb false)],[]⟩ trivial trivial ?_
   refine AX.cond_false (by kernel_rfl) ?_
   refine AX.skip ?_
   refine AX.si [] [2,3] [] ⟨[(2,vi x4),(3,vb true)],[]⟩ trivial trivial ?_
   refine AX.ret ?_
   refine ae (Wk.fg [2,3] [] ⟨[(2,vi x4),(3,vb true)],[]⟩) ?_
   have hr:=Option.some.inj h
   subst hr
   exact ⟨_,Wk.refl _,.inr rfl,⟨[],by kernel_rfl,trivial,[vi x4,vb true],by kernel_rfl,by kernel_rfl⟩⟩

theorem rM (p1:ByteArray) (r:ByteArray×Bool×Int×Bool) (h:fU p1=some r) :
  Eng.al Tryz.prog 63 [vs p1] [] (.tup [.agg [vs r.1,vb r.2.1,vi r.2.2.1],vb r.2.2.2]) []:=by
 unfold fU at h
 refine Eng.al.body Tryz.func63 (by kernel_rfl) rfl (by kernel_rfl) ?_
 refine AX.wkpost ?_
 refine AX.si [.auto { nk:=0 }] [0,2] [0] ⟨[(0,vs p1),(2,.pt 0 0)],[(0,.box [vs ByteArray.empty,vb false,vi 0])]⟩ trivial trivial ?_
 refine AX.seq ?_
 obtain ⟨x2,e1,h⟩:=ak h
 refine AX.rh [aN,.call 48 [vs p1,.v (.int .u8 32)] (aD (rho ([]++[1])) [] []++[]) (ah [] [1] (.sl 0 0 x2.length) [.arr 1 (List.map ab x2)])] [0,2,4] [0,1] ⟨[(0,vs p1),(2,.pt 0 0),(4,.sl 1 0 x2.length)],[(0,.box [vs ByteArray.empty,vb false,vi 0]),(1,.arr 1 (List.map ab x2))]⟩ (pa (smA [vs p1,.v (.int .u8 32)]) <| trivial) ⟨aA (ks:=[]) (ns:=[1]) (bor:=[]) (bobjs:=[]) (iO p1 32 x2 e1) (.cons cS (.cons cS (.nil))) (by kernel_rfl) trivial,trivial⟩ ?_
 refine AX.seq ?_
 refine AX.si [] [0,2,4,11] [0,1] ⟨[(0,vs p1),(2,.pt 0 0),(4,.sl 1 0 x2.length),(11,vb (decide ((x2.length:Int)=1)))],[(0,.box [vs ByteArray.empty,vb false,vi 0]),(1,.arr 1 (List.map ab x2))]⟩ trivial trivial ?_
 rcases ac (decide ((x2.length:Int)=1)) with b2 | b2
 ·replace h:=am b2 h
  refine AX.cT (decide ((x2.length:Int)=1)) b2 ?_
  refine AX.si [] [2,3] [0] ⟨[(2,.pt 0 0),(3,vb true)],[(0,.box [vs p1,vb true,vi 0])]⟩ trivial trivial ?_
  refine AX.ret ?_
  refine ae (Wk.fg [2,3] [0] ⟨[(2,.pt 0 0),(3,vb true)],[(0,.box [vs p1,vb true,vi 0])]⟩) ?_
  have hr:=Option.some.inj h
  subst hr
  exact ⟨_,Wk.refl _,.inr rfl,⟨[],by kernel_rfl,trivial,[.agg [vs p1,vb true,vi 0],vb true],by kernel_rfl,by kernel_rfl⟩⟩
 ·replace h:=aq b2 h
  refine AX.cF (decide ((x2.length:Int)=1)) b2 ?_
  refine AX.skip ?_
  refine AX.seq ?_
  refine AX.seq ?_
  rcases ac ((!decide ((x2.length:Int)=3))) with b3 | b3
  ·replace h:=am b3 h
   refine AX.rh [aN,aN,aY (vb true)] [2,4,22] [0,1] ⟨[(2,.pt 0 0),(4,.sl 1 0 x2.length),(22,vb true)],[(0,.box [vs ByteArray.empty,vb false,vi 0]),(1,.arr 1 (List.map ab x2))]⟩ (pa (pb (cb b3)) <| trivial) trivial ?_
   refine AX.cond_true (by kernel_rfl) ?_
   refine AX.si [] [2,3] [0] ⟨[(2,.pt 0 0),(3,vb false)],[(0,.box [vs ByteArray.empty,vb false,vi 0])]⟩ trivial trivial ?_
   refine AX.ret ?_
   refine ae (Wk.fg [2,3] [0] ⟨[(2,.pt 0 0),(3,vb false)],[(0,.box [vs ByteArray.empty,vb false,vi 0])]⟩) ?_
   have hr:=Option.some.inj h
   subst hr
   exact ⟨_,Wk.refl _,.inr rfl,⟨[],by kernel_rfl,trivial,[.agg [vs ByteArray.empty,vb false,vi 0],vb false],by kernel_rfl,by kernel_rfl⟩⟩
  ·replace h:=aq b3 h
   obtain ⟨g4,h⟩:=aw h
   refine AX.rh [aN,aN,aY (vb false),aN,aN,aN,aY (vs (gt x2 (1:Int)))] [2,4,22] [0,1] ⟨[(2,.pt 0 0),(4,.sl 1 0 x2.length),(22,vb (!decide ((gt x2 (1:Int))=(ByteArray.mk #[61]))))],[(0,.box [vs ByteArray.empty,vb false,vi 0]),(1,.arr 1 (List.map ab x2))]⟩ (pa (pb (cb b3)) <| pa g4 <| pa (⟨trivial,(congrArg (fun z:List Value=>AV.v (z.getD 0 undef)) (au (enc:=ab) rfl g4))⟩:(True∧(AV.v (((List.map ab x2).getD (0+(1:Int).toNat) []).getD 0 undef)=vs (gt x2 (1:Int))))) <| trivial) trivial ?_
   rcases ac ((!decide ((gt x2 (1:Int))=(ByteArray.mk #[61])))) with b5 | b5
   ·replace h:=am b5 h
    refine AX.cT ((!decide ((gt x2 (1:Int))=(ByteArray.mk #[61])))) b5 ?_
    refine AX.si [] [2,3] [0] ⟨[(2,.pt 0 0),(3,vb false)],[(0,.box [vs ByteArray.empty,vb false,vi 0])]⟩ trivial trivial ?_
    refine AX.ret ?_
    refine ae (Wk.fg [2,3] [0] ⟨[(2,.pt 0 0),(3,vb false)],[(0,.box [vs ByteArray.empty,vb false,vi 0])]⟩) ?_
    have hr:=Option.some.inj h
    subst hr
    exact ⟨_,Wk.refl _,.inr rfl,⟨[],by kernel_rfl,trivial,[.agg [vs ByteArray.empty,vb false,vi 0],vb false],by kernel_rfl,by kernel_rfl⟩⟩
   ·replace h:=aq b5 h
    refine AX.cF ((!decide ((gt x2 (1:Int))=(ByteArray.mk #[61])))) b5 ?_
    refine AX.skip ?_
    refine AX.seq ?_
    obtain ⟨g6,h⟩:=aw h
    obtain ⟨x3,e7,h⟩:=ak h
    refine AX.rh [aN,aN,aY (vs (gt x2 (2:Int))),.call 49 [vs (gt x2 (2:Int))] hN (ah [] [] (.tup [vi x3.1,vb x3.2]) [])] [2,4,5,6] [0,1] ⟨[(2,.pt 0 0),(4,.sl 1 0 x2.length),(5,vi x3.1),(6,vb x3.2)],[(0,.box [vs ByteArray.empty,vb false,vi 0]),(1,.arr 1 (List.map ab x2))]⟩ (pa g6 <| pa (⟨trivial,(congrArg (fun z:List Value=>AV.v (z.getD 0 undef)) (au (enc:=ab) rfl g6))⟩:(True∧(AV.v (((List.map ab x2).getD (0+(2:Int).toNat) []).getD 0 undef)=vs (gt x2 (2:Int))))) <| pa (smA [vs (gt x2 (2:Int))]) <| trivial) ⟨co (lk (gt x2 (2:Int)) x3 e7) (.cons cS (.nil)),trivial⟩ ?_
    refine AX.seq ?_
    obtain ⟨g8,h⟩:=aw h
    refine AX.rh [aN,aN,aY (vs (gt x2 (0:Int)))] [2,3] [0] ⟨[(2,.pt 0 0),(3,vb x3.2)],[(0,.box [vs (gt x2 (0:Int)),vb false,vi x3.1])]⟩ (pa g8 <| pa (⟨trivial,(congrArg (fun z:List Value=>AV.v (z.getD 0 undef)) (au (enc:=ab) rfl g8))⟩:(True∧(AV.v (((List.map ab x2).getD (0+(0:Int).toNat) []).getD 0 undef)=vs (gt x2 (0:Int))))) <| trivial) trivial ?_
    refine AX.ret ?_
    refine ae (Wk.fg [2,3] [0] ⟨[(2,.pt 0 0),(3,vb x3.2)],[(0,.box [vs (gt x2 (0:Int)),vb false,vi x3.1])]⟩) ?_
    have hr:=Option.some.inj h
    subst hr
    exact ⟨_,Wk.refl _,.inr rfl,⟨[],by kernel_rfl,trivial,[.agg [vs (gt x2 (0:Int)),vb false,vi x3.1],vb x3.2],by kernel_rfl,by kernel_rfl⟩⟩

theorem nH (x2:List ByteArray) (n:Nat) (g:(List (ByteArray×Bool×Int))×Int) (out:Unit ⊕ List (ByteArray×Bool×Int)) (h:bL x2 n g.1 g.2=some out) :
  AX Tryz.prog 50 0 (codeAt [1,1,1,1,0,1,1] (aU Tryz.f28)) ((fun g:(List (ByteArray×Bool×Int))×Int=>(⟨[(5,.sl 0 0 x2.length),(6,.sl 1 0 g.1.length),(7,vi g.2)],[(0,.arr 1 (List.map ab x2)),(1,.arr 3 (List.map ag g.1))]⟩:S)) g) (fun ex s=>(∃ o:Unit,out=Sum.inl o∧ex=.ret∧s=⟨[(2,vs ByteArray.empty),(3,.v (.slice none 0 0)),(4,vb false)],[]⟩)∨(∃ o:List (ByteArray×Bool×Int),out=Sum.inr o∧ex=.exit 0∧s=⟨[(5,.sl 0 0 x2.length),(6,.sl 1 0 o.length)],[(0,.arr 1 (List.map ab x2)),(1,.arr 3 (List.map ag o))]⟩)):=by
 refine AX.wkpost ?_
 refine AX.loop (G:=Nat×((List (ByteArray×Bool×Int))×Int)) (fun q=>(fun g:(List (ByteArray×Bool×Int))×Int=>(⟨[(5,.sl 0 0 x2.length),(6,.sl 1 0 g.1.length),(7,vi g.2)],[(0,.arr 1 (List.map ab x2)),(1,.arr 3 (List.map ag g.1))]⟩:S)) q.2) (fun q=>bL x2 q.1 q.2.1 q.2.2=some out) (fun q=>q.1) (n,g) h (Wk.refl _) ?_
 clear h
 rintro ⟨fu,v4,v5⟩ h
 cases fu with
 | zero=>cases h
 | succ fu =>
  rw [bL] at h
  refine AX.seq ?_
  refine AX.si [aN,.auto { raw:=true }] [5,6,7,29] [0,1] ⟨[(5,.sl 0 0 x2.length),(6,.sl 1 0 v4.length),(7,vi v5),(29,vb (decide ((IntKind.wrap .i64 (v5+1))<(x2.length:Int))))],[(0,.arr 1 (List.map ab x2)),(1,.arr 3 (List.map ag v4))]⟩ trivial trivial ?_
  rcases ac (decide ((IntKind.wrap .i64 (v5+1))<(x2.length:Int))) with b6 | b6
  ·replace h:=am b6 h
   refine AX.cT (decide ((IntKind.wrap .i64 (v5+1))<(x2.length:Int))) b6 ?_
   refine AX.skip ?_
   refine AX.seq ?_
   refine AX.block ?_
   refine AX.seq ?_
   obtain ⟨g7,h⟩:=aw h
   obtain ⟨x6,e8,h⟩:=ak h
   refine AX.rh [aN,aN,aN,aY (vs (gt x2 v5)),.call 63 [vs (gt x2 v5)] hN (ah [] [] (.tup [.agg [vs x6.1,vb x6.2.1,vi x6.2.2.1],vb x6.2.2.2]) []),aN,aN,aN,.auto { nk:=2 }] [5,6,7,8,9] [0,1,2] ⟨[(5,.sl 0 0 x2.length),(6,.sl 1 0 v4.length),(7,vi v5),(8,.pt 2 0),(9,vb x6.2.2.2)],[(0,.arr 1 (List.map ab x2)),(1,.arr 3 (List.map ag v4)),(2,.box [vs x6.1,vb x6.2.1,vi x6.2.2.1])]⟩ (pa g7 <| pa (⟨trivial,(congrArg (fun z:List Value=>AV.v (z.getD 0 undef)) (au (enc:=ab) rfl g7))⟩:(True∧(AV.v (((List.map ab x2).getD (0+v5.toNat) []).getD 0 undef)=vs (gt x2 v5)))) <| pa (smA [vs (gt x2 v5)]) <| trivial) ⟨co (rM (gt x2 v5) x6 e8) (.cons cS (.nil)),trivial⟩ ?_
   refine AX.seq ?_
   refine AX.si [] [5,6,7,8,41] [0,1,2] ⟨[(5,.sl 0 0 x2.length),(6,.sl 1 0 v4.length),(7,vi v5),(8,.pt 2 0),(41,vb (!x6.2.2.2))],[(0,.arr 1 (List.map ab x2)),(1,.arr 3 (List.map ag v4)),(2,.box [vs x6.1,vb x6.2.1,vi x6.2.2.1])]⟩ trivial trivial ?_
   rcases ac ((!x6.2.2.2)) with b9 | b9
   ·replace h:=am b9 h
    refine AX.cT ((!x6.2.2.2)) b9 ?_
    refine AX.si [] [2,3,4] [] ⟨[(2,vs ByteArray.empty),(3,.v (.slice none 0 0)),(4,vb false)],[]⟩ trivial trivial ?_
    refine AX.ret ?_
    refine ae (Wk.fg [2,3,4] [] ⟨[(2,vs ByteArray.empty),(3,.v (.slice none 0 0)),(4,vb false)],[]⟩) ?_
    have hr:=Option.some.inj h
    subst hr
    exact ⟨_,Wk.refl _,.inl ⟨(),rfl,rfl,rfl⟩⟩
   ·replace h:=aq b9 h
    refine AX.cF ((!x6.2.2.2)) b9 ?_
    refine AX.skip ?_
    obtain ⟨g10,h⟩:=aw h
    refine AX.rh [aN,aN,.auto { nk:=3 },.auto { y:=some (.sl 4 0 ((v4++([(x6.1,x6.2.1,x6.2.2.1)]:List (ByteArray×Bool×Int))).length)),els:=some (List.map ag v4),els2:=some (List.map ag ([(x6.1,x6.2.1,x6.2.2.1)]:List (ByteArray×Bool×Int))),nk:=4 }] [5,6,7] [0,4] ⟨[(5,.sl 0 0 x2.length),(6,.sl 4 0 ((v4++([(x6.1,x6.2.1,x6.2.2.1)]:List (ByteArray×Bool×Int))).length)),(7,vi v5)],[(0,.arr 1 (List.map ab x2)),(4,.arr 3 (List.map ag v4++List.map ag ([(x6.1,x6.2.1,x6.2.2.1)]:List (ByteArray×Bool×Int))))]⟩ (pa (⟨⟨⟨(bc (enc:=ag) rfl rfl),(bc (enc:=ag) rfl rfl)⟩,(by simp only [List.length_map,List.length_nil,List.length_replicate];simpa using g10)⟩,cj (enc:=ag) (aH (enc:=ag) rfl (rfl))⟩:((((((List.map ag v4).drop 0).take (v4.length)=List.map ag v4)∧(((List.map ag ([(x6.1,x6.2.1,x6.2.2.1)]:List (ByteArray×Bool×Int))).drop 0).take (([(x6.1,x6.2.1,x6.2.2.1)]:List (ByteArray×Bool×Int)).length)=List.map ag ([(x6.1,x6.2.1,x6.2.2.1)]:List (ByteArray×Bool×Int))))∧(List.map ag v4).length+(List.map ag ([(x6.1,x6.2.1,x6.2.2.1)]:List (ByteArray×Bool×Int))).length≤1099511627776)∧(AV.sl 4 0 (List.map ag v4++List.map ag ([(x6.1,x6.2.1,x6.2.2.1)]:List (ByteArray×Bool×Int))).length=AV.sl 4 0 (v4++([(x6.1,x6.2.1,x6.2.2.1)]:List (ByteArray×Bool×Int))).length))) <| trivial) trivial ?_
    refine AX.rh [aN,.auto { raw:=true }] [5,6,7] [0,4] ⟨[(5,.sl 0 0 x2.length),(6,.sl 4 0 ((v4++([(x6.1,x6.2.1,x6.2.2.1)]:List (ByteArray×Bool×Int))).length)),(7,vi (IntKind.wrap .i64 (v5+1)))],[(0,.arr 1 (List.map ab x2)),(4,.arr 3 (List.map ag v4++List.map ag ([(x6.1,x6.2.1,x6.2.2.1)]:List (ByteArray×Bool×Int))))]⟩ trivial trivial ?_
    refine ⟨(fu,(v4++([(x6.1,x6.2.1,x6.2.2.1)]:List (ByteArray×Bool×Int)),IntKind.wrap .i64 (v5+1))),h,Nat.lt_succ_self _,?_⟩
    refine Wk.trans (Wk.swap 1 4 (Nat.le_of_ble_eq_true (by kernel_rfl)) (Nat.le_of_ble_eq_true (by kernel_rfl)) rfl) ?_
    refine Wk.trans (Wk.fg [5,6,7] [0,1] ⟨[(5,.sl 0 0 x2.length),(6,.sl 1 0 ((v4++([(x6.1,x6.2.1,x6.2.2.1)]:List (ByteArray×Bool×Int))).length)),(7,vi (IntKind.wrap .i64 (v5+1)))],[(0,.arr 1 (List.map ab x2)),(1,.arr 3 (List.map ag v4++List.map ag ([(x6.1,x6.2.1,x6.2.2.1)]:List (ByteArray×Bool×Int))))]⟩) ?_
    refine Wk.trans (Wk.of_eq (congrArg (fun z=>(⟨[(5,.sl 0 0 x2.length),(6,.sl 1 0 ((v4++([(x6.1,x6.2.1,x6.2.2.1)]:List (ByteArray×Bool×Int))).length)),(7,vi (IntKind.wrap .i64 (v5+1)))],[(0,.arr 1 (List.map ab x2)),(1,.arr 3 (z))]⟩:S)) (aH (enc:=ag) rfl (rfl):List.map ag v4++List.map ag ([(x6.1,x6.2.1,x6.2.2.1)]:List (ByteArray×Bool×Int))=List.map ag (v4++([(x6.1,x6.2.1,x6.2.2.1)]:List (ByteArray×Bool×Int)))))) ?_
    exact Wk.refl _
  ·replace h:=aq b6 h
   refine AX.cF (decide ((IntKind.wrap .i64 (v5+1))<(x2.length:Int))) b6 ?_
   refine AX.exit ?_
   refine ae (Wk.fg [5,6] [0,1] ⟨[(5,.sl 0 0 x2.length),(6,.sl 1 0 v4.length)],[(0,.arr 1 (List.map ab x2)),(1,.arr 3 (List.map ag v4))]⟩) ?_
   have hr:=Option.some.inj h
   subst hr
   exact ⟨_,Wk.refl _,.inr ⟨v4,rfl,rfl,rfl⟩⟩

theorem qj (p1:ByteArray) (r:ByteArray×(List (ByteArray×Bool×Int))×Bool) (h:fF p1=some r) :
  Eng.al Tryz.prog 28 [vs p1] [] (.tup [vs r.1,.sl 0 0 r.2.1.length,vb r.2.2]) [.arr 3 (List.map ag r.2.1)]:=by
 unfold fF at h
 refine Eng.al.body Tryz.func28 (by kernel_rfl) rfl (by kernel_rfl) ?_
 refine AX.wkpost ?_
 refine AX.si [] [0] [] ⟨[(0,vs p1)],[]⟩ trivial trivial ?_
 refine AX.seq ?_
 obtain ⟨x2,e1,h⟩:=ak h
 refine AX.rh [aN,.call 48 [vs p1,.v (.int .u8 10)] (aD (rho ([]++[0])) [] []++[]) (ah [] [0] (.sl 0 0 x2.length) [.arr 1 (List.map ab x2)])] [5] [0] ⟨[(5,.sl 0 0 x2.length)],[(0,.arr 1 (List.map ab x2))]⟩ (pa (smA [vs p1,.v (.int .u8 10)]) <| trivial) ⟨aA (ks:=[]) (ns:=[0]) (bor:=[]) (bobjs:=[]) (iO p1 10 x2 e1) (.cons cS (.cons cS (.nil))) (by kernel_rfl) trivial,trivial⟩ ?_
 refine AX.seq ?_
 refine AX.seq ?_
 rcases ac (decide ((x2.length:Int)<2)) with b2 | b2
 ·replace h:=am b2 h
  refine AX.rh [aN,aN,aY (vb true)] [5,23] [0] ⟨[(5,.sl 0 0 x2.length),(23,vb true)],[(0,.arr 1 (List.map ab x2))]⟩ (pa (pb (cb b2)) <| trivial) trivial ?_
  refine AX.cond_true (by kernel_rfl) ?_
  refine AX.si [] [2,3,4] [] ⟨[(2,vs ByteArray.empty),(3,.v (.slice none 0 0)),(4,vb false)],[]⟩ trivial trivial ?_
  refine AX.ret ?_
  refine ae (Wk.mat 3 0 3 (by kernel_rfl) (Nat.le_of_ble_eq_true (by kernel_rfl)) (by kernel_rfl) rfl) ?_
  refine ae (Wk.fg [2,3,4] [0] ⟨[(2,vs ByteArray.empty),(3,.sl 0 0 (([]:List (ByteArray×Bool×Int)).length)),(4,vb false)],[(0,.arr 3 (List.map ag ([]:List (ByteArray×Bool×Int))))]⟩) ?_
  have hr:=Option.some.inj h
  subst hr
  exact ⟨_,Wk.refl _,.inr rfl,⟨[0],by kernel_rfl,⟨rfl,trivial⟩,[vs ByteArray.empty,.sl 0 0 (([]:List (ByteArray×Bool×Int)).length),vb false],by kernel_rfl,by kernel_rfl⟩⟩
 ·replace h:=aq b2 h
  obtain ⟨g3,h⟩:=aw h
  obtain ⟨v3,q4,h⟩:=bT h
  refine AX.rh [aN,aN,aY (vb false),aN,aN,aN,aN,.auto { raw:=true },aN,.auto { y:=some (vs (gt x2 (IntKind.wrap .i64 ((x2.length:Int) - 1)))) },aY (vb v3)] [5,23] [0] ⟨[(5,.sl 0 0 x2.length),(23,vb v3)],[(0,.arr 1 (List.map ab x2))]⟩ (pa (pb (cb b2)) <| pa g3 <| pa (⟨trivial,(congrArg (fun z:List Value=>AV.v (z.getD 0 undef)) (au (enc:=ab) rfl g3))⟩:(True∧(AV.v (((List.map ab x2).getD (0+(IntKind.wrap .i64 ((x2.length:Int) - 1)).toNat) []).getD 0 undef)=vs (gt x2 (IntKind.wrap .i64 ((x2.length:Int) - 1)))))) <| pa (pb (cb q4)) <| trivial) trivial ?_
  rcases ac (v3) with b5 | b5
  ·replace h:=am b5 h
   refine AX.cT (v3) b5 ?_
   refine AX.si [] [2,3,4] [] ⟨[(2,vs ByteArray.empty),(3,.v (.slice none 0 0)),(4,vb false)],[]⟩ trivial trivial ?_
   refine AX.ret ?_
   refine ae (Wk.mat 3 0 3 (by kernel_rfl) (Nat.le_of_ble_eq_true (by kernel_rfl)) (by kernel_rfl) rfl) ?_
   refine ae (Wk.fg [2,3,4] [0] ⟨[(2,vs ByteArray.empty),(3,.sl 0 0 (([]:List (ByteArray×Bool×Int)).length)),(4,vb false)],[(0,.arr 3 (List.map ag ([]:List (ByteArray×Bool×Int))))]⟩) ?_
   have hr:=Option.some.inj h
   subst hr
   exact ⟨_,Wk.refl _,.inr rfl,⟨[0],by kernel_rfl,⟨rfl,trivial⟩,[vs ByteArray.empty,.sl 0 0 (([]:List (ByteArray×Bool×Int)).length),vb false],by kernel_rfl,by kernel_rfl⟩⟩
  ·replace h:=aq b5 h
   refine AX.cF (v3) b5 ?_
   refine AX.skip ?_
   refine AX.si [.auto { nk:=1 }] [5,6] [0,1] ⟨[(5,.sl 0 0 x2.length),(6,.sl 1 0 (([]:List (ByteArray×Bool×Int)).length))],[(0,.arr 1 (List.map ab x2)),(1,.arr 3 (List.map ag ([]:List (ByteArray×Bool×Int))))]⟩ trivial trivial ?_
   refine AX.seq ?_
   refine AX.si [] [5,6,7] [0,1] ⟨[(5,.sl 0 0 x2.length),(6,.sl 1 0 (([]:List (ByteArray×Bool×Int)).length)),(7,vi 1)],[(0,.arr 1 (List.map ab x2)),(1,.arr 3 (List.map ag ([]:List (ByteArray×Bool×Int))))]⟩ trivial trivial ?_
   refine AX.block ?_
   obtain ⟨x7,e11,h⟩:=ak h
   refine AX.wk (Wk.fg [5,6,7] [0,1] ⟨[(5,.sl 0 0 x2.length),(6,.sl 1 0 (([]:List (ByteArray×Bool×Int)).length)),(7,vi 1)],[(0,.arr 1 (List.map ab x2)),(1,.arr 3 (List.map ag ([]:List (ByteArray×Bool×Int))))]⟩) ?_
   refine AX.mono (nH x2 FU (([]:List (ByteArray×Bool×Int)),1) x7 e11) ?_
   rintro _ _ (⟨x8,rfl,rfl,rfl⟩ | ⟨x9,rfl,rfl,rfl⟩)
   ·replace h:=eL h
    refine ae (Wk.mat 3 0 3 (by kernel_rfl) (Nat.le_of_ble_eq_true (by kernel_rfl)) (by kernel_rfl) rfl) ?_
    refine ae (Wk.fg [2,3,4] [0] ⟨[(2,vs ByteArray.empty),(3,.sl 0 0 (([]:List (ByteArray×Bool×Int)).length)),(4,vb false)],[(0,.arr 3 (List.map ag ([]:List (ByteArray×Bool×Int))))]⟩) ?_
    have hr:=Option.some.inj h
    subst hr
    exact ⟨_,Wk.refl _,.inr rfl,⟨[0],by kernel_rfl,⟨rfl,trivial⟩,[vs ByteArray.empty,.sl 0 0 (([]:List (ByteArray×Bool×Int)).length),vb false],by kernel_rfl,by kernel_rfl⟩⟩
   ·replace h:=eU h
    refine AX.seq ?_
    obtain ⟨g12,h⟩:=aw h
    refine AX.rh [aN,aN,aY (vs (gt x2 (0:Int)))] [2,3,4] [1] ⟨[(2,vs (gt x2 (0:Int))),(3,.sl 1 0 x9.length),(4,vb true)],[(1,.arr 3 (List.map ag x9))]⟩ (pa g12 <| pa (⟨trivial,(congrArg (fun z:List Value=>AV.v (z.getD 0 undef)) (au (enc:=ab) rfl g12))⟩:(True∧(AV.v (((List.map ab x2).getD (0+(0:Int).toNat) []).getD 0 undef)=vs (gt x2 (0:Int))))) <| trivial) trivial ?_
    refine AX.ret ?_
    refine ae (Wk.swap 0 1 (Nat.le_of_ble_eq_true (by kernel_rfl)) (Nat.le_of_ble_eq_true (by kernel_rfl)) rfl) ?_
    refine ae (Wk.fg [2,3,4] [0] ⟨[(2,vs (gt x2 (0:Int))),(3,.sl 0 0 x9.length),(4,vb true)],[(0,.arr 3 (List.map ag x9))]⟩) ?_
    have hr:=Option.some.inj h
    subst hr
    exact ⟨_,Wk.refl _,.inr rfl,⟨[0],by kernel_rfl,⟨rfl,trivial⟩,[vs (gt x2 (0:Int)),.sl 0 0 x9.length,vb true],by kernel_rfl,by kernel_rfl⟩⟩

theorem qn  (r:Unit) (h:gJ =some r) :
  Eng.al Tryz.prog 25 [] [] (.sl 0 0 (([(ByteArray.mk #[115,116,114,105,99,116]),(ByteArray.mk #[102,105,116]),(ByteArray.mk #[101,106,101,99,116]),(ByteArray.mk #[107,101,101,112])]:List ByteArray).length)) [.arr 1 (List.map ab ([(ByteArray.mk #[115,116,114,105,99,116]),(ByteArray.mk #[102,105,116]),(ByteArray.mk #[101,106,101,99,116]),(ByteArray.mk #[107,101,101,112])]:List ByteArray))]:=by
 unfold gJ at h
 refine Eng.al.body Tryz.func25 (by kernel_rfl) rfl (by kernel_rfl) ?_
 refine AX.wkpost ?_
 refine AX.si [] [] [] ⟨[],[]⟩ trivial trivial ?_
 refine AX.si [.auto { nk:=0 }] [0] [0] ⟨[(0,.sl 0 0 (([(ByteArray.mk #[115,116,114,105,99,116]),(ByteArray.mk #[102,105,116]),(ByteArray.mk #[101,106,101,99,116]),(ByteArray.mk #[107,101,101,112])]:List ByteArray).length))],[(0,.arr 1 (List.map ab ([(ByteArray.mk #[115,116,114,105,99,116]),(ByteArray.mk #[102,105,116]),(ByteArray.mk #[101,106,101,99,116]),(ByteArray.mk #[107,101,101,112])]:List ByteArray)))]⟩ trivial trivial ?_
 refine AX.ret ?_
 refine ae (Wk.fg [0] [0] ⟨[(0,.sl 0 0 (([(ByteArray.mk #[115,116,114,105,99,116]),(ByteArray.mk #[102,105,116]),(ByteArray.mk #[101,106,101,99,116]),(ByteArray.mk #[107,101,101,112])]:List ByteArray).length))],[(0,.arr 1 (List.map ab ([(ByteArray.mk #[115,116,114,105,99,116]),(ByteArray.mk #[102,105,116]),(ByteArray.mk #[101,106,101,99,116]),(ByteArray.mk #[107,101,101,112])]:List ByteArray)))]⟩) ?_
 have hr:=Option.some.inj h
 subst hr
 exact ⟨_,Wk.refl _,.inr rfl,⟨[0],by kernel_rfl,⟨rfl,trivial⟩,[.sl 0 0 (([(ByteArray.mk #[115,116,114,105,99,116]),(ByteArray.mk #[102,105,116]),(ByteArray.mk #[101,106,101,99,116]),(ByteArray.mk #[107,101,101,112])]:List ByteArray).length)],by kernel_rfl,by kernel_rfl⟩⟩

theorem qg (p1:ByteArray) (n:Nat) (g:Int) (out:Int ⊕ Unit) (h:da p1 n g=some out) :
  AX Tryz.prog 20 0 (codeAt [1,1,0,1,1] (aU Tryz.f29)) ((fun g:Int=>(⟨[(0,vs p1),(3,.sl 0 0 (([(ByteArray.mk #[115,116,114,105,99,116]),(ByteArray.mk #[102,105,116]),(ByteArray.mk #[101,106,101,99,116]),(ByteArray.mk #[107,101,101,112])]:List ByteArray).length)),(4,vi g)],[(0,.arr 1 (List.map ab ([(ByteArray.mk #[115,116,114,105,99,116]),(ByteArray.mk #[102,105,116]),(ByteArray.mk #[101,106,101,99,116]),(ByteArray.mk #[107,101,101,112])]:List ByteArray)))]⟩:S)) g) (fun ex s=>(∃ o:Int,out=Sum.inl o∧ex=.ret∧s=⟨[(2,vi o)],[]⟩)∨(∃ o:Unit,out=Sum.inr o∧ex=.exit 0∧s=⟨[],[]⟩)):=by
 refine AX.wkpost ?_
 refine AX.loop (G:=Nat×(Int)) (fun q=>(fun g:Int=>(⟨[(0,vs p1),(3,.sl 0 0 (([(ByteArray.mk #[115,116,114,105,99,116]),(ByteArray.mk #[102,105,116]),(ByteArray.mk #[101,106,101,99,116]),(ByteArray.mk #[107,101,101,112])]:List ByteArray).length)),(4,vi g)],[(0,.arr 1 (List.map ab ([(ByteArray.mk #[115,116,114,105,99,116]),(ByteArray.mk #[102,105,116]),(ByteArray.mk #[101,106,101,99,116]),(ByteArray.mk #[107,101,101,112])]:List ByteArray)))]⟩:S)) q.2) (fun q=>da p1 q.1 q.2=some out) (fun q=>q.1) (n,g) h (Wk.refl _) ?_
 clear h
 rintro ⟨fu,v3⟩ h
 cases fu with
 | zero=>cases h
 | succ fu =>
  rw [da] at h
  refine AX.seq ?_
  refine AX.seq ?_
  obtain ⟨v4,q2,h⟩:=bT h
  refine AX.rh [aN,aN,aY (vi v4)] [0,3,4,9] [0] ⟨[(0,vs p1),(3,.sl 0 0 (([(ByteArray.mk #[115,116,114,105,99,116]),(ByteArray.mk #[102,105,116]),(ByteArray.mk #[101,106,101,99,116]),(ByteArray.mk #[107,101,101,112])]:List ByteArray).length)),(4,vi v3),(9,vb (decide (v3<v4)))],[(0,.arr 1 (List.map ab ([(ByteArray.mk #[115,116,114,105,99,116]),(ByteArray.mk #[102,105,116]),(ByteArray.mk #[101,106,101,99,116]),(ByteArray.mk #[107,101,101,112])]:List ByteArray)))]⟩ (pa (⟨trivial,(congrArg (fun z=>vi z) q2)⟩:((True)∧((vi (([(ByteArray.mk #[115,116,114,105,99,116]),(ByteArray.mk #[102,105,116]),(ByteArray.mk #[101,106,101,99,116]),(ByteArray.mk #[107,101,101,112])]:List ByteArray).length:Int):AV)=(vi v4:AV)))) <| trivial) trivial ?_
  rcases ac (decide (v3<v4)) with b3 | b3
  ·replace h:=am b3 h
   refine AX.cT (decide (v3<v4)) b3 ?_
   refine AX.skip ?_
   refine AX.seq ?_
   refine AX.block ?_
   refine AX.seq ?_
   obtain ⟨g4,h⟩:=aw h
   obtain ⟨v5,q5,h⟩:=bT h
   obtain ⟨g6,h⟩:=aw h
   obtain ⟨v6,q7,h⟩:=bT h
   refine AX.rh [aN,aN,aN,aN,aY (vs v5),aN,aY (vb v6)] [0,3,4,18] [0] ⟨[(0,vs p1),(3,.sl 0 0 (([(ByteArray.mk #[115,116,114,105,99,116]),(ByteArray.mk #[102,105,116]),(ByteArray.mk #[101,106,101,99,116]),(ByteArray.mk #[107,101,101,112])]:List ByteArray).length)),(4,vi v3),(18,vb v6)],[(0,.arr 1 (List.map ab ([(ByteArray.mk #[115,116,114,105,99,116]),(ByteArray.mk #[102,105,116]),(ByteArray.mk #[101,106,101,99,116]),(ByteArray.mk #[107,101,101,112])]:List ByteArray)))]⟩ (pa g4 <| pa (⟨((⟨trivial,(congrArg (fun z:List Value=>AV.v (z.getD 0 undef)) (au (enc:=ab) rfl g4))⟩:True∧(AV.v (((List.map ab ([(ByteArray.mk #[115,116,114,105,99,116]),(ByteArray.mk #[102,105,116]),(ByteArray.mk #[101,106,101,99,116]),(ByteArray.mk #[107,101,101,112])]:List ByteArray)).getD (0+v3.toNat) []).getD 0 undef)=vs (gt ([(ByteArray.mk #[115,116,114,105,99,116]),(ByteArray.mk #[102,105,116]),(ByteArray.mk #[101,106,101,99,116]),(ByteArray.mk #[107,101,101,112])]:List ByteArray) v3)))).1,((⟨trivial,(congrArg (fun z:List Value=>AV.v (z.getD 0 undef)) (au (enc:=ab) rfl g4))⟩:True∧(AV.v (((List.map ab ([(ByteArray.mk #[115,116,114,105,99,116]),(ByteArray.mk #[102,105,116]),(ByteArray.mk #[101,106,101,99,116]),(ByteArray.mk #[107,101,101,112])]:List ByteArray)).getD (0+v3.toNat) []).getD 0 undef)=vs (gt ([(ByteArray.mk #[115,116,114,105,99,116]),(ByteArray.mk #[102,105,116]),(ByteArray.mk #[101,106,101,99,116]),(ByteArray.mk #[107,101,101,112])]:List ByteArray) v3)))).2.trans (congrArg (fun z=>vs z) q5)⟩:(True∧((AV.v (((List.map ab ([(ByteArray.mk #[115,116,114,105,99,116]),(ByteArray.mk #[102,105,116]),(ByteArray.mk #[101,106,101,99,116]),(ByteArray.mk #[107,101,101,112])]:List ByteArray)).getD (0+v3.toNat) []).getD 0 undef):AV)=vs v5))) <| pa g6 <| pa (pb (cb q7)) <| trivial) trivial ?_
   rcases ac (v6) with b8 | b8
   ·replace h:=am b8 h
    refine AX.cT (v6) b8 ?_
    refine AX.si [] [2] [] ⟨[(2,vi v3)],[]⟩ trivial trivial ?_
    refine AX.ret ?_
    refine ae (Wk.fg [2] [] ⟨[(2,vi v3)],[]⟩) ?_
    have hr:=Option.some.inj h
    subst hr
    exact ⟨_,Wk.refl _,.inl ⟨v3,rfl,rfl,rfl⟩⟩
   ·replace h:=aq b8 h
    refine AX.cF (v6) b8 ?_
    refine AX.skip ?_
    refine AX.rh [aN,.auto { raw:=true }] [0,3,4] [0] ⟨[(0,vs p1),(3,.sl 0 0 (([(ByteArray.mk #[115,116,114,105,99,116]),(ByteArray.mk #[102,105,116]),(ByteArray.mk #[101,106,101,99,116]),(ByteArray.mk #[107,101,101,112])]:List ByteArray).length)),(4,vi (IntKind.wrap .i64 (v3+1)))],[(0,.arr 1 (List.map ab ([(ByteArray.mk #[115,116,114,105,99,116]),(ByteArray.mk #[102,105,116]),(ByteArray.mk #[101,106,101,99,116]),(ByteArray.mk #[107,101,101,112])]:List ByteArray)))]⟩ trivial trivial ?_
    refine ⟨(fu,IntKind.wrap .i64 (v3+1)),h,Nat.lt_succ_self _,?_⟩
    refine Wk.trans (Wk.fg [0,3,4] [0] ⟨[(0,vs p1),(3,.sl 0 0 (([(ByteArray.mk #[115,116,114,105,99,116]),(ByteArray.mk #[102,105,116]),(ByteArray.mk #[101,106,101,99,116]),(ByteArray.mk #[107,101,101,112])]:List ByteArray).length)),(4,vi (IntKind.wrap .i64 (v3+1)))],[(0,.arr 1 (List.map ab ([(ByteArray.mk #[115,116,114,105,99,116]),(ByteArray.mk #[102,105,116]),(ByteArray.mk #[101,106,101,99,116]),(ByteArray.mk #[107,101,101,112])]:List ByteArray)))]⟩) ?_
    exact Wk.refl _
  ·replace h:=aq b3 h
   refine AX.cF (decide (v3<v4)) b3 ?_
   refine AX.exit ?_
   refine ae (Wk.fg [] [] ⟨[],[]⟩) ?_
   have hr:=Option.some.inj h
   subst hr
   exact ⟨_,Wk.refl _,.inr ⟨(),rfl,rfl,rfl⟩⟩

theorem mP (p1:ByteArray) (r:Int) (h:fQ p1=some r) :
  Eng.al Tryz.prog 29 [vs p1] [] (vi r) []:=by
 unfold fQ at h
 refine Eng.al.body Tryz.func29 (by kernel_rfl) rfl (by kernel_rfl) ?_
 refine AX.wkpost ?_
 refine AX.si [] [0] [] ⟨[(0,vs p1)],[]⟩ trivial trivial ?_
 refine AX.seq ?_
 obtain ⟨x2,e1,h⟩:=ak h
 refine AX.rh [.call 25 [] (aD (rho ([]++[0])) [] []++[]) (ah [] [0] (.sl 0 0 (([(ByteArray.mk #[115,116,114,105,99,116]),(ByteArray.mk #[102,105,116]),(ByteArray.mk #[101,106,101,99,116]),(ByteArray.mk #[107,101,101,112])]:List ByteArray).length)) [.arr 1 (List.map ab ([(ByteArray.mk #[115,116,114,105,99,116]),(ByteArray.mk #[102,105,116]),(ByteArray.mk #[101,106,101,99,116]),(ByteArray.mk #[107,101,101,112])]:List ByteArray))])] [0,3] [0] ⟨[(0,vs p1),(3,.sl 0 0 (([(ByteArray.mk #[115,116,114,105,99,116]),(ByteArray.mk #[102,105,116]),(ByteArray.mk #[101,106,101,99,116]),(ByteArray.mk #[107,101,101,112])]:List ByteArray).length))],[(0,.arr 1 (List.map ab ([(ByteArray.mk #[115,116,114,105,99,116]),(ByteArray.mk #[102,105,116]),(ByteArray.mk #[101,106,101,99,116]),(ByteArray.mk #[107,101,101,112])]:List ByteArray)))]⟩ (pa (smA []) <| trivial) ⟨aA (ks:=[]) (ns:=[0]) (bor:=[]) (bobjs:=[]) (qn  x2 e1) (.nil) (by kernel_rfl) trivial,trivial⟩ ?_
 refine AX.seq ?_
 refine AX.si [] [0,3,4] [0] ⟨[(0,vs p1),(3,.sl 0 0 (([(ByteArray.mk #[115,116,114,105,99,116]),(ByteArray.mk #[102,105,116]),(ByteArray.mk #[101,106,101,99,116]),(ByteArray.mk #[107,101,101,112])]:List ByteArray).length)),(4,vi 0)],[(0,.arr 1 (List.map ab ([(ByteArray.mk #[115,116,114,105,99,116]),(ByteArray.mk #[102,105,116]),(ByteArray.mk #[101,106,101,99,116]),(ByteArray.mk #[107,101,101,112])]:List ByteArray)))]⟩ trivial trivial ?_
 refine AX.block ?_
 obtain ⟨x7,e9,h⟩:=ak h
 refine AX.wk (Wk.fg [0,3,4] [0] ⟨[(0,vs p1),(3,.sl 0 0 (([(ByteArray.mk #[115,116,114,105,99,116]),(ByteArray.mk #[102,105,116]),(ByteArray.mk #[101,106,101,99,116]),(ByteArray.mk #[107,101,101,112])]:List ByteArray).length)),(4,vi 0)],[(0,.arr 1 (List.map ab ([(ByteArray.mk #[115,116,114,105,99,116]),(ByteArray.mk #[102,105,116]),(ByteArray.mk #[101,106,101,99,116]),(ByteArray.mk #[107,101,101,112])]:List ByteArray)))]⟩) ?_
 refine AX.mono (qg p1 FU 0 x7 e9) ?_
 rintro _ _ (⟨x8,rfl,rfl,rfl⟩ | ⟨x9,rfl,rfl,rfl⟩)
 ·replace h:=eL h
  refine ae (Wk.fg [2] [] ⟨[(2,vi x8)],[]⟩) ?_
  have hr:=Option.some.inj h
  subst hr
  exact ⟨_,Wk.refl _,.inr rfl,⟨[],by kernel_rfl,trivial,[vi x8],by kernel_rfl,by kernel_rfl⟩⟩
 ·replace h:=eU h
  refine AX.si [] [2] [] ⟨[(2,vi (-1))],[]⟩ trivial trivial ?_
  refine AX.ret ?_
  refine ae (Wk.fg [2] [] ⟨[(2,vi (-1))],[]⟩) ?_
  have hr:=Option.some.inj h
  subst hr
  exact ⟨_,Wk.refl _,.inr rfl,⟨[],by kernel_rfl,trivial,[vi (-1)],by kernel_rfl,by kernel_rfl⟩⟩

theorem cU (p1:Int) (p2:Int) (p3:Int) (r:Bool) (h:cG p1 p2 p3=some r) :
  Eng.al Tryz.prog 50 [vi p1,vi p2,vi p3] [] (vb r) []:=by
 unfold cG at h
 refine Eng.al.body Tryz.func50 (by kernel_rfl) rfl (by kernel_rfl) ?_
 refine AX.wkpost ?_
 refine AX.si [] [0,1,2] [] ⟨[(0,vi p1),(1,vi p2),(2,vi p3)],[]⟩ trivial trivial ?_
 refine AX.seq ?_
 rcases ac (decide (p2≤p1)) with b1 | b1
 ·replace h:=am b1 h
  refine AX.rh [aN,aN,aY (vb true)] [6] [] ⟨[(6,vb (decide (p1≤p3)))],[]⟩ (pa (pb (cb b1)) <| trivial) trivial ?_
  refine AX.ret ?_
  refine ae (Wk.fg [6] [] ⟨[(6,vb (decide (p1≤p3)))],[]⟩) ?_
  have hr:=Option.some.inj h
  subst hr
  exact ⟨_,Wk.refl _,.inr rfl,⟨[],by kernel_rfl,trivial,[vb (decide (p1≤p3))],by kernel_rfl,by kernel_rfl⟩⟩
 ·replace h:=aq b1 h
  refine AX.rh [aN,aN,aY (vb false)] [6] [] ⟨[(6,vb false)],[]⟩ (pa (pb (cb b1)) <| trivial) trivial ?_
  refine AX.ret ?_
  refine ae (Wk.fg [6] [] ⟨[(6,vb false)],[]⟩) ?_
  have hr:=Option.some.inj h
  subst hr
  exact ⟨_,Wk.refl _,.inr rfl,⟨[],by kernel_rfl,trivial,[vb false],by kernel_rfl,by kernel_rfl⟩⟩

theorem oA (p1:ByteArray) (n:Nat) (g:Int) (out:Unit ⊕ Unit) (h:bR p1 n g=some out) :
  AX Tryz.prog 23 0 (codeAt [1,0,1,1] (aU Tryz.f107)) ((fun g:Int=>(⟨[(0,vs p1),(3,vi g)],[]⟩:S)) g) (fun ex s=>(∃ o:Unit,out=Sum.inl o∧ex=.ret∧s=⟨[(2,vb false)],[]⟩)∨(∃ o:Unit,out=Sum.inr o∧ex=.exit 0∧s=⟨[(0,vs p1)],[]⟩)):=by
 refine AX.wkpost ?_
 refine AX.loop (G:=Nat×(Int)) (fun q=>(fun g:Int=>(⟨[(0,vs p1),(3,vi g)],[]⟩:S)) q.2) (fun q=>bR p1 q.1 q.2=some out) (fun q=>q.1) (n,g) h (Wk.refl _) ?_
 clear h
 rintro ⟨fu,v2⟩ h
 cases fu with
 | zero=>cases h
 | succ fu =>
  rw [bR] at h
  refine AX.seq ?_
  refine AX.si [] [0,3,7] [] ⟨[(0,vs p1),(3,vi v2),(7,vb (decide (v2<(p1.size:Int))))],[]⟩ trivial trivial ?_
  rcases ac (decide (v2<(p1.size:Int))) with b1 | b1
  ·replace h:=am b1 h
   refine AX.cT (decide (v2<(p1.size:Int))) b1 ?_
   refine AX.skip ?_
   refine AX.seq ?_
   refine AX.block ?_
   refine AX.seq ?_
   obtain ⟨g2,h⟩:=aw h
   rcases ac (decide ((aC p1 v2.toNat)<97)) with b3 | b3
   ·replace h:=am b3 h
    refine AX.rh [aN,aN,aN,aY (vb true)] [0,3,19] [] ⟨[(0,vs p1),(3,vi v2),(19,vb true)],[]⟩ (pa g2 <| pa (pb (cb b3)) <| trivial) trivial ?_
    refine AX.cond_true (by kernel_rfl) ?_
    refine AX.si [] [2] [] ⟨[(2,vb false)],[]⟩ trivial trivial ?_
    refine AX.ret ?_
    refine ae (Wk.fg [2] [] ⟨[(2,vb false)],[]⟩) ?_
    have hr:=Option.some.inj h
    subst hr
    exact ⟨_,Wk.refl _,.inl ⟨(),rfl,rfl,rfl⟩⟩
   ·replace h:=aq b3 h
    refine AX.rh [aN,aN,aN,aY (vb false)] [0,3,19] [] ⟨[(0,vs p1),(3,vi v2),(19,vb (decide (122<(aC p1 v2.toNat))))],[]⟩ (pa g2 <| pa (pb (cb b3)) <| pa g2 <| trivial) trivial ?_
    rcases ac (decide (122<(aC p1 v2.toNat))) with b4 | b4
    ·replace h:=am b4 h
     refine AX.cT (decide (122<(aC p1 v2.toNat))) b4 ?_
     refine AX.si [] [2] [] ⟨[(2,vb false)],[]⟩ trivial trivial ?_
     refine AX.ret ?_
     refine ae (Wk.fg [2] [] ⟨[(2,vb false)],[]⟩) ?_
     have hr:=Option.some.inj h
     subst hr
     exact ⟨_,Wk.refl _,.inl ⟨(),rfl,rfl,rfl⟩⟩
    ·replace h:=aq b4 h
     refine AX.cF (decide (122<(aC p1 v2.toNat))) b4 ?_
     refine AX.skip ?_
     refine AX.rh [aN,.auto { raw:=true }] [0,3] [] ⟨[(0,vs p1),(3,vi (IntKind.wrap .i64 (v2+1)))],[]⟩ trivial trivial ?_
     refine ⟨(fu,IntKind.wrap .i64 (v2+1)),h,Nat.lt_succ_self _,?_⟩
     refine Wk.trans (Wk.fg [0,3] [] ⟨[(0,vs p1),(3,vi (IntKind.wrap .i64 (v2+1)))],[]⟩) ?_
     exact Wk.refl _
  ·replace h:=aq b1 h
   refine AX.cF (decide (v2<(p1.size:Int))) b1 ?_
   refine AX.exit ?_
   refine ae (Wk.fg [0] [] ⟨[(0,vs p1)],[]⟩) ?_
   have hr:=Option.some.inj h
   subst hr
   exact ⟨_,Wk.refl _,.inr ⟨(),rfl,rfl,rfl⟩⟩

theorem dM (p1:ByteArray) (r:Bool) (h:dL p1=some r) :
  Eng.al Tryz.prog 107 [vs p1] [] (vb r) []:=by
 unfold dL at h
 refine Eng.al.body Tryz.func107 (by kernel_rfl) rfl (by kernel_rfl) ?_
 refine AX.wkpost ?_
 refine AX.si [] [0] [] ⟨[(0,vs p1)],[]⟩ trivial trivial ?_
 refine AX.seq ?_
 refine AX.si [] [0,3] [] ⟨[(0,vs p1),(3,vi 0)],[]⟩ trivial trivial ?_
 refine AX.block ?_
 obtain ⟨x3,e5,h⟩:=ak h
 refine AX.wk (Wk.fg [0,3] [] ⟨[(0,vs p1),(3,vi 0)],[]⟩) ?_
 refine AX.mono (oA p1 FU 0 x3 e5) ?_
 rintro _ _ (⟨x4,rfl,rfl,rfl⟩ | ⟨x5,rfl,rfl,rfl⟩)
 ·replace h:=eL h
  refine ae (Wk.fg [2] [] ⟨[(2,vb false)],[]⟩) ?_
  have hr:=Option.some.inj h
  subst hr
  exact ⟨_,Wk.refl _,.inr rfl,⟨[],by kernel_rfl,trivial,[vb false],by kernel_rfl,by kernel_rfl⟩⟩
 ·replace h:=eU h
  refine AX.seq ?_
  obtain ⟨x6,e6,h⟩:=ak h
  refine AX.rh [aN,aN,.call 50 [vi (p1.size:Int),vi 1,vi 6] hN (ah [] [] (vb x6) [])] [2] [] ⟨[(2,vb x6)],[]⟩ (pa (smA [vi (p1.size:Int),vi 1,vi 6]) <| trivial) ⟨co (cU (p1.size:Int) 1 6 x6 e6) (.cons cS (.cons cS (.cons cS (.nil)))),trivial⟩ ?_
  refine AX.ret ?_
  refine ae (Wk.fg [2] [] ⟨[(2,vb x6)],[]⟩) ?_
  have hr:=Option.some.inj h
  subst hr
  exact ⟨_,Wk.refl _,.inr rfl,⟨[],by kernel_rfl,trivial,[vb x6],by kernel_rfl,by kernel_rfl⟩⟩

theorem nV (p1:List (ByteArray×Bool×Int)) (p2:Int) (p3:Int) (v4:Int) (n:Nat) (g:Int) (out:Unit ⊕ Unit) (h:aZ p1 p2 p3 v4 n g=some out) :
  AX Tryz.prog 67 0 (codeAt [1,0,1,1,1,1,0,1,1,1,1] (aU Tryz.f64)) ((fun g:Int=>(⟨[(0,.bs false 3 (List.map ag p1)),(1,vi p2),(2,vi p3),(7,vi v4),(8,vi g)],[]⟩:S)) g) (fun ex s=>(∃ o:Unit,out=Sum.inl o∧ex=.ret∧s=⟨[(6,vb false)],[]⟩)∨(∃ o:Unit,out=Sum.inr o∧ex=.exit 2∧s=⟨[(0,.bs false 3 (List.map ag p1)),(1,vi p2),(2,vi p3),(7,vi v4)],[]⟩)):=by
 refine AX.wkpost ?_
 refine AX.loop (G:=Nat×(Int)) (fun q=>(fun g:Int=>(⟨[(0,.bs false 3 (List.map ag p1)),(1,vi p2),(2,vi p3),(7,vi v4),(8,vi g)],[]⟩:S)) q.2) (fun q=>aZ p1 p2 p3 v4 q.1 q.2=some out) (fun q=>q.1) (n,g) h (Wk.refl _) ?_
 clear h
 rintro ⟨fu,v7⟩ h
 cases fu with
 | zero=>cases h
 | succ fu =>
  rw [aZ] at h
  refine AX.seq ?_
  refine AX.si [] [0,1,2,7,8,50] [] ⟨[(0,.bs false 3 (List.map ag p1)),(1,vi p2),(2,vi p3),(7,vi v4),(8,vi v7),(50,vb (decide (v7<v4)))],[]⟩ trivial trivial ?_
  rcases ac (decide (v7<v4)) with b9 | b9
  ·replace h:=am b9 h
   refine AX.cT (decide (v7<v4)) b9 ?_
   refine AX.skip ?_
   refine AX.seq ?_
   refine AX.block ?_
   refine AX.seq ?_
   obtain ⟨g10,h⟩:=aw h
   obtain ⟨g11,h⟩:=aw h
   refine AX.dh mixed [aN,aN,aY (.be 3 (ag (gt p1 v7)) 0),aN,aN,aN,aN,aY (.be 3 (ag (gt p1 v4)) 0)] [0,1,2,7,8,63] [] ⟨[(0,.bs false 3 (List.map ag p1)),(1,vi p2),(2,vi p3),(7,vi v4),(8,vi v7),(63,vb (decide (((gt p1 v7).1)=((gt p1 v4).1))))],[]⟩ (pa (aJ ag p1 v7 3 g10) <| pa (aJ ag p1 v4 3 g11) <| trivial) trivial ?_
   rcases ac (decide (((gt p1 v7).1)=((gt p1 v4).1))) with b12 | b12
   ·replace h:=am b12 h
    refine AX.cT (decide (((gt p1 v7).1)=((gt p1 v4).1))) b12 ?_
    refine AX.si [] [6] [] ⟨[(6,vb false)],[]⟩ trivial trivial ?_
    refine AX.ret ?_
    refine ae (Wk.fg [6] [] ⟨[(6,vb false)],[]⟩) ?_
    have hr:=Option.some.inj h
    subst hr
    exact ⟨_,Wk.refl _,.inl ⟨(),rfl,rfl,rfl⟩⟩
   ·replace h:=aq b12 h
    refine AX.cF (decide (((gt p1 v7).1)=((gt p1 v4).1))) b12 ?_
    refine AX.skip ?_
    refine AX.rh [aN,.auto { raw:=true }] [0,1,2,7,8] [] ⟨[(0,.bs false 3 (List.map ag p1)),(1,vi p2),(2,vi p3),(7,vi v4),(8,vi (IntKind.wrap .i64 (v7+1)))],[]⟩ trivial trivial ?_
    refine ⟨(fu,IntKind.wrap .i64 (v7+1)),h,Nat.lt_succ_self _,?_⟩
    refine Wk.trans (Wk.fg [0,1,2,7,8] [] ⟨[(0,.bs false 3 (List.map ag p1)),(1,vi p2),(2,vi p3),(7,vi v4),(8,vi (IntKind.wrap .i64 (v7+1)))],[]⟩) ?_
    exact Wk.refl _
  ·replace h:=aq b9 h
   refine AX.cF (decide (v7<v4)) b9 ?_
   refine AX.exit ?_
   refine ae (Wk.fg [0,1,2,7] [] ⟨[(0,.bs false 3 (List.map ag p1)),(1,vi p2),(2,vi p3),(7,vi v4)],[]⟩) ?_
   have hr:=Option.some.inj h
   subst hr
   exact ⟨_,Wk.refl _,.inr ⟨(),rfl,rfl,rfl⟩⟩

theorem nL (p1:List (ByteArray×Bool×Int)) (p2:Int) (p3:Int) (v4:Int) (n:Nat) (g:Int) (out:Unit ⊕ Unit) (h:cn p1 p2 p3 v4 n g=some out) :
  AX Tryz.prog 67 0 (codeAt [1,0,1,1,1,1,0,1,1,1,1] (aU Tryz.f64)) ((fun g:Int=>(⟨[(0,.bs false 3 (List.map ag p1)),(1,vi p2),(2,vi p3),(7,vi v4),(8,vi g)],[]⟩:S)) g) (fun ex s=>(∃ o:Unit,out=Sum.inl o∧ex=.ret∧s=⟨[(6,vb false)],[]⟩)∨(∃ o:Unit,out=Sum.inr o∧ex=.exit 2∧s=⟨[(0,.bs false 3 (List.map ag p1)),(1,vi p2),(2,vi p3),(7,vi v4)],[]⟩)):=by
 refine AX.wkpost ?_
 refine AX.loop (G:=Nat×(Int)) (fun q=>(fun g:Int=>(⟨[(0,.bs false 3 (List.map ag p1)),(1,vi p2),(2,vi p3),(7,vi v4),(8,vi g)],[]⟩:S)) q.2) (fun q=>cn p1 p2 p3 v4 q.1 q.2=some out) (fun q=>q.1) (n,g) h (Wk.refl _) ?_
 clear h
 rintro ⟨fu,v12⟩ h
 cases fu with
 | zero=>cases h
 | succ fu =>
  rw [cn] at h
  refine AX.seq ?_
  refine AX.si [] [0,1,2,7,8,50] [] ⟨[(0,.bs false 3 (List.map ag p1)),(1,vi p2),(2,vi p3),(7,vi v4),(8,vi v12),(50,vb (decide (v12<v4)))],[]⟩ trivial trivial ?_
  rcases ac (decide (v12<v4)) with b16 | b16
  ·replace h:=am b16 h
   refine AX.cT (decide (v12<v4)) b16 ?_
   refine AX.skip ?_
   refine AX.seq ?_
   refine AX.block ?_
   refine AX.seq ?_
   obtain ⟨g17,h⟩:=aw h
   obtain ⟨g18,h⟩:=aw h
   refine AX.dh mixed [aN,aN,aY (.be 3 (ag (gt p1 v12)) 0),aN,aN,aN,aN,aY (.be 3 (ag (gt p1 v4)) 0)] [0,1,2,7,8,63] [] ⟨[(0,.bs false 3 (List.map ag p1)),(1,vi p2),(2,vi p3),(7,vi v4),(8,vi v12),(63,vb (decide (((gt p1 v12).1)=((gt p1 v4).1))))],[]⟩ (pa (aJ ag p1 v12 3 g17) <| pa (aJ ag p1 v4 3 g18) <| trivial) trivial ?_
   rcases ac (decide (((gt p1 v12).1)=((gt p1 v4).1))) with b19 | b19
   ·replace h:=am b19 h
    refine AX.cT (decide (((gt p1 v12).1)=((gt p1 v4).1))) b19 ?_
    refine AX.si [] [6] [] ⟨[(6,vb false)],[]⟩ trivial trivial ?_
    refine AX.ret ?_
    refine ae (Wk.fg [6] [] ⟨[(6,vb false)],[]⟩) ?_
    have hr:=Option.some.inj h
    subst hr
    exact ⟨_,Wk.refl _,.inl ⟨(),rfl,rfl,rfl⟩⟩
   ·replace h:=aq b19 h
    refine AX.cF (decide (((gt p1 v12).1)=((gt p1 v4).1))) b19 ?_
    refine AX.skip ?_
    refine AX.rh [aN,.auto { raw:=true }] [0,1,2,7,8] [] ⟨[(0,.bs false 3 (List.map ag p1)),(1,vi p2),(2,vi p3),(7,vi v4),(8,vi (IntKind.wrap .i64 (v12+1)))],[]⟩ trivial trivial ?_
    refine ⟨(fu,IntKind.wrap .i64 (v12+1)),h,Nat.lt_succ_self _,?_⟩
    refine Wk.trans (Wk.fg [0,1,2,7,8] [] ⟨[(0,.bs false 3 (List.map ag p1)),(1,vi p2),(2,vi p3),(7,vi v4),(8,vi (IntKind.wrap .i64 (v12+1)))],[]⟩) ?_
    exact Wk.refl _
  ·replace h:=aq b16 h
   refine AX.cF (decide (v12<v4)) b16 ?_
   refine AX.exit ?_
   refine ae (Wk.fg [0,1,2,7] [] ⟨[(0,.bs false 3 (List.map ag p1)),(1,vi p2),(2,vi p3),(7,vi v4)],[]⟩) ?_
   have hr:=Option.some.inj h
   subst hr
   exact ⟨_,Wk.refl _,.inr ⟨(),rfl,rfl,rfl⟩⟩

theorem nB (p1:List (ByteArray×Bool×Int)) (p2:Int) (p3:Int) (n:Nat) (g:Int) (out:Unit ⊕ Unit) (h:bt p1 p2 p3 n g=some out) :
  AX Tryz.prog 67 0 (codeAt [1,0,1,1] (aU Tryz.f64)) ((fun g:Int=>(⟨[(0,.bs false 3 (List.map ag p1)),(1,vi p2),(2,vi p3),(7,vi g)],[]⟩:S)) g) (fun ex s=>(∃ o:Unit,out=Sum.inl o∧ex=.ret∧s=⟨[(6,vb false)],[]⟩)∨(∃ o:Unit,out=Sum.inr o∧ex=.exit 0∧s=⟨[(0,.bs false 3 (List.map ag p1))],[]⟩)):=by
 refine AX.wkpost ?_
 refine AX.loop (G:=Nat×(Int)) (fun q=>(fun g:Int=>(⟨[(0,.bs false 3 (List.map ag p1)),(1,vi p2),(2,vi p3),(7,vi g)],[]⟩:S)) q.2) (fun q=>bt p1 p2 p3 q.1 q.2=some out) (fun q=>q.1) (n,g) h (Wk.refl _) ?_
 clear h
 rintro ⟨fu,v4⟩ h
 cases fu with
 | zero=>cases h
 | succ fu =>
  rw [bt] at h
  refine AX.seq ?_
  refine AX.si [aN,aN,aY (vi (p1.length:Int))] [0,1,2,7,12] [] ⟨[(0,.bs false 3 (List.map ag p1)),(1,vi p2),(2,vi p3),(7,vi v4),(12,vb (decide (v4<(p1.length:Int))))],[]⟩ (pa (⟨trivial,aS ag p1⟩:(True∧(vi ((List.map ag p1).length:Int)=vi (p1.length:Int)))) <| trivial) trivial ?_
  rcases ac (decide (v4<(p1.length:Int))) with b1 | b1
  ·replace h:=am b1 h
   refine AX.cT (decide (v4<(p1.length:Int))) b1 ?_
   refine AX.skip ?_
   refine AX.seq ?_
   refine AX.block ?_
   refine AX.seq ?_
   refine AX.seq ?_
   obtain ⟨g2,h⟩:=aw h
   obtain ⟨x5,e3,h⟩:=ak h
   rcases ac ((!x5)) with b4 | b4
   ·replace h:=am b4 h
    refine AX.rh [aN,aN,aY (.be 3 (ag (gt p1 v4)) 0),aN,aN,.call 107 [vs ((gt p1 v4).1)] hN (ah [] [] (vb x5) []),aY (vb true)] [0,1,2,7,47] [] ⟨[(0,.bs false 3 (List.map ag p1)),(1,vi p2),(2,vi p3),(7,vi v4),(47,vb true)],[]⟩ (pa (aJ ag p1 v4 3 g2) <| pa (smA [vs ((gt p1 v4).1)]) <| pa (pb (cb b4)) <| trivial) ⟨co (dM ((gt p1 v4).1) x5 e3) (.cons cS (.nil)),trivial⟩ ?_
    refine AX.cond_true (by kernel_rfl) ?_
    refine AX.si [] [6] [] ⟨[(6,vb false)],[]⟩ trivial trivial ?_
    refine AX.ret ?_
    refine ae (Wk.fg [6] [] ⟨[(6,vb false)],[]⟩) ?_
    have hr:=Option.some.inj h
    subst hr
    exact ⟨_,Wk.refl _,.inl ⟨(),rfl,rfl,rfl⟩⟩
   ·replace h:=aq b4 h
    rcases ac ((gt p1 v4).2.1) with b5 | b5
    ·replace h:=am b5 h
     rcases ac ((!decide (((gt p1 v4).2.2)=0))) with b6 | b6
     ·replace h:=am b6 h
      refine AX.rh [aN,aN,aY (.be 3 (ag (gt p1 v4)) 0),aN,aN,.call 107 [vs ((gt p1 v4).1)] hN (ah [] [] (vb x5) []),aY (vb false),aN,aN,aN,aY (.be 3 (ag (gt p1 v4)) 0),aN,aY (vb true),aN,aN,aN,aY (.be 3 (ag (gt p1 v4)) 0),aN,aN,aY (vb true)] [0,1,2,7,47] [] ⟨[(0,.bs false 3 (List.map ag p1)),(1,vi p2),(2,vi p3),(7,vi v4),(47,vb true)],[]⟩ (pa (aJ ag p1 v4 3 g2) <| pa (smA [vs ((gt p1 v4).1)]) <| pa (pb (cb b4)) <| pa (aJ ag p1 v4 3 g2) <| pa (pb (cb b5)) <| pa (aJ ag p1 v4 3 g2) <| pa (pb (cb b6)) <| trivial) ⟨co (dM ((gt p1 v4).1) x5 e3) (.cons cS (.nil)),trivial⟩ ?_
      refine AX.cond_true (by kernel_rfl) ?_
      refine AX.si [] [6] [] ⟨[(6,vb false)],[]⟩ trivial trivial ?_
      refine AX.ret ?_
      refine ae (Wk.fg [6] [] ⟨[(6,vb false)],[]⟩) ?_
      have hr:=Option.some.inj h
      subst hr
      exact ⟨_,Wk.refl _,.inl ⟨(),rfl,rfl,rfl⟩⟩
     ·replace h:=aq b6 h
      obtain ⟨x6,e7,h⟩:=ak h
      refine AX.rh (aN::aN::aY (.be 3 (ag (gt p1 v4)) 0)::aN::aN::.call 107 [vs ((gt p1 v4).1)] hN (ah [] [] (vb x5) [])::aY (vb false)::aN::aN::aN::aY (.be 3 (ag (gt p1 v4)) 0)::aN::aY (vb true)::aN::aN::aN::aY (.be 3 (ag (gt p1 v4)) 0)::aN::aN::aY (vb false)::aN::aN::aN::aN::aN::aY (.be 3 (ag (gt p1 v4)) 0)::aN::aN::aN::aN::.call 50 [vi ((gt p1 v4).2.2),vi p2,vi p3] hN (ah [] [] (vb x6) [])::[]) [0,1,2,7,47] [] ⟨[(0,.bs false 3 (List.map ag p1)),(1,vi p2),(2,vi p3),(7,vi v4),(47,vb (!x6))],[]⟩ (pa (aJ ag p1 v4 3 g2) <| pa (smA [vs ((gt p1 v4).1)]) <| pa (pb (cb b4)) <| pa (aJ ag p1 v4 3 g2) <| pa (pb (cb b5)) <| pa (aJ ag p1 v4 3 g2) <| pa (pb (cb b6)) <| pa (aJ ag p1 v4 3 g2) <| pa (smA [vi ((gt p1 v4).2.2),vi p2,vi p3]) <| trivial) ⟨co (dM ((gt p1 v4).1) x5 e3) (.cons cS (.nil)),co (cU ((gt p1 v4).2.2) p2 p3 x6 e7) (.cons cS (.cons cS (.cons cS (.nil)))),trivial⟩ ?_
      rcases ac ((!x6)) with b8 | b8
      ·replace h:=am b8 h
       refine AX.cT ((!x6)) b8 ?_
       refine AX.si [] [6] [] ⟨[(6,vb false)],[]⟩ trivial trivial ?_
       refine AX.ret ?_
       refine ae (Wk.fg [6] [] ⟨[(6,vb false)],[]⟩) ?_
       have hr:=Option.some.inj h
       subst hr
       exact ⟨_,Wk.refl _,.inl ⟨(),rfl,rfl,rfl⟩⟩
      ·replace h:=aq b8 h
       refine AX.cF ((!x6)) b8 ?_
       refine AX.skip ?_
       refine AX.si [] [0,1,2,7,8] [] ⟨[(0,.bs false 3 (List.map ag p1)),(1,vi p2),(2,vi p3),(7,vi v4),(8,vi 0)],[]⟩ trivial trivial ?_
       refine AX.block ?_
       obtain ⟨x8,e13,h⟩:=ak h
       refine AX.wk (Wk.fg [0,1,2,7,8] [] ⟨[(0,.bs false 3 (List.map ag p1)),(1,vi p2),(2,vi p3),(7,vi v4),(8,vi 0)],[]⟩) ?_
       refine AX.mono (nV p1 p2 p3 v4 FU 0 x8 e13) ?_
       rintro _ _ (⟨x9,rfl,rfl,rfl⟩ | ⟨x10,rfl,rfl,rfl⟩)
       ·replace h:=eL h
        refine ae (Wk.fg [6] [] ⟨[(6,vb false)],[]⟩) ?_
        have hr:=Option.some.inj h
        subst hr
        exact ⟨_,Wk.refl _,.inl ⟨(),rfl,rfl,rfl⟩⟩
       ·replace h:=eU h
        refine AX.rh [aN,.auto { raw:=true }] [0,1,2,7] [] ⟨[(0,.bs false 3 (List.map ag p1)),(1,vi p2),(2,vi p3),(7,vi (IntKind.wrap .i64 (v4+1)))],[]⟩ trivial trivial ?_
        refine ⟨(fu,IntKind.wrap .i64 (v4+1)),h,Nat.lt_succ_self _,?_⟩
        refine Wk.trans (Wk.fg [0,1,2,7] [] ⟨[(0,.bs false 3 (List.map ag p1)),(1,vi p2),(2,vi p3),(7,vi (IntKind.wrap .i64 (v4+1)))],[]⟩) ?_
        exact Wk.refl _
    ·replace h:=aq b5 h
     obtain ⟨x11,e14,h⟩:=ak h
     refine AX.rh (aN::aN::aY (.be 3 (ag (gt p1 v4)) 0)::aN::aN::.call 107 [vs ((gt p1 v4).1)] hN (ah [] [] (vb x5) [])::aY (vb false)::aN::aN::aN::aY (.be 3 (ag (gt p1 v4)) 0)::aN::aY (vb false)::aN::aN::aN::aN::aN::aN::aN::aN::aN::aN::aN::aN::aY (.be 3 (ag (gt p1 v4)) 0)::aN::aN::aN::aN::.call 50 [vi ((gt p1 v4).2.2),vi p2,vi p3] hN (ah [] [] (vb x11) [])::[]) [0,1,2,7,47] [] ⟨[(0,.bs false 3 (List.map ag p1)),(1,vi p2),(2,vi p3),(7,vi v4),(47,vb (!x11))],[]⟩ (pa (aJ ag p1 v4 3 g2) <| pa (smA [vs ((gt p1 v4).1)]) <| pa (pb (cb b4)) <| pa (aJ ag p1 v4 3 g2) <| pa (pb (cb b5)) <| pa (aJ ag p1 v4 3 g2) <| pa (smA [vi ((gt p1 v4).2.2),vi p2,vi p3]) <| trivial) ⟨co (dM ((gt p1 v4).1) x5 e3) (.cons cS (.nil)),co (cU ((gt p1 v4).2.2) p2 p3 x11 e14) (.cons cS (.cons cS (.cons cS (.nil)))),trivial⟩ ?_
     rcases ac ((!x11)) with b15 | b15
     ·replace h:=am b15 h
      refine AX.cT ((!x11)) b15 ?_
      refine AX.si [] [6] [] ⟨[(6,vb false)],[]⟩ trivial trivial ?_
      refine AX.ret ?_
      refine ae (Wk.fg [6] [] ⟨[(6,vb false)],[]⟩) ?_
      have hr:=Option.some.inj h
      subst hr
      exact ⟨_,Wk.refl _,.inl ⟨(),rfl,rfl,rfl⟩⟩
     ·replace h:=aq b15 h
      refine AX.cF ((!x11)) b15 ?_
      refine AX.skip ?_
      refine AX.si [] [0,1,2,7,8] [] ⟨[(0,.bs false 3 (List.map ag p1)),(1,vi p2),(2,vi p3),(7,vi v4),(8,vi 0)],[]⟩ trivial trivial ?_
      refine AX.block ?_
      obtain ⟨x13,e20,h⟩:=ak h
      refine AX.wk (Wk.fg [0,1,2,7,8] [] ⟨[(0,.bs false 3 (List.map ag p1)),(1,vi p2),(2,vi p3),(7,vi v4),(8,vi 0)],[]⟩) ?_
      refine AX.mono (nL p1 p2 p3 v4 FU 0 x13 e20) ?_
      rintro _ _ (⟨x14,rfl,rfl,rfl⟩ | ⟨x15,rfl,rfl,rfl⟩)
      ·replace h:=eL h
       refine ae (Wk.fg [6] [] ⟨[(6,vb false)],[]⟩) ?_
       have hr:=Option.some.inj h
       subst hr
       exact ⟨_,Wk.refl _,.inl ⟨(),rfl,rfl,rfl⟩⟩
      ·replace h:=eU h
       refine AX.rh [aN,.auto { raw:=true }] [0,1,2,7] [] ⟨[(0,.bs false 3 (List.map ag p1)),(1,vi p2),(2,vi p3),(7,vi (IntKind.wrap .i64 (v4+1)))],[]⟩ trivial trivial ?_
       refine ⟨(fu,IntKind.wrap .i64 (v4+1)),h,Nat.lt_succ_self _,?_⟩
       refine Wk.trans (Wk.fg [0,1,2,7] [] ⟨[(0,.bs false 3 (List.map ag p1)),(1,vi p2),(2,vi p3),(7,vi (IntKind.wrap .i64 (v4+1)))],[]⟩) ?_
       exact Wk.refl _
  ·replace h:=aq b1 h
   refine AX.cF (decide (v4<(p1.length:Int))) b1 ?_
   refine AX.exit ?_
   refine ae (Wk.fg [0] [] ⟨[(0,.bs false 3 (List.map ag p1))],[]⟩) ?_
   have hr:=Option.some.inj h
   subst hr
   exact ⟨_,Wk.refl _,.inr ⟨(),rfl,rfl,rfl⟩⟩

theorem qh (p1:List (ByteArray×Bool×Int)) (p2:Int) (p3:Int) (r:Bool) (h:fD p1 p2 p3=some r) :
  Eng.al Tryz.prog 64 [.bs false 3 (List.map ag p1),vi p2,vi p3] [] (vb r) []:=by
 unfold fD at h
 refine Eng.al.body Tryz.func64 (by kernel_rfl) rfl (by kernel_rfl) ?_
 refine AX.wkpost ?_
 refine AX.si [] [0,1,2] [] ⟨[(0,.bs false 3 (List.map ag p1)),(1,vi p2),(2,vi p3)],[]⟩ trivial trivial ?_
 refine AX.seq ?_
 refine AX.si [] [0,1,2,7] [] ⟨[(0,.bs false 3 (List.map ag p1)),(1,vi p2),(2,vi p3),(7,vi 0)],[]⟩ trivial trivial ?_
 refine AX.block ?_
 obtain ⟨x16,e21,h⟩:=ak h
 refine AX.wk (Wk.fg [0,1,2,7] [] ⟨[(0,.bs false 3 (List.map ag p1)),(1,vi p2),(2,vi p3),(7,vi 0)],[]⟩) ?_
 refine AX.mono (nB p1 p2 p3 FU 0 x16 e21) ?_
 rintro _ _ (⟨x17,rfl,rfl,rfl⟩ | ⟨x18,rfl,rfl,rfl⟩)
 ·replace h:=eL h
  refine ae (Wk.fg [6] [] ⟨[(6,vb false)],[]⟩) ?_
  have hr:=Option.some.inj h
  subst hr
  exact ⟨_,Wk.refl _,.inr rfl,⟨[],by kernel_rfl,trivial,[vb false],by kernel_rfl,by kernel_rfl⟩⟩
 ·replace h:=eU h
  refine AX.si [aN,aY (vi (p1.length:Int))] [6] [] ⟨[(6,vb (decide ((p1.length:Int)≤12)))],[]⟩ (pa (⟨trivial,aS ag p1⟩:(True∧(vi ((List.map ag p1).length:Int)=vi (p1.length:Int)))) <| trivial) trivial ?_
  refine AX.ret ?_
  refine ae (Wk.fg [6] [] ⟨[(6,vb (decide ((p1.length:Int)≤12)))],[]⟩) ?_
  have hr:=Option.some.inj h
  subst hr
  exact ⟨_,Wk.refl _,.inr rfl,⟨[],by kernel_rfl,trivial,[vb (decide ((p1.length:Int)≤12))],by kernel_rfl,by kernel_rfl⟩⟩

theorem qt (p1:List (ByteArray×Int)) (v3:Int) (n:Nat) (g:Int) (out:Int) (h:cW p1 v3 n g=some out) :
  AX Tryz.prog 21 0 (codeAt [1,1,0,1,1,1,1,0,1,1] (aU Tryz.f65)) ((fun g:Int=>(⟨[(0,.bs false 2 (List.map aa p1)),(3,vi g),(4,vi v3)],[]⟩:S)) g) (fun ex s=>ex=.exit 2∧s=(fun o:Int=>(⟨[(0,.bs false 2 (List.map aa p1)),(3,vi o),(4,vi v3)],[]⟩:S)) out):=by
 refine AX.wkpost ?_
 refine AX.loop (G:=Nat×(Int)) (fun q=>(fun g:Int=>(⟨[(0,.bs false 2 (List.map aa p1)),(3,vi g),(4,vi v3)],[]⟩:S)) q.2) (fun q=>cW p1 v3 q.1 q.2=some out) (fun q=>q.1) (n,g) h (Wk.refl _) ?_
 clear h
 rintro ⟨fu,v4⟩ h
 cases fu with
 | zero=>cases h
 | succ fu =>
  rw [cW] at h
  refine AX.seq ?_
  refine AX.seq ?_
  obtain ⟨g2,h⟩:=aw h
  refine AX.rh [aN,aN,aN,aY (.be 2 (aa (gt p1 v3)) 0)] [0,3,4,17] [] ⟨[(0,.bs false 2 (List.map aa p1)),(3,vi v4),(4,vi v3),(17,vb (decide (v4≤((gt p1 v3).2))))],[]⟩ (pa (aJ aa p1 v3 2 g2) <| trivial) trivial ?_
  rcases ac (decide (v4≤((gt p1 v3).2))) with b3 | b3
  ·replace h:=am b3 h
   refine AX.cT (decide (v4≤((gt p1 v3).2))) b3 ?_
   refine AX.skip ?_
   refine AX.block ?_
   refine AX.rh [aN,.auto { raw:=true }] [0,3,4] [] ⟨[(0,.bs false 2 (List.map aa p1)),(3,vi (IntKind.wrap .i64 (v4*2))),(4,vi v3)],[]⟩ trivial trivial ?_
   refine ⟨(fu,IntKind.wrap .i64 (v4*2)),h,Nat.lt_succ_self _,?_⟩
   refine Wk.trans (Wk.fg [0,3,4] [] ⟨[(0,.bs false 2 (List.map aa p1)),(3,vi (IntKind.wrap .i64 (v4*2))),(4,vi v3)],[]⟩) ?_
   exact Wk.refl _
  ·replace h:=aq b3 h
   refine AX.cF (decide (v4≤((gt p1 v3).2))) b3 ?_
   refine AX.exit ?_
   refine ae (Wk.fg [0,3,4] [] ⟨[(0,.bs false 2 (List.map aa p1)),(3,vi v4),(4,vi v3)],[]⟩) ?_
   have hr:=Option.some.inj h
   subst hr
   exact ⟨_,Wk.refl _,⟨rfl,rfl⟩⟩

theorem ql (p1:List (ByteArray×Int)) (n:Nat) (g:Int×Int) (out:Int) (h:cC p1 n g.1 g.2=some out) :
  AX Tryz.prog 21 0 (codeAt [1,1,0,1,1] (aU Tryz.f65)) ((fun g:Int×Int=>(⟨[(0,.bs false 2 (List.map aa p1)),(3,vi g.1),(4,vi g.2)],[]⟩:S)) g) (fun ex s=>ex=.exit 0∧s=(fun o:Int=>(⟨[(3,vi o)],[]⟩:S)) out):=by
 refine AX.wkpost ?_
 refine AX.loop (G:=Nat×(Int×Int)) (fun q=>(fun g:Int×Int=>(⟨[(0,.bs false 2 (List.map aa p1)),(3,vi g.1),(4,vi g.2)],[]⟩:S)) q.2) (fun q=>cC p1 q.1 q.2.1 q.2.2=some out) (fun q=>q.1) (n,g) h (Wk.refl _) ?_
 clear h
 rintro ⟨fu,v2,v3⟩ h
 cases fu with
 | zero=>cases h
 | succ fu =>
  rw [cC] at h
  refine AX.seq ?_
  refine AX.si [aN,aN,aY (vi (p1.length:Int))] [0,3,4,8] [] ⟨[(0,.bs false 2 (List.map aa p1)),(3,vi v2),(4,vi v3),(8,vb (decide (v3<(p1.length:Int))))],[]⟩ (pa (⟨trivial,aS aa p1⟩:(True∧(vi ((List.map aa p1).length:Int)=vi (p1.length:Int)))) <| trivial) trivial ?_
  rcases ac (decide (v3<(p1.length:Int))) with b1 | b1
  ·replace h:=am b1 h
   refine AX.cT (decide (v3<(p1.length:Int))) b1 ?_
   refine AX.skip ?_
   refine AX.seq ?_
   refine AX.block ?_
   refine AX.block ?_
   obtain ⟨x5,e4,h⟩:=ak h
   refine AX.wk (Wk.fg [0,3,4] [] ⟨[(0,.bs false 2 (List.map aa p1)),(3,vi v2),(4,vi v3)],[]⟩) ?_
   refine AX.mono (qt p1 v3 FU v2 x5 e4) ?_
   rintro _ _ ⟨rfl,rfl⟩
   skip
   refine AX.rh [aN,.auto { raw:=true }] [0,3,4] [] ⟨[(0,.bs false 2 (List.map aa p1)),(3,vi x5),(4,vi (IntKind.wrap .i64 (v3+1)))],[]⟩ trivial trivial ?_
   refine ⟨(fu,(x5,IntKind.wrap .i64 (v3+1))),h,Nat.lt_succ_self _,?_⟩
   refine Wk.trans (Wk.fg [0,3,4] [] ⟨[(0,.bs false 2 (List.map aa p1)),(3,vi x5),(4,vi (IntKind.wrap .i64 (v3+1)))],[]⟩) ?_
   exact Wk.refl _
  ·replace h:=aq b1 h
   refine AX.cF (decide (v3<(p1.length:Int))) b1 ?_
   refine AX.exit ?_
   refine ae (Wk.fg [3] [] ⟨[(3,vi v2)],[]⟩) ?_
   have hr:=Option.some.inj h
   subst hr
   exact ⟨_,Wk.refl _,⟨rfl,rfl⟩⟩

theorem mU (p1:List (ByteArray×Int)) (r:Int) (h:fR p1=some r) :
  Eng.al Tryz.prog 65 [.bs false 2 (List.map aa p1)] [] (vi r) []:=by
 unfold fR at h
 refine Eng.al.body Tryz.func65 (by kernel_rfl) rfl (by kernel_rfl) ?_
 refine AX.wkpost ?_
 refine AX.si [] [0] [] ⟨[(0,.bs false 2 (List.map aa p1))],[]⟩ trivial trivial ?_
 refine AX.si [] [0,3] [] ⟨[(0,.bs false 2 (List.map aa p1)),(3,vi 1)],[]⟩ trivial trivial ?_
 refine AX.seq ?_
 refine AX.si [] [0,3,4] [] ⟨[(0,.bs false 2 (List.map aa p1)),(3,vi 1),(4,vi 0)],[]⟩ trivial trivial ?_
 refine AX.block ?_
 obtain ⟨x6,e5,h⟩:=ak h
 refine AX.wk (Wk.fg [0,3,4] [] ⟨[(0,.bs false 2 (List.map aa p1)),(3,vi 1),(4,vi 0)],[]⟩) ?_
 refine AX.mono (ql p1 FU (1,0) x6 e5) ?_
 rintro _ _ ⟨rfl,rfl⟩
 skip
 refine AX.si [] [2] [] ⟨[(2,vi x6)],[]⟩ trivial trivial ?_
 refine AX.ret ?_
 refine ae (Wk.fg [2] [] ⟨[(2,vi x6)],[]⟩) ?_
 have hr:=Option.some.inj h
 subst hr
 exact ⟨_,Wk.refl _,.inr rfl,⟨[],by kernel_rfl,trivial,[vi x6],by kernel_rfl,by kernel_rfl⟩⟩

theorem qp (p1:List (ByteArray×Int)) (p2:ByteArray) (n:Nat) (g:Int) (out:Int ⊕ Unit) (h:cY p1 p2 n g=some out) :
  AX Tryz.prog 20 0 (codeAt [1,0,1,1] (aU Tryz.f106)) ((fun g:Int=>(⟨[(0,.bs false 2 (List.map aa p1)),(1,vs p2),(5,vi g)],[]⟩:S)) g) (fun ex s=>(∃ o:Int,out=Sum.inl o∧ex=.ret∧s=⟨[(4,vi o)],[]⟩)∨(∃ o:Unit,out=Sum.inr o∧ex=.exit 0∧s=⟨[],[]⟩)):=by
 refine AX.wkpost ?_
 refine AX.loop (G:=Nat×(Int)) (fun q=>(fun g:Int=>(⟨[(0,.bs false 2 (List.map aa p1)),(1,vs p2),(5,vi g)],[]⟩:S)) q.2) (fun q=>cY p1 p2 q.1 q.2=some out) (fun q=>q.1) (n,g) h (Wk.refl _) ?_
 clear h
 rintro ⟨fu,v3⟩ h
 cases fu with
 | zero=>cases h
 | succ fu =>
  rw [cY] at h
  refine AX.seq ?_
  refine AX.si [aN,aN,aY (vi (p1.length:Int))] [0,1,5,9] [] ⟨[(0,.bs false 2 (List.map aa p1)),(1,vs p2),(5,vi v3),(9,vb (decide (v3<(p1.length:Int))))],[]⟩ (pa (⟨trivial,aS aa p1⟩:(True∧(vi ((List.map aa p1).length:Int)=vi (p1.length:Int)))) <| trivial) trivial ?_
  rcases ac (decide (v3<(p1.length:Int))) with b1 | b1
  ·replace h:=am b1 h
   refine AX.cT (decide (v3<(p1.length:Int))) b1 ?_
   refine AX.skip ?_
   refine AX.seq ?_
   refine AX.block ?_
   refine AX.seq ?_
   obtain ⟨g2,h⟩:=aw h
   refine AX.rh [aN,aN,aY (.be 2 (aa (gt p1 v3)) 0)] [0,1,5,18] [] ⟨[(0,.bs false 2 (List.map aa p1)),(1,vs p2),(5,vi v3),(18,vb (decide (((gt p1 v3).1)=p2)))],[]⟩ (pa (aJ aa p1 v3 2 g2) <| trivial) trivial ?_
   rcases ac (decide (((gt p1 v3).1)=p2)) with b3 | b3
   ·replace h:=am b3 h
    refine AX.cT (decide (((gt p1 v3).1)=p2)) b3 ?_
    refine AX.si [] [4] [] ⟨[(4,vi v3)],[]⟩ trivial trivial ?_
    refine AX.ret ?_
    refine ae (Wk.fg [4] [] ⟨[(4,vi v3)],[]⟩) ?_
    have hr:=Option.some.inj h
    subst hr
    exact ⟨_,Wk.refl _,.inl ⟨v3,rfl,rfl,rfl⟩⟩
   ·replace h:=aq b3 h
    refine AX.cF (decide (((gt p1 v3).1)=p2)) b3 ?_
    refine AX.skip ?_
    refine AX.rh [aN,.auto { raw:=true }] [0,1,5] [] ⟨[(0,.bs false 2 (List.map aa p1)),(1,vs p2),(5,vi (IntKind.wrap .i64 (v3+1)))],[]⟩ trivial trivial ?_
    refine ⟨(fu,IntKind.wrap .i64 (v3+1)),h,Nat.lt_succ_self _,?_⟩
    refine Wk.trans (Wk.fg [0,1,5] [] ⟨[(0,.bs false 2 (List.map aa p1)),(1,vs p2),(5,vi (IntKind.wrap .i64 (v3+1)))],[]⟩) ?_
    exact Wk.refl _
  ·replace h:=aq b1 h
   refine AX.cF (decide (v3<(p1.length:Int))) b1 ?_
   refine AX.exit ?_
   refine ae (Wk.fg [] [] ⟨[],[]⟩) ?_
   have hr:=Option.some.inj h
   subst hr
   exact ⟨_,Wk.refl _,.inr ⟨(),rfl,rfl,rfl⟩⟩

theorem ne (p1:List (ByteArray×Int)) (p2:ByteArray) (r:Int) (h:fO p1 p2=some r) :
  Eng.al Tryz.prog 106 [.bs false 2 (List.map aa p1),vs p2] [] (vi r) []:=by
 unfold fO at h
 refine Eng.al.body Tryz.func106 (by kernel_rfl) rfl (by kernel_rfl) ?_
 refine AX.wkpost ?_
 refine AX.si [] [0,1] [] ⟨[(0,.bs false 2 (List.map aa p1)),(1,vs p2)],[]⟩ trivial trivial ?_
 refine AX.seq ?_
 refine AX.si [] [0,1,5] [] ⟨[(0,.bs false 2 (List.map aa p1)),(1,vs p2),(5,vi 0)],[]⟩ trivial trivial ?_
 refine AX.block ?_
 obtain ⟨x4,e4,h⟩:=ak h
 refine AX.wk (Wk.fg [0,1,5] [] ⟨[(0,.bs false 2 (List.map aa p1)),(1,vs p2),(5,vi 0)],[]⟩) ?_
 refine AX.mono (qp p1 p2 FU 0 x4 e4) ?_
 rintro _ _ (⟨x5,rfl,rfl,rfl⟩ | ⟨x6,rfl,rfl,rfl⟩)
 ·replace h:=eL h
  refine ae (Wk.fg [4] [] ⟨[(4,vi x5)],[]⟩) ?_
  have hr:=Option.some.inj h
  subst hr
  exact ⟨_,Wk.refl _,.inr rfl,⟨[],by kernel_rfl,trivial,[vi x5],by kernel_rfl,by kernel_rfl⟩⟩
 ·replace h:=eU h
  refine AX.si [] [4] [] ⟨[(4,vi (-1))],[]⟩ trivial trivial ?_
  refine AX.ret ?_
  refine ae (Wk.fg [4] [] ⟨[(4,vi (-1))],[]⟩) ?_
  have hr:=Option.some.inj h
  subst hr
  exact ⟨_,Wk.refl _,.inr rfl,⟨[],by kernel_rfl,trivial,[vi (-1)],by kernel_rfl,by kernel_rfl⟩⟩

theorem ou (p1:List (ByteArray×Int)) (p2:Int) (p3:Int) (n:Nat) (g:Int) (out:Unit ⊕ Unit) (h:bS p1 p2 p3 n g=some out) :
  AX Tryz.prog 47 0 (codeAt [1,0,1,1] (aU Tryz.f108)) ((fun g:Int=>(⟨[(0,.bs false 2 (List.map aa p1)),(1,vi p2),(2,vi p3),(7,vi g)],[]⟩:S)) g) (fun ex s=>(∃ o:Unit,out=Sum.inl o∧ex=.ret∧s=⟨[(6,vb false)],[]⟩)∨(∃ o:Unit,out=Sum.inr o∧ex=.exit 0∧s=⟨[(0,.bs false 2 (List.map aa p1))],[]⟩)):=by
 refine AX.wkpost ?_
 refine AX.loop (G:=Nat×(Int)) (fun q=>(fun g:Int=>(⟨[(0,.bs false 2 (List.map aa p1)),(1,vi p2),(2,vi p3),(7,vi g)],[]⟩:S)) q.2) (fun q=>bS p1 p2 p3 q.1 q.2=some out) (fun q=>q.1) (n,g) h (Wk.refl _) ?_
 clear h
 rintro ⟨fu,v4⟩ h
 cases fu with
 | zero=>cases h
 | succ fu =>
  rw [bS] at h
  refine AX.seq ?_
  refine AX.si [aN,aN,aY (vi (p1.length:Int))] [0,1,2,7,11] [] ⟨[(0,.bs false 2 (List.map aa p1)),(1,vi p2),(2,vi p3),(7,vi v4),(11,vb (decide (v4<(p1.length:Int))))],[]⟩ (pa (⟨trivial,aS aa p1⟩:(True∧(vi ((List.map aa p1).length:Int)=vi (p1.length:Int)))) <| trivial) trivial ?_
  rcases ac (decide (v4<(p1.length:Int))) with b1 | b1
  ·replace h:=am b1 h
   refine AX.cT (decide (v4<(p1.length:Int))) b1 ?_
   refine AX.skip ?_
   refine AX.seq ?_
   refine AX.block ?_
   refine AX.seq ?_
   obtain ⟨g2,h⟩:=aw h
   obtain ⟨x5,e3,h⟩:=ak h
   rcases ac ((!x5)) with b4 | b4
   ·replace h:=am b4 h
    refine AX.dh mixed [aN,aN,aY (.be 2 (aa (gt p1 v4)) 0),aN,aN,.call 107 [vs ((gt p1 v4).1)] hN (ah [] [] (vb x5) []),aY (vb true)] [0,1,2,7,43] [] ⟨[(0,.bs false 2 (List.map aa p1)),(1,vi p2),(2,vi p3),(7,vi v4),(43,vb true)],[]⟩ (pa (aJ aa p1 v4 2 g2) <| pa (smA [vs ((gt p1 v4).1)]) <| pa (pb (cb b4)) <| trivial) ⟨co (dM ((gt p1 v4).1) x5 e3) (.cons cS (.nil)),trivial⟩ ?_
    refine AX.cond_true (by kernel_rfl) ?_
    refine AX.si [] [6] [] ⟨[(6,vb false)],[]⟩ trivial trivial ?_
    refine AX.ret ?_
    refine ae (Wk.fg [6] [] ⟨[(6,vb false)],[]⟩) ?_
    have hr:=Option.some.inj h
    subst hr
    exact ⟨_,Wk.refl _,.inl ⟨(),rfl,rfl,rfl⟩⟩
   ·replace h:=aq b4 h
    obtain ⟨x6,e5,h⟩:=ak h
    rcases ac ((!x6)) with b6 | b6
    ·replace h:=am b6 h
     refine AX.dh mixed [aN,aN,aY (.be 2 (aa (gt p1 v4)) 0),aN,aN,.call 107 [vs ((gt p1 v4).1)] hN (ah [] [] (vb x5) []),aY (vb false),aN,aN,aN,aY (.be 2 (aa (gt p1 v4)) 0),aN,aN,aN,aN,.call 50 [vi ((gt p1 v4).2),vi p2,vi p3] hN (ah [] [] (vb x6) []),aY (vb true)] [0,1,2,7,43] [] ⟨[(0,.bs false 2 (List.map aa p1)),(1,vi p2),(2,vi p3),(7,vi v4),(43,vb true)],[]⟩ (pa (aJ aa p1 v4 2 g2) <| pa (smA [vs ((gt p1 v4).1)]) <| pa (pb (cb b4)) <| pa (aJ aa p1 v4 2 g2) <| pa (smA [vi ((gt p1 v4).2),vi p2,vi p3]) <| pa (pb (cb b6)) <| trivial) ⟨co (dM ((gt p1 v4).1) x5 e3) (.cons cS (.nil)),co (cU ((gt p1 v4).2) p2 p3 x6 e5) (.cons cS (.cons cS (.cons cS (.nil)))),trivial⟩ ?_
     refine AX.cond_true (by kernel_rfl) ?_
     refine AX.si [] [6] [] ⟨[(6,vb false)],[]⟩ trivial trivial ?_
     refine AX.ret ?_
     refine ae (Wk.fg [6] [] ⟨[(6,vb false)],[]⟩) ?_
     have hr:=Option.some.inj h
     subst hr
     exact ⟨_,Wk.refl _,.inl ⟨(),rfl,rfl,rfl⟩⟩
    ·replace h:=aq b6 h
     obtain ⟨g7,h⟩:=aw h
     obtain ⟨x7,e8,h⟩:=ak h
     refine AX.dh mixed [aN,aN,aY (.be 2 (aa (gt p1 v4)) 0),aN,aN,.call 107 [vs ((gt p1 v4).1)] hN (ah [] [] (vb x5) []),aY (vb false),aN,aN,aN,aY (.be 2 (aa (gt p1 v4)) 0),aN,aN,aN,aN,.call 50 [vi ((gt p1 v4).2),vi p2,vi p3] hN (ah [] [] (vb x6) []),aY (vb false),aN,aN,aN,aN,.auto { y:=some (.bs false 2 (List.map aa (sub p1 (0:Int) v4))) },aN,aN,aY (.be 2 (aa (gt p1 v4)) 0),aN,aN,.call 106 [.bs false 2 (List.map aa (sub p1 (0:Int) v4)),vs ((gt p1 v4).1)] hN (ah [] [] (vi x7) [])] [0,1,2,7,43] [] ⟨[(0,.bs false 2 (List.map aa p1)),(1,vi p2),(2,vi p3),(7,vi v4),(43,vb (decide (0≤x7)))],[]⟩ (pa (aJ aa p1 v4 2 g2) <| pa (smA [vs ((gt p1 v4).1)]) <| pa (pb (cb b4)) <| pa (aJ aa p1 v4 2 g2) <| pa (smA [vi ((gt p1 v4).2),vi p2,vi p3]) <| pa (pb (cb b6)) <| pa (⟨by first | exact g7 | simpa only [List.length_map] using g7,by first | exact iA aa p1 (0:Int) v4 false 2 | (simp only [List.length_map];exact iA aa p1 (0:Int) v4 false 2)⟩:((0≤(0:Int)∧(0:Int)≤v4∧v4≤((List.map aa p1).length:Int)∧((List.map aa p1).length:Int)≤((List.map aa p1).length:Int))∧(AV.bs false 2 (((List.map aa p1).drop (0:Int).toNat).take (v4.toNat - (0:Int).toNat))=(.bs false 2 (List.map aa (sub p1 (0:Int) v4)):AV)))) <| pa (aJ aa p1 v4 2 g2) <| pa (smA [.bs false 2 (List.map aa (sub p1 (0:Int) v4)),vs ((gt p1 v4).1)]) <| trivial) ⟨co (dM ((gt p1 v4).1) x5 e3) (.cons cS (.nil)),co (cU ((gt p1 v4).2) p2 p3 x6 e5) (.cons cS (.cons cS (.cons cS (.nil)))),co (ne (sub p1 (0:Int) v4) ((gt p1 v4).1) x7 e8) (.cons cS (.cons cS (.nil))),trivial⟩ ?_
     rcases ac (decide (0≤x7)) with b9 | b9
     ·replace h:=am b9 h
      refine AX.cT (decide (0≤x7)) b9 ?_
      refine AX.si [] [6] [] ⟨[(6,vb false)],[]⟩ trivial trivial ?_
      refine AX.ret ?_
      refine ae (Wk.fg [6] [] ⟨[(6,vb false)],[]⟩) ?_
      have hr:=Option.some.inj h
      subst hr
      exact ⟨_,Wk.refl _,.inl ⟨(),rfl,rfl,rfl⟩⟩
     ·replace h:=aq b9 h
      refine AX.cF (decide (0≤x7)) b9 ?_
      refine AX.skip ?_
      refine AX.rh [aN,.auto { raw:=true }] [0,1,2,7] [] ⟨[(0,.bs false 2 (List.map aa p1)),(1,vi p2),(2,vi p3),(7,vi (IntKind.wrap .i64 (v4+1)))],[]⟩ trivial trivial ?_
      refine ⟨(fu,IntKind.wrap .i64 (v4+1)),h,Nat.lt_succ_self _,?_⟩
      refine Wk.trans (Wk.fg [0,1,2,7] [] ⟨[(0,.bs false 2 (List.map aa p1)),(1,vi p2),(2,vi p3),(7,vi (IntKind.wrap .i64 (v4+1)))],[]⟩) ?_
      exact Wk.refl _
  ·replace h:=aq b1 h
   refine AX.cF (decide (v4<(p1.length:Int))) b1 ?_
   refine AX.exit ?_
   refine ae (Wk.fg [0] [] ⟨[(0,.bs false 2 (List.map aa p1))],[]⟩) ?_
   have hr:=Option.some.inj h
   subst hr
   exact ⟨_,Wk.refl _,.inr ⟨(),rfl,rfl,rfl⟩⟩

end Go.Eng
