/- What is proved here: each function keeps to its model, whatever its arguments, wherever the model has an answer. Printed by gen.py. -/
import Derived.Test.YtdnlgpmmkchopaaGreatDoorCExactRunDeskWalk2
import Derived.Test.YtdnlgpmmkchopaaGreatDoorProg
import Derived.Test.YtdnlgpmmkchopaaGreatDoorCExactRunDeskShelf
import Derived.KernelRfl
set_option linter.unusedVariables false
set_option linter.unusedSimpArgs false
namespace Go.Eng
open Go Go.Proofs

theorem qd (p1:List (ByteArray×Int)) (p2:Int) (n:Nat) (g:(List (ByteArray×Int))×Int) (out:List (ByteArray×Int)) (h:ci p1 p2 n g.1 g.2=some out) :
  AX Tryz.prog 38 0 (codeAt [1,1,0,1,1] (aU Tryz.f136)) ((fun g:(List (ByteArray×Int))×Int=>(⟨[(0,.bs false 2 (List.map aa p1)),(1,vi p2),(5,.sl 0 0 g.1.length),(6,vi g.2)],[(0,.arr 2 (List.map aa g.1))]⟩:S)) g) (fun ex s=>ex=.exit 0∧s=(fun o:List (ByteArray×Int)=>(⟨[(5,.sl 0 0 o.length)],[(0,.arr 2 (List.map aa o))]⟩:S)) out):=by
 refine AX.wkpost ?_
 refine AX.loop (G:=Nat×((List (ByteArray×Int))×Int)) (fun q=>(fun g:(List (ByteArray×Int))×Int=>(⟨[(0,.bs false 2 (List.map aa p1)),(1,vi p2),(5,.sl 0 0 g.1.length),(6,vi g.2)],[(0,.arr 2 (List.map aa g.1))]⟩:S)) q.2) (fun q=>ci p1 p2 q.1 q.2.1 q.2.2=some out) (fun q=>q.1) (n,g) h (Wk.refl _) ?_
 clear h
 rintro ⟨fu,v3,v4⟩ h
 cases fu with
 | zero=>cases h
 | succ fu =>
  rw [ci] at h
  refine AX.seq ?_
  refine AX.si [aN,aN,aY (vi (p1.length:Int))] [0,1,5,6,11] [0] ⟨[(0,.bs false 2 (List.map aa p1)),(1,vi p2),(5,.sl 0 0 v3.length),(6,vi v4),(11,vb (decide (v4<(p1.length:Int))))],[(0,.arr 2 (List.map aa v3))]⟩ (pa (⟨trivial,aS aa p1⟩:(True∧(vi ((List.map aa p1).length:Int)=vi (p1.length:Int)))) <| trivial) trivial ?_
  rcases ac (decide (v4<(p1.length:Int))) with b1 | b1
  ·replace h:=am b1 h
   refine AX.cT (decide (v4<(p1.length:Int))) b1 ?_
   refine AX.skip ?_
   refine AX.seq ?_
   refine AX.block ?_
   refine AX.seq ?_
   obtain ⟨g2,h⟩:=aw h
   rcases ac (decide (0<((gt p1 v4).2))) with b3 | b3
   ·replace h:=am b3 h
    obtain ⟨x5,e4,h⟩:=ak h
    refine AX.rh [aN,aN,aY (.be 2 (aa (gt p1 v4)) 0),aN,aN,aY (vb true),aN,aN,aN,aY (.be 2 (aa (gt p1 v4)) 0),aN,aN,aN,.call 59 [vi ((gt p1 v4).2),vi p2] hN (ah [] [] (vi x5) [])] [0,1,5,6,29] [0] ⟨[(0,.bs false 2 (List.map aa p1)),(1,vi p2),(5,.sl 0 0 v3.length),(6,vi v4),(29,vb (decide (x5=0)))],[(0,.arr 2 (List.map aa v3))]⟩ (pa (aJ aa p1 v4 2 g2) <| pa (pb (cb b3)) <| pa (aJ aa p1 v4 2 g2) <| pa (smA [vi ((gt p1 v4).2),vi p2]) <| trivial) ⟨co (dI ((gt p1 v4).2) p2 x5 e4) (.cons cS (.cons cS (.nil))),trivial⟩ ?_
    rcases ac (decide (x5=0)) with b5 | b5
    ·replace h:=am b5 h
     refine AX.cT (decide (x5=0)) b5 ?_
     obtain ⟨g6,h⟩:=aw h
     refine AX.rh [aN,aN,aN,aY (.be 2 (aa (gt p1 v4)) 0),aN,.auto { nk:=1 },.auto { y:=some (.sl 2 0 ((v3++([((gt p1 v4).1,(gt p1 v4).2)]:List (ByteArray×Int))).length)),els:=some (List.map aa v3),els2:=some (List.map aa ([((gt p1 v4).1,(gt p1 v4).2)]:List (ByteArray×Int))),nk:=2 }] [0,1,5,6] [2] ⟨[(0,.bs false 2 (List.map aa p1)),(1,vi p2),(5,.sl 2 0 ((v3++([((gt p1 v4).1,(gt p1 v4).2)]:List (ByteArray×Int))).length)),(6,vi v4)],[(2,.arr 2 (List.map aa v3++List.map aa ([((gt p1 v4).1,(gt p1 v4).2)]:List (ByteArray×Int))))]⟩ (pa (aJ aa p1 v4 2 g2) <| pa (⟨⟨⟨(bc (enc:=aa) rfl rfl),(bc (enc:=aa) rfl rfl)⟩,(by simp only [List.length_map,List.length_nil,List.length_replicate];simpa using g6)⟩,cj (enc:=aa) (aH (enc:=aa) rfl (rfl))⟩:((((((List.map aa v3).drop 0).take (v3.length)=List.map aa v3)∧(((List.map aa ([((gt p1 v4).1,(gt p1 v4).2)]:List (ByteArray×Int))).drop 0).take (([((gt p1 v4).1,(gt p1 v4).2)]:List (ByteArray×Int)).length)=List.map aa ([((gt p1 v4).1,(gt p1 v4).2)]:List (ByteArray×Int))))∧(List.map aa v3).length+(List.map aa ([((gt p1 v4).1,(gt p1 v4).2)]:List (ByteArray×Int))).length≤1099511627776)∧(AV.sl 2 0 (List.map aa v3++List.map aa ([((gt p1 v4).1,(gt p1 v4).2)]:List (ByteArray×Int))).length=AV.sl 2 0 (v3++([((gt p1 v4).1,(gt p1 v4).2)]:List (ByteArray×Int))).length))) <| trivial) trivial ?_
     refine AX.rh [aN,.auto { raw:=true }] [0,1,5,6] [2] ⟨[(0,.bs false 2 (List.map aa p1)),(1,vi p2),(5,.sl 2 0 ((v3++([((gt p1 v4).1,(gt p1 v4).2)]:List (ByteArray×Int))).length)),(6,vi (IntKind.wrap .i64 (v4+1)))],[(2,.arr 2 (List.map aa v3++List.map aa ([((gt p1 v4).1,(gt p1 v4).2)]:List (ByteArray×Int))))]⟩ trivial trivial ?_
     refine ⟨(fu,(v3++([((gt p1 v4).1,(gt p1 v4).2)]:List (ByteArray×Int)),IntKind.wrap .i64 (v4+1))),h,Nat.lt_succ_self _,?_⟩
     refine Wk.trans (Wk.swap 0 2 (Nat.le_of_ble_eq_true (by kernel_rfl)) (Nat.le_of_ble_eq_true (by kernel_rfl)) rfl) ?_
     refine Wk.trans (Wk.fg [0,1,5,6] [0] ⟨[(0,.bs false 2 (List.map aa p1)),(1,vi p2),(5,.sl 0 0 ((v3++([((gt p1 v4).1,(gt p1 v4).2)]:List (ByteArray×Int))).length)),(6,vi (IntKind.wrap .i64 (v4+1)))],[(0,.arr 2 (List.map aa v3++List.map aa ([((gt p1 v4).1,(gt p1 v4).2)]:List (ByteArray×Int))))]⟩) ?_
     refine Wk.trans (Wk.of_eq (congrArg (fun z=>(⟨[(0,.bs false 2 (List.map aa p1)),(1,vi p2),(5,.sl 0 0 ((v3++([((gt p1 v4).1,(gt p1 v4).2)]:List (ByteArray×Int))).length)),(6,vi (IntKind.wrap .i64 (v4+1)))],[(0,.arr 2 (z))]⟩:S)) (aH (enc:=aa) rfl (rfl):List.map aa v3++List.map aa ([((gt p1 v4).1,(gt p1 v4).2)]:List (ByteArray×Int))=List.map aa (v3++([((gt p1 v4).1,(gt p1 v4).2)]:List (ByteArray×Int)))))) ?_
     exact Wk.refl _
    ·replace h:=aq b5 h
     refine AX.cF (decide (x5=0)) b5 ?_
     refine AX.skip ?_
     refine AX.rh [aN,.auto { raw:=true }] [0,1,5,6] [0] ⟨[(0,.bs false 2 (List.map aa p1)),(1,vi p2),(5,.sl 0 0 v3.length),(6,vi (IntKind.wrap .i64 (v4+1)))],[(0,.arr 2 (List.map aa v3))]⟩ trivial trivial ?_
     refine ⟨(fu,(v3,IntKind.wrap .i64 (v4+1))),h,Nat.lt_succ_self _,?_⟩
     refine Wk.trans (Wk.fg [0,1,5,6] [0] ⟨[(0,.bs false 2 (List.map aa p1)),(1,vi p2),(5,.sl 0 0 v3.length),(6,vi (IntKind.wrap .i64 (v4+1)))],[(0,.arr 2 (List.map aa v3))]⟩) ?_
     exact Wk.refl _
   ·replace h:=aq b3 h
    refine AX.rh [aN,aN,aY (.be 2 (aa (gt p1 v4)) 0),aN,aN,aY (vb false)] [0,1,5,6,29] [0] ⟨[(0,.bs false 2 (List.map aa p1)),(1,vi p2),(5,.sl 0 0 v3.length),(6,vi v4),(29,vb false)],[(0,.arr 2 (List.map aa v3))]⟩ (pa (aJ aa p1 v4 2 g2) <| pa (pb (cb b3)) <| trivial) trivial ?_
    refine AX.cond_false (by kernel_rfl) ?_
    refine AX.skip ?_
    refine AX.rh [aN,.auto { raw:=true }] [0,1,5,6] [0] ⟨[(0,.bs false 2 (List.map aa p1)),(1,vi p2),(5,.sl 0 0 v3.length),(6,vi (IntKind.wrap .i64 (v4+1)))],[(0,.arr 2 (List.map aa v3))]⟩ trivial trivial ?_
    refine ⟨(fu,(v3,IntKind.wrap .i64 (v4+1))),h,Nat.lt_succ_self _,?_⟩
    refine Wk.trans (Wk.fg [0,1,5,6] [0] ⟨[(0,.bs false 2 (List.map aa p1)),(1,vi p2),(5,.sl 0 0 v3.length),(6,vi (IntKind.wrap .i64 (v4+1)))],[(0,.arr 2 (List.map aa v3))]⟩) ?_
    exact Wk.refl _
  ·replace h:=aq b1 h
   refine AX.cF (decide (v4<(p1.length:Int))) b1 ?_
   refine AX.exit ?_
   refine ae (Wk.fg [5] [0] ⟨[(5,.sl 0 0 v3.length)],[(0,.arr 2 (List.map aa v3))]⟩) ?_
   have hr:=Option.some.inj h
   subst hr
   exact ⟨_,Wk.refl _,⟨rfl,rfl⟩⟩

theorem uf (p1:List (ByteArray×Int)) (p2:Int) (r:List (ByteArray×Int)) (h:gR p1 p2=some r) :
  Eng.al Tryz.prog 136 [.bs false 2 (List.map aa p1),vi p2] [] (.sl 0 0 r.length) [.arr 2 (List.map aa r)]:=by
 unfold gR at h
 refine Eng.al.body Tryz.func136 (by kernel_rfl) rfl (by kernel_rfl) ?_
 refine AX.wkpost ?_
 refine AX.si [] [0,1] [] ⟨[(0,.bs false 2 (List.map aa p1)),(1,vi p2)],[]⟩ trivial trivial ?_
 refine AX.si [.auto { nk:=0 }] [0,1,5] [0] ⟨[(0,.bs false 2 (List.map aa p1)),(1,vi p2),(5,.sl 0 0 (([]:List (ByteArray×Int)).length))],[(0,.arr 2 (List.map aa ([]:List (ByteArray×Int))))]⟩ trivial trivial ?_
 refine AX.seq ?_
 refine AX.si [] [0,1,5,6] [0] ⟨[(0,.bs false 2 (List.map aa p1)),(1,vi p2),(5,.sl 0 0 (([]:List (ByteArray×Int)).length)),(6,vi 0)],[(0,.arr 2 (List.map aa ([]:List (ByteArray×Int))))]⟩ trivial trivial ?_
 refine AX.block ?_
 obtain ⟨x6,e7,h⟩:=ak h
 refine AX.wk (Wk.fg [0,1,5,6] [0] ⟨[(0,.bs false 2 (List.map aa p1)),(1,vi p2),(5,.sl 0 0 (([]:List (ByteArray×Int)).length)),(6,vi 0)],[(0,.arr 2 (List.map aa ([]:List (ByteArray×Int))))]⟩) ?_
 refine AX.mono (qd p1 p2 FU (([]:List (ByteArray×Int)),0) x6 e7) ?_
 rintro _ _ ⟨rfl,rfl⟩
 skip
 refine AX.si [] [4] [0] ⟨[(4,.sl 0 0 x6.length)],[(0,.arr 2 (List.map aa x6))]⟩ trivial trivial ?_
 refine AX.ret ?_
 refine ae (Wk.fg [4] [0] ⟨[(4,.sl 0 0 x6.length)],[(0,.arr 2 (List.map aa x6))]⟩) ?_
 have hr:=Option.some.inj h
 subst hr
 exact ⟨_,Wk.refl _,.inr rfl,⟨[0],by kernel_rfl,⟨rfl,trivial⟩,[.sl 0 0 x6.length],by kernel_rfl,by kernel_rfl⟩⟩

theorem rJ (rec:(List (ByteArray×Int))→Int→Int→Int→Option ((List (ByteArray×Int))×Bool)) (ih:∀ (p1:List (ByteArray×Int)) (p2:Int) (p3:Int) (p4:Int) (r:(List (ByteArray×Int))×Bool) (h:rec p1 p2 p3 p4=some r),Eng.al Tryz.prog 137 [.bs false 2 (List.map aa p1),vi p2,vi p3,vi p4] [] (.tup [.sl 0 0 r.1.length,vb r.2]) [.arr 2 (List.map aa r.1)]) (p1:List (ByteArray×Int)) (p3:Int) (p4:Int) (n:Nat) (g:Int) (out:List (ByteArray×Int) ⊕ Unit) (h:cN rec p1 p3 p4 n g=some out) :
  AX Tryz.prog 49 0 (codeAt [1,1,0,1,1] (aU Tryz.f137)) ((fun g:Int=>(⟨[(0,.bs false 2 (List.map aa p1)),(2,vi p3),(3,vi p4),(10,vi g)],[]⟩:S)) g) (fun ex s=>(∃ o:List (ByteArray×Int),out=Sum.inl o∧ex=.ret∧s=⟨[(8,.sl 0 0 o.length),(9,vb true)],[(0,.arr 2 (List.map aa o))]⟩)∨(∃ o:Unit,out=Sum.inr o∧ex=.exit 0∧s=⟨[],[]⟩)):=by
 refine AX.wkpost ?_
 refine AX.loop (G:=Nat×(Int)) (fun q=>(fun g:Int=>(⟨[(0,.bs false 2 (List.map aa p1)),(2,vi p3),(3,vi p4),(10,vi g)],[]⟩:S)) q.2) (fun q=>cN rec p1 p3 p4 q.1 q.2=some out) (fun q=>q.1) (n,g) h (Wk.refl _) ?_
 clear h
 rintro ⟨fu,v5⟩ h
 cases fu with
 | zero=>cases h
 | succ fu =>
  rw [cN] at h
  refine AX.seq ?_
  refine AX.si [aN,aN,aY (vi (p1.length:Int))] [0,2,3,10,22] [] ⟨[(0,.bs false 2 (List.map aa p1)),(2,vi p3),(3,vi p4),(10,vi v5),(22,vb (decide (v5<(p1.length:Int))))],[]⟩ (pa (⟨trivial,aS aa p1⟩:(True∧(vi ((List.map aa p1).length:Int)=vi (p1.length:Int)))) <| trivial) trivial ?_
  rcases ac (decide (v5<(p1.length:Int))) with b2 | b2
  ·replace h:=am b2 h
   refine AX.cT (decide (v5<(p1.length:Int))) b2 ?_
   refine AX.skip ?_
   refine AX.seq ?_
   refine AX.block ?_
   refine AX.seq ?_
   obtain ⟨g3,h⟩:=aw h
   obtain ⟨x6,e4,h⟩:=ak h
   obtain ⟨x7,e5,h⟩:=ak h
   refine AX.rh [aN,aN,.auto { raw:=true },aN,.auto { raw:=true },aN,aN,aN,aY (.be 2 (aa (gt p1 v5)) 0),aN,aN,.call 59 [vi p4,vi ((gt p1 v5).2)] hN (ah [] [] (vi x6) []),.call 137 [.bs false 2 (List.map aa p1),vi (IntKind.wrap .i64 (v5+1)),vi (IntKind.wrap .i64 (p3 - 1)),vi x6] (aD (rho ([]++[0])) [] []++[]) (ah [] [0] (.tup [.sl 0 0 x7.1.length,vb x7.2]) [.arr 2 (List.map aa x7.1)])] [0,2,3,10,11,12] [0] ⟨[(0,.bs false 2 (List.map aa p1)),(2,vi p3),(3,vi p4),(10,vi v5),(11,.sl 0 0 x7.1.length),(12,vb x7.2)],[(0,.arr 2 (List.map aa x7.1))]⟩ (pa (aJ aa p1 v5 2 g3) <| pa (smA [vi p4,vi ((gt p1 v5).2)]) <| pa (smA [.bs false 2 (List.map aa p1),vi (IntKind.wrap .i64 (v5+1)),vi (IntKind.wrap .i64 (p3 - 1)),vi x6]) <| trivial) ⟨co (dI p4 ((gt p1 v5).2) x6 e4) (.cons cS (.cons cS (.nil))),aA (ks:=[]) (ns:=[0]) (bor:=[]) (bobjs:=[]) (ih p1 (IntKind.wrap .i64 (v5+1)) (IntKind.wrap .i64 (p3 - 1)) x6 x7 e5) (.cons cS (.cons cS (.cons cS (.cons cS (.nil))))) (by kernel_rfl) trivial,trivial⟩ ?_
   refine AX.si [] [0,2,3,10,11,41] [0] ⟨[(0,.bs false 2 (List.map aa p1)),(2,vi p3),(3,vi p4),(10,vi v5),(11,.sl 0 0 x7.1.length),(41,vb x7.2)],[(0,.arr 2 (List.map aa x7.1))]⟩ trivial trivial ?_
   rcases ac (x7.2) with b6 | b6
   ·replace h:=am b6 h
    refine AX.cT (x7.2) b6 ?_
    refine AX.seq ?_
    obtain ⟨g7,h⟩:=aw h
    refine AX.rh [aN,aN,aY (.be 2 (aa (gt p1 v5)) 0),aN,.auto { nk:=1 },aN,.auto { y:=some (.sl 2 0 ((([((gt p1 v5).1,(gt p1 v5).2)]:List (ByteArray×Int))++x7.1).length)),els:=some (List.map aa ([((gt p1 v5).1,(gt p1 v5).2)]:List (ByteArray×Int))),els2:=some (List.map aa x7.1),nk:=2 }] [8,9] [2] ⟨[(8,.sl 2 0 ((([((gt p1 v5).1,(gt p1 v5).2)]:List (ByteArray×Int))++x7.1).length)),(9,vb true)],[(2,.arr 2 (List.map aa ([((gt p1 v5).1,(gt p1 v5).2)]:List (ByteArray×Int))++List.map aa x7.1))]⟩ (pa (aJ aa p1 v5 2 g3) <| pa (⟨⟨⟨(bc (enc:=aa) rfl rfl),(bc (enc:=aa) rfl rfl)⟩,(by simp only [List.length_map,List.length_nil,List.length_replicate];simpa using g7)⟩,cj (enc:=aa) (aH (enc:=aa) rfl (rfl))⟩:((((((List.map aa ([((gt p1 v5).1,(gt p1 v5).2)]:List (ByteArray×Int))).drop 0).take (([((gt p1 v5).1,(gt p1 v5).2)]:List (ByteArray×Int)).length)=List.map aa ([((gt p1 v5).1,(gt p1 v5).2)]:List (ByteArray×Int)))∧(((List.map aa x7.1).drop 0).take (x7.1.length)=List.map aa x7.1))∧(List.map aa ([((gt p1 v5).1,(gt p1 v5).2)]:List (ByteArray×Int))).length+(List.map aa x7.1).length≤1099511627776)∧(AV.sl 2 0 (List.map aa ([((gt p1 v5).1,(gt p1 v5).2)]:List (ByteArray×Int))++List.map aa x7.1).length=AV.sl 2 0 (([((gt p1 v5).1,(gt p1 v5).2)]:List (ByteArray×Int))++x7.1).length))) <| trivial) trivial ?_
    refine AX.ret ?_
    refine ae (Wk.swap 0 2 (Nat.le_of_ble_eq_true (by kernel_rfl)) (Nat.le_of_ble_eq_true (by kernel_rfl)) rfl) ?_
    refine ae (Wk.fg [8,9] [0] ⟨[(8,.sl 0 0 ((([((gt p1 v5).1,(gt p1 v5).2)]:List (ByteArray×Int))++x7.1).length)),(9,vb true)],[(0,.arr 2 (List.map aa ([((gt p1 v5).1,(gt p1 v5).2)]:List (ByteArray×Int))++List.map aa x7.1))]⟩) ?_
    refine ae (Wk.of_eq (congrArg (fun z=>(⟨[(8,.sl 0 0 ((([((gt p1 v5).1,(gt p1 v5).2)]:List (ByteArray×Int))++x7.1).length)),(9,vb true)],[(0,.arr 2 (z))]⟩:S)) (aH (enc:=aa) rfl (rfl):List.map aa ([((gt p1 v5).1,(gt p1 v5).2)]:List (ByteArray×Int))++List.map aa x7.1=List.map aa (([((gt p1 v5).1,(gt p1 v5).2)]:List (ByteArray×Int))++x7.1)))) ?_
    have hr:=Option.some.inj h
    subst hr
    exact ⟨_,Wk.refl _,.inl ⟨([((gt p1 v5).1,(gt p1 v5).2)]:List (ByteArray×Int))++x7.1,rfl,rfl,rfl⟩⟩
   ·replace h:=aq b6 h
    refine AX.cF (x7.2) b6 ?_
    refine AX.skip ?_
    refine AX.rh [aN,.auto { raw:=true }] [0,2,3,10] [] ⟨[(0,.bs false 2 (List.map aa p1)),(2,vi p3),(3,vi p4),(10,vi (IntKind.wrap .i64 (v5+1)))],[]⟩ trivial trivial ?_
    refine ⟨(fu,IntKind.wrap .i64 (v5+1)),h,Nat.lt_succ_self _,?_⟩
    refine Wk.trans (Wk.fg [0,2,3,10] [] ⟨[(0,.bs false 2 (List.map aa p1)),(2,vi p3),(3,vi p4),(10,vi (IntKind.wrap .i64 (v5+1)))],[]⟩) ?_
    exact Wk.refl _
  ·replace h:=aq b2 h
   refine AX.cF (decide (v5<(p1.length:Int))) b2 ?_
   refine AX.exit ?_
   refine ae (Wk.fg [] [] ⟨[],[]⟩) ?_
   have hr:=Option.some.inj h
   subst hr
   exact ⟨_,Wk.refl _,.inr ⟨(),rfl,rfl,rfl⟩⟩

theorem s_spec_fewest:∀ (fu:Nat) (p1:List (ByteArray×Int)) (p2:Int) (p3:Int) (p4:Int) (r:(List (ByteArray×Int))×Bool) (h:m_spec_fewest fu p1 p2 p3 p4=some r),
  Eng.al Tryz.prog 137 [.bs false 2 (List.map aa p1),vi p2,vi p3,vi p4] [] (.tup [.sl 0 0 r.1.length,vb r.2]) [.arr 2 (List.map aa r.1)]:=by
 intro fu
 induction fu with
 | zero=>intro p1 p2 p3 p4 r h;cases h
 | succ fu ih =>
  intro p1 p2 p3 p4 r h
  rw [m_spec_fewest] at h
  refine Eng.al.body Tryz.func137 (by kernel_rfl) rfl (by kernel_rfl) ?_
  refine AX.wkpost ?_
  refine AX.si [] [0,1,2,3] [] ⟨[(0,.bs false 2 (List.map aa p1)),(1,vi p2),(2,vi p3),(3,vi p4)],[]⟩ trivial trivial ?_
  refine AX.seq ?_
  refine AX.si [] [0,1,2,3,14] [] ⟨[(0,.bs false 2 (List.map aa p1)),(1,vi p2),(2,vi p3),(3,vi p4),(14,vb (decide (p3=0)))],[]⟩ trivial trivial ?_
  rcases ac (decide (p3=0)) with b1 | b1
  ·replace h:=am b1 h
   refine AX.cT (decide (p3=0)) b1 ?_
   refine AX.si [.auto { nk:=0 }] [8,9] [0] ⟨[(8,.sl 0 0 (([]:List (ByteArray×Int)).length)),(9,vb (decide (p4=0)))],[(0,.arr 2 (List.map aa ([]:List (ByteArray×Int))))]⟩ trivial trivial ?_
   refine AX.ret ?_
   refine ae (Wk.fg [8,9] [0] ⟨[(8,.sl 0 0 (([]:List (ByteArray×Int)).length)),(9,vb (decide (p4=0)))],[(0,.arr 2 (List.map aa ([]:List (ByteArray×Int))))]⟩) ?_
   have hr:=Option.some.inj h
   subst hr
   exact ⟨_,Wk.refl _,.inr rfl,⟨[0],by kernel_rfl,⟨rfl,trivial⟩,[.sl 0 0 (([]:List (ByteArray×Int)).length),vb (decide (p4=0))],by kernel_rfl,by kernel_rfl⟩⟩
  ·replace h:=aq b1 h
   refine AX.cF (decide (p3=0)) b1 ?_
   refine AX.skip ?_
   refine AX.seq ?_
   refine AX.si [] [0,2,3,10] [] ⟨[(0,.bs false 2 (List.map aa p1)),(2,vi p3),(3,vi p4),(10,vi p2)],[]⟩ trivial trivial ?_
   refine AX.block ?_
   obtain ⟨x8,e8,h⟩:=ak h
   refine AX.wk (Wk.fg [0,2,3,10] [] ⟨[(0,.bs false 2 (List.map aa p1)),(2,vi p3),(3,vi p4),(10,vi p2)],[]⟩) ?_
   refine AX.mono (rJ (m_spec_fewest fu) ih p1 p3 p4 FU p2 x8 e8) ?_
   rintro _ _ (⟨x9,rfl,rfl,rfl⟩ | ⟨x10,rfl,rfl,rfl⟩)
   ·replace h:=eL h
    refine ae (Wk.fg [8,9] [0] ⟨[(8,.sl 0 0 x9.length),(9,vb true)],[(0,.arr 2 (List.map aa x9))]⟩) ?_
    have hr:=Option.some.inj h
    subst hr
    exact ⟨_,Wk.refl _,.inr rfl,⟨[0],by kernel_rfl,⟨rfl,trivial⟩,[.sl 0 0 x9.length,vb true],by kernel_rfl,by kernel_rfl⟩⟩
   ·replace h:=eU h
    refine AX.si [] [8,9] [] ⟨[(8,.v (.slice none 0 0)),(9,vb false)],[]⟩ trivial trivial ?_
    refine AX.ret ?_
    refine ae (Wk.mat 8 0 2 (by kernel_rfl) (Nat.le_of_ble_eq_true (by kernel_rfl)) (by kernel_rfl) rfl) ?_
    refine ae (Wk.fg [8,9] [0] ⟨[(8,.sl 0 0 (([]:List (ByteArray×Int)).length)),(9,vb false)],[(0,.arr 2 (List.map aa ([]:List (ByteArray×Int))))]⟩) ?_
    have hr:=Option.some.inj h
    subst hr
    exact ⟨_,Wk.refl _,.inr rfl,⟨[0],by kernel_rfl,⟨rfl,trivial⟩,[.sl 0 0 (([]:List (ByteArray×Int)).length),vb false],by kernel_rfl,by kernel_rfl⟩⟩

theorem rT (x3:List (ByteArray×Int)) (x4:Int) (n:Nat) (g:Int) (out:List (ByteArray×Int) ⊕ Unit) (h:dC x3 x4 n g=some out) :
  AX Tryz.prog 31 0 (codeAt [1,1,1,0,1,1] (aU Tryz.f103)) ((fun g:Int=>(⟨[(5,.sl 0 0 x3.length),(6,vi x4),(7,vi g)],[(0,.arr 2 (List.map aa x3))]⟩:S)) g) (fun ex s=>(∃ o:List (ByteArray×Int),out=Sum.inl o∧ex=.ret∧s=⟨[(4,.sl 0 0 o.length)],[(0,.arr 2 (List.map aa o))]⟩)∨(∃ o:Unit,out=Sum.inr o∧ex=.exit 0∧s=⟨[],[]⟩)):=by
 refine AX.wkpost ?_
 refine AX.loop (G:=Nat×(Int)) (fun q=>(fun g:Int=>(⟨[(5,.sl 0 0 x3.length),(6,vi x4),(7,vi g)],[(0,.arr 2 (List.map aa x3))]⟩:S)) q.2) (fun q=>dC x3 x4 q.1 q.2=some out) (fun q=>q.1) (n,g) h (Wk.refl _) ?_
 clear h
 rintro ⟨fu,v5⟩ h
 cases fu with
 | zero=>cases h
 | succ fu =>
  rw [dC] at h
  refine AX.seq ?_
  refine AX.si [] [5,6,7,18] [0] ⟨[(5,.sl 0 0 x3.length),(6,vi x4),(7,vi v5),(18,vb (decide (v5≤(x3.length:Int))))],[(0,.arr 2 (List.map aa x3))]⟩ trivial trivial ?_
  rcases ac (decide (v5≤(x3.length:Int))) with b3 | b3
  ·replace h:=am b3 h
   refine AX.cT (decide (v5≤(x3.length:Int))) b3 ?_
   refine AX.skip ?_
   refine AX.seq ?_
   refine AX.block ?_
   refine AX.seq ?_
   obtain ⟨x6,e4,h⟩:=ak h
   refine AX.rh [aN,aN,aN,.call 137 [.sl 0 0 x3.length,vi 0,vi v5,vi x4] (aD (rho ([]++[1])) [] []++[(0,.arr 2 (List.map aa x3))]) (ah [] [1] (.tup [.sl 0 0 x6.1.length,vb x6.2]) [.arr 2 (List.map aa x6.1)])] [5,6,7,8,9] [0,1] ⟨[(5,.sl 0 0 x3.length),(6,vi x4),(7,vi v5),(8,.sl 1 0 x6.1.length),(9,vb x6.2)],[(0,.arr 2 (List.map aa x3)),(1,.arr 2 (List.map aa x6.1))]⟩ (pa (⟨rfl,rfl,trivial⟩:((([.sl 0 0 x3.length,vi 0,vi v5,vi x4]:List AV)=[.sl 0 0 x3.length,vi 0,vi v5,vi x4])∧(AO.arr 2 (List.map aa x3)=AO.arr 2 (List.map aa x3))∧True)) <| trivial) ⟨aA (ks:=[]) (ns:=[1]) (bor:=[0]) (bobjs:=[(0,.arr 2 (List.map aa x3))]) (s_spec_fewest FU x3 0 v5 x4 x6 e4) (.cons (.c1 (.c0 (.arr rfl rfl ((rfl).trans (List.length_map ..).symm)))) (.cons cS (.cons cS (.cons cS (.nil))))) (by kernel_rfl) trivial,trivial⟩ ?_
   refine AX.si [] [5,6,7,8,28] [0,1] ⟨[(5,.sl 0 0 x3.length),(6,vi x4),(7,vi v5),(8,.sl 1 0 x6.1.length),(28,vb x6.2)],[(0,.arr 2 (List.map aa x3)),(1,.arr 2 (List.map aa x6.1))]⟩ trivial trivial ?_
   rcases ac (x6.2) with b5 | b5
   ·replace h:=am b5 h
    refine AX.cT (x6.2) b5 ?_
    refine AX.si [] [4] [1] ⟨[(4,.sl 1 0 x6.1.length)],[(1,.arr 2 (List.map aa x6.1))]⟩ trivial trivial ?_
    refine AX.ret ?_
    refine ae (Wk.swap 0 1 (Nat.le_of_ble_eq_true (by kernel_rfl)) (Nat.le_of_ble_eq_true (by kernel_rfl)) rfl) ?_
    refine ae (Wk.fg [4] [0] ⟨[(4,.sl 0 0 x6.1.length)],[(0,.arr 2 (List.map aa x6.1))]⟩) ?_
    have hr:=Option.some.inj h
    subst hr
    exact ⟨_,Wk.refl _,.inl ⟨x6.1,rfl,rfl,rfl⟩⟩
   ·replace h:=aq b5 h
    refine AX.cF (x6.2) b5 ?_
    refine AX.skip ?_
    refine AX.rh [aN,.auto { raw:=true }] [5,6,7] [0] ⟨[(5,.sl 0 0 x3.length),(6,vi x4),(7,vi (IntKind.wrap .i64 (v5+1)))],[(0,.arr 2 (List.map aa x3))]⟩ trivial trivial ?_
    refine ⟨(fu,IntKind.wrap .i64 (v5+1)),h,Nat.lt_succ_self _,?_⟩
    refine Wk.trans (Wk.fg [5,6,7] [0] ⟨[(5,.sl 0 0 x3.length),(6,vi x4),(7,vi (IntKind.wrap .i64 (v5+1)))],[(0,.arr 2 (List.map aa x3))]⟩) ?_
    exact Wk.refl _
  ·replace h:=aq b3 h
   refine AX.cF (decide (v5≤(x3.length:Int))) b3 ?_
   refine AX.exit ?_
   refine ae (Wk.fg [] [] ⟨[],[]⟩) ?_
   have hr:=Option.some.inj h
   subst hr
   exact ⟨_,Wk.refl _,.inr ⟨(),rfl,rfl,rfl⟩⟩

theorem wE (p1:List (ByteArray×Int)) (p2:Int) (r:List (ByteArray×Int)) (h:iH p1 p2=some r) :
  Eng.al Tryz.prog 103 [.bs false 2 (List.map aa p1),vi p2] [] (.sl 0 0 r.length) [.arr 2 (List.map aa r)]:=by
 unfold iH at h
 refine Eng.al.body Tryz.func103 (by kernel_rfl) rfl (by kernel_rfl) ?_
 refine AX.wkpost ?_
 refine AX.si [] [0,1] [] ⟨[(0,.bs false 2 (List.map aa p1)),(1,vi p2)],[]⟩ trivial trivial ?_
 refine AX.seq ?_
 obtain ⟨x3,e1,h⟩:=ak h
 refine AX.rh [aN,aN,.call 136 [.bs false 2 (List.map aa p1),vi p2] (aD (rho ([]++[0])) [] []++[]) (ah [] [0] (.sl 0 0 x3.length) [.arr 2 (List.map aa x3)])] [5] [0] ⟨[(5,.sl 0 0 x3.length)],[(0,.arr 2 (List.map aa x3))]⟩ (pa (smA [.bs false 2 (List.map aa p1),vi p2]) <| trivial) ⟨aA (ks:=[]) (ns:=[0]) (bor:=[]) (bobjs:=[]) (uf p1 p2 x3 e1) (.cons cS (.cons cS (.nil))) (by kernel_rfl) trivial,trivial⟩ ?_
 refine AX.seq ?_
 obtain ⟨x4,e2,h⟩:=ak h
 refine AX.rh [aN,.call 102 [.sl 0 0 x3.length] (aD (rho ([]++[])) [] []++[(0,.arr 2 (List.map aa x3))]) (ah [] [] (vi x4) [])] [5,6] [0] ⟨[(5,.sl 0 0 x3.length),(6,vi x4)],[(0,.arr 2 (List.map aa x3))]⟩ (pa (⟨rfl,rfl,trivial⟩:((([.sl 0 0 x3.length]:List AV)=[.sl 0 0 x3.length])∧(AO.arr 2 (List.map aa x3)=AO.arr 2 (List.map aa x3))∧True)) <| trivial) ⟨aA (ks:=[]) (ns:=[]) (bor:=[0]) (bobjs:=[(0,.arr 2 (List.map aa x3))]) (fK x3 x4 e2) (.cons (.c1 (.c0 (.arr rfl rfl ((rfl).trans (List.length_map ..).symm)))) (.nil)) (by kernel_rfl) trivial,trivial⟩ ?_
 refine AX.seq ?_
 refine AX.si [] [5,6,7] [0] ⟨[(5,.sl 0 0 x3.length),(6,vi x4),(7,vi 0)],[(0,.arr 2 (List.map aa x3))]⟩ trivial trivial ?_
 refine AX.block ?_
 obtain ⟨x7,e6,h⟩:=ak h
 refine AX.wk (Wk.fg [5,6,7] [0] ⟨[(5,.sl 0 0 x3.length),(6,vi x4),(7,vi 0)],[(0,.arr 2 (List.map aa x3))]⟩) ?_
 refine AX.mono (rT x3 x4 FU 0 x7 e6) ?_
 rintro _ _ (⟨x8,rfl,rfl,rfl⟩ | ⟨x9,rfl,rfl,rfl⟩)
 ·replace h:=eL h
  refine ae (Wk.fg [4] [0] ⟨[(4,.sl 0 0 x8.length)],[(0,.arr 2 (List.map aa x8))]⟩) ?_
  have hr:=Option.some.inj h
  subst hr
  exact ⟨_,Wk.refl _,.inr rfl,⟨[0],by kernel_rfl,⟨rfl,trivial⟩,[.sl 0 0 x8.length],by kernel_rfl,by kernel_rfl⟩⟩
 ·replace h:=eU h
  refine AX.si [.auto { nk:=0 }] [4] [0] ⟨[(4,.sl 0 0 (([]:List (ByteArray×Int)).length))],[(0,.arr 2 (List.map aa ([]:List (ByteArray×Int))))]⟩ trivial trivial ?_
  refine AX.ret ?_
  refine ae (Wk.fg [4] [0] ⟨[(4,.sl 0 0 (([]:List (ByteArray×Int)).length))],[(0,.arr 2 (List.map aa ([]:List (ByteArray×Int))))]⟩) ?_
  have hr:=Option.some.inj h
  subst hr
  exact ⟨_,Wk.refl _,.inr rfl,⟨[0],by kernel_rfl,⟨rfl,trivial⟩,[.sl 0 0 (([]:List (ByteArray×Int)).length)],by kernel_rfl,by kernel_rfl⟩⟩

theorem rP (p1:List (ByteArray×Int)) (p2:Int) (p3:Int) (r:ByteArray) (h:gf p1 p2 p3=some r) :
  Eng.al Tryz.prog 55 [.agg [.bs false 2 (List.map aa p1),vi p2],vi p3] [] (vs r) []:=by
 unfold gf at h
 refine Eng.al.body Tryz.func55 (by kernel_rfl) rfl (by kernel_rfl) ?_
 refine AX.wkpost ?_
 refine AX.si [.auto { nk:=0 }] [1,2] [0] ⟨[(1,vi p3),(2,.pt 0 0)],[(0,.box [.bs false 2 (List.map aa p1),vi p2])]⟩ trivial trivial ?_
 refine AX.seq ?_
 refine AX.seq ?_
 obtain ⟨x4,e1,h⟩:=ak h
 refine AX.rh [aN,aN,.call 98 [.agg [.bs false 2 (List.map aa p1),vi p2],vi p3] hN (ah [] [] (vb x4) [])] [1,2,9] [0] ⟨[(1,vi p3),(2,.pt 0 0),(9,vb (!x4))],[(0,.box [.bs false 2 (List.map aa p1),vi p2])]⟩ (pa (smA [.agg [.bs false 2 (List.map aa p1),vi p2],vi p3]) <| trivial) ⟨co (kG p1 p2 p3 x4 e1) (.cons (.c1 (.agg (.cons (.same _ (by kernel_rfl) (by kernel_rfl)) (.cons (.same _ (by kernel_rfl) (by kernel_rfl)) (.nil))))) (.cons cS (.nil))),trivial⟩ ?_
 rcases ac ((!x4)) with b2 | b2
 ·replace h:=am b2 h
  refine AX.cT ((!x4)) b2 ?_
  refine AX.si [] [4] [] ⟨[(4,vs ByteArray.empty)],[]⟩ trivial trivial ?_
  refine AX.ret ?_
  refine ae (Wk.fg [4] [] ⟨[(4,vs ByteArray.empty)],[]⟩) ?_
  have hr:=Option.some.inj h
  subst hr
  exact ⟨_,Wk.refl _,.inr rfl,⟨[],by kernel_rfl,trivial,[vs ByteArray.empty],by kernel_rfl,by kernel_rfl⟩⟩
 ·replace h:=aq b2 h
  refine AX.cF ((!x4)) b2 ?_
  refine AX.skip ?_
  refine AX.seq ?_
  obtain ⟨x5,e3,h⟩:=ak h
  refine AX.rh [aN,aN,aN,.call 103 [.bs false 2 (List.map aa p1),vi p3] (aD (rho ([]++[1])) [] []++[]) (ah [] [1] (.sl 0 0 x5.length) [.arr 2 (List.map aa x5)])] [1,2,5] [0,1] ⟨[(1,vi p3),(2,.pt 0 0),(5,.sl 1 0 x5.length)],[(0,.box [.bs false 2 (List.map aa p1),vi p2]),(1,.arr 2 (List.map aa x5))]⟩ (pa (smA [.bs false 2 (List.map aa p1),vi p3]) <| trivial) ⟨aA (ks:=[]) (ns:=[1]) (bor:=[]) (bobjs:=[]) (wE p1 p3 x5 e3) (.cons cS (.cons cS (.nil))) (by kernel_rfl) trivial,trivial⟩ ?_
  refine AX.seq ?_
  obtain ⟨x6,e4,h⟩:=ak h
  obtain ⟨x7,e5,h⟩:=ak h
  obtain ⟨x8,e6,h⟩:=ak h
  obtain ⟨x9,e7,h⟩:=ak h
  refine AX.dh mixed [aN,aN,aN,.call 101 [.sl 1 0 x5.length] (aD (rho ([]++[2])) [] []++[(1,.arr 2 (List.map aa x5))]) (ah [] [2] (.sl 0 0 x6.length) [.arr 1 (List.map ab x6)]),aN,aN,.call 102 [.sl 1 0 x5.length] (aD (rho ([]++[])) [] []++[(1,.arr 2 (List.map aa x5))]) (ah [] [] (vi x7) []),.call 59 [vi p3,vi x7] hN (ah [] [] (vi x8) []),.call 100 [.bs false 2 (List.map aa p1),.sl 2 0 x6.length,vi x8] (aD (rho ([]++[])) [] []++[(2,.arr 1 (List.map ab x6))]) (ah [] [] (vs x9) [])] [4] [] ⟨[(4,vs x9)],[]⟩ (pa (⟨rfl,rfl,trivial⟩:((([.sl 1 0 x5.length]:List AV)=[.sl 1 0 x5.length])∧(AO.arr 2 (List.map aa x5)=AO.arr 2 (List.map aa x5))∧True)) <| pa (⟨rfl,rfl,trivial⟩:((([.sl 1 0 x5.length]:List AV)=[.sl 1 0 x5.length])∧(AO.arr 2 (List.map aa x5)=AO.arr 2 (List.map aa x5))∧True)) <| pa (smA [vi p3,vi x7]) <| pa (⟨rfl,rfl,trivial⟩:((([.bs false 2 (List.map aa p1),.sl 2 0 x6.length,vi x8]:List AV)=[.bs false 2 (List.map aa p1),.sl 2 0 x6.length,vi x8])∧(AO.arr 1 (List.map ab x6)=AO.arr 1 (List.map ab x6))∧True)) <| trivial) ⟨aA (ks:=[]) (ns:=[2]) (bor:=[1]) (bobjs:=[(1,.arr 2 (List.map aa x5))]) (nf x5 x6 e4) (.cons (.c1 (.c0 (.arr rfl rfl ((rfl).trans (List.length_map ..).symm)))) (.nil)) (by kernel_rfl) trivial,aA (ks:=[]) (ns:=[]) (bor:=[1]) (bobjs:=[(1,.arr 2 (List.map aa x5))]) (fK x5 x7 e5) (.cons (.c1 (.c0 (.arr rfl rfl ((rfl).trans (List.length_map ..).symm)))) (.nil)) (by kernel_rfl) trivial,co (dI p3 x7 x8 e6) (.cons cS (.cons cS (.nil))),aA (ks:=[]) (ns:=[]) (bor:=[2]) (bobjs:=[(2,.arr 1 (List.map ab x6))]) (mq p1 x6 x8 x9 e7) (.cons cS (.cons (.c1 (.c0 (.arr rfl rfl ((rfl).trans (List.length_map ..).symm)))) (.cons cS (.nil)))) (by kernel_rfl) trivial,trivial⟩ ?_
  refine AX.ret ?_
  refine ae (Wk.fg [4] [] ⟨[(4,vs x9)],[]⟩) ?_
  have hr:=Option.some.inj h
  subst hr
  exact ⟨_,Wk.refl _,.inr rfl,⟨[],by kernel_rfl,trivial,[vs x9],by kernel_rfl,by kernel_rfl⟩⟩

theorem pq (p1:List (ByteArray×Int)) (p2:Int) (p3:Int) (r:Int) (h:ff p1 p2 p3=some r) :
  Eng.al Tryz.prog 56 [.agg [.bs false 2 (List.map aa p1),vi p2],vi p3] [] (vi r) []:=by
 unfold ff at h
 refine Eng.al.body Tryz.func56 (by kernel_rfl) rfl (by kernel_rfl) ?_
 refine AX.wkpost ?_
 refine AX.si [.auto { nk:=0 }] [1,2] [0] ⟨[(1,vi p3),(2,.pt 0 0)],[(0,.box [.bs false 2 (List.map aa p1),vi p2])]⟩ trivial trivial ?_
 refine AX.seq ?_
 refine AX.seq ?_
 obtain ⟨x4,e1,h⟩:=ak h
 refine AX.rh [aN,aN,.call 98 [.agg [.bs false 2 (List.map aa p1),vi p2],vi p3] hN (ah [] [] (vb x4) [])] [1,2,8] [0] ⟨[(1,vi p3),(2,.pt 0 0),(8,vb (!x4))],[(0,.box [.bs false 2 (List.map aa p1),vi p2])]⟩ (pa (smA [.agg [.bs false 2 (List.map aa p1),vi p2],vi p3]) <| trivial) ⟨co (kG p1 p2 p3 x4 e1) (.cons (.c1 (.agg (.cons (.same _ (by kernel_rfl) (by kernel_rfl)) (.cons (.same _ (by kernel_rfl) (by kernel_rfl)) (.nil))))) (.cons cS (.nil))),trivial⟩ ?_
 rcases ac ((!x4)) with b2 | b2
 ·replace h:=am b2 h
  refine AX.cT ((!x4)) b2 ?_
  refine AX.si [] [4] [] ⟨[(4,vi (-1))],[]⟩ trivial trivial ?_
  refine AX.ret ?_
  refine ae (Wk.fg [4] [] ⟨[(4,vi (-1))],[]⟩) ?_
  have hr:=Option.some.inj h
  subst hr
  exact ⟨_,Wk.refl _,.inr rfl,⟨[],by kernel_rfl,trivial,[vi (-1)],by kernel_rfl,by kernel_rfl⟩⟩
 ·replace h:=aq b2 h
  refine AX.cF ((!x4)) b2 ?_
  refine AX.skip ?_
  refine AX.seq ?_
  refine AX.si [] [1,2,11] [0] ⟨[(1,vi p3),(2,.pt 0 0),(11,vb (decide (p2=3)))],[(0,.box [.bs false 2 (List.map aa p1),vi p2])]⟩ trivial trivial ?_
  rcases ac (decide (p2=3)) with b3 | b3
  ·replace h:=am b3 h
   refine AX.cT (decide (p2=3)) b3 ?_
   refine AX.seq ?_
   obtain ⟨x5,e4,h⟩:=ak h
   obtain ⟨x6,e5,h⟩:=ak h
   refine AX.rh [aN,aN,.call 104 [.bs false 2 (List.map aa p1)] hN (ah [] [] (vi x5) []),aN,.call 59 [vi x5,vi p3] hN (ah [] [] (vi x6) [])] [4] [] ⟨[(4,vi x6)],[]⟩ (pa (smA [.bs false 2 (List.map aa p1)]) <| pa (smA [vi x5,vi p3]) <| trivial) ⟨co (qF p1 x5 e4) (.cons cS (.nil)),co (dI x5 p3 x6 e5) (.cons cS (.cons cS (.nil))),trivial⟩ ?_
   refine AX.ret ?_
   refine ae (Wk.fg [4] [] ⟨[(4,vi x6)],[]⟩) ?_
   have hr:=Option.some.inj h
   subst hr
   exact ⟨_,Wk.refl _,.inr rfl,⟨[],by kernel_rfl,trivial,[vi x6],by kernel_rfl,by kernel_rfl⟩⟩
  ·replace h:=aq b3 h
   refine AX.cF (decide (p2=3)) b3 ?_
   refine AX.skip ?_
   refine AX.seq ?_
   obtain ⟨x7,e6,h⟩:=ak h
   obtain ⟨x8,e7,h⟩:=ak h
   refine AX.rh [aN,aN,.call 102 [.bs false 2 (List.map aa p1)] hN (ah [] [] (vi x7) []),aN,.call 59 [vi x7,vi p3] hN (ah [] [] (vi x8) [])] [4] [] ⟨[(4,vi x8)],[]⟩ (pa (smA [.bs false 2 (List.map aa p1)]) <| pa (smA [vi x7,vi p3]) <| trivial) ⟨co (fK p1 x7 e6) (.cons cS (.nil)),co (dI x7 p3 x8 e7) (.cons cS (.cons cS (.nil))),trivial⟩ ?_
   refine AX.ret ?_
   refine ae (Wk.fg [4] [] ⟨[(4,vi x8)],[]⟩) ?_
   have hr:=Option.some.inj h
   subst hr
   exact ⟨_,Wk.refl _,.inr rfl,⟨[],by kernel_rfl,trivial,[vi x8],by kernel_rfl,by kernel_rfl⟩⟩

theorem uI (p1:List (ByteArray×Int)) (p2:Int) (p3:ByteArray) (r:ByteArray) (h:ic p1 p2 p3=some r) :
  Eng.al Tryz.prog 24 [.agg [.bs false 2 (List.map aa p1),vi p2],vs p3] [] (vs r) []:=by
 unfold ic at h
 refine Eng.al.body Tryz.func24 (by kernel_rfl) rfl (by kernel_rfl) ?_
 refine AX.wkpost ?_
 refine AX.si [.auto { nk:=0 }] [1,2] [0] ⟨[(1,vs p3),(2,.pt 0 0)],[(0,.box [.bs false 2 (List.map aa p1),vi p2])]⟩ trivial trivial ?_
 refine AX.seq ?_
 obtain ⟨x4,e1,h⟩:=ak h
 refine AX.rh [aN,.call 48 [vs p3,.v (.int .u8 32)] (aD (rho ([]++[1])) [] []++[]) (ah [] [1] (.sl 0 0 x4.length) [.arr 1 (List.map ab x4)])] [2,5] [0,1] ⟨[(2,.pt 0 0),(5,.sl 1 0 x4.length)],[(0,.box [.bs false 2 (List.map aa p1),vi p2]),(1,.arr 1 (List.map ab x4))]⟩ (pa (smA [vs p3,.v (.int .u8 32)]) <| trivial) ⟨aA (ks:=[]) (ns:=[1]) (bor:=[]) (bobjs:=[]) (iO p3 32 x4 e1) (.cons cS (.cons cS (.nil))) (by kernel_rfl) trivial,trivial⟩ ?_
 refine AX.seq ?_
 obtain ⟨g2,h⟩:=aw h
 obtain ⟨x5,e3,h⟩:=ak h
 refine AX.rh [aN,aN,aN,.auto { raw:=true },aN,.auto { y:=some (vs (gt x4 (IntKind.wrap .i64 ((x4.length:Int) - 1)))) },.call 49 [vs (gt x4 (IntKind.wrap .i64 ((x4.length:Int) - 1)))] hN (ah [] [] (.tup [vi x5.1,vb x5.2]) [])] [2,5,6,7] [0,1] ⟨[(2,.pt 0 0),(5,.sl 1 0 x4.length),(6,vi x5.1),(7,vb x5.2)],[(0,.box [.bs false 2 (List.map aa p1),vi p2]),(1,.arr 1 (List.map ab x4))]⟩ (pa g2 <| pa (⟨trivial,(congrArg (fun z:List Value=>AV.v (z.getD 0 undef)) (au (enc:=ab) rfl g2))⟩:(True∧(AV.v (((List.map ab x4).getD (0+(IntKind.wrap .i64 ((x4.length:Int) - 1)).toNat) []).getD 0 undef)=vs (gt x4 (IntKind.wrap .i64 ((x4.length:Int) - 1)))))) <| pa (smA [vs (gt x4 (IntKind.wrap .i64 ((x4.length:Int) - 1)))]) <| trivial) ⟨co (lk (gt x4 (IntKind.wrap .i64 ((x4.length:Int) - 1))) x5 e3) (.cons cS (.nil)),trivial⟩ ?_
 refine AX.seq ?_
 refine AX.seq ?_
 rcases ac (decide ((x4.length:Int)=2)) with b4 | b4
 ·replace h:=am b4 h
  obtain ⟨g5,h⟩:=aw h
  obtain ⟨v6,q6,h⟩:=bT h
  rcases ac (v6) with b7 | b7
  ·replace h:=am b7 h
   rcases ac (x5.2) with b8 | b8
   ·replace h:=am b8 h
    obtain ⟨x7,e9,h⟩:=ak h
    refine AX.rh [aN,aN,aY (vb true),aN,aN,aN,aY (vs (gt x4 (0:Int))),aY (vb v6),aY (vb true),aN,aY (vb true),aN,aN,aN,.call 50 [vi x5.1,vi (-4096),vi 4095] hN (ah [] [] (vb x7) [])] [2,5,6,37] [0,1] ⟨[(2,.pt 0 0),(5,.sl 1 0 x4.length),(6,vi x5.1),(37,vb x7)],[(0,.box [.bs false 2 (List.map aa p1),vi p2]),(1,.arr 1 (List.map ab x4))]⟩ (pa (pb (cb b4)) <| pa g5 <| pa (⟨trivial,(congrArg (fun z:List Value=>AV.v (z.getD 0 undef)) (au (enc:=ab) rfl g5))⟩:(True∧(AV.v (((List.map ab x4).getD (0+(0:Int).toNat) []).getD 0 undef)=vs (gt x4 (0:Int))))) <| pa (pb (cb q6)) <| pa (pb (cb b7)) <| pa (pb (cb b8)) <| pa (smA [vi x5.1,vi (-4096),vi 4095]) <| trivial) ⟨co (cU x5.1 (-4096) 4095 x7 e9) (.cons cS (.cons cS (.cons cS (.nil)))),trivial⟩ ?_
    rcases ac (x7) with b10 | b10
    ·replace h:=am b10 h
     refine AX.cT (x7) b10 ?_
     refine AX.seq ?_
     obtain ⟨x8,e11,h⟩:=ak h
     refine AX.rh [aN,aN,.call 51 [.agg [.bs false 2 (List.map aa p1),vi p2],vi x5.1] hN (ah [] [] (vs x8) [])] [4] [] ⟨[(4,vs x8)],[]⟩ (pa (smA [.agg [.bs false 2 (List.map aa p1),vi p2],vi x5.1]) <| trivial) ⟨co (sG p1 p2 x5.1 x8 e11) (.cons (.c1 (.agg (.cons (.same _ (by kernel_rfl) (by kernel_rfl)) (.cons (.same _ (by kernel_rfl) (by kernel_rfl)) (.nil))))) (.cons cS (.nil))),trivial⟩ ?_
     refine AX.ret ?_
     refine ae (Wk.fg [4] [] ⟨[(4,vs x8)],[]⟩) ?_
     have hr:=Option.some.inj h
     subst hr
     exact ⟨_,Wk.refl _,.inr rfl,⟨[],by kernel_rfl,trivial,[vs x8],by kernel_rfl,by kernel_rfl⟩⟩
    ·replace h:=aq b10 h
     refine AX.cF (x7) b10 ?_
     refine AX.skip ?_
     refine AX.seq ?_
     refine AX.seq ?_
     rcases ac (decide ((x4.length:Int)<2)) with b12 | b12
     ·replace h:=am b12 h
      refine AX.rh [aN,aN,aY (vb true)] [2,5,48] [0,1] ⟨[(2,.pt 0 0),(5,.sl 1 0 x4.length),(48,vb true)],[(0,.box [.bs false 2 (List.map aa p1),vi p2]),(1,.arr 1 (List.map ab x4))]⟩ (pa (pb (cb b12)) <| trivial) trivial ?_
      refine AX.cond_true (by kernel_rfl) ?_
      refine AX.si [] [4] [] ⟨[(4,vs (ByteArray.mk #[119,104,97,116]))],[]⟩ trivial trivial ?_
      refine AX.ret ?_
      refine ae (Wk.fg [4] [] ⟨[(4,vs (ByteArray.mk #[119,104,97,116]))],[]⟩) ?_
      have hr:=Option.some.inj h
      subst hr
      exact ⟨_,Wk.refl _,.inr rfl,⟨[],by kernel_rfl,trivial,[vs (ByteArray.mk #[119,104,97,116])],by kernel_rfl,by kernel_rfl⟩⟩
     ·replace h:=aq b12 h
      refine AX.rh [aN,aN,aY (vb false)] [2,5,48] [0,1] ⟨[(2,.pt 0 0),(5,.sl 1 0 x4.length),(48,vb (decide (3<(x4.length:Int))))],[(0,.box [.bs false 2 (List.map aa p1),vi p2]),(1,.arr 1 (List.map ab x4))]⟩ (pa (pb (cb b12)) <| trivial) trivial ?_
      rcases ac (decide (3<(x4.length:Int))) with b13 | b13
      ·replace h:=am b13 h
       refine AX.cT (decide (3<(x4.length:Int))) b13 ?_
       refine AX.si [] [4] [] ⟨[(4,vs (ByteArray.mk #[119,104,97,116]))],[]⟩ trivial trivial ?_
       refine AX.ret ?_
       refine ae (Wk.fg [4] [] ⟨[(4,vs (ByteArray.mk #[119,104,97,116]))],[]⟩) ?_
       have hr:=Option.some.inj h
       subst hr
       exact ⟨_,Wk.refl _,.inr rfl,⟨[],by kernel_rfl,trivial,[vs (ByteArray.mk #[119,104,97,116])],by kernel_rfl,by kernel_rfl⟩⟩
      ·replace h:=aq b13 h
       refine AX.cF (decide (3<(x4.length:Int))) b13 ?_
       refine AX.skip ?_
       refine AX.seq ?_
       obtain ⟨g14,h⟩:=aw h
       obtain ⟨x9,e15,h⟩:=ak h
       refine AX.dh mixed [aN,aN,aN,aY (vs (gt x4 (1:Int))),.call 52 [.agg [.bs false 2 (List.map aa p1),vi p2],vs (gt x4 (1:Int))] hN (ah [] [] (vi x9) [])] [2,5,8] [0,1] ⟨[(2,.pt 0 0),(5,.sl 1 0 x4.length),(8,vi x9)],[(0,.box [.bs false 2 (List.map aa p1),vi p2]),(1,.arr 1 (List.map ab x4))]⟩ (pa g14 <| pa (⟨trivial,(congrArg (fun z:List Value=>AV.v (z.getD 0 undef)) (au (enc:=ab) rfl g14))⟩:(True∧(AV.v (((List.map ab x4).getD (0+(1:Int).toNat) []).getD 0 undef)=vs (gt x4 (1:Int))))) <| pa (smA [.agg [.bs false 2 (List.map aa p1),vi p2],vs (gt x4 (1:Int))]) <| trivial) ⟨co (dk p1 p2 (gt x4 (1:Int)) x9 e15) (.cons (.c1 (.agg (.cons (.same _ (by kernel_rfl) (by kernel_rfl)) (.cons (.same _ (by kernel_rfl) (by kernel_rfl)) (.nil))))) (.cons cS (.nil))),trivial⟩ ?_
       refine AX.seq ?_
       obtain ⟨x10,e16,h⟩:=ak h
       refine AX.dh mixed [aN,aN,aN,aN,.auto { raw:=true },aN,.auto { y:=some (vs (gt x4 (IntKind.wrap .i64 ((x4.length:Int) - 1)))) },.call 52 [.agg [.bs false 2 (List.map aa p1),vi p2],vs (gt x4 (IntKind.wrap .i64 ((x4.length:Int) - 1)))] hN (ah [] [] (vi x10) [])] [2,5,8,9] [0,1] ⟨[(2,.pt 0 0),(5,.sl 1 0 x4.length),(8,vi x9),(9,vi x10)],[(0,.box [.bs false 2 (List.map aa p1),vi p2]),(1,.arr 1 (List.map ab x4))]⟩ (pa g2 <| pa (⟨trivial,(congrArg (fun z:List Value=>AV.v (z.getD 0 undef)) (au (enc:=ab) rfl g2))⟩:(True∧(AV.v (((List.map ab x4).getD (0+(IntKind.wrap .i64 ((x4.length:Int) - 1)).toNat) []).getD 0 undef)=vs (gt x4 (IntKind.wrap .i64 ((x4.length:Int) - 1)))))) <| pa (smA [.agg [.bs false 2 (List.map aa p1),vi p2],vs (gt x4 (IntKind.wrap .i64 ((x4.length:Int) - 1)))]) <| trivial) ⟨co (dk p1 p2 (gt x4 (IntKind.wrap .i64 ((x4.length:Int) - 1))) x10 e16) (.cons (.c1 (.agg (.cons (.same _ (by kernel_rfl) (by kernel_rfl)) (.cons (.same _ (by kernel_rfl) (by kernel_rfl)) (.nil))))) (.cons cS (.nil))),trivial⟩ ?_
       refine AX.seq ?_
       refine AX.block ?_
       refine AX.si [aN,aN,aY (vb true),aN,aN,aN,aY (vs (gt x4 (0:Int))),aY (vb false)] [2,5,8,9,62] [0,1] ⟨[(2,.pt 0 0),(5,.sl 1 0 x4.length),(8,vi x9),(9,vi x10),(62,vb false)],[(0,.box [.bs false 2 (List.map aa p1),vi p2]),(1,.arr 1 (List.map ab x4))]⟩ (pa (pb (cb b4)) <| pa g5 <| pa (⟨trivial,(congrArg (fun z:List Value=>AV.v (z.getD 0 undef)) (au (enc:=ab) rfl g5))⟩:(True∧(AV.v (((List.map ab x4).getD (0+(0:Int).toNat) []).getD 0 undef)=vs (gt x4 (0:Int))))) <| pa (pb (cb (ax (b:=(ByteArray.mk #[118,97,108,117,101])) (q6.trans b7) (by decide)))) <| trivial) trivial ?_
       refine AX.cond_false (by kernel_rfl) ?_
       refine AX.si [aN,aN,aY (vb true),aN,aN,aN,aY (vs (gt x4 (0:Int))),aY (vb false)] [2,5,8,9,78] [0,1] ⟨[(2,.pt 0 0),(5,.sl 1 0 x4.length),(8,vi x9),(9,vi x10),(78,vb false)],[(0,.box [.bs false 2 (List.map aa p1),vi p2]),(1,.arr 1 (List.map ab x4))]⟩ (pa (pb (cb b4)) <| pa g5 <| pa (⟨trivial,(congrArg (fun z:List Value=>AV.v (z.getD 0 undef)) (au (enc:=ab) rfl g5))⟩:(True∧(AV.v (((List.map ab x4).getD (0+(0:Int).toNat) []).getD 0 undef)=vs (gt x4 (0:Int))))) <| pa (pb (cb (ax (b:=(ByteArray.mk #[115,104,111,119])) (q6.trans b7) (by decide)))) <| trivial) trivial ?_
       refine AX.cond_false (by kernel_rfl) ?_
       refine AX.si [aN,aN,aY (vb true),aN,aN,aN,aY (vs (gt x4 (0:Int))),aY (vb false)] [2,5,8,9,95] [0,1] ⟨[(2,.pt 0 0),(5,.sl 1 0 x4.length),(8,vi x9),(9,vi x10),(95,vb false)],[(0,.box [.bs false 2 (List.map aa p1),vi p2]),(1,.arr 1 (List.map ab x4))]⟩ (pa (pb (cb b4)) <| pa g5 <| pa (⟨trivial,(congrArg (fun z:List Value=>AV.v (z.getD 0 undef)) (au (enc:=ab) rfl g5))⟩:(True∧(AV.v (((List.map ab x4).getD (0+(0:Int).toNat) []).getD 0 undef)=vs (gt x4 (0:Int))))) <| pa (pb (cb (ax (b:=(ByteArray.mk #[115,104,111,114,116])) (q6.trans b7) (by decide)))) <| trivial) trivial ?_
       refine AX.cond_false (by kernel_rfl) ?_
       refine AX.si [aN,aN,aY (vb true),aN,aN,aN,aY (vs (gt x4 (0:Int))),aY (vb false)] [2,5,8,9,112] [0,1] ⟨[(2,.pt 0 0),(5,.sl 1 0 x4.length),(8,vi x9),(9,vi x10),(112,vb false)],[(0,.box [.bs false 2 (List.map aa p1),vi p2]),(1,.arr 1 (List.map ab x4))]⟩ (pa (pb (cb b4)) <| pa g5 <| pa (⟨trivial,(congrArg (fun z:List Value=>AV.v (z.getD 0 undef)) (au (enc:=ab) rfl g5))⟩:(True∧(AV.v (((List.map ab x4).getD (0+(0:Int).toNat) []).getD 0 undef)=vs (gt x4 (0:Int))))) <| pa (pb (cb (ax (b:=(ByteArray.mk #[110,111,116])) (q6.trans b7) (by decide)))) <| trivial) trivial ?_
       refine AX.cond_false (by kernel_rfl) ?_
       refine AX.si [aN,aN,aY (vb false)] [2,5,8,9,131] [0,1] ⟨[(2,.pt 0 0),(5,.sl 1 0 x4.length),(8,vi x9),(9,vi x10),(131,vb false)],[(0,.box [.bs false 2 (List.map aa p1),vi p2]),(1,.arr 1 (List.map ab x4))]⟩ (pa (pb (cb (ax (b:=(3:Int)) b4 (by decide)))) <| trivial) trivial ?_
       refine AX.cond_false (by kernel_rfl) ?_
       refine AX.si [aN,aN,aY (vb false)] [2,5,8,9,154] [0,1] ⟨[(2,.pt 0 0),(5,.sl 1 0 x4.length),(8,vi x9),(9,vi x10),(154,vb false)],[(0,.box [.bs false 2 (List.map aa p1),vi p2]),(1,.arr 1 (List.map ab x4))]⟩ (pa (pb (cb (ax (b:=(3:Int)) b4 (by decide)))) <| trivial) trivial ?_
       refine AX.cond_false (by kernel_rfl) ?_
       refine AX.si [aN,aN,aY (vb false)] [2,8,9,177] [0] ⟨[(2,.pt 0 0),(8,vi x9),(9,vi x10),(177,vb false)],[(0,.box [.bs false 2 (List.map aa p1),vi p2])]⟩ (pa (pb (cb (ax (b:=(3:Int)) b4 (by decide)))) <| trivial) trivial ?_
       refine AX.cond_false (by kernel_rfl) ?_
       refine AX.skip ?_
       refine AX.si [] [4] [] ⟨[(4,vs (ByteArray.mk #[119,104,97,116]))],[]⟩ trivial trivial ?_
       refine AX.ret ?_
       refine ae (Wk.fg [4] [] ⟨[(4,vs (ByteArray.mk #[119,104,97,116]))],[]⟩) ?_
       have hr:=Option.some.inj h
       subst hr
       exact ⟨_,Wk.refl _,.inr rfl,⟨[],by kernel_rfl,trivial,[vs (ByteArray.mk #[119,104,97,116])],by kernel_rfl,by kernel_rfl⟩⟩
   ·replace h:=aq b8 h
    refine AX.rh [aN,aN,aY (vb true),aN,aN,aN,aY (vs (gt x4 (0:Int))),aY (vb v6),aY (vb true),aN,aY (vb false)] [2,5,6,37] [0,1] ⟨[(2,.pt 0 0),(5,.sl 1 0 x4.length),(6,vi x5.1),(37,vb false)],[(0,.box [.bs false 2 (List.map aa p1),vi p2]),(1,.arr 1 (List.map ab x4))]⟩ (pa (pb (cb b4)) <| pa g5 <| pa (⟨trivial,(congrArg (fun z:List Value=>AV.v (z.getD 0 undef)) (au (enc:=ab) rfl g5))⟩:(True∧(AV.v (((List.map ab x4).getD (0+(0:Int).toNat) []).getD 0 undef)=vs (gt x4 (0:Int))))) <| pa (pb (cb q6)) <| pa (pb (cb b7)) <| pa (pb (cb b8)) <| trivial) trivial ?_
    refine AX.cond_false (by kernel_rfl) ?_
    refine AX.skip ?_
    refine AX.seq ?_
    refine AX.seq ?_
    rcases ac (decide ((x4.length:Int)<2)) with b17 | b17
    ·replace h:=am b17 h
     refine AX.rh [aN,aN,aY (vb true)] [2,5,48] [0,1] ⟨[(2,.pt 0 0),(5,.sl 1 0 x4.length),(48,vb true)],[(0,.box [.bs false 2 (List.map aa p1),vi p2]),(1,.arr 1 (List.map ab x4))]⟩ (pa (pb (cb b17)) <| trivial) trivial ?_
     refine AX.cond_true (by kernel_rfl) ?_
     refine AX.si [] [4] [] ⟨[(4,vs (ByteArray.mk #[119,104,97,116]))],[]⟩ trivial trivial ?_
     refine AX.ret ?_
     refine ae (Wk.fg [4] [] ⟨[(4,vs (ByteArray.mk #[119,104,97,116]))],[]⟩) ?_
     have hr:=Option.some.inj h
     subst hr
     exact ⟨_,Wk.refl _,.inr rfl,⟨[],by kernel_rfl,trivial,[vs (ByteArray.mk #[119,104,97,116])],by kernel_rfl,by kernel_rfl⟩⟩
    ·replace h:=aq b17 h
     refine AX.rh [aN,aN,aY (vb false)] [2,5,48] [0,1] ⟨[(2,.pt 0 0),(5,.sl 1 0 x4.length),(48,vb (decide (3<(x4.length:Int))))],[(0,.box [.bs false 2 (List.map aa p1),vi p2]),(1,.arr 1 (List.map ab x4))]⟩ (pa (pb (cb b17)) <| trivial) trivial ?_
     rcases ac (decide (3<(x4.length:Int))) with b18 | b18
     ·replace h:=am b18 h
      refine AX.cT (decide (3<(x4.length:Int))) b18 ?_
      refine AX.si [] [4] [] ⟨[(4,vs (ByteArray.mk #[119,104,97,116]))],[]⟩ trivial trivial ?_
      refine AX.ret ?_
      refine ae (Wk.fg [4] [] ⟨[(4,vs (ByteArray.mk #[119,104,97,116]))],[]⟩) ?_
      have hr:=Option.some.inj h
      subst hr
      exact ⟨_,Wk.refl _,.inr rfl,⟨[],by kernel_rfl,trivial,[vs (ByteArray.mk #[119,104,97,116])],by kernel_rfl,by kernel_rfl⟩⟩
     ·replace h:=aq b18 h
      refine AX.cF (decide (3<(x4.length:Int))) b18 ?_
      refine AX.skip ?_
      refine AX.seq ?_
      obtain ⟨g19,h⟩:=aw h
      obtain ⟨x11,e20,h⟩:=ak h
      refine AX.dh mixed [aN,aN,aN,aY (vs (gt x4 (1:Int))),.call 52 [.agg [.bs false 2 (List.map aa p1),vi p2],vs (gt x4 (1:Int))] hN (ah [] [] (vi x11) [])] [2,5,8] [0,1] ⟨[(2,.pt 0 0),(5,.sl 1 0 x4.length),(8,vi x11)],[(0,.box [.bs false 2 (List.map aa p1),vi p2]),(1,.arr 1 (List.map ab x4))]⟩ (pa g19 <| pa (⟨trivial,(congrArg (fun z:List Value=>AV.v (z.getD 0 undef)) (au (enc:=ab) rfl g19))⟩:(True∧(AV.v (((List.map ab x4).getD (0+(1:Int).toNat) []).getD 0 undef)=vs (gt x4 (1:Int))))) <| pa (smA [.agg [.bs false 2 (List.map aa p1),vi p2],vs (gt x4 (1:Int))]) <| trivial) ⟨co (dk p1 p2 (gt x4 (1:Int)) x11 e20) (.cons (.c1 (.agg (.cons (.same _ (by kernel_rfl) (by kernel_rfl)) (.cons (.same _ (by kernel_rfl) (by kernel_rfl)) (.nil))))) (.cons cS (.nil))),trivial⟩ ?_
      refine AX.seq ?_
      obtain ⟨x12,e21,h⟩:=ak h
      refine AX.dh mixed [aN,aN,aN,aN,.auto { raw:=true },aN,.auto { y:=some (vs (gt x4 (IntKind.wrap .i64 ((x4.length:Int) - 1)))) },.call 52 [.agg [.bs false 2 (List.map aa p1),vi p2],vs (gt x4 (IntKind.wrap .i64 ((x4.length:Int) - 1)))] hN (ah [] [] (vi x12) [])] [2,5,8,9] [0,1] ⟨[(2,.pt 0 0),(5,.sl 1 0 x4.length),(8,vi x11),(9,vi x12)],[(0,.box [.bs false 2 (List.map aa p1),vi p2]),(1,.arr 1 (List.map ab x4))]⟩ (pa g2 <| pa (⟨trivial,(congrArg (fun z:List Value=>AV.v (z.getD 0 undef)) (au (enc:=ab) rfl g2))⟩:(True∧(AV.v (((List.map ab x4).getD (0+(IntKind.wrap .i64 ((x4.length:Int) - 1)).toNat) []).getD 0 undef)=vs (gt x4 (IntKind.wrap .i64 ((x4.length:Int) - 1)))))) <| pa (smA [.agg [.bs false 2 (List.map aa p1),vi p2],vs (gt x4 (IntKind.wrap .i64 ((x4.length:Int) - 1)))]) <| trivial) ⟨co (dk p1 p2 (gt x4 (IntKind.wrap .i64 ((x4.length:Int) - 1))) x12 e21) (.cons (.c1 (.agg (.cons (.same _ (by kernel_rfl) (by kernel_rfl)) (.cons (.same _ (by kernel_rfl) (by kernel_rfl)) (.nil))))) (.cons cS (.nil))),trivial⟩ ?_
      refine AX.seq ?_
      refine AX.block ?_
      refine AX.si [aN,aN,aY (vb true),aN,aN,aN,aY (vs (gt x4 (0:Int))),aY (vb false)] [2,5,8,9,62] [0,1] ⟨[(2,.pt 0 0),(5,.sl 1 0 x4.length),(8,vi x11),(9,vi x12),(62,vb false)],[(0,.box [.bs false 2 (List.map aa p1),vi p2]),(1,.arr 1 (List.map ab x4))]⟩ (pa (pb (cb b4)) <| pa g5 <| pa (⟨trivial,(congrArg (fun z:List Value=>AV.v (z.getD 0 undef)) (au (enc:=ab) rfl g5))⟩:(True∧(AV.v (((List.map ab x4).getD (0+(0:Int).toNat) []).getD 0 undef)=vs (gt x4 (0:Int))))) <| pa (pb (cb (ax (b:=(ByteArray.mk #[118,97,108,117,101])) (q6.trans b7) (by decide)))) <| trivial) trivial ?_
      refine AX.cond_false (by kernel_rfl) ?_
      refine AX.si [aN,aN,aY (vb true),aN,aN,aN,aY (vs (gt x4 (0:Int))),aY (vb false)] [2,5,8,9,78] [0,1] ⟨[(2,.pt 0 0),(5,.sl 1 0 x4.length),(8,vi x11),(9,vi x12),(78,vb false)],[(0,.box [.bs false 2 (List.map aa p1),vi p2]),(1,.arr 1 (List.map ab x4))]⟩ (pa (pb (cb b4)) <| pa g5 <| pa (⟨trivial,(congrArg (fun z:List Value=>AV.v (z.getD 0 undef)) (au (enc:=ab) rfl g5))⟩:(True∧(AV.v (((List.map ab x4).getD (0+(0:Int).toNat) []).getD 0 undef)=vs (gt x4 (0:Int))))) <| pa (pb (cb (ax (b:=(ByteArray.mk #[115,104,111,119])) (q6.trans b7) (by decide)))) <| trivial) trivial ?_
      refine AX.cond_false (by kernel_rfl) ?_
      refine AX.si [aN,aN,aY (vb true),aN,aN,aN,aY (vs (gt x4 (0:Int))),aY (vb false)] [2,5,8,9,95] [0,1] ⟨[(2,.pt 0 0),(5,.sl 1 0 x4.length),(8,vi x11),(9,vi x12),(95,vb false)],[(0,.box [.bs false 2 (List.map aa p1),vi p2]),(1,.arr 1 (List.map ab x4))]⟩ (pa (pb (cb b4)) <| pa g5 <| pa (⟨trivial,(congrArg (fun z:List Value=>AV.v (z.getD 0 undef)) (au (enc:=ab) rfl g5))⟩:(True∧(AV.v (((List.map ab x4).getD (0+(0:Int).toNat) []).getD 0 undef)=vs (gt x4 (0:Int))))) <| pa (pb (cb (ax (b:=(ByteArray.mk #[115,104,111,114,116])) (q6.trans b7) (by decide)))) <| trivial) trivial ?_
      refine AX.cond_false (by kernel_rfl) ?_
      refine AX.si [aN,aN,aY (vb true),aN,aN,aN,aY (vs (gt x4 (0:Int))),aY (vb false)] [2,5,8,9,112] [0,1] ⟨[(2,.pt 0 0),(5,.sl 1 0 x4.length),(8,vi x11),(9,vi x12),(112,vb false)],[(0,.box [.bs false 2 (List.map aa p1),vi p2]),(1,.arr 1 (List.map ab x4))]⟩ (pa (pb (cb b4)) <| pa g5 <| pa (⟨trivial,(congrArg (fun z:List Value=>AV.v (z.getD 0 undef)) (au (enc:=ab) rfl g5))⟩:(True∧(AV.v (((List.map ab x4).getD (0+(0:Int).toNat) []).getD 0 undef)=vs (gt x4 (0:Int))))) <| pa (pb (cb (ax (b:=(ByteArray.mk #[110,111,116])) (q6.trans b7) (by decide)))) <| trivial) trivial ?_
      refine AX.cond_false (by kernel_rfl) ?_
      refine AX.si [aN,aN,aY (vb false)] [2,5,8,9,131] [0,1] ⟨[(2,.pt 0 0),(5,.sl 1 0 x4.length),(8,vi x11),(9,vi x12),(131,vb false)],[(0,.box [.bs false 2 (List.map aa p1),vi p2]),(1,.arr 1 (List.map ab x4))]⟩ (pa (pb (cb (ax (b:=(3:Int)) b4 (by decide)))) <| trivial) trivial ?_
      refine AX.cond_false (by kernel_rfl) ?_
      refine AX.si [aN,aN,aY (vb false)] [2,5,8,9,154] [0,1] ⟨[(2,.pt 0 0),(5,.sl 1 0 x4.length),(8,vi x11),(9,vi x12),(154,vb false)],[(0,.box [.bs false 2 (List.map aa p1),vi p2]),(1,.arr 1 (List.map ab x4))]⟩ (pa (pb (cb (ax (b:=(3:Int)) b4 (by decide)))) <| trivial) trivial ?_
      refine AX.cond_false (by kernel_rfl) ?_
      refine AX.si [aN,aN,aY (vb false)] [2,8,9,177] [0] ⟨[(2,.pt 0 0),(8,vi x11),(9,vi x12),(177,vb false)],[(0,.box [.bs false 2 (List.map aa p1),vi p2])]⟩ (pa (pb (cb (ax (b:=(3:Int)) b4 (by decide)))) <| trivial) trivial ?_
      refine AX.cond_false (by kernel_rfl) ?_
      refine AX.skip ?_
      refine AX.si [] [4] [] ⟨[(4,vs (ByteArray.mk #[119,104,97,116]))],[]⟩ trivial trivial ?_
      refine AX.ret ?_
      refine ae (Wk.fg [4] [] ⟨[(4,vs (ByteArray.mk #[119,104,97,116]))],[]⟩) ?_
      have hr:=Option.some.inj h
      subst hr
      exact ⟨_,Wk.refl _,.inr rfl,⟨[],by kernel_rfl,trivial,[vs (ByteArray.mk #[119,104,97,116])],by kernel_rfl,by kernel_rfl⟩⟩
  ·replace h:=aq b7 h
   refine AX.rh [aN,aN,aY (vb true),aN,aN,aN,aY (vs (gt x4 (0:Int))),aY (vb v6),aY (vb false)] [2,5,6,37] [0,1] ⟨[(2,.pt 0 0),(5,.sl 1 0 x4.length),(6,vi x5.1),(37,vb false)],[(0,.box [.bs false 2 (List.map aa p1),vi p2]),(1,.arr 1 (List.map ab x4))]⟩ (pa (pb (cb b4)) <| pa g5 <| pa (⟨trivial,(congrArg (fun z:List Value=>AV.v (z.getD 0 undef)) (au (enc:=ab) rfl g5))⟩:(True∧(AV.v (((List.map ab x4).getD (0+(0:Int).toNat) []).getD 0 undef)=vs (gt x4 (0:Int))))) <| pa (pb (cb q6)) <| pa (pb (cb b7)) <| trivial) trivial ?_
   refine AX.cond_false (by kernel_rfl) ?_
   refine AX.skip ?_
   refine AX.seq ?_
   refine AX.seq ?_
   rcases ac (decide ((x4.length:Int)<2)) with b22 | b22
   ·replace h:=am b22 h
    refine AX.rh [aN,aN,aY (vb true)] [2,5,48] [0,1] ⟨[(2,.pt 0 0),(5,.sl 1 0 x4.length),(48,vb true)],[(0,.box [.bs false 2 (List.map aa p1),vi p2]),(1,.arr 1 (List.map ab x4))]⟩ (pa (pb (cb b22)) <| trivial) trivial ?_
    refine AX.cond_true (by kernel_rfl) ?_
    refine AX.si [] [4] [] ⟨[(4,vs (ByteArray.mk #[119,104,97,116]))],[]⟩ trivial trivial ?_
    refine AX.ret ?_
    refine ae (Wk.fg [4] [] ⟨[(4,vs (ByteArray.mk #[119,104,97,116]))],[]⟩) ?_
    have hr:=Option.some.inj h
    subst hr
    exact ⟨_,Wk.refl _,.inr rfl,⟨[],by kernel_rfl,trivial,[vs (ByteArray.mk #[119,104,97,116])],by kernel_rfl,by kernel_rfl⟩⟩
   ·replace h:=aq b22 h
    refine AX.rh [aN,aN,aY (vb false)] [2,5,48] [0,1] ⟨[(2,.pt 0 0),(5,.sl 1 0 x4.length),(48,vb (decide (3<(x4.length:Int))))],[(0,.box [.bs false 2 (List.map aa p1),vi p2]),(1,.arr 1 (List.map ab x4))]⟩ (pa (pb (cb b22)) <| trivial) trivial ?_
    rcases ac (decide (3<(x4.length:Int))) with b23 | b23
    ·replace h:=am b23 h
     refine AX.cT (decide (3<(x4.length:Int))) b23 ?_
     refine AX.si [] [4] [] ⟨[(4,vs (ByteArray.mk #[119,104,97,116]))],[]⟩ trivial trivial ?_
     refine AX.ret ?_
     refine ae (Wk.fg [4] [] ⟨[(4,vs (ByteArray.mk #[119,104,97,116]))],[]⟩) ?_
     have hr:=Option.some.inj h
     subst hr
     exact ⟨_,Wk.refl _,.inr rfl,⟨[],by kernel_rfl,trivial,[vs (ByteArray.mk #[119,104,97,116])],by kernel_rfl,by kernel_rfl⟩⟩
    ·replace h:=aq b23 h
     refine AX.cF (decide (3<(x4.length:Int))) b23 ?_
     refine AX.skip ?_
     refine AX.seq ?_
     obtain ⟨g24,h⟩:=aw h
     obtain ⟨x13,e25,h⟩:=ak h
     refine AX.dh mixed [aN,aN,aN,aY (vs (gt x4 (1:Int))),.call 52 [.agg [.bs false 2 (List.map aa p1),vi p2],vs (gt x4 (1:Int))] hN (ah [] [] (vi x13) [])] [2,5,8] [0,1] ⟨[(2,.pt 0 0),(5,.sl 1 0 x4.length),(8,vi x13)],[(0,.box [.bs false 2 (List.map aa p1),vi p2]),(1,.arr 1 (List.map ab x4))]⟩ (pa g24 <| pa (⟨trivial,(congrArg (fun z:List Value=>AV.v (z.getD 0 undef)) (au (enc:=ab) rfl g24))⟩:(True∧(AV.v (((List.map ab x4).getD (0+(1:Int).toNat) []).getD 0 undef)=vs (gt x4 (1:Int))))) <| pa (smA [.agg [.bs false 2 (List.map aa p1),vi p2],vs (gt x4 (1:Int))]) <| trivial) ⟨co (dk p1 p2 (gt x4 (1:Int)) x13 e25) (.cons (.c1 (.agg (.cons (.same _ (by kernel_rfl) (by kernel_rfl)) (.cons (.same _ (by kernel_rfl) (by kernel_rfl)) (.nil))))) (.cons cS (.nil))),trivial⟩ ?_
     refine AX.seq ?_
     obtain ⟨x14,e26,h⟩:=ak h
     refine AX.dh mixed [aN,aN,aN,aN,.auto { raw:=true },aN,.auto { y:=some (vs (gt x4 (IntKind.wrap .i64 ((x4.length:Int) - 1)))) },.call 52 [.agg [.bs false 2 (List.map aa p1),vi p2],vs (gt x4 (IntKind.wrap .i64 ((x4.length:Int) - 1)))] hN (ah [] [] (vi x14) [])] [2,5,8,9] [0,1] ⟨[(2,.pt 0 0),(5,.sl 1 0 x4.length),(8,vi x13),(9,vi x14)],[(0,.box [.bs false 2 (List.map aa p1),vi p2]),(1,.arr 1 (List.map ab x4))]⟩ (pa g2 <| pa (⟨trivial,(congrArg (fun z:List Value=>AV.v (z.getD 0 undef)) (au (enc:=ab) rfl g2))⟩:(True∧(AV.v (((List.map ab x4).getD (0+(IntKind.wrap .i64 ((x4.length:Int) - 1)).toNat) []).getD 0 undef)=vs (gt x4 (IntKind.wrap .i64 ((x4.length:Int) - 1)))))) <| pa (smA [.agg [.bs false 2 (List.map aa p1),vi p2],vs (gt x4 (IntKind.wrap .i64 ((x4.length:Int) - 1)))]) <| trivial) ⟨co (dk p1 p2 (gt x4 (IntKind.wrap .i64 ((x4.length:Int) - 1))) x14 e26) (.cons (.c1 (.agg (.cons (.same _ (by kernel_rfl) (by kernel_rfl)) (.cons (.same _ (by kernel_rfl) (by kernel_rfl)) (.nil))))) (.cons cS (.nil))),trivial⟩ ?_
     refine AX.seq ?_
     refine AX.block ?_
     refine AX.seq ?_
     obtain ⟨v15,q27,h⟩:=bT h
     rcases ac (v15) with b28 | b28
     ·replace h:=am b28 h
      refine AX.rh [aN,aN,aY (vb true),aN,aN,aN,aY (vs (gt x4 (0:Int))),aY (vb v15),aY (vb true)] [2,5,8,9,62] [0,1] ⟨[(2,.pt 0 0),(5,.sl 1 0 x4.length),(8,vi x13),(9,vi x14),(62,vb (decide (0≤x13)))],[(0,.box [.bs false 2 (List.map aa p1),vi p2]),(1,.arr 1 (List.map ab x4))]⟩ (pa (pb (cb b4)) <| pa g5 <| pa (⟨trivial,(congrArg (fun z:List Value=>AV.v (z.getD 0 undef)) (au (enc:=ab) rfl g5))⟩:(True∧(AV.v (((List.map ab x4).getD (0+(0:Int).toNat) []).getD 0 undef)=vs (gt x4 (0:Int))))) <| pa (pb (cb q27)) <| pa (pb (cb b28)) <| trivial) trivial ?_
      rcases ac (decide (0≤x13)) with b29 | b29
      ·replace h:=am b29 h
       refine AX.cT (decide (0≤x13)) b29 ?_
       refine AX.seq ?_
       obtain ⟨x16,e30,h⟩:=ak h
       refine AX.rh [aN,.call 53 [vi x13] hN (ah [] [] (vs x16) [])] [4] [] ⟨[(4,vs x16)],[]⟩ (pa (smA [vi x13]) <| trivial) ⟨co (s_spec_number FU x13 x16 e30) (.cons cS (.nil)),trivial⟩ ?_
       refine AX.ret ?_
       refine ae (Wk.fg [4] [] ⟨[(4,vs x16)],[]⟩) ?_
       have hr:=Option.some.inj h
       subst hr
       exact ⟨_,Wk.refl _,.inr rfl,⟨[],by kernel_rfl,trivial,[vs x16],by kernel_rfl,by kernel_rfl⟩⟩
      ·replace h:=aq b29 h
       refine AX.cF (decide (0≤x13)) b29 ?_
       refine AX.si [aN,aN,aY (vb true),aN,aN,aN,aY (vs (gt x4 (0:Int))),aY (vb false)] [2,5,8,9,78] [0,1] ⟨[(2,.pt 0 0),(5,.sl 1 0 x4.length),(8,vi x13),(9,vi x14),(78,vb false)],[(0,.box [.bs false 2 (List.map aa p1),vi p2]),(1,.arr 1 (List.map ab x4))]⟩ (pa (pb (cb b4)) <| pa g5 <| pa (⟨trivial,(congrArg (fun z:List Value=>AV.v (z.getD 0 undef)) (au (enc:=ab) rfl g5))⟩:(True∧(AV.v (((List.map ab x4).getD (0+(0:Int).toNat) []).getD 0 undef)=vs (gt x4 (0:Int))))) <| pa (pb (cb (ax (b:=(ByteArray.mk #[115,104,111,119])) (q27.trans b28) (by decide)))) <| trivial) trivial ?_
       refine AX.cond_false (by kernel_rfl) ?_
       refine AX.si [aN,aN,aY (vb true),aN,aN,aN,aY (vs (gt x4 (0:Int))),aY (vb false)] [2,5,8,9,95] [0,1] ⟨[(2,.pt 0 0),(5,.sl 1 0 x4.length),(8,vi x13),(9,vi x14),(95,vb false)],[(0,.box [.bs false 2 (List.map aa p1),vi p2]),(1,.arr 1 (List.map ab x4))]⟩ (pa (pb (cb b4)) <| pa g5 <| pa (⟨trivial,(congrArg (fun z:List Value=>AV.v (z.getD 0 undef)) (au (enc:=ab) rfl g5))⟩:(True∧(AV.v (((List.map ab x4).getD (0+(0:Int).toNat) []).getD 0 undef)=vs (gt x4 (0:Int))))) <| pa (pb (cb (ax (b:=(ByteArray.mk #[115,104,111,114,116])) (q27.trans b28) (by decide)))) <| trivial) trivial ?_
       refine AX.cond_false (by kernel_rfl) ?_
       refine AX.si [aN,aN,aY (vb true),aN,aN,aN,aY (vs (gt x4 (0:Int))),aY (vb false)] [2,5,8,9,112] [0,1] ⟨[(2,.pt 0 0),(5,.sl 1 0 x4.length),(8,vi x13),(9,vi x14),(112,vb false)],[(0,.box [.bs false 2 (List.map aa p1),vi p2]),(1,.arr 1 (List.map ab x4))]⟩ (pa (pb (cb b4)) <| pa g5 <| pa (⟨trivial,(congrArg (fun z:List Value=>AV.v (z.getD 0 undef)) (au (enc:=ab) rfl g5))⟩:(True∧(AV.v (((List.map ab x4).getD (0+(0:Int).toNat) []).getD 0 undef)=vs (gt x4 (0:Int))))) <| pa (pb (cb (ax (b:=(ByteArray.mk #[110,111,116])) (q27.trans b28) (by decide)))) <| trivial) trivial ?_
       refine AX.cond_false (by kernel_rfl) ?_
       refine AX.si [aN,aN,aY (vb false)] [2,5,8,9,131] [0,1] ⟨[(2,.pt 0 0),(5,.sl 1 0 x4.length),(8,vi x13),(9,vi x14),(131,vb false)],[(0,.box [.bs false 2 (List.map aa p1),vi p2]),(1,.arr 1 (List.map ab x4))]⟩ (pa (pb (cb (ax (b:=(3:Int)) b4 (by decide)))) <| trivial) trivial ?_
       refine AX.cond_false (by kernel_rfl) ?_
       refine AX.si [aN,aN,aY (vb false)] [2,5,8,9,154] [0,1] ⟨[(2,.pt 0 0),(5,.sl 1 0 x4.length),(8,vi x13),(9,vi x14),(154,vb false)],[(0,.box [.bs false 2 (List.map aa p1),vi p2]),(1,.arr 1 (List.map ab x4))]⟩ (pa (pb (cb (ax (b:=(3:Int)) b4 (by decide)))) <| trivial) trivial ?_
       refine AX.cond_false (by kernel_rfl) ?_
       refine AX.si [aN,aN,aY (vb false)] [2,8,9,177] [0] ⟨[(2,.pt 0 0),(8,vi x13),(9,vi x14),(177,vb false)],[(0,.box [.bs false 2 (List.map aa p1),vi p2])]⟩ (pa (pb (cb (ax (b:=(3:Int)) b4 (by decide)))) <| trivial) trivial ?_
       refine AX.cond_false (by kernel_rfl) ?_
       refine AX.skip ?_
       refine AX.si [] [4] [] ⟨[(4,vs (ByteArray.mk #[119,104,97,116]))],[]⟩ trivial trivial ?_
       refine AX.ret ?_
       refine ae (Wk.fg [4] [] ⟨[(4,vs (ByteArray.mk #[119,104,97,116]))],[]⟩) ?_
       have hr:=Option.some.inj h
       subst hr
       exact ⟨_,Wk.refl _,.inr rfl,⟨[],by kernel_rfl,trivial,[vs (ByteArray.mk #[119,104,97,116])],by kernel_rfl,by kernel_rfl⟩⟩
     ·replace h:=aq b28 h
      refine AX.rh [aN,aN,aY (vb true),aN,aN,aN,aY (vs (gt x4 (0:Int))),aY (vb v15),aY (vb false)] [2,5,8,9,62] [0,1] ⟨[(2,.pt 0 0),(5,.sl 1 0 x4.length),(8,vi x13),(9,vi x14),(62,vb false)],[(0,.box [.bs false 2 (List.map aa p1),vi p2]),(1,.arr 1 (List.map ab x4))]⟩ (pa (pb (cb b4)) <| pa g5 <| pa (⟨trivial,(congrArg (fun z:List Value=>AV.v (z.getD 0 undef)) (au (enc:=ab) rfl g5))⟩:(True∧(AV.v (((List.map ab x4).getD (0+(0:Int).toNat) []).getD 0 undef)=vs (gt x4 (0:Int))))) <| pa (pb (cb q27)) <| pa (pb (cb b28)) <| trivial) trivial ?_
      refine AX.cond_false (by kernel_rfl) ?_
      refine AX.seq ?_
      obtain ⟨v17,q31,h⟩:=bT h
      rcases ac (v17) with b32 | b32
      ·replace h:=am b32 h
       refine AX.rh [aN,aN,aY (vb true),aN,aN,aN,aY (vs (gt x4 (0:Int))),aY (vb v17),aY (vb true)] [2,5,8,9,78] [0,1] ⟨[(2,.pt 0 0),(5,.sl 1 0 x4.length),(8,vi x13),(9,vi x14),(78,vb (decide (0≤x13)))],[(0,.box [.bs false 2 (List.map aa p1),vi p2]),(1,.arr 1 (List.map ab x4))]⟩ (pa (pb (cb b4)) <| pa g5 <| pa (⟨trivial,(congrArg (fun z:List Value=>AV.v (z.getD 0 undef)) (au (enc:=ab) rfl g5))⟩:(True∧(AV.v (((List.map ab x4).getD (0+(0:Int).toNat) []).getD 0 undef)=vs (gt x4 (0:Int))))) <| pa (pb (cb q31)) <| pa (pb (cb b32)) <| trivial) trivial ?_
       rcases ac (decide (0≤x13)) with b33 | b33
       ·replace h:=am b33 h
        refine AX.cT (decide (0≤x13)) b33 ?_
        refine AX.seq ?_
        obtain ⟨x18,e34,h⟩:=ak h
        refine AX.rh [aN,aN,.call 54 [.agg [.bs false 2 (List.map aa p1),vi p2],vi x13] hN (ah [] [] (vs x18) [])] [4] [] ⟨[(4,vs x18)],[]⟩ (pa (smA [.agg [.bs false 2 (List.map aa p1),vi p2],vi x13]) <| trivial) ⟨co (gS p1 p2 x13 x18 e34) (.cons (.c1 (.agg (.cons (.same _ (by kernel_rfl) (by kernel_rfl)) (.cons (.same _ (by kernel_rfl) (by kernel_rfl)) (.nil))))) (.cons cS (.nil))),trivial⟩ ?_
        refine AX.ret ?_
        refine ae (Wk.fg [4] [] ⟨[(4,vs x18)],[]⟩) ?_
        have hr:=Option.some.inj h
        subst hr
        exact ⟨_,Wk.refl _,.inr rfl,⟨[],by kernel_rfl,trivial,[vs x18],by kernel_rfl,by kernel_rfl⟩⟩
       ·replace h:=aq b33 h
        refine AX.cF (decide (0≤x13)) b33 ?_
        refine AX.si [aN,aN,aY (vb true),aN,aN,aN,aY (vs (gt x4 (0:Int))),aY (vb false)] [2,5,8,9,95] [0,1] ⟨[(2,.pt 0 0),(5,.sl 1 0 x4.length),(8,vi x13),(9,vi x14),(95,vb false)],[(0,.box [.bs false 2 (List.map aa p1),vi p2]),(1,.arr 1 (List.map ab x4))]⟩ (pa (pb (cb b4)) <| pa g5 <| pa (⟨trivial,(congrArg (fun z:List Value=>AV.v (z.getD 0 undef)) (au (enc:=ab) rfl g5))⟩:(True∧(AV.v (((List.map ab x4).getD (0+(0:Int).toNat) []).getD 0 undef)=vs (gt x4 (0:Int))))) <| pa (pb (cb (ax (b:=(ByteArray.mk #[115,104,111,114,116])) (q31.trans b32) (by decide)))) <| trivial) trivial ?_
        refine AX.cond_false (by kernel_rfl) ?_
        refine AX.si [aN,aN,aY (vb true),aN,aN,aN,aY (vs (gt x4 (0:Int))),aY (vb false)] [2,5,8,9,112] [0,1] ⟨[(2,.pt 0 0),(5,.sl 1 0 x4.length),(8,vi x13),(9,vi x14),(112,vb false)],[(0,.box [.bs false 2 (List.map aa p1),vi p2]),(1,.arr 1 (List.map ab x4))]⟩ (pa (pb (cb b4)) <| pa g5 <| pa (⟨trivial,(congrArg (fun z:List Value=>AV.v (z.getD 0 undef)) (au (enc:=ab) rfl g5))⟩:(True∧(AV.v (((List.map ab x4).getD (0+(0:Int).toNat) []).getD 0 undef)=vs (gt x4 (0:Int))))) <| pa (pb (cb (ax (b:=(ByteArray.mk #[110,111,116])) (q31.trans b32) (by decide)))) <| trivial) trivial ?_
        refine AX.cond_false (by kernel_rfl) ?_
        refine AX.si [aN,aN,aY (vb false)] [2,5,8,9,131] [0,1] ⟨[(2,.pt 0 0),(5,.sl 1 0 x4.length),(8,vi x13),(9,vi x14),(131,vb false)],[(0,.box [.bs false 2 (List.map aa p1),vi p2]),(1,.arr 1 (List.map ab x4))]⟩ (pa (pb (cb (ax (b:=(3:Int)) b4 (by decide)))) <| trivial) trivial ?_
        refine AX.cond_false (by kernel_rfl) ?_
        refine AX.si [aN,aN,aY (vb false)] [2,5,8,9,154] [0,1] ⟨[(2,.pt 0 0),(5,.sl 1 0 x4.length),(8,vi x13),(9,vi x14),(154,vb false)],[(0,.box [.bs false 2 (List.map aa p1),vi p2]),(1,.arr 1 (List.map ab x4))]⟩ (pa (pb (cb (ax (b:=(3:Int)) b4 (by decide)))) <| trivial) trivial ?_
        refine AX.cond_false (by kernel_rfl) ?_
        refine AX.si [aN,aN,aY (vb false)] [2,8,9,177] [0] ⟨[(2,.pt 0 0),(8,vi x13),(9,vi x14),(177,vb false)],[(0,.box [.bs false 2 (List.map aa p1),vi p2])]⟩ (pa (pb (cb (ax (b:=(3:Int)) b4 (by decide)))) <| trivial) trivial ?_
        refine AX.cond_false (by kernel_rfl) ?_
        refine AX.skip ?_
        refine AX.si [] [4] [] ⟨[(4,vs (ByteArray.mk #[119,104,97,116]))],[]⟩ trivial trivial ?_
        refine AX.ret ?_
        refine ae (Wk.fg [4] [] ⟨[(4,vs (ByteArray.mk #[119,104,97,116]))],[]⟩) ?_
        have hr:=Option.some.inj h
        subst hr
        exact ⟨_,Wk.refl _,.inr rfl,⟨[],by kernel_rfl,trivial,[vs (ByteArray.mk #[119,104,97,116])],by kernel_rfl,by kernel_rfl⟩⟩
      ·replace h:=aq b32 h
       refine AX.rh [aN,aN,aY (vb true),aN,aN,aN,aY (vs (gt x4 (0:Int))),aY (vb v17),aY (vb false)] [2,5,8,9,78] [0,1] ⟨[(2,.pt 0 0),(5,.sl 1 0 x4.length),(8,vi x13),(9,vi x14),(78,vb false)],[(0,.box [.bs false 2 (List.map aa p1),vi p2]),(1,.arr 1 (List.map ab x4))]⟩ (pa (pb (cb b4)) <| pa g5 <| pa (⟨trivial,(congrArg (fun z:List Value=>AV.v (z.getD 0 undef)) (au (enc:=ab) rfl g5))⟩:(True∧(AV.v (((List.map ab x4).getD (0+(0:Int).toNat) []).getD 0 undef)=vs (gt x4 (0:Int))))) <| pa (pb (cb q31)) <| pa (pb (cb b32)) <| trivial) trivial ?_
       refine AX.cond_false (by kernel_rfl) ?_
       refine AX.seq ?_
       obtain ⟨v19,q35,h⟩:=bT h
       rcases ac (v19) with b36 | b36
       ·replace h:=am b36 h
        refine AX.rh [aN,aN,aY (vb true),aN,aN,aN,aY (vs (gt x4 (0:Int))),aY (vb v19),aY (vb true)] [2,5,8,9,95] [0,1] ⟨[(2,.pt 0 0),(5,.sl 1 0 x4.length),(8,vi x13),(9,vi x14),(95,vb (decide (0≤x13)))],[(0,.box [.bs false 2 (List.map aa p1),vi p2]),(1,.arr 1 (List.map ab x4))]⟩ (pa (pb (cb b4)) <| pa g5 <| pa (⟨trivial,(congrArg (fun z:List Value=>AV.v (z.getD 0 undef)) (au (enc:=ab) rfl g5))⟩:(True∧(AV.v (((List.map ab x4).getD (0+(0:Int).toNat) []).getD 0 undef)=vs (gt x4 (0:Int))))) <| pa (pb (cb q35)) <| pa (pb (cb b36)) <| trivial) trivial ?_
        rcases ac (decide (0≤x13)) with b37 | b37
        ·replace h:=am b37 h
         refine AX.cT (decide (0≤x13)) b37 ?_
         refine AX.seq ?_
         obtain ⟨x20,e38,h⟩:=ak h
         refine AX.rh [aN,aN,.call 55 [.agg [.bs false 2 (List.map aa p1),vi p2],vi x13] hN (ah [] [] (vs x20) [])] [4] [] ⟨[(4,vs x20)],[]⟩ (pa (smA [.agg [.bs false 2 (List.map aa p1),vi p2],vi x13]) <| trivial) ⟨co (rP p1 p2 x13 x20 e38) (.cons (.c1 (.agg (.cons (.same _ (by kernel_rfl) (by kernel_rfl)) (.cons (.same _ (by kernel_rfl) (by kernel_rfl)) (.nil))))) (.cons cS (.nil))),trivial⟩ ?_
         refine AX.ret ?_
         refine ae (Wk.fg [4] [] ⟨[(4,vs x20)],[]⟩) ?_
         have hr:=Option.some.inj h
         subst hr
         exact ⟨_,Wk.refl _,.inr rfl,⟨[],by kernel_rfl,trivial,[vs x20],by kernel_rfl,by kernel_rfl⟩⟩
        ·replace h:=aq b37 h
         refine AX.cF (decide (0≤x13)) b37 ?_
         refine AX.si [aN,aN,aY (vb true),aN,aN,aN,aY (vs (gt x4 (0:Int))),aY (vb false)] [2,5,8,9,112] [0,1] ⟨[(2,.pt 0 0),(5,.sl 1 0 x4.length),(8,vi x13),(9,vi x14),(112,vb false)],[(0,.box [.bs false 2 (List.map aa p1),vi p2]),(1,.arr 1 (List.map ab x4))]⟩ (pa (pb (cb b4)) <| pa g5 <| pa (⟨trivial,(congrArg (fun z:List Value=>AV.v (z.getD 0 undef)) (au (enc:=ab) rfl g5))⟩:(True∧(AV.v (((List.map ab x4).getD (0+(0:Int).toNat) []).getD 0 undef)=vs (gt x4 (0:Int))))) <| pa (pb (cb (ax (b:=(ByteArray.mk #[110,111,116])) (q35.trans b36) (by decide)))) <| trivial) trivial ?_
         refine AX.cond_false (by kernel_rfl) ?_
         refine AX.si [aN,aN,aY (vb false)] [2,5,8,9,131] [0,1] ⟨[(2,.pt 0 0),(5,.sl 1 0 x4.length),(8,vi x13),(9,vi x14),(131,vb false)],[(0,.box [.bs false 2 (List.map aa p1),vi p2]),(1,.arr 1 (List.map ab x4))]⟩ (pa (pb (cb (ax (b:=(3:Int)) b4 (by decide)))) <| trivial) trivial ?_
         refine AX.cond_false (by kernel_rfl) ?_
         refine AX.si [aN,aN,aY (vb false)] [2,5,8,9,154] [0,1] ⟨[(2,.pt 0 0),(5,.sl 1 0 x4.length),(8,vi x13),(9,vi x14),(154,vb false)],[(0,.box [.bs false 2 (List.map aa p1),vi p2]),(1,.arr 1 (List.map ab x4))]⟩ (pa (pb (cb (ax (b:=(3:Int)) b4 (by decide)))) <| trivial) trivial ?_
         refine AX.cond_false (by kernel_rfl) ?_
         refine AX.si [aN,aN,aY (vb false)] [2,8,9,177] [0] ⟨[(2,.pt 0 0),(8,vi x13),(9,vi x14),(177,vb false)],[(0,.box [.bs false 2 (List.map aa p1),vi p2])]⟩ (pa (pb (cb (ax (b:=(3:Int)) b4 (by decide)))) <| trivial) trivial ?_
         refine AX.cond_false (by kernel_rfl) ?_
         refine AX.skip ?_
         refine AX.si [] [4] [] ⟨[(4,vs (ByteArray.mk #[119,104,97,116]))],[]⟩ trivial trivial ?_
         refine AX.ret ?_
         refine ae (Wk.fg [4] [] ⟨[(4,vs (ByteArray.mk #[119,104,97,116]))],[]⟩) ?_
         have hr:=Option.some.inj h
         subst hr
         exact ⟨_,Wk.refl _,.inr rfl,⟨[],by kernel_rfl,trivial,[vs (ByteArray.mk #[119,104,97,116])],by kernel_rfl,by kernel_rfl⟩⟩
       ·replace h:=aq b36 h
        refine AX.rh [aN,aN,aY (vb true),aN,aN,aN,aY (vs (gt x4 (0:Int))),aY (vb v19),aY (vb false)] [2,5,8,9,95] [0,1] ⟨[(2,.pt 0 0),(5,.sl 1 0 x4.length),(8,vi x13),(9,vi x14),(95,vb false)],[(0,.box [.bs false 2 (List.map aa p1),vi p2]),(1,.arr 1 (List.map ab x4))]⟩ (pa (pb (cb b4)) <| pa g5 <| pa (⟨trivial,(congrArg (fun z:List Value=>AV.v (z.getD 0 undef)) (au (enc:=ab) rfl g5))⟩:(True∧(AV.v (((List.map ab x4).getD (0+(0:Int).toNat) []).getD 0 undef)=vs (gt x4 (0:Int))))) <| pa (pb (cb q35)) <| pa (pb (cb b36)) <| trivial) trivial ?_
        refine AX.cond_false (by kernel_rfl) ?_
        refine AX.seq ?_
        rcases ac (decide ((gt x4 (0:Int))=(ByteArray.mk #[110,111,116]))) with b39 | b39
        ·replace h:=am b39 h
         refine AX.rh [aN,aN,aY (vb true),aN,aN,aN,aY (vs (gt x4 (0:Int))),aY (vb true)] [2,5,8,9,112] [0,1] ⟨[(2,.pt 0 0),(5,.sl 1 0 x4.length),(8,vi x13),(9,vi x14),(112,vb (decide (0≤x13)))],[(0,.box [.bs false 2 (List.map aa p1),vi p2]),(1,.arr 1 (List.map ab x4))]⟩ (pa (pb (cb b4)) <| pa g5 <| pa (⟨trivial,(congrArg (fun z:List Value=>AV.v (z.getD 0 undef)) (au (enc:=ab) rfl g5))⟩:(True∧(AV.v (((List.map ab x4).getD (0+(0:Int).toNat) []).getD 0 undef)=vs (gt x4 (0:Int))))) <| pa (pb (cb b39)) <| trivial) trivial ?_
         rcases ac (decide (0≤x13)) with b40 | b40
         ·replace h:=am b40 h
          refine AX.cT (decide (0≤x13)) b40 ?_
          refine AX.seq ?_
          obtain ⟨x21,e41,h⟩:=ak h
          obtain ⟨x22,e42,h⟩:=ak h
          refine AX.dh mixed [aN,aN,aN,.call 56 [.agg [.bs false 2 (List.map aa p1),vi p2],vi x13] hN (ah [] [] (vi x21) []),.call 54 [.agg [.bs false 2 (List.map aa p1),vi p2],vi x21] hN (ah [] [] (vs x22) [])] [4] [] ⟨[(4,vs x22)],[]⟩ (pa (smA [.agg [.bs false 2 (List.map aa p1),vi p2],vi x13]) <| pa (smA [.agg [.bs false 2 (List.map aa p1),vi p2],vi x21]) <| trivial) ⟨co (pq p1 p2 x13 x21 e41) (.cons (.c1 (.agg (.cons (.same _ (by kernel_rfl) (by kernel_rfl)) (.cons (.same _ (by kernel_rfl) (by kernel_rfl)) (.nil))))) (.cons cS (.nil))),co (gS p1 p2 x21 x22 e42) (.cons (.c1 (.agg (.cons (.same _ (by kernel_rfl) (by kernel_rfl)) (.cons (.same _ (by kernel_rfl) (by kernel_rfl)) (.nil))))) (.cons cS (.nil))),trivial⟩ ?_
          refine AX.ret ?_
          refine ae (Wk.fg [4] [] ⟨[(4,vs x22)],[]⟩) ?_
          have hr:=Option.some.inj h
          subst hr
          exact ⟨_,Wk.refl _,.inr rfl,⟨[],by kernel_rfl,trivial,[vs x22],by kernel_rfl,by kernel_rfl⟩⟩
         ·replace h:=aq b40 h
          refine AX.cF (decide (0≤x13)) b40 ?_
          refine AX.si [aN,aN,aY (vb false)] [2,5,8,9,131] [0,1] ⟨[(2,.pt 0 0),(5,.sl 1 0 x4.length),(8,vi x13),(9,vi x14),(131,vb false)],[(0,.box [.bs false 2 (List.map aa p1),vi p2]),(1,.arr 1 (List.map ab x4))]⟩ (pa (pb (cb (ax (b:=(3:Int)) b4 (by decide)))) <| trivial) trivial ?_
          refine AX.cond_false (by kernel_rfl) ?_
          refine AX.si [aN,aN,aY (vb false)] [2,5,8,9,154] [0,1] ⟨[(2,.pt 0 0),(5,.sl 1 0 x4.length),(8,vi x13),(9,vi x14),(154,vb false)],[(0,.box [.bs false 2 (List.map aa p1),vi p2]),(1,.arr 1 (List.map ab x4))]⟩ (pa (pb (cb (ax (b:=(3:Int)) b4 (by decide)))) <| trivial) trivial ?_
          refine AX.cond_false (by kernel_rfl) ?_
          refine AX.si [aN,aN,aY (vb false)] [2,8,9,177] [0] ⟨[(2,.pt 0 0),(8,vi x13),(9,vi x14),(177,vb false)],[(0,.box [.bs false 2 (List.map aa p1),vi p2])]⟩ (pa (pb (cb (ax (b:=(3:Int)) b4 (by decide)))) <| trivial) trivial ?_
          refine AX.cond_false (by kernel_rfl) ?_
          refine AX.skip ?_
          refine AX.si [] [4] [] ⟨[(4,vs (ByteArray.mk #[119,104,97,116]))],[]⟩ trivial trivial ?_
          refine AX.ret ?_
          refine ae (Wk.fg [4] [] ⟨[(4,vs (ByteArray.mk #[119,104,97,116]))],[]⟩) ?_
          have hr:=Option.some.inj h
          subst hr
          exact ⟨_,Wk.refl _,.inr rfl,⟨[],by kernel_rfl,trivial,[vs (ByteArray.mk #[119,104,97,116])],by kernel_rfl,by kernel_rfl⟩⟩
        ·replace h:=aq b39 h
         refine AX.rh [aN,aN,aY (vb true),aN,aN,aN,aY (vs (gt x4 (0:Int))),aY (vb false)] [2,5,8,9,112] [0,1] ⟨[(2,.pt 0 0),(5,.sl 1 0 x4.length),(8,vi x13),(9,vi x14),(112,vb false)],[(0,.box [.bs false 2 (List.map aa p1),vi p2]),(1,.arr 1 (List.map ab x4))]⟩ (pa (pb (cb b4)) <| pa g5 <| pa (⟨trivial,(congrArg (fun z:List Value=>AV.v (z.getD 0 undef)) (au (enc:=ab) rfl g5))⟩:(True∧(AV.v (((List.map ab x4).getD (0+(0:Int).toNat) []).getD 0 undef)=vs (gt x4 (0:Int))))) <| pa (pb (cb b39)) <| trivial) trivial ?_
         refine AX.cond_false (by kernel_rfl) ?_
         refine AX.si [aN,aN,aY (vb false)] [2,5,8,9,131] [0,1] ⟨[(2,.pt 0 0),(5,.sl 1 0 x4.length),(8,vi x13),(9,vi x14),(131,vb false)],[(0,.box [.bs false 2 (List.map aa p1),vi p2]),(1,.arr 1 (List.map ab x4))]⟩ (pa (pb (cb (ax (b:=(3:Int)) b4 (by decide)))) <| trivial) trivial ?_
         refine AX.cond_false (by kernel_rfl) ?_
         refine AX.si [aN,aN,aY (vb false)] [2,5,8,9,154] [0,1] ⟨[(2,.pt 0 0),(5,.sl 1 0 x4.length),(8,vi x13),(9,vi x14),(154,vb false)],[(0,.box [.bs false 2 (List.map aa p1),vi p2]),(1,.arr 1 (List.map ab x4))]⟩ (pa (pb (cb (ax (b:=(3:Int)) b4 (by decide)))) <| trivial) trivial ?_
         refine AX.cond_false (by kernel_rfl) ?_
         refine AX.si [aN,aN,aY (vb false)] [2,8,9,177] [0] ⟨[(2,.pt 0 0),(8,vi x13),(9,vi x14),(177,vb false)],[(0,.box [.bs false 2 (List.map aa p1),vi p2])]⟩ (pa (pb (cb (ax (b:=(3:Int)) b4 (by decide)))) <| trivial) trivial ?_
         refine AX.cond_false (by kernel_rfl) ?_
         refine AX.skip ?_
         refine AX.si [] [4] [] ⟨[(4,vs (ByteArray.mk #[119,104,97,116]))],[]⟩ trivial trivial ?_
         refine AX.ret ?_
         refine ae (Wk.fg [4] [] ⟨[(4,vs (ByteArray.mk #[119,104,97,116]))],[]⟩) ?_
         have hr:=Option.some.inj h
         subst hr
         exact ⟨_,Wk.refl _,.inr rfl,⟨[],by kernel_rfl,trivial,[vs (ByteArray.mk #[119,104,97,116])],by kernel_rfl,by kernel_rfl⟩⟩
 ·replace h:=aq b4 h
  refine AX.rh [aN,aN,aY (vb false)] [2,5,6,37] [0,1] ⟨[(2,.pt 0 0),(5,.sl 1 0 x4.length),(6,vi x5.1),(37,vb false)],[(0,.box [.bs false 2 (List.map aa p1),vi p2]),(1,.arr 1 (List.map ab x4))]⟩ (pa (pb (cb b4)) <| trivial) trivial ?_
  refine AX.cond_false (by kernel_rfl) ?_
  refine AX.skip ?_
  refine AX.seq ?_
  refine AX.seq ?_
  rcases ac (decide ((x4.length:Int)<2)) with b43 | b43
  ·replace h:=am b43 h
   refine AX.rh [aN,aN,aY (vb true)] [2,5,48] [0,1] ⟨[(2,.pt 0 0),(5,.sl 1 0 x4.length),(48,vb true)],[(0,.box [.bs false 2 (List.map aa p1),vi p2]),(1,.arr 1 (List.map ab x4))]⟩ (pa (pb (cb b43)) <| trivial) trivial ?_
   refine AX.cond_true (by kernel_rfl) ?_
   refine AX.si [] [4] [] ⟨[(4,vs (ByteArray.mk #[119,104,97,116]))],[]⟩ trivial trivial ?_
   refine AX.ret ?_
   refine ae (Wk.fg [4] [] ⟨[(4,vs (ByteArray.mk #[119,104,97,116]))],[]⟩) ?_
   have hr:=Option.some.inj h
   subst hr
   exact ⟨_,Wk.refl _,.inr rfl,⟨[],by kernel_rfl,trivial,[vs (ByteArray.mk #[119,104,97,116])],by kernel_rfl,by kernel_rfl⟩⟩
  ·replace h:=aq b43 h
   refine AX.rh [aN,aN,aY (vb false)] [2,5,48] [0,1] ⟨[(2,.pt 0 0),(5,.sl 1 0 x4.length),(48,vb (decide (3<(x4.length:Int))))],[(0,.box [.bs false 2 (List.map aa p1),vi p2]),(1,.arr 1 (List.map ab x4))]⟩ (pa (pb (cb b43)) <| trivial) trivial ?_
   rcases ac (decide (3<(x4.length:Int))) with b44 | b44
   ·replace h:=am b44 h
    refine AX.cT (decide (3<(x4.length:Int))) b44 ?_
    refine AX.si [] [4] [] ⟨[(4,vs (ByteArray.mk #[119,104,97,116]))],[]⟩ trivial trivial ?_
    refine AX.ret ?_
    refine ae (Wk.fg [4] [] ⟨[(4,vs (ByteArray.mk #[119,104,97,116]))],[]⟩) ?_
    have hr:=Option.some.inj h
    subst hr
    exact ⟨_,Wk.refl _,.inr rfl,⟨[],by kernel_rfl,trivial,[vs (ByteArray.mk #[119,104,97,116])],by kernel_rfl,by kernel_rfl⟩⟩
   ·replace h:=aq b44 h
    refine AX.cF (decide (3<(x4.length:Int))) b44 ?_
    refine AX.skip ?_
    refine AX.seq ?_
    obtain ⟨g45,h⟩:=aw h
    obtain ⟨x23,e46,h⟩:=ak h
    refine AX.dh mixed [aN,aN,aN,aY (vs (gt x4 (1:Int))),.call 52 [.agg [.bs false 2 (List.map aa p1),vi p2],vs (gt x4 (1:Int))] hN (ah [] [] (vi x23) [])] [2,5,8] [0,1] ⟨[(2,.pt 0 0),(5,.sl 1 0 x4.length),(8,vi x23)],[(0,.box [.bs false 2 (List.map aa p1),vi p2]),(1,.arr 1 (List.map ab x4))]⟩ (pa g45 <| pa (⟨trivial,(congrArg (fun z:List Value=>AV.v (z.getD 0 undef)) (au (enc:=ab) rfl g45))⟩:(True∧(AV.v (((List.map ab x4).getD (0+(1:Int).toNat) []).getD 0 undef)=vs (gt x4 (1:Int))))) <| pa (smA [.agg [.bs false 2 (List.map aa p1),vi p2],vs (gt x4 (1:Int))]) <| trivial) ⟨co (dk p1 p2 (gt x4 (1:Int)) x23 e46) (.cons (.c1 (.agg (.cons (.same _ (by kernel_rfl) (by kernel_rfl)) (.cons (.same _ (by kernel_rfl) (by kernel_rfl)) (.nil))))) (.cons cS (.nil))),trivial⟩ ?_
    refine AX.seq ?_
    obtain ⟨x24,e47,h⟩:=ak h
    refine AX.dh mixed [aN,aN,aN,aN,.auto { raw:=true },aN,.auto { y:=some (vs (gt x4 (IntKind.wrap .i64 ((x4.length:Int) - 1)))) },.call 52 [.agg [.bs false 2 (List.map aa p1),vi p2],vs (gt x4 (IntKind.wrap .i64 ((x4.length:Int) - 1)))] hN (ah [] [] (vi x24) [])] [2,5,8,9] [0,1] ⟨[(2,.pt 0 0),(5,.sl 1 0 x4.length),(8,vi x23),(9,vi x24)],[(0,.box [.bs false 2 (List.map aa p1),vi p2]),(1,.arr 1 (List.map ab x4))]⟩ (pa g2 <| pa (⟨trivial,(congrArg (fun z:List Value=>AV.v (z.getD 0 undef)) (au (enc:=ab) rfl g2))⟩:(True∧(AV.v (((List.map ab x4).getD (0+(IntKind.wrap .i64 ((x4.length:Int) - 1)).toNat) []).getD 0 undef)=vs (gt x4 (IntKind.wrap .i64 ((x4.length:Int) - 1)))))) <| pa (smA [.agg [.bs false 2 (List.map aa p1),vi p2],vs (gt x4 (IntKind.wrap .i64 ((x4.length:Int) - 1)))]) <| trivial) ⟨co (dk p1 p2 (gt x4 (IntKind.wrap .i64 ((x4.length:Int) - 1))) x24 e47) (.cons (.c1 (.agg (.cons (.same _ (by kernel_rfl) (by kernel_rfl)) (.cons (.same _ (by kernel_rfl) (by kernel_rfl)) (.nil))))) (.cons cS (.nil))),trivial⟩ ?_
    refine AX.seq ?_
    refine AX.block ?_
    refine AX.si [aN,aN,aY (vb false)] [2,5,8,9,62] [0,1] ⟨[(2,.pt 0 0),(5,.sl 1 0 x4.length),(8,vi x23),(9,vi x24),(62,vb false)],[(0,.box [.bs false 2 (List.map aa p1),vi p2]),(1,.arr 1 (List.map ab x4))]⟩ (pa (pb (cb b4)) <| trivial) trivial ?_
    refine AX.cond_false (by kernel_rfl) ?_
    refine AX.si [aN,aN,aY (vb false)] [2,5,8,9,78] [0,1] ⟨[(2,.pt 0 0),(5,.sl 1 0 x4.length),(8,vi x23),(9,vi x24),(78,vb false)],[(0,.box [.bs false 2 (List.map aa p1),vi p2]),(1,.arr 1 (List.map ab x4))]⟩ (pa (pb (cb b4)) <| trivial) trivial ?_
    refine AX.cond_false (by kernel_rfl) ?_
    refine AX.si [aN,aN,aY (vb false)] [2,5,8,9,95] [0,1] ⟨[(2,.pt 0 0),(5,.sl 1 0 x4.length),(8,vi x23),(9,vi x24),(95,vb false)],[(0,.box [.bs false 2 (List.map aa p1),vi p2]),(1,.arr 1 (List.map ab x4))]⟩ (pa (pb (cb b4)) <| trivial) trivial ?_
    refine AX.cond_false (by kernel_rfl) ?_
    refine AX.si [aN,aN,aY (vb false)] [2,5,8,9,112] [0,1] ⟨[(2,.pt 0 0),(5,.sl 1 0 x4.length),(8,vi x23),(9,vi x24),(112,vb false)],[(0,.box [.bs false 2 (List.map aa p1),vi p2]),(1,.arr 1 (List.map ab x4))]⟩ (pa (pb (cb b4)) <| trivial) trivial ?_
    refine AX.cond_false (by kernel_rfl) ?_
    refine AX.seq ?_
    rcases ac (decide ((x4.length:Int)=3)) with b48 | b48
    ·replace h:=am b48 h
     obtain ⟨g49,h⟩:=aw h
     rcases ac (decide ((gt x4 (0:Int))=(ByteArray.mk #[111,114]))) with b50 | b50
     ·replace h:=am b50 h
      rcases ac (decide (0≤x23)) with b51 | b51
      ·replace h:=am b51 h
       refine AX.rh [aN,aN,aY (vb true),aN,aN,aN,aY (vs (gt x4 (0:Int))),aY (vb true),aN,aN,aN,aY (vb true)] [2,5,8,9,131] [0,1] ⟨[(2,.pt 0 0),(5,.sl 1 0 x4.length),(8,vi x23),(9,vi x24),(131,vb (decide (0≤x24)))],[(0,.box [.bs false 2 (List.map aa p1),vi p2]),(1,.arr 1 (List.map ab x4))]⟩ (pa (pb (cb b48)) <| pa g49 <| pa (⟨trivial,(congrArg (fun z:List Value=>AV.v (z.getD 0 undef)) (au (enc:=ab) rfl g49))⟩:(True∧(AV.v (((List.map ab x4).getD (0+(0:Int).toNat) []).getD 0 undef)=vs (gt x4 (0:Int))))) <| pa (pb (cb b50)) <| pa (pb (cb b51)) <| trivial) trivial ?_
       rcases ac (decide (0≤x24)) with b52 | b52
       ·replace h:=am b52 h
        refine AX.cT (decide (0≤x24)) b52 ?_
        refine AX.seq ?_
        obtain ⟨x25,e53,h⟩:=ak h
        obtain ⟨x26,e54,h⟩:=ak h
        refine AX.dh mixed [aN,aN,aN,.call 57 [vi x23,vi x24] hN (ah [] [] (vi x25) []),.call 54 [.agg [.bs false 2 (List.map aa p1),vi p2],vi x25] hN (ah [] [] (vs x26) [])] [4] [] ⟨[(4,vs x26)],[]⟩ (pa (smA [vi x23,vi x24]) <| pa (smA [.agg [.bs false 2 (List.map aa p1),vi p2],vi x25]) <| trivial) ⟨co (kZ x23 x24 x25 e53) (.cons cS (.cons cS (.nil))),co (gS p1 p2 x25 x26 e54) (.cons (.c1 (.agg (.cons (.same _ (by kernel_rfl) (by kernel_rfl)) (.cons (.same _ (by kernel_rfl) (by kernel_rfl)) (.nil))))) (.cons cS (.nil))),trivial⟩ ?_
        refine AX.ret ?_
        refine ae (Wk.fg [4] [] ⟨[(4,vs x26)],[]⟩) ?_
        have hr:=Option.some.inj h
        subst hr
        exact ⟨_,Wk.refl _,.inr rfl,⟨[],by kernel_rfl,trivial,[vs x26],by kernel_rfl,by kernel_rfl⟩⟩
       ·replace h:=aq b52 h
        refine AX.cF (decide (0≤x24)) b52 ?_
        refine AX.si [aN,aN,aY (vb true),aN,aN,aN,aY (vs (gt x4 (0:Int))),aY (vb false)] [2,5,8,9,154] [0,1] ⟨[(2,.pt 0 0),(5,.sl 1 0 x4.length),(8,vi x23),(9,vi x24),(154,vb false)],[(0,.box [.bs false 2 (List.map aa p1),vi p2]),(1,.arr 1 (List.map ab x4))]⟩ (pa (pb (cb b48)) <| pa g49 <| pa (⟨trivial,(congrArg (fun z:List Value=>AV.v (z.getD 0 undef)) (au (enc:=ab) rfl g49))⟩:(True∧(AV.v (((List.map ab x4).getD (0+(0:Int).toNat) []).getD 0 undef)=vs (gt x4 (0:Int))))) <| pa (pb (cb (ax (b:=(ByteArray.mk #[97,110,100])) b50 (by decide)))) <| trivial) trivial ?_
        refine AX.cond_false (by kernel_rfl) ?_
        refine AX.si [aN,aN,aY (vb true),aN,aN,aN,aY (vs (gt x4 (0:Int))),aY (vb false)] [2,8,9,177] [0] ⟨[(2,.pt 0 0),(8,vi x23),(9,vi x24),(177,vb false)],[(0,.box [.bs false 2 (List.map aa p1),vi p2])]⟩ (pa (pb (cb b48)) <| pa g49 <| pa (⟨trivial,(congrArg (fun z:List Value=>AV.v (z.getD 0 undef)) (au (enc:=ab) rfl g49))⟩:(True∧(AV.v (((List.map ab x4).getD (0+(0:Int).toNat) []).getD 0 undef)=vs (gt x4 (0:Int))))) <| pa (pb (cb (ax (b:=(ByteArray.mk #[108,101,115,115])) b50 (by decide)))) <| trivial) trivial ?_
        refine AX.cond_false (by kernel_rfl) ?_
        refine AX.skip ?_
        refine AX.si [] [4] [] ⟨[(4,vs (ByteArray.mk #[119,104,97,116]))],[]⟩ trivial trivial ?_
        refine AX.ret ?_
        refine ae (Wk.fg [4] [] ⟨[(4,vs (ByteArray.mk #[119,104,97,116]))],[]⟩) ?_
        have hr:=Option.some.inj h
        subst hr
        exact ⟨_,Wk.refl _,.inr rfl,⟨[],by kernel_rfl,trivial,[vs (ByteArray.mk #[119,104,97,116])],by kernel_rfl,by kernel_rfl⟩⟩
      ·replace h:=aq b51 h
       refine AX.rh [aN,aN,aY (vb true),aN,aN,aN,aY (vs (gt x4 (0:Int))),aY (vb true),aN,aN,aN,aY (vb false)] [2,5,8,9,131] [0,1] ⟨[(2,.pt 0 0),(5,.sl 1 0 x4.length),(8,vi x23),(9,vi x24),(131,vb false)],[(0,.box [.bs false 2 (List.map aa p1),vi p2]),(1,.arr 1 (List.map ab x4))]⟩ (pa (pb (cb b48)) <| pa g49 <| pa (⟨trivial,(congrArg (fun z:List Value=>AV.v (z.getD 0 undef)) (au (enc:=ab) rfl g49))⟩:(True∧(AV.v (((List.map ab x4).getD (0+(0:Int).toNat) []).getD 0 undef)=vs (gt x4 (0:Int))))) <| pa (pb (cb b50)) <| pa (pb (cb b51)) <| trivial) trivial ?_
       refine AX.cond_false (by kernel_rfl) ?_
       refine AX.si [aN,aN,aY (vb true),aN,aN,aN,aY (vs (gt x4 (0:Int))),aY (vb false)] [2,5,8,9,154] [0,1] ⟨[(2,.pt 0 0),(5,.sl 1 0 x4.length),(8,vi x23),(9,vi x24),(154,vb false)],[(0,.box [.bs false 2 (List.map aa p1),vi p2]),(1,.arr 1 (List.map ab x4))]⟩ (pa (pb (cb b48)) <| pa g49 <| pa (⟨trivial,(congrArg (fun z:List Value=>AV.v (z.getD 0 undef)) (au (enc:=ab) rfl g49))⟩:(True∧(AV.v (((List.map ab x4).getD (0+(0:Int).toNat) []).getD 0 undef)=vs (gt x4 (0:Int))))) <| pa (pb (cb (ax (b:=(ByteArray.mk #[97,110,100])) b50 (by decide)))) <| trivial) trivial ?_
       refine AX.cond_false (by kernel_rfl) ?_
       refine AX.si [aN,aN,aY (vb true),aN,aN,aN,aY (vs (gt x4 (0:Int))),aY (vb false)] [2,8,9,177] [0] ⟨[(2,.pt 0 0),(8,vi x23),(9,vi x24),(177,vb false)],[(0,.box [.bs false 2 (List.map aa p1),vi p2])]⟩ (pa (pb (cb b48)) <| pa g49 <| pa (⟨trivial,(congrArg (fun z:List Value=>AV.v (z.getD 0 undef)) (au (enc:=ab) rfl g49))⟩:(True∧(AV.v (((List.map ab x4).getD (0+(0:Int).toNat) []).getD 0 undef)=vs (gt x4 (0:Int))))) <| pa (pb (cb (ax (b:=(ByteArray.mk #[108,101,115,115])) b50 (by decide)))) <| trivial) trivial ?_
       refine AX.cond_false (by kernel_rfl) ?_
       refine AX.skip ?_
       refine AX.si [] [4] [] ⟨[(4,vs (ByteArray.mk #[119,104,97,116]))],[]⟩ trivial trivial ?_
       refine AX.ret ?_
       refine ae (Wk.fg [4] [] ⟨[(4,vs (ByteArray.mk #[119,104,97,116]))],[]⟩) ?_
       have hr:=Option.some.inj h
       subst hr
       exact ⟨_,Wk.refl _,.inr rfl,⟨[],by kernel_rfl,trivial,[vs (ByteArray.mk #[119,104,97,116])],by kernel_rfl,by kernel_rfl⟩⟩
     ·replace h:=aq b50 h
      refine AX.rh [aN,aN,aY (vb true),aN,aN,aN,aY (vs (gt x4 (0:Int))),aY (vb false)] [2,5,8,9,131] [0,1] ⟨[(2,.pt 0 0),(5,.sl 1 0 x4.length),(8,vi x23),(9,vi x24),(131,vb false)],[(0,.box [.bs false 2 (List.map aa p1),vi p2]),(1,.arr 1 (List.map ab x4))]⟩ (pa (pb (cb b48)) <| pa g49 <| pa (⟨trivial,(congrArg (fun z:List Value=>AV.v (z.getD 0 undef)) (au (enc:=ab) rfl g49))⟩:(True∧(AV.v (((List.map ab x4).getD (0+(0:Int).toNat) []).getD 0 undef)=vs (gt x4 (0:Int))))) <| pa (pb (cb b50)) <| trivial) trivial ?_
      refine AX.cond_false (by kernel_rfl) ?_
      refine AX.seq ?_
      rcases ac (decide ((gt x4 (0:Int))=(ByteArray.mk #[97,110,100]))) with b55 | b55
      ·replace h:=am b55 h
       rcases ac (decide (0≤x23)) with b56 | b56
       ·replace h:=am b56 h
        refine AX.rh [aN,aN,aY (vb true),aN,aN,aN,aY (vs (gt x4 (0:Int))),aY (vb true),aN,aN,aN,aY (vb true)] [2,5,8,9,154] [0,1] ⟨[(2,.pt 0 0),(5,.sl 1 0 x4.length),(8,vi x23),(9,vi x24),(154,vb (decide (0≤x24)))],[(0,.box [.bs false 2 (List.map aa p1),vi p2]),(1,.arr 1 (List.map ab x4))]⟩ (pa (pb (cb b48)) <| pa g49 <| pa (⟨trivial,(congrArg (fun z:List Value=>AV.v (z.getD 0 undef)) (au (enc:=ab) rfl g49))⟩:(True∧(AV.v (((List.map ab x4).getD (0+(0:Int).toNat) []).getD 0 undef)=vs (gt x4 (0:Int))))) <| pa (pb (cb b55)) <| pa (pb (cb b56)) <| trivial) trivial ?_
        rcases ac (decide (0≤x24)) with b57 | b57
        ·replace h:=am b57 h
         refine AX.cT (decide (0≤x24)) b57 ?_
         refine AX.seq ?_
         obtain ⟨x27,e58,h⟩:=ak h
         obtain ⟨x28,e59,h⟩:=ak h
         refine AX.dh mixed [aN,aN,aN,.call 58 [vi x23,vi x24] hN (ah [] [] (vi x27) []),.call 54 [.agg [.bs false 2 (List.map aa p1),vi p2],vi x27] hN (ah [] [] (vs x28) [])] [4] [] ⟨[(4,vs x28)],[]⟩ (pa (smA [vi x23,vi x24]) <| pa (smA [.agg [.bs false 2 (List.map aa p1),vi p2],vi x27]) <| trivial) ⟨co (jp x23 x24 x27 e58) (.cons cS (.cons cS (.nil))),co (gS p1 p2 x27 x28 e59) (.cons (.c1 (.agg (.cons (.same _ (by kernel_rfl) (by kernel_rfl)) (.cons (.same _ (by kernel_rfl) (by kernel_rfl)) (.nil))))) (.cons cS (.nil))),trivial⟩ ?_
         refine AX.ret ?_
         refine ae (Wk.fg [4] [] ⟨[(4,vs x28)],[]⟩) ?_
         have hr:=Option.some.inj h
         subst hr
         exact ⟨_,Wk.refl _,.inr rfl,⟨[],by kernel_rfl,trivial,[vs x28],by kernel_rfl,by kernel_rfl⟩⟩
        ·replace h:=aq b57 h
         refine AX.cF (decide (0≤x24)) b57 ?_
         refine AX.si [aN,aN,aY (vb true),aN,aN,aN,aY (vs (gt x4 (0:Int))),aY (vb false)] [2,8,9,177] [0] ⟨[(2,.pt 0 0),(8,vi x23),(9,vi x24),(177,vb false)],[(0,.box [.bs false 2 (List.map aa p1),vi p2])]⟩ (pa (pb (cb b48)) <| pa g49 <| pa (⟨trivial,(congrArg (fun z:List Value=>AV.v (z.getD 0 undef)) (au (enc:=ab) rfl g49))⟩:(True∧(AV.v (((List.map ab x4).getD (0+(0:Int).toNat) []).getD 0 undef)=vs (gt x4 (0:Int))))) <| pa (pb (cb (ax (b:=(ByteArray.mk #[108,101,115,115])) b55 (by decide)))) <| trivial) trivial ?_
         refine AX.cond_false (by kernel_rfl) ?_
         refine AX.skip ?_
         refine AX.si [] [4] [] ⟨[(4,vs (ByteArray.mk #[119,104,97,116]))],[]⟩ trivial trivial ?_
         refine AX.ret ?_
         refine ae (Wk.fg [4] [] ⟨[(4,vs (ByteArray.mk #[119,104,97,116]))],[]⟩) ?_
         have hr:=Option.some.inj h
         subst hr
         exact ⟨_,Wk.refl _,.inr rfl,⟨[],by kernel_rfl,trivial,[vs (ByteArray.mk #[119,104,97,116])],by kernel_rfl,by kernel_rfl⟩⟩
       ·replace h:=aq b56 h
        refine AX.rh [aN,aN,aY (vb true),aN,aN,aN,aY (vs (gt x4 (0:Int))),aY (vb true),aN,aN,aN,aY (vb false)] [2,5,8,9,154] [0,1] ⟨[(2,.pt 0 0),(5,.sl 1 0 x4.length),(8,vi x23),(9,vi x24),(154,vb false)],[(0,.box [.bs false 2 (List.map aa p1),vi p2]),(1,.arr 1 (List.map ab x4))]⟩ (pa (pb (cb b48)) <| pa g49 <| pa (⟨trivial,(congrArg (fun z:List Value=>AV.v (z.getD 0 undef)) (au (enc:=ab) rfl g49))⟩:(True∧(AV.v (((List.map ab x4).getD (0+(0:Int).toNat) []).getD 0 undef)=vs (gt x4 (0:Int))))) <| pa (pb (cb b55)) <| pa (pb (cb b56)) <| trivial) trivial ?_
        refine AX.cond_false (by kernel_rfl) ?_
        refine AX.si [aN,aN,aY (vb true),aN,aN,aN,aY (vs (gt x4 (0:Int))),aY (vb false)] [2,8,9,177] [0] ⟨[(2,.pt 0 0),(8,vi x23),(9,vi x24),(177,vb false)],[(0,.box [.bs false 2 (List.map aa p1),vi p2])]⟩ (pa (pb (cb b48)) <| pa g49 <| pa (⟨trivial,(congrArg (fun z:List Value=>AV.v (z.getD 0 undef)) (au (enc:=ab) rfl g49))⟩:(True∧(AV.v (((List.map ab x4).getD (0+(0:Int).toNat) []).getD 0 undef)=vs (gt x4 (0:Int))))) <| pa (pb (cb (ax (b:=(ByteArray.mk #[108,101,115,115])) b55 (by decide)))) <| trivial) trivial ?_
        refine AX.cond_false (by kernel_rfl) ?_
        refine AX.skip ?_
        refine AX.si [] [4] [] ⟨[(4,vs (ByteArray.mk #[119,104,97,116]))],[]⟩ trivial trivial ?_
        refine AX.ret ?_
        refine ae (Wk.fg [4] [] ⟨[(4,vs (ByteArray.mk #[119,104,97,116]))],[]⟩) ?_
        have hr:=Option.some.inj h
        subst hr
        exact ⟨_,Wk.refl _,.inr rfl,⟨[],by kernel_rfl,trivial,[vs (ByteArray.mk #[119,104,97,116])],by kernel_rfl,by kernel_rfl⟩⟩
      ·replace h:=aq b55 h
       refine AX.rh [aN,aN,aY (vb true),aN,aN,aN,aY (vs (gt x4 (0:Int))),aY (vb false)] [2,5,8,9,154] [0,1] ⟨[(2,.pt 0 0),(5,.sl 1 0 x4.length),(8,vi x23),(9,vi x24),(154,vb false)],[(0,.box [.bs false 2 (List.map aa p1),vi p2]),(1,.arr 1 (List.map ab x4))]⟩ (pa (pb (cb b48)) <| pa g49 <| pa (⟨trivial,(congrArg (fun z:List Value=>AV.v (z.getD 0 undef)) (au (enc:=ab) rfl g49))⟩:(True∧(AV.v (((List.map ab x4).getD (0+(0:Int).toNat) []).getD 0 undef)=vs (gt x4 (0:Int))))) <| pa (pb (cb b55)) <| trivial) trivial ?_
       refine AX.cond_false (by kernel_rfl) ?_
       refine AX.seq ?_
       obtain ⟨v29,q60,h⟩:=bT h
       rcases ac (v29) with b61 | b61
       ·replace h:=am b61 h
        rcases ac (decide (0≤x23)) with b62 | b62
        ·replace h:=am b62 h
         refine AX.rh [aN,aN,aY (vb true),aN,aN,aN,aY (vs (gt x4 (0:Int))),aY (vb v29),aY (vb true),aN,aN,aY (vb true)] [2,8,9,177] [0] ⟨[(2,.pt 0 0),(8,vi x23),(9,vi x24),(177,vb (decide (0≤x24)))],[(0,.box [.bs false 2 (List.map aa p1),vi p2])]⟩ (pa (pb (cb b48)) <| pa g49 <| pa (⟨trivial,(congrArg (fun z:List Value=>AV.v (z.getD 0 undef)) (au (enc:=ab) rfl g49))⟩:(True∧(AV.v (((List.map ab x4).getD (0+(0:Int).toNat) []).getD 0 undef)=vs (gt x4 (0:Int))))) <| pa (pb (cb q60)) <| pa (pb (cb b61)) <| pa (pb (cb b62)) <| trivial) trivial ?_
         rcases ac (decide (0≤x24)) with b63 | b63
         ·replace h:=am b63 h
          refine AX.cT (decide (0≤x24)) b63 ?_
          refine AX.seq ?_
          obtain ⟨x30,e64,h⟩:=ak h
          obtain ⟨x31,e65,h⟩:=ak h
          refine AX.dh mixed [aN,aN,aN,.call 59 [vi x23,vi x24] hN (ah [] [] (vi x30) []),.call 54 [.agg [.bs false 2 (List.map aa p1),vi p2],vi x30] hN (ah [] [] (vs x31) [])] [4] [] ⟨[(4,vs x31)],[]⟩ (pa (smA [vi x23,vi x24]) <| pa (smA [.agg [.bs false 2 (List.map aa p1),vi p2],vi x30]) <| trivial) ⟨co (dI x23 x24 x30 e64) (.cons cS (.cons cS (.nil))),co (gS p1 p2 x30 x31 e65) (.cons (.c1 (.agg (.cons (.same _ (by kernel_rfl) (by kernel_rfl)) (.cons (.same _ (by kernel_rfl) (by kernel_rfl)) (.nil))))) (.cons cS (.nil))),trivial⟩ ?_
          refine AX.ret ?_
          refine ae (Wk.fg [4] [] ⟨[(4,vs x31)],[]⟩) ?_
          have hr:=Option.some.inj h
          subst hr
          exact ⟨_,Wk.refl _,.inr rfl,⟨[],by kernel_rfl,trivial,[vs x31],by kernel_rfl,by kernel_rfl⟩⟩
         ·replace h:=aq b63 h
          refine AX.cF (decide (0≤x24)) b63 ?_
          refine AX.skip ?_
          refine AX.si [] [4] [] ⟨[(4,vs (ByteArray.mk #[119,104,97,116]))],[]⟩ trivial trivial ?_
          refine AX.ret ?_
          refine ae (Wk.fg [4] [] ⟨[(4,vs (ByteArray.mk #[119,104,97,116]))],[]⟩) ?_
          have hr:=Option.some.inj h
          subst hr
          exact ⟨_,Wk.refl _,.inr rfl,⟨[],by kernel_rfl,trivial,[vs (ByteArray.mk #[119,104,97,116])],by kernel_rfl,by kernel_rfl⟩⟩
        ·replace h:=aq b62 h
         refine AX.rh [aN,aN,aY (vb true),aN,aN,aN,aY (vs (gt x4 (0:Int))),aY (vb v29),aY (vb true),aN,aN,aY (vb false)] [2,8,9,177] [0] ⟨[(2,.pt 0 0),(8,vi x23),(9,vi x24),(177,vb false)],[(0,.box [.bs false 2 (List.map aa p1),vi p2])]⟩ (pa (pb (cb b48)) <| pa g49 <| pa (⟨trivial,(congrArg (fun z:List Value=>AV.v (z.getD 0 undef)) (au (enc:=ab) rfl g49))⟩:(True∧(AV.v (((List.map ab x4).getD (0+(0:Int).toNat) []).getD 0 undef)=vs (gt x4 (0:Int))))) <| pa (pb (cb q60)) <| pa (pb (cb b61)) <| pa (pb (cb b62)) <| trivial) trivial ?_
         refine AX.cond_false (by kernel_rfl) ?_
         refine AX.skip ?_
         refine AX.si [] [4] [] ⟨[(4,vs (ByteArray.mk #[119,104,97,116]))],[]⟩ trivial trivial ?_
         refine AX.ret ?_
         refine ae (Wk.fg [4] [] ⟨[(4,vs (ByteArray.mk #[119,104,97,116]))],[]⟩) ?_
         have hr:=Option.some.inj h
         subst hr
         exact ⟨_,Wk.refl _,.inr rfl,⟨[],by kernel_rfl,trivial,[vs (ByteArray.mk #[119,104,97,116])],by kernel_rfl,by kernel_rfl⟩⟩
       ·replace h:=aq b61 h
        refine AX.rh [aN,aN,aY (vb true),aN,aN,aN,aY (vs (gt x4 (0:Int))),aY (vb v29),aY (vb false)] [2,8,9,177] [0] ⟨[(2,.pt 0 0),(8,vi x23),(9,vi x24),(177,vb false)],[(0,.box [.bs false 2 (List.map aa p1),vi p2])]⟩ (pa (pb (cb b48)) <| pa g49 <| pa (⟨trivial,(congrArg (fun z:List Value=>AV.v (z.getD 0 undef)) (au (enc:=ab) rfl g49))⟩:(True∧(AV.v (((List.map ab x4).getD (0+(0:Int).toNat) []).getD 0 undef)=vs (gt x4 (0:Int))))) <| pa (pb (cb q60)) <| pa (pb (cb b61)) <| trivial) trivial ?_
        refine AX.cond_false (by kernel_rfl) ?_
        refine AX.skip ?_
        refine AX.si [] [4] [] ⟨[(4,vs (ByteArray.mk #[119,104,97,116]))],[]⟩ trivial trivial ?_
        refine AX.ret ?_
        refine ae (Wk.fg [4] [] ⟨[(4,vs (ByteArray.mk #[119,104,97,116]))],[]⟩) ?_
        have hr:=Option.some.inj h
        subst hr
        exact ⟨_,Wk.refl _,.inr rfl,⟨[],by kernel_rfl,trivial,[vs (ByteArray.mk #[119,104,97,116])],by kernel_rfl,by kernel_rfl⟩⟩
    ·replace h:=aq b48 h
     refine AX.rh [aN,aN,aY (vb false)] [2,5,8,9,131] [0,1] ⟨[(2,.pt 0 0),(5,.sl 1 0 x4.length),(8,vi x23),(9,vi x24),(131,vb false)],[(0,.box [.bs false 2 (List.map aa p1),vi p2]),(1,.arr 1 (List.map ab x4))]⟩ (pa (pb (cb b48)) <| trivial) trivial ?_
     refine AX.cond_false (by kernel_rfl) ?_
     refine AX.si [aN,aN,aY (vb false)] [2,5,8,9,154] [0,1] ⟨[(2,.pt 0 0),(5,.sl 1 0 x4.length),(8,vi x23),(9,vi x24),(154,vb false)],[(0,.box [.bs false 2 (List.map aa p1),vi p2]),(1,.arr 1 (List.map ab x4))]⟩ (pa (pb (cb b48)) <| trivial) trivial ?_
     refine AX.cond_false (by kernel_rfl) ?_
     refine AX.si [aN,aN,aY (vb false)] [2,8,9,177] [0] ⟨[(2,.pt 0 0),(8,vi x23),(9,vi x24),(177,vb false)],[(0,.box [.bs false 2 (List.map aa p1),vi p2])]⟩ (pa (pb (cb b48)) <| trivial) trivial ?_
     refine AX.cond_false (by kernel_rfl) ?_
     refine AX.skip ?_
     refine AX.si [] [4] [] ⟨[(4,vs (ByteArray.mk #[119,104,97,116]))],[]⟩ trivial trivial ?_
     refine AX.ret ?_
     refine ae (Wk.fg [4] [] ⟨[(4,vs (ByteArray.mk #[119,104,97,116]))],[]⟩) ?_
     have hr:=Option.some.inj h
     subst hr
     exact ⟨_,Wk.refl _,.inr rfl,⟨[],by kernel_rfl,trivial,[vs (ByteArray.mk #[119,104,97,116])],by kernel_rfl,by kernel_rfl⟩⟩

end Go.Eng
