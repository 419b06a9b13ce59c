/- What is proved here: each function keeps to its model, whatever its arguments, wherever the model has an answer. Printed by gen.py. -/
import Derived.Test.YtdnlgpmmkchopaaGreatDoorCExactRunDeskWalk1
import Derived.Test.YtdnlgpmmkchopaaGreatDoorProg
import Derived.Test.YtdnlgpmmkchopaaGreatDoorCExactRunDeskShelf
import Derived.KernelRfl
set_option linter.unusedVariables false
set_option linter.unusedSimpArgs false
namespace Go.Eng
open Go Go.Proofs

theorem mc (p1:List (ByteArray×Int)) (p2:Int) (p3:Int) (r:Bool) (h:eP p1 p2 p3=some r) :
  Eng.al Tryz.prog 108 [.bs false 2 (List.map aa p1),vi p2,vi p3] [] (vb r) []:=by
 unfold eP at h
 refine Eng.al.body Tryz.func108 (by kernel_rfl) rfl (by kernel_rfl) ?_
 refine AX.wkpost ?_
 refine AX.si [] [0,1,2] [] ⟨[(0,.bs false 2 (List.map aa p1)),(1,vi p2),(2,vi p3)],[]⟩ trivial trivial ?_
 refine AX.seq ?_
 refine AX.si [] [0,1,2,7] [] ⟨[(0,.bs false 2 (List.map aa p1)),(1,vi p2),(2,vi p3),(7,vi 0)],[]⟩ trivial trivial ?_
 refine AX.block ?_
 obtain ⟨x8,e10,h⟩:=ak h
 refine AX.wk (Wk.fg [0,1,2,7] [] ⟨[(0,.bs false 2 (List.map aa p1)),(1,vi p2),(2,vi p3),(7,vi 0)],[]⟩) ?_
 refine AX.mono (ou p1 p2 p3 FU 0 x8 e10) ?_
 rintro _ _ (⟨x9,rfl,rfl,rfl⟩ | ⟨x10,rfl,rfl,rfl⟩)
 ·replace h:=eL h
  refine ae (Wk.fg [6] [] ⟨[(6,vb false)],[]⟩) ?_
  have hr:=Option.some.inj h
  subst hr
  exact ⟨_,Wk.refl _,.inr rfl,⟨[],by kernel_rfl,trivial,[vb false],by kernel_rfl,by kernel_rfl⟩⟩
 ·replace h:=eU h
  refine AX.si [aN,aY (vi (p1.length:Int))] [6] [] ⟨[(6,vb (decide ((p1.length:Int)≤12)))],[]⟩ (pa (⟨trivial,aS aa p1⟩:(True∧(vi ((List.map aa p1).length:Int)=vi (p1.length:Int)))) <| trivial) trivial ?_
  refine AX.ret ?_
  refine ae (Wk.fg [6] [] ⟨[(6,vb (decide ((p1.length:Int)≤12)))],[]⟩) ?_
  have hr:=Option.some.inj h
  subst hr
  exact ⟨_,Wk.refl _,.inr rfl,⟨[],by kernel_rfl,trivial,[vb (decide ((p1.length:Int)≤12))],by kernel_rfl,by kernel_rfl⟩⟩

theorem gc (p1:List (ByteArray×Int)) (p2:Int) (r:Bool) (h:eS p1 p2=some r) :
  Eng.al Tryz.prog 66 [.agg [.bs false 2 (List.map aa p1),vi p2]] [] (vb r) []:=by
 unfold eS at h
 refine Eng.al.body Tryz.func66 (by kernel_rfl) rfl (by kernel_rfl) ?_
 refine AX.wkpost ?_
 refine AX.si [.auto { nk:=0 }] [1] [0] ⟨[(1,.pt 0 0)],[(0,.box [.bs false 2 (List.map aa p1),vi p2])]⟩ trivial trivial ?_
 refine AX.seq ?_
 obtain ⟨x3,e1,h⟩:=ak h
 rcases ac (x3) with b2 | b2
 ·replace h:=am b2 h
  obtain ⟨x4,e3,h⟩:=ak h
  refine AX.rh [aN,aN,.call 108 [.bs false 2 (List.map aa p1),vi 0,vi 4095] hN (ah [] [] (vb true) []),aN,aN,aN,.call 50 [vi p2,vi 0,vi 3] hN (ah [] [] (vb x4) [])] [2] [] ⟨[(2,vb x4)],[]⟩ (pa (smA [.bs false 2 (List.map aa p1),vi 0,vi 4095]) <| pa (smA [vi p2,vi 0,vi 3]) <| trivial) ⟨co (show Eng.al Tryz.prog 108 [.bs false 2 (List.map aa p1),vi 0,vi 4095] [] (vb true) [] from by have q:=mc p1 0 4095 x3 e1;rw [b2] at q;exact q) (.cons cS (.cons cS (.cons cS (.nil)))),co (cU p2 0 3 x4 e3) (.cons cS (.cons cS (.cons cS (.nil)))),trivial⟩ ?_
  refine AX.ret ?_
  refine ae (Wk.fg [2] [] ⟨[(2,vb x4)],[]⟩) ?_
  have hr:=Option.some.inj h
  subst hr
  exact ⟨_,Wk.refl _,.inr rfl,⟨[],by kernel_rfl,trivial,[vb x4],by kernel_rfl,by kernel_rfl⟩⟩
 ·replace h:=aq b2 h
  refine AX.rh [aN,aN,.call 108 [.bs false 2 (List.map aa p1),vi 0,vi 4095] hN (ah [] [] (vb false) [])] [2] [] ⟨[(2,vb false)],[]⟩ (pa (smA [.bs false 2 (List.map aa p1),vi 0,vi 4095]) <| trivial) ⟨co (show Eng.al Tryz.prog 108 [.bs false 2 (List.map aa p1),vi 0,vi 4095] [] (vb false) [] from by have q:=mc p1 0 4095 x3 e1;rw [b2] at q;exact q) (.cons cS (.cons cS (.cons cS (.nil)))),trivial⟩ ?_
  refine AX.ret ?_
  refine ae (Wk.fg [2] [] ⟨[(2,vb false)],[]⟩) ?_
  have hr:=Option.some.inj h
  subst hr
  exact ⟨_,Wk.refl _,.inr rfl,⟨[],by kernel_rfl,trivial,[vb false],by kernel_rfl,by kernel_rfl⟩⟩

theorem oJ (p1:List (ByteArray×Bool×Int)) (p2:Int) (n:Nat) (g:(List (ByteArray×Int))×Int) (out:List (ByteArray×Int)) (h:bQ p1 p2 n g.1 g.2=some out) :
  AX Tryz.prog 52 0 (codeAt [1,1,1,0,1,1] (aU Tryz.f30)) ((fun g:(List (ByteArray×Int))×Int=>(⟨[(0,.bs false 3 (List.map ag p1)),(4,.pt 0 0),(6,.pt 1 0),(7,vi g.2)],[(0,.box [.v (.slice none 0 0),vi 0]),(1,.box [.sl 2 0 g.1.length,vi p2]),(2,.arr 2 (List.map aa g.1))]⟩:S)) g) (fun ex s=>ex=.exit 0∧s=(fun o:List (ByteArray×Int)=>(⟨[(4,.pt 0 0),(6,.pt 1 0)],[(0,.box [.v (.slice none 0 0),vi 0]),(1,.box [.sl 2 0 o.length,vi p2]),(2,.arr 2 (List.map aa o))]⟩:S)) out):=by
 refine AX.wkpost ?_
 refine AX.loop (G:=Nat×((List (ByteArray×Int))×Int)) (fun q=>(fun g:(List (ByteArray×Int))×Int=>(⟨[(0,.bs false 3 (List.map ag p1)),(4,.pt 0 0),(6,.pt 1 0),(7,vi g.2)],[(0,.box [.v (.slice none 0 0),vi 0]),(1,.box [.sl 2 0 g.1.length,vi p2]),(2,.arr 2 (List.map aa g.1))]⟩:S)) q.2) (fun q=>bQ p1 p2 q.1 q.2.1 q.2.2=some out) (fun q=>q.1) (n,g) h (Wk.refl _) ?_
 clear h
 rintro ⟨fu,v4,v5⟩ h
 cases fu with
 | zero=>cases h
 | succ fu =>
  rw [bQ] at h
  refine AX.seq ?_
  refine AX.si [aN,aN,aY (vi (p1.length:Int))] [0,4,6,7,18] [0,1,2] ⟨[(0,.bs false 3 (List.map ag p1)),(4,.pt 0 0),(6,.pt 1 0),(7,vi v5),(18,vb (decide (v5<(p1.length:Int))))],[(0,.box [.v (.slice none 0 0),vi 0]),(1,.box [.sl 2 0 v4.length,vi p2]),(2,.arr 2 (List.map aa v4))]⟩ (pa (⟨trivial,aS ag p1⟩:(True∧(vi ((List.map ag p1).length:Int)=vi (p1.length:Int)))) <| trivial) trivial ?_
  rcases ac (decide (v5<(p1.length:Int))) with b3 | b3
  ·replace h:=am b3 h
   refine AX.cT (decide (v5<(p1.length:Int))) b3 ?_
   refine AX.skip ?_
   refine AX.seq ?_
   refine AX.block ?_
   refine AX.seq ?_
   obtain ⟨g4,h⟩:=aw h
   refine AX.dh mixed [aN,aN,aY (.be 3 (ag (gt p1 v5)) 0),aN,aN,aN,aN,aY (.be 3 (ag (gt p1 v5)) 0),aN,aN,aN,.auto { nk:=3 }] [0,4,6,7,8] [0,1,2,3] ⟨[(0,.bs false 3 (List.map ag p1)),(4,.pt 0 0),(6,.pt 1 0),(7,vi v5),(8,.pt 3 0)],[(0,.box [.v (.slice none 0 0),vi 0]),(1,.box [.sl 2 0 v4.length,vi p2]),(2,.arr 2 (List.map aa v4)),(3,.box [vs ((gt p1 v5).1),vi ((gt p1 v5).2.2)])]⟩ (pa (aJ ag p1 v5 3 g4) <| pa (aJ ag p1 v5 3 g4) <| trivial) trivial ?_
   refine AX.seq ?_
   refine AX.si [aN,aN,aY (.be 3 (ag (gt p1 v5)) 0)] [0,4,6,7,8,36] [0,1,2,3] ⟨[(0,.bs false 3 (List.map ag p1)),(4,.pt 0 0),(6,.pt 1 0),(7,vi v5),(8,.pt 3 0),(36,vb ((gt p1 v5).2.1))],[(0,.box [.v (.slice none 0 0),vi 0]),(1,.box [.sl 2 0 v4.length,vi p2]),(2,.arr 2 (List.map aa v4)),(3,.box [vs ((gt p1 v5).1),vi ((gt p1 v5).2.2)])]⟩ (pa (aJ ag p1 v5 3 g4) <| trivial) trivial ?_
   rcases ac ((gt p1 v5).2.1) with b5 | b5
   ·replace h:=am b5 h
    refine AX.cT ((gt p1 v5).2.1) b5 ?_
    obtain ⟨x6,e6,h⟩:=ak h
    refine AX.rh [aN,aN,.call 65 [.sl 2 0 v4.length] (aD (rho ([]++[])) [] []++[(2,.arr 2 (List.map aa v4))]) (ah [] [] (vi x6) [])] [0,4,6,7,8] [0,1,2,3] ⟨[(0,.bs false 3 (List.map ag p1)),(4,.pt 0 0),(6,.pt 1 0),(7,vi v5),(8,.pt 3 0)],[(0,.box [.v (.slice none 0 0),vi 0]),(1,.box [.sl 2 0 v4.length,vi p2]),(2,.arr 2 (List.map aa v4)),(3,.box [vs ((gt p1 v5).1),vi x6])]⟩ (pa (⟨rfl,rfl,trivial⟩:((([.sl 2 0 v4.length]:List AV)=[.sl 2 0 v4.length])∧(AO.arr 2 (List.map aa v4)=AO.arr 2 (List.map aa v4))∧True)) <| trivial) ⟨aA (ks:=[]) (ns:=[]) (bor:=[2]) (bobjs:=[(2,.arr 2 (List.map aa v4))]) (mU v4 x6 e6) (.cons (.c1 (.c0 (.arr rfl rfl ((rfl).trans (List.length_map ..).symm)))) (.nil)) (by kernel_rfl) trivial,trivial⟩ ?_
    obtain ⟨g7,h⟩:=aw h
    refine AX.rh [aN,aN,aN,.auto { nk:=4 },.auto { y:=some (.sl 5 0 ((v4++([((gt p1 v5).1,x6)]:List (ByteArray×Int))).length)),els:=some (List.map aa v4),els2:=some (List.map aa ([((gt p1 v5).1,x6)]:List (ByteArray×Int))),nk:=5 }] [0,4,6,7] [0,1,5] ⟨[(0,.bs false 3 (List.map ag p1)),(4,.pt 0 0),(6,.pt 1 0),(7,vi v5)],[(0,.box [.v (.slice none 0 0),vi 0]),(1,.box [.sl 5 0 ((v4++([((gt p1 v5).1,x6)]:List (ByteArray×Int))).length),vi p2]),(5,.arr 2 (List.map aa v4++List.map aa ([((gt p1 v5).1,x6)]:List (ByteArray×Int))))]⟩ (pa (⟨⟨⟨(bc (enc:=aa) rfl rfl),(bc (enc:=aa) rfl rfl)⟩,(by simp only [List.length_map,List.length_nil,List.length_replicate];simpa using g7)⟩,cj (enc:=aa) (aH (enc:=aa) rfl (rfl))⟩:((((((List.map aa v4).drop 0).take (v4.length)=List.map aa v4)∧(((List.map aa ([((gt p1 v5).1,x6)]:List (ByteArray×Int))).drop 0).take (([((gt p1 v5).1,x6)]:List (ByteArray×Int)).length)=List.map aa ([((gt p1 v5).1,x6)]:List (ByteArray×Int))))∧(List.map aa v4).length+(List.map aa ([((gt p1 v5).1,x6)]:List (ByteArray×Int))).length≤1099511627776)∧(AV.sl 5 0 (List.map aa v4++List.map aa ([((gt p1 v5).1,x6)]:List (ByteArray×Int))).length=AV.sl 5 0 (v4++([((gt p1 v5).1,x6)]:List (ByteArray×Int))).length))) <| trivial) trivial ?_
    refine AX.rh [aN,.auto { raw:=true }] [0,4,6,7] [0,1,5] ⟨[(0,.bs false 3 (List.map ag p1)),(4,.pt 0 0),(6,.pt 1 0),(7,vi (IntKind.wrap .i64 (v5+1)))],[(0,.box [.v (.slice none 0 0),vi 0]),(1,.box [.sl 5 0 ((v4++([((gt p1 v5).1,x6)]:List (ByteArray×Int))).length),vi p2]),(5,.arr 2 (List.map aa v4++List.map aa ([((gt p1 v5).1,x6)]:List (ByteArray×Int))))]⟩ trivial trivial ?_
    refine ⟨(fu,(v4++([((gt p1 v5).1,x6)]:List (ByteArray×Int)),IntKind.wrap .i64 (v5+1))),h,Nat.lt_succ_self _,?_⟩
    refine Wk.trans (Wk.swap 2 5 (Nat.le_of_ble_eq_true (by kernel_rfl)) (Nat.le_of_ble_eq_true (by kernel_rfl)) rfl) ?_
    refine Wk.trans (Wk.fg [0,4,6,7] [0,1,2] ⟨[(0,.bs false 3 (List.map ag p1)),(4,.pt 0 0),(6,.pt 1 0),(7,vi (IntKind.wrap .i64 (v5+1)))],[(0,.box [.v (.slice none 0 0),vi 0]),(1,.box [.sl 2 0 ((v4++([((gt p1 v5).1,x6)]:List (ByteArray×Int))).length),vi p2]),(2,.arr 2 (List.map aa v4++List.map aa ([((gt p1 v5).1,x6)]:List (ByteArray×Int))))]⟩) ?_
    refine Wk.trans (Wk.of_eq (congrArg (fun z=>(⟨[(0,.bs false 3 (List.map ag p1)),(4,.pt 0 0),(6,.pt 1 0),(7,vi (IntKind.wrap .i64 (v5+1)))],[(0,.box [.v (.slice none 0 0),vi 0]),(1,.box [.sl 2 0 ((v4++([((gt p1 v5).1,x6)]:List (ByteArray×Int))).length),vi p2]),(2,.arr 2 (z))]⟩:S)) (aH (enc:=aa) rfl (rfl):List.map aa v4++List.map aa ([((gt p1 v5).1,x6)]:List (ByteArray×Int))=List.map aa (v4++([((gt p1 v5).1,x6)]:List (ByteArray×Int)))))) ?_
    exact Wk.refl _
   ·replace h:=aq b5 h
    refine AX.cF ((gt p1 v5).2.1) b5 ?_
    refine AX.skip ?_
    obtain ⟨g8,h⟩:=aw h
    refine AX.rh [aN,aN,aN,.auto { nk:=4 },.auto { y:=some (.sl 5 0 ((v4++([((gt p1 v5).1,(gt p1 v5).2.2)]:List (ByteArray×Int))).length)),els:=some (List.map aa v4),els2:=some (List.map aa ([((gt p1 v5).1,(gt p1 v5).2.2)]:List (ByteArray×Int))),nk:=5 }] [0,4,6,7] [0,1,5] ⟨[(0,.bs false 3 (List.map ag p1)),(4,.pt 0 0),(6,.pt 1 0),(7,vi v5)],[(0,.box [.v (.slice none 0 0),vi 0]),(1,.box [.sl 5 0 ((v4++([((gt p1 v5).1,(gt p1 v5).2.2)]:List (ByteArray×Int))).length),vi p2]),(5,.arr 2 (List.map aa v4++List.map aa ([((gt p1 v5).1,(gt p1 v5).2.2)]:List (ByteArray×Int))))]⟩ (pa (⟨⟨⟨(bc (enc:=aa) rfl rfl),(bc (enc:=aa) rfl rfl)⟩,(by simp only [List.length_map,List.length_nil,List.length_replicate];simpa using g8)⟩,cj (enc:=aa) (aH (enc:=aa) rfl (rfl))⟩:((((((List.map aa v4).drop 0).take (v4.length)=List.map aa v4)∧(((List.map aa ([((gt p1 v5).1,(gt p1 v5).2.2)]:List (ByteArray×Int))).drop 0).take (([((gt p1 v5).1,(gt p1 v5).2.2)]:List (ByteArray×Int)).length)=List.map aa ([((gt p1 v5).1,(gt p1 v5).2.2)]:List (ByteArray×Int))))∧(List.map aa v4).length+(List.map aa ([((gt p1 v5).1,(gt p1 v5).2.2)]:List (ByteArray×Int))).length≤1099511627776)∧(AV.sl 5 0 (List.map aa v4++List.map aa ([((gt p1 v5).1,(gt p1 v5).2.2)]:List (ByteArray×Int))).length=AV.sl 5 0 (v4++([((gt p1 v5).1,(gt p1 v5).2.2)]:List (ByteArray×Int))).length))) <| trivial) trivial ?_
    refine AX.rh [aN,.auto { raw:=true }] [0,4,6,7] [0,1,5] ⟨[(0,.bs false 3 (List.map ag p1)),(4,.pt 0 0),(6,.pt 1 0),(7,vi (IntKind.wrap .i64 (v5+1)))],[(0,.box [.v (.slice none 0 0),vi 0]),(1,.box [.sl 5 0 ((v4++([((gt p1 v5).1,(gt p1 v5).2.2)]:List (ByteArray×Int))).length),vi p2]),(5,.arr 2 (List.map aa v4++List.map aa ([((gt p1 v5).1,(gt p1 v5).2.2)]:List (ByteArray×Int))))]⟩ trivial trivial ?_
    refine ⟨(fu,(v4++([((gt p1 v5).1,(gt p1 v5).2.2)]:List (ByteArray×Int)),IntKind.wrap .i64 (v5+1))),h,Nat.lt_succ_self _,?_⟩
    refine Wk.trans (Wk.swap 2 5 (Nat.le_of_ble_eq_true (by kernel_rfl)) (Nat.le_of_ble_eq_true (by kernel_rfl)) rfl) ?_
    refine Wk.trans (Wk.fg [0,4,6,7] [0,1,2] ⟨[(0,.bs false 3 (List.map ag p1)),(4,.pt 0 0),(6,.pt 1 0),(7,vi (IntKind.wrap .i64 (v5+1)))],[(0,.box [.v (.slice none 0 0),vi 0]),(1,.box [.sl 2 0 ((v4++([((gt p1 v5).1,(gt p1 v5).2.2)]:List (ByteArray×Int))).length),vi p2]),(2,.arr 2 (List.map aa v4++List.map aa ([((gt p1 v5).1,(gt p1 v5).2.2)]:List (ByteArray×Int))))]⟩) ?_
    refine Wk.trans (Wk.of_eq (congrArg (fun z=>(⟨[(0,.bs false 3 (List.map ag p1)),(4,.pt 0 0),(6,.pt 1 0),(7,vi (IntKind.wrap .i64 (v5+1)))],[(0,.box [.v (.slice none 0 0),vi 0]),(1,.box [.sl 2 0 ((v4++([((gt p1 v5).1,(gt p1 v5).2.2)]:List (ByteArray×Int))).length),vi p2]),(2,.arr 2 (z))]⟩:S)) (aH (enc:=aa) rfl (rfl):List.map aa v4++List.map aa ([((gt p1 v5).1,(gt p1 v5).2.2)]:List (ByteArray×Int))=List.map aa (v4++([((gt p1 v5).1,(gt p1 v5).2.2)]:List (ByteArray×Int)))))) ?_
    exact Wk.refl _
  ·replace h:=aq b3 h
   refine AX.cF (decide (v5<(p1.length:Int))) b3 ?_
   refine AX.exit ?_
   refine ae (Wk.fg [4,6] [0,1,2] ⟨[(4,.pt 0 0),(6,.pt 1 0)],[(0,.box [.v (.slice none 0 0),vi 0]),(1,.box [.sl 2 0 v4.length,vi p2]),(2,.arr 2 (List.map aa v4))]⟩) ?_
   have hr:=Option.some.inj h
   subst hr
   exact ⟨_,Wk.refl _,⟨rfl,rfl⟩⟩

theorem qW (p1:List (ByteArray×Bool×Int)) (p2:Int) (r:(List (ByteArray×Int))×Int×Bool) (h:fY p1 p2=some r) :
  Eng.al Tryz.prog 30 [.bs false 3 (List.map ag p1),vi p2] [] (.tup [.agg [.sl 0 0 r.1.length,vi r.2.1],vb r.2.2]) [.arr 2 (List.map aa r.1)]:=by
 unfold fY at h
 refine Eng.al.body Tryz.func30 (by kernel_rfl) rfl (by kernel_rfl) ?_
 refine AX.wkpost ?_
 refine AX.si [.auto { nk:=0 }] [0,1,4] [0] ⟨[(0,.bs false 3 (List.map ag p1)),(1,vi p2),(4,.pt 0 0)],[(0,.box [.v (.slice none 0 0),vi 0])]⟩ trivial trivial ?_
 refine AX.seq ?_
 refine AX.seq ?_
 obtain ⟨x3,e1,h⟩:=ak h
 refine AX.rh [aN,.call 64 [.bs false 3 (List.map ag p1),vi 0,vi 4095] hN (ah [] [] (vb x3) [])] [0,1,4,11] [0] ⟨[(0,.bs false 3 (List.map ag p1)),(1,vi p2),(4,.pt 0 0),(11,vb (!x3))],[(0,.box [.v (.slice none 0 0),vi 0])]⟩ (pa (smA [.bs false 3 (List.map ag p1),vi 0,vi 4095]) <| trivial) ⟨co (qh p1 0 4095 x3 e1) (.cons cS (.cons cS (.cons cS (.nil)))),trivial⟩ ?_
 rcases ac ((!x3)) with b2 | b2
 ·replace h:=am b2 h
  refine AX.cT ((!x3)) b2 ?_
  refine AX.si [] [4,5] [0] ⟨[(4,.pt 0 0),(5,vb false)],[(0,.box [.v (.slice none 0 0),vi 0])]⟩ trivial trivial ?_
  refine AX.ret ?_
  refine ae (Wk.matB 0 0 1 2 (cs:=[.v (.slice none 0 0),vi 0]) (by kernel_rfl) (by kernel_rfl) (Nat.le_of_ble_eq_true (by kernel_rfl)) (by kernel_rfl) (by decide) rfl) ?_
  refine ae (Wk.fg [4,5] [0,1] ⟨[(4,.pt 0 0),(5,vb false)],[(0,.box [.sl 1 0 (([]:List (ByteArray×Int)).length),vi 0]),(1,.arr 2 (List.map aa ([]:List (ByteArray×Int))))]⟩) ?_
  have hr:=Option.some.inj h
  subst hr
  exact ⟨_,Wk.refl _,.inr rfl,⟨[1],by kernel_rfl,⟨rfl,trivial⟩,[.agg [.sl 1 0 (([]:List (ByteArray×Int)).length),vi 0],vb false],by kernel_rfl,by kernel_rfl⟩⟩
 ·replace h:=aq b2 h
  refine AX.cF ((!x3)) b2 ?_
  refine AX.skip ?_
  refine AX.si [aN,aN,.auto { nk:=1 }] [0,4,6] [0,1] ⟨[(0,.bs false 3 (List.map ag p1)),(4,.pt 0 0),(6,.pt 1 0)],[(0,.box [.v (.slice none 0 0),vi 0]),(1,.box [.v (.slice none 0 0),vi p2])]⟩ trivial trivial ?_
  refine AX.seq ?_
  refine AX.si [] [0,4,6,7] [0,1] ⟨[(0,.bs false 3 (List.map ag p1)),(4,.pt 0 0),(6,.pt 1 0),(7,vi 0)],[(0,.box [.v (.slice none 0 0),vi 0]),(1,.box [.v (.slice none 0 0),vi p2])]⟩ trivial trivial ?_
  refine AX.block ?_
  obtain ⟨x7,e9,h⟩:=ak h
  refine AX.wk (Wk.matB 1 0 2 2 (cs:=[.v (.slice none 0 0),vi p2]) (by kernel_rfl) (by kernel_rfl) (Nat.le_of_ble_eq_true (by kernel_rfl)) (by kernel_rfl) (by decide) rfl) ?_
  refine AX.wk (Wk.fg [0,4,6,7] [0,1,2] ⟨[(0,.bs false 3 (List.map ag p1)),(4,.pt 0 0),(6,.pt 1 0),(7,vi 0)],[(0,.box [.v (.slice none 0 0),vi 0]),(1,.box [.sl 2 0 (([]:List (ByteArray×Int)).length),vi p2]),(2,.arr 2 (List.map aa ([]:List (ByteArray×Int))))]⟩) ?_
  refine AX.mono (oJ p1 p2 FU (([]:List (ByteArray×Int)),0) x7 e9) ?_
  rintro _ _ ⟨rfl,rfl⟩
  skip
  refine AX.seq ?_
  refine AX.seq ?_
  obtain ⟨x8,e10,h⟩:=ak h
  refine AX.rh [aN,.call 66 [.agg [.sl 2 0 x7.length,vi p2]] (aD (rho ([]++[])) [] []++[(2,.arr 2 (List.map aa x7))]) (ah [] [] (vb x8) [])] [4,6,49] [0,1,2] ⟨[(4,.pt 0 0),(6,.pt 1 0),(49,vb (!x8))],[(0,.box [.v (.slice none 0 0),vi 0]),(1,.box [.sl 2 0 x7.length,vi p2]),(2,.arr 2 (List.map aa x7))]⟩ (pa (⟨rfl,rfl,trivial⟩:((([.agg [.sl 2 0 x7.length,vi p2]]:List AV)=[.agg [.sl 2 0 x7.length,vi p2]])∧(AO.arr 2 (List.map aa x7)=AO.arr 2 (List.map aa x7))∧True)) <| trivial) ⟨aA (ks:=[]) (ns:=[]) (bor:=[2]) (bobjs:=[(2,.arr 2 (List.map aa x7))]) (gc x7 p2 x8 e10) (.cons (.c1 (.agg (.cons (.arr rfl rfl ((rfl).trans (List.length_map ..).symm)) (.cons (.same _ (by kernel_rfl) (by kernel_rfl)) (.nil))))) (.nil)) (by kernel_rfl) trivial,trivial⟩ ?_
  rcases ac ((!x8)) with b11 | b11
  ·replace h:=am b11 h
   refine AX.cT ((!x8)) b11 ?_
   refine AX.si [] [4,5] [0] ⟨[(4,.pt 0 0),(5,vb false)],[(0,.box [.v (.slice none 0 0),vi 0])]⟩ trivial trivial ?_
   refine AX.ret ?_
   refine ae (Wk.matB 0 0 1 2 (cs:=[.v (.slice none 0 0),vi 0]) (by kernel_rfl) (by kernel_rfl) (Nat.le_of_ble_eq_true (by kernel_rfl)) (by kernel_rfl) (by decide) rfl) ?_
   refine ae (Wk.fg [4,5] [0,1] ⟨[(4,.pt 0 0),(5,vb false)],[(0,.box [.sl 1 0 (([]:List (ByteArray×Int)).length),vi 0]),(1,.arr 2 (List.map aa ([]:List (ByteArray×Int))))]⟩) ?_
   have hr:=Option.some.inj h
   subst hr
   exact ⟨_,Wk.refl _,.inr rfl,⟨[1],by kernel_rfl,⟨rfl,trivial⟩,[.agg [.sl 1 0 (([]:List (ByteArray×Int)).length),vi 0],vb false],by kernel_rfl,by kernel_rfl⟩⟩
  ·replace h:=aq b11 h
   refine AX.cF ((!x8)) b11 ?_
   refine AX.skip ?_
   refine AX.si [] [4,5] [0,2] ⟨[(4,.pt 0 0),(5,vb true)],[(0,.box [.sl 2 0 x7.length,vi p2]),(2,.arr 2 (List.map aa x7))]⟩ trivial trivial ?_
   refine AX.ret ?_
   refine ae (Wk.swap 1 2 (Nat.le_of_ble_eq_true (by kernel_rfl)) (Nat.le_of_ble_eq_true (by kernel_rfl)) rfl) ?_
   refine ae (Wk.fg [4,5] [0,1] ⟨[(4,.pt 0 0),(5,vb true)],[(0,.box [.sl 1 0 x7.length,vi p2]),(1,.arr 2 (List.map aa x7))]⟩) ?_
   have hr:=Option.some.inj h
   subst hr
   exact ⟨_,Wk.refl _,.inr rfl,⟨[1],by kernel_rfl,⟨rfl,trivial⟩,[.agg [.sl 1 0 x7.length,vi p2],vb true],by kernel_rfl,by kernel_rfl⟩⟩

theorem rk (p1:ByteArray) (r:(List (ByteArray×Int))×Int×Bool) (h:gj p1=some r) :
  Eng.al Tryz.prog 14 [vs p1] [] (.tup [.agg [.sl 0 0 r.1.length,vi r.2.1],vb r.2.2]) [.arr 2 (List.map aa r.1)]:=by
 unfold gj at h
 refine Eng.al.body Tryz.func14 (by kernel_rfl) rfl (by kernel_rfl) ?_
 refine AX.wkpost ?_
 refine AX.si [.auto { nk:=0 }] [0,2] [0] ⟨[(0,vs p1),(2,.pt 0 0)],[(0,.box [.v (.slice none 0 0),vi 0])]⟩ trivial trivial ?_
 refine AX.seq ?_
 obtain ⟨x2,e1,h⟩:=ak h
 refine AX.rh [aN,.call 28 [vs p1] (aD (rho ([]++[1])) [] []++[]) (ah [] [1] (.tup [vs x2.1,.sl 0 0 x2.2.1.length,vb x2.2.2]) [.arr 3 (List.map ag x2.2.1)])] [2,4,5,6] [0,1] ⟨[(2,.pt 0 0),(4,vs x2.1),(5,.sl 1 0 x2.2.1.length),(6,vb x2.2.2)],[(0,.box [.v (.slice none 0 0),vi 0]),(1,.arr 3 (List.map ag x2.2.1))]⟩ (pa (smA [vs p1]) <| trivial) ⟨aA (ks:=[]) (ns:=[1]) (bor:=[]) (bobjs:=[]) (qj p1 x2 e1) (.cons cS (.nil)) (by kernel_rfl) trivial,trivial⟩ ?_
 refine AX.seq ?_
 refine AX.seq ?_
 rcases ac ((!x2.2.2)) with b2 | b2
 ·replace h:=am b2 h
  refine AX.rh [aN,aY (vb true)] [2,4,5,19] [0,1] ⟨[(2,.pt 0 0),(4,vs x2.1),(5,.sl 1 0 x2.2.1.length),(19,vb true)],[(0,.box [.v (.slice none 0 0),vi 0]),(1,.arr 3 (List.map ag x2.2.1))]⟩ (pa (pb (cb b2)) <| trivial) trivial ?_
  refine AX.cond_true (by kernel_rfl) ?_
  refine AX.si [] [2,3] [0] ⟨[(2,.pt 0 0),(3,vb false)],[(0,.box [.v (.slice none 0 0),vi 0])]⟩ trivial trivial ?_
  refine AX.ret ?_
  refine ae (Wk.matB 0 0 1 2 (cs:=[.v (.slice none 0 0),vi 0]) (by kernel_rfl) (by kernel_rfl) (Nat.le_of_ble_eq_true (by kernel_rfl)) (by kernel_rfl) (by decide) rfl) ?_
  refine ae (Wk.fg [2,3] [0,1] ⟨[(2,.pt 0 0),(3,vb false)],[(0,.box [.sl 1 0 (([]:List (ByteArray×Int)).length),vi 0]),(1,.arr 2 (List.map aa ([]:List (ByteArray×Int))))]⟩) ?_
  have hr:=Option.some.inj h
  subst hr
  exact ⟨_,Wk.refl _,.inr rfl,⟨[1],by kernel_rfl,⟨rfl,trivial⟩,[.agg [.sl 1 0 (([]:List (ByteArray×Int)).length),vi 0],vb false],by kernel_rfl,by kernel_rfl⟩⟩
 ·replace h:=aq b2 h
  obtain ⟨x3,e3,h⟩:=ak h
  refine AX.rh [aN,aY (vb false),aN,aN,.call 29 [vs x2.1] hN (ah [] [] (vi x3) [])] [2,4,5,19] [0,1] ⟨[(2,.pt 0 0),(4,vs x2.1),(5,.sl 1 0 x2.2.1.length),(19,vb (decide (x3<0)))],[(0,.box [.v (.slice none 0 0),vi 0]),(1,.arr 3 (List.map ag x2.2.1))]⟩ (pa (pb (cb b2)) <| pa (smA [vs x2.1]) <| trivial) ⟨co (mP x2.1 x3 e3) (.cons cS (.nil)),trivial⟩ ?_
  rcases ac (decide (x3<0)) with b4 | b4
  ·replace h:=am b4 h
   refine AX.cT (decide (x3<0)) b4 ?_
   refine AX.si [] [2,3] [0] ⟨[(2,.pt 0 0),(3,vb false)],[(0,.box [.v (.slice none 0 0),vi 0])]⟩ trivial trivial ?_
   refine AX.ret ?_
   refine ae (Wk.matB 0 0 1 2 (cs:=[.v (.slice none 0 0),vi 0]) (by kernel_rfl) (by kernel_rfl) (Nat.le_of_ble_eq_true (by kernel_rfl)) (by kernel_rfl) (by decide) rfl) ?_
   refine ae (Wk.fg [2,3] [0,1] ⟨[(2,.pt 0 0),(3,vb false)],[(0,.box [.sl 1 0 (([]:List (ByteArray×Int)).length),vi 0]),(1,.arr 2 (List.map aa ([]:List (ByteArray×Int))))]⟩) ?_
   have hr:=Option.some.inj h
   subst hr
   exact ⟨_,Wk.refl _,.inr rfl,⟨[1],by kernel_rfl,⟨rfl,trivial⟩,[.agg [.sl 1 0 (([]:List (ByteArray×Int)).length),vi 0],vb false],by kernel_rfl,by kernel_rfl⟩⟩
  ·replace h:=aq b4 h
   refine AX.cF (decide (x3<0)) b4 ?_
   refine AX.skip ?_
   refine AX.seq ?_
   obtain ⟨x4,e5,h⟩:=ak h
   obtain ⟨x5,e6,h⟩:=ak h
   refine AX.rh [aN,aN,.call 29 [vs x2.1] hN (ah [] [] (vi x4) []),.call 30 [.sl 1 0 x2.2.1.length,vi x4] (aD (rho ([]++[2])) [] []++[(1,.arr 3 (List.map ag x2.2.1))]) (ah [] [2] (.tup [.agg [.sl 0 0 x5.1.length,vi x5.2.1],vb x5.2.2]) [.arr 2 (List.map aa x5.1)])] [2,3] [0,2] ⟨[(2,.pt 0 0),(3,vb x5.2.2)],[(0,.box [.sl 2 0 x5.1.length,vi x5.2.1]),(2,.arr 2 (List.map aa x5.1))]⟩ (pa (smA [vs x2.1]) <| pa (⟨rfl,rfl,trivial⟩:((([.sl 1 0 x2.2.1.length,vi x4]:List AV)=[.sl 1 0 x2.2.1.length,vi x4])∧(AO.arr 3 (List.map ag x2.2.1)=AO.arr 3 (List.map ag x2.2.1))∧True)) <| trivial) ⟨co (mP x2.1 x4 e5) (.cons cS (.nil)),aA (ks:=[]) (ns:=[2]) (bor:=[1]) (bobjs:=[(1,.arr 3 (List.map ag x2.2.1))]) (qW x2.2.1 x4 x5 e6) (.cons (.c1 (.c0 (.arr rfl rfl ((rfl).trans (List.length_map ..).symm)))) (.cons cS (.nil))) (by kernel_rfl) trivial,trivial⟩ ?_
   refine AX.ret ?_
   refine ae (Wk.swap 1 2 (Nat.le_of_ble_eq_true (by kernel_rfl)) (Nat.le_of_ble_eq_true (by kernel_rfl)) rfl) ?_
   refine ae (Wk.fg [2,3] [0,1] ⟨[(2,.pt 0 0),(3,vb x5.2.2)],[(0,.box [.sl 1 0 x5.1.length,vi x5.2.1]),(1,.arr 2 (List.map aa x5.1))]⟩) ?_
   have hr:=Option.some.inj h
   subst hr
   exact ⟨_,Wk.refl _,.inr rfl,⟨[1],by kernel_rfl,⟨rfl,trivial⟩,[.agg [.sl 1 0 x5.1.length,vi x5.2.1],vb x5.2.2],by kernel_rfl,by kernel_rfl⟩⟩

theorem qF (p1:List (ByteArray×Int)) (r:Int) (h:ir p1=some r) :
  Eng.al Tryz.prog 104 [.bs false 2 (List.map aa p1)] [] (vi r) []:=by
 unfold ir at h
 refine Eng.al.body Tryz.func104 (by kernel_rfl) rfl (by kernel_rfl) ?_
 refine AX.wkpost ?_
 refine AX.si [] [0] [] ⟨[(0,.bs false 2 (List.map aa p1))],[]⟩ trivial trivial ?_
 refine AX.seq ?_
 obtain ⟨x2,e1,h⟩:=ak h
 refine AX.rh [aN,.call 65 [.bs false 2 (List.map aa p1)] hN (ah [] [] (vi x2) []),.auto { raw:=true }] [2] [] ⟨[(2,vi (IntKind.wrap .i64 (x2 - 1)))],[]⟩ (pa (smA [.bs false 2 (List.map aa p1)]) <| trivial) ⟨co (mU p1 x2 e1) (.cons cS (.nil)),trivial⟩ ?_
 refine AX.ret ?_
 refine ae (Wk.fg [2] [] ⟨[(2,vi (IntKind.wrap .i64 (x2 - 1)))],[]⟩) ?_
 have hr:=Option.some.inj h
 subst hr
 exact ⟨_,Wk.refl _,.inr rfl,⟨[],by kernel_rfl,trivial,[vi (IntKind.wrap .i64 (x2 - 1))],by kernel_rfl,by kernel_rfl⟩⟩

theorem tx (p1:Int) (p2:Int) (n:Nat) (g:Int×Int) (out:Int) (h:bz p1 p2 n g.1 g.2=some out) :
  AX Tryz.prog 27 0 (codeAt [1,1,0,1,1] (aU Tryz.f58)) ((fun g:Int×Int=>(⟨[(0,vi p1),(1,vi p2),(5,vi g.1),(6,vi g.2)],[]⟩:S)) g) (fun ex s=>ex=.exit 0∧s=(fun o:Int=>(⟨[(5,vi o)],[]⟩:S)) out):=by
 refine AX.wkpost ?_
 refine AX.loop (G:=Nat×(Int×Int)) (fun q=>(fun g:Int×Int=>(⟨[(0,vi p1),(1,vi p2),(5,vi g.1),(6,vi g.2)],[]⟩:S)) q.2) (fun q=>bz p1 p2 q.1 q.2.1 q.2.2=some out) (fun q=>q.1) (n,g) h (Wk.refl _) ?_
 clear h
 rintro ⟨fu,v3,v4⟩ h
 cases fu with
 | zero=>cases h
 | succ fu =>
  rw [bz] at h
  refine AX.seq ?_
  refine AX.si [] [0,1,5,6,8] [] ⟨[(0,vi p1),(1,vi p2),(5,vi v3),(6,vi v4),(8,vb (decide (v4≤4095)))],[]⟩ trivial trivial ?_
  rcases ac (decide (v4≤4095)) with b1 | b1
  ·replace h:=am b1 h
   refine AX.cT (decide (v4≤4095)) b1 ?_
   refine AX.skip ?_
   refine AX.seq ?_
   refine AX.block ?_
   refine AX.seq ?_
   obtain ⟨g2,h⟩:=aw h
   obtain ⟨g3,h⟩:=aw h
   rcases ac (decide ((Int.tmod (Int.tdiv p1 v4) 2)=1)) with b4 | b4
   ·replace h:=am b4 h
    obtain ⟨g5,h⟩:=aw h
    refine AX.rh [aN,aN,aN,aN,aY (vb true)] [0,1,5,6,22] [] ⟨[(0,vi p1),(1,vi p2),(5,vi v3),(6,vi v4),(22,vb (decide ((Int.tmod (Int.tdiv p2 v4) 2)=1)))],[]⟩ (pa g2 <| pa g3 <| pa (pb (cb b4)) <| pa g5 <| pa g3 <| trivial) trivial ?_
    rcases ac (decide ((Int.tmod (Int.tdiv p2 v4) 2)=1)) with b6 | b6
    ·replace h:=am b6 h
     refine AX.cT (decide ((Int.tmod (Int.tdiv p2 v4) 2)=1)) b6 ?_
     refine AX.rh [aN,aN,.auto { raw:=true }] [0,1,5,6] [] ⟨[(0,vi p1),(1,vi p2),(5,vi (IntKind.wrap .i64 (v3+v4))),(6,vi v4)],[]⟩ trivial trivial ?_
     refine AX.rh [aN,.auto { raw:=true }] [0,1,5,6] [] ⟨[(0,vi p1),(1,vi p2),(5,vi (IntKind.wrap .i64 (v3+v4))),(6,vi (IntKind.wrap .i64 (v4*2)))],[]⟩ trivial trivial ?_
     refine ⟨(fu,(IntKind.wrap .i64 (v3+v4),IntKind.wrap .i64 (v4*2))),h,Nat.lt_succ_self _,?_⟩
     refine Wk.trans (Wk.fg [0,1,5,6] [] ⟨[(0,vi p1),(1,vi p2),(5,vi (IntKind.wrap .i64 (v3+v4))),(6,vi (IntKind.wrap .i64 (v4*2)))],[]⟩) ?_
     exact Wk.refl _
    ·replace h:=aq b6 h
     refine AX.cF (decide ((Int.tmod (Int.tdiv p2 v4) 2)=1)) b6 ?_
     refine AX.skip ?_
     refine AX.rh [aN,.auto { raw:=true }] [0,1,5,6] [] ⟨[(0,vi p1),(1,vi p2),(5,vi v3),(6,vi (IntKind.wrap .i64 (v4*2)))],[]⟩ trivial trivial ?_
     refine ⟨(fu,(v3,IntKind.wrap .i64 (v4*2))),h,Nat.lt_succ_self _,?_⟩
     refine Wk.trans (Wk.fg [0,1,5,6] [] ⟨[(0,vi p1),(1,vi p2),(5,vi v3),(6,vi (IntKind.wrap .i64 (v4*2)))],[]⟩) ?_
     exact Wk.refl _
   ·replace h:=aq b4 h
    refine AX.rh [aN,aN,aN,aN,aY (vb false)] [0,1,5,6,22] [] ⟨[(0,vi p1),(1,vi p2),(5,vi v3),(6,vi v4),(22,vb false)],[]⟩ (pa g2 <| pa g3 <| pa (pb (cb b4)) <| trivial) trivial ?_
    refine AX.cond_false (by kernel_rfl) ?_
    refine AX.skip ?_
    refine AX.rh [aN,.auto { raw:=true }] [0,1,5,6] [] ⟨[(0,vi p1),(1,vi p2),(5,vi v3),(6,vi (IntKind.wrap .i64 (v4*2)))],[]⟩ trivial trivial ?_
    refine ⟨(fu,(v3,IntKind.wrap .i64 (v4*2))),h,Nat.lt_succ_self _,?_⟩
    refine Wk.trans (Wk.fg [0,1,5,6] [] ⟨[(0,vi p1),(1,vi p2),(5,vi v3),(6,vi (IntKind.wrap .i64 (v4*2)))],[]⟩) ?_
    exact Wk.refl _
  ·replace h:=aq b1 h
   refine AX.cF (decide (v4≤4095)) b1 ?_
   refine AX.exit ?_
   refine ae (Wk.fg [5] [] ⟨[(5,vi v3)],[]⟩) ?_
   have hr:=Option.some.inj h
   subst hr
   exact ⟨_,Wk.refl _,⟨rfl,rfl⟩⟩

theorem jp (p1:Int) (p2:Int) (r:Int) (h:dU p1 p2=some r) :
  Eng.al Tryz.prog 58 [vi p1,vi p2] [] (vi r) []:=by
 unfold dU at h
 refine Eng.al.body Tryz.func58 (by kernel_rfl) rfl (by kernel_rfl) ?_
 refine AX.wkpost ?_
 refine AX.si [] [0,1] [] ⟨[(0,vi p1),(1,vi p2)],[]⟩ trivial trivial ?_
 refine AX.si [] [0,1,5] [] ⟨[(0,vi p1),(1,vi p2),(5,vi 0)],[]⟩ trivial trivial ?_
 refine AX.seq ?_
 refine AX.si [] [0,1,5,6] [] ⟨[(0,vi p1),(1,vi p2),(5,vi 0),(6,vi 1)],[]⟩ trivial trivial ?_
 refine AX.block ?_
 obtain ⟨x5,e7,h⟩:=ak h
 refine AX.wk (Wk.fg [0,1,5,6] [] ⟨[(0,vi p1),(1,vi p2),(5,vi 0),(6,vi 1)],[]⟩) ?_
 refine AX.mono (tx p1 p2 FU (0,1) x5 e7) ?_
 rintro _ _ ⟨rfl,rfl⟩
 skip
 refine AX.si [] [4] [] ⟨[(4,vi x5)],[]⟩ trivial trivial ?_
 refine AX.ret ?_
 refine ae (Wk.fg [4] [] ⟨[(4,vi x5)],[]⟩) ?_
 have hr:=Option.some.inj h
 subst hr
 exact ⟨_,Wk.refl _,.inr rfl,⟨[],by kernel_rfl,trivial,[vi x5],by kernel_rfl,by kernel_rfl⟩⟩

theorem dI (p1:Int) (p2:Int) (r:Int) (h:cr p1 p2=some r) :
  Eng.al Tryz.prog 59 [vi p1,vi p2] [] (vi r) []:=by
 unfold cr at h
 refine Eng.al.body Tryz.func59 (by kernel_rfl) rfl (by kernel_rfl) ?_
 refine AX.wkpost ?_
 refine AX.si [] [0,1] [] ⟨[(0,vi p1),(1,vi p2)],[]⟩ trivial trivial ?_
 refine AX.seq ?_
 obtain ⟨x3,e1,h⟩:=ak h
 refine AX.rh [aN,aN,aN,.call 58 [vi p1,vi p2] hN (ah [] [] (vi x3) []),.auto { raw:=true }] [4] [] ⟨[(4,vi (IntKind.wrap .i64 (p1 - x3)))],[]⟩ (pa (smA [vi p1,vi p2]) <| trivial) ⟨co (jp p1 p2 x3 e1) (.cons cS (.cons cS (.nil))),trivial⟩ ?_
 refine AX.ret ?_
 refine ae (Wk.fg [4] [] ⟨[(4,vi (IntKind.wrap .i64 (p1 - x3)))],[]⟩) ?_
 have hr:=Option.some.inj h
 subst hr
 exact ⟨_,Wk.refl _,.inr rfl,⟨[],by kernel_rfl,trivial,[vi (IntKind.wrap .i64 (p1 - x3))],by kernel_rfl,by kernel_rfl⟩⟩

theorem kZ (p1:Int) (p2:Int) (r:Int) (h:dJ p1 p2=some r) :
  Eng.al Tryz.prog 57 [vi p1,vi p2] [] (vi r) []:=by
 unfold dJ at h
 refine Eng.al.body Tryz.func57 (by kernel_rfl) rfl (by kernel_rfl) ?_
 refine AX.wkpost ?_
 refine AX.si [] [0,1] [] ⟨[(0,vi p1),(1,vi p2)],[]⟩ trivial trivial ?_
 refine AX.seq ?_
 obtain ⟨x3,e1,h⟩:=ak h
 refine AX.rh [aN,aN,.auto { raw:=true },aN,aN,.call 58 [vi p1,vi p2] hN (ah [] [] (vi x3) []),.auto { raw:=true }] [4] [] ⟨[(4,vi (IntKind.wrap .i64 ((IntKind.wrap .i64 (p1+p2)) - x3)))],[]⟩ (pa (smA [vi p1,vi p2]) <| trivial) ⟨co (jp p1 p2 x3 e1) (.cons cS (.cons cS (.nil))),trivial⟩ ?_
 refine AX.ret ?_
 refine ae (Wk.fg [4] [] ⟨[(4,vi (IntKind.wrap .i64 ((IntKind.wrap .i64 (p1+p2)) - x3)))],[]⟩) ?_
 have hr:=Option.some.inj h
 subst hr
 exact ⟨_,Wk.refl _,.inr rfl,⟨[],by kernel_rfl,trivial,[vi (IntKind.wrap .i64 ((IntKind.wrap .i64 (p1+p2)) - x3))],by kernel_rfl,by kernel_rfl⟩⟩

theorem ua (p1:List (ByteArray×Int)) (n:Nat) (g:Int×Int) (out:Int) (h:dS p1 n g.1 g.2=some out) :
  AX Tryz.prog 19 0 (codeAt [1,1,0,1,1] (aU Tryz.f102)) ((fun g:Int×Int=>(⟨[(0,.bs false 2 (List.map aa p1)),(3,vi g.1),(4,vi g.2)],[]⟩:S)) g) (fun ex s=>ex=.exit 0∧s=(fun o:Int=>(⟨[(3,vi o)],[]⟩:S)) out):=by
 refine AX.wkpost ?_
 refine AX.loop (G:=Nat×(Int×Int)) (fun q=>(fun g:Int×Int=>(⟨[(0,.bs false 2 (List.map aa p1)),(3,vi g.1),(4,vi g.2)],[]⟩:S)) q.2) (fun q=>dS p1 q.1 q.2.1 q.2.2=some out) (fun q=>q.1) (n,g) h (Wk.refl _) ?_
 clear h
 rintro ⟨fu,v2,v3⟩ h
 cases fu with
 | zero=>cases h
 | succ fu =>
  rw [dS] at h
  refine AX.seq ?_
  refine AX.si [aN,aN,aY (vi (p1.length:Int))] [0,3,4,8] [] ⟨[(0,.bs false 2 (List.map aa p1)),(3,vi v2),(4,vi v3),(8,vb (decide (v3<(p1.length:Int))))],[]⟩ (pa (⟨trivial,aS aa p1⟩:(True∧(vi ((List.map aa p1).length:Int)=vi (p1.length:Int)))) <| trivial) trivial ?_
  rcases ac (decide (v3<(p1.length:Int))) with b1 | b1
  ·replace h:=am b1 h
   refine AX.cT (decide (v3<(p1.length:Int))) b1 ?_
   refine AX.skip ?_
   refine AX.seq ?_
   refine AX.block ?_
   obtain ⟨g2,h⟩:=aw h
   obtain ⟨x4,e3,h⟩:=ak h
   refine AX.rh [aN,aN,aN,aY (.be 2 (aa (gt p1 v3)) 0),aN,aN,.call 57 [vi v2,vi ((gt p1 v3).2)] hN (ah [] [] (vi x4) [])] [0,3,4] [] ⟨[(0,.bs false 2 (List.map aa p1)),(3,vi x4),(4,vi v3)],[]⟩ (pa (aJ aa p1 v3 2 g2) <| pa (smA [vi v2,vi ((gt p1 v3).2)]) <| trivial) ⟨co (kZ v2 ((gt p1 v3).2) x4 e3) (.cons cS (.cons cS (.nil))),trivial⟩ ?_
   refine AX.rh [aN,.auto { raw:=true }] [0,3,4] [] ⟨[(0,.bs false 2 (List.map aa p1)),(3,vi x4),(4,vi (IntKind.wrap .i64 (v3+1)))],[]⟩ trivial trivial ?_
   refine ⟨(fu,(x4,IntKind.wrap .i64 (v3+1))),h,Nat.lt_succ_self _,?_⟩
   refine Wk.trans (Wk.fg [0,3,4] [] ⟨[(0,.bs false 2 (List.map aa p1)),(3,vi x4),(4,vi (IntKind.wrap .i64 (v3+1)))],[]⟩) ?_
   exact Wk.refl _
  ·replace h:=aq b1 h
   refine AX.cF (decide (v3<(p1.length:Int))) b1 ?_
   refine AX.exit ?_
   refine ae (Wk.fg [3] [] ⟨[(3,vi v2)],[]⟩) ?_
   have hr:=Option.some.inj h
   subst hr
   exact ⟨_,Wk.refl _,⟨rfl,rfl⟩⟩

theorem fK (p1:List (ByteArray×Int)) (r:Int) (h:cR p1=some r) :
  Eng.al Tryz.prog 102 [.bs false 2 (List.map aa p1)] [] (vi r) []:=by
 unfold cR at h
 refine Eng.al.body Tryz.func102 (by kernel_rfl) rfl (by kernel_rfl) ?_
 refine AX.wkpost ?_
 refine AX.si [] [0] [] ⟨[(0,.bs false 2 (List.map aa p1))],[]⟩ trivial trivial ?_
 refine AX.si [] [0,3] [] ⟨[(0,.bs false 2 (List.map aa p1)),(3,vi 0)],[]⟩ trivial trivial ?_
 refine AX.seq ?_
 refine AX.si [] [0,3,4] [] ⟨[(0,.bs false 2 (List.map aa p1)),(3,vi 0),(4,vi 0)],[]⟩ trivial trivial ?_
 refine AX.block ?_
 obtain ⟨x5,e4,h⟩:=ak h
 refine AX.wk (Wk.fg [0,3,4] [] ⟨[(0,.bs false 2 (List.map aa p1)),(3,vi 0),(4,vi 0)],[]⟩) ?_
 refine AX.mono (ua p1 FU (0,0) x5 e4) ?_
 rintro _ _ ⟨rfl,rfl⟩
 skip
 refine AX.si [] [2] [] ⟨[(2,vi x5)],[]⟩ trivial trivial ?_
 refine AX.ret ?_
 refine ae (Wk.fg [2] [] ⟨[(2,vi x5)],[]⟩) ?_
 have hr:=Option.some.inj h
 subst hr
 exact ⟨_,Wk.refl _,.inr rfl,⟨[],by kernel_rfl,trivial,[vi x5],by kernel_rfl,by kernel_rfl⟩⟩

theorem xi (p1:List (ByteArray×Int)) (p2:Int) (p3:Int) (r:Int×Int) (h:jt p1 p2 p3=some r) :
  Eng.al Tryz.prog 96 [.agg [.bs false 2 (List.map aa p1),vi p2],vi p3] [] (.tup [vi r.1,vi r.2]) []:=by
 unfold jt at h
 refine Eng.al.body Tryz.func96 (by kernel_rfl) rfl (by kernel_rfl) ?_
 refine AX.wkpost ?_
 refine AX.si [.auto { nk:=0 }] [1,2] [0] ⟨[(1,vi p3),(2,.pt 0 0)],[(0,.box [.bs false 2 (List.map aa p1),vi p2])]⟩ trivial trivial ?_
 refine AX.seq ?_
 refine AX.si [] [1,2,7] [0] ⟨[(1,vi p3),(2,.pt 0 0),(7,vb (decide (p3<0)))],[(0,.box [.bs false 2 (List.map aa p1),vi p2])]⟩ trivial trivial ?_
 rcases ac (decide (p3<0)) with b1 | b1
 ·replace h:=am b1 h
  refine AX.cT (decide (p3<0)) b1 ?_
  refine AX.seq ?_
  refine AX.si [] [1,2,10] [0] ⟨[(1,vi p3),(2,.pt 0 0),(10,vb (decide (p2=3)))],[(0,.box [.bs false 2 (List.map aa p1),vi p2])]⟩ trivial trivial ?_
  rcases ac (decide (p2=3)) with b2 | b2
  ·replace h:=am b2 h
   refine AX.cT (decide (p2=3)) b2 ?_
   refine AX.seq ?_
   obtain ⟨x4,e3,h⟩:=ak h
   obtain ⟨x5,e4,h⟩:=ak h
   refine AX.rh [aN,aN,.call 104 [.bs false 2 (List.map aa p1)] hN (ah [] [] (vi x4) []),aN,.auto { raw:=true },.auto { raw:=true },.call 59 [vi x4,vi (IntKind.wrap .i64 ((IntKind.wrap .i64 (0 - p3)) - 1))] hN (ah [] [] (vi x5) [])] [4,5] [] ⟨[(4,vi x5),(5,vi 0)],[]⟩ (pa (smA [.bs false 2 (List.map aa p1)]) <| pa (smA [vi x4,vi (IntKind.wrap .i64 ((IntKind.wrap .i64 (0 - p3)) - 1))]) <| trivial) ⟨co (qF p1 x4 e3) (.cons cS (.nil)),co (dI x4 (IntKind.wrap .i64 ((IntKind.wrap .i64 (0 - p3)) - 1)) x5 e4) (.cons cS (.cons cS (.nil))),trivial⟩ ?_
   refine AX.ret ?_
   refine ae (Wk.fg [4,5] [] ⟨[(4,vi x5),(5,vi 0)],[]⟩) ?_
   have hr:=Option.some.inj h
   subst hr
   exact ⟨_,Wk.refl _,.inr rfl,⟨[],by kernel_rfl,trivial,[vi x5,vi 0],by kernel_rfl,by kernel_rfl⟩⟩
  ·replace h:=aq b2 h
   refine AX.cF (decide (p2=3)) b2 ?_
   refine AX.skip ?_
   refine AX.seq ?_
   obtain ⟨x6,e5,h⟩:=ak h
   obtain ⟨x7,e6,h⟩:=ak h
   refine AX.rh [aN,aN,.call 102 [.bs false 2 (List.map aa p1)] hN (ah [] [] (vi x6) []),aN,.auto { raw:=true },.auto { raw:=true },.call 59 [vi x6,vi (IntKind.wrap .i64 ((IntKind.wrap .i64 (0 - p3)) - 1))] hN (ah [] [] (vi x7) [])] [4,5] [] ⟨[(4,vi x7),(5,vi 0)],[]⟩ (pa (smA [.bs false 2 (List.map aa p1)]) <| pa (smA [vi x6,vi (IntKind.wrap .i64 ((IntKind.wrap .i64 (0 - p3)) - 1))]) <| trivial) ⟨co (fK p1 x6 e5) (.cons cS (.nil)),co (dI x6 (IntKind.wrap .i64 ((IntKind.wrap .i64 (0 - p3)) - 1)) x7 e6) (.cons cS (.cons cS (.nil))),trivial⟩ ?_
   refine AX.ret ?_
   refine ae (Wk.fg [4,5] [] ⟨[(4,vi x7),(5,vi 0)],[]⟩) ?_
   have hr:=Option.some.inj h
   subst hr
   exact ⟨_,Wk.refl _,.inr rfl,⟨[],by kernel_rfl,trivial,[vi x7,vi 0],by kernel_rfl,by kernel_rfl⟩⟩
 ·replace h:=aq b1 h
  refine AX.cF (decide (p3<0)) b1 ?_
  refine AX.skip ?_
  refine AX.seq ?_
  refine AX.seq ?_
  obtain ⟨x8,e7,h⟩:=ak h
  obtain ⟨x9,e8,h⟩:=ak h
  refine AX.rh [aN,aN,aN,.call 102 [.bs false 2 (List.map aa p1)] hN (ah [] [] (vi x8) []),.call 59 [vi p3,vi x8] hN (ah [] [] (vi x9) [])] [1,2,30] [0] ⟨[(1,vi p3),(2,.pt 0 0),(30,vb (decide (x9=0)))],[(0,.box [.bs false 2 (List.map aa p1),vi p2])]⟩ (pa (smA [.bs false 2 (List.map aa p1)]) <| pa (smA [vi p3,vi x8]) <| trivial) ⟨co (fK p1 x8 e7) (.cons cS (.nil)),co (dI p3 x8 x9 e8) (.cons cS (.cons cS (.nil))),trivial⟩ ?_
  rcases ac (decide (x9=0)) with b9 | b9
  ·replace h:=am b9 h
   refine AX.cT (decide (x9=0)) b9 ?_
   refine AX.si [] [4,5] [] ⟨[(4,vi p3),(5,vi 0)],[]⟩ trivial trivial ?_
   refine AX.ret ?_
   refine ae (Wk.fg [4,5] [] ⟨[(4,vi p3),(5,vi 0)],[]⟩) ?_
   have hr:=Option.some.inj h
   subst hr
   exact ⟨_,Wk.refl _,.inr rfl,⟨[],by kernel_rfl,trivial,[vi p3,vi 0],by kernel_rfl,by kernel_rfl⟩⟩
  ·replace h:=aq b9 h
   refine AX.cF (decide (x9=0)) b9 ?_
   refine AX.skip ?_
   refine AX.seq ?_
   refine AX.si [] [1,2,33] [0] ⟨[(1,vi p3),(2,.pt 0 0),(33,vi p2)],[(0,.box [.bs false 2 (List.map aa p1),vi p2])]⟩ trivial trivial ?_
   refine AX.block ?_
   refine AX.si [] [1,2,33,34] [0] ⟨[(1,vi p3),(2,.pt 0 0),(33,vi p2),(34,vb (decide (p2=0)))],[(0,.box [.bs false 2 (List.map aa p1),vi p2])]⟩ trivial trivial ?_
   rcases ac (decide (p2=0)) with b10 | b10
   ·replace h:=am b10 h
    refine AX.cT (decide (p2=0)) b10 ?_
    refine AX.si [] [4,5] [] ⟨[(4,vi 0),(5,vi 2)],[]⟩ trivial trivial ?_
    refine AX.ret ?_
    refine ae (Wk.fg [4,5] [] ⟨[(4,vi 0),(5,vi 2)],[]⟩) ?_
    have hr:=Option.some.inj h
    subst hr
    exact ⟨_,Wk.refl _,.inr rfl,⟨[],by kernel_rfl,trivial,[vi 0,vi 2],by kernel_rfl,by kernel_rfl⟩⟩
   ·replace h:=aq b10 h
    refine AX.cF (decide (p2=0)) b10 ?_
    refine AX.si [] [1,2,33,36] [0] ⟨[(1,vi p3),(2,.pt 0 0),(33,vi p2),(36,vb (decide (p2=1)))],[(0,.box [.bs false 2 (List.map aa p1),vi p2])]⟩ trivial trivial ?_
    rcases ac (decide (p2=1)) with b11 | b11
    ·replace h:=am b11 h
     refine AX.cT (decide (p2=1)) b11 ?_
     refine AX.seq ?_
     obtain ⟨x10,e12,h⟩:=ak h
     obtain ⟨x11,e13,h⟩:=ak h
     refine AX.rh [aN,aN,aN,.call 102 [.bs false 2 (List.map aa p1)] hN (ah [] [] (vi x10) []),.call 58 [vi p3,vi x10] hN (ah [] [] (vi x11) [])] [4,5] [] ⟨[(4,vi x11),(5,vi 0)],[]⟩ (pa (smA [.bs false 2 (List.map aa p1)]) <| pa (smA [vi p3,vi x10]) <| trivial) ⟨co (fK p1 x10 e12) (.cons cS (.nil)),co (jp p3 x10 x11 e13) (.cons cS (.cons cS (.nil))),trivial⟩ ?_
     refine AX.ret ?_
     refine ae (Wk.fg [4,5] [] ⟨[(4,vi x11),(5,vi 0)],[]⟩) ?_
     have hr:=Option.some.inj h
     subst hr
     exact ⟨_,Wk.refl _,.inr rfl,⟨[],by kernel_rfl,trivial,[vi x11,vi 0],by kernel_rfl,by kernel_rfl⟩⟩
    ·replace h:=aq b11 h
     refine AX.cF (decide (p2=1)) b11 ?_
     refine AX.si [] [1,43] [] ⟨[(1,vi p3),(43,vb (decide (p2=2)))],[]⟩ trivial trivial ?_
     rcases ac (decide (p2=2)) with b14 | b14
     ·replace h:=am b14 h
      refine AX.cT (decide (p2=2)) b14 ?_
      refine AX.si [] [4,5] [] ⟨[(4,vi p3),(5,vi 1)],[]⟩ trivial trivial ?_
      refine AX.ret ?_
      refine ae (Wk.fg [4,5] [] ⟨[(4,vi p3),(5,vi 1)],[]⟩) ?_
      have hr:=Option.some.inj h
      subst hr
      exact ⟨_,Wk.refl _,.inr rfl,⟨[],by kernel_rfl,trivial,[vi p3,vi 1],by kernel_rfl,by kernel_rfl⟩⟩
     ·replace h:=aq b14 h
      refine AX.cF (decide (p2=2)) b14 ?_
      refine AX.skip ?_
      refine AX.si [] [4,5] [] ⟨[(4,vi p3),(5,vi 0)],[]⟩ trivial trivial ?_
      refine AX.ret ?_
      refine ae (Wk.fg [4,5] [] ⟨[(4,vi p3),(5,vi 0)],[]⟩) ?_
      have hr:=Option.some.inj h
      subst hr
      exact ⟨_,Wk.refl _,.inr rfl,⟨[],by kernel_rfl,trivial,[vi p3,vi 0],by kernel_rfl,by kernel_rfl⟩⟩

theorem qi (p1:List (ByteArray×Int)) (p2:Int) (n:Nat) (g:Int) (out:Int ⊕ Unit) (h:db p1 p2 n g=some out) :
  AX Tryz.prog 20 0 (codeAt [1,0,1,1] (aU Tryz.f160)) ((fun g:Int=>(⟨[(0,.bs false 2 (List.map aa p1)),(1,vi p2),(5,vi g)],[]⟩:S)) g) (fun ex s=>(∃ o:Int,out=Sum.inl o∧ex=.ret∧s=⟨[(4,vi o)],[]⟩)∨(∃ o:Unit,out=Sum.inr o∧ex=.exit 0∧s=⟨[],[]⟩)):=by
 refine AX.wkpost ?_
 refine AX.loop (G:=Nat×(Int)) (fun q=>(fun g:Int=>(⟨[(0,.bs false 2 (List.map aa p1)),(1,vi p2),(5,vi g)],[]⟩:S)) q.2) (fun q=>db p1 p2 q.1 q.2=some out) (fun q=>q.1) (n,g) h (Wk.refl _) ?_
 clear h
 rintro ⟨fu,v3⟩ h
 cases fu with
 | zero=>cases h
 | succ fu =>
  rw [db] at h
  refine AX.seq ?_
  refine AX.si [aN,aN,aY (vi (p1.length:Int))] [0,1,5,9] [] ⟨[(0,.bs false 2 (List.map aa p1)),(1,vi p2),(5,vi v3),(9,vb (decide (v3<(p1.length:Int))))],[]⟩ (pa (⟨trivial,aS aa p1⟩:(True∧(vi ((List.map aa p1).length:Int)=vi (p1.length:Int)))) <| trivial) trivial ?_
  rcases ac (decide (v3<(p1.length:Int))) with b1 | b1
  ·replace h:=am b1 h
   refine AX.cT (decide (v3<(p1.length:Int))) b1 ?_
   refine AX.skip ?_
   refine AX.seq ?_
   refine AX.block ?_
   refine AX.seq ?_
   obtain ⟨g2,h⟩:=aw h
   refine AX.rh [aN,aN,aY (.be 2 (aa (gt p1 v3)) 0)] [0,1,5,18] [] ⟨[(0,.bs false 2 (List.map aa p1)),(1,vi p2),(5,vi v3),(18,vb (decide (((gt p1 v3).2)=p2)))],[]⟩ (pa (aJ aa p1 v3 2 g2) <| trivial) trivial ?_
   rcases ac (decide (((gt p1 v3).2)=p2)) with b3 | b3
   ·replace h:=am b3 h
    refine AX.cT (decide (((gt p1 v3).2)=p2)) b3 ?_
    refine AX.si [] [4] [] ⟨[(4,vi v3)],[]⟩ trivial trivial ?_
    refine AX.ret ?_
    refine ae (Wk.fg [4] [] ⟨[(4,vi v3)],[]⟩) ?_
    have hr:=Option.some.inj h
    subst hr
    exact ⟨_,Wk.refl _,.inl ⟨v3,rfl,rfl,rfl⟩⟩
   ·replace h:=aq b3 h
    refine AX.cF (decide (((gt p1 v3).2)=p2)) b3 ?_
    refine AX.skip ?_
    refine AX.rh [aN,.auto { raw:=true }] [0,1,5] [] ⟨[(0,.bs false 2 (List.map aa p1)),(1,vi p2),(5,vi (IntKind.wrap .i64 (v3+1)))],[]⟩ trivial trivial ?_
    refine ⟨(fu,IntKind.wrap .i64 (v3+1)),h,Nat.lt_succ_self _,?_⟩
    refine Wk.trans (Wk.fg [0,1,5] [] ⟨[(0,.bs false 2 (List.map aa p1)),(1,vi p2),(5,vi (IntKind.wrap .i64 (v3+1)))],[]⟩) ?_
    exact Wk.refl _
  ·replace h:=aq b1 h
   refine AX.cF (decide (v3<(p1.length:Int))) b1 ?_
   refine AX.exit ?_
   refine ae (Wk.fg [] [] ⟨[],[]⟩) ?_
   have hr:=Option.some.inj h
   subst hr
   exact ⟨_,Wk.refl _,.inr ⟨(),rfl,rfl,rfl⟩⟩

theorem mW (p1:List (ByteArray×Int)) (p2:Int) (r:Int) (h:eV p1 p2=some r) :
  Eng.al Tryz.prog 160 [.bs false 2 (List.map aa p1),vi p2] [] (vi r) []:=by
 unfold eV at h
 refine Eng.al.body Tryz.func160 (by kernel_rfl) rfl (by kernel_rfl) ?_
 refine AX.wkpost ?_
 refine AX.si [] [0,1] [] ⟨[(0,.bs false 2 (List.map aa p1)),(1,vi p2)],[]⟩ trivial trivial ?_
 refine AX.seq ?_
 refine AX.si [] [0,1,5] [] ⟨[(0,.bs false 2 (List.map aa p1)),(1,vi p2),(5,vi 0)],[]⟩ trivial trivial ?_
 refine AX.block ?_
 obtain ⟨x4,e4,h⟩:=ak h
 refine AX.wk (Wk.fg [0,1,5] [] ⟨[(0,.bs false 2 (List.map aa p1)),(1,vi p2),(5,vi 0)],[]⟩) ?_
 refine AX.mono (qi p1 p2 FU 0 x4 e4) ?_
 rintro _ _ (⟨x5,rfl,rfl,rfl⟩ | ⟨x6,rfl,rfl,rfl⟩)
 ·replace h:=eL h
  refine ae (Wk.fg [4] [] ⟨[(4,vi x5)],[]⟩) ?_
  have hr:=Option.some.inj h
  subst hr
  exact ⟨_,Wk.refl _,.inr rfl,⟨[],by kernel_rfl,trivial,[vi x5],by kernel_rfl,by kernel_rfl⟩⟩
 ·replace h:=eU h
  refine AX.si [] [4] [] ⟨[(4,vi (-1))],[]⟩ trivial trivial ?_
  refine AX.ret ?_
  refine ae (Wk.fg [4] [] ⟨[(4,vi (-1))],[]⟩) ?_
  have hr:=Option.some.inj h
  subst hr
  exact ⟨_,Wk.refl _,.inr rfl,⟨[],by kernel_rfl,trivial,[vi (-1)],by kernel_rfl,by kernel_rfl⟩⟩

theorem qo (p1:List (ByteArray×Int)) (n:Nat) (g:(List (ByteArray×Int))×Int) (out:List (ByteArray×Int)) (h:bw p1 n g.1 g.2=some out) :
  AX Tryz.prog 24 0 (codeAt [1,1,0,1,1] (aU Tryz.f134)) ((fun g:(List (ByteArray×Int))×Int=>(⟨[(0,.bs false 2 (List.map aa p1)),(3,.sl 0 0 g.1.length),(4,vi g.2)],[(0,.arr 2 (List.map aa g.1))]⟩:S)) g) (fun ex s=>ex=.exit 0∧s=(fun o:List (ByteArray×Int)=>(⟨[(3,.sl 0 0 o.length)],[(0,.arr 2 (List.map aa o))]⟩:S)) out):=by
 refine AX.wkpost ?_
 refine AX.loop (G:=Nat×((List (ByteArray×Int))×Int)) (fun q=>(fun g:(List (ByteArray×Int))×Int=>(⟨[(0,.bs false 2 (List.map aa p1)),(3,.sl 0 0 g.1.length),(4,vi g.2)],[(0,.arr 2 (List.map aa g.1))]⟩:S)) q.2) (fun q=>bw p1 q.1 q.2.1 q.2.2=some out) (fun q=>q.1) (n,g) h (Wk.refl _) ?_
 clear h
 rintro ⟨fu,v2,v3⟩ h
 cases fu with
 | zero=>cases h
 | succ fu =>
  rw [bw] at h
  refine AX.seq ?_
  refine AX.si [] [0,3,4,8] [0] ⟨[(0,.bs false 2 (List.map aa p1)),(3,.sl 0 0 v2.length),(4,vi v3),(8,vb (decide (v3≤4095)))],[(0,.arr 2 (List.map aa v2))]⟩ trivial trivial ?_
  rcases ac (decide (v3≤4095)) with b1 | b1
  ·replace h:=am b1 h
   refine AX.cT (decide (v3≤4095)) b1 ?_
   refine AX.skip ?_
   refine AX.seq ?_
   refine AX.block ?_
   refine AX.seq ?_
   obtain ⟨x4,e2,h⟩:=ak h
   refine AX.rh [aN,aN,.call 160 [.bs false 2 (List.map aa p1),vi v3] hN (ah [] [] (vi x4) [])] [0,3,4,5] [0] ⟨[(0,.bs false 2 (List.map aa p1)),(3,.sl 0 0 v2.length),(4,vi v3),(5,vi x4)],[(0,.arr 2 (List.map aa v2))]⟩ (pa (smA [.bs false 2 (List.map aa p1),vi v3]) <| trivial) ⟨co (mW p1 v3 x4 e2) (.cons cS (.cons cS (.nil))),trivial⟩ ?_
   refine AX.si [] [0,3,4,5,15] [0] ⟨[(0,.bs false 2 (List.map aa p1)),(3,.sl 0 0 v2.length),(4,vi v3),(5,vi x4),(15,vb (decide (0≤x4)))],[(0,.arr 2 (List.map aa v2))]⟩ trivial trivial ?_
   rcases ac (decide (0≤x4)) with b3 | b3
   ·replace h:=am b3 h
    refine AX.cT (decide (0≤x4)) b3 ?_
    obtain ⟨g4,h⟩:=aw h
    obtain ⟨g5,h⟩:=aw h
    refine AX.rh [aN,aN,aN,aY (.be 2 (aa (gt p1 x4)) 0),aN,.auto { nk:=1 },.auto { y:=some (.sl 2 0 ((v2++([((gt p1 x4).1,(gt p1 x4).2)]:List (ByteArray×Int))).length)),els:=some (List.map aa v2),els2:=some (List.map aa ([((gt p1 x4).1,(gt p1 x4).2)]:List (ByteArray×Int))),nk:=2 }] [0,3,4] [2] ⟨[(0,.bs false 2 (List.map aa p1)),(3,.sl 2 0 ((v2++([((gt p1 x4).1,(gt p1 x4).2)]:List (ByteArray×Int))).length)),(4,vi v3)],[(2,.arr 2 (List.map aa v2++List.map aa ([((gt p1 x4).1,(gt p1 x4).2)]:List (ByteArray×Int))))]⟩ (pa (aJ aa p1 x4 2 g4) <| pa (⟨⟨⟨(bc (enc:=aa) rfl rfl),(bc (enc:=aa) rfl rfl)⟩,(by simp only [List.length_map,List.length_nil,List.length_replicate];simpa using g5)⟩,cj (enc:=aa) (aH (enc:=aa) rfl (rfl))⟩:((((((List.map aa v2).drop 0).take (v2.length)=List.map aa v2)∧(((List.map aa ([((gt p1 x4).1,(gt p1 x4).2)]:List (ByteArray×Int))).drop 0).take (([((gt p1 x4).1,(gt p1 x4).2)]:List (ByteArray×Int)).length)=List.map aa ([((gt p1 x4).1,(gt p1 x4).2)]:List (ByteArray×Int))))∧(List.map aa v2).length+(List.map aa ([((gt p1 x4).1,(gt p1 x4).2)]:List (ByteArray×Int))).length≤1099511627776)∧(AV.sl 2 0 (List.map aa v2++List.map aa ([((gt p1 x4).1,(gt p1 x4).2)]:List (ByteArray×Int))).length=AV.sl 2 0 (v2++([((gt p1 x4).1,(gt p1 x4).2)]:List (ByteArray×Int))).length))) <| trivial) trivial ?_
    refine AX.rh [aN,.auto { raw:=true }] [0,3,4] [2] ⟨[(0,.bs false 2 (List.map aa p1)),(3,.sl 2 0 ((v2++([((gt p1 x4).1,(gt p1 x4).2)]:List (ByteArray×Int))).length)),(4,vi (IntKind.wrap .i64 (v3*2)))],[(2,.arr 2 (List.map aa v2++List.map aa ([((gt p1 x4).1,(gt p1 x4).2)]:List (ByteArray×Int))))]⟩ trivial trivial ?_
    refine ⟨(fu,(v2++([((gt p1 x4).1,(gt p1 x4).2)]:List (ByteArray×Int)),IntKind.wrap .i64 (v3*2))),h,Nat.lt_succ_self _,?_⟩
    refine Wk.trans (Wk.swap 0 2 (Nat.le_of_ble_eq_true (by kernel_rfl)) (Nat.le_of_ble_eq_true (by kernel_rfl)) rfl) ?_
    refine Wk.trans (Wk.fg [0,3,4] [0] ⟨[(0,.bs false 2 (List.map aa p1)),(3,.sl 0 0 ((v2++([((gt p1 x4).1,(gt p1 x4).2)]:List (ByteArray×Int))).length)),(4,vi (IntKind.wrap .i64 (v3*2)))],[(0,.arr 2 (List.map aa v2++List.map aa ([((gt p1 x4).1,(gt p1 x4).2)]:List (ByteArray×Int))))]⟩) ?_
    refine Wk.trans (Wk.of_eq (congrArg (fun z=>(⟨[(0,.bs false 2 (List.map aa p1)),(3,.sl 0 0 ((v2++([((gt p1 x4).1,(gt p1 x4).2)]:List (ByteArray×Int))).length)),(4,vi (IntKind.wrap .i64 (v3*2)))],[(0,.arr 2 (z))]⟩:S)) (aH (enc:=aa) rfl (rfl):List.map aa v2++List.map aa ([((gt p1 x4).1,(gt p1 x4).2)]:List (ByteArray×Int))=List.map aa (v2++([((gt p1 x4).1,(gt p1 x4).2)]:List (ByteArray×Int)))))) ?_
    exact Wk.refl _
   ·replace h:=aq b3 h
    refine AX.cF (decide (0≤x4)) b3 ?_
    refine AX.skip ?_
    refine AX.rh [aN,.auto { raw:=true }] [0,3,4] [0] ⟨[(0,.bs false 2 (List.map aa p1)),(3,.sl 0 0 v2.length),(4,vi (IntKind.wrap .i64 (v3*2)))],[(0,.arr 2 (List.map aa v2))]⟩ trivial trivial ?_
    refine ⟨(fu,(v2,IntKind.wrap .i64 (v3*2))),h,Nat.lt_succ_self _,?_⟩
    refine Wk.trans (Wk.fg [0,3,4] [0] ⟨[(0,.bs false 2 (List.map aa p1)),(3,.sl 0 0 v2.length),(4,vi (IntKind.wrap .i64 (v3*2)))],[(0,.arr 2 (List.map aa v2))]⟩) ?_
    exact Wk.refl _
  ·replace h:=aq b1 h
   refine AX.cF (decide (v3≤4095)) b1 ?_
   refine AX.exit ?_
   refine ae (Wk.fg [3] [0] ⟨[(3,.sl 0 0 v2.length)],[(0,.arr 2 (List.map aa v2))]⟩) ?_
   have hr:=Option.some.inj h
   subst hr
   exact ⟨_,Wk.refl _,⟨rfl,rfl⟩⟩

theorem tG (p1:List (ByteArray×Int)) (r:List (ByteArray×Int)) (h:eT p1=some r) :
  Eng.al Tryz.prog 134 [.bs false 2 (List.map aa p1)] [] (.sl 0 0 r.length) [.arr 2 (List.map aa r)]:=by
 unfold eT at h
 refine Eng.al.body Tryz.func134 (by kernel_rfl) rfl (by kernel_rfl) ?_
 refine AX.wkpost ?_
 refine AX.si [] [0] [] ⟨[(0,.bs false 2 (List.map aa p1))],[]⟩ trivial trivial ?_
 refine AX.si [.auto { nk:=0 }] [0,3] [0] ⟨[(0,.bs false 2 (List.map aa p1)),(3,.sl 0 0 (([]:List (ByteArray×Int)).length))],[(0,.arr 2 (List.map aa ([]:List (ByteArray×Int))))]⟩ trivial trivial ?_
 refine AX.seq ?_
 refine AX.si [] [0,3,4] [0] ⟨[(0,.bs false 2 (List.map aa p1)),(3,.sl 0 0 (([]:List (ByteArray×Int)).length)),(4,vi 1)],[(0,.arr 2 (List.map aa ([]:List (ByteArray×Int))))]⟩ trivial trivial ?_
 refine AX.block ?_
 obtain ⟨x5,e6,h⟩:=ak h
 refine AX.wk (Wk.fg [0,3,4] [0] ⟨[(0,.bs false 2 (List.map aa p1)),(3,.sl 0 0 (([]:List (ByteArray×Int)).length)),(4,vi 1)],[(0,.arr 2 (List.map aa ([]:List (ByteArray×Int))))]⟩) ?_
 refine AX.mono (qo p1 FU (([]:List (ByteArray×Int)),1) x5 e6) ?_
 rintro _ _ ⟨rfl,rfl⟩
 skip
 refine AX.si [] [2] [0] ⟨[(2,.sl 0 0 x5.length)],[(0,.arr 2 (List.map aa x5))]⟩ trivial trivial ?_
 refine AX.ret ?_
 refine ae (Wk.fg [2] [0] ⟨[(2,.sl 0 0 x5.length)],[(0,.arr 2 (List.map aa x5))]⟩) ?_
 have hr:=Option.some.inj h
 subst hr
 exact ⟨_,Wk.refl _,.inr rfl,⟨[0],by kernel_rfl,⟨rfl,trivial⟩,[.sl 0 0 x5.length],by kernel_rfl,by kernel_rfl⟩⟩

theorem rC (p2:Int) (x3:List (ByteArray×Int)) (n:Nat) (g:(List (ByteArray×Int))×Int) (out:List (ByteArray×Int)) (h:cM p2 x3 n g.1 g.2=some out) :
  AX Tryz.prog 33 0 (codeAt [1,1,1,0,1,1] (aU Tryz.f99)) ((fun g:(List (ByteArray×Int))×Int=>(⟨[(1,vi p2),(5,.sl 0 0 g.1.length),(6,.sl 1 0 x3.length),(7,vi g.2)],[(0,.arr 2 (List.map aa g.1)),(1,.arr 2 (List.map aa x3))]⟩:S)) g) (fun ex s=>ex=.exit 0∧s=(fun o:List (ByteArray×Int)=>(⟨[(5,.sl 0 0 o.length)],[(0,.arr 2 (List.map aa o))]⟩:S)) out):=by
 refine AX.wkpost ?_
 refine AX.loop (G:=Nat×((List (ByteArray×Int))×Int)) (fun q=>(fun g:(List (ByteArray×Int))×Int=>(⟨[(1,vi p2),(5,.sl 0 0 g.1.length),(6,.sl 1 0 x3.length),(7,vi g.2)],[(0,.arr 2 (List.map aa g.1)),(1,.arr 2 (List.map aa x3))]⟩:S)) q.2) (fun q=>cM p2 x3 q.1 q.2.1 q.2.2=some out) (fun q=>q.1) (n,g) h (Wk.refl _) ?_
 clear h
 rintro ⟨fu,v4,v5⟩ h
 cases fu with
 | zero=>cases h
 | succ fu =>
  rw [cM] at h
  refine AX.seq ?_
  refine AX.si [] [1,5,6,7,14] [0,1] ⟨[(1,vi p2),(5,.sl 0 0 v4.length),(6,.sl 1 0 x3.length),(7,vi v5),(14,vb (decide (v5<(x3.length:Int))))],[(0,.arr 2 (List.map aa v4)),(1,.arr 2 (List.map aa x3))]⟩ trivial trivial ?_
  rcases ac (decide (v5<(x3.length:Int))) with b2 | b2
  ·replace h:=am b2 h
   refine AX.cT (decide (v5<(x3.length:Int))) b2 ?_
   refine AX.skip ?_
   refine AX.seq ?_
   refine AX.block ?_
   refine AX.seq ?_
   obtain ⟨g3,h⟩:=aw h
   obtain ⟨x6,e4,h⟩:=ak h
   refine AX.rh [aN,aN,aN,aN,aY (vi ((gt x3 v5).2)),aN,.call 58 [vi ((gt x3 v5).2),vi p2] hN (ah [] [] (vi x6) [])] [1,5,6,7,24] [0,1] ⟨[(1,vi p2),(5,.sl 0 0 v4.length),(6,.sl 1 0 x3.length),(7,vi v5),(24,vb (decide (0<x6)))],[(0,.arr 2 (List.map aa v4)),(1,.arr 2 (List.map aa x3))]⟩ (pa g3 <| pa (⟨trivial,(congrArg (fun z:List Value=>AV.v (z.getD 1 undef)) (au (enc:=aa) rfl g3))⟩:(True∧(AV.v (((List.map aa x3).getD (0+v5.toNat) []).getD 1 undef)=vi ((gt x3 v5).2)))) <| pa (smA [vi ((gt x3 v5).2),vi p2]) <| trivial) ⟨co (jp ((gt x3 v5).2) p2 x6 e4) (.cons cS (.cons cS (.nil))),trivial⟩ ?_
   rcases ac (decide (0<x6)) with b5 | b5
   ·replace h:=am b5 h
    refine AX.cT (decide (0<x6)) b5 ?_
    obtain ⟨g6,h⟩:=aw h
    refine AX.rh [aN,aN,aN,aN,aY (.agg [vs ((gt x3 v5).1),vi ((gt x3 v5).2)]),.auto { nk:=2 },.auto { y:=some (.sl 3 0 ((v4++([((gt x3 v5).1,(gt x3 v5).2)]:List (ByteArray×Int))).length)),els:=some (List.map aa v4),els2:=some (List.map aa ([((gt x3 v5).1,(gt x3 v5).2)]:List (ByteArray×Int))),nk:=3 }] [1,5,6,7] [1,3] ⟨[(1,vi p2),(5,.sl 3 0 ((v4++([((gt x3 v5).1,(gt x3 v5).2)]:List (ByteArray×Int))).length)),(6,.sl 1 0 x3.length),(7,vi v5)],[(1,.arr 2 (List.map aa x3)),(3,.arr 2 (List.map aa v4++List.map aa ([((gt x3 v5).1,(gt x3 v5).2)]:List (ByteArray×Int))))]⟩ (pa g3 <| pa (⟨trivial,(congrArg (fun z:List Value=>AV.agg (((z.drop 0).take 2).map .v)) (au (enc:=aa) rfl g3))⟩:(True∧(AV.agg ((((List.map aa x3).getD (0+v5.toNat) []).drop 0 |>.take 2).map .v)=.agg [vs ((gt x3 v5).1),vi ((gt x3 v5).2)]))) <| pa (⟨⟨⟨(bc (enc:=aa) rfl rfl),(bc (enc:=aa) rfl rfl)⟩,(by simp only [List.length_map,List.length_nil,List.length_replicate];simpa using g6)⟩,cj (enc:=aa) (aH (enc:=aa) rfl (rfl))⟩:((((((List.map aa v4).drop 0).take (v4.length)=List.map aa v4)∧(((List.map aa ([((gt x3 v5).1,(gt x3 v5).2)]:List (ByteArray×Int))).drop 0).take (([((gt x3 v5).1,(gt x3 v5).2)]:List (ByteArray×Int)).length)=List.map aa ([((gt x3 v5).1,(gt x3 v5).2)]:List (ByteArray×Int))))∧(List.map aa v4).length+(List.map aa ([((gt x3 v5).1,(gt x3 v5).2)]:List (ByteArray×Int))).length≤1099511627776)∧(AV.sl 3 0 (List.map aa v4++List.map aa ([((gt x3 v5).1,(gt x3 v5).2)]:List (ByteArray×Int))).length=AV.sl 3 0 (v4++([((gt x3 v5).1,(gt x3 v5).2)]:List (ByteArray×Int))).length))) <| trivial) trivial ?_
    refine AX.rh [aN,.auto { raw:=true }] [1,5,6,7] [1,3] ⟨[(1,vi p2),(5,.sl 3 0 ((v4++([((gt x3 v5).1,(gt x3 v5).2)]:List (ByteArray×Int))).length)),(6,.sl 1 0 x3.length),(7,vi (IntKind.wrap .i64 (v5+1)))],[(1,.arr 2 (List.map aa x3)),(3,.arr 2 (List.map aa v4++List.map aa ([((gt x3 v5).1,(gt x3 v5).2)]:List (ByteArray×Int))))]⟩ trivial trivial ?_
    refine ⟨(fu,(v4++([((gt x3 v5).1,(gt x3 v5).2)]:List (ByteArray×Int)),IntKind.wrap .i64 (v5+1))),h,Nat.lt_succ_self _,?_⟩
    refine Wk.trans (Wk.swap 0 3 (Nat.le_of_ble_eq_true (by kernel_rfl)) (Nat.le_of_ble_eq_true (by kernel_rfl)) rfl) ?_
    refine Wk.trans (Wk.fg [1,5,6,7] [0,1] ⟨[(1,vi p2),(5,.sl 0 0 ((v4++([((gt x3 v5).1,(gt x3 v5).2)]:List (ByteArray×Int))).length)),(6,.sl 1 0 x3.length),(7,vi (IntKind.wrap .i64 (v5+1)))],[(0,.arr 2 (List.map aa v4++List.map aa ([((gt x3 v5).1,(gt x3 v5).2)]:List (ByteArray×Int)))),(1,.arr 2 (List.map aa x3))]⟩) ?_
    refine Wk.trans (Wk.of_eq (congrArg (fun z=>(⟨[(1,vi p2),(5,.sl 0 0 ((v4++([((gt x3 v5).1,(gt x3 v5).2)]:List (ByteArray×Int))).length)),(6,.sl 1 0 x3.length),(7,vi (IntKind.wrap .i64 (v5+1)))],[(0,.arr 2 (z)),(1,.arr 2 (List.map aa x3))]⟩:S)) (aH (enc:=aa) rfl (rfl):List.map aa v4++List.map aa ([((gt x3 v5).1,(gt x3 v5).2)]:List (ByteArray×Int))=List.map aa (v4++([((gt x3 v5).1,(gt x3 v5).2)]:List (ByteArray×Int)))))) ?_
    exact Wk.refl _
   ·replace h:=aq b5 h
    refine AX.cF (decide (0<x6)) b5 ?_
    refine AX.skip ?_
    refine AX.rh [aN,.auto { raw:=true }] [1,5,6,7] [0,1] ⟨[(1,vi p2),(5,.sl 0 0 v4.length),(6,.sl 1 0 x3.length),(7,vi (IntKind.wrap .i64 (v5+1)))],[(0,.arr 2 (List.map aa v4)),(1,.arr 2 (List.map aa x3))]⟩ trivial trivial ?_
    refine ⟨(fu,(v4,IntKind.wrap .i64 (v5+1))),h,Nat.lt_succ_self _,?_⟩
    refine Wk.trans (Wk.fg [1,5,6,7] [0,1] ⟨[(1,vi p2),(5,.sl 0 0 v4.length),(6,.sl 1 0 x3.length),(7,vi (IntKind.wrap .i64 (v5+1)))],[(0,.arr 2 (List.map aa v4)),(1,.arr 2 (List.map aa x3))]⟩) ?_
    exact Wk.refl _
  ·replace h:=aq b2 h
   refine AX.cF (decide (v5<(x3.length:Int))) b2 ?_
   refine AX.exit ?_
   refine ae (Wk.fg [5] [0] ⟨[(5,.sl 0 0 v4.length)],[(0,.arr 2 (List.map aa v4))]⟩) ?_
   have hr:=Option.some.inj h
   subst hr
   exact ⟨_,Wk.refl _,⟨rfl,rfl⟩⟩

theorem uX (p1:List (ByteArray×Int)) (p2:Int) (r:List (ByteArray×Int)) (h:ia p1 p2=some r) :
  Eng.al Tryz.prog 99 [.bs false 2 (List.map aa p1),vi p2] [] (.sl 0 0 r.length) [.arr 2 (List.map aa r)]:=by
 unfold ia at h
 refine Eng.al.body Tryz.func99 (by kernel_rfl) rfl (by kernel_rfl) ?_
 refine AX.wkpost ?_
 refine AX.si [] [0,1] [] ⟨[(0,.bs false 2 (List.map aa p1)),(1,vi p2)],[]⟩ trivial trivial ?_
 refine AX.si [.auto { nk:=0 }] [0,1,5] [0] ⟨[(0,.bs false 2 (List.map aa p1)),(1,vi p2),(5,.sl 0 0 (([]:List (ByteArray×Int)).length))],[(0,.arr 2 (List.map aa ([]:List (ByteArray×Int))))]⟩ trivial trivial ?_
 refine AX.seq ?_
 obtain ⟨x3,e1,h⟩:=ak h
 refine AX.rh [aN,.call 134 [.bs false 2 (List.map aa p1)] (aD (rho ([]++[1])) [] []++[]) (ah [] [1] (.sl 0 0 x3.length) [.arr 2 (List.map aa x3)])] [1,5,6] [0,1] ⟨[(1,vi p2),(5,.sl 0 0 (([]:List (ByteArray×Int)).length)),(6,.sl 1 0 x3.length)],[(0,.arr 2 (List.map aa ([]:List (ByteArray×Int)))),(1,.arr 2 (List.map aa x3))]⟩ (pa (smA [.bs false 2 (List.map aa p1)]) <| trivial) ⟨aA (ks:=[]) (ns:=[1]) (bor:=[]) (bobjs:=[]) (tG p1 x3 e1) (.cons cS (.nil)) (by kernel_rfl) trivial,trivial⟩ ?_
 refine AX.seq ?_
 refine AX.si [] [1,5,6,7] [0,1] ⟨[(1,vi p2),(5,.sl 0 0 (([]:List (ByteArray×Int)).length)),(6,.sl 1 0 x3.length),(7,vi 0)],[(0,.arr 2 (List.map aa ([]:List (ByteArray×Int)))),(1,.arr 2 (List.map aa x3))]⟩ trivial trivial ?_
 refine AX.block ?_
 obtain ⟨x7,e7,h⟩:=ak h
 refine AX.wk (Wk.fg [1,5,6,7] [0,1] ⟨[(1,vi p2),(5,.sl 0 0 (([]:List (ByteArray×Int)).length)),(6,.sl 1 0 x3.length),(7,vi 0)],[(0,.arr 2 (List.map aa ([]:List (ByteArray×Int)))),(1,.arr 2 (List.map aa x3))]⟩) ?_
 refine AX.mono (rC p2 x3 FU (([]:List (ByteArray×Int)),0) x7 e7) ?_
 rintro _ _ ⟨rfl,rfl⟩
 skip
 refine AX.si [] [4] [0] ⟨[(4,.sl 0 0 x7.length)],[(0,.arr 2 (List.map aa x7))]⟩ trivial trivial ?_
 refine AX.ret ?_
 refine ae (Wk.fg [4] [0] ⟨[(4,.sl 0 0 x7.length)],[(0,.arr 2 (List.map aa x7))]⟩) ?_
 have hr:=Option.some.inj h
 subst hr
 exact ⟨_,Wk.refl _,.inr rfl,⟨[0],by kernel_rfl,⟨rfl,trivial⟩,[.sl 0 0 x7.length],by kernel_rfl,by kernel_rfl⟩⟩

theorem qq (p1:List (ByteArray×Int)) (n:Nat) (g:List ByteArray×Int) (out:List ByteArray) (h:cX p1 n g.1 g.2=some out) :
  AX Tryz.prog 21 0 (codeAt [1,1,0,1,1] (aU Tryz.f101)) ((fun g:List ByteArray×Int=>(⟨[(0,.bs false 2 (List.map aa p1)),(3,.sl 0 0 g.1.length),(4,vi g.2)],[(0,.arr 1 (List.map ab g.1))]⟩:S)) g) (fun ex s=>ex=.exit 0∧s=(fun o:List ByteArray=>(⟨[(3,.sl 0 0 o.length)],[(0,.arr 1 (List.map ab o))]⟩:S)) out):=by
 refine AX.wkpost ?_
 refine AX.loop (G:=Nat×(List ByteArray×Int)) (fun q=>(fun g:List ByteArray×Int=>(⟨[(0,.bs false 2 (List.map aa p1)),(3,.sl 0 0 g.1.length),(4,vi g.2)],[(0,.arr 1 (List.map ab g.1))]⟩:S)) q.2) (fun q=>cX p1 q.1 q.2.1 q.2.2=some out) (fun q=>q.1) (n,g) h (Wk.refl _) ?_
 clear h
 rintro ⟨fu,v2,v3⟩ h
 cases fu with
 | zero=>cases h
 | succ fu =>
  rw [cX] at h
  refine AX.seq ?_
  refine AX.si [aN,aN,aY (vi (p1.length:Int))] [0,3,4,9] [0] ⟨[(0,.bs false 2 (List.map aa p1)),(3,.sl 0 0 v2.length),(4,vi v3),(9,vb (decide (v3<(p1.length:Int))))],[(0,.arr 1 (List.map ab v2))]⟩ (pa (⟨trivial,aS aa p1⟩:(True∧(vi ((List.map aa p1).length:Int)=vi (p1.length:Int)))) <| trivial) trivial ?_
  rcases ac (decide (v3<(p1.length:Int))) with b1 | b1
  ·replace h:=am b1 h
   refine AX.cT (decide (v3<(p1.length:Int))) b1 ?_
   refine AX.skip ?_
   refine AX.seq ?_
   refine AX.block ?_
   obtain ⟨g2,h⟩:=aw h
   obtain ⟨g3,h⟩:=aw h
   refine AX.rh [aN,aN,aN,aY (.be 2 (aa (gt p1 v3)) 0),aN,aN,.auto { nk:=1 },.auto { y:=some (.sl 2 0 ((v2++([(gt p1 v3).1]:List ByteArray)).length)),els:=some (List.map ab v2),els2:=some (List.map ab ([(gt p1 v3).1]:List ByteArray)),nk:=2 }] [0,3,4] [2] ⟨[(0,.bs false 2 (List.map aa p1)),(3,.sl 2 0 ((v2++([(gt p1 v3).1]:List ByteArray)).length)),(4,vi v3)],[(2,.arr 1 (List.map ab v2++List.map ab ([(gt p1 v3).1]:List ByteArray)))]⟩ (pa (aJ aa p1 v3 2 g2) <| pa (⟨⟨⟨(bc (enc:=ab) rfl rfl),(bc (enc:=ab) rfl rfl)⟩,(by simp only [List.length_map,List.length_nil,List.length_replicate];simpa using g3)⟩,cj (enc:=ab) (aH (enc:=ab) rfl (rfl))⟩:((((((List.map ab v2).drop 0).take (v2.length)=List.map ab v2)∧(((List.map ab ([(gt p1 v3).1]:List ByteArray)).drop 0).take (([(gt p1 v3).1]:List ByteArray).length)=List.map ab ([(gt p1 v3).1]:List ByteArray)))∧(List.map ab v2).length+(List.map ab ([(gt p1 v3).1]:List ByteArray)).length≤1099511627776)∧(AV.sl 2 0 (List.map ab v2++List.map ab ([(gt p1 v3).1]:List ByteArray)).length=AV.sl 2 0 (v2++([(gt p1 v3).1]:List ByteArray)).length))) <| trivial) trivial ?_
   refine AX.rh [aN,.auto { raw:=true }] [0,3,4] [2] ⟨[(0,.bs false 2 (List.map aa p1)),(3,.sl 2 0 ((v2++([(gt p1 v3).1]:List ByteArray)).length)),(4,vi (IntKind.wrap .i64 (v3+1)))],[(2,.arr 1 (List.map ab v2++List.map ab ([(gt p1 v3).1]:List ByteArray)))]⟩ trivial trivial ?_
   refine ⟨(fu,(v2++([(gt p1 v3).1]:List ByteArray),IntKind.wrap .i64 (v3+1))),h,Nat.lt_succ_self _,?_⟩
   refine Wk.trans (Wk.swap 0 2 (Nat.le_of_ble_eq_true (by kernel_rfl)) (Nat.le_of_ble_eq_true (by kernel_rfl)) rfl) ?_
   refine Wk.trans (Wk.fg [0,3,4] [0] ⟨[(0,.bs false 2 (List.map aa p1)),(3,.sl 0 0 ((v2++([(gt p1 v3).1]:List ByteArray)).length)),(4,vi (IntKind.wrap .i64 (v3+1)))],[(0,.arr 1 (List.map ab v2++List.map ab ([(gt p1 v3).1]:List ByteArray)))]⟩) ?_
   refine Wk.trans (Wk.of_eq (congrArg (fun z=>(⟨[(0,.bs false 2 (List.map aa p1)),(3,.sl 0 0 ((v2++([(gt p1 v3).1]:List ByteArray)).length)),(4,vi (IntKind.wrap .i64 (v3+1)))],[(0,.arr 1 (z))]⟩:S)) (aH (enc:=ab) rfl (rfl):List.map ab v2++List.map ab ([(gt p1 v3).1]:List ByteArray)=List.map ab (v2++([(gt p1 v3).1]:List ByteArray))))) ?_
   exact Wk.refl _
  ·replace h:=aq b1 h
   refine AX.cF (decide (v3<(p1.length:Int))) b1 ?_
   refine AX.exit ?_
   refine ae (Wk.fg [3] [0] ⟨[(3,.sl 0 0 v2.length)],[(0,.arr 1 (List.map ab v2))]⟩) ?_
   have hr:=Option.some.inj h
   subst hr
   exact ⟨_,Wk.refl _,⟨rfl,rfl⟩⟩

theorem nf (p1:List (ByteArray×Int)) (r:List ByteArray) (h:eW p1=some r) :
  Eng.al Tryz.prog 101 [.bs false 2 (List.map aa p1)] [] (.sl 0 0 r.length) [.arr 1 (List.map ab r)]:=by
 unfold eW at h
 refine Eng.al.body Tryz.func101 (by kernel_rfl) rfl (by kernel_rfl) ?_
 refine AX.wkpost ?_
 refine AX.si [] [0] [] ⟨[(0,.bs false 2 (List.map aa p1))],[]⟩ trivial trivial ?_
 refine AX.si [.auto { nk:=0 }] [0,3] [0] ⟨[(0,.bs false 2 (List.map aa p1)),(3,.sl 0 0 (([]:List ByteArray).length))],[(0,.arr 1 (List.map ab ([]:List ByteArray)))]⟩ trivial trivial ?_
 refine AX.seq ?_
 refine AX.si [] [0,3,4] [0] ⟨[(0,.bs false 2 (List.map aa p1)),(3,.sl 0 0 (([]:List ByteArray).length)),(4,vi 0)],[(0,.arr 1 (List.map ab ([]:List ByteArray)))]⟩ trivial trivial ?_
 refine AX.block ?_
 obtain ⟨x4,e4,h⟩:=ak h
 refine AX.wk (Wk.fg [0,3,4] [0] ⟨[(0,.bs false 2 (List.map aa p1)),(3,.sl 0 0 (([]:List ByteArray).length)),(4,vi 0)],[(0,.arr 1 (List.map ab ([]:List ByteArray)))]⟩) ?_
 refine AX.mono (qq p1 FU (([]:List ByteArray),0) x4 e4) ?_
 rintro _ _ ⟨rfl,rfl⟩
 skip
 refine AX.si [] [2] [0] ⟨[(2,.sl 0 0 x4.length)],[(0,.arr 1 (List.map ab x4))]⟩ trivial trivial ?_
 refine AX.ret ?_
 refine ae (Wk.fg [2] [0] ⟨[(2,.sl 0 0 x4.length)],[(0,.arr 1 (List.map ab x4))]⟩) ?_
 have hr:=Option.some.inj h
 subst hr
 exact ⟨_,Wk.refl _,.inr rfl,⟨[0],by kernel_rfl,⟨rfl,trivial⟩,[.sl 0 0 x4.length],by kernel_rfl,by kernel_rfl⟩⟩

theorem my (p1:List (ByteArray×Int)) (r:ByteArray) (h:fw p1=some r) :
  Eng.al Tryz.prog 135 [.bs false 2 (List.map aa p1)] [] (vs r) []:=by
 unfold fw at h
 refine Eng.al.body Tryz.func135 (by kernel_rfl) rfl (by kernel_rfl) ?_
 refine AX.wkpost ?_
 refine AX.si [] [0] [] ⟨[(0,.bs false 2 (List.map aa p1))],[]⟩ trivial trivial ?_
 refine AX.seq ?_
 obtain ⟨x2,e1,h⟩:=ak h
 refine AX.rh [aN,.call 160 [.bs false 2 (List.map aa p1),vi 0] hN (ah [] [] (vi x2) [])] [0,3] [] ⟨[(0,.bs false 2 (List.map aa p1)),(3,vi x2)],[]⟩ (pa (smA [.bs false 2 (List.map aa p1),vi 0]) <| trivial) ⟨co (mW p1 0 x2 e1) (.cons cS (.cons cS (.nil))),trivial⟩ ?_
 refine AX.seq ?_
 refine AX.si [] [0,3,7] [] ⟨[(0,.bs false 2 (List.map aa p1)),(3,vi x2),(7,vb (decide (0≤x2)))],[]⟩ trivial trivial ?_
 rcases ac (decide (0≤x2)) with b2 | b2
 ·replace h:=am b2 h
  refine AX.cT (decide (0≤x2)) b2 ?_
  refine AX.seq ?_
  obtain ⟨g3,h⟩:=aw h
  refine AX.rh [aN,aN,aY (.be 2 (aa (gt p1 x2)) 0)] [2] [] ⟨[(2,vs ((gt p1 x2).1))],[]⟩ (pa (aJ aa p1 x2 2 g3) <| trivial) trivial ?_
  refine AX.ret ?_
  refine ae (Wk.fg [2] [] ⟨[(2,vs ((gt p1 x2).1))],[]⟩) ?_
  have hr:=Option.some.inj h
  subst hr
  exact ⟨_,Wk.refl _,.inr rfl,⟨[],by kernel_rfl,trivial,[vs ((gt p1 x2).1)],by kernel_rfl,by kernel_rfl⟩⟩
 ·replace h:=aq b2 h
  refine AX.cF (decide (0≤x2)) b2 ?_
  refine AX.skip ?_
  refine AX.si [] [2] [] ⟨[(2,vs (ByteArray.mk #[48]))],[]⟩ trivial trivial ?_
  refine AX.ret ?_
  refine ae (Wk.fg [2] [] ⟨[(2,vs (ByteArray.mk #[48]))],[]⟩) ?_
  have hr:=Option.some.inj h
  subst hr
  exact ⟨_,Wk.refl _,.inr rfl,⟨[],by kernel_rfl,trivial,[vs (ByteArray.mk #[48])],by kernel_rfl,by kernel_rfl⟩⟩

theorem pF (p1:List ByteArray) (p2:ByteArray) (n:Nat) (g:ByteArray×Int) (out:ByteArray) (h:bZ p1 p2 n g.1 g.2=some out) :
  AX Tryz.prog 25 0 (codeAt [1,1,0,1,1] (aU Tryz.f32)) ((fun g:ByteArray×Int=>(⟨[(0,.bs false 1 (List.map ab p1)),(1,vs p2),(5,vs g.1),(6,vi g.2)],[]⟩:S)) g) (fun ex s=>ex=.exit 0∧s=(fun o:ByteArray=>(⟨[(5,vs o)],[]⟩:S)) out):=by
 refine AX.wkpost ?_
 refine AX.loop (G:=Nat×(ByteArray×Int)) (fun q=>(fun g:ByteArray×Int=>(⟨[(0,.bs false 1 (List.map ab p1)),(1,vs p2),(5,vs g.1),(6,vi g.2)],[]⟩:S)) q.2) (fun q=>bZ p1 p2 q.1 q.2.1 q.2.2=some out) (fun q=>q.1) (n,g) h (Wk.refl _) ?_
 clear h
 rintro ⟨fu,v3,v4⟩ h
 cases fu with
 | zero=>cases h
 | succ fu =>
  rw [bZ] at h
  refine AX.seq ?_
  refine AX.si [aN,aN,aY (vi (p1.length:Int))] [0,1,5,6,10] [] ⟨[(0,.bs false 1 (List.map ab p1)),(1,vs p2),(5,vs v3),(6,vi v4),(10,vb (decide (v4<(p1.length:Int))))],[]⟩ (pa (⟨trivial,aS ab p1⟩:(True∧(vi ((List.map ab p1).length:Int)=vi (p1.length:Int)))) <| trivial) trivial ?_
  rcases ac (decide (v4<(p1.length:Int))) with b1 | b1
  ·replace h:=am b1 h
   refine AX.cT (decide (v4<(p1.length:Int))) b1 ?_
   refine AX.skip ?_
   refine AX.seq ?_
   refine AX.block ?_
   refine AX.seq ?_
   refine AX.si [] [0,1,5,6,14] [] ⟨[(0,.bs false 1 (List.map ab p1)),(1,vs p2),(5,vs v3),(6,vi v4),(14,vb (decide (0<v4)))],[]⟩ trivial trivial ?_
   rcases ac (decide (0<v4)) with b2 | b2
   ·replace h:=am b2 h
    refine AX.cT (decide (0<v4)) b2 ?_
    obtain ⟨g3,h⟩:=aw h
    refine AX.rh [] [0,1,5,6] [] ⟨[(0,.bs false 1 (List.map ab p1)),(1,vs p2),(5,vs (v3++p2)),(6,vi v4)],[]⟩ (pa g3 <| trivial) trivial ?_
    obtain ⟨g4,h⟩:=aw h
    obtain ⟨g5,h⟩:=aw h
    refine AX.rh [aN,aN,aN,aY (.be 1 (ab (gt p1 v4)) 0)] [0,1,5,6] [] ⟨[(0,.bs false 1 (List.map ab p1)),(1,vs p2),(5,vs ((v3++p2)++(gt p1 v4))),(6,vi v4)],[]⟩ (pa (aJ ab p1 v4 1 g4) <| pa g5 <| trivial) trivial ?_
    refine AX.rh [aN,.auto { raw:=true }] [0,1,5,6] [] ⟨[(0,.bs false 1 (List.map ab p1)),(1,vs p2),(5,vs ((v3++p2)++(gt p1 v4))),(6,vi (IntKind.wrap .i64 (v4+1)))],[]⟩ trivial trivial ?_
    refine ⟨(fu,((v3++p2)++(gt p1 v4),IntKind.wrap .i64 (v4+1))),h,Nat.lt_succ_self _,?_⟩
    refine Wk.trans (Wk.fg [0,1,5,6] [] ⟨[(0,.bs false 1 (List.map ab p1)),(1,vs p2),(5,vs ((v3++p2)++(gt p1 v4))),(6,vi (IntKind.wrap .i64 (v4+1)))],[]⟩) ?_
    exact Wk.refl _
   ·replace h:=aq b2 h
    refine AX.cF (decide (0<v4)) b2 ?_
    refine AX.skip ?_
    obtain ⟨g6,h⟩:=aw h
    obtain ⟨g7,h⟩:=aw h
    refine AX.rh [aN,aN,aN,aY (.be 1 (ab (gt p1 v4)) 0)] [0,1,5,6] [] ⟨[(0,.bs false 1 (List.map ab p1)),(1,vs p2),(5,vs (v3++(gt p1 v4))),(6,vi v4)],[]⟩ (pa (aJ ab p1 v4 1 g6) <| pa g7 <| trivial) trivial ?_
    refine AX.rh [aN,.auto { raw:=true }] [0,1,5,6] [] ⟨[(0,.bs false 1 (List.map ab p1)),(1,vs p2),(5,vs (v3++(gt p1 v4))),(6,vi (IntKind.wrap .i64 (v4+1)))],[]⟩ trivial trivial ?_
    refine ⟨(fu,(v3++(gt p1 v4),IntKind.wrap .i64 (v4+1))),h,Nat.lt_succ_self _,?_⟩
    refine Wk.trans (Wk.fg [0,1,5,6] [] ⟨[(0,.bs false 1 (List.map ab p1)),(1,vs p2),(5,vs (v3++(gt p1 v4))),(6,vi (IntKind.wrap .i64 (v4+1)))],[]⟩) ?_
    exact Wk.refl _
  ·replace h:=aq b1 h
   refine AX.cF (decide (v4<(p1.length:Int))) b1 ?_
   refine AX.exit ?_
   refine ae (Wk.fg [5] [] ⟨[(5,vs v3)],[]⟩) ?_
   have hr:=Option.some.inj h
   subst hr
   exact ⟨_,Wk.refl _,⟨rfl,rfl⟩⟩

theorem mt (p1:List ByteArray) (p2:ByteArray) (r:ByteArray) (h:fv p1 p2=some r) :
  Eng.al Tryz.prog 32 [.bs false 1 (List.map ab p1),vs p2] [] (vs r) []:=by
 unfold fv at h
 refine Eng.al.body Tryz.func32 (by kernel_rfl) rfl (by kernel_rfl) ?_
 refine AX.wkpost ?_
 refine AX.si [] [0,1] [] ⟨[(0,.bs false 1 (List.map ab p1)),(1,vs p2)],[]⟩ trivial trivial ?_
 refine AX.si [] [0,1,5] [] ⟨[(0,.bs false 1 (List.map ab p1)),(1,vs p2),(5,vs ByteArray.empty)],[]⟩ trivial trivial ?_
 refine AX.seq ?_
 refine AX.si [] [0,1,5,6] [] ⟨[(0,.bs false 1 (List.map ab p1)),(1,vs p2),(5,vs ByteArray.empty),(6,vi 0)],[]⟩ trivial trivial ?_
 refine AX.block ?_
 obtain ⟨x5,e8,h⟩:=ak h
 refine AX.wk (Wk.fg [0,1,5,6] [] ⟨[(0,.bs false 1 (List.map ab p1)),(1,vs p2),(5,vs ByteArray.empty),(6,vi 0)],[]⟩) ?_
 refine AX.mono (pF p1 p2 FU (ByteArray.empty,0) x5 e8) ?_
 rintro _ _ ⟨rfl,rfl⟩
 skip
 refine AX.si [] [4] [] ⟨[(4,vs x5)],[]⟩ trivial trivial ?_
 refine AX.ret ?_
 refine ae (Wk.fg [4] [] ⟨[(4,vs x5)],[]⟩) ?_
 have hr:=Option.some.inj h
 subst hr
 exact ⟨_,Wk.refl _,.inr rfl,⟨[],by kernel_rfl,trivial,[vs x5],by kernel_rfl,by kernel_rfl⟩⟩

theorem mq (p1:List (ByteArray×Int)) (p2:List ByteArray) (p3:Int) (r:ByteArray) (h:dW p1 p2 p3=some r) :
  Eng.al Tryz.prog 100 [.bs false 2 (List.map aa p1),.bs false 1 (List.map ab p2),vi p3] [] (vs r) []:=by
 unfold dW at h
 refine Eng.al.body Tryz.func100 (by kernel_rfl) rfl (by kernel_rfl) ?_
 refine AX.wkpost ?_
 refine AX.si [] [0,1,2] [] ⟨[(0,.bs false 2 (List.map aa p1)),(1,.bs false 1 (List.map ab p2)),(2,vi p3)],[]⟩ trivial trivial ?_
 refine AX.seq ?_
 refine AX.si [] [0,1,2,8] [] ⟨[(0,.bs false 2 (List.map aa p1)),(1,.bs false 1 (List.map ab p2)),(2,vi p3),(8,vb (decide (0<p3)))],[]⟩ trivial trivial ?_
 rcases ac (decide (0<p3)) with b1 | b1
 ·replace h:=am b1 h
  refine AX.cT (decide (0<p3)) b1 ?_
  obtain ⟨g2,h⟩:=aw h
  obtain ⟨x4,e3,h⟩:=ak h
  obtain ⟨g4,h⟩:=aw h
  refine AX.rh [.auto { nk:=0 },aN,.auto { y:=some (.sl 1 0 ((([]:List ByteArray)++p2).length)),els:=some (List.map ab ([]:List ByteArray)),nk:=1 },aN,.call 53 [vi p3] hN (ah [] [] (vs x4) []),.auto { nk:=2 },.auto { y:=some (.sl 3 0 (((([]:List ByteArray)++p2)++([x4]:List ByteArray)).length)),els:=some (List.map ab (([]:List ByteArray)++p2)),els2:=some (List.map ab ([x4]:List ByteArray)),nk:=3 }] [0,1] [3] ⟨[(0,.bs false 2 (List.map aa p1)),(1,.sl 3 0 (((([]:List ByteArray)++p2)++([x4]:List ByteArray)).length))],[(3,.arr 1 (List.map ab (([]:List ByteArray)++p2)++List.map ab ([x4]:List ByteArray)))]⟩ (pa (⟨⟨⟨(bc (enc:=ab) rfl rfl),trivial⟩,(by simp only [List.length_map,List.length_nil,List.length_replicate];simpa using g2)⟩,cj (enc:=ab) (aH (enc:=ab) rfl (rfl))⟩:((((((List.map ab ([]:List ByteArray)).drop 0).take (([]:List ByteArray).length)=List.map ab ([]:List ByteArray))∧True)∧(List.map ab ([]:List ByteArray)).length+(List.map ab p2).length≤1099511627776)∧(AV.sl 1 0 (List.map ab ([]:List ByteArray)++List.map ab p2).length=AV.sl 1 0 (([]:List ByteArray)++p2).length))) <| pa (smA [vi p3]) <| pa (⟨⟨⟨(bc (enc:=ab) (aH (enc:=ab) rfl (rfl):List.map ab ([]:List ByteArray)++List.map ab p2=List.map ab (([]:List ByteArray)++p2)) rfl),(bc (enc:=ab) rfl rfl)⟩,(by simp only [List.length_map,List.length_nil,List.length_replicate];simpa using g4)⟩,cj (enc:=ab) (aH (enc:=ab) rfl (rfl))⟩:((((((List.map ab ([]:List ByteArray)++List.map ab p2).drop 0).take ((([]:List ByteArray)++p2).length)=List.map ab (([]:List ByteArray)++p2))∧(((List.map ab ([x4]:List ByteArray)).drop 0).take (([x4]:List ByteArray).length)=List.map ab ([x4]:List ByteArray)))∧(List.map ab (([]:List ByteArray)++p2)).length+(List.map ab ([x4]:List ByteArray)).length≤1099511627776)∧(AV.sl 3 0 (List.map ab (([]:List ByteArray)++p2)++List.map ab ([x4]:List ByteArray)).length=AV.sl 3 0 ((([]:List ByteArray)++p2)++([x4]:List ByteArray)).length))) <| trivial) ⟨co (s_spec_number FU p3 x4 e3) (.cons cS (.nil)),trivial⟩ ?_
  refine AX.seq ?_
  refine AX.seq ?_
  obtain ⟨v5,q5,h⟩:=bT h
  refine AX.rh [aN,aY (vi v5)] [0,1,18] [3] ⟨[(0,.bs false 2 (List.map aa p1)),(1,.sl 3 0 (((([]:List ByteArray)++p2)++([x4]:List ByteArray)).length)),(18,vb (decide (v5=0)))],[(3,.arr 1 (List.map ab (([]:List ByteArray)++p2)++List.map ab ([x4]:List ByteArray)))]⟩ (pa (⟨trivial,(congrArg (fun z=>vi z) q5)⟩:((True)∧((vi (((([]:List ByteArray)++p2)++([x4]:List ByteArray)).length:Int):AV)=(vi v5:AV)))) <| trivial) trivial ?_
  rcases ac (decide (v5=0)) with b6 | b6
  ·replace h:=am b6 h
   refine AX.cT (decide (v5=0)) b6 ?_
   refine AX.seq ?_
   obtain ⟨x6,e7,h⟩:=ak h
   refine AX.rh [aN,.call 135 [.bs false 2 (List.map aa p1)] hN (ah [] [] (vs x6) [])] [6] [] ⟨[(6,vs x6)],[]⟩ (pa (smA [.bs false 2 (List.map aa p1)]) <| trivial) ⟨co (my p1 x6 e7) (.cons cS (.nil)),trivial⟩ ?_
   refine AX.ret ?_
   refine ae (Wk.fg [6] [] ⟨[(6,vs x6)],[]⟩) ?_
   have hr:=Option.some.inj h
   subst hr
   exact ⟨_,Wk.refl _,.inr rfl,⟨[],by kernel_rfl,trivial,[vs x6],by kernel_rfl,by kernel_rfl⟩⟩
  ·replace h:=aq b6 h
   refine AX.cF (decide (v5=0)) b6 ?_
   refine AX.skip ?_
   refine AX.seq ?_
   obtain ⟨x7,e8,h⟩:=ak h
   refine AX.rh [aN,.call 32 [.sl 3 0 (((([]:List ByteArray)++p2)++([x4]:List ByteArray)).length),vs (ByteArray.mk #[124])] (aD (rho ([]++[])) [] []++[(3,.arr 1 (List.map ab ((([]:List ByteArray)++p2)++([x4]:List ByteArray))))]) (ah [] [] (vs x7) [])] [6] [] ⟨[(6,vs x7)],[]⟩ (pa (⟨rfl,zp (aH (enc:=ab) rfl (rfl):List.map ab (([]:List ByteArray)++p2)++List.map ab ([x4]:List ByteArray)=List.map ab ((([]:List ByteArray)++p2)++([x4]:List ByteArray))),trivial⟩:((([.sl 3 0 (((([]:List ByteArray)++p2)++([x4]:List ByteArray)).length),vs (ByteArray.mk #[124])]:List AV)=[.sl 3 0 (((([]:List ByteArray)++p2)++([x4]:List ByteArray)).length),vs (ByteArray.mk #[124])])∧(AO.arr 1 (List.map ab (([]:List ByteArray)++p2)++List.map ab ([x4]:List ByteArray))=AO.arr 1 (List.map ab ((([]:List ByteArray)++p2)++([x4]:List ByteArray))))∧True)) <| trivial) ⟨aA (ks:=[]) (ns:=[]) (bor:=[3]) (bobjs:=[(3,.arr 1 (List.map ab ((([]:List ByteArray)++p2)++([x4]:List ByteArray))))]) (mt ((([]:List ByteArray)++p2)++([x4]:List ByteArray)) (ByteArray.mk #[124]) x7 e8) (.cons (.c1 (.c0 (.arr rfl rfl ((rfl).trans (List.length_map ..).symm)))) (.cons cS (.nil))) (by kernel_rfl) trivial,trivial⟩ ?_
   refine AX.ret ?_
   refine ae (Wk.fg [6] [] ⟨[(6,vs x7)],[]⟩) ?_
   have hr:=Option.some.inj h
   subst hr
   exact ⟨_,Wk.refl _,.inr rfl,⟨[],by kernel_rfl,trivial,[vs x7],by kernel_rfl,by kernel_rfl⟩⟩
 ·replace h:=aq b1 h
  refine AX.cF (decide (0<p3)) b1 ?_
  refine AX.skip ?_
  refine AX.seq ?_
  refine AX.si [aN,aY (vi (p2.length:Int))] [0,1,18] [] ⟨[(0,.bs false 2 (List.map aa p1)),(1,.bs false 1 (List.map ab p2)),(18,vb (decide ((p2.length:Int)=0)))],[]⟩ (pa (⟨trivial,aS ab p2⟩:(True∧(vi ((List.map ab p2).length:Int)=vi (p2.length:Int)))) <| trivial) trivial ?_
  rcases ac (decide ((p2.length:Int)=0)) with b9 | b9
  ·replace h:=am b9 h
   refine AX.cT (decide ((p2.length:Int)=0)) b9 ?_
   refine AX.seq ?_
   obtain ⟨x8,e10,h⟩:=ak h
   refine AX.rh [aN,.call 135 [.bs false 2 (List.map aa p1)] hN (ah [] [] (vs x8) [])] [6] [] ⟨[(6,vs x8)],[]⟩ (pa (smA [.bs false 2 (List.map aa p1)]) <| trivial) ⟨co (my p1 x8 e10) (.cons cS (.nil)),trivial⟩ ?_
   refine AX.ret ?_
   refine ae (Wk.fg [6] [] ⟨[(6,vs x8)],[]⟩) ?_
   have hr:=Option.some.inj h
   subst hr
   exact ⟨_,Wk.refl _,.inr rfl,⟨[],by kernel_rfl,trivial,[vs x8],by kernel_rfl,by kernel_rfl⟩⟩
  ·replace h:=aq b9 h
   refine AX.cF (decide ((p2.length:Int)=0)) b9 ?_
   refine AX.skip ?_
   refine AX.seq ?_
   obtain ⟨x9,e11,h⟩:=ak h
   refine AX.rh [aN,.call 32 [.bs false 1 (List.map ab p2),vs (ByteArray.mk #[124])] hN (ah [] [] (vs x9) [])] [6] [] ⟨[(6,vs x9)],[]⟩ (pa (smA [.bs false 1 (List.map ab p2),vs (ByteArray.mk #[124])]) <| trivial) ⟨co (mt p2 (ByteArray.mk #[124]) x9 e11) (.cons cS (.cons cS (.nil))),trivial⟩ ?_
   refine AX.ret ?_
   refine ae (Wk.fg [6] [] ⟨[(6,vs x9)],[]⟩) ?_
   have hr:=Option.some.inj h
   subst hr
   exact ⟨_,Wk.refl _,.inr rfl,⟨[],by kernel_rfl,trivial,[vs x9],by kernel_rfl,by kernel_rfl⟩⟩

theorem gS (p1:List (ByteArray×Int)) (p2:Int) (p3:Int) (r:ByteArray) (h:dr p1 p2 p3=some r) :
  Eng.al Tryz.prog 54 [.agg [.bs false 2 (List.map aa p1),vi p2],vi p3] [] (vs r) []:=by
 unfold dr at h
 refine Eng.al.body Tryz.func54 (by kernel_rfl) rfl (by kernel_rfl) ?_
 refine AX.wkpost ?_
 refine AX.si [.auto { nk:=0 }] [1,2] [0] ⟨[(1,vi p3),(2,.pt 0 0)],[(0,.box [.bs false 2 (List.map aa p1),vi p2])]⟩ trivial trivial ?_
 refine AX.seq ?_
 obtain ⟨x4,e1,h⟩:=ak h
 refine AX.rh [aN,aN,aN,.call 99 [.bs false 2 (List.map aa p1),vi p3] (aD (rho ([]++[1])) [] []++[]) (ah [] [1] (.sl 0 0 x4.length) [.arr 2 (List.map aa x4)])] [1,2,5] [0,1] ⟨[(1,vi p3),(2,.pt 0 0),(5,.sl 1 0 x4.length)],[(0,.box [.bs false 2 (List.map aa p1),vi p2]),(1,.arr 2 (List.map aa x4))]⟩ (pa (smA [.bs false 2 (List.map aa p1),vi p3]) <| trivial) ⟨aA (ks:=[]) (ns:=[1]) (bor:=[]) (bobjs:=[]) (uX p1 p3 x4 e1) (.cons cS (.cons cS (.nil))) (by kernel_rfl) trivial,trivial⟩ ?_
 refine AX.seq ?_
 obtain ⟨x5,e2,h⟩:=ak h
 obtain ⟨x6,e3,h⟩:=ak h
 obtain ⟨x7,e4,h⟩:=ak h
 obtain ⟨x8,e5,h⟩:=ak h
 refine AX.dh mixed [aN,aN,aN,.call 101 [.sl 1 0 x4.length] (aD (rho ([]++[2])) [] []++[(1,.arr 2 (List.map aa x4))]) (ah [] [2] (.sl 0 0 x5.length) [.arr 1 (List.map ab x5)]),aN,aN,.call 102 [.sl 1 0 x4.length] (aD (rho ([]++[])) [] []++[(1,.arr 2 (List.map aa x4))]) (ah [] [] (vi x6) []),.call 59 [vi p3,vi x6] hN (ah [] [] (vi x7) []),.call 100 [.bs false 2 (List.map aa p1),.sl 2 0 x5.length,vi x7] (aD (rho ([]++[])) [] []++[(2,.arr 1 (List.map ab x5))]) (ah [] [] (vs x8) [])] [4] [] ⟨[(4,vs x8)],[]⟩ (pa (⟨rfl,rfl,trivial⟩:((([.sl 1 0 x4.length]:List AV)=[.sl 1 0 x4.length])∧(AO.arr 2 (List.map aa x4)=AO.arr 2 (List.map aa x4))∧True)) <| pa (⟨rfl,rfl,trivial⟩:((([.sl 1 0 x4.length]:List AV)=[.sl 1 0 x4.length])∧(AO.arr 2 (List.map aa x4)=AO.arr 2 (List.map aa x4))∧True)) <| pa (smA [vi p3,vi x6]) <| pa (⟨rfl,rfl,trivial⟩:((([.bs false 2 (List.map aa p1),.sl 2 0 x5.length,vi x7]:List AV)=[.bs false 2 (List.map aa p1),.sl 2 0 x5.length,vi x7])∧(AO.arr 1 (List.map ab x5)=AO.arr 1 (List.map ab x5))∧True)) <| trivial) ⟨aA (ks:=[]) (ns:=[2]) (bor:=[1]) (bobjs:=[(1,.arr 2 (List.map aa x4))]) (nf x4 x5 e2) (.cons (.c1 (.c0 (.arr rfl rfl ((rfl).trans (List.length_map ..).symm)))) (.nil)) (by kernel_rfl) trivial,aA (ks:=[]) (ns:=[]) (bor:=[1]) (bobjs:=[(1,.arr 2 (List.map aa x4))]) (fK x4 x6 e3) (.cons (.c1 (.c0 (.arr rfl rfl ((rfl).trans (List.length_map ..).symm)))) (.nil)) (by kernel_rfl) trivial,co (dI p3 x6 x7 e4) (.cons cS (.cons cS (.nil))),aA (ks:=[]) (ns:=[]) (bor:=[2]) (bobjs:=[(2,.arr 1 (List.map ab x5))]) (mq p1 x5 x7 x8 e5) (.cons cS (.cons (.c1 (.c0 (.arr rfl rfl ((rfl).trans (List.length_map ..).symm)))) (.cons cS (.nil)))) (by kernel_rfl) trivial,trivial⟩ ?_
 refine AX.ret ?_
 refine ae (Wk.fg [4] [] ⟨[(4,vs x8)],[]⟩) ?_
 have hr:=Option.some.inj h
 subst hr
 exact ⟨_,Wk.refl _,.inr rfl,⟨[],by kernel_rfl,trivial,[vs x8],by kernel_rfl,by kernel_rfl⟩⟩

theorem sG (p1:List (ByteArray×Int)) (p2:Int) (p3:Int) (r:ByteArray) (h:gu p1 p2 p3=some r) :
  Eng.al Tryz.prog 51 [.agg [.bs false 2 (List.map aa p1),vi p2],vi p3] [] (vs r) []:=by
 unfold gu at h
 refine Eng.al.body Tryz.func51 (by kernel_rfl) rfl (by kernel_rfl) ?_
 refine AX.wkpost ?_
 refine AX.si [.auto { nk:=0 }] [1,2] [0] ⟨[(1,vi p3),(2,.pt 0 0)],[(0,.box [.bs false 2 (List.map aa p1),vi p2])]⟩ trivial trivial ?_
 refine AX.seq ?_
 obtain ⟨x4,e1,h⟩:=ak h
 refine AX.rh [aN,aN,.call 96 [.agg [.bs false 2 (List.map aa p1),vi p2],vi p3] hN (ah [] [] (.tup [vi x4.1,vi x4.2]) [])] [2,5,6] [0] ⟨[(2,.pt 0 0),(5,vi x4.1),(6,vi x4.2)],[(0,.box [.bs false 2 (List.map aa p1),vi p2])]⟩ (pa (smA [.agg [.bs false 2 (List.map aa p1),vi p2],vi p3]) <| trivial) ⟨co (xi p1 p2 p3 x4 e1) (.cons (.c1 (.agg (.cons (.same _ (by kernel_rfl) (by kernel_rfl)) (.cons (.same _ (by kernel_rfl) (by kernel_rfl)) (.nil))))) (.cons cS (.nil))),trivial⟩ ?_
 refine AX.seq ?_
 refine AX.si [] [2,5,13] [0] ⟨[(2,.pt 0 0),(5,vi x4.1),(13,vi x4.2)],[(0,.box [.bs false 2 (List.map aa p1),vi p2])]⟩ trivial trivial ?_
 refine AX.block ?_
 refine AX.si [] [2,5,13,14] [0] ⟨[(2,.pt 0 0),(5,vi x4.1),(13,vi x4.2),(14,vb (decide (x4.2=0)))],[(0,.box [.bs false 2 (List.map aa p1),vi p2])]⟩ trivial trivial ?_
 rcases ac (decide (x4.2=0)) with b2 | b2
 ·replace h:=am b2 h
  refine AX.cT (decide (x4.2=0)) b2 ?_
  refine AX.seq ?_
  obtain ⟨x5,e3,h⟩:=ak h
  refine AX.rh [aN,aN,.call 54 [.agg [.bs false 2 (List.map aa p1),vi p2],vi x4.1] hN (ah [] [] (vs x5) [])] [4] [] ⟨[(4,vs x5)],[]⟩ (pa (smA [.agg [.bs false 2 (List.map aa p1),vi p2],vi x4.1]) <| trivial) ⟨co (gS p1 p2 x4.1 x5 e3) (.cons (.c1 (.agg (.cons (.same _ (by kernel_rfl) (by kernel_rfl)) (.cons (.same _ (by kernel_rfl) (by kernel_rfl)) (.nil))))) (.cons cS (.nil))),trivial⟩ ?_
  refine AX.ret ?_
  refine ae (Wk.fg [4] [] ⟨[(4,vs x5)],[]⟩) ?_
  have hr:=Option.some.inj h
  subst hr
  exact ⟨_,Wk.refl _,.inr rfl,⟨[],by kernel_rfl,trivial,[vs x5],by kernel_rfl,by kernel_rfl⟩⟩
 ·replace h:=aq b2 h
  refine AX.cF (decide (x4.2=0)) b2 ?_
  refine AX.si [] [5,19] [] ⟨[(5,vi x4.1),(19,vb (decide (x4.2=1)))],[]⟩ trivial trivial ?_
  rcases ac (decide (x4.2=1)) with b4 | b4
  ·replace h:=am b4 h
   refine AX.cT (decide (x4.2=1)) b4 ?_
   refine AX.seq ?_
   obtain ⟨x6,e5,h⟩:=ak h
   obtain ⟨g6,h⟩:=aw h
   refine AX.rh [aN,.call 53 [vi x4.1] hN (ah [] [] (vs x6) [])] [4] [] ⟨[(4,vs ((ByteArray.mk #[110,117,109,98,101,114,32])++x6))],[]⟩ (pa (smA [vi x4.1]) <| pa g6 <| trivial) ⟨co (s_spec_number FU x4.1 x6 e5) (.cons cS (.nil)),trivial⟩ ?_
   refine AX.ret ?_
   refine ae (Wk.fg [4] [] ⟨[(4,vs ((ByteArray.mk #[110,117,109,98,101,114,32])++x6))],[]⟩) ?_
   have hr:=Option.some.inj h
   subst hr
   exact ⟨_,Wk.refl _,.inr rfl,⟨[],by kernel_rfl,trivial,[vs ((ByteArray.mk #[110,117,109,98,101,114,32])++x6)],by kernel_rfl,by kernel_rfl⟩⟩
  ·replace h:=aq b4 h
   refine AX.cF (decide (x4.2=1)) b4 ?_
   refine AX.skip ?_
   refine AX.si [] [4] [] ⟨[(4,vs (ByteArray.mk #[119,114,111,110,103]))],[]⟩ trivial trivial ?_
   refine AX.ret ?_
   refine ae (Wk.fg [4] [] ⟨[(4,vs (ByteArray.mk #[119,114,111,110,103]))],[]⟩) ?_
   have hr:=Option.some.inj h
   subst hr
   exact ⟨_,Wk.refl _,.inr rfl,⟨[],by kernel_rfl,trivial,[vs (ByteArray.mk #[119,114,111,110,103])],by kernel_rfl,by kernel_rfl⟩⟩

theorem su (p1:List (ByteArray×Int)) (p2:ByteArray) (r:Int) (h:gD p1 p2=some r) :
  Eng.al Tryz.prog 97 [.bs false 2 (List.map aa p1),vs p2] [] (vi r) []:=by
 unfold gD at h
 refine Eng.al.body Tryz.func97 (by kernel_rfl) rfl (by kernel_rfl) ?_
 refine AX.wkpost ?_
 refine AX.si [] [0,1] [] ⟨[(0,.bs false 2 (List.map aa p1)),(1,vs p2)],[]⟩ trivial trivial ?_
 refine AX.seq ?_
 obtain ⟨x3,e1,h⟩:=ak h
 refine AX.rh [aN,aN,.call 106 [.bs false 2 (List.map aa p1),vs p2] hN (ah [] [] (vi x3) [])] [0,1,5] [] ⟨[(0,.bs false 2 (List.map aa p1)),(1,vs p2),(5,vi x3)],[]⟩ (pa (smA [.bs false 2 (List.map aa p1),vs p2]) <| trivial) ⟨co (ne p1 p2 x3 e1) (.cons cS (.cons cS (.nil))),trivial⟩ ?_
 refine AX.seq ?_
 refine AX.si [] [0,1,5,10] [] ⟨[(0,.bs false 2 (List.map aa p1)),(1,vs p2),(5,vi x3),(10,vb (decide (0≤x3)))],[]⟩ trivial trivial ?_
 rcases ac (decide (0≤x3)) with b2 | b2
 ·replace h:=am b2 h
  refine AX.cT (decide (0≤x3)) b2 ?_
  refine AX.seq ?_
  obtain ⟨g3,h⟩:=aw h
  refine AX.rh [aN,aN,aY (.be 2 (aa (gt p1 x3)) 0)] [4] [] ⟨[(4,vi ((gt p1 x3).2))],[]⟩ (pa (aJ aa p1 x3 2 g3) <| trivial) trivial ?_
  refine AX.ret ?_
  refine ae (Wk.fg [4] [] ⟨[(4,vi ((gt p1 x3).2))],[]⟩) ?_
  have hr:=Option.some.inj h
  subst hr
  exact ⟨_,Wk.refl _,.inr rfl,⟨[],by kernel_rfl,trivial,[vi ((gt p1 x3).2)],by kernel_rfl,by kernel_rfl⟩⟩
 ·replace h:=aq b2 h
  refine AX.cF (decide (0≤x3)) b2 ?_
  refine AX.skip ?_
  refine AX.seq ?_
  obtain ⟨x4,e4,h⟩:=ak h
  refine AX.rh [aN,.call 95 [vs p2] hN (ah [] [] (vi x4) [])] [4] [] ⟨[(4,vi x4)],[]⟩ (pa (smA [vs p2]) <| trivial) ⟨co (gK p2 x4 e4) (.cons cS (.nil)),trivial⟩ ?_
  refine AX.ret ?_
  refine ae (Wk.fg [4] [] ⟨[(4,vi x4)],[]⟩) ?_
  have hr:=Option.some.inj h
  subst hr
  exact ⟨_,Wk.refl _,.inr rfl,⟨[],by kernel_rfl,trivial,[vi x4],by kernel_rfl,by kernel_rfl⟩⟩

theorem kG (p1:List (ByteArray×Int)) (p2:Int) (p3:Int) (r:Bool) (h:eN p1 p2 p3=some r) :
  Eng.al Tryz.prog 98 [.agg [.bs false 2 (List.map aa p1),vi p2],vi p3] [] (vb r) []:=by
 unfold eN at h
 refine Eng.al.body Tryz.func98 (by kernel_rfl) rfl (by kernel_rfl) ?_
 refine AX.wkpost ?_
 refine AX.si [.auto { nk:=0 }] [1,2] [0] ⟨[(1,vi p3),(2,.pt 0 0)],[(0,.box [.bs false 2 (List.map aa p1),vi p2])]⟩ trivial trivial ?_
 refine AX.seq ?_
 obtain ⟨x4,e1,h⟩:=ak h
 rcases ac (x4) with b2 | b2
 ·replace h:=am b2 h
  obtain ⟨x5,e3,h⟩:=ak h
  rcases ac (x5) with b4 | b4
  ·replace h:=am b4 h
   rcases ac (decide (p2=3)) with b5 | b5
   ·replace h:=am b5 h
    refine AX.rh [aN,.call 66 [.agg [.bs false 2 (List.map aa p1),vi p2]] hN (ah [] [] (vb true) []),aN,aN,.call 50 [vi p3,vi 0,vi 4095] hN (ah [] [] (vb true) []),aN,aN,aN,aN,aY (vb true)] [4] [] ⟨[(4,vb true)],[]⟩ (pa (smA [.agg [.bs false 2 (List.map aa p1),vi p2]]) <| pa (smA [vi p3,vi 0,vi 4095]) <| pa (pb (cb b5)) <| trivial) ⟨co (show Eng.al Tryz.prog 66 [.agg [.bs false 2 (List.map aa p1),vi p2]] [] (vb true) [] from by have q:=gc p1 p2 x4 e1;rw [b2] at q;exact q) (.cons (.c1 (.agg (.cons (.same _ (by kernel_rfl) (by kernel_rfl)) (.cons (.same _ (by kernel_rfl) (by kernel_rfl)) (.nil))))) (.nil)),co (show Eng.al Tryz.prog 50 [vi p3,vi 0,vi 4095] [] (vb true) [] from by have q:=cU p3 0 4095 x5 e3;rw [b4] at q;exact q) (.cons cS (.cons cS (.cons cS (.nil)))),trivial⟩ ?_
    refine AX.ret ?_
    refine ae (Wk.fg [4] [] ⟨[(4,vb true)],[]⟩) ?_
    have hr:=Option.some.inj h
    subst hr
    exact ⟨_,Wk.refl _,.inr rfl,⟨[],by kernel_rfl,trivial,[vb true],by kernel_rfl,by kernel_rfl⟩⟩
   ·replace h:=aq b5 h
    obtain ⟨x6,e6,h⟩:=ak h
    obtain ⟨x7,e7,h⟩:=ak h
    refine AX.rh [aN,.call 66 [.agg [.bs false 2 (List.map aa p1),vi p2]] hN (ah [] [] (vb true) []),aN,aN,.call 50 [vi p3,vi 0,vi 4095] hN (ah [] [] (vb true) []),aN,aN,aN,aN,aY (vb false),aN,aN,aN,aN,.call 102 [.bs false 2 (List.map aa p1)] hN (ah [] [] (vi x6) []),.call 59 [vi p3,vi x6] hN (ah [] [] (vi x7) [])] [4] [] ⟨[(4,vb (decide (x7=0)))],[]⟩ (pa (smA [.agg [.bs false 2 (List.map aa p1),vi p2]]) <| pa (smA [vi p3,vi 0,vi 4095]) <| pa (pb (cb b5)) <| pa (smA [.bs false 2 (List.map aa p1)]) <| pa (smA [vi p3,vi x6]) <| trivial) ⟨co (show Eng.al Tryz.prog 66 [.agg [.bs false 2 (List.map aa p1),vi p2]] [] (vb true) [] from by have q:=gc p1 p2 x4 e1;rw [b2] at q;exact q) (.cons (.c1 (.agg (.cons (.same _ (by kernel_rfl) (by kernel_rfl)) (.cons (.same _ (by kernel_rfl) (by kernel_rfl)) (.nil))))) (.nil)),co (show Eng.al Tryz.prog 50 [vi p3,vi 0,vi 4095] [] (vb true) [] from by have q:=cU p3 0 4095 x5 e3;rw [b4] at q;exact q) (.cons cS (.cons cS (.cons cS (.nil)))),co (fK p1 x6 e6) (.cons cS (.nil)),co (dI p3 x6 x7 e7) (.cons cS (.cons cS (.nil))),trivial⟩ ?_
    refine AX.ret ?_
    refine ae (Wk.fg [4] [] ⟨[(4,vb (decide (x7=0)))],[]⟩) ?_
    have hr:=Option.some.inj h
    subst hr
    exact ⟨_,Wk.refl _,.inr rfl,⟨[],by kernel_rfl,trivial,[vb (decide (x7=0))],by kernel_rfl,by kernel_rfl⟩⟩
  ·replace h:=aq b4 h
   refine AX.rh [aN,.call 66 [.agg [.bs false 2 (List.map aa p1),vi p2]] hN (ah [] [] (vb true) []),aN,aN,.call 50 [vi p3,vi 0,vi 4095] hN (ah [] [] (vb false) [])] [4] [] ⟨[(4,vb false)],[]⟩ (pa (smA [.agg [.bs false 2 (List.map aa p1),vi p2]]) <| pa (smA [vi p3,vi 0,vi 4095]) <| trivial) ⟨co (show Eng.al Tryz.prog 66 [.agg [.bs false 2 (List.map aa p1),vi p2]] [] (vb true) [] from by have q:=gc p1 p2 x4 e1;rw [b2] at q;exact q) (.cons (.c1 (.agg (.cons (.same _ (by kernel_rfl) (by kernel_rfl)) (.cons (.same _ (by kernel_rfl) (by kernel_rfl)) (.nil))))) (.nil)),co (show Eng.al Tryz.prog 50 [vi p3,vi 0,vi 4095] [] (vb false) [] from by have q:=cU p3 0 4095 x5 e3;rw [b4] at q;exact q) (.cons cS (.cons cS (.cons cS (.nil)))),trivial⟩ ?_
   refine AX.ret ?_
   refine ae (Wk.fg [4] [] ⟨[(4,vb false)],[]⟩) ?_
   have hr:=Option.some.inj h
   subst hr
   exact ⟨_,Wk.refl _,.inr rfl,⟨[],by kernel_rfl,trivial,[vb false],by kernel_rfl,by kernel_rfl⟩⟩
 ·replace h:=aq b2 h
  refine AX.rh [aN,.call 66 [.agg [.bs false 2 (List.map aa p1),vi p2]] hN (ah [] [] (vb false) [])] [4] [] ⟨[(4,vb false)],[]⟩ (pa (smA [.agg [.bs false 2 (List.map aa p1),vi p2]]) <| trivial) ⟨co (show Eng.al Tryz.prog 66 [.agg [.bs false 2 (List.map aa p1),vi p2]] [] (vb false) [] from by have q:=gc p1 p2 x4 e1;rw [b2] at q;exact q) (.cons (.c1 (.agg (.cons (.same _ (by kernel_rfl) (by kernel_rfl)) (.cons (.same _ (by kernel_rfl) (by kernel_rfl)) (.nil))))) (.nil)),trivial⟩ ?_
  refine AX.ret ?_
  refine ae (Wk.fg [4] [] ⟨[(4,vb false)],[]⟩) ?_
  have hr:=Option.some.inj h
  subst hr
  exact ⟨_,Wk.refl _,.inr rfl,⟨[],by kernel_rfl,trivial,[vb false],by kernel_rfl,by kernel_rfl⟩⟩

theorem oB (p1:List (ByteArray×Int)) (p2:Int) (x4:List ByteArray) (n:Nat) (g:Int×Int) (out:Unit ⊕ Int) (h:cf p1 p2 x4 n g.1 g.2=some out) :
  AX Tryz.prog 34 0 (codeAt [1,1,1,0,1,1] (aU Tryz.f52)) ((fun g:Int×Int=>(⟨[(2,.pt 0 0),(5,.sl 1 0 x4.length),(6,vi g.1),(7,vi g.2)],[(0,.box [.bs false 2 (List.map aa p1),vi p2]),(1,.arr 1 (List.map ab x4))]⟩:S)) g) (fun ex s=>(∃ o:Unit,out=Sum.inl o∧ex=.ret∧s=⟨[(4,vi (-1))],[]⟩)∨(∃ o:Int,out=Sum.inr o∧ex=.exit 0∧s=⟨[(2,.pt 0 0),(6,vi o)],[(0,.box [.bs false 2 (List.map aa p1),vi p2])]⟩)):=by
 refine AX.wkpost ?_
 refine AX.loop (G:=Nat×(Int×Int)) (fun q=>(fun g:Int×Int=>(⟨[(2,.pt 0 0),(5,.sl 1 0 x4.length),(6,vi g.1),(7,vi g.2)],[(0,.box [.bs false 2 (List.map aa p1),vi p2]),(1,.arr 1 (List.map ab x4))]⟩:S)) q.2) (fun q=>cf p1 p2 x4 q.1 q.2.1 q.2.2=some out) (fun q=>q.1) (n,g) h (Wk.refl _) ?_
 clear h
 rintro ⟨fu,v5,v6⟩ h
 cases fu with
 | zero=>cases h
 | succ fu =>
  rw [cf] at h
  refine AX.seq ?_
  refine AX.si [] [2,5,6,7,14] [0,1] ⟨[(2,.pt 0 0),(5,.sl 1 0 x4.length),(6,vi v5),(7,vi v6),(14,vb (decide (v6<(x4.length:Int))))],[(0,.box [.bs false 2 (List.map aa p1),vi p2]),(1,.arr 1 (List.map ab x4))]⟩ trivial trivial ?_
  rcases ac (decide (v6<(x4.length:Int))) with b2 | b2
  ·replace h:=am b2 h
   refine AX.cT (decide (v6<(x4.length:Int))) b2 ?_
   refine AX.skip ?_
   refine AX.seq ?_
   refine AX.block ?_
   refine AX.seq ?_
   obtain ⟨g3,h⟩:=aw h
   obtain ⟨x7,e4,h⟩:=ak h
   refine AX.dh mixed [aN,aN,aN,aN,aN,aY (vs (gt x4 v6)),.call 97 [.bs false 2 (List.map aa p1),vs (gt x4 v6)] hN (ah [] [] (vi x7) [])] [2,5,6,7,8] [0,1] ⟨[(2,.pt 0 0),(5,.sl 1 0 x4.length),(6,vi v5),(7,vi v6),(8,vi x7)],[(0,.box [.bs false 2 (List.map aa p1),vi p2]),(1,.arr 1 (List.map ab x4))]⟩ (pa g3 <| pa (⟨trivial,(congrArg (fun z:List Value=>AV.v (z.getD 0 undef)) (au (enc:=ab) rfl g3))⟩:(True∧(AV.v (((List.map ab x4).getD (0+v6.toNat) []).getD 0 undef)=vs (gt x4 v6)))) <| pa (smA [.bs false 2 (List.map aa p1),vs (gt x4 v6)]) <| trivial) ⟨co (su p1 (gt x4 v6) x7 e4) (.cons cS (.cons cS (.nil))),trivial⟩ ?_
   refine AX.seq ?_
   refine AX.si [] [2,5,6,7,8,25] [0,1] ⟨[(2,.pt 0 0),(5,.sl 1 0 x4.length),(6,vi v5),(7,vi v6),(8,vi x7),(25,vb (decide (x7<0)))],[(0,.box [.bs false 2 (List.map aa p1),vi p2]),(1,.arr 1 (List.map ab x4))]⟩ trivial trivial ?_
   rcases ac (decide (x7<0)) with b5 | b5
   ·replace h:=am b5 h
    refine AX.cT (decide (x7<0)) b5 ?_
    refine AX.si [] [4] [] ⟨[(4,vi (-1))],[]⟩ trivial trivial ?_
    refine AX.ret ?_
    refine ae (Wk.fg [4] [] ⟨[(4,vi (-1))],[]⟩) ?_
    have hr:=Option.some.inj h
    subst hr
    exact ⟨_,Wk.refl _,.inl ⟨(),rfl,rfl,rfl⟩⟩
   ·replace h:=aq b5 h
    refine AX.cF (decide (x7<0)) b5 ?_
    refine AX.skip ?_
    obtain ⟨x8,e6,h⟩:=ak h
    refine AX.rh [aN,aN,.call 57 [vi v5,vi x7] hN (ah [] [] (vi x8) [])] [2,5,6,7] [0,1] ⟨[(2,.pt 0 0),(5,.sl 1 0 x4.length),(6,vi x8),(7,vi v6)],[(0,.box [.bs false 2 (List.map aa p1),vi p2]),(1,.arr 1 (List.map ab x4))]⟩ (pa (smA [vi v5,vi x7]) <| trivial) ⟨co (kZ v5 x7 x8 e6) (.cons cS (.cons cS (.nil))),trivial⟩ ?_
    refine AX.rh [aN,.auto { raw:=true }] [2,5,6,7] [0,1] ⟨[(2,.pt 0 0),(5,.sl 1 0 x4.length),(6,vi x8),(7,vi (IntKind.wrap .i64 (v6+1)))],[(0,.box [.bs false 2 (List.map aa p1),vi p2]),(1,.arr 1 (List.map ab x4))]⟩ trivial trivial ?_
    refine ⟨(fu,(x8,IntKind.wrap .i64 (v6+1))),h,Nat.lt_succ_self _,?_⟩
    refine Wk.trans (Wk.fg [2,5,6,7] [0,1] ⟨[(2,.pt 0 0),(5,.sl 1 0 x4.length),(6,vi x8),(7,vi (IntKind.wrap .i64 (v6+1)))],[(0,.box [.bs false 2 (List.map aa p1),vi p2]),(1,.arr 1 (List.map ab x4))]⟩) ?_
    exact Wk.refl _
  ·replace h:=aq b2 h
   refine AX.cF (decide (v6<(x4.length:Int))) b2 ?_
   refine AX.exit ?_
   refine ae (Wk.fg [2,6] [0] ⟨[(2,.pt 0 0),(6,vi v5)],[(0,.box [.bs false 2 (List.map aa p1),vi p2])]⟩) ?_
   have hr:=Option.some.inj h
   subst hr
   exact ⟨_,Wk.refl _,.inr ⟨v5,rfl,rfl,rfl⟩⟩

theorem dk (p1:List (ByteArray×Int)) (p2:Int) (p3:ByteArray) (r:Int) (h:bA p1 p2 p3=some r) :
  Eng.al Tryz.prog 52 [.agg [.bs false 2 (List.map aa p1),vi p2],vs p3] [] (vi r) []:=by
 unfold bA at h
 refine Eng.al.body Tryz.func52 (by kernel_rfl) rfl (by kernel_rfl) ?_
 refine AX.wkpost ?_
 refine AX.si [.auto { nk:=0 }] [1,2] [0] ⟨[(1,vs p3),(2,.pt 0 0)],[(0,.box [.bs false 2 (List.map aa p1),vi p2])]⟩ trivial trivial ?_
 refine AX.seq ?_
 obtain ⟨x4,e1,h⟩:=ak h
 refine AX.rh [aN,.call 48 [vs p3,.v (.int .u8 124)] (aD (rho ([]++[1])) [] []++[]) (ah [] [1] (.sl 0 0 x4.length) [.arr 1 (List.map ab x4)])] [2,5] [0,1] ⟨[(2,.pt 0 0),(5,.sl 1 0 x4.length)],[(0,.box [.bs false 2 (List.map aa p1),vi p2]),(1,.arr 1 (List.map ab x4))]⟩ (pa (smA [vs p3,.v (.int .u8 124)]) <| trivial) ⟨aA (ks:=[]) (ns:=[1]) (bor:=[]) (bobjs:=[]) (iO p3 124 x4 e1) (.cons cS (.cons cS (.nil))) (by kernel_rfl) trivial,trivial⟩ ?_
 refine AX.si [] [2,5,6] [0,1] ⟨[(2,.pt 0 0),(5,.sl 1 0 x4.length),(6,vi 0)],[(0,.box [.bs false 2 (List.map aa p1),vi p2]),(1,.arr 1 (List.map ab x4))]⟩ trivial trivial ?_
 refine AX.seq ?_
 refine AX.si [] [2,5,6,7] [0,1] ⟨[(2,.pt 0 0),(5,.sl 1 0 x4.length),(6,vi 0),(7,vi 0)],[(0,.box [.bs false 2 (List.map aa p1),vi p2]),(1,.arr 1 (List.map ab x4))]⟩ trivial trivial ?_
 refine AX.block ?_
 obtain ⟨x9,e7,h⟩:=ak h
 refine AX.wk (Wk.fg [2,5,6,7] [0,1] ⟨[(2,.pt 0 0),(5,.sl 1 0 x4.length),(6,vi 0),(7,vi 0)],[(0,.box [.bs false 2 (List.map aa p1),vi p2]),(1,.arr 1 (List.map ab x4))]⟩) ?_
 refine AX.mono (oB p1 p2 x4 FU (0,0) x9 e7) ?_
 rintro _ _ (⟨x10,rfl,rfl,rfl⟩ | ⟨x11,rfl,rfl,rfl⟩)
 ·replace h:=eL h
  refine ae (Wk.fg [4] [] ⟨[(4,vi (-1))],[]⟩) ?_
  have hr:=Option.some.inj h
  subst hr
  exact ⟨_,Wk.refl _,.inr rfl,⟨[],by kernel_rfl,trivial,[vi (-1)],by kernel_rfl,by kernel_rfl⟩⟩
 ·replace h:=eU h
  refine AX.seq ?_
  refine AX.seq ?_
  obtain ⟨x12,e8,h⟩:=ak h
  refine AX.rh [aN,aN,.call 98 [.agg [.bs false 2 (List.map aa p1),vi p2],vi x11] hN (ah [] [] (vb x12) [])] [6,32] [] ⟨[(6,vi x11),(32,vb (!x12))],[]⟩ (pa (smA [.agg [.bs false 2 (List.map aa p1),vi p2],vi x11]) <| trivial) ⟨co (kG p1 p2 x11 x12 e8) (.cons (.c1 (.agg (.cons (.same _ (by kernel_rfl) (by kernel_rfl)) (.cons (.same _ (by kernel_rfl) (by kernel_rfl)) (.nil))))) (.cons cS (.nil))),trivial⟩ ?_
  rcases ac ((!x12)) with b9 | b9
  ·replace h:=am b9 h
   refine AX.cT ((!x12)) b9 ?_
   refine AX.si [] [4] [] ⟨[(4,vi (-1))],[]⟩ trivial trivial ?_
   refine AX.ret ?_
   refine ae (Wk.fg [4] [] ⟨[(4,vi (-1))],[]⟩) ?_
   have hr:=Option.some.inj h
   subst hr
   exact ⟨_,Wk.refl _,.inr rfl,⟨[],by kernel_rfl,trivial,[vi (-1)],by kernel_rfl,by kernel_rfl⟩⟩
  ·replace h:=aq b9 h
   refine AX.cF ((!x12)) b9 ?_
   refine AX.skip ?_
   refine AX.si [] [4] [] ⟨[(4,vi x11)],[]⟩ trivial trivial ?_
   refine AX.ret ?_
   refine ae (Wk.fg [4] [] ⟨[(4,vi x11)],[]⟩) ?_
   have hr:=Option.some.inj h
   subst hr
   exact ⟨_,Wk.refl _,.inr rfl,⟨[],by kernel_rfl,trivial,[vi x11],by kernel_rfl,by kernel_rfl⟩⟩

end Go.Eng
