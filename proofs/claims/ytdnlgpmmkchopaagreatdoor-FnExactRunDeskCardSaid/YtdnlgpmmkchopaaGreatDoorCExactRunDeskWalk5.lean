/- What is proved here: each function keeps to its model, whatever its arguments, wherever the model has an answer. Printed by gen.py. -/
import Derived.Test.YtdnlgpmmkchopaaGreatDoorCExactRunDeskWalk4
import Derived.Test.YtdnlgpmmkchopaaGreatDoorProg
import Derived.Test.YtdnlgpmmkchopaaGreatDoorCExactRunDeskShelf
import Derived.KernelRfl
set_option linter.unusedVariables false
set_option linter.unusedSimpArgs false
namespace Go.Eng
open Go Go.Proofs

theorem qX (p1:List (ByteArray×Bool×Int)) (p2:Int) (r:(List (ByteArray×Int))×Int×Bool) (h:fZ p1 p2=some r) :
  Eng.al Tryz.prog 36 [.bs false 3 (List.map ag p1),vi p2] [] (.tup [.agg [.sl 0 0 r.1.length,vi r.2.1],vb r.2.2]) [.arr 2 (List.map aa r.1)]:=by
 unfold fZ at h
 refine Eng.al.body Tryz.func36 (by kernel_rfl) rfl (by kernel_rfl) ?_
 refine AX.wkpost ?_
 refine AX.si [.auto { nk:=0 }] [0,1,4] [0] ⟨[(0,.bs false 3 (List.map ag p1)),(1,vi p2),(4,.pt 0 0)],[(0,.box [.v (.slice none 0 0),vi 0])]⟩ trivial trivial ?_
 refine AX.seq ?_
 refine AX.si [aN,aY (vi (p1.length:Int))] [0,1,4,10] [0] ⟨[(0,.bs false 3 (List.map ag p1)),(1,vi p2),(4,.pt 0 0),(10,vb (decide (12<(p1.length:Int))))],[(0,.box [.v (.slice none 0 0),vi 0])]⟩ (pa (⟨trivial,aS ag p1⟩:(True∧(vi ((List.map ag p1).length:Int)=vi (p1.length:Int)))) <| trivial) trivial ?_
 rcases ac (decide (12<(p1.length:Int))) with b1 | b1
 ·replace h:=am b1 h
  refine AX.cT (decide (12<(p1.length:Int))) b1 ?_
  refine AX.si [] [4,5] [0] ⟨[(4,.pt 0 0),(5,vb false)],[(0,.box [.v (.slice none 0 0),vi 0])]⟩ trivial trivial ?_
  refine AX.ret ?_
  refine ae (Wk.matB 0 0 1 2 (cs:=[.v (.slice none 0 0),vi 0]) (by kernel_rfl) (by kernel_rfl) (Nat.le_of_ble_eq_true (by kernel_rfl)) (by kernel_rfl) (by decide) rfl) ?_
  refine ae (Wk.fg [4,5] [0,1] ⟨[(4,.pt 0 0),(5,vb false)],[(0,.box [.sl 1 0 (([]:List (ByteArray×Int)).length),vi 0]),(1,.arr 2 (List.map aa ([]:List (ByteArray×Int))))]⟩) ?_
  have hr:=Option.some.inj h
  subst hr
  exact ⟨_,Wk.refl _,.inr rfl,⟨[1],by kernel_rfl,⟨rfl,trivial⟩,[.agg [.sl 1 0 (([]:List (ByteArray×Int)).length),vi 0],vb false],by kernel_rfl,by kernel_rfl⟩⟩
 ·replace h:=aq b1 h
  refine AX.cF (decide (12<(p1.length:Int))) b1 ?_
  refine AX.skip ?_
  refine AX.seq ?_
  obtain ⟨x3,e2,h⟩:=ak h
  refine AX.rh [aN,.call 71 [.bs false 3 (List.map ag p1),.fn 72 []] (aD (rho ([]++[1])) [] []++[]) (ah [] [1] (.tup [.sl 0 0 x3.1.length,vb x3.2]) [.arr 2 (List.map aa x3.1)])] [1,4,6,7] [0,1] ⟨[(1,vi p2),(4,.pt 0 0),(6,.sl 1 0 x3.1.length),(7,vb x3.2)],[(0,.box [.v (.slice none 0 0),vi 0]),(1,.arr 2 (List.map aa x3.1))]⟩ (pa (smA [.bs false 3 (List.map ag p1),.fn 72 []]) <| trivial) ⟨aA (ks:=[]) (ns:=[1]) (bor:=[]) (bobjs:=[]) (lR p1 x3 e2) (.cons cS (.cons (.fn (.nil)) (.nil))) (by kernel_rfl) trivial,trivial⟩ ?_
  refine AX.seq ?_
  obtain ⟨x4,e3,h⟩:=ak h
  refine AX.rh [aN,aN,aN,.call 75 [.sl 1 0 x3.1.length,vi p2,vb x3.2] (aD (rho ([]++[2])) [] []++[(1,.arr 2 (List.map aa x3.1))]) (ah [] [2] (.tup [.agg [.sl 0 0 x4.1.length,vi x4.2.1],vb x4.2.2]) [.arr 2 (List.map aa x4.1)])] [4,5] [0,2] ⟨[(4,.pt 0 0),(5,vb x4.2.2)],[(0,.box [.sl 2 0 x4.1.length,vi x4.2.1]),(2,.arr 2 (List.map aa x4.1))]⟩ (pa (⟨rfl,rfl,trivial⟩:((([.sl 1 0 x3.1.length,vi p2,vb x3.2]:List AV)=[.sl 1 0 x3.1.length,vi p2,vb x3.2])∧(AO.arr 2 (List.map aa x3.1)=AO.arr 2 (List.map aa x3.1))∧True)) <| trivial) ⟨aA (ks:=[]) (ns:=[2]) (bor:=[1]) (bobjs:=[(1,.arr 2 (List.map aa x3.1))]) (vd x3.1 p2 x3.2 x4 e3) (.cons (.c1 (.c0 (.arr rfl rfl ((rfl).trans (List.length_map ..).symm)))) (.cons cS (.cons cS (.nil)))) (by kernel_rfl) trivial,trivial⟩ ?_
  refine AX.ret ?_
  refine ae (Wk.swap 1 2 (Nat.le_of_ble_eq_true (by kernel_rfl)) (Nat.le_of_ble_eq_true (by kernel_rfl)) rfl) ?_
  refine ae (Wk.fg [4,5] [0,1] ⟨[(4,.pt 0 0),(5,vb x4.2.2)],[(0,.box [.sl 1 0 x4.1.length,vi x4.2.1]),(1,.arr 2 (List.map aa x4.1))]⟩) ?_
  have hr:=Option.some.inj h
  subst hr
  exact ⟨_,Wk.refl _,.inr rfl,⟨[1],by kernel_rfl,⟨rfl,trivial⟩,[.agg [.sl 1 0 x4.1.length,vi x4.2.1],vb x4.2.2],by kernel_rfl,by kernel_rfl⟩⟩

theorem rp (p1:ByteArray) (r:(List (ByteArray×Int))×Int×Bool) (h:gg p1=some r) :
  Eng.al Tryz.prog 20 [vs p1] [] (.tup [.agg [.sl 0 0 r.1.length,vi r.2.1],vb r.2.2]) [.arr 2 (List.map aa r.1)]:=by
 unfold gg at h
 refine Eng.al.body Tryz.func20 (by kernel_rfl) rfl (by kernel_rfl) ?_
 refine AX.wkpost ?_
 refine AX.si [.auto { nk:=0 }] [0,2] [0] ⟨[(0,vs p1),(2,.pt 0 0)],[(0,.box [.v (.slice none 0 0),vi 0])]⟩ trivial trivial ?_
 refine AX.seq ?_
 obtain ⟨x2,e1,h⟩:=ak h
 refine AX.rh [aN,.call 33 [vs p1] (aD (rho ([]++[1])) [] []++[]) (ah [] [1] (.tup [vs x2.1,.sl 0 0 x2.2.1.length,vb x2.2.2]) [.arr 3 (List.map ag x2.2.1)])] [2,4,5,6] [0,1] ⟨[(2,.pt 0 0),(4,vs x2.1),(5,.sl 1 0 x2.2.1.length),(6,vb x2.2.2)],[(0,.box [.v (.slice none 0 0),vi 0]),(1,.arr 3 (List.map ag x2.2.1))]⟩ (pa (smA [vs p1]) <| trivial) ⟨aA (ks:=[]) (ns:=[1]) (bor:=[]) (bobjs:=[]) (rm p1 x2 e1) (.cons cS (.nil)) (by kernel_rfl) trivial,trivial⟩ ?_
 refine AX.seq ?_
 obtain ⟨x3,e2,h⟩:=ak h
 refine AX.rh [aN,.call 34 [vs x2.1,vs (ByteArray.mk #[102,108,97,103,32])] hN (ah [] [] (.tup [vs x3.1,vb x3.2]) [])] [2,5,6,7,8] [0,1] ⟨[(2,.pt 0 0),(5,.sl 1 0 x2.2.1.length),(6,vb x2.2.2),(7,vs x3.1),(8,vb x3.2)],[(0,.box [.v (.slice none 0 0),vi 0]),(1,.arr 3 (List.map ag x2.2.1))]⟩ (pa (smA [vs x2.1,vs (ByteArray.mk #[102,108,97,103,32])]) <| trivial) ⟨co (oE x2.1 (ByteArray.mk #[102,108,97,103,32]) x3 e2) (.cons cS (.cons cS (.nil))),trivial⟩ ?_
 refine AX.seq ?_
 obtain ⟨x4,e3,h⟩:=ak h
 refine AX.rh [aY (.bs false 1 (List.map ab boundWords)),aN,.call 35 [.bs false 1 (List.map ab boundWords),vs x3.1] hN (ah [] [] (vi x4) [])] [2,5,6,8,9] [0,1] ⟨[(2,.pt 0 0),(5,.sl 1 0 x2.2.1.length),(6,vb x2.2.2),(8,vb x3.2),(9,vi x4)],[(0,.box [.v (.slice none 0 0),vi 0]),(1,.arr 3 (List.map ag x2.2.1))]⟩ (pa (⟨trivial,rfl⟩:(True∧(AV.bs false 1 (List.map ab boundWords)=AV.bs false 1 (List.map ab boundWords)))) <| pa (smA [.bs false 1 (List.map ab boundWords),vs x3.1]) <| trivial) ⟨co (qY boundWords x3.1 x4 e3) (.cons cS (.cons cS (.nil))),trivial⟩ ?_
 refine AX.seq ?_
 refine AX.seq ?_
 rcases ac ((!x2.2.2)) with b4 | b4
 ·replace h:=am b4 h
  refine AX.rh [aN,aY (vb true)] [2,5,9,33] [0,1] ⟨[(2,.pt 0 0),(5,.sl 1 0 x2.2.1.length),(9,vi x4),(33,vb true)],[(0,.box [.v (.slice none 0 0),vi 0]),(1,.arr 3 (List.map ag x2.2.1))]⟩ (pa (pb (cb b4)) <| trivial) trivial ?_
  refine AX.cond_true (by kernel_rfl) ?_
  refine AX.si [] [2,3] [0] ⟨[(2,.pt 0 0),(3,vb false)],[(0,.box [.v (.slice none 0 0),vi 0])]⟩ trivial trivial ?_
  refine AX.ret ?_
  refine ae (Wk.matB 0 0 1 2 (cs:=[.v (.slice none 0 0),vi 0]) (by kernel_rfl) (by kernel_rfl) (Nat.le_of_ble_eq_true (by kernel_rfl)) (by kernel_rfl) (by decide) rfl) ?_
  refine ae (Wk.fg [2,3] [0,1] ⟨[(2,.pt 0 0),(3,vb false)],[(0,.box [.sl 1 0 (([]:List (ByteArray×Int)).length),vi 0]),(1,.arr 2 (List.map aa ([]:List (ByteArray×Int))))]⟩) ?_
  have hr:=Option.some.inj h
  subst hr
  exact ⟨_,Wk.refl _,.inr rfl,⟨[1],by kernel_rfl,⟨rfl,trivial⟩,[.agg [.sl 1 0 (([]:List (ByteArray×Int)).length),vi 0],vb false],by kernel_rfl,by kernel_rfl⟩⟩
 ·replace h:=aq b4 h
  rcases ac ((!x3.2)) with b5 | b5
  ·replace h:=am b5 h
   refine AX.rh [aN,aY (vb false),aN,aN,aY (vb true)] [2,5,9,33] [0,1] ⟨[(2,.pt 0 0),(5,.sl 1 0 x2.2.1.length),(9,vi x4),(33,vb true)],[(0,.box [.v (.slice none 0 0),vi 0]),(1,.arr 3 (List.map ag x2.2.1))]⟩ (pa (pb (cb b4)) <| pa (pb (cb b5)) <| trivial) trivial ?_
   refine AX.cond_true (by kernel_rfl) ?_
   refine AX.si [] [2,3] [0] ⟨[(2,.pt 0 0),(3,vb false)],[(0,.box [.v (.slice none 0 0),vi 0])]⟩ trivial trivial ?_
   refine AX.ret ?_
   refine ae (Wk.matB 0 0 1 2 (cs:=[.v (.slice none 0 0),vi 0]) (by kernel_rfl) (by kernel_rfl) (Nat.le_of_ble_eq_true (by kernel_rfl)) (by kernel_rfl) (by decide) rfl) ?_
   refine ae (Wk.fg [2,3] [0,1] ⟨[(2,.pt 0 0),(3,vb false)],[(0,.box [.sl 1 0 (([]:List (ByteArray×Int)).length),vi 0]),(1,.arr 2 (List.map aa ([]:List (ByteArray×Int))))]⟩) ?_
   have hr:=Option.some.inj h
   subst hr
   exact ⟨_,Wk.refl _,.inr rfl,⟨[1],by kernel_rfl,⟨rfl,trivial⟩,[.agg [.sl 1 0 (([]:List (ByteArray×Int)).length),vi 0],vb false],by kernel_rfl,by kernel_rfl⟩⟩
  ·replace h:=aq b5 h
   refine AX.rh [aN,aY (vb false),aN,aN,aY (vb false)] [2,5,9,33] [0,1] ⟨[(2,.pt 0 0),(5,.sl 1 0 x2.2.1.length),(9,vi x4),(33,vb (decide (x4<0)))],[(0,.box [.v (.slice none 0 0),vi 0]),(1,.arr 3 (List.map ag x2.2.1))]⟩ (pa (pb (cb b4)) <| pa (pb (cb b5)) <| trivial) trivial ?_
   rcases ac (decide (x4<0)) with b6 | b6
   ·replace h:=am b6 h
    refine AX.cT (decide (x4<0)) b6 ?_
    refine AX.si [] [2,3] [0] ⟨[(2,.pt 0 0),(3,vb false)],[(0,.box [.v (.slice none 0 0),vi 0])]⟩ trivial trivial ?_
    refine AX.ret ?_
    refine ae (Wk.matB 0 0 1 2 (cs:=[.v (.slice none 0 0),vi 0]) (by kernel_rfl) (by kernel_rfl) (Nat.le_of_ble_eq_true (by kernel_rfl)) (by kernel_rfl) (by decide) rfl) ?_
    refine ae (Wk.fg [2,3] [0,1] ⟨[(2,.pt 0 0),(3,vb false)],[(0,.box [.sl 1 0 (([]:List (ByteArray×Int)).length),vi 0]),(1,.arr 2 (List.map aa ([]:List (ByteArray×Int))))]⟩) ?_
    have hr:=Option.some.inj h
    subst hr
    exact ⟨_,Wk.refl _,.inr rfl,⟨[1],by kernel_rfl,⟨rfl,trivial⟩,[.agg [.sl 1 0 (([]:List (ByteArray×Int)).length),vi 0],vb false],by kernel_rfl,by kernel_rfl⟩⟩
   ·replace h:=aq b6 h
    refine AX.cF (decide (x4<0)) b6 ?_
    refine AX.skip ?_
    refine AX.seq ?_
    obtain ⟨x5,e7,h⟩:=ak h
    refine AX.rh [aN,aN,.call 36 [.sl 1 0 x2.2.1.length,vi x4] (aD (rho ([]++[2])) [] []++[(1,.arr 3 (List.map ag x2.2.1))]) (ah [] [2] (.tup [.agg [.sl 0 0 x5.1.length,vi x5.2.1],vb x5.2.2]) [.arr 2 (List.map aa x5.1)])] [2,3] [0,2] ⟨[(2,.pt 0 0),(3,vb x5.2.2)],[(0,.box [.sl 2 0 x5.1.length,vi x5.2.1]),(2,.arr 2 (List.map aa x5.1))]⟩ (pa (⟨rfl,rfl,trivial⟩:((([.sl 1 0 x2.2.1.length,vi x4]:List AV)=[.sl 1 0 x2.2.1.length,vi x4])∧(AO.arr 3 (List.map ag x2.2.1)=AO.arr 3 (List.map ag x2.2.1))∧True)) <| trivial) ⟨aA (ks:=[]) (ns:=[2]) (bor:=[1]) (bobjs:=[(1,.arr 3 (List.map ag x2.2.1))]) (qX x2.2.1 x4 x5 e7) (.cons (.c1 (.c0 (.arr rfl rfl ((rfl).trans (List.length_map ..).symm)))) (.cons cS (.nil))) (by kernel_rfl) trivial,trivial⟩ ?_
    refine AX.ret ?_
    refine ae (Wk.swap 1 2 (Nat.le_of_ble_eq_true (by kernel_rfl)) (Nat.le_of_ble_eq_true (by kernel_rfl)) rfl) ?_
    refine ae (Wk.fg [2,3] [0,1] ⟨[(2,.pt 0 0),(3,vb x5.2.2)],[(0,.box [.sl 1 0 x5.1.length,vi x5.2.1]),(1,.arr 2 (List.map aa x5.1))]⟩) ?_
    have hr:=Option.some.inj h
    subst hr
    exact ⟨_,Wk.refl _,.inr rfl,⟨[1],by kernel_rfl,⟨rfl,trivial⟩,[.agg [.sl 1 0 x5.1.length,vi x5.2.1],vb x5.2.2],by kernel_rfl,by kernel_rfl⟩⟩

theorem oF (p1:List (ByteArray×Int)) (n:Nat) (g:Int×Int) (out:Int) (h:cy p1 n g.1 g.2=some out) :
  AX Tryz.prog 19 0 (codeAt [1,1,0,1,1] (aU Tryz.f120)) ((fun g:Int×Int=>(⟨[(3,vi g.1),(7,.bs false 2 (List.map aa p1)),(8,vi (p1.length:Int)),(9,vi g.2)],[]⟩:S)) g) (fun ex s=>ex=.exit 0∧s=(fun o:Int=>(⟨[(3,vi o)],[]⟩:S)) out):=by
 refine AX.wkpost ?_
 refine AX.loop (G:=Nat×(Int×Int)) (fun q=>(fun g:Int×Int=>(⟨[(3,vi g.1),(7,.bs false 2 (List.map aa p1)),(8,vi (p1.length:Int)),(9,vi g.2)],[]⟩:S)) q.2) (fun q=>cy p1 q.1 q.2.1 q.2.2=some out) (fun q=>q.1) (n,g) h (Wk.refl _) ?_
 clear h
 rintro ⟨fu,v3,v4⟩ h
 cases fu with
 | zero=>cases h
 | succ fu =>
  rw [cy] at h
  refine AX.si [] [3,7,8,9,10] [] ⟨[(3,vi v3),(7,.bs false 2 (List.map aa p1)),(8,vi (p1.length:Int)),(9,vi v4),(10,vb (decide (v4<(p1.length:Int))))],[]⟩ trivial trivial ?_
  refine AX.seq ?_
  rcases ac (decide (v4<(p1.length:Int))) with b1 | b1
  ·replace h:=am b1 h
   refine AX.cT (decide (v4<(p1.length:Int))) b1 ?_
   refine AX.skip ?_
   refine AX.seq ?_
   refine AX.block ?_
   refine AX.seq ?_
   obtain ⟨g2,h⟩:=aw h
   refine AX.rh [aY (.be 2 (aa (gt p1 v4)) 0),aN,.auto { nk:=0 }] [3,5,7,8,9] [0] ⟨[(3,vi v3),(5,.pt 0 0),(7,.bs false 2 (List.map aa p1)),(8,vi (p1.length:Int)),(9,vi v4)],[(0,.box [vs ((gt p1 v4).1),vi ((gt p1 v4).2)])]⟩ (pa (aJ aa p1 v4 2 g2) <| trivial) trivial ?_
   refine AX.rh [] [3,7,8,9] [] ⟨[(3,vi (Go.bits .or .i64 v3 ((gt p1 v4).2))),(7,.bs false 2 (List.map aa p1)),(8,vi (p1.length:Int)),(9,vi v4)],[]⟩ trivial trivial ?_
   refine AX.rh [.auto { raw:=true }] [3,7,8,9] [] ⟨[(3,vi (Go.bits .or .i64 v3 ((gt p1 v4).2))),(7,.bs false 2 (List.map aa p1)),(8,vi (p1.length:Int)),(9,vi (IntKind.wrap .i64 (v4+1)))],[]⟩ trivial trivial ?_
   refine ⟨(fu,(Go.bits .or .i64 v3 ((gt p1 v4).2),IntKind.wrap .i64 (v4+1))),h,Nat.lt_succ_self _,?_⟩
   refine Wk.trans (Wk.fg [3,7,8,9] [] ⟨[(3,vi (Go.bits .or .i64 v3 ((gt p1 v4).2))),(7,.bs false 2 (List.map aa p1)),(8,vi (p1.length:Int)),(9,vi (IntKind.wrap .i64 (v4+1)))],[]⟩) ?_
   exact Wk.refl _
  ·replace h:=aq b1 h
   refine AX.cF (decide (v4<(p1.length:Int))) b1 ?_
   refine AX.exit ?_
   refine ae (Wk.fg [3] [] ⟨[(3,vi v3)],[]⟩) ?_
   have hr:=Option.some.inj h
   subst hr
   exact ⟨_,Wk.refl _,⟨rfl,rfl⟩⟩

theorem dN (p1:List (ByteArray×Int)) (p2:Int) (r:Int) (h:ct p1 p2=some r) :
  Eng.al Tryz.prog 120 [.agg [.bs false 2 (List.map aa p1),vi p2]] [] (vi r) []:=by
 unfold ct at h
 refine Eng.al.body Tryz.func120 (by kernel_rfl) rfl (by kernel_rfl) ?_
 refine AX.wkpost ?_
 refine AX.si [.auto { nk:=0 }] [1] [0] ⟨[(1,.pt 0 0)],[(0,.box [.bs false 2 (List.map aa p1),vi p2])]⟩ trivial trivial ?_
 refine AX.si [] [1,3] [0] ⟨[(1,.pt 0 0),(3,vi 0)],[(0,.box [.bs false 2 (List.map aa p1),vi p2])]⟩ trivial trivial ?_
 refine AX.seq ?_
 refine AX.si [aN,aN,aY (vi (p1.length:Int))] [3,7,8,9] [] ⟨[(3,vi 0),(7,.bs false 2 (List.map aa p1)),(8,vi (p1.length:Int)),(9,vi 0)],[]⟩ (pa (⟨trivial,aS aa p1⟩:(True∧(vi ((List.map aa p1).length:Int)=vi (p1.length:Int)))) <| trivial) trivial ?_
 refine AX.block ?_
 obtain ⟨x5,e3,h⟩:=ak h
 refine AX.wk (Wk.fg [3,7,8,9] [] ⟨[(3,vi 0),(7,.bs false 2 (List.map aa p1)),(8,vi (p1.length:Int)),(9,vi 0)],[]⟩) ?_
 refine AX.mono (oF p1 FU (0,0) x5 e3) ?_
 rintro _ _ ⟨rfl,rfl⟩
 skip
 refine AX.si [] [2] [] ⟨[(2,vi x5)],[]⟩ trivial trivial ?_
 refine AX.ret ?_
 refine ae (Wk.fg [2] [] ⟨[(2,vi x5)],[]⟩) ?_
 have hr:=Option.some.inj h
 subst hr
 exact ⟨_,Wk.refl _,.inr rfl,⟨[],by kernel_rfl,trivial,[vi x5],by kernel_rfl,by kernel_rfl⟩⟩

theorem rN (p1:List (ByteArray×Int)) (p2:Int) (r:Int) (h:fT p1 p2=some r) :
  Eng.al Tryz.prog 133 [.agg [.bs false 2 (List.map aa p1),vi p2]] [] (vi r) []:=by
 unfold fT at h
 refine Eng.al.body Tryz.func133 (by kernel_rfl) rfl (by kernel_rfl) ?_
 refine AX.wkpost ?_
 refine AX.si [.auto { nk:=0 }] [1] [0] ⟨[(1,.pt 0 0)],[(0,.box [.bs false 2 (List.map aa p1),vi p2])]⟩ trivial trivial ?_
 refine AX.seq ?_
 obtain ⟨x3,e1,h⟩:=ak h
 obtain ⟨x4,e2,h⟩:=ak h
 obtain ⟨g3,h⟩:=aw h
 obtain ⟨v5,q4,h⟩:=bT h
 refine AX.rh [aN,.call 120 [.agg [.bs false 2 (List.map aa p1),vi p2]] hN (ah [] [] (vi x3) []),.auto { raw:=true },.call 73 [.v (.int .u64 (IntKind.wrap .u64 (x3)))] hN (ah [] [] (vi x4) []),aN,.auto { y:=some (vi v5),raw:=true }] [2] [] ⟨[(2,vi v5)],[]⟩ (pa (smA [.agg [.bs false 2 (List.map aa p1),vi p2]]) <| pa (smA [.v (.int .u64 (IntKind.wrap .u64 (x3)))]) <| pa g3 <| pa (⟨trivial,(congrArg (fun z=>vi z) q4)⟩:((True)∧((vi (IntKind.wrap .i64 ((IntKind.wrap .i64 ((1:Int)*2 ^ x4.toNat)) - 1)):AV)=(vi v5:AV)))) <| trivial) ⟨co (dN p1 p2 x3 e1) (.cons (.c1 (.agg (.cons (.same _ (by kernel_rfl) (by kernel_rfl)) (.cons (.same _ (by kernel_rfl) (by kernel_rfl)) (.nil))))) (.nil)),co (kc (IntKind.wrap .u64 (x3)) x4 e2) (.cons cS (.nil)),trivial⟩ ?_
 refine AX.ret ?_
 refine ae (Wk.fg [2] [] ⟨[(2,vi v5)],[]⟩) ?_
 have hr:=Option.some.inj h
 subst hr
 exact ⟨_,Wk.refl _,.inr rfl,⟨[],by kernel_rfl,trivial,[vi v5],by kernel_rfl,by kernel_rfl⟩⟩

theorem lf (p1:List (ByteArray×Int)) (p2:Int) (r:Int) (h:ej p1 p2=some r) :
  Eng.al Tryz.prog 90 [.agg [.bs false 2 (List.map aa p1),vi p2]] [] (vi r) []:=by
 unfold ej at h
 refine Eng.al.body Tryz.func90 (by kernel_rfl) rfl (by kernel_rfl) ?_
 refine AX.wkpost ?_
 refine AX.si [.auto { nk:=0 }] [1] [0] ⟨[(1,.pt 0 0)],[(0,.box [.bs false 2 (List.map aa p1),vi p2])]⟩ trivial trivial ?_
 refine AX.seq ?_
 refine AX.si [] [1,5] [0] ⟨[(1,.pt 0 0),(5,vb (decide (p2=3)))],[(0,.box [.bs false 2 (List.map aa p1),vi p2])]⟩ trivial trivial ?_
 rcases ac (decide (p2=3)) with b1 | b1
 ·replace h:=am b1 h
  refine AX.cT (decide (p2=3)) b1 ?_
  refine AX.seq ?_
  obtain ⟨x3,e2,h⟩:=ak h
  refine AX.rh [aN,.call 133 [.agg [.bs false 2 (List.map aa p1),vi p2]] hN (ah [] [] (vi x3) [])] [2] [] ⟨[(2,vi x3)],[]⟩ (pa (smA [.agg [.bs false 2 (List.map aa p1),vi p2]]) <| trivial) ⟨co (rN p1 p2 x3 e2) (.cons (.c1 (.agg (.cons (.same _ (by kernel_rfl) (by kernel_rfl)) (.cons (.same _ (by kernel_rfl) (by kernel_rfl)) (.nil))))) (.nil)),trivial⟩ ?_
  refine AX.ret ?_
  refine ae (Wk.fg [2] [] ⟨[(2,vi x3)],[]⟩) ?_
  have hr:=Option.some.inj h
  subst hr
  exact ⟨_,Wk.refl _,.inr rfl,⟨[],by kernel_rfl,trivial,[vi x3],by kernel_rfl,by kernel_rfl⟩⟩
 ·replace h:=aq b1 h
  refine AX.cF (decide (p2=3)) b1 ?_
  refine AX.skip ?_
  refine AX.seq ?_
  obtain ⟨x4,e3,h⟩:=ak h
  refine AX.rh [aN,.call 120 [.agg [.bs false 2 (List.map aa p1),vi p2]] hN (ah [] [] (vi x4) [])] [2] [] ⟨[(2,vi x4)],[]⟩ (pa (smA [.agg [.bs false 2 (List.map aa p1),vi p2]]) <| trivial) ⟨co (dN p1 p2 x4 e3) (.cons (.c1 (.agg (.cons (.same _ (by kernel_rfl) (by kernel_rfl)) (.cons (.same _ (by kernel_rfl) (by kernel_rfl)) (.nil))))) (.nil)),trivial⟩ ?_
  refine AX.ret ?_
  refine ae (Wk.fg [2] [] ⟨[(2,vi x4)],[]⟩) ?_
  have hr:=Option.some.inj h
  subst hr
  exact ⟨_,Wk.refl _,.inr rfl,⟨[],by kernel_rfl,trivial,[vi x4],by kernel_rfl,by kernel_rfl⟩⟩

theorem rO (p1:List (ByteArray×Int)) (p2:Int) (p3:Int) (r:Int×Int) (h:fV p1 p2 p3=some r) :
  Eng.al Tryz.prog 79 [.agg [.bs false 2 (List.map aa p1),vi p2],vi p3] [] (.tup [vi r.1,vi r.2]) []:=by
 unfold fV at h
 refine Eng.al.body Tryz.func79 (by kernel_rfl) rfl (by kernel_rfl) ?_
 refine AX.wkpost ?_
 refine AX.si [.auto { nk:=0 }] [1,2] [0] ⟨[(1,vi p3),(2,.pt 0 0)],[(0,.box [.bs false 2 (List.map aa p1),vi p2])]⟩ trivial trivial ?_
 refine AX.seq ?_
 refine AX.block ?_
 refine AX.seq ?_
 obtain ⟨x4,e1,h⟩:=ak h
 rcases ac ((!x4)) with b2 | b2
 ·replace h:=am b2 h
  refine AX.rh [aN,.call 80 [.agg [.bs false 2 (List.map aa p1),vi p2]] hN (ah [] [] (vb x4) []),aY (vb true)] [1,2,6] [0] ⟨[(1,vi p3),(2,.pt 0 0),(6,vb true)],[(0,.box [.bs false 2 (List.map aa p1),vi p2])]⟩ (pa (smA [.agg [.bs false 2 (List.map aa p1),vi p2]]) <| pa (pb (cb b2)) <| trivial) ⟨co (dn p1 p2 x4 e1) (.cons (.c1 (.agg (.cons (.same _ (by kernel_rfl) (by kernel_rfl)) (.cons (.same _ (by kernel_rfl) (by kernel_rfl)) (.nil))))) (.nil)),trivial⟩ ?_
  refine AX.cond_true (by kernel_rfl) ?_
  refine AX.si [] [4,5] [] ⟨[(4,vi 0),(5,vi 2)],[]⟩ trivial trivial ?_
  refine AX.ret ?_
  refine ae (Wk.fg [4,5] [] ⟨[(4,vi 0),(5,vi 2)],[]⟩) ?_
  have hr:=Option.some.inj h
  subst hr
  exact ⟨_,Wk.refl _,.inr rfl,⟨[],by kernel_rfl,trivial,[vi 0,vi 2],by kernel_rfl,by kernel_rfl⟩⟩
 ·replace h:=aq b2 h
  obtain ⟨x5,e3,h⟩:=ak h
  refine AX.rh [aN,.call 80 [.agg [.bs false 2 (List.map aa p1),vi p2]] hN (ah [] [] (vb x4) []),aY (vb false),aN,aN,.call 78 [vi p3,vi (-4096),vi 4095] hN (ah [] [] (vb x5) [])] [1,2,6] [0] ⟨[(1,vi p3),(2,.pt 0 0),(6,vb (!x5))],[(0,.box [.bs false 2 (List.map aa p1),vi p2])]⟩ (pa (smA [.agg [.bs false 2 (List.map aa p1),vi p2]]) <| pa (pb (cb b2)) <| pa (smA [vi p3,vi (-4096),vi 4095]) <| trivial) ⟨co (dn p1 p2 x4 e1) (.cons (.c1 (.agg (.cons (.same _ (by kernel_rfl) (by kernel_rfl)) (.cons (.same _ (by kernel_rfl) (by kernel_rfl)) (.nil))))) (.nil)),co (fJ p3 (-4096) 4095 x5 e3) (.cons cS (.cons cS (.cons cS (.nil)))),trivial⟩ ?_
  rcases ac ((!x5)) with b4 | b4
  ·replace h:=am b4 h
   refine AX.cT ((!x5)) b4 ?_
   refine AX.si [] [4,5] [] ⟨[(4,vi 0),(5,vi 2)],[]⟩ trivial trivial ?_
   refine AX.ret ?_
   refine ae (Wk.fg [4,5] [] ⟨[(4,vi 0),(5,vi 2)],[]⟩) ?_
   have hr:=Option.some.inj h
   subst hr
   exact ⟨_,Wk.refl _,.inr rfl,⟨[],by kernel_rfl,trivial,[vi 0,vi 2],by kernel_rfl,by kernel_rfl⟩⟩
  ·replace h:=aq b4 h
   refine AX.cF ((!x5)) b4 ?_
   refine AX.si [] [1,2,15] [0] ⟨[(1,vi p3),(2,.pt 0 0),(15,vb (decide (p3<0)))],[(0,.box [.bs false 2 (List.map aa p1),vi p2])]⟩ trivial trivial ?_
   rcases ac (decide (p3<0)) with b5 | b5
   ·replace h:=am b5 h
    refine AX.cT (decide (p3<0)) b5 ?_
    refine AX.seq ?_
    obtain ⟨x6,e6,h⟩:=ak h
    obtain ⟨v7,q7,h⟩:=bT h
    refine AX.rh [aN,.call 90 [.agg [.bs false 2 (List.map aa p1),vi p2]] hN (ah [] [] (vi x6) []),aN,.auto { raw:=true },.auto { raw:=true },aY (vi v7)] [4,5] [] ⟨[(4,vi v7),(5,vi 0)],[]⟩ (pa (smA [.agg [.bs false 2 (List.map aa p1),vi p2]]) <| pa (⟨trivial,(congrArg (fun z=>vi z) q7)⟩:((True)∧((vi (Go.bits .andNot .i64 x6 (IntKind.wrap .i64 ((IntKind.wrap .i64 (0 - p3)) - 1))):AV)=(vi v7:AV)))) <| trivial) ⟨co (lf p1 p2 x6 e6) (.cons (.c1 (.agg (.cons (.same _ (by kernel_rfl) (by kernel_rfl)) (.cons (.same _ (by kernel_rfl) (by kernel_rfl)) (.nil))))) (.nil)),trivial⟩ ?_
    refine AX.ret ?_
    refine ae (Wk.fg [4,5] [] ⟨[(4,vi v7),(5,vi 0)],[]⟩) ?_
    have hr:=Option.some.inj h
    subst hr
    exact ⟨_,Wk.refl _,.inr rfl,⟨[],by kernel_rfl,trivial,[vi v7,vi 0],by kernel_rfl,by kernel_rfl⟩⟩
   ·replace h:=aq b5 h
    refine AX.cF (decide (p3<0)) b5 ?_
    refine AX.seq ?_
    obtain ⟨x8,e8,h⟩:=ak h
    rcases ac (decide ((Go.bits .andNot .i64 p3 x8)=0)) with b9 | b9
    ·replace h:=am b9 h
     refine AX.rh [aN,aN,.call 120 [.agg [.bs false 2 (List.map aa p1),vi p2]] hN (ah [] [] (vi x8) []),aN,aY (vb true)] [1,2,24] [0] ⟨[(1,vi p3),(2,.pt 0 0),(24,vb true)],[(0,.box [.bs false 2 (List.map aa p1),vi p2])]⟩ (pa (smA [.agg [.bs false 2 (List.map aa p1),vi p2]]) <| pa (pb (cb b9)) <| trivial) ⟨co (dN p1 p2 x8 e8) (.cons (.c1 (.agg (.cons (.same _ (by kernel_rfl) (by kernel_rfl)) (.cons (.same _ (by kernel_rfl) (by kernel_rfl)) (.nil))))) (.nil)),trivial⟩ ?_
     refine AX.cond_true (by kernel_rfl) ?_
     refine AX.si [] [4,5] [] ⟨[(4,vi p3),(5,vi 0)],[]⟩ trivial trivial ?_
     refine AX.ret ?_
     refine ae (Wk.fg [4,5] [] ⟨[(4,vi p3),(5,vi 0)],[]⟩) ?_
     have hr:=Option.some.inj h
     subst hr
     exact ⟨_,Wk.refl _,.inr rfl,⟨[],by kernel_rfl,trivial,[vi p3,vi 0],by kernel_rfl,by kernel_rfl⟩⟩
    ·replace h:=aq b9 h
     refine AX.rh [aN,aN,.call 120 [.agg [.bs false 2 (List.map aa p1),vi p2]] hN (ah [] [] (vi x8) []),aN,aY (vb false)] [1,2,24] [0] ⟨[(1,vi p3),(2,.pt 0 0),(24,vb (decide (p2=3)))],[(0,.box [.bs false 2 (List.map aa p1),vi p2])]⟩ (pa (smA [.agg [.bs false 2 (List.map aa p1),vi p2]]) <| pa (pb (cb b9)) <| trivial) ⟨co (dN p1 p2 x8 e8) (.cons (.c1 (.agg (.cons (.same _ (by kernel_rfl) (by kernel_rfl)) (.cons (.same _ (by kernel_rfl) (by kernel_rfl)) (.nil))))) (.nil)),trivial⟩ ?_
     rcases ac (decide (p2=3)) with b10 | b10
     ·replace h:=am b10 h
      refine AX.cT (decide (p2=3)) b10 ?_
      refine AX.si [] [4,5] [] ⟨[(4,vi p3),(5,vi 0)],[]⟩ trivial trivial ?_
      refine AX.ret ?_
      refine ae (Wk.fg [4,5] [] ⟨[(4,vi p3),(5,vi 0)],[]⟩) ?_
      have hr:=Option.some.inj h
      subst hr
      exact ⟨_,Wk.refl _,.inr rfl,⟨[],by kernel_rfl,trivial,[vi p3,vi 0],by kernel_rfl,by kernel_rfl⟩⟩
     ·replace h:=aq b10 h
      refine AX.cF (decide (p2=3)) b10 ?_
      refine AX.si [] [1,2,36] [0] ⟨[(1,vi p3),(2,.pt 0 0),(36,vb (decide (p2=1)))],[(0,.box [.bs false 2 (List.map aa p1),vi p2])]⟩ trivial trivial ?_
      rcases ac (decide (p2=1)) with b11 | b11
      ·replace h:=am b11 h
       refine AX.cT (decide (p2=1)) b11 ?_
       refine AX.seq ?_
       obtain ⟨x9,e12,h⟩:=ak h
       refine AX.rh [aN,aN,.call 120 [.agg [.bs false 2 (List.map aa p1),vi p2]] hN (ah [] [] (vi x9) [])] [4,5] [] ⟨[(4,vi (Go.bits .and .i64 p3 x9)),(5,vi 0)],[]⟩ (pa (smA [.agg [.bs false 2 (List.map aa p1),vi p2]]) <| trivial) ⟨co (dN p1 p2 x9 e12) (.cons (.c1 (.agg (.cons (.same _ (by kernel_rfl) (by kernel_rfl)) (.cons (.same _ (by kernel_rfl) (by kernel_rfl)) (.nil))))) (.nil)),trivial⟩ ?_
       refine AX.ret ?_
       refine ae (Wk.fg [4,5] [] ⟨[(4,vi (Go.bits .and .i64 p3 x9)),(5,vi 0)],[]⟩) ?_
       have hr:=Option.some.inj h
       subst hr
       exact ⟨_,Wk.refl _,.inr rfl,⟨[],by kernel_rfl,trivial,[vi (Go.bits .and .i64 p3 x9),vi 0],by kernel_rfl,by kernel_rfl⟩⟩
      ·replace h:=aq b11 h
       refine AX.cF (decide (p2=1)) b11 ?_
       refine AX.si [] [1,44] [] ⟨[(1,vi p3),(44,vb (decide (p2=2)))],[]⟩ trivial trivial ?_
       rcases ac (decide (p2=2)) with b13 | b13
       ·replace h:=am b13 h
        refine AX.cT (decide (p2=2)) b13 ?_
        refine AX.si [] [4,5] [] ⟨[(4,vi p3),(5,vi 1)],[]⟩ trivial trivial ?_
        refine AX.ret ?_
        refine ae (Wk.fg [4,5] [] ⟨[(4,vi p3),(5,vi 1)],[]⟩) ?_
        have hr:=Option.some.inj h
        subst hr
        exact ⟨_,Wk.refl _,.inr rfl,⟨[],by kernel_rfl,trivial,[vi p3,vi 1],by kernel_rfl,by kernel_rfl⟩⟩
       ·replace h:=aq b13 h
        refine AX.cF (decide (p2=2)) b13 ?_
        refine AX.skip ?_
        refine AX.si [] [4,5] [] ⟨[(4,vi 0),(5,vi 2)],[]⟩ trivial trivial ?_
        refine AX.ret ?_
        refine ae (Wk.fg [4,5] [] ⟨[(4,vi 0),(5,vi 2)],[]⟩) ?_
        have hr:=Option.some.inj h
        subst hr
        exact ⟨_,Wk.refl _,.inr rfl,⟨[],by kernel_rfl,trivial,[vi 0,vi 2],by kernel_rfl,by kernel_rfl⟩⟩

theorem ca (p1:List (ByteArray×Int)) (p2:Int) (p3:Int) (r:Bool) (h:bP p1 p2 p3=some r) :
  Eng.al Tryz.prog 82 [.agg [.bs false 2 (List.map aa p1),vi p2],vi p3] [] (vb r) []:=by
 unfold bP at h
 refine Eng.al.body Tryz.func82 (by kernel_rfl) rfl (by kernel_rfl) ?_
 refine AX.wkpost ?_
 refine AX.si [.auto { nk:=0 }] [1,2] [0] ⟨[(1,vi p3),(2,.pt 0 0)],[(0,.box [.bs false 2 (List.map aa p1),vi p2])]⟩ trivial trivial ?_
 refine AX.seq ?_
 obtain ⟨x4,e1,h⟩:=ak h
 rcases ac (x4) with b2 | b2
 ·replace h:=am b2 h
  obtain ⟨x5,e3,h⟩:=ak h
  rcases ac (x5) with b4 | b4
  ·replace h:=am b4 h
   rcases ac (decide (p2=3)) with b5 | b5
   ·replace h:=am b5 h
    refine AX.rh [aN,.call 80 [.agg [.bs false 2 (List.map aa p1),vi p2]] hN (ah [] [] (vb true) []),aN,aN,.call 78 [vi p3,vi 0,vi 4095] hN (ah [] [] (vb true) []),aN,aN,aN,aN,aY (vb true)] [4] [] ⟨[(4,vb true)],[]⟩ (pa (smA [.agg [.bs false 2 (List.map aa p1),vi p2]]) <| pa (smA [vi p3,vi 0,vi 4095]) <| pa (pb (cb b5)) <| trivial) ⟨co (show Eng.al Tryz.prog 80 [.agg [.bs false 2 (List.map aa p1),vi p2]] [] (vb true) [] from by have q:=dn p1 p2 x4 e1;rw [b2] at q;exact q) (.cons (.c1 (.agg (.cons (.same _ (by kernel_rfl) (by kernel_rfl)) (.cons (.same _ (by kernel_rfl) (by kernel_rfl)) (.nil))))) (.nil)),co (show Eng.al Tryz.prog 78 [vi p3,vi 0,vi 4095] [] (vb true) [] from by have q:=fJ p3 0 4095 x5 e3;rw [b4] at q;exact q) (.cons cS (.cons cS (.cons cS (.nil)))),trivial⟩ ?_
    refine AX.ret ?_
    refine ae (Wk.fg [4] [] ⟨[(4,vb true)],[]⟩) ?_
    have hr:=Option.some.inj h
    subst hr
    exact ⟨_,Wk.refl _,.inr rfl,⟨[],by kernel_rfl,trivial,[vb true],by kernel_rfl,by kernel_rfl⟩⟩
   ·replace h:=aq b5 h
    obtain ⟨x6,e6,h⟩:=ak h
    refine AX.rh [aN,.call 80 [.agg [.bs false 2 (List.map aa p1),vi p2]] hN (ah [] [] (vb true) []),aN,aN,.call 78 [vi p3,vi 0,vi 4095] hN (ah [] [] (vb true) []),aN,aN,aN,aN,aY (vb false),aN,aN,aN,.call 120 [.agg [.bs false 2 (List.map aa p1),vi p2]] hN (ah [] [] (vi x6) [])] [4] [] ⟨[(4,vb (decide ((Go.bits .andNot .i64 p3 x6)=0)))],[]⟩ (pa (smA [.agg [.bs false 2 (List.map aa p1),vi p2]]) <| pa (smA [vi p3,vi 0,vi 4095]) <| pa (pb (cb b5)) <| pa (smA [.agg [.bs false 2 (List.map aa p1),vi p2]]) <| trivial) ⟨co (show Eng.al Tryz.prog 80 [.agg [.bs false 2 (List.map aa p1),vi p2]] [] (vb true) [] from by have q:=dn p1 p2 x4 e1;rw [b2] at q;exact q) (.cons (.c1 (.agg (.cons (.same _ (by kernel_rfl) (by kernel_rfl)) (.cons (.same _ (by kernel_rfl) (by kernel_rfl)) (.nil))))) (.nil)),co (show Eng.al Tryz.prog 78 [vi p3,vi 0,vi 4095] [] (vb true) [] from by have q:=fJ p3 0 4095 x5 e3;rw [b4] at q;exact q) (.cons cS (.cons cS (.cons cS (.nil)))),co (dN p1 p2 x6 e6) (.cons (.c1 (.agg (.cons (.same _ (by kernel_rfl) (by kernel_rfl)) (.cons (.same _ (by kernel_rfl) (by kernel_rfl)) (.nil))))) (.nil)),trivial⟩ ?_
    refine AX.ret ?_
    refine ae (Wk.fg [4] [] ⟨[(4,vb (decide ((Go.bits .andNot .i64 p3 x6)=0)))],[]⟩) ?_
    have hr:=Option.some.inj h
    subst hr
    exact ⟨_,Wk.refl _,.inr rfl,⟨[],by kernel_rfl,trivial,[vb (decide ((Go.bits .andNot .i64 p3 x6)=0))],by kernel_rfl,by kernel_rfl⟩⟩
  ·replace h:=aq b4 h
   refine AX.rh [aN,.call 80 [.agg [.bs false 2 (List.map aa p1),vi p2]] hN (ah [] [] (vb true) []),aN,aN,.call 78 [vi p3,vi 0,vi 4095] hN (ah [] [] (vb false) [])] [4] [] ⟨[(4,vb false)],[]⟩ (pa (smA [.agg [.bs false 2 (List.map aa p1),vi p2]]) <| pa (smA [vi p3,vi 0,vi 4095]) <| trivial) ⟨co (show Eng.al Tryz.prog 80 [.agg [.bs false 2 (List.map aa p1),vi p2]] [] (vb true) [] from by have q:=dn p1 p2 x4 e1;rw [b2] at q;exact q) (.cons (.c1 (.agg (.cons (.same _ (by kernel_rfl) (by kernel_rfl)) (.cons (.same _ (by kernel_rfl) (by kernel_rfl)) (.nil))))) (.nil)),co (show Eng.al Tryz.prog 78 [vi p3,vi 0,vi 4095] [] (vb false) [] from by have q:=fJ p3 0 4095 x5 e3;rw [b4] at q;exact q) (.cons cS (.cons cS (.cons cS (.nil)))),trivial⟩ ?_
   refine AX.ret ?_
   refine ae (Wk.fg [4] [] ⟨[(4,vb false)],[]⟩) ?_
   have hr:=Option.some.inj h
   subst hr
   exact ⟨_,Wk.refl _,.inr rfl,⟨[],by kernel_rfl,trivial,[vb false],by kernel_rfl,by kernel_rfl⟩⟩
 ·replace h:=aq b2 h
  refine AX.rh [aN,.call 80 [.agg [.bs false 2 (List.map aa p1),vi p2]] hN (ah [] [] (vb false) [])] [4] [] ⟨[(4,vb false)],[]⟩ (pa (smA [.agg [.bs false 2 (List.map aa p1),vi p2]]) <| trivial) ⟨co (show Eng.al Tryz.prog 80 [.agg [.bs false 2 (List.map aa p1),vi p2]] [] (vb false) [] from by have q:=dn p1 p2 x4 e1;rw [b2] at q;exact q) (.cons (.c1 (.agg (.cons (.same _ (by kernel_rfl) (by kernel_rfl)) (.cons (.same _ (by kernel_rfl) (by kernel_rfl)) (.nil))))) (.nil)),trivial⟩ ?_
  refine AX.ret ?_
  refine ae (Wk.fg [4] [] ⟨[(4,vb false)],[]⟩) ?_
  have hr:=Option.some.inj h
  subst hr
  exact ⟨_,Wk.refl _,.inr rfl,⟨[],by kernel_rfl,trivial,[vb false],by kernel_rfl,by kernel_rfl⟩⟩

theorem mi (p1:Int) (r:Int) (h:eu p1=some r) :
  Eng.al Tryz.prog 189 [.v (.int .u64 p1)] [] (vi r) []:=by
 unfold eu at h
 refine Eng.al.body Tryz.func189 (by kernel_rfl) rfl (by kernel_rfl) ?_
 refine AX.wkpost ?_
 refine AX.si [] [0] [] ⟨[(0,.v (.int .u64 p1))],[]⟩ trivial trivial ?_
 refine AX.seq ?_
 obtain ⟨g1,h⟩:=aw h
 obtain ⟨v2,q2,h⟩:=bT h
 obtain ⟨v3,q3,h⟩:=bT h
 refine AX.rh [aN,aN,aY (.v (.int .u64 v2)),aN,aN,.auto { y:=some (.v (.int .u64 v3)),raw:=true }] [0] [] ⟨[(0,.v (.int .u64 v3))],[]⟩ (pa g1 <| pa (⟨trivial,(congrArg (fun z=>AV.v (.int .u64 z)) q2)⟩:((True)∧((.v (.int .u64 (Go.bits .and .u64 (p1 / 2 ^ (1:Int).toNat) 6148914691236517205)):AV)=(.v (.int .u64 v2):AV)))) <| pa (⟨trivial,(congrArg (fun z=>AV.v (.int .u64 z)) q3)⟩:((True)∧((.v (.int .u64 (IntKind.wrap .u64 (v2+(Go.bits .and .u64 p1 6148914691236517205)))):AV)=(.v (.int .u64 v3):AV)))) <| trivial) trivial ?_
 refine AX.seq ?_
 obtain ⟨g4,h⟩:=aw h
 obtain ⟨v4,q5,h⟩:=bT h
 obtain ⟨v5,q6,h⟩:=bT h
 refine AX.rh [aN,aN,aY (.v (.int .u64 v4)),aN,aN,.auto { y:=some (.v (.int .u64 v5)),raw:=true }] [0] [] ⟨[(0,.v (.int .u64 v5))],[]⟩ (pa g4 <| pa (⟨trivial,(congrArg (fun z=>AV.v (.int .u64 z)) q5)⟩:((True)∧((.v (.int .u64 (Go.bits .and .u64 (v3 / 2 ^ (2:Int).toNat) 3689348814741910323)):AV)=(.v (.int .u64 v4):AV)))) <| pa (⟨trivial,(congrArg (fun z=>AV.v (.int .u64 z)) q6)⟩:((True)∧((.v (.int .u64 (IntKind.wrap .u64 (v4+(Go.bits .and .u64 v3 3689348814741910323)))):AV)=(.v (.int .u64 v5):AV)))) <| trivial) trivial ?_
 refine AX.seq ?_
 obtain ⟨g7,h⟩:=aw h
 obtain ⟨v6,q8,h⟩:=bT h
 refine AX.rh [aN,aN,aN,.auto { raw:=true },aY (.v (.int .u64 v6))] [0] [] ⟨[(0,.v (.int .u64 v6))],[]⟩ (pa g7 <| pa (⟨trivial,(congrArg (fun z=>AV.v (.int .u64 z)) q8)⟩:((True)∧((.v (.int .u64 (Go.bits .and .u64 (IntKind.wrap .u64 ((v5 / 2 ^ (4:Int).toNat)+v5)) 1085102592571150095)):AV)=(.v (.int .u64 v6):AV)))) <| trivial) trivial ?_
 refine AX.seq ?_
 obtain ⟨g9,h⟩:=aw h
 refine AX.rh [aN,aN,aN,.auto { raw:=true }] [0] [] ⟨[(0,.v (.int .u64 (IntKind.wrap .u64 (v6+(v6 / 2 ^ (8:Int).toNat)))))],[]⟩ (pa g9 <| trivial) trivial ?_
 refine AX.seq ?_
 obtain ⟨g10,h⟩:=aw h
 obtain ⟨v7,q11,h⟩:=bT h
 obtain ⟨v8,q12,h⟩:=bT h
 refine AX.rh [aN,aN,aY (.v (.int .u64 v7)),.auto { y:=some (.v (.int .u64 v8)),raw:=true }] [0] [] ⟨[(0,.v (.int .u64 v8))],[]⟩ (pa (⟨g10,(congrArg (fun z=>AV.v (.int .u64 z)) q11)⟩:((0≤(16:Int)∧(16:Int)≤(IntKind.bits .u64:Int))∧((.v (.int .u64 ((IntKind.wrap .u64 (v6+(v6 / 2 ^ (8:Int).toNat))) / 2 ^ (16:Int).toNat)):AV)=(.v (.int .u64 v7):AV)))) <| pa (⟨trivial,(congrArg (fun z=>AV.v (.int .u64 z)) q12)⟩:((True)∧((.v (.int .u64 (IntKind.wrap .u64 ((IntKind.wrap .u64 (v6+(v6 / 2 ^ (8:Int).toNat)))+v7))):AV)=(.v (.int .u64 v8):AV)))) <| trivial) trivial ?_
 refine AX.seq ?_
 obtain ⟨g13,h⟩:=aw h
 refine AX.rh [aN,aN,aN,.auto { raw:=true }] [0] [] ⟨[(0,.v (.int .u64 (IntKind.wrap .u64 (v8+(v8 / 2 ^ (32:Int).toNat)))))],[]⟩ (pa g13 <| trivial) trivial ?_
 refine AX.seq ?_
 obtain ⟨v9,q14,h⟩:=bT h
 refine AX.rh [aN,.auto { y:=some (vi v9),raw:=true }] [2] [] ⟨[(2,vi (Go.bits .and .i64 v9 127))],[]⟩ (pa (⟨trivial,(congrArg (fun z=>vi z) q14)⟩:((True)∧((vi (IntKind.wrap .i64 (IntKind.wrap .u64 (v8+(v8 / 2 ^ (32:Int).toNat)))):AV)=(vi v9:AV)))) <| trivial) trivial ?_
 refine AX.ret ?_
 refine ae (Wk.fg [2] [] ⟨[(2,vi (Go.bits .and .i64 v9 127))],[]⟩) ?_
 have hr:=Option.some.inj h
 subst hr
 exact ⟨_,Wk.refl _,.inr rfl,⟨[],by kernel_rfl,trivial,[vi (Go.bits .and .i64 v9 127)],by kernel_rfl,by kernel_rfl⟩⟩

theorem nd (p1:Int) (r:Int) (h:dR p1=some r) :
  Eng.al Tryz.prog 176 [.v (.int .u64 p1)] [] (vi r) []:=by
 unfold dR at h
 refine Eng.al.body Tryz.func176 (by kernel_rfl) rfl (by kernel_rfl) ?_
 refine AX.wkpost ?_
 refine AX.si [] [0] [] ⟨[(0,.v (.int .u64 p1))],[]⟩ trivial trivial ?_
 refine AX.seq ?_
 refine AX.cond_false (by kernel_rfl) ?_
 refine AX.skip ?_
 refine AX.seq ?_
 obtain ⟨x2,e1,h⟩:=ak h
 refine AX.rh [aN,.call 189 [.v (.int .u64 p1)] hN (ah [] [] (vi x2) [])] [2] [] ⟨[(2,vi x2)],[]⟩ (pa (smA [.v (.int .u64 p1)]) <| trivial) ⟨co (mi p1 x2 e1) (.cons cS (.nil)),trivial⟩ ?_
 refine AX.ret ?_
 refine ae (Wk.fg [2] [] ⟨[(2,vi x2)],[]⟩) ?_
 have hr:=Option.some.inj h
 subst hr
 exact ⟨_,Wk.refl _,.inr rfl,⟨[],by kernel_rfl,trivial,[vi x2],by kernel_rfl,by kernel_rfl⟩⟩

theorem og (p1:Int) (r:Bool) (h:hU p1=some r) :
  Eng.al Tryz.prog 153 [vi p1] [] (vb r) []:=by
 unfold hU at h
 refine Eng.al.body Tryz.func153 (by kernel_rfl) rfl (by kernel_rfl) ?_
 refine AX.wkpost ?_
 refine AX.si [] [0] [] ⟨[(0,vi p1)],[]⟩ trivial trivial ?_
 refine AX.seq ?_
 obtain ⟨x2,e1,h⟩:=ak h
 refine AX.rh [aN,.auto { raw:=true },.call 176 [.v (.int .u64 (IntKind.wrap .u64 (p1)))] hN (ah [] [] (vi x2) [])] [2] [] ⟨[(2,vb (decide (x2=1)))],[]⟩ (pa (smA [.v (.int .u64 (IntKind.wrap .u64 (p1)))]) <| trivial) ⟨co (nd (IntKind.wrap .u64 (p1)) x2 e1) (.cons cS (.nil)),trivial⟩ ?_
 refine AX.ret ?_
 refine ae (Wk.fg [2] [] ⟨[(2,vb (decide (x2=1)))],[]⟩) ?_
 have hr:=Option.some.inj h
 subst hr
 exact ⟨_,Wk.refl _,.inr rfl,⟨[],by kernel_rfl,trivial,[vb (decide (x2=1))],by kernel_rfl,by kernel_rfl⟩⟩

theorem qb (p1:ByteArray) (p2:Int) (p3:Int) (r:Unit) (h:gL p1 p2 p3=some r) :
  Eng.al Tryz.prog 152 [.agg [vs p1,vi p2],.bp [vi p3] 0] [] (vb (decide (p2=p3))) []:=by
 unfold gL at h
 refine Eng.al.body Tryz.func152 (by kernel_rfl) rfl (by kernel_rfl) ?_
 refine AX.wkpost ?_
 refine AX.si [.auto { nk:=0 }] [1,2] [0] ⟨[(1,.bp [vi p3] 0),(2,.pt 0 0)],[(0,.box [vs p1,vi p2])]⟩ trivial trivial ?_
 refine AX.si [] [3] [] ⟨[(3,vb (decide (p2=p3)))],[]⟩ trivial trivial ?_
 refine AX.ret ?_
 refine ae (Wk.fg [3] [] ⟨[(3,vb (decide (p2=p3)))],[]⟩) ?_
 have hr:=Option.some.inj h
 subst hr
 exact ⟨_,Wk.refl _,.inr rfl,⟨[],by kernel_rfl,trivial,[vb (decide (p2=p3))],by kernel_rfl,by kernel_rfl⟩⟩

theorem jb (p1:List (ByteArray×Int)) (p2:Int) (n:Nat) (g:Int) (out:Int ⊕ Unit) (h:aT p1 p2 n g=some out) :
  AX Tryz.prog 19 0 (codeAt [1,0,1,1] (aU Tryz.f122)) ((fun g:Int=>(⟨[(0,.bs false 2 (List.map aa p1)),(1,.fn 152 [.bp [vi p2] 0]),(7,vi (p1.length:Int)),(8,vi g)],[]⟩:S)) g) (fun ex s=>(∃ o:Int,out=Sum.inl o∧ex=.ret∧s=⟨[(4,vi o)],[]⟩)∨(∃ o:Unit,out=Sum.inr o∧ex=.exit 0∧s=⟨[],[]⟩)):=by
 refine AX.wkpost ?_
 refine AX.loop (G:=Nat×(Int)) (fun q=>(fun g:Int=>(⟨[(0,.bs false 2 (List.map aa p1)),(1,.fn 152 [.bp [vi p2] 0]),(7,vi (p1.length:Int)),(8,vi g)],[]⟩:S)) q.2) (fun q=>aT p1 p2 q.1 q.2=some out) (fun q=>q.1) (n,g) h (Wk.refl _) ?_
 clear h
 rintro ⟨fu,v3⟩ h
 cases fu with
 | zero=>cases h
 | succ fu =>
  rw [aT] at h
  refine AX.si [] [0,1,7,8,9] [] ⟨[(0,.bs false 2 (List.map aa p1)),(1,.fn 152 [.bp [vi p2] 0]),(7,vi (p1.length:Int)),(8,vi v3),(9,vb (decide (v3<(p1.length:Int))))],[]⟩ trivial trivial ?_
  refine AX.seq ?_
  rcases ac (decide (v3<(p1.length:Int))) with b1 | b1
  ·replace h:=am b1 h
   refine AX.cT (decide (v3<(p1.length:Int))) b1 ?_
   refine AX.skip ?_
   refine AX.seq ?_
   refine AX.block ?_
   refine AX.si [] [0,1,5,7,8] [] ⟨[(0,.bs false 2 (List.map aa p1)),(1,.fn 152 [.bp [vi p2] 0]),(5,vi v3),(7,vi (p1.length:Int)),(8,vi v3)],[]⟩ trivial trivial ?_
   refine AX.seq ?_
   obtain ⟨g2,h⟩:=aw h
   obtain ⟨x4,e3,h⟩:=ak h
   refine AX.rh [aN,aN,aN,aY (.be 2 (aa (gt p1 v3)) 0),aN,.call 152 [.agg [vs ((gt p1 v3).1),vi ((gt p1 v3).2)],.bp [vi p2] 0] hN (ah [] [] (vb (decide (((gt p1 v3).2)=p2))) [])] [0,1,5,7,8,16] [] ⟨[(0,.bs false 2 (List.map aa p1)),(1,.fn 152 [.bp [vi p2] 0]),(5,vi v3),(7,vi (p1.length:Int)),(8,vi v3),(16,vb (decide (((gt p1 v3).2)=p2)))],[]⟩ (pa (aJ aa p1 v3 2 g2) <| pa (smA [.agg [vs ((gt p1 v3).1),vi ((gt p1 v3).2)],.bp [vi p2] 0]) <| trivial) ⟨co (qb ((gt p1 v3).1) ((gt p1 v3).2) p2 x4 e3) (.cons (.c1 (.agg (.cons (.same _ (by kernel_rfl) (by kernel_rfl)) (.cons (.same _ (by kernel_rfl) (by kernel_rfl)) (.nil))))) (.cons (.c1 (.bp (.cons (.same _ (by kernel_rfl) (by kernel_rfl)) (.nil)))) (.nil))),trivial⟩ ?_
   rcases ac (decide (((gt p1 v3).2)=p2)) with b4 | b4
   ·replace h:=am b4 h
    refine AX.cT (decide (((gt p1 v3).2)=p2)) b4 ?_
    refine AX.si [] [4] [] ⟨[(4,vi v3)],[]⟩ trivial trivial ?_
    refine AX.ret ?_
    refine ae (Wk.fg [4] [] ⟨[(4,vi v3)],[]⟩) ?_
    have hr:=Option.some.inj h
    subst hr
    exact ⟨_,Wk.refl _,.inl ⟨v3,rfl,rfl,rfl⟩⟩
   ·replace h:=aq b4 h
    refine AX.cF (decide (((gt p1 v3).2)=p2)) b4 ?_
    refine AX.skip ?_
    refine AX.rh [.auto { raw:=true }] [0,1,7,8] [] ⟨[(0,.bs false 2 (List.map aa p1)),(1,.fn 152 [.bp [vi p2] 0]),(7,vi (p1.length:Int)),(8,vi (IntKind.wrap .i64 (v3+1)))],[]⟩ trivial trivial ?_
    refine ⟨(fu,IntKind.wrap .i64 (v3+1)),h,Nat.lt_succ_self _,?_⟩
    refine Wk.trans (Wk.fg [0,1,7,8] [] ⟨[(0,.bs false 2 (List.map aa p1)),(1,.fn 152 [.bp [vi p2] 0]),(7,vi (p1.length:Int)),(8,vi (IntKind.wrap .i64 (v3+1)))],[]⟩) ?_
    exact Wk.refl _
  ·replace h:=aq b1 h
   refine AX.cF (decide (v3<(p1.length:Int))) b1 ?_
   refine AX.exit ?_
   refine ae (Wk.fg [] [] ⟨[],[]⟩) ?_
   have hr:=Option.some.inj h
   subst hr
   exact ⟨_,Wk.refl _,.inr ⟨(),rfl,rfl,rfl⟩⟩

theorem jx (p1:List (ByteArray×Int)) (p2:Int) (r:Int) (h:cK p1 p2=some r) :
  Eng.al Tryz.prog 122 [.bs false 2 (List.map aa p1),.fn 152 [.bp [vi p2] 0]] [] (vi r) []:=by
 unfold cK at h
 refine Eng.al.body Tryz.func122 (by kernel_rfl) rfl (by kernel_rfl) ?_
 refine AX.wkpost ?_
 refine AX.si [] [0,1] [] ⟨[(0,.bs false 2 (List.map aa p1)),(1,.fn 152 [.bp [vi p2] 0])],[]⟩ trivial trivial ?_
 refine AX.seq ?_
 refine AX.si [aN,aY (vi (p1.length:Int))] [0,1,7,8] [] ⟨[(0,.bs false 2 (List.map aa p1)),(1,.fn 152 [.bp [vi p2] 0]),(7,vi (p1.length:Int)),(8,vi 0)],[]⟩ (pa (⟨trivial,aS aa p1⟩:(True∧(vi ((List.map aa p1).length:Int)=vi (p1.length:Int)))) <| trivial) trivial ?_
 refine AX.block ?_
 obtain ⟨x5,e5,h⟩:=ak h
 refine AX.wk (Wk.fg [0,1,7,8] [] ⟨[(0,.bs false 2 (List.map aa p1)),(1,.fn 152 [.bp [vi p2] 0]),(7,vi (p1.length:Int)),(8,vi 0)],[]⟩) ?_
 refine AX.mono (jb p1 p2 FU 0 x5 e5) ?_
 rintro _ _ (⟨x6,rfl,rfl,rfl⟩ | ⟨x7,rfl,rfl,rfl⟩)
 ·replace h:=eL h
  refine ae (Wk.fg [4] [] ⟨[(4,vi x6)],[]⟩) ?_
  have hr:=Option.some.inj h
  subst hr
  exact ⟨_,Wk.refl _,.inr rfl,⟨[],by kernel_rfl,trivial,[vi x6],by kernel_rfl,by kernel_rfl⟩⟩
 ·replace h:=eU h
  refine AX.si [] [4] [] ⟨[(4,vi (-1))],[]⟩ trivial trivial ?_
  refine AX.ret ?_
  refine ae (Wk.fg [4] [] ⟨[(4,vi (-1))],[]⟩) ?_
  have hr:=Option.some.inj h
  subst hr
  exact ⟨_,Wk.refl _,.inr rfl,⟨[],by kernel_rfl,trivial,[vi (-1)],by kernel_rfl,by kernel_rfl⟩⟩

theorem lb (p1:List (ByteArray×Int)) (p2:Int) (r:Int) (h:fB p1 p2=some r) :
  Eng.al Tryz.prog 127 [.bs false 2 (List.map aa p1),vi p2] [] (vi r) []:=by
 unfold fB at h
 refine Eng.al.body Tryz.func127 (by kernel_rfl) rfl (by kernel_rfl) ?_
 refine AX.wkpost ?_
 refine AX.si [.auto { nk:=0 }] [0,3] [0] ⟨[(0,.bs false 2 (List.map aa p1)),(3,.pt 0 0)],[(0,.box [vi p2])]⟩ trivial trivial ?_
 refine AX.seq ?_
 obtain ⟨x3,e1,h⟩:=ak h
 refine AX.rh [aN,aN,.call 122 [.bs false 2 (List.map aa p1),.fn 152 [.pt 0 0]] (aD (rho ([]++[])) [] []++[(0,.box [vi p2])]) (ah [] [] (vi x3) [])] [4] [] ⟨[(4,vi x3)],[]⟩ (pa (⟨rfl,rfl,trivial⟩:((([.bs false 2 (List.map aa p1),.fn 152 [.pt 0 0]]:List AV)=[.bs false 2 (List.map aa p1),.fn 152 [.pt 0 0]])∧(AO.box [vi p2]=AO.box [vi p2])∧True)) <| trivial) ⟨aA (ks:=[]) (ns:=[]) (bor:=[0]) (bobjs:=[(0,.box [vi p2])]) (jx p1 p2 x3 e1) (.cons cS (.cons (.fn (.cons (.box rfl rfl (.cons (.same _ (by kernel_rfl) (by kernel_rfl)) (.nil))) (.nil))) (.nil))) (by kernel_rfl) trivial,trivial⟩ ?_
 refine AX.ret ?_
 refine ae (Wk.fg [4] [] ⟨[(4,vi x3)],[]⟩) ?_
 have hr:=Option.some.inj h
 subst hr
 exact ⟨_,Wk.refl _,.inr rfl,⟨[],by kernel_rfl,trivial,[vi x3],by kernel_rfl,by kernel_rfl⟩⟩

theorem qA (p1:Int) (r:Unit) (h:im p1=some r) :
  Eng.al Tryz.prog 178 [vi p1] [] (vb (!decide (p1=p1))) []:=by
 unfold im at h
 refine Eng.al.body Tryz.func178 (by kernel_rfl) rfl (by kernel_rfl) ?_
 refine AX.wkpost ?_
 refine AX.si [] [0] [] ⟨[(0,vi p1)],[]⟩ trivial trivial ?_
 refine AX.si [] [2] [] ⟨[(2,vb (!decide (p1=p1)))],[]⟩ trivial trivial ?_
 refine AX.ret ?_
 refine ae (Wk.fg [2] [] ⟨[(2,vb (!decide (p1=p1)))],[]⟩) ?_
 have hr:=Option.some.inj h
 subst hr
 exact ⟨_,Wk.refl _,.inr rfl,⟨[],by kernel_rfl,trivial,[vb (!decide (p1=p1))],by kernel_rfl,by kernel_rfl⟩⟩

theorem uP (p1:Int) (p2:Int) (r:Int) (h:ii p1 p2=some r) :
  Eng.al Tryz.prog 156 [vi p1,vi p2] [] (vi r) []:=by
 unfold ii at h
 refine Eng.al.body Tryz.func156 (by kernel_rfl) rfl (by kernel_rfl) ?_
 refine AX.wkpost ?_
 refine AX.si [] [0,1] [] ⟨[(0,vi p1),(1,vi p2)],[]⟩ trivial trivial ?_
 refine AX.seq ?_
 obtain ⟨x3,e1,h⟩:=ak h
 refine AX.rh [aN,.call 178 [vi p1] hN (ah [] [] (vb (!decide (p1=p1))) [])] [0,1,5] [] ⟨[(0,vi p1),(1,vi p2),(5,vb (!decide (p1=p1)))],[]⟩ (pa (smA [vi p1]) <| trivial) ⟨co (qA p1 x3 e1) (.cons cS (.nil)),trivial⟩ ?_
 refine AX.seq ?_
 obtain ⟨x4,e2,h⟩:=ak h
 refine AX.rh [aN,.call 178 [vi p2] hN (ah [] [] (vb (!decide (p2=p2))) [])] [0,1,5,6] [] ⟨[(0,vi p1),(1,vi p2),(5,vb (!decide (p1=p1))),(6,vb (!decide (p2=p2)))],[]⟩ (pa (smA [vi p2]) <| trivial) ⟨co (qA p2 x4 e2) (.cons cS (.nil)),trivial⟩ ?_
 refine AX.seq ?_
 refine AX.si [] [0,1,6,11] [] ⟨[(0,vi p1),(1,vi p2),(6,vb (!decide (p2=p2))),(11,vb (!decide (p1=p1)))],[]⟩ trivial trivial ?_
 rcases ac ((!decide (p1=p1))) with b3 | b3
 ·replace h:=am b3 h
  refine AX.cT ((!decide (p1=p1))) b3 ?_
  refine AX.seq ?_
  refine AX.si [] [12] [] ⟨[(12,vb (!decide (p2=p2)))],[]⟩ trivial trivial ?_
  rcases ac ((!decide (p2=p2))) with b4 | b4
  ·replace h:=am b4 h
   refine AX.cT ((!decide (p2=p2))) b4 ?_
   refine AX.si [] [4] [] ⟨[(4,vi 0)],[]⟩ trivial trivial ?_
   refine AX.ret ?_
   refine ae (Wk.fg [4] [] ⟨[(4,vi 0)],[]⟩) ?_
   have hr:=Option.some.inj h
   subst hr
   exact ⟨_,Wk.refl _,.inr rfl,⟨[],by kernel_rfl,trivial,[vi 0],by kernel_rfl,by kernel_rfl⟩⟩
  ·replace h:=aq b4 h
   refine AX.cF ((!decide (p2=p2))) b4 ?_
   refine AX.skip ?_
   refine AX.si [] [4] [] ⟨[(4,vi (-1))],[]⟩ trivial trivial ?_
   refine AX.ret ?_
   refine ae (Wk.fg [4] [] ⟨[(4,vi (-1))],[]⟩) ?_
   have hr:=Option.some.inj h
   subst hr
   exact ⟨_,Wk.refl _,.inr rfl,⟨[],by kernel_rfl,trivial,[vi (-1)],by kernel_rfl,by kernel_rfl⟩⟩
 ·replace h:=aq b3 h
  refine AX.cF ((!decide (p1=p1))) b3 ?_
  refine AX.skip ?_
  refine AX.seq ?_
  refine AX.si [] [0,1,13] [] ⟨[(0,vi p1),(1,vi p2),(13,vb (!decide (p2=p2)))],[]⟩ trivial trivial ?_
  rcases ac ((!decide (p2=p2))) with b5 | b5
  ·replace h:=am b5 h
   refine AX.cT ((!decide (p2=p2))) b5 ?_
   refine AX.si [] [4] [] ⟨[(4,vi 1)],[]⟩ trivial trivial ?_
   refine AX.ret ?_
   refine ae (Wk.fg [4] [] ⟨[(4,vi 1)],[]⟩) ?_
   have hr:=Option.some.inj h
   subst hr
   exact ⟨_,Wk.refl _,.inr rfl,⟨[],by kernel_rfl,trivial,[vi 1],by kernel_rfl,by kernel_rfl⟩⟩
  ·replace h:=aq b5 h
   refine AX.cF ((!decide (p2=p2))) b5 ?_
   refine AX.skip ?_
   refine AX.seq ?_
   refine AX.si [] [0,1,16] [] ⟨[(0,vi p1),(1,vi p2),(16,vb (decide (p1<p2)))],[]⟩ trivial trivial ?_
   rcases ac (decide (p1<p2)) with b6 | b6
   ·replace h:=am b6 h
    refine AX.cT (decide (p1<p2)) b6 ?_
    refine AX.si [] [4] [] ⟨[(4,vi (-1))],[]⟩ trivial trivial ?_
    refine AX.ret ?_
    refine ae (Wk.fg [4] [] ⟨[(4,vi (-1))],[]⟩) ?_
    have hr:=Option.some.inj h
    subst hr
    exact ⟨_,Wk.refl _,.inr rfl,⟨[],by kernel_rfl,trivial,[vi (-1)],by kernel_rfl,by kernel_rfl⟩⟩
   ·replace h:=aq b6 h
    refine AX.cF (decide (p1<p2)) b6 ?_
    refine AX.skip ?_
    refine AX.seq ?_
    refine AX.si [] [19] [] ⟨[(19,vb (decide (p2<p1)))],[]⟩ trivial trivial ?_
    rcases ac (decide (p2<p1)) with b7 | b7
    ·replace h:=am b7 h
     refine AX.cT (decide (p2<p1)) b7 ?_
     refine AX.si [] [4] [] ⟨[(4,vi 1)],[]⟩ trivial trivial ?_
     refine AX.ret ?_
     refine ae (Wk.fg [4] [] ⟨[(4,vi 1)],[]⟩) ?_
     have hr:=Option.some.inj h
     subst hr
     exact ⟨_,Wk.refl _,.inr rfl,⟨[],by kernel_rfl,trivial,[vi 1],by kernel_rfl,by kernel_rfl⟩⟩
    ·replace h:=aq b7 h
     refine AX.cF (decide (p2<p1)) b7 ?_
     refine AX.skip ?_
     refine AX.si [] [4] [] ⟨[(4,vi 0)],[]⟩ trivial trivial ?_
     refine AX.ret ?_
     refine ae (Wk.fg [4] [] ⟨[(4,vi 0)],[]⟩) ?_
     have hr:=Option.some.inj h
     subst hr
     exact ⟨_,Wk.refl _,.inr rfl,⟨[],by kernel_rfl,trivial,[vi 0],by kernel_rfl,by kernel_rfl⟩⟩

theorem mZ (p1:ByteArray) (p2:Int) (p3:ByteArray) (p4:Int) (r:Int) (h:fl p1 p2 p3 p4=some r) :
  Eng.al Tryz.prog 155 [.agg [vs p1,vi p2],.agg [vs p3,vi p4]] [] (vi r) []:=by
 unfold fl at h
 refine Eng.al.body Tryz.func155 (by kernel_rfl) rfl (by kernel_rfl) ?_
 refine AX.wkpost ?_
 refine AX.si [.auto { nk:=0 },.auto { nk:=1 }] [2,3] [0,1] ⟨[(2,.pt 0 0),(3,.pt 1 0)],[(0,.box [vs p1,vi p2]),(1,.box [vs p3,vi p4])]⟩ trivial trivial ?_
 refine AX.seq ?_
 obtain ⟨x5,e1,h⟩:=ak h
 refine AX.rh [aN,aN,aN,aN,.call 156 [vi p2,vi p4] hN (ah [] [] (vi x5) [])] [4] [] ⟨[(4,vi x5)],[]⟩ (pa (smA [vi p2,vi p4]) <| trivial) ⟨co (uP p2 p4 x5 e1) (.cons cS (.cons cS (.nil))),trivial⟩ ?_
 refine AX.ret ?_
 refine ae (Wk.fg [4] [] ⟨[(4,vi x5)],[]⟩) ?_
 have hr:=Option.some.inj h
 subst hr
 exact ⟨_,Wk.refl _,.inr rfl,⟨[],by kernel_rfl,trivial,[vi x5],by kernel_rfl,by kernel_rfl⟩⟩

theorem fy (p1:Int) (p2:Int) (v4:Int) (n:Nat) (g:Int×(List (ByteArray×Int))) (out:List (ByteArray×Int)) (h:aB p1 p2 v4 n g.1 g.2=some out) :
  AX Tryz.prog 53 1 (codeAt [1,1,1,1,0,1,1,1] (aU Tryz.f190)) ((fun g:Int×(List (ByteArray×Int))=>(⟨[(0,.sl 0 0 g.2.length),(1,vi p1),(2,vi p2),(3,.fn 155 []),(8,vi v4),(9,vi g.1)],[(0,.arr 2 (List.map aa g.2))]⟩:S)) g) (fun ex s=>ex=.exit 2∧s=(fun o:List (ByteArray×Int)=>(⟨[(0,.sl 0 0 o.length),(1,vi p1),(2,vi p2),(3,.fn 155 []),(8,vi v4)],[(0,.arr 2 (List.map aa o))]⟩:S)) out):=by
 refine AX.wkpost ?_
 refine AX.loop (G:=Nat×(Int×(List (ByteArray×Int)))) (fun q=>(fun g:Int×(List (ByteArray×Int))=>(⟨[(0,.sl 0 0 g.2.length),(1,vi p1),(2,vi p2),(3,.fn 155 []),(8,vi v4),(9,vi g.1)],[(0,.arr 2 (List.map aa g.2))]⟩:S)) q.2) (fun q=>aB p1 p2 v4 q.1 q.2.1 q.2.2=some out) (fun q=>q.1) (n,g) h (Wk.refl _) ?_
 clear h
 rintro ⟨fu,v6,v7⟩ h
 cases fu with
 | zero=>cases h
 | succ fu =>
  rw [aB] at h
  refine AX.seq ?_
  refine AX.seq ?_
  rcases ac (decide (p1<v6)) with b2 | b2
  ·replace h:=am b2 h
   obtain ⟨g3,h⟩:=aw h
   obtain ⟨g4,h⟩:=aw h
   obtain ⟨x8,e5,h⟩:=ak h
   refine AX.dh mixed [aN,aN,aY (vb true),aN,aN,aN,aN,aN,aY (.agg [vs ((gt v7 v6).1),vi ((gt v7 v6).2)]),aN,aN,.auto { raw:=true },aN,.auto { y:=some (.agg [vs ((gt v7 (IntKind.wrap .i64 (v6 - 1))).1),vi ((gt v7 (IntKind.wrap .i64 (v6 - 1))).2)]) },.call 155 [.agg [vs ((gt v7 v6).1),vi ((gt v7 v6).2)],.agg [vs ((gt v7 (IntKind.wrap .i64 (v6 - 1))).1),vi ((gt v7 (IntKind.wrap .i64 (v6 - 1))).2)]] hN (ah [] [] (vi x8) [])] [0,1,2,3,8,9,34] [0] ⟨[(0,.sl 0 0 v7.length),(1,vi p1),(2,vi p2),(3,.fn 155 []),(8,vi v4),(9,vi v6),(34,vb (decide (x8<0)))],[(0,.arr 2 (List.map aa v7))]⟩ (pa (pb (cb b2)) <| pa g3 <| pa (⟨trivial,(congrArg (fun z:List Value=>AV.agg (((z.drop 0).take 2).map .v)) (au (enc:=aa) rfl g3))⟩:(True∧(AV.agg ((((List.map aa v7).getD (0+v6.toNat) []).drop 0 |>.take 2).map .v)=.agg [vs ((gt v7 v6).1),vi ((gt v7 v6).2)]))) <| pa g4 <| pa (⟨trivial,(congrArg (fun z:List Value=>AV.agg (((z.drop 0).take 2).map .v)) (au (enc:=aa) rfl g4))⟩:(True∧(AV.agg ((((List.map aa v7).getD (0+(IntKind.wrap .i64 (v6 - 1)).toNat) []).drop 0 |>.take 2).map .v)=.agg [vs ((gt v7 (IntKind.wrap .i64 (v6 - 1))).1),vi ((gt v7 (IntKind.wrap .i64 (v6 - 1))).2)]))) <| pa (smA [.agg [vs ((gt v7 v6).1),vi ((gt v7 v6).2)],.agg [vs ((gt v7 (IntKind.wrap .i64 (v6 - 1))).1),vi ((gt v7 (IntKind.wrap .i64 (v6 - 1))).2)]]) <| trivial) ⟨co (mZ ((gt v7 v6).1) ((gt v7 v6).2) ((gt v7 (IntKind.wrap .i64 (v6 - 1))).1) ((gt v7 (IntKind.wrap .i64 (v6 - 1))).2) x8 e5) (.cons (.c1 (.agg (.cons (.same _ (by kernel_rfl) (by kernel_rfl)) (.cons (.same _ (by kernel_rfl) (by kernel_rfl)) (.nil))))) (.cons (.c1 (.agg (.cons (.same _ (by kernel_rfl) (by kernel_rfl)) (.cons (.same _ (by kernel_rfl) (by kernel_rfl)) (.nil))))) (.nil))),trivial⟩ ?_
   rcases ac (decide (x8<0)) with b6 | b6
   ·replace h:=am b6 h
    refine AX.cT (decide (x8<0)) b6 ?_
    refine AX.skip ?_
    refine AX.seq ?_
    refine AX.block ?_
    refine AX.dh mixed [aN,aN,aN,aN,.auto { raw:=true },aN,aN,.auto { raw:=true },aN,.auto { y:=some (.agg [vs ((gt v7 (IntKind.wrap .i64 (v6 - 1))).1),vi ((gt v7 (IntKind.wrap .i64 (v6 - 1))).2)]) },aN,aN,aN,aY (.agg [vs ((gt v7 v6).1),vi ((gt v7 v6).2)])] [0,1,2,3,8,9] [0] ⟨[(0,.sl 0 0 v7.length),(1,vi p1),(2,vi p2),(3,.fn 155 []),(8,vi v4),(9,vi v6)],[(0,.arr 2 (((List.map aa v7).set (0+v6.toNat) [(.string ((gt v7 (IntKind.wrap .i64 (v6 - 1))).1)),(.int .i64 ((gt v7 (IntKind.wrap .i64 (v6 - 1))).2))]).set (0+(IntKind.wrap .i64 (v6 - 1)).toNat) [(.string ((gt v7 v6).1)),(.int .i64 ((gt v7 v6).2))]))]⟩ (pa g4 <| pa (⟨trivial,(congrArg (fun z:List Value=>AV.agg (((z.drop 0).take 2).map .v)) (au (enc:=aa) rfl g4))⟩:(True∧(AV.agg ((((List.map aa v7).getD (0+(IntKind.wrap .i64 (v6 - 1)).toNat) []).drop 0 |>.take 2).map .v)=.agg [vs ((gt v7 (IntKind.wrap .i64 (v6 - 1))).1),vi ((gt v7 (IntKind.wrap .i64 (v6 - 1))).2)]))) <| pa g3 <| pa (⟨trivial,(congrArg (fun z:List Value=>AV.agg (((z.drop 0).take 2).map .v)) (au (enc:=aa) rfl g3))⟩:(True∧(AV.agg ((((List.map aa v7).getD (0+v6.toNat) []).drop 0 |>.take 2).map .v)=.agg [vs ((gt v7 v6).1),vi ((gt v7 v6).2)]))) <| pa g3 <| pa g4 <| trivial) trivial ?_
    refine AX.rh [aN,.auto { raw:=true }] [0,1,2,3,8,9] [0] ⟨[(0,.sl 0 0 v7.length),(1,vi p1),(2,vi p2),(3,.fn 155 []),(8,vi v4),(9,vi (IntKind.wrap .i64 (v6 - 1)))],[(0,.arr 2 (((List.map aa v7).set (0+v6.toNat) [(.string ((gt v7 (IntKind.wrap .i64 (v6 - 1))).1)),(.int .i64 ((gt v7 (IntKind.wrap .i64 (v6 - 1))).2))]).set (0+(IntKind.wrap .i64 (v6 - 1)).toNat) [(.string ((gt v7 v6).1)),(.int .i64 ((gt v7 v6).2))]))]⟩ trivial trivial ?_
    refine ⟨(fu,(IntKind.wrap .i64 (v6 - 1),(v7.set (0+v6.toNat) ((gt v7 (IntKind.wrap .i64 (v6 - 1))).1,(gt v7 (IntKind.wrap .i64 (v6 - 1))).2)).set (0+(IntKind.wrap .i64 (v6 - 1)).toNat) ((gt v7 v6).1,(gt v7 v6).2))),h,Nat.lt_succ_self _,?_⟩
    refine Wk.trans (Wk.fg [0,1,2,3,8,9] [0] ⟨[(0,.sl 0 0 v7.length),(1,vi p1),(2,vi p2),(3,.fn 155 []),(8,vi v4),(9,vi (IntKind.wrap .i64 (v6 - 1)))],[(0,.arr 2 (((List.map aa v7).set (0+v6.toNat) [(.string ((gt v7 (IntKind.wrap .i64 (v6 - 1))).1)),(.int .i64 ((gt v7 (IntKind.wrap .i64 (v6 - 1))).2))]).set (0+(IntKind.wrap .i64 (v6 - 1)).toNat) [(.string ((gt v7 v6).1)),(.int .i64 ((gt v7 v6).2))]))]⟩) ?_
    refine Wk.trans (Wk.of_eq (congrArg (fun z=>(⟨[(0,.sl 0 0 v7.length),(1,vi p1),(2,vi p2),(3,.fn 155 []),(8,vi v4),(9,vi (IntKind.wrap .i64 (v6 - 1)))],[(0,.arr 2 (z))]⟩:S)) (pR (enc:=aa) (pR (enc:=aa) rfl (0+v6.toNat) ((gt v7 (IntKind.wrap .i64 (v6 - 1))).1,(gt v7 (IntKind.wrap .i64 (v6 - 1))).2)) (0+(IntKind.wrap .i64 (v6 - 1)).toNat) ((gt v7 v6).1,(gt v7 v6).2)))) ?_
    refine Wk.trans (Wk.of_eq (congrArg (fun z=>(⟨[(0,.sl 0 0 z),(1,vi p1),(2,vi p2),(3,.fn 155 []),(8,vi v4),(9,vi (IntKind.wrap .i64 (v6 - 1)))],[(0,.arr 2 (List.map aa ((v7.set (0+v6.toNat) ((gt v7 (IntKind.wrap .i64 (v6 - 1))).1,(gt v7 (IntKind.wrap .i64 (v6 - 1))).2)).set (0+(IntKind.wrap .i64 (v6 - 1)).toNat) ((gt v7 v6).1,(gt v7 v6).2))))]⟩:S)) (pL ((pL ((rfl:v7.length=v7.length)) (0+v6.toNat) ((gt v7 (IntKind.wrap .i64 (v6 - 1))).1,(gt v7 (IntKind.wrap .i64 (v6 - 1))).2):v7.length=(v7.set (0+v6.toNat) ((gt v7 (IntKind.wrap .i64 (v6 - 1))).1,(gt v7 (IntKind.wrap .i64 (v6 - 1))).2)).length)) (0+(IntKind.wrap .i64 (v6 - 1)).toNat) ((gt v7 v6).1,(gt v7 v6).2)))) ?_
    exact Wk.refl _
   ·replace h:=aq b6 h
    refine AX.cF (decide (x8<0)) b6 ?_
    refine AX.exit ?_
    refine ae (Wk.fg [0,1,2,3,8] [0] ⟨[(0,.sl 0 0 v7.length),(1,vi p1),(2,vi p2),(3,.fn 155 []),(8,vi v4)],[(0,.arr 2 (List.map aa v7))]⟩) ?_
    have hr:=Option.some.inj h
    subst hr
    exact ⟨_,Wk.refl _,⟨rfl,rfl⟩⟩
  ·replace h:=aq b2 h
   refine AX.dh mixed [aN,aN,aY (vb false)] [0,1,2,3,8,9,34] [0] ⟨[(0,.sl 0 0 v7.length),(1,vi p1),(2,vi p2),(3,.fn 155 []),(8,vi v4),(9,vi v6),(34,vb false)],[(0,.arr 2 (List.map aa v7))]⟩ (pa (pb (cb b2)) <| trivial) trivial ?_
   refine AX.cond_false (by kernel_rfl) ?_
   refine AX.exit ?_
   refine ae (Wk.fg [0,1,2,3,8] [0] ⟨[(0,.sl 0 0 v7.length),(1,vi p1),(2,vi p2),(3,.fn 155 []),(8,vi v4)],[(0,.arr 2 (List.map aa v7))]⟩) ?_
   have hr:=Option.some.inj h
   subst hr
   exact ⟨_,Wk.refl _,⟨rfl,rfl⟩⟩

theorem fA (p1:Int) (p2:Int) (n:Nat) (g:Int×(List (ByteArray×Int))) (out:List (ByteArray×Int)) (h:az p1 p2 n g.1 g.2=some out) :
  AX Tryz.prog 53 1 (codeAt [1,1] (aU Tryz.f190)) ((fun g:Int×(List (ByteArray×Int))=>(⟨[(0,.sl 0 0 g.2.length),(1,vi p1),(2,vi p2),(3,.fn 155 []),(8,vi g.1)],[(0,.arr 2 (List.map aa g.2))]⟩:S)) g) (fun ex s=>ex=.exit 0∧s=(fun o:List (ByteArray×Int)=>(⟨[],[(0,.arr 2 (List.map aa o))]⟩:S)) out):=by
 refine AX.wkpost ?_
 refine AX.loop (G:=Nat×(Int×(List (ByteArray×Int)))) (fun q=>(fun g:Int×(List (ByteArray×Int))=>(⟨[(0,.sl 0 0 g.2.length),(1,vi p1),(2,vi p2),(3,.fn 155 []),(8,vi g.1)],[(0,.arr 2 (List.map aa g.2))]⟩:S)) q.2) (fun q=>az p1 p2 q.1 q.2.1 q.2.2=some out) (fun q=>q.1) (n,g) h (Wk.refl _) ?_
 clear h
 rintro ⟨fu,v4,v5⟩ h
 cases fu with
 | zero=>cases h
 | succ fu =>
  rw [az] at h
  refine AX.seq ?_
  refine AX.si [] [0,1,2,3,8,14] [0] ⟨[(0,.sl 0 0 v5.length),(1,vi p1),(2,vi p2),(3,.fn 155 []),(8,vi v4),(14,vb (decide (v4<p2)))],[(0,.arr 2 (List.map aa v5))]⟩ trivial trivial ?_
  rcases ac (decide (v4<p2)) with b1 | b1
  ·replace h:=am b1 h
   refine AX.cT (decide (v4<p2)) b1 ?_
   refine AX.skip ?_
   refine AX.seq ?_
   refine AX.block ?_
   refine AX.si [] [0,1,2,3,8,9] [0] ⟨[(0,.sl 0 0 v5.length),(1,vi p1),(2,vi p2),(3,.fn 155 []),(8,vi v4),(9,vi v4)],[(0,.arr 2 (List.map aa v5))]⟩ trivial trivial ?_
   refine AX.block ?_
   obtain ⟨x9,e7,h⟩:=ak h
   refine AX.wk (Wk.fg [0,1,2,3,8,9] [0] ⟨[(0,.sl 0 0 v5.length),(1,vi p1),(2,vi p2),(3,.fn 155 []),(8,vi v4),(9,vi v4)],[(0,.arr 2 (List.map aa v5))]⟩) ?_
   refine AX.mono (fy p1 p2 v4 FU (v4,v5) x9 e7) ?_
   rintro _ _ ⟨rfl,rfl⟩
   skip
   refine AX.rh [aN,.auto { raw:=true }] [0,1,2,3,8] [0] ⟨[(0,.sl 0 0 x9.length),(1,vi p1),(2,vi p2),(3,.fn 155 []),(8,vi (IntKind.wrap .i64 (v4+1)))],[(0,.arr 2 (List.map aa x9))]⟩ trivial trivial ?_
   refine ⟨(fu,(IntKind.wrap .i64 (v4+1),x9)),h,Nat.lt_succ_self _,?_⟩
   refine Wk.trans (Wk.fg [0,1,2,3,8] [0] ⟨[(0,.sl 0 0 x9.length),(1,vi p1),(2,vi p2),(3,.fn 155 []),(8,vi (IntKind.wrap .i64 (v4+1)))],[(0,.arr 2 (List.map aa x9))]⟩) ?_
   exact Wk.refl _
  ·replace h:=aq b1 h
   refine AX.cF (decide (v4<p2)) b1 ?_
   refine AX.exit ?_
   refine ae (Wk.fg [] [0] ⟨[],[(0,.arr 2 (List.map aa v5))]⟩) ?_
   have hr:=Option.some.inj h
   subst hr
   exact ⟨_,Wk.refl _,⟨rfl,rfl⟩⟩

theorem fN (p1:Int) (p2:Int) (p3:List (ByteArray×Int)) (r:List (ByteArray×Int)) (h:bg p1 p2 p3=some r) :
  Eng.al Tryz.prog 190 [.sl 0 0 p3.length,vi p1,vi p2,.fn 155 []] [.arr 2 (List.map aa p3)] (.tup []) [.arr 2 (List.map aa r)]:=by
 unfold bg at h
 refine Eng.al.body Tryz.func190 (by kernel_rfl) rfl (by kernel_rfl) ?_
 refine AX.wkpost ?_
 refine AX.si [aN,.auto { raw:=true }] [0,1,2,3,8] [0] ⟨[(0,.sl 0 0 p3.length),(1,vi p1),(2,vi p2),(3,.fn 155 []),(8,vi (IntKind.wrap .i64 (p1+1)))],[(0,.arr 2 (List.map aa p3))]⟩ trivial trivial ?_
 refine AX.block ?_
 obtain ⟨x10,e8,h⟩:=ak h
 refine AX.wk (Wk.fg [0,1,2,3,8] [0] ⟨[(0,.sl 0 0 p3.length),(1,vi p1),(2,vi p2),(3,.fn 155 []),(8,vi (IntKind.wrap .i64 (p1+1)))],[(0,.arr 2 (List.map aa p3))]⟩) ?_
 refine AX.mono (fA p1 p2 FU (IntKind.wrap .i64 (p1+1),p3) x10 e8) ?_
 rintro _ _ ⟨rfl,rfl⟩
 skip
 refine ae (Wk.fg [] [0] ⟨[],[(0,.arr 2 (List.map aa x10))]⟩) ?_
 have hr:=Option.some.inj h
 subst hr
 exact ⟨_,Wk.refl _,.inl rfl,⟨[],by kernel_rfl,⟨rfl,trivial⟩,[],by kernel_rfl,by kernel_rfl⟩⟩

theorem gp (p1:Int) (p2:Int) (p3:Int) (p4:List (ByteArray×Int)) (n:Nat) (g:Unit) (out:List (ByteArray×Int)) (h:bj p1 p2 p3 p4 n=some out) :
  AX Tryz.prog 148 1 (codeAt [1,1,1] (aU Tryz.f177)) ((fun g:Unit=>(⟨[(0,.sl 0 0 p4.length),(1,vi p1),(2,vi p2),(3,vi p3),(4,.fn 155 []),(10,vb true),(11,vb true)],[(0,.arr 2 (List.map aa p4))]⟩:S)) g) (fun ex s=>ex=.ret∧s=(fun o:List (ByteArray×Int)=>(⟨[],[(0,.arr 2 (List.map aa o))]⟩:S)) out):=by
 refine AX.wkpost ?_
 refine AX.loop (G:=Nat×(Unit)) (fun q=>(fun g:Unit=>(⟨[(0,.sl 0 0 p4.length),(1,vi p1),(2,vi p2),(3,vi p3),(4,.fn 155 []),(10,vb true),(11,vb true)],[(0,.arr 2 (List.map aa p4))]⟩:S)) q.2) (fun q=>bj p1 p2 p3 p4 q.1=some out) (fun q=>q.1) (n,g) h (Wk.refl _) ?_
 clear h
 rintro ⟨fu,_⟩ h
 cases fu with
 | zero=>cases h
 | succ fu =>
  rw [bj] at h
  refine AX.block ?_
  refine AX.si [aN,aN,.auto { raw:=true }] [0,1,2,3,4,10,11,12] [0] ⟨[(0,.sl 0 0 p4.length),(1,vi p1),(2,vi p2),(3,vi p3),(4,.fn 155 []),(10,vb true),(11,vb true),(12,vi (IntKind.wrap .i64 (p2 - p1)))],[(0,.arr 2 (List.map aa p4))]⟩ trivial trivial ?_
  refine AX.seq ?_
  refine AX.si [] [0,1,2,3,4,10,11,12,25] [0] ⟨[(0,.sl 0 0 p4.length),(1,vi p1),(2,vi p2),(3,vi p3),(4,.fn 155 []),(10,vb true),(11,vb true),(12,vi (IntKind.wrap .i64 (p2 - p1))),(25,vb (decide ((IntKind.wrap .i64 (p2 - p1))≤12)))],[(0,.arr 2 (List.map aa p4))]⟩ trivial trivial ?_
  rcases ac (decide ((IntKind.wrap .i64 (p2 - p1))≤12)) with b1 | b1
  ·replace h:=am b1 h
   refine AX.cT (decide ((IntKind.wrap .i64 (p2 - p1))≤12)) b1 ?_
   refine AX.seq ?_
   obtain ⟨x5,e2,h⟩:=ak h
   obtain ⟨g3,h⟩:=aw h
   refine AX.rh [aN,aN,aN,aN,.call 190 [.sl 0 0 p4.length,vi p1,vi p2,.fn 155 []] (aD (rho ([0]++[])) [0] [.arr 2 (List.map aa p4)]++[]) (ah [0] [] (.tup []) [.arr 2 (List.map aa x5)])] [] [0] ⟨[],[(0,.arr 2 (List.map aa x5))]⟩ (pa (⟨rfl,rfl,trivial⟩:((([.sl 0 0 p4.length,vi p1,vi p2,.fn 155 []]:List AV)=[.sl 0 0 p4.length,vi p1,vi p2,.fn 155 []])∧(AO.arr 2 (List.map aa p4)=AO.arr 2 (List.map aa p4))∧True)) <| trivial) ⟨aA (ks:=[0]) (ns:=[]) (bor:=[]) (bobjs:=[]) (fN p1 p2 p4 x5 e2) (.cons cS (.cons cS (.cons cS (.cons (.fn (.nil)) (.nil))))) (by kernel_rfl) ⟨.inr (ww (enc:=aa) g3),trivial⟩,trivial⟩ ?_
   refine AX.ret ?_
   refine ae (Wk.fg [] [0] ⟨[],[(0,.arr 2 (List.map aa x5))]⟩) ?_
   refine ae (Wk.of_eq (congrArg (fun z=>(⟨[],[(0,.arr 2 (List.map aa x5))]⟩:S)) (((rfl:p4.length=p4.length)).trans (g3).symm))) ?_
   have hr:=Option.some.inj h
   subst hr
   exact ⟨_,Wk.refl _,⟨rfl,rfl⟩⟩
  ·replace h:=aq b1 h
   refine AX.cF (decide ((IntKind.wrap .i64 (p2 - p1))≤12)) b1 ?_
   refine AX.skip ?_
   refine AX.seq ?_
   refine AX.si [] [0,1,2,3,4,10,11,12,32] [0] ⟨[(0,.sl 0 0 p4.length),(1,vi p1),(2,vi p2),(3,vi p3),(4,.fn 155 []),(10,vb true),(11,vb true),(12,vi (IntKind.wrap .i64 (p2 - p1))),(32,vb (decide (p3=0)))],[(0,.arr 2 (List.map aa p4))]⟩ trivial trivial ?_
   rcases ac (decide (p3=0)) with b4 | b4
   ·replace h:=am b4 h
    refine AX.cT (decide (p3=0)) b4 ?_
    refine AX.seq ?_
    cases h
   ·replace h:=aq b4 h
    refine AX.cF (decide (p3=0)) b4 ?_
    refine AX.skip ?_
    refine AX.seq ?_
    refine AX.si [] [0,1,2,3,4,10,11,12,39] [0] ⟨[(0,.sl 0 0 p4.length),(1,vi p1),(2,vi p2),(3,vi p3),(4,.fn 155 []),(10,vb true),(11,vb true),(12,vi (IntKind.wrap .i64 (p2 - p1))),(39,vb false)],[(0,.arr 2 (List.map aa p4))]⟩ trivial trivial ?_
    refine AX.cond_false (by kernel_rfl) ?_
    refine AX.skip ?_
    refine AX.seq ?_
    cases h

theorem gH (p1:Int) (p2:Int) (p3:Int) (p4:List (ByteArray×Int)) (r:List (ByteArray×Int)) (h:bO p1 p2 p3 p4=some r) :
  Eng.al Tryz.prog 177 [.sl 0 0 p4.length,vi p1,vi p2,vi p3,.fn 155 []] [.arr 2 (List.map aa p4)] (.tup []) [.arr 2 (List.map aa r)]:=by
 unfold bO at h
 refine Eng.al.body Tryz.func177 (by kernel_rfl) rfl (by kernel_rfl) ?_
 refine AX.wkpost ?_
 refine AX.si [] [0,1,2,3,4,10] [0] ⟨[(0,.sl 0 0 p4.length),(1,vi p1),(2,vi p2),(3,vi p3),(4,.fn 155 []),(10,vb true)],[(0,.arr 2 (List.map aa p4))]⟩ trivial trivial ?_
 refine AX.si [] [0,1,2,3,4,10,11] [0] ⟨[(0,.sl 0 0 p4.length),(1,vi p1),(2,vi p2),(3,vi p3),(4,.fn 155 []),(10,vb true),(11,vb true)],[(0,.arr 2 (List.map aa p4))]⟩ trivial trivial ?_
 refine AX.block ?_
 obtain ⟨x6,e5,h⟩:=ak h
 refine AX.wk (Wk.fg [0,1,2,3,4,10,11] [0] ⟨[(0,.sl 0 0 p4.length),(1,vi p1),(2,vi p2),(3,vi p3),(4,.fn 155 []),(10,vb true),(11,vb true)],[(0,.arr 2 (List.map aa p4))]⟩) ?_
 refine AX.mono (gp p1 p2 p3 p4 FU () x6 e5) ?_
 rintro _ _ ⟨rfl,rfl⟩
 skip
 refine ae (Wk.fg [] [0] ⟨[],[(0,.arr 2 (List.map aa x6))]⟩) ?_
 have hr:=Option.some.inj h
 subst hr
 exact ⟨_,Wk.refl _,.inr rfl,⟨[],by kernel_rfl,⟨rfl,trivial⟩,[],by kernel_rfl,by kernel_rfl⟩⟩

theorem iF (p1:List (ByteArray×Int)) (r:List (ByteArray×Int)) (h:bJ p1=some r) :
  Eng.al Tryz.prog 154 [.sl 0 0 p1.length,.fn 155 []] [.arr 2 (List.map aa p1)] (.tup []) [.arr 2 (List.map aa r)]:=by
 unfold bJ at h
 refine Eng.al.body Tryz.func154 (by kernel_rfl) rfl (by kernel_rfl) ?_
 refine AX.wkpost ?_
 refine AX.si [] [0,1,4] [0] ⟨[(0,.sl 0 0 p1.length),(1,.fn 155 []),(4,vi (p1.length:Int))],[(0,.arr 2 (List.map aa p1))]⟩ trivial trivial ?_
 obtain ⟨x2,e1,h⟩:=ak h
 obtain ⟨x3,e2,h⟩:=ak h
 obtain ⟨g3,h⟩:=aw h
 refine AX.rh [aN,aN,aN,.auto { raw:=true },.call 73 [.v (.int .u64 (IntKind.wrap .u64 ((p1.length:Int))))] hN (ah [] [] (vi x2) []),aN,.call 177 [.sl 0 0 p1.length,vi 0,vi (p1.length:Int),vi x2,.fn 155 []] (aD (rho ([0]++[])) [0] [.arr 2 (List.map aa p1)]++[]) (ah [0] [] (.tup []) [.arr 2 (List.map aa x3)])] [] [0] ⟨[],[(0,.arr 2 (List.map aa x3))]⟩ (pa (smA [.v (.int .u64 (IntKind.wrap .u64 ((p1.length:Int))))]) <| pa (⟨rfl,rfl,trivial⟩:((([.sl 0 0 p1.length,vi 0,vi (p1.length:Int),vi x2,.fn 155 []]:List AV)=[.sl 0 0 p1.length,vi 0,vi (p1.length:Int),vi x2,.fn 155 []])∧(AO.arr 2 (List.map aa p1)=AO.arr 2 (List.map aa p1))∧True)) <| trivial) ⟨co (kc (IntKind.wrap .u64 ((p1.length:Int))) x2 e1) (.cons cS (.nil)),aA (ks:=[0]) (ns:=[]) (bor:=[]) (bobjs:=[]) (gH 0 (p1.length:Int) x2 p1 x3 e2) (.cons cS (.cons cS (.cons cS (.cons cS (.cons (.fn (.nil)) (.nil)))))) (by kernel_rfl) ⟨.inr (ww (enc:=aa) g3),trivial⟩,trivial⟩ ?_
 refine ae (Wk.fg [] [0] ⟨[],[(0,.arr 2 (List.map aa x3))]⟩) ?_
 refine ae (Wk.of_eq (congrArg (fun z=>(⟨[],[(0,.arr 2 (List.map aa x3))]⟩:S)) (((rfl:p1.length=p1.length)).trans (g3).symm))) ?_
 have hr:=Option.some.inj h
 subst hr
 exact ⟨_,Wk.refl _,.inl rfl,⟨[],by kernel_rfl,⟨rfl,trivial⟩,[],by kernel_rfl,by kernel_rfl⟩⟩

theorem mB (p1:List (ByteArray×Int)) (n:Nat) (g:(List (ByteArray×Int))×Int) (out:List (ByteArray×Int)) (h:br p1 n g.1 g.2=some out) :
  AX Tryz.prog 31 0 (codeAt [1,1,0,1,1] (aU Tryz.f128)) ((fun g:(List (ByteArray×Int))×Int=>(⟨[(3,.sl 0 0 g.1.length),(7,.bs false 2 (List.map aa p1)),(8,vi (p1.length:Int)),(9,vi g.2)],[(0,.arr 2 (List.map aa g.1))]⟩:S)) g) (fun ex s=>ex=.exit 0∧s=(fun o:List (ByteArray×Int)=>(⟨[(3,.sl 0 0 o.length)],[(0,.arr 2 (List.map aa o))]⟩:S)) out):=by
 refine AX.wkpost ?_
 refine AX.loop (G:=Nat×((List (ByteArray×Int))×Int)) (fun q=>(fun g:(List (ByteArray×Int))×Int=>(⟨[(3,.sl 0 0 g.1.length),(7,.bs false 2 (List.map aa p1)),(8,vi (p1.length:Int)),(9,vi g.2)],[(0,.arr 2 (List.map aa g.1))]⟩:S)) q.2) (fun q=>br p1 q.1 q.2.1 q.2.2=some out) (fun q=>q.1) (n,g) h (Wk.refl _) ?_
 clear h
 rintro ⟨fu,v3,v4⟩ h
 cases fu with
 | zero=>cases h
 | succ fu =>
  rw [br] at h
  refine AX.si [] [3,7,8,9,10] [0] ⟨[(3,.sl 0 0 v3.length),(7,.bs false 2 (List.map aa p1)),(8,vi (p1.length:Int)),(9,vi v4),(10,vb (decide (v4<(p1.length:Int))))],[(0,.arr 2 (List.map aa v3))]⟩ trivial trivial ?_
  refine AX.seq ?_
  rcases ac (decide (v4<(p1.length:Int))) with b1 | b1
  ·replace h:=am b1 h
   refine AX.cT (decide (v4<(p1.length:Int))) b1 ?_
   refine AX.skip ?_
   refine AX.seq ?_
   refine AX.block ?_
   refine AX.seq ?_
   obtain ⟨g2,h⟩:=aw h
   refine AX.rh [aY (.be 2 (aa (gt p1 v4)) 0),aN,.auto { nk:=1 }] [3,5,7,8,9] [0,1] ⟨[(3,.sl 0 0 v3.length),(5,.pt 1 0),(7,.bs false 2 (List.map aa p1)),(8,vi (p1.length:Int)),(9,vi v4)],[(0,.arr 2 (List.map aa v3)),(1,.box [vs ((gt p1 v4).1),vi ((gt p1 v4).2)])]⟩ (pa (aJ aa p1 v4 2 g2) <| trivial) trivial ?_
   refine AX.seq ?_
   obtain ⟨x5,e3,h⟩:=ak h
   rcases ac (x5) with b4 | b4
   ·replace h:=am b4 h
    obtain ⟨x6,e5,h⟩:=ak h
    refine AX.rh [aN,aN,.call 153 [vi ((gt p1 v4).2)] hN (ah [] [] (vb true) []),aN,aN,aN,aN,.call 127 [.sl 0 0 v3.length,vi ((gt p1 v4).2)] (aD (rho ([]++[])) [] []++[(0,.arr 2 (List.map aa v3))]) (ah [] [] (vi x6) [])] [3,5,7,8,9,22] [0,1] ⟨[(3,.sl 0 0 v3.length),(5,.pt 1 0),(7,.bs false 2 (List.map aa p1)),(8,vi (p1.length:Int)),(9,vi v4),(22,vb (decide (x6<0)))],[(0,.arr 2 (List.map aa v3)),(1,.box [vs ((gt p1 v4).1),vi ((gt p1 v4).2)])]⟩ (pa (smA [vi ((gt p1 v4).2)]) <| pa (⟨rfl,rfl,trivial⟩:((([.sl 0 0 v3.length,vi ((gt p1 v4).2)]:List AV)=[.sl 0 0 v3.length,vi ((gt p1 v4).2)])∧(AO.arr 2 (List.map aa v3)=AO.arr 2 (List.map aa v3))∧True)) <| trivial) ⟨co (show Eng.al Tryz.prog 153 [vi ((gt p1 v4).2)] [] (vb true) [] from by have q:=og ((gt p1 v4).2) x5 e3;rw [b4] at q;exact q) (.cons cS (.nil)),aA (ks:=[]) (ns:=[]) (bor:=[0]) (bobjs:=[(0,.arr 2 (List.map aa v3))]) (lb v3 ((gt p1 v4).2) x6 e5) (.cons (.c1 (.c0 (.arr rfl rfl ((rfl).trans (List.length_map ..).symm)))) (.cons cS (.nil))) (by kernel_rfl) trivial,trivial⟩ ?_
    rcases ac (decide (x6<0)) with b6 | b6
    ·replace h:=am b6 h
     refine AX.cT (decide (x6<0)) b6 ?_
     obtain ⟨g7,h⟩:=aw h
     refine AX.rh [aN,aN,.auto { nk:=2 },.auto { y:=some (.sl 3 0 ((v3++([((gt p1 v4).1,(gt p1 v4).2)]:List (ByteArray×Int))).length)),els:=some (List.map aa v3),els2:=some (List.map aa ([((gt p1 v4).1,(gt p1 v4).2)]:List (ByteArray×Int))),nk:=3 }] [3,7,8,9] [3] ⟨[(3,.sl 3 0 ((v3++([((gt p1 v4).1,(gt p1 v4).2)]:List (ByteArray×Int))).length)),(7,.bs false 2 (List.map aa p1)),(8,vi (p1.length:Int)),(9,vi v4)],[(3,.arr 2 (List.map aa v3++List.map aa ([((gt p1 v4).1,(gt p1 v4).2)]:List (ByteArray×Int))))]⟩ (pa (⟨⟨⟨(bc (enc:=aa) rfl rfl),(bc (enc:=aa) rfl rfl)⟩,(by simp only [List.length_map,List.length_nil,List.length_replicate];simpa using g7)⟩,cj (enc:=aa) (aH (enc:=aa) rfl (rfl))⟩:((((((List.map aa v3).drop 0).take (v3.length)=List.map aa v3)∧(((List.map aa ([((gt p1 v4).1,(gt p1 v4).2)]:List (ByteArray×Int))).drop 0).take (([((gt p1 v4).1,(gt p1 v4).2)]:List (ByteArray×Int)).length)=List.map aa ([((gt p1 v4).1,(gt p1 v4).2)]:List (ByteArray×Int))))∧(List.map aa v3).length+(List.map aa ([((gt p1 v4).1,(gt p1 v4).2)]:List (ByteArray×Int))).length≤1099511627776)∧(AV.sl 3 0 (List.map aa v3++List.map aa ([((gt p1 v4).1,(gt p1 v4).2)]:List (ByteArray×Int))).length=AV.sl 3 0 (v3++([((gt p1 v4).1,(gt p1 v4).2)]:List (ByteArray×Int))).length))) <| trivial) trivial ?_
     refine AX.rh [.auto { raw:=true }] [3,7,8,9] [3] ⟨[(3,.sl 3 0 ((v3++([((gt p1 v4).1,(gt p1 v4).2)]:List (ByteArray×Int))).length)),(7,.bs false 2 (List.map aa p1)),(8,vi (p1.length:Int)),(9,vi (IntKind.wrap .i64 (v4+1)))],[(3,.arr 2 (List.map aa v3++List.map aa ([((gt p1 v4).1,(gt p1 v4).2)]:List (ByteArray×Int))))]⟩ trivial trivial ?_
     refine ⟨(fu,(v3++([((gt p1 v4).1,(gt p1 v4).2)]:List (ByteArray×Int)),IntKind.wrap .i64 (v4+1))),h,Nat.lt_succ_self _,?_⟩
     refine Wk.trans (Wk.swap 0 3 (Nat.le_of_ble_eq_true (by kernel_rfl)) (Nat.le_of_ble_eq_true (by kernel_rfl)) rfl) ?_
     refine Wk.trans (Wk.fg [3,7,8,9] [0] ⟨[(3,.sl 0 0 ((v3++([((gt p1 v4).1,(gt p1 v4).2)]:List (ByteArray×Int))).length)),(7,.bs false 2 (List.map aa p1)),(8,vi (p1.length:Int)),(9,vi (IntKind.wrap .i64 (v4+1)))],[(0,.arr 2 (List.map aa v3++List.map aa ([((gt p1 v4).1,(gt p1 v4).2)]:List (ByteArray×Int))))]⟩) ?_
     refine Wk.trans (Wk.of_eq (congrArg (fun z=>(⟨[(3,.sl 0 0 ((v3++([((gt p1 v4).1,(gt p1 v4).2)]:List (ByteArray×Int))).length)),(7,.bs false 2 (List.map aa p1)),(8,vi (p1.length:Int)),(9,vi (IntKind.wrap .i64 (v4+1)))],[(0,.arr 2 (z))]⟩:S)) (aH (enc:=aa) rfl (rfl):List.map aa v3++List.map aa ([((gt p1 v4).1,(gt p1 v4).2)]:List (ByteArray×Int))=List.map aa (v3++([((gt p1 v4).1,(gt p1 v4).2)]:List (ByteArray×Int)))))) ?_
     exact Wk.refl _
    ·replace h:=aq b6 h
     refine AX.cF (decide (x6<0)) b6 ?_
     refine AX.skip ?_
     refine AX.rh [.auto { raw:=true }] [3,7,8,9] [0] ⟨[(3,.sl 0 0 v3.length),(7,.bs false 2 (List.map aa p1)),(8,vi (p1.length:Int)),(9,vi (IntKind.wrap .i64 (v4+1)))],[(0,.arr 2 (List.map aa v3))]⟩ trivial trivial ?_
     refine ⟨(fu,(v3,IntKind.wrap .i64 (v4+1))),h,Nat.lt_succ_self _,?_⟩
     refine Wk.trans (Wk.fg [3,7,8,9] [0] ⟨[(3,.sl 0 0 v3.length),(7,.bs false 2 (List.map aa p1)),(8,vi (p1.length:Int)),(9,vi (IntKind.wrap .i64 (v4+1)))],[(0,.arr 2 (List.map aa v3))]⟩) ?_
     exact Wk.refl _
   ·replace h:=aq b4 h
    refine AX.rh [aN,aN,.call 153 [vi ((gt p1 v4).2)] hN (ah [] [] (vb false) [])] [3,5,7,8,9,22] [0,1] ⟨[(3,.sl 0 0 v3.length),(5,.pt 1 0),(7,.bs false 2 (List.map aa p1)),(8,vi (p1.length:Int)),(9,vi v4),(22,vb false)],[(0,.arr 2 (List.map aa v3)),(1,.box [vs ((gt p1 v4).1),vi ((gt p1 v4).2)])]⟩ (pa (smA [vi ((gt p1 v4).2)]) <| trivial) ⟨co (show Eng.al Tryz.prog 153 [vi ((gt p1 v4).2)] [] (vb false) [] from by have q:=og ((gt p1 v4).2) x5 e3;rw [b4] at q;exact q) (.cons cS (.nil)),trivial⟩ ?_
    refine AX.cond_false (by kernel_rfl) ?_
    refine AX.skip ?_
    refine AX.rh [.auto { raw:=true }] [3,7,8,9] [0] ⟨[(3,.sl 0 0 v3.length),(7,.bs false 2 (List.map aa p1)),(8,vi (p1.length:Int)),(9,vi (IntKind.wrap .i64 (v4+1)))],[(0,.arr 2 (List.map aa v3))]⟩ trivial trivial ?_
    refine ⟨(fu,(v3,IntKind.wrap .i64 (v4+1))),h,Nat.lt_succ_self _,?_⟩
    refine Wk.trans (Wk.fg [3,7,8,9] [0] ⟨[(3,.sl 0 0 v3.length),(7,.bs false 2 (List.map aa p1)),(8,vi (p1.length:Int)),(9,vi (IntKind.wrap .i64 (v4+1)))],[(0,.arr 2 (List.map aa v3))]⟩) ?_
    exact Wk.refl _
  ·replace h:=aq b1 h
   refine AX.cF (decide (v4<(p1.length:Int))) b1 ?_
   refine AX.exit ?_
   refine ae (Wk.fg [3] [0] ⟨[(3,.sl 0 0 v3.length)],[(0,.arr 2 (List.map aa v3))]⟩) ?_
   have hr:=Option.some.inj h
   subst hr
   exact ⟨_,Wk.refl _,⟨rfl,rfl⟩⟩

theorem kq (p1:List (ByteArray×Int)) (p2:Int) (r:List (ByteArray×Int)) (h:dF p1 p2=some r) :
  Eng.al Tryz.prog 128 [.agg [.bs false 2 (List.map aa p1),vi p2]] [] (.sl 0 0 r.length) [.arr 2 (List.map aa r)]:=by
 unfold dF at h
 refine Eng.al.body Tryz.func128 (by kernel_rfl) rfl (by kernel_rfl) ?_
 refine AX.wkpost ?_
 refine AX.si [.auto { nk:=0 }] [1] [0] ⟨[(1,.pt 0 0)],[(0,.box [.bs false 2 (List.map aa p1),vi p2])]⟩ trivial trivial ?_
 refine AX.si [] [1,3] [0] ⟨[(1,.pt 0 0),(3,.v (.slice none 0 0))],[(0,.box [.bs false 2 (List.map aa p1),vi p2])]⟩ trivial trivial ?_
 refine AX.seq ?_
 refine AX.si [aN,aN,aY (vi (p1.length:Int))] [3,7,8,9] [] ⟨[(3,.v (.slice none 0 0)),(7,.bs false 2 (List.map aa p1)),(8,vi (p1.length:Int)),(9,vi 0)],[]⟩ (pa (⟨trivial,aS aa p1⟩:(True∧(vi ((List.map aa p1).length:Int)=vi (p1.length:Int)))) <| trivial) trivial ?_
 refine AX.block ?_
 obtain ⟨x7,e8,h⟩:=ak h
 refine AX.wk (Wk.mat 3 0 2 (by kernel_rfl) (Nat.le_of_ble_eq_true (by kernel_rfl)) (by kernel_rfl) rfl) ?_
 refine AX.wk (Wk.fg [3,7,8,9] [0] ⟨[(3,.sl 0 0 (([]:List (ByteArray×Int)).length)),(7,.bs false 2 (List.map aa p1)),(8,vi (p1.length:Int)),(9,vi 0)],[(0,.arr 2 (List.map aa ([]:List (ByteArray×Int))))]⟩) ?_
 refine AX.mono (mB p1 FU (([]:List (ByteArray×Int)),0) x7 e8) ?_
 rintro _ _ ⟨rfl,rfl⟩
 skip
 refine AX.seq ?_
 obtain ⟨x8,e9,h⟩:=ak h
 obtain ⟨g10,h⟩:=aw h
 refine AX.rh [aN,.call 154 [.sl 0 0 x7.length,.fn 155 []] (aD (rho ([0]++[])) [0] [.arr 2 (List.map aa x7)]++[]) (ah [0] [] (.tup []) [.arr 2 (List.map aa x8)])] [3] [0] ⟨[(3,.sl 0 0 x7.length)],[(0,.arr 2 (List.map aa x8))]⟩ (pa (⟨rfl,rfl,trivial⟩:((([.sl 0 0 x7.length,.fn 155 []]:List AV)=[.sl 0 0 x7.length,.fn 155 []])∧(AO.arr 2 (List.map aa x7)=AO.arr 2 (List.map aa x7))∧True)) <| trivial) ⟨aA (ks:=[0]) (ns:=[]) (bor:=[]) (bobjs:=[]) (iF x7 x8 e9) (.cons cS (.cons (.fn (.nil)) (.nil))) (by kernel_rfl) ⟨.inr (ww (enc:=aa) g10),trivial⟩,trivial⟩ ?_
 refine AX.si [] [2] [0] ⟨[(2,.sl 0 0 x7.length)],[(0,.arr 2 (List.map aa x8))]⟩ trivial trivial ?_
 refine AX.ret ?_
 refine ae (Wk.fg [2] [0] ⟨[(2,.sl 0 0 x7.length)],[(0,.arr 2 (List.map aa x8))]⟩) ?_
 refine ae (Wk.of_eq (congrArg (fun z=>(⟨[(2,.sl 0 0 z)],[(0,.arr 2 (List.map aa x8))]⟩:S)) (((rfl:x7.length=x7.length)).trans (g10).symm))) ?_
 have hr:=Option.some.inj h
 subst hr
 exact ⟨_,Wk.refl _,.inr rfl,⟨[0],by kernel_rfl,⟨rfl,trivial⟩,[.sl 0 0 x8.length],by kernel_rfl,by kernel_rfl⟩⟩

theorem mh (p1:ByteArray) (p2:Int) (p3:Int) (r:Unit) (h:ez p1 p2 p3=some r) :
  Eng.al Tryz.prog 129 [.agg [vs p1,vi p2],.bp [vi p3] 0] [] (vb (!decide ((Go.bits .and .i64 p3 p2)=0))) []:=by
 unfold ez at h
 refine Eng.al.body Tryz.func129 (by kernel_rfl) rfl (by kernel_rfl) ?_
 refine AX.wkpost ?_
 refine AX.si [.auto { nk:=0 }] [1,2] [0] ⟨[(1,.bp [vi p3] 0),(2,.pt 0 0)],[(0,.box [vs p1,vi p2])]⟩ trivial trivial ?_
 refine AX.si [] [3] [] ⟨[(3,vb (!decide ((Go.bits .and .i64 p3 p2)=0)))],[]⟩ trivial trivial ?_
 refine AX.ret ?_
 refine ae (Wk.fg [3] [] ⟨[(3,vb (!decide ((Go.bits .and .i64 p3 p2)=0)))],[]⟩) ?_
 have hr:=Option.some.inj h
 subst hr
 exact ⟨_,Wk.refl _,.inr rfl,⟨[],by kernel_rfl,trivial,[vb (!decide ((Go.bits .and .i64 p3 p2)=0))],by kernel_rfl,by kernel_rfl⟩⟩

theorem Aa (p1:List ByteArray) (r:Unit) (h:mz p1=some r) :
  Eng.al Tryz.prog 132 [.bs false 1 (List.map ab p1)] [] (.bs false 1 (List.map ab (sub p1 (0:Int) (p1.length:Int)))) []:=by
 unfold mz at h
 refine Eng.al.body Tryz.func132 (by kernel_rfl) rfl (by kernel_rfl) ?_
 refine AX.wkpost ?_
 refine AX.si [] [0] [] ⟨[(0,.bs false 1 (List.map ab p1))],[]⟩ trivial trivial ?_
 refine AX.seq ?_
 obtain ⟨g1,h⟩:=aw h
 refine AX.rg [aN,aN,aY (vi (p1.length:Int)),aN,aY (vi (p1.length:Int)),.auto { y:=some (.bs false 1 (List.map ab (sub p1 (0:Int) (p1.length:Int)))) }] [2] [] ⟨[(2,.bs false 1 (List.map ab (sub p1 (0:Int) (p1.length:Int))))],[]⟩ ((True∧(vi ((List.map ab p1).length:Int)=vi (p1.length:Int)))∧(True∧(vi ((List.map ab p1).length:Int)=vi (p1.length:Int)))∧((0≤(0:Int)∧(0:Int)≤(p1.length:Int)∧(p1.length:Int)≤(p1.length:Int)∧(p1.length:Int)≤((List.map ab p1).length:Int))∧(AV.bs false 1 (((List.map ab p1).drop (0:Int).toNat).take ((p1.length:Int).toNat - (0:Int).toNat))=(.bs false 1 (List.map ab (sub p1 (0:Int) (p1.length:Int))):AV)))∧True) ⟨⟨trivial,aS ab p1⟩,⟨trivial,aS ab p1⟩,⟨by first | exact g1 | simpa only [List.length_map] using g1,by first | exact iA ab p1 (0:Int) (p1.length:Int) false 1 | (simp only [List.length_map];exact iA ab p1 (0:Int) (p1.length:Int) false 1)⟩,trivial⟩ trivial ?_
 refine AX.ret ?_
 refine ae (Wk.fg [2] [] ⟨[(2,.bs false 1 (List.map ab (sub p1 (0:Int) (p1.length:Int))))],[]⟩) ?_
 have hr:=Option.some.inj h
 subst hr
 exact ⟨_,Wk.refl _,.inr rfl,⟨[],by kernel_rfl,trivial,[.bs false 1 (List.map ab (sub p1 (0:Int) (p1.length:Int)))],by kernel_rfl,by kernel_rfl⟩⟩

theorem lT (p1:List ByteArray) (r:Unit) (h:eK p1=some r) :
  Eng.al Tryz.prog 132 [.sl 0 0 p1.length] [.arr 1 (List.map ab p1)] (.sl 0 0 p1.length) [.arr 1 (List.map ab p1)]:=by
 unfold eK at h
 refine Eng.al.body Tryz.func132 (by kernel_rfl) rfl (by kernel_rfl) ?_
 refine AX.wkpost ?_
 refine AX.si [] [0] [0] ⟨[(0,.sl 0 0 p1.length)],[(0,.arr 1 (List.map ab p1))]⟩ trivial trivial ?_
 refine AX.si [aN,aN,aN,aN,aN,aY (.sl 0 0 p1.length)] [2] [0] ⟨[(2,.sl 0 0 p1.length)],[(0,.arr 1 (List.map ab p1))]⟩ (pa (⟨⟨by omega,by omega,by omega,by omega⟩,rfl⟩:((0≤(0:Int)∧(0:Int)≤(p1.length:Int)∧(p1.length:Int)≤(p1.length:Int)∧(p1.length:Int)≤(p1.length:Int))∧(AV.sl 0 (0+(0:Int).toNat) ((p1.length:Int).toNat - (0:Int).toNat)=AV.sl 0 0 p1.length))) <| trivial) trivial ?_
 refine AX.ret ?_
 refine ae (Wk.fg [2] [0] ⟨[(2,.sl 0 0 p1.length)],[(0,.arr 1 (List.map ab p1))]⟩) ?_
 have hr:=Option.some.inj h
 subst hr
 exact ⟨_,Wk.refl _,.inr rfl,⟨[],by kernel_rfl,⟨rfl,trivial⟩,[.sl 0 0 p1.length],by kernel_rfl,by kernel_rfl⟩⟩

theorem jA (p1:List (ByteArray×Int)) (p2:Int) (n:Nat) (g:List ByteArray×Int) (out:List ByteArray) (h:aP p1 p2 n g.1 g.2=some out) :
  AX Tryz.prog 25 0 (codeAt [1,1,0,1,1] (aU Tryz.f87)) ((fun g:List ByteArray×Int=>(⟨[(1,.fn 129 [.bp [vi p2] 0]),(5,.sl 0 0 g.1.length),(8,.bs false 2 (List.map aa p1)),(9,vi (p1.length:Int)),(10,vi g.2)],[(0,.arr 1 (List.map ab g.1))]⟩:S)) g) (fun ex s=>ex=.exit 0∧s=(fun o:List ByteArray=>(⟨[(5,.sl 0 0 o.length)],[(0,.arr 1 (List.map ab o))]⟩:S)) out):=by
 refine AX.wkpost ?_
 refine AX.loop (G:=Nat×(List ByteArray×Int)) (fun q=>(fun g:List ByteArray×Int=>(⟨[(1,.fn 129 [.bp [vi p2] 0]),(5,.sl 0 0 g.1.length),(8,.bs false 2 (List.map aa p1)),(9,vi (p1.length:Int)),(10,vi g.2)],[(0,.arr 1 (List.map ab g.1))]⟩:S)) q.2) (fun q=>aP p1 p2 q.1 q.2.1 q.2.2=some out) (fun q=>q.1) (n,g) h (Wk.refl _) ?_
 clear h
 rintro ⟨fu,v3,v4⟩ h
 cases fu with
 | zero=>cases h
 | succ fu =>
  rw [aP] at h
  refine AX.si [] [1,5,8,9,10,11] [0] ⟨[(1,.fn 129 [.bp [vi p2] 0]),(5,.sl 0 0 v3.length),(8,.bs false 2 (List.map aa p1)),(9,vi (p1.length:Int)),(10,vi v4),(11,vb (decide (v4<(p1.length:Int))))],[(0,.arr 1 (List.map ab v3))]⟩ trivial trivial ?_
  refine AX.seq ?_
  rcases ac (decide (v4<(p1.length:Int))) with b1 | b1
  ·replace h:=am b1 h
   refine AX.cT (decide (v4<(p1.length:Int))) b1 ?_
   refine AX.skip ?_
   refine AX.seq ?_
   refine AX.block ?_
   refine AX.seq ?_
   obtain ⟨g2,h⟩:=aw h
   refine AX.rh [aY (.be 2 (aa (gt p1 v4)) 0),aN,.auto { nk:=1 }] [1,5,7,8,9,10] [0,1] ⟨[(1,.fn 129 [.bp [vi p2] 0]),(5,.sl 0 0 v3.length),(7,.pt 1 0),(8,.bs false 2 (List.map aa p1)),(9,vi (p1.length:Int)),(10,vi v4)],[(0,.arr 1 (List.map ab v3)),(1,.box [vs ((gt p1 v4).1),vi ((gt p1 v4).2)])]⟩ (pa (aJ aa p1 v4 2 g2) <| trivial) trivial ?_
   refine AX.seq ?_
   obtain ⟨x5,e3,h⟩:=ak h
   refine AX.rh [aN,aN,.call 129 [.agg [vs ((gt p1 v4).1),vi ((gt p1 v4).2)],.bp [vi p2] 0] hN (ah [] [] (vb (!decide ((Go.bits .and .i64 p2 ((gt p1 v4).2))=0))) [])] [1,5,7,8,9,10,16] [0,1] ⟨[(1,.fn 129 [.bp [vi p2] 0]),(5,.sl 0 0 v3.length),(7,.pt 1 0),(8,.bs false 2 (List.map aa p1)),(9,vi (p1.length:Int)),(10,vi v4),(16,vb (!decide ((Go.bits .and .i64 p2 ((gt p1 v4).2))=0)))],[(0,.arr 1 (List.map ab v3)),(1,.box [vs ((gt p1 v4).1),vi ((gt p1 v4).2)])]⟩ (pa (smA [.agg [vs ((gt p1 v4).1),vi ((gt p1 v4).2)],.bp [vi p2] 0]) <| trivial) ⟨co (mh ((gt p1 v4).1) ((gt p1 v4).2) p2 x5 e3) (.cons (.c1 (.agg (.cons (.same _ (by kernel_rfl) (by kernel_rfl)) (.cons (.same _ (by kernel_rfl) (by kernel_rfl)) (.nil))))) (.cons (.c1 (.bp (.cons (.same _ (by kernel_rfl) (by kernel_rfl)) (.nil)))) (.nil))),trivial⟩ ?_
   rcases ac ((!decide ((Go.bits .and .i64 p2 ((gt p1 v4).2))=0))) with b4 | b4
   ·replace h:=am b4 h
    refine AX.cT ((!decide ((Go.bits .and .i64 p2 ((gt p1 v4).2))=0))) b4 ?_
    obtain ⟨g5,h⟩:=aw h
    refine AX.rh [aN,aN,aN,.auto { nk:=2 },.auto { y:=some (.sl 3 0 ((v3++([(gt p1 v4).1]:List ByteArray)).length)),els:=some (List.map ab v3),els2:=some (List.map ab ([(gt p1 v4).1]:List ByteArray)),nk:=3 }] [1,5,8,9,10] [3] ⟨[(1,.fn 129 [.bp [vi p2] 0]),(5,.sl 3 0 ((v3++([(gt p1 v4).1]:List ByteArray)).length)),(8,.bs false 2 (List.map aa p1)),(9,vi (p1.length:Int)),(10,vi v4)],[(3,.arr 1 (List.map ab v3++List.map ab ([(gt p1 v4).1]:List ByteArray)))]⟩ (pa (⟨⟨⟨(bc (enc:=ab) rfl rfl),(bc (enc:=ab) rfl rfl)⟩,(by simp only [List.length_map,List.length_nil,List.length_replicate];simpa using g5)⟩,cj (enc:=ab) (aH (enc:=ab) rfl (rfl))⟩:((((((List.map ab v3).drop 0).take (v3.length)=List.map ab v3)∧(((List.map ab ([(gt p1 v4).1]:List ByteArray)).drop 0).take (([(gt p1 v4).1]:List ByteArray).length)=List.map ab ([(gt p1 v4).1]:List ByteArray)))∧(List.map ab v3).length+(List.map ab ([(gt p1 v4).1]:List ByteArray)).length≤1099511627776)∧(AV.sl 3 0 (List.map ab v3++List.map ab ([(gt p1 v4).1]:List ByteArray)).length=AV.sl 3 0 (v3++([(gt p1 v4).1]:List ByteArray)).length))) <| trivial) trivial ?_
    refine AX.rh [.auto { raw:=true }] [1,5,8,9,10] [3] ⟨[(1,.fn 129 [.bp [vi p2] 0]),(5,.sl 3 0 ((v3++([(gt p1 v4).1]:List ByteArray)).length)),(8,.bs false 2 (List.map aa p1)),(9,vi (p1.length:Int)),(10,vi (IntKind.wrap .i64 (v4+1)))],[(3,.arr 1 (List.map ab v3++List.map ab ([(gt p1 v4).1]:List ByteArray)))]⟩ trivial trivial ?_
    refine ⟨(fu,(v3++([(gt p1 v4).1]:List ByteArray),IntKind.wrap .i64 (v4+1))),h,Nat.lt_succ_self _,?_⟩
    refine Wk.trans (Wk.swap 0 3 (Nat.le_of_ble_eq_true (by kernel_rfl)) (Nat.le_of_ble_eq_true (by kernel_rfl)) rfl) ?_
    refine Wk.trans (Wk.fg [1,5,8,9,10] [0] ⟨[(1,.fn 129 [.bp [vi p2] 0]),(5,.sl 0 0 ((v3++([(gt p1 v4).1]:List ByteArray)).length)),(8,.bs false 2 (List.map aa p1)),(9,vi (p1.length:Int)),(10,vi (IntKind.wrap .i64 (v4+1)))],[(0,.arr 1 (List.map ab v3++List.map ab ([(gt p1 v4).1]:List ByteArray)))]⟩) ?_
    refine Wk.trans (Wk.of_eq (congrArg (fun z=>(⟨[(1,.fn 129 [.bp [vi p2] 0]),(5,.sl 0 0 ((v3++([(gt p1 v4).1]:List ByteArray)).length)),(8,.bs false 2 (List.map aa p1)),(9,vi (p1.length:Int)),(10,vi (IntKind.wrap .i64 (v4+1)))],[(0,.arr 1 (z))]⟩:S)) (aH (enc:=ab) rfl (rfl):List.map ab v3++List.map ab ([(gt p1 v4).1]:List ByteArray)=List.map ab (v3++([(gt p1 v4).1]:List ByteArray))))) ?_
    exact Wk.refl _
   ·replace h:=aq b4 h
    refine AX.cF ((!decide ((Go.bits .and .i64 p2 ((gt p1 v4).2))=0))) b4 ?_
    refine AX.skip ?_
    refine AX.rh [.auto { raw:=true }] [1,5,8,9,10] [0] ⟨[(1,.fn 129 [.bp [vi p2] 0]),(5,.sl 0 0 v3.length),(8,.bs false 2 (List.map aa p1)),(9,vi (p1.length:Int)),(10,vi (IntKind.wrap .i64 (v4+1)))],[(0,.arr 1 (List.map ab v3))]⟩ trivial trivial ?_
    refine ⟨(fu,(v3,IntKind.wrap .i64 (v4+1))),h,Nat.lt_succ_self _,?_⟩
    refine Wk.trans (Wk.fg [1,5,8,9,10] [0] ⟨[(1,.fn 129 [.bp [vi p2] 0]),(5,.sl 0 0 v3.length),(8,.bs false 2 (List.map aa p1)),(9,vi (p1.length:Int)),(10,vi (IntKind.wrap .i64 (v4+1)))],[(0,.arr 1 (List.map ab v3))]⟩) ?_
    exact Wk.refl _
  ·replace h:=aq b1 h
   refine AX.cF (decide (v4<(p1.length:Int))) b1 ?_
   refine AX.exit ?_
   refine ae (Wk.fg [5] [0] ⟨[(5,.sl 0 0 v3.length)],[(0,.arr 1 (List.map ab v3))]⟩) ?_
   have hr:=Option.some.inj h
   subst hr
   exact ⟨_,Wk.refl _,⟨rfl,rfl⟩⟩

theorem kp (p1:List (ByteArray×Int)) (p2:Int) (r:List ByteArray) (h:cu p1 p2=some r) :
  Eng.al Tryz.prog 87 [.bs false 2 (List.map aa p1),.fn 129 [.bp [vi p2] 0]] [] (.sl 0 0 r.length) [.arr 1 (List.map ab r)]:=by
 unfold cu at h
 refine Eng.al.body Tryz.func87 (by kernel_rfl) rfl (by kernel_rfl) ?_
 refine AX.wkpost ?_
 refine AX.si [] [0,1] [] ⟨[(0,.bs false 2 (List.map aa p1)),(1,.fn 129 [.bp [vi p2] 0])],[]⟩ trivial trivial ?_
 refine AX.si [] [0,1,5] [] ⟨[(0,.bs false 2 (List.map aa p1)),(1,.fn 129 [.bp [vi p2] 0]),(5,.v (.slice none 0 0))],[]⟩ trivial trivial ?_
 refine AX.seq ?_
 refine AX.si [aN,aY (vi (p1.length:Int))] [1,5,8,9,10] [] ⟨[(1,.fn 129 [.bp [vi p2] 0]),(5,.v (.slice none 0 0)),(8,.bs false 2 (List.map aa p1)),(9,vi (p1.length:Int)),(10,vi 0)],[]⟩ (pa (⟨trivial,aS aa p1⟩:(True∧(vi ((List.map aa p1).length:Int)=vi (p1.length:Int)))) <| trivial) trivial ?_
 refine AX.block ?_
 obtain ⟨x6,e6,h⟩:=ak h
 refine AX.wk (Wk.mat 5 0 1 (by kernel_rfl) (Nat.le_of_ble_eq_true (by kernel_rfl)) (by kernel_rfl) rfl) ?_
 refine AX.wk (Wk.fg [1,5,8,9,10] [0] ⟨[(1,.fn 129 [.bp [vi p2] 0]),(5,.sl 0 0 (([]:List ByteArray).length)),(8,.bs false 2 (List.map aa p1)),(9,vi (p1.length:Int)),(10,vi 0)],[(0,.arr 1 (List.map ab ([]:List ByteArray)))]⟩) ?_
 refine AX.mono (jA p1 p2 FU (([]:List ByteArray),0) x6 e6) ?_
 rintro _ _ ⟨rfl,rfl⟩
 skip
 refine AX.seq ?_
 obtain ⟨x7,e7,h⟩:=ak h
 refine AX.rh [aN,.call 132 [.sl 0 0 x6.length] (aD (rho ([0]++[])) [0] [.arr 1 (List.map ab x6)]++[]) (ah [0] [] (.sl 0 0 x6.length) [.arr 1 (List.map ab x6)])] [4] [0] ⟨[(4,.sl 0 0 x6.length)],[(0,.arr 1 (List.map ab x6))]⟩ (pa (⟨rfl,rfl,trivial⟩:((([.sl 0 0 x6.length]:List AV)=[.sl 0 0 x6.length])∧(AO.arr 1 (List.map ab x6)=AO.arr 1 (List.map ab x6))∧True)) <| trivial) ⟨aA (ks:=[0]) (ns:=[]) (bor:=[]) (bobjs:=[]) (lT x6 x7 e7) (.cons cS (.nil)) (by kernel_rfl) ⟨.inr rfl,trivial⟩,trivial⟩ ?_
 refine AX.ret ?_
 refine ae (Wk.fg [4] [0] ⟨[(4,.sl 0 0 x6.length)],[(0,.arr 1 (List.map ab x6))]⟩) ?_
 have hr:=Option.some.inj h
 subst hr
 exact ⟨_,Wk.refl _,.inr rfl,⟨[0],by kernel_rfl,⟨rfl,trivial⟩,[.sl 0 0 x6.length],by kernel_rfl,by kernel_rfl⟩⟩

theorem mK (x5:List ByteArray) (x6:List (ByteArray×Int)) (n:Nat) (g:Int×Int) (out:Int) (h:bK x5 x6 n g.1 g.2=some out) :
  AX Tryz.prog 29 0 (codeAt [1,1,1,0,1,1] (aU Tryz.f85)) ((fun g:Int×Int=>(⟨[(6,vi g.1),(7,.sl 0 0 x5.length),(16,.sl 1 0 x6.length),(17,vi (x6.length:Int)),(18,vi g.2)],[(0,.arr 1 (List.map ab x5)),(1,.arr 2 (List.map aa x6))]⟩:S)) g) (fun ex s=>ex=.exit 0∧s=(fun o:Int=>(⟨[(6,vi o),(7,.sl 0 0 x5.length)],[(0,.arr 1 (List.map ab x5))]⟩:S)) out):=by
 refine AX.wkpost ?_
 refine AX.loop (G:=Nat×(Int×Int)) (fun q=>(fun g:Int×Int=>(⟨[(6,vi g.1),(7,.sl 0 0 x5.length),(16,.sl 1 0 x6.length),(17,vi (x6.length:Int)),(18,vi g.2)],[(0,.arr 1 (List.map ab x5)),(1,.arr 2 (List.map aa x6))]⟩:S)) q.2) (fun q=>bK x5 x6 q.1 q.2.1 q.2.2=some out) (fun q=>q.1) (n,g) h (Wk.refl _) ?_
 clear h
 rintro ⟨fu,v7,v8⟩ h
 cases fu with
 | zero=>cases h
 | succ fu =>
  rw [bK] at h
  refine AX.si [] [6,7,16,17,18,19] [0,1] ⟨[(6,vi v7),(7,.sl 0 0 x5.length),(16,.sl 1 0 x6.length),(17,vi (x6.length:Int)),(18,vi v8),(19,vb (decide (v8<(x6.length:Int))))],[(0,.arr 1 (List.map ab x5)),(1,.arr 2 (List.map aa x6))]⟩ trivial trivial ?_
  refine AX.seq ?_
  rcases ac (decide (v8<(x6.length:Int))) with b4 | b4
  ·replace h:=am b4 h
   refine AX.cT (decide (v8<(x6.length:Int))) b4 ?_
   refine AX.skip ?_
   refine AX.seq ?_
   refine AX.block ?_
   refine AX.seq ?_
   obtain ⟨g5,h⟩:=aw h
   refine AX.rh [aN,aY (.agg [vs ((gt x6 v8).1),vi ((gt x6 v8).2)]),.auto { nk:=2 }] [6,7,9,16,17,18] [0,1,2] ⟨[(6,vi v7),(7,.sl 0 0 x5.length),(9,.pt 2 0),(16,.sl 1 0 x6.length),(17,vi (x6.length:Int)),(18,vi v8)],[(0,.arr 1 (List.map ab x5)),(1,.arr 2 (List.map aa x6)),(2,.box [vs ((gt x6 v8).1),vi ((gt x6 v8).2)])]⟩ (pa g5 <| pa (⟨trivial,(congrArg (fun z:List Value=>AV.agg (((z.drop 0).take 2).map .v)) (au (enc:=aa) rfl g5))⟩:(True∧(AV.agg ((((List.map aa x6).getD (0+v8.toNat) []).drop 0 |>.take 2).map .v)=.agg [vs ((gt x6 v8).1),vi ((gt x6 v8).2)]))) <| trivial) trivial ?_
   refine AX.rh [] [6,7,16,17,18] [0,1] ⟨[(6,vi (Go.bits .andNot .i64 v7 ((gt x6 v8).2))),(7,.sl 0 0 x5.length),(16,.sl 1 0 x6.length),(17,vi (x6.length:Int)),(18,vi v8)],[(0,.arr 1 (List.map ab x5)),(1,.arr 2 (List.map aa x6))]⟩ trivial trivial ?_
   refine AX.rh [.auto { raw:=true }] [6,7,16,17,18] [0,1] ⟨[(6,vi (Go.bits .andNot .i64 v7 ((gt x6 v8).2))),(7,.sl 0 0 x5.length),(16,.sl 1 0 x6.length),(17,vi (x6.length:Int)),(18,vi (IntKind.wrap .i64 (v8+1)))],[(0,.arr 1 (List.map ab x5)),(1,.arr 2 (List.map aa x6))]⟩ trivial trivial ?_
   refine ⟨(fu,(Go.bits .andNot .i64 v7 ((gt x6 v8).2),IntKind.wrap .i64 (v8+1))),h,Nat.lt_succ_self _,?_⟩
   refine Wk.trans (Wk.fg [6,7,16,17,18] [0,1] ⟨[(6,vi (Go.bits .andNot .i64 v7 ((gt x6 v8).2))),(7,.sl 0 0 x5.length),(16,.sl 1 0 x6.length),(17,vi (x6.length:Int)),(18,vi (IntKind.wrap .i64 (v8+1)))],[(0,.arr 1 (List.map ab x5)),(1,.arr 2 (List.map aa x6))]⟩) ?_
   exact Wk.refl _
  ·replace h:=aq b4 h
   refine AX.cF (decide (v8<(x6.length:Int))) b4 ?_
   refine AX.exit ?_
   refine ae (Wk.fg [6,7] [0] ⟨[(6,vi v7),(7,.sl 0 0 x5.length)],[(0,.arr 1 (List.map ab x5))]⟩) ?_
   have hr:=Option.some.inj h
   subst hr
   exact ⟨_,Wk.refl _,⟨rfl,rfl⟩⟩

theorem oH (p1:List (ByteArray×Int)) (p2:Int) (p3:Int) (r:List ByteArray×Int) (h:eD p1 p2 p3=some r) :
  Eng.al Tryz.prog 85 [.agg [.bs false 2 (List.map aa p1),vi p2],vi p3] [] (.tup [.sl 0 0 r.1.length,vi r.2]) [.arr 1 (List.map ab r.1)]:=by
 unfold eD at h
 refine Eng.al.body Tryz.func85 (by kernel_rfl) rfl (by kernel_rfl) ?_
 refine AX.wkpost ?_
 refine AX.si [.auto { nk:=0 },.auto { nk:=1 }] [2,3] [0,1] ⟨[(2,.pt 0 0),(3,.pt 1 0)],[(0,.box [.bs false 2 (List.map aa p1),vi p2]),(1,.box [vi p3])]⟩ trivial trivial ?_
 refine AX.si [] [2,3,6] [0,1] ⟨[(2,.pt 0 0),(3,.pt 1 0),(6,vi p3)],[(0,.box [.bs false 2 (List.map aa p1),vi p2]),(1,.box [vi p3])]⟩ trivial trivial ?_
 refine AX.seq ?_
 obtain ⟨x4,e1,h⟩:=ak h
 obtain ⟨x5,e2,h⟩:=ak h
 refine AX.rh [aN,.call 128 [.agg [.bs false 2 (List.map aa p1),vi p2]] (aD (rho ([]++[2])) [] []++[]) (ah [] [2] (.sl 0 0 x4.length) [.arr 2 (List.map aa x4)]),aN,.call 87 [.sl 2 0 x4.length,.fn 129 [.pt 1 0]] (aD (rho ([]++[3])) [] []++[(2,.arr 2 (List.map aa x4)),(1,.box [vi p3])]) (ah [] [3] (.sl 0 0 x5.length) [.arr 1 (List.map ab x5)])] [2,6,7] [0,3] ⟨[(2,.pt 0 0),(6,vi p3),(7,.sl 3 0 x5.length)],[(0,.box [.bs false 2 (List.map aa p1),vi p2]),(3,.arr 1 (List.map ab x5))]⟩ (pa (smA [.agg [.bs false 2 (List.map aa p1),vi p2]]) <| pa (⟨rfl,rfl,rfl,trivial⟩:((([.sl 2 0 x4.length,.fn 129 [.pt 1 0]]:List AV)=[.sl 2 0 x4.length,.fn 129 [.pt 1 0]])∧(AO.arr 2 (List.map aa x4)=AO.arr 2 (List.map aa x4))∧(AO.box [vi p3]=AO.box [vi p3])∧True)) <| trivial) ⟨aA (ks:=[]) (ns:=[2]) (bor:=[]) (bobjs:=[]) (kq p1 p2 x4 e1) (.cons (.c1 (.agg (.cons (.same _ (by kernel_rfl) (by kernel_rfl)) (.cons (.same _ (by kernel_rfl) (by kernel_rfl)) (.nil))))) (.nil)) (by kernel_rfl) trivial,aA (ks:=[]) (ns:=[3]) (bor:=[2,1]) (bobjs:=[(2,.arr 2 (List.map aa x4)),(1,.box [vi p3])]) (kp x4 p3 x5 e2) (.cons (.c1 (.c0 (.arr rfl rfl ((rfl).trans (List.length_map ..).symm)))) (.cons (.fn (.cons (.box rfl rfl (.cons (.same _ (by kernel_rfl) (by kernel_rfl)) (.nil))) (.nil))) (.nil))) (by kernel_rfl) trivial,trivial⟩ ?_
 refine AX.seq ?_
 refine AX.seq ?_
 obtain ⟨x6,e3,h⟩:=ak h
 refine AX.rh [aN,.call 128 [.agg [.bs false 2 (List.map aa p1),vi p2]] (aD (rho ([]++[4])) [] []++[]) (ah [] [4] (.sl 0 0 x6.length) [.arr 2 (List.map aa x6)])] [6,7,16,17,18] [3,4] ⟨[(6,vi p3),(7,.sl 3 0 x5.length),(16,.sl 4 0 x6.length),(17,vi (x6.length:Int)),(18,vi 0)],[(3,.arr 1 (List.map ab x5)),(4,.arr 2 (List.map aa x6))]⟩ (pa (smA [.agg [.bs false 2 (List.map aa p1),vi p2]]) <| trivial) ⟨aA (ks:=[]) (ns:=[4]) (bor:=[]) (bobjs:=[]) (kq p1 p2 x6 e3) (.cons (.c1 (.agg (.cons (.same _ (by kernel_rfl) (by kernel_rfl)) (.cons (.same _ (by kernel_rfl) (by kernel_rfl)) (.nil))))) (.nil)) (by kernel_rfl) trivial,trivial⟩ ?_
 refine AX.block ?_
 obtain ⟨x9,e6,h⟩:=ak h
 refine AX.wk (Wk.swap 0 3 (Nat.le_of_ble_eq_true (by kernel_rfl)) (Nat.le_of_ble_eq_true (by kernel_rfl)) rfl) ?_
 refine AX.wk (Wk.swap 1 4 (Nat.le_of_ble_eq_true (by kernel_rfl)) (Nat.le_of_ble_eq_true (by kernel_rfl)) rfl) ?_
 refine AX.wk (Wk.fg [6,7,16,17,18] [0,1] ⟨[(6,vi p3),(7,.sl 0 0 x5.length),(16,.sl 1 0 x6.length),(17,vi (x6.length:Int)),(18,vi 0)],[(0,.arr 1 (List.map ab x5)),(1,.arr 2 (List.map aa x6))]⟩) ?_
 refine AX.mono (mK x5 x6 FU (p3,0) x9 e6) ?_
 rintro _ _ ⟨rfl,rfl⟩
 skip
 refine AX.si [] [4,5] [0] ⟨[(4,.sl 0 0 x5.length),(5,vi x9)],[(0,.arr 1 (List.map ab x5))]⟩ trivial trivial ?_
 refine AX.ret ?_
 refine ae (Wk.fg [4,5] [0] ⟨[(4,.sl 0 0 x5.length),(5,vi x9)],[(0,.arr 1 (List.map ab x5))]⟩) ?_
 have hr:=Option.some.inj h
 subst hr
 exact ⟨_,Wk.refl _,.inr rfl,⟨[0],by kernel_rfl,⟨rfl,trivial⟩,[.sl 0 0 x5.length,vi x9],by kernel_rfl,by kernel_rfl⟩⟩

theorem ro (p1:List ByteArray) (r:List ByteArray) (h:gX p1=some r) :
  Eng.al Tryz.prog 125 [.bs false 1 (List.map ab p1)] [] (.sl 0 0 r.length) [.arr 1 (List.map ab r)]:=by
 unfold gX at h
 obtain ⟨g1,h⟩:=aw h
 have hr:=Option.some.inj h
 subst hr
 refine Eng.al.body Tryz.func125 (by kernel_rfl) rfl (by kernel_rfl) ?_
 refine AX.wkpost ?_
 refine AX.si [] [0] [] ⟨[(0,.bs false 1 (List.map ab p1))],[]⟩ trivial trivial ?_
 refine AX.nilEq (l:=false) (sz:=1) (es:=(List.map ab p1)) (s0:=(⟨[(2,.sl 1 0 p1.length)],[(1,.arr 1 (List.map ab p1))]⟩:S)) .ret rfl rfl rfl rfl rfl rfl Tryz.underlying23 (by kernel_rfl) (by kernel_rfl) (by kernel_rfl) ⟨_,Wk.refl _,.inr rfl,⟨[1],by kernel_rfl,⟨rfl,trivial⟩,[.sl 1 0 p1.length],by kernel_rfl,by kernel_rfl⟩⟩ ?_
 intro b hb
 rcases ac b with h1 | h1
 ·subst h1
  have hp:p1=[]:=by simpa using hb rfl
  subst hp
  refine AX.cT true rfl ?_
  refine AX.si [] [2] [] ⟨[(2,.v (.slice none 0 0))],[]⟩ trivial trivial ?_
  refine AX.wk (Wk.mat 2 1 1 (by kernel_rfl) (Nat.le_of_ble_eq_true (by kernel_rfl)) (by kernel_rfl) rfl) ?_
  refine AX.wk (Wk.fg [2] [1] ⟨[(2,.sl 1 0 0)],[(1,.arr 1 [])]⟩) ?_
  exact AX.ret ⟨rfl,rfl⟩
 ·subst h1
  refine AX.cF false rfl ?_
  refine AX.skip ?_
  refine AX.si [.auto { nk:=0 },aN,.auto { y:=some (.sl 1 0 p1.length),nk:=1 }] [2] [1] ⟨[(2,.sl 1 0 p1.length)],[(1,.arr 1 (List.map ab p1))]⟩ (pa (⟨⟨⟨trivial,trivial⟩,by simpa using g1⟩,cj (enc:=ab) rfl⟩:((((True)∧(True))∧(([]:List (List Value)).length+(List.map ab p1).length≤1099511627776))∧(AV.sl 1 0 (List.map ab p1).length=AV.sl 1 0 p1.length))) <| trivial) trivial ?_
  exact AX.ret ⟨rfl,rfl⟩

theorem nb (p1:List ByteArray) (p2:ByteArray) (r:ByteArray) (h:fM p1 p2=some r) :
  Eng.al Tryz.prog 126 [.bs false 1 (List.map ab p1),vs p2] [] (vs r) []:=by
 unfold fM at h
 obtain ⟨g1,h⟩:=aw h
 obtain ⟨g2,h⟩:=aw h
 have hr:=Option.some.inj h
 subst hr
 refine jU (r:=.string ⟨(Lib.join (p1.map (·.data.toList)) p2.data.toList).toArray⟩) ⟨_,Tryz.func126,by kernel_rfl,by kernel_rfl⟩ (fun X m sh=>by simp only [VR]) ?_
 intro X m vs hv
 simp only [VRs] at hv
 obtain ⟨v,_,rfl,hb,y,_,rfl,hy,rfl⟩:=hv
 simp only [VR] at hy
 subst hy
 rcases sk hb with ⟨h0,a,c,rfl⟩ | ⟨b,off,c,rfl,hc,hlt,hcells⟩
 ·subst h0
  refine (Tryz.strings_Join_none a c p2 X.w0).mono ?_
  rintro e w' ⟨rfl,rfl⟩
  exact ⟨by simp [Lib.join_nil],RowKit.Below.refl _ _⟩
 ·refine (Tryz.strings_Join b off c p1 p2 X.w0 hcells hlt g1 hc g2).mono ?_
  rintro e w' ⟨rfl,hw⟩
  exact ⟨rfl,hw⟩

theorem lV (p1:List (ByteArray×Int)) (p2:Int) (p3:List ByteArray) (p4:Int) (r:ByteArray) (h:eI p1 p2 p3 p4=some r) :
  Eng.al Tryz.prog 84 [.agg [.bs false 2 (List.map aa p1),vi p2],.bs false 1 (List.map ab p3),vi p4] [] (vs r) []:=by
 unfold eI at h
 refine Eng.al.body Tryz.func84 (by kernel_rfl) rfl (by kernel_rfl) ?_
 refine AX.wkpost ?_
 refine AX.si [.auto { nk:=0 }] [1,2,3] [0] ⟨[(1,.bs false 1 (List.map ab p3)),(2,vi p4),(3,.pt 0 0)],[(0,.box [.bs false 2 (List.map aa p1),vi p2])]⟩ trivial trivial ?_
 refine AX.seq ?_
 obtain ⟨x5,e1,h⟩:=ak h
 refine AX.rh [aN,.call 125 [.bs false 1 (List.map ab p3)] (aD (rho ([]++[1])) [] []++[]) (ah [] [1] (.sl 0 0 x5.length) [.arr 1 (List.map ab x5)])] [2,3,7] [0,1] ⟨[(2,vi p4),(3,.pt 0 0),(7,.sl 1 0 x5.length)],[(0,.box [.bs false 2 (List.map aa p1),vi p2]),(1,.arr 1 (List.map ab x5))]⟩ (pa (smA [.bs false 1 (List.map ab p3)]) <| trivial) ⟨aA (ks:=[]) (ns:=[1]) (bor:=[]) (bobjs:=[]) (ro p3 x5 e1) (.cons cS (.nil)) (by kernel_rfl) trivial,trivial⟩ ?_
 refine AX.seq ?_
 refine AX.si [] [2,3,7,12] [0,1] ⟨[(2,vi p4),(3,.pt 0 0),(7,.sl 1 0 x5.length),(12,vb (!decide (p4=0)))],[(0,.box [.bs false 2 (List.map aa p1),vi p2]),(1,.arr 1 (List.map ab x5))]⟩ trivial trivial ?_
 rcases ac ((!decide (p4=0))) with b2 | b2
 ·replace h:=am b2 h
  refine AX.cT ((!decide (p4=0))) b2 ?_
  obtain ⟨x6,e3,h⟩:=ak h
  obtain ⟨g4,h⟩:=aw h
  refine AX.rh [aN,aN,.call 41 [vi p4] hN (ah [] [] (vs x6) []),.auto { nk:=2 },.auto { y:=some (.sl 3 0 ((x5++([x6]:List ByteArray)).length)),els:=some (List.map ab x5),els2:=some (List.map ab ([x6]:List ByteArray)),nk:=3 }] [3,7] [0,3] ⟨[(3,.pt 0 0),(7,.sl 3 0 ((x5++([x6]:List ByteArray)).length))],[(0,.box [.bs false 2 (List.map aa p1),vi p2]),(3,.arr 1 (List.map ab x5++List.map ab ([x6]:List ByteArray)))]⟩ (pa (smA [vi p4]) <| pa (⟨⟨⟨(bc (enc:=ab) rfl rfl),(bc (enc:=ab) rfl rfl)⟩,(by simp only [List.length_map,List.length_nil,List.length_replicate];simpa using g4)⟩,cj (enc:=ab) (aH (enc:=ab) rfl (rfl))⟩:((((((List.map ab x5).drop 0).take (x5.length)=List.map ab x5)∧(((List.map ab ([x6]:List ByteArray)).drop 0).take (([x6]:List ByteArray).length)=List.map ab ([x6]:List ByteArray)))∧(List.map ab x5).length+(List.map ab ([x6]:List ByteArray)).length≤1099511627776)∧(AV.sl 3 0 (List.map ab x5++List.map ab ([x6]:List ByteArray)).length=AV.sl 3 0 (x5++([x6]:List ByteArray)).length))) <| trivial) ⟨co (iY p4 x6 e3) (.cons cS (.nil)),trivial⟩ ?_
  refine AX.seq ?_
  refine AX.seq ?_
  obtain ⟨v7,q5,h⟩:=bT h
  refine AX.rh [aN,aN,aY (vb v7)] [3,7,20] [0,3] ⟨[(3,.pt 0 0),(7,.sl 3 0 ((x5++([x6]:List ByteArray)).length)),(20,vb v7)],[(0,.box [.bs false 2 (List.map aa p1),vi p2]),(3,.arr 1 (List.map ab x5++List.map ab ([x6]:List ByteArray)))]⟩ (pa (pb (cb q5)) <| trivial) trivial ?_
  rcases ac (v7) with b6 | b6
  ·replace h:=am b6 h
   refine AX.cT (v7) b6 ?_
   refine AX.seq ?_
   obtain ⟨x8,e7,h⟩:=ak h
   refine AX.rh [aN,.call 126 [.sl 3 0 ((x5++([x6]:List ByteArray)).length),vs (ByteArray.mk #[124])] (aD (rho ([]++[])) [] []++[(3,.arr 1 (List.map ab (x5++([x6]:List ByteArray))))]) (ah [] [] (vs x8) [])] [6] [] ⟨[(6,vs x8)],[]⟩ (pa (⟨rfl,zp (aH (enc:=ab) rfl (rfl):List.map ab x5++List.map ab ([x6]:List ByteArray)=List.map ab (x5++([x6]:List ByteArray))),trivial⟩:((([.sl 3 0 ((x5++([x6]:List ByteArray)).length),vs (ByteArray.mk #[124])]:List AV)=[.sl 3 0 ((x5++([x6]:List ByteArray)).length),vs (ByteArray.mk #[124])])∧(AO.arr 1 (List.map ab x5++List.map ab ([x6]:List ByteArray))=AO.arr 1 (List.map ab (x5++([x6]:List ByteArray))))∧True)) <| trivial) ⟨aA (ks:=[]) (ns:=[]) (bor:=[3]) (bobjs:=[(3,.arr 1 (List.map ab (x5++([x6]:List ByteArray))))]) (nb (x5++([x6]:List ByteArray)) (ByteArray.mk #[124]) x8 e7) (.cons (.c1 (.c0 (.arr rfl rfl ((rfl).trans (List.length_map ..).symm)))) (.cons cS (.nil))) (by kernel_rfl) trivial,trivial⟩ ?_
   refine AX.ret ?_
   refine ae (Wk.fg [6] [] ⟨[(6,vs x8)],[]⟩) ?_
   have hr:=Option.some.inj h
   subst hr
   exact ⟨_,Wk.refl _,.inr rfl,⟨[],by kernel_rfl,trivial,[vs x8],by kernel_rfl,by kernel_rfl⟩⟩
  ·replace h:=aq b6 h
   refine AX.cF (v7) b6 ?_
   refine AX.skip ?_
   refine AX.seq ?_
   refine AX.seq ?_
   obtain ⟨x9,e8,h⟩:=ak h
   refine AX.rh [aN,aN,.call 127 [.bs false 2 (List.map aa p1),vi 0] hN (ah [] [] (vi x9) [])] [3,8] [0] ⟨[(3,.pt 0 0),(8,vi x9)],[(0,.box [.bs false 2 (List.map aa p1),vi p2])]⟩ (pa (smA [.bs false 2 (List.map aa p1),vi 0]) <| trivial) ⟨co (lb p1 0 x9 e8) (.cons cS (.cons cS (.nil))),trivial⟩ ?_
   refine AX.si [] [3,8,27] [0] ⟨[(3,.pt 0 0),(8,vi x9),(27,vb (decide (0≤x9)))],[(0,.box [.bs false 2 (List.map aa p1),vi p2])]⟩ trivial trivial ?_
   rcases ac (decide (0≤x9)) with b9 | b9
   ·replace h:=am b9 h
    refine AX.cT (decide (0≤x9)) b9 ?_
    refine AX.seq ?_
    obtain ⟨g10,h⟩:=aw h
    refine AX.rh [aN,aN,aN,aY (.be 2 (aa (gt p1 x9)) 0)] [6] [] ⟨[(6,vs ((gt p1 x9).1))],[]⟩ (pa (aJ aa p1 x9 2 g10) <| trivial) trivial ?_
    refine AX.ret ?_
    refine ae (Wk.fg [6] [] ⟨[(6,vs ((gt p1 x9).1))],[]⟩) ?_
    have hr:=Option.some.inj h
    subst hr
    exact ⟨_,Wk.refl _,.inr rfl,⟨[],by kernel_rfl,trivial,[vs ((gt p1 x9).1)],by kernel_rfl,by kernel_rfl⟩⟩
   ·replace h:=aq b9 h
    refine AX.cF (decide (0≤x9)) b9 ?_
    refine AX.skip ?_
    refine AX.si [] [6] [] ⟨[(6,vs (ByteArray.mk #[48]))],[]⟩ trivial trivial ?_
    refine AX.ret ?_
    refine ae (Wk.fg [6] [] ⟨[(6,vs (ByteArray.mk #[48]))],[]⟩) ?_
    have hr:=Option.some.inj h
    subst hr
    exact ⟨_,Wk.refl _,.inr rfl,⟨[],by kernel_rfl,trivial,[vs (ByteArray.mk #[48])],by kernel_rfl,by kernel_rfl⟩⟩
 ·replace h:=aq b2 h
  refine AX.cF ((!decide (p4=0))) b2 ?_
  refine AX.skip ?_
  refine AX.seq ?_
  refine AX.si [] [3,7,20] [0,1] ⟨[(3,.pt 0 0),(7,.sl 1 0 x5.length),(20,vb (decide (0<(x5.length:Int))))],[(0,.box [.bs false 2 (List.map aa p1),vi p2]),(1,.arr 1 (List.map ab x5))]⟩ trivial trivial ?_
  rcases ac (decide (0<(x5.length:Int))) with b11 | b11
  ·replace h:=am b11 h
   refine AX.cT (decide (0<(x5.length:Int))) b11 ?_
   refine AX.seq ?_
   obtain ⟨x10,e12,h⟩:=ak h
   refine AX.rh [aN,.call 126 [.sl 1 0 x5.length,vs (ByteArray.mk #[124])] (aD (rho ([]++[])) [] []++[(1,.arr 1 (List.map ab x5))]) (ah [] [] (vs x10) [])] [6] [] ⟨[(6,vs x10)],[]⟩ (pa (⟨rfl,rfl,trivial⟩:((([.sl 1 0 x5.length,vs (ByteArray.mk #[124])]:List AV)=[.sl 1 0 x5.length,vs (ByteArray.mk #[124])])∧(AO.arr 1 (List.map ab x5)=AO.arr 1 (List.map ab x5))∧True)) <| trivial) ⟨aA (ks:=[]) (ns:=[]) (bor:=[1]) (bobjs:=[(1,.arr 1 (List.map ab x5))]) (nb x5 (ByteArray.mk #[124]) x10 e12) (.cons (.c1 (.c0 (.arr rfl rfl ((rfl).trans (List.length_map ..).symm)))) (.cons cS (.nil))) (by kernel_rfl) trivial,trivial⟩ ?_
   refine AX.ret ?_
   refine ae (Wk.fg [6] [] ⟨[(6,vs x10)],[]⟩) ?_
   have hr:=Option.some.inj h
   subst hr
   exact ⟨_,Wk.refl _,.inr rfl,⟨[],by kernel_rfl,trivial,[vs x10],by kernel_rfl,by kernel_rfl⟩⟩
  ·replace h:=aq b11 h
   refine AX.cF (decide (0<(x5.length:Int))) b11 ?_
   refine AX.skip ?_
   refine AX.seq ?_
   refine AX.seq ?_
   obtain ⟨x11,e13,h⟩:=ak h
   refine AX.rh [aN,aN,.call 127 [.bs false 2 (List.map aa p1),vi 0] hN (ah [] [] (vi x11) [])] [3,8] [0] ⟨[(3,.pt 0 0),(8,vi x11)],[(0,.box [.bs false 2 (List.map aa p1),vi p2])]⟩ (pa (smA [.bs false 2 (List.map aa p1),vi 0]) <| trivial) ⟨co (lb p1 0 x11 e13) (.cons cS (.cons cS (.nil))),trivial⟩ ?_
   refine AX.si [] [3,8,27] [0] ⟨[(3,.pt 0 0),(8,vi x11),(27,vb (decide (0≤x11)))],[(0,.box [.bs false 2 (List.map aa p1),vi p2])]⟩ trivial trivial ?_
   rcases ac (decide (0≤x11)) with b14 | b14
   ·replace h:=am b14 h
    refine AX.cT (decide (0≤x11)) b14 ?_
    refine AX.seq ?_
    obtain ⟨g15,h⟩:=aw h
    refine AX.rh [aN,aN,aN,aY (.be 2 (aa (gt p1 x11)) 0)] [6] [] ⟨[(6,vs ((gt p1 x11).1))],[]⟩ (pa (aJ aa p1 x11 2 g15) <| trivial) trivial ?_
    refine AX.ret ?_
    refine ae (Wk.fg [6] [] ⟨[(6,vs ((gt p1 x11).1))],[]⟩) ?_
    have hr:=Option.some.inj h
    subst hr
    exact ⟨_,Wk.refl _,.inr rfl,⟨[],by kernel_rfl,trivial,[vs ((gt p1 x11).1)],by kernel_rfl,by kernel_rfl⟩⟩
   ·replace h:=aq b14 h
    refine AX.cF (decide (0≤x11)) b14 ?_
    refine AX.skip ?_
    refine AX.si [] [6] [] ⟨[(6,vs (ByteArray.mk #[48]))],[]⟩ trivial trivial ?_
    refine AX.ret ?_
    refine ae (Wk.fg [6] [] ⟨[(6,vs (ByteArray.mk #[48]))],[]⟩) ?_
    have hr:=Option.some.inj h
    subst hr
    exact ⟨_,Wk.refl _,.inr rfl,⟨[],by kernel_rfl,trivial,[vs (ByteArray.mk #[48])],by kernel_rfl,by kernel_rfl⟩⟩

end Go.Eng
