/- What is proved here: each function keeps to its model, whatever its arguments, wherever the model has an answer. Printed by gen.py. -/
import Derived.Test.YtdnlgpmmkchopaaGreatDoorCExactRunDeskWalk5
import Derived.Test.YtdnlgpmmkchopaaGreatDoorProg
import Derived.Test.YtdnlgpmmkchopaaGreatDoorCExactRunDeskShelf
import Derived.KernelRfl
set_option linter.unusedVariables false
set_option linter.unusedSimpArgs false
namespace Go.Eng
open Go Go.Proofs

theorem eM (p1:List (ByteArray×Int)) (p2:Int) (p3:Int) (r:ByteArray) (h:bo p1 p2 p3=some r) :
  Eng.al Tryz.prog 42 [.agg [.bs false 2 (List.map aa p1),vi p2],vi p3] [] (vs r) []:=by
 unfold bo at h
 refine Eng.al.body Tryz.func42 (by kernel_rfl) rfl (by kernel_rfl) ?_
 refine AX.wkpost ?_
 refine AX.si [.auto { nk:=0 }] [1,2] [0] ⟨[(1,vi p3),(2,.pt 0 0)],[(0,.box [.bs false 2 (List.map aa p1),vi p2])]⟩ trivial trivial ?_
 refine AX.seq ?_
 refine AX.seq ?_
 obtain ⟨x4,e1,h⟩:=ak h
 refine AX.rh [aN,aN,.call 82 [.agg [.bs false 2 (List.map aa p1),vi p2],vi p3] hN (ah [] [] (vb x4) [])] [1,2,8] [0] ⟨[(1,vi p3),(2,.pt 0 0),(8,vb (!x4))],[(0,.box [.bs false 2 (List.map aa p1),vi p2])]⟩ (pa (smA [.agg [.bs false 2 (List.map aa p1),vi p2],vi p3]) <| trivial) ⟨co (ca p1 p2 p3 x4 e1) (.cons (.c1 (.agg (.cons (.same _ (by kernel_rfl) (by kernel_rfl)) (.cons (.same _ (by kernel_rfl) (by kernel_rfl)) (.nil))))) (.cons cS (.nil))),trivial⟩ ?_
 rcases ac ((!x4)) with b2 | b2
 ·replace h:=am b2 h
  refine AX.cT ((!x4)) b2 ?_
  refine AX.si [] [4] [] ⟨[(4,vs ByteArray.empty)],[]⟩ trivial trivial ?_
  refine AX.ret ?_
  refine ae (Wk.fg [4] [] ⟨[(4,vs ByteArray.empty)],[]⟩) ?_
  have hr:=Option.some.inj h
  subst hr
  exact ⟨_,Wk.refl _,.inr rfl,⟨[],by kernel_rfl,trivial,[vs ByteArray.empty],by kernel_rfl,by kernel_rfl⟩⟩
 ·replace h:=aq b2 h
  refine AX.cF ((!x4)) b2 ?_
  refine AX.skip ?_
  refine AX.seq ?_
  obtain ⟨x5,e3,h⟩:=ak h
  obtain ⟨x6,e4,h⟩:=ak h
  refine AX.dh mixed [aN,aN,aN,.call 85 [.agg [.bs false 2 (List.map aa p1),vi p2],vi p3] (aD (rho ([]++[1])) [] []++[]) (ah [] [1] (.tup [.sl 0 0 x5.1.length,vi x5.2]) [.arr 1 (List.map ab x5.1)]),aN,aN,.call 84 [.agg [.bs false 2 (List.map aa p1),vi p2],.sl 1 0 x5.1.length,vi x5.2] (aD (rho ([]++[])) [] []++[(1,.arr 1 (List.map ab x5.1))]) (ah [] [] (vs x6) [])] [4] [] ⟨[(4,vs x6)],[]⟩ (pa (smA [.agg [.bs false 2 (List.map aa p1),vi p2],vi p3]) <| pa (⟨rfl,rfl,trivial⟩:((([.agg [.bs false 2 (List.map aa p1),vi p2],.sl 1 0 x5.1.length,vi x5.2]:List AV)=[.agg [.bs false 2 (List.map aa p1),vi p2],.sl 1 0 x5.1.length,vi x5.2])∧(AO.arr 1 (List.map ab x5.1)=AO.arr 1 (List.map ab x5.1))∧True)) <| trivial) ⟨aA (ks:=[]) (ns:=[1]) (bor:=[]) (bobjs:=[]) (oH p1 p2 p3 x5 e3) (.cons (.c1 (.agg (.cons (.same _ (by kernel_rfl) (by kernel_rfl)) (.cons (.same _ (by kernel_rfl) (by kernel_rfl)) (.nil))))) (.cons cS (.nil))) (by kernel_rfl) trivial,aA (ks:=[]) (ns:=[]) (bor:=[1]) (bobjs:=[(1,.arr 1 (List.map ab x5.1))]) (lV p1 p2 x5.1 x5.2 x6 e4) (.cons (.c1 (.agg (.cons (.same _ (by kernel_rfl) (by kernel_rfl)) (.cons (.same _ (by kernel_rfl) (by kernel_rfl)) (.nil))))) (.cons (.c1 (.c0 (.arr rfl rfl ((rfl).trans (List.length_map ..).symm)))) (.cons cS (.nil)))) (by kernel_rfl) trivial,trivial⟩ ?_
  refine AX.ret ?_
  refine ae (Wk.fg [4] [] ⟨[(4,vs x6)],[]⟩) ?_
  have hr:=Option.some.inj h
  subst hr
  exact ⟨_,Wk.refl _,.inr rfl,⟨[],by kernel_rfl,trivial,[vs x6],by kernel_rfl,by kernel_rfl⟩⟩

theorem ta (p1:List (ByteArray×Int)) (p2:Int) (p3:ByteArray) (r:ByteArray) (h:gz p1 p2 p3=some r) :
  Eng.al Tryz.prog 39 [.agg [.bs false 2 (List.map aa p1),vi p2],vs p3] [] (vs r) []:=by
 unfold gz at h
 refine Eng.al.body Tryz.func39 (by kernel_rfl) rfl (by kernel_rfl) ?_
 refine AX.wkpost ?_
 refine AX.si [.auto { nk:=0 }] [1,2] [0] ⟨[(1,vs p3),(2,.pt 0 0)],[(0,.box [.bs false 2 (List.map aa p1),vi p2])]⟩ trivial trivial ?_
 refine AX.seq ?_
 obtain ⟨x4,e1,h⟩:=ak h
 refine AX.rh [aN,.call 69 [vs p3] hN (ah [] [] (.tup [vi x4.1,vb x4.2]) [])] [2,5,6] [0] ⟨[(2,.pt 0 0),(5,vi x4.1),(6,vb x4.2)],[(0,.box [.bs false 2 (List.map aa p1),vi p2])]⟩ (pa (smA [vs p3]) <| trivial) ⟨co (kD p3 x4 e1) (.cons cS (.nil)),trivial⟩ ?_
 refine AX.seq ?_
 refine AX.seq ?_
 rcases ac ((!x4.2)) with b2 | b2
 ·replace h:=am b2 h
  refine AX.rh [aN,aY (vb true)] [2,5,20] [0] ⟨[(2,.pt 0 0),(5,vi x4.1),(20,vb true)],[(0,.box [.bs false 2 (List.map aa p1),vi p2])]⟩ (pa (pb (cb b2)) <| trivial) trivial ?_
  refine AX.cond_true (by kernel_rfl) ?_
  refine AX.si [] [4] [] ⟨[(4,vs (ByteArray.mk #[119,104,97,116]))],[]⟩ trivial trivial ?_
  refine AX.ret ?_
  refine ae (Wk.fg [4] [] ⟨[(4,vs (ByteArray.mk #[119,104,97,116]))],[]⟩) ?_
  have hr:=Option.some.inj h
  subst hr
  exact ⟨_,Wk.refl _,.inr rfl,⟨[],by kernel_rfl,trivial,[vs (ByteArray.mk #[119,104,97,116])],by kernel_rfl,by kernel_rfl⟩⟩
 ·replace h:=aq b2 h
  obtain ⟨x5,e3,h⟩:=ak h
  refine AX.rh [aN,aY (vb false),aN,aN,.call 78 [vi x4.1,vi (-4096),vi 4095] hN (ah [] [] (vb x5) [])] [2,5,20] [0] ⟨[(2,.pt 0 0),(5,vi x4.1),(20,vb (!x5))],[(0,.box [.bs false 2 (List.map aa p1),vi p2])]⟩ (pa (pb (cb b2)) <| pa (smA [vi x4.1,vi (-4096),vi 4095]) <| trivial) ⟨co (fJ x4.1 (-4096) 4095 x5 e3) (.cons cS (.cons cS (.cons cS (.nil)))),trivial⟩ ?_
  rcases ac ((!x5)) with b4 | b4
  ·replace h:=am b4 h
   refine AX.cT ((!x5)) b4 ?_
   refine AX.si [] [4] [] ⟨[(4,vs (ByteArray.mk #[119,104,97,116]))],[]⟩ trivial trivial ?_
   refine AX.ret ?_
   refine ae (Wk.fg [4] [] ⟨[(4,vs (ByteArray.mk #[119,104,97,116]))],[]⟩) ?_
   have hr:=Option.some.inj h
   subst hr
   exact ⟨_,Wk.refl _,.inr rfl,⟨[],by kernel_rfl,trivial,[vs (ByteArray.mk #[119,104,97,116])],by kernel_rfl,by kernel_rfl⟩⟩
  ·replace h:=aq b4 h
   refine AX.cF ((!x5)) b4 ?_
   refine AX.skip ?_
   refine AX.seq ?_
   refine AX.seq ?_
   obtain ⟨x6,e5,h⟩:=ak h
   refine AX.rh [aN,aN,.call 79 [.agg [.bs false 2 (List.map aa p1),vi p2],vi x4.1] hN (ah [] [] (.tup [vi x6.1,vi x6.2]) [])] [2,7,8] [0] ⟨[(2,.pt 0 0),(7,vi x6.1),(8,vi x6.2)],[(0,.box [.bs false 2 (List.map aa p1),vi p2])]⟩ (pa (smA [.agg [.bs false 2 (List.map aa p1),vi p2],vi x4.1]) <| trivial) ⟨co (rO p1 p2 x4.1 x6 e5) (.cons (.c1 (.agg (.cons (.same _ (by kernel_rfl) (by kernel_rfl)) (.cons (.same _ (by kernel_rfl) (by kernel_rfl)) (.nil))))) (.cons cS (.nil))),trivial⟩ ?_
   refine AX.si [] [2,7,27] [0] ⟨[(2,.pt 0 0),(7,vi x6.1),(27,vi x6.2)],[(0,.box [.bs false 2 (List.map aa p1),vi p2])]⟩ trivial trivial ?_
   refine AX.block ?_
   refine AX.si [] [2,7,27,28] [0] ⟨[(2,.pt 0 0),(7,vi x6.1),(27,vi x6.2),(28,vb (decide (x6.2=0)))],[(0,.box [.bs false 2 (List.map aa p1),vi p2])]⟩ trivial trivial ?_
   rcases ac (decide (x6.2=0)) with b6 | b6
   ·replace h:=am b6 h
    refine AX.cT (decide (x6.2=0)) b6 ?_
    refine AX.seq ?_
    obtain ⟨x7,e7,h⟩:=ak h
    refine AX.rh [aN,aN,.call 42 [.agg [.bs false 2 (List.map aa p1),vi p2],vi x6.1] hN (ah [] [] (vs x7) [])] [4] [] ⟨[(4,vs x7)],[]⟩ (pa (smA [.agg [.bs false 2 (List.map aa p1),vi p2],vi x6.1]) <| trivial) ⟨co (eM p1 p2 x6.1 x7 e7) (.cons (.c1 (.agg (.cons (.same _ (by kernel_rfl) (by kernel_rfl)) (.cons (.same _ (by kernel_rfl) (by kernel_rfl)) (.nil))))) (.cons cS (.nil))),trivial⟩ ?_
    refine AX.ret ?_
    refine ae (Wk.fg [4] [] ⟨[(4,vs x7)],[]⟩) ?_
    have hr:=Option.some.inj h
    subst hr
    exact ⟨_,Wk.refl _,.inr rfl,⟨[],by kernel_rfl,trivial,[vs x7],by kernel_rfl,by kernel_rfl⟩⟩
   ·replace h:=aq b6 h
    refine AX.cF (decide (x6.2=0)) b6 ?_
    refine AX.si [] [7,33] [] ⟨[(7,vi x6.1),(33,vb (decide (x6.2=1)))],[]⟩ trivial trivial ?_
    rcases ac (decide (x6.2=1)) with b8 | b8
    ·replace h:=am b8 h
     refine AX.cT (decide (x6.2=1)) b8 ?_
     refine AX.seq ?_
     obtain ⟨x8,e9,h⟩:=ak h
     obtain ⟨g10,h⟩:=aw h
     refine AX.rh [aN,.call 41 [vi x6.1] hN (ah [] [] (vs x8) [])] [4] [] ⟨[(4,vs ((ByteArray.mk #[110,117,109,98,101,114,32])++x8))],[]⟩ (pa (smA [vi x6.1]) <| pa g10 <| trivial) ⟨co (iY x6.1 x8 e9) (.cons cS (.nil)),trivial⟩ ?_
     refine AX.ret ?_
     refine ae (Wk.fg [4] [] ⟨[(4,vs ((ByteArray.mk #[110,117,109,98,101,114,32])++x8))],[]⟩) ?_
     have hr:=Option.some.inj h
     subst hr
     exact ⟨_,Wk.refl _,.inr rfl,⟨[],by kernel_rfl,trivial,[vs ((ByteArray.mk #[110,117,109,98,101,114,32])++x8)],by kernel_rfl,by kernel_rfl⟩⟩
    ·replace h:=aq b8 h
     refine AX.cF (decide (x6.2=1)) b8 ?_
     refine AX.skip ?_
     refine AX.si [] [4] [] ⟨[(4,vs (ByteArray.mk #[119,114,111,110,103]))],[]⟩ trivial trivial ?_
     refine AX.ret ?_
     refine ae (Wk.fg [4] [] ⟨[(4,vs (ByteArray.mk #[119,114,111,110,103]))],[]⟩) ?_
     have hr:=Option.some.inj h
     subst hr
     exact ⟨_,Wk.refl _,.inr rfl,⟨[],by kernel_rfl,trivial,[vs (ByteArray.mk #[119,114,111,110,103])],by kernel_rfl,by kernel_rfl⟩⟩

theorem oy (p1:List (ByteArray×Int)) (p2:Int) (x5:List ByteArray) (n:Nat) (g:Int×Int) (out:Unit ⊕ Int) (h:bG p1 p2 x5 n g.1 g.2=some out) :
  AX Tryz.prog 57 0 (codeAt [1,1,1,0,1,1] (aU Tryz.f40)) ((fun g:Int×Int=>(⟨[(2,.pt 0 0),(6,vi g.1),(16,.sl 1 0 x5.length),(17,vi (x5.length:Int)),(18,vi g.2)],[(0,.box [.bs false 2 (List.map aa p1),vi p2]),(1,.arr 1 (List.map ab x5))]⟩:S)) g) (fun ex s=>(∃ o:Unit,out=Sum.inl o∧ex=.ret∧s=⟨[(4,vi 0),(5,vb false)],[]⟩)∨(∃ o:Int,out=Sum.inr o∧ex=.exit 0∧s=⟨[(2,.pt 0 0),(6,vi o)],[(0,.box [.bs false 2 (List.map aa p1),vi p2])]⟩)):=by
 refine AX.wkpost ?_
 refine AX.loop (G:=Nat×(Int×Int)) (fun q=>(fun g:Int×Int=>(⟨[(2,.pt 0 0),(6,vi g.1),(16,.sl 1 0 x5.length),(17,vi (x5.length:Int)),(18,vi g.2)],[(0,.box [.bs false 2 (List.map aa p1),vi p2]),(1,.arr 1 (List.map ab x5))]⟩:S)) q.2) (fun q=>bG p1 p2 x5 q.1 q.2.1 q.2.2=some out) (fun q=>q.1) (n,g) h (Wk.refl _) ?_
 clear h
 rintro ⟨fu,v6,v7⟩ h
 cases fu with
 | zero=>cases h
 | succ fu =>
  rw [bG] at h
  refine AX.si [] [2,6,16,17,18,19] [0,1] ⟨[(2,.pt 0 0),(6,vi v6),(16,.sl 1 0 x5.length),(17,vi (x5.length:Int)),(18,vi v7),(19,vb (decide (v7<(x5.length:Int))))],[(0,.box [.bs false 2 (List.map aa p1),vi p2]),(1,.arr 1 (List.map ab x5))]⟩ trivial trivial ?_
  refine AX.seq ?_
  rcases ac (decide (v7<(x5.length:Int))) with b4 | b4
  ·replace h:=am b4 h
   refine AX.cT (decide (v7<(x5.length:Int))) b4 ?_
   refine AX.skip ?_
   refine AX.seq ?_
   refine AX.block ?_
   refine AX.seq ?_
   obtain ⟨g5,h⟩:=aw h
   refine AX.rh [aN,aY (vs (gt x5 v7))] [2,6,8,16,17,18] [0,1] ⟨[(2,.pt 0 0),(6,vi v6),(8,vs (gt x5 v7)),(16,.sl 1 0 x5.length),(17,vi (x5.length:Int)),(18,vi v7)],[(0,.box [.bs false 2 (List.map aa p1),vi p2]),(1,.arr 1 (List.map ab x5))]⟩ (pa g5 <| pa (⟨trivial,(congrArg (fun z:List Value=>AV.v (z.getD 0 undef)) (au (enc:=ab) rfl g5))⟩:(True∧(AV.v (((List.map ab x5).getD (0+v7.toNat) []).getD 0 undef)=vs (gt x5 v7)))) <| trivial) trivial ?_
   refine AX.seq ?_
   refine AX.seq ?_
   obtain ⟨x8,e6,h⟩:=ak h
   refine AX.rh [aN,aN,aN,.call 81 [.bs false 2 (List.map aa p1),vs (gt x5 v7)] hN (ah [] [] (vi x8) [])] [2,6,8,9,16,17,18] [0,1] ⟨[(2,.pt 0 0),(6,vi v6),(8,vs (gt x5 v7)),(9,vi x8),(16,.sl 1 0 x5.length),(17,vi (x5.length:Int)),(18,vi v7)],[(0,.box [.bs false 2 (List.map aa p1),vi p2]),(1,.arr 1 (List.map ab x5))]⟩ (pa (smA [.bs false 2 (List.map aa p1),vs (gt x5 v7)]) <| trivial) ⟨co (oQ p1 (gt x5 v7) x8 e6) (.cons cS (.cons cS (.nil))),trivial⟩ ?_
   refine AX.si [] [2,6,8,9,16,17,18,27] [0,1] ⟨[(2,.pt 0 0),(6,vi v6),(8,vs (gt x5 v7)),(9,vi x8),(16,.sl 1 0 x5.length),(17,vi (x5.length:Int)),(18,vi v7),(27,vb (decide (0≤x8)))],[(0,.box [.bs false 2 (List.map aa p1),vi p2]),(1,.arr 1 (List.map ab x5))]⟩ trivial trivial ?_
   rcases ac (decide (0≤x8)) with b7 | b7
   ·replace h:=am b7 h
    refine AX.cT (decide (0≤x8)) b7 ?_
    refine AX.seq ?_
    obtain ⟨g8,h⟩:=aw h
    refine AX.rh [aN,aN,aN,aN,aY (.be 2 (aa (gt p1 x8)) 0)] [2,6,16,17,18] [0,1] ⟨[(2,.pt 0 0),(6,vi (Go.bits .or .i64 v6 ((gt p1 x8).2))),(16,.sl 1 0 x5.length),(17,vi (x5.length:Int)),(18,vi v7)],[(0,.box [.bs false 2 (List.map aa p1),vi p2]),(1,.arr 1 (List.map ab x5))]⟩ (pa (aJ aa p1 x8 2 g8) <| trivial) trivial ?_
    refine AX.exit ?_
    refine AX.rh [.auto { raw:=true }] [2,6,16,17,18] [0,1] ⟨[(2,.pt 0 0),(6,vi (Go.bits .or .i64 v6 ((gt p1 x8).2))),(16,.sl 1 0 x5.length),(17,vi (x5.length:Int)),(18,vi (IntKind.wrap .i64 (v7+1)))],[(0,.box [.bs false 2 (List.map aa p1),vi p2]),(1,.arr 1 (List.map ab x5))]⟩ trivial trivial ?_
    refine ⟨(fu,(Go.bits .or .i64 v6 ((gt p1 x8).2),IntKind.wrap .i64 (v7+1))),h,Nat.lt_succ_self _,?_⟩
    refine Wk.trans (Wk.fg [2,6,16,17,18] [0,1] ⟨[(2,.pt 0 0),(6,vi (Go.bits .or .i64 v6 ((gt p1 x8).2))),(16,.sl 1 0 x5.length),(17,vi (x5.length:Int)),(18,vi (IntKind.wrap .i64 (v7+1)))],[(0,.box [.bs false 2 (List.map aa p1),vi p2]),(1,.arr 1 (List.map ab x5))]⟩) ?_
    exact Wk.refl _
   ·replace h:=aq b7 h
    refine AX.cF (decide (0≤x8)) b7 ?_
    refine AX.skip ?_
    refine AX.seq ?_
    obtain ⟨x9,e9,h⟩:=ak h
    refine AX.rh [aN,.call 69 [vs (gt x5 v7)] hN (ah [] [] (.tup [vi x9.1,vb x9.2]) [])] [2,6,10,11,16,17,18] [0,1] ⟨[(2,.pt 0 0),(6,vi v6),(10,vi x9.1),(11,vb x9.2),(16,.sl 1 0 x5.length),(17,vi (x5.length:Int)),(18,vi v7)],[(0,.box [.bs false 2 (List.map aa p1),vi p2]),(1,.arr 1 (List.map ab x5))]⟩ (pa (smA [vs (gt x5 v7)]) <| trivial) ⟨co (kD (gt x5 v7) x9 e9) (.cons cS (.nil)),trivial⟩ ?_
    refine AX.seq ?_
    refine AX.seq ?_
    rcases ac ((!x9.2)) with b10 | b10
    ·replace h:=am b10 h
     refine AX.rh [aN,aY (vb true)] [2,6,10,16,17,18,47] [0,1] ⟨[(2,.pt 0 0),(6,vi v6),(10,vi x9.1),(16,.sl 1 0 x5.length),(17,vi (x5.length:Int)),(18,vi v7),(47,vb true)],[(0,.box [.bs false 2 (List.map aa p1),vi p2]),(1,.arr 1 (List.map ab x5))]⟩ (pa (pb (cb b10)) <| trivial) trivial ?_
     refine AX.cond_true (by kernel_rfl) ?_
     refine AX.si [] [4,5] [] ⟨[(4,vi 0),(5,vb false)],[]⟩ trivial trivial ?_
     refine AX.ret ?_
     refine ae (Wk.fg [4,5] [] ⟨[(4,vi 0),(5,vb false)],[]⟩) ?_
     have hr:=Option.some.inj h
     subst hr
     exact ⟨_,Wk.refl _,.inl ⟨(),rfl,rfl,rfl⟩⟩
    ·replace h:=aq b10 h
     obtain ⟨x10,e11,h⟩:=ak h
     refine AX.rh [aN,aY (vb false),aN,aN,.call 78 [vi x9.1,vi 0,vi 4095] hN (ah [] [] (vb x10) [])] [2,6,10,16,17,18,47] [0,1] ⟨[(2,.pt 0 0),(6,vi v6),(10,vi x9.1),(16,.sl 1 0 x5.length),(17,vi (x5.length:Int)),(18,vi v7),(47,vb (!x10))],[(0,.box [.bs false 2 (List.map aa p1),vi p2]),(1,.arr 1 (List.map ab x5))]⟩ (pa (pb (cb b10)) <| pa (smA [vi x9.1,vi 0,vi 4095]) <| trivial) ⟨co (fJ x9.1 0 4095 x10 e11) (.cons cS (.cons cS (.cons cS (.nil)))),trivial⟩ ?_
     rcases ac ((!x10)) with b12 | b12
     ·replace h:=am b12 h
      refine AX.cT ((!x10)) b12 ?_
      refine AX.si [] [4,5] [] ⟨[(4,vi 0),(5,vb false)],[]⟩ trivial trivial ?_
      refine AX.ret ?_
      refine ae (Wk.fg [4,5] [] ⟨[(4,vi 0),(5,vb false)],[]⟩) ?_
      have hr:=Option.some.inj h
      subst hr
      exact ⟨_,Wk.refl _,.inl ⟨(),rfl,rfl,rfl⟩⟩
     ·replace h:=aq b12 h
      refine AX.cF ((!x10)) b12 ?_
      refine AX.skip ?_
      refine AX.rh [] [2,6,16,17,18] [0,1] ⟨[(2,.pt 0 0),(6,vi (Go.bits .or .i64 v6 x9.1)),(16,.sl 1 0 x5.length),(17,vi (x5.length:Int)),(18,vi v7)],[(0,.box [.bs false 2 (List.map aa p1),vi p2]),(1,.arr 1 (List.map ab x5))]⟩ trivial trivial ?_
      refine AX.rh [.auto { raw:=true }] [2,6,16,17,18] [0,1] ⟨[(2,.pt 0 0),(6,vi (Go.bits .or .i64 v6 x9.1)),(16,.sl 1 0 x5.length),(17,vi (x5.length:Int)),(18,vi (IntKind.wrap .i64 (v7+1)))],[(0,.box [.bs false 2 (List.map aa p1),vi p2]),(1,.arr 1 (List.map ab x5))]⟩ trivial trivial ?_
      refine ⟨(fu,(Go.bits .or .i64 v6 x9.1,IntKind.wrap .i64 (v7+1))),h,Nat.lt_succ_self _,?_⟩
      refine Wk.trans (Wk.fg [2,6,16,17,18] [0,1] ⟨[(2,.pt 0 0),(6,vi (Go.bits .or .i64 v6 x9.1)),(16,.sl 1 0 x5.length),(17,vi (x5.length:Int)),(18,vi (IntKind.wrap .i64 (v7+1)))],[(0,.box [.bs false 2 (List.map aa p1),vi p2]),(1,.arr 1 (List.map ab x5))]⟩) ?_
      exact Wk.refl _
  ·replace h:=aq b4 h
   refine AX.cF (decide (v7<(x5.length:Int))) b4 ?_
   refine AX.exit ?_
   refine ae (Wk.fg [2,6] [0] ⟨[(2,.pt 0 0),(6,vi v6)],[(0,.box [.bs false 2 (List.map aa p1),vi p2])]⟩) ?_
   have hr:=Option.some.inj h
   subst hr
   exact ⟨_,Wk.refl _,.inr ⟨v6,rfl,rfl,rfl⟩⟩

theorem lZ (p1:List (ByteArray×Int)) (p2:Int) (p3:ByteArray) (r:Int×Bool) (h:eO p1 p2 p3=some r) :
  Eng.al Tryz.prog 40 [.agg [.bs false 2 (List.map aa p1),vi p2],vs p3] [] (.tup [vi r.1,vb r.2]) []:=by
 unfold eO at h
 refine Eng.al.body Tryz.func40 (by kernel_rfl) rfl (by kernel_rfl) ?_
 refine AX.wkpost ?_
 refine AX.si [.auto { nk:=0 }] [1,2] [0] ⟨[(1,vs p3),(2,.pt 0 0)],[(0,.box [.bs false 2 (List.map aa p1),vi p2])]⟩ trivial trivial ?_
 refine AX.seq ?_
 refine AX.seq ?_
 obtain ⟨x4,e1,h⟩:=ak h
 refine AX.rh [aN,.call 80 [.agg [.bs false 2 (List.map aa p1),vi p2]] hN (ah [] [] (vb x4) [])] [1,2,14] [0] ⟨[(1,vs p3),(2,.pt 0 0),(14,vb (!x4))],[(0,.box [.bs false 2 (List.map aa p1),vi p2])]⟩ (pa (smA [.agg [.bs false 2 (List.map aa p1),vi p2]]) <| trivial) ⟨co (dn p1 p2 x4 e1) (.cons (.c1 (.agg (.cons (.same _ (by kernel_rfl) (by kernel_rfl)) (.cons (.same _ (by kernel_rfl) (by kernel_rfl)) (.nil))))) (.nil)),trivial⟩ ?_
 rcases ac ((!x4)) with b2 | b2
 ·replace h:=am b2 h
  refine AX.cT ((!x4)) b2 ?_
  refine AX.si [] [4,5] [] ⟨[(4,vi 0),(5,vb false)],[]⟩ trivial trivial ?_
  refine AX.ret ?_
  refine ae (Wk.fg [4,5] [] ⟨[(4,vi 0),(5,vb false)],[]⟩) ?_
  have hr:=Option.some.inj h
  subst hr
  exact ⟨_,Wk.refl _,.inr rfl,⟨[],by kernel_rfl,trivial,[vi 0,vb false],by kernel_rfl,by kernel_rfl⟩⟩
 ·replace h:=aq b2 h
  refine AX.cF ((!x4)) b2 ?_
  refine AX.skip ?_
  refine AX.si [] [1,2,6] [0] ⟨[(1,vs p3),(2,.pt 0 0),(6,vi 0)],[(0,.box [.bs false 2 (List.map aa p1),vi p2])]⟩ trivial trivial ?_
  refine AX.seq ?_
  refine AX.seq ?_
  obtain ⟨x5,e3,h⟩:=ak h
  refine AX.rh [aN,.call 38 [vs p3,vs (ByteArray.mk #[124])] (aD (rho ([]++[1])) [] []++[]) (ah [] [1] (.sl 0 0 x5.length) [.arr 1 (List.map ab x5)])] [2,6,16,17,18] [0,1] ⟨[(2,.pt 0 0),(6,vi 0),(16,.sl 1 0 x5.length),(17,vi (x5.length:Int)),(18,vi 0)],[(0,.box [.bs false 2 (List.map aa p1),vi p2]),(1,.arr 1 (List.map ab x5))]⟩ (pa (smA [vs p3,vs (ByteArray.mk #[124])]) <| trivial) ⟨aA (ks:=[]) (ns:=[1]) (bor:=[]) (bobjs:=[]) (kj p3 (ByteArray.mk #[124]) x5 e3) (.cons cS (.cons cS (.nil))) (by kernel_rfl) trivial,trivial⟩ ?_
  refine AX.block ?_
  obtain ⟨x11,e13,h⟩:=ak h
  refine AX.wk (Wk.fg [2,6,16,17,18] [0,1] ⟨[(2,.pt 0 0),(6,vi 0),(16,.sl 1 0 x5.length),(17,vi (x5.length:Int)),(18,vi 0)],[(0,.box [.bs false 2 (List.map aa p1),vi p2]),(1,.arr 1 (List.map ab x5))]⟩) ?_
  refine AX.mono (oy p1 p2 x5 FU (0,0) x11 e13) ?_
  rintro _ _ (⟨x12,rfl,rfl,rfl⟩ | ⟨x13,rfl,rfl,rfl⟩)
  ·replace h:=eL h
   refine ae (Wk.fg [4,5] [] ⟨[(4,vi 0),(5,vb false)],[]⟩) ?_
   have hr:=Option.some.inj h
   subst hr
   exact ⟨_,Wk.refl _,.inr rfl,⟨[],by kernel_rfl,trivial,[vi 0,vb false],by kernel_rfl,by kernel_rfl⟩⟩
  ·replace h:=eU h
   refine AX.seq ?_
   refine AX.seq ?_
   obtain ⟨x14,e14,h⟩:=ak h
   refine AX.rh [aN,aN,.call 82 [.agg [.bs false 2 (List.map aa p1),vi p2],vi x13] hN (ah [] [] (vb x14) [])] [6,55] [] ⟨[(6,vi x13),(55,vb (!x14))],[]⟩ (pa (smA [.agg [.bs false 2 (List.map aa p1),vi p2],vi x13]) <| trivial) ⟨co (ca p1 p2 x13 x14 e14) (.cons (.c1 (.agg (.cons (.same _ (by kernel_rfl) (by kernel_rfl)) (.cons (.same _ (by kernel_rfl) (by kernel_rfl)) (.nil))))) (.cons cS (.nil))),trivial⟩ ?_
   rcases ac ((!x14)) with b15 | b15
   ·replace h:=am b15 h
    refine AX.cT ((!x14)) b15 ?_
    refine AX.si [] [4,5] [] ⟨[(4,vi 0),(5,vb false)],[]⟩ trivial trivial ?_
    refine AX.ret ?_
    refine ae (Wk.fg [4,5] [] ⟨[(4,vi 0),(5,vb false)],[]⟩) ?_
    have hr:=Option.some.inj h
    subst hr
    exact ⟨_,Wk.refl _,.inr rfl,⟨[],by kernel_rfl,trivial,[vi 0,vb false],by kernel_rfl,by kernel_rfl⟩⟩
   ·replace h:=aq b15 h
    refine AX.cF ((!x14)) b15 ?_
    refine AX.skip ?_
    refine AX.si [] [4,5] [] ⟨[(4,vi x13),(5,vb true)],[]⟩ trivial trivial ?_
    refine AX.ret ?_
    refine ae (Wk.fg [4,5] [] ⟨[(4,vi x13),(5,vb true)],[]⟩) ?_
    have hr:=Option.some.inj h
    subst hr
    exact ⟨_,Wk.refl _,.inr rfl,⟨[],by kernel_rfl,trivial,[vi x13,vb true],by kernel_rfl,by kernel_rfl⟩⟩

theorem jj (p1:ByteArray) (p2:Int) (p3:Int) (r:Bool) (h:cH p1 p2 p3=some r) :
  Eng.al Tryz.prog 158 [.agg [vs p1,vi p2],.bp [vi p3] 0] [] (vb r) []:=by
 unfold cH at h
 refine Eng.al.body Tryz.func158 (by kernel_rfl) rfl (by kernel_rfl) ?_
 refine AX.wkpost ?_
 refine AX.si [.auto { nk:=0 }] [1,2] [0] ⟨[(1,.bp [vi p3] 0),(2,.pt 0 0)],[(0,.box [vs p1,vi p2])]⟩ trivial trivial ?_
 refine AX.seq ?_
 rcases ac (decide (p2=0)) with b1 | b1
 ·replace h:=am b1 h
  refine AX.rh [aN,aN,aY (vb true)] [3] [] ⟨[(3,vb true)],[]⟩ (pa (pb (cb b1)) <| trivial) trivial ?_
  refine AX.ret ?_
  refine ae (Wk.fg [3] [] ⟨[(3,vb true)],[]⟩) ?_
  have hr:=Option.some.inj h
  subst hr
  exact ⟨_,Wk.refl _,.inr rfl,⟨[],by kernel_rfl,trivial,[vb true],by kernel_rfl,by kernel_rfl⟩⟩
 ·replace h:=aq b1 h
  refine AX.rh [aN,aN,aY (vb false)] [3] [] ⟨[(3,vb (!decide ((Go.bits .andNot .i64 p2 p3)=0)))],[]⟩ (pa (pb (cb b1)) <| trivial) trivial ?_
  refine AX.ret ?_
  refine ae (Wk.fg [3] [] ⟨[(3,vb (!decide ((Go.bits .andNot .i64 p2 p3)=0)))],[]⟩) ?_
  have hr:=Option.some.inj h
  subst hr
  exact ⟨_,Wk.refl _,.inr rfl,⟨[],by kernel_rfl,trivial,[vb (!decide ((Go.bits .andNot .i64 p2 p3)=0))],by kernel_rfl,by kernel_rfl⟩⟩

theorem gU (p1:List (ByteArray×Int)) (p2:Int) (n:Nat) (g:Int) (out:Int ⊕ Unit) (h:aI p1 p2 n g=some out) :
  AX Tryz.prog 19 0 (codeAt [1,0,1,1] (aU Tryz.f122)) ((fun g:Int=>(⟨[(0,.bs false 2 (List.map aa p1)),(1,.fn 158 [.bp [vi p2] 0]),(7,vi (p1.length:Int)),(8,vi g)],[]⟩:S)) g) (fun ex s=>(∃ o:Int,out=Sum.inl o∧ex=.ret∧s=⟨[(4,vi o)],[]⟩)∨(∃ o:Unit,out=Sum.inr o∧ex=.exit 0∧s=⟨[],[]⟩)):=by
 refine AX.wkpost ?_
 refine AX.loop (G:=Nat×(Int)) (fun q=>(fun g:Int=>(⟨[(0,.bs false 2 (List.map aa p1)),(1,.fn 158 [.bp [vi p2] 0]),(7,vi (p1.length:Int)),(8,vi g)],[]⟩:S)) q.2) (fun q=>aI p1 p2 q.1 q.2=some out) (fun q=>q.1) (n,g) h (Wk.refl _) ?_
 clear h
 rintro ⟨fu,v3⟩ h
 cases fu with
 | zero=>cases h
 | succ fu =>
  rw [aI] at h
  refine AX.si [] [0,1,7,8,9] [] ⟨[(0,.bs false 2 (List.map aa p1)),(1,.fn 158 [.bp [vi p2] 0]),(7,vi (p1.length:Int)),(8,vi v3),(9,vb (decide (v3<(p1.length:Int))))],[]⟩ trivial trivial ?_
  refine AX.seq ?_
  rcases ac (decide (v3<(p1.length:Int))) with b1 | b1
  ·replace h:=am b1 h
   refine AX.cT (decide (v3<(p1.length:Int))) b1 ?_
   refine AX.skip ?_
   refine AX.seq ?_
   refine AX.block ?_
   refine AX.si [] [0,1,5,7,8] [] ⟨[(0,.bs false 2 (List.map aa p1)),(1,.fn 158 [.bp [vi p2] 0]),(5,vi v3),(7,vi (p1.length:Int)),(8,vi v3)],[]⟩ trivial trivial ?_
   refine AX.seq ?_
   obtain ⟨g2,h⟩:=aw h
   obtain ⟨x4,e3,h⟩:=ak h
   refine AX.rh [aN,aN,aN,aY (.be 2 (aa (gt p1 v3)) 0),aN,.call 158 [.agg [vs ((gt p1 v3).1),vi ((gt p1 v3).2)],.bp [vi p2] 0] hN (ah [] [] (vb x4) [])] [0,1,5,7,8,16] [] ⟨[(0,.bs false 2 (List.map aa p1)),(1,.fn 158 [.bp [vi p2] 0]),(5,vi v3),(7,vi (p1.length:Int)),(8,vi v3),(16,vb x4)],[]⟩ (pa (aJ aa p1 v3 2 g2) <| pa (smA [.agg [vs ((gt p1 v3).1),vi ((gt p1 v3).2)],.bp [vi p2] 0]) <| trivial) ⟨co (jj ((gt p1 v3).1) ((gt p1 v3).2) p2 x4 e3) (.cons (.c1 (.agg (.cons (.same _ (by kernel_rfl) (by kernel_rfl)) (.cons (.same _ (by kernel_rfl) (by kernel_rfl)) (.nil))))) (.cons (.c1 (.bp (.cons (.same _ (by kernel_rfl) (by kernel_rfl)) (.nil)))) (.nil))),trivial⟩ ?_
   rcases ac (x4) with b4 | b4
   ·replace h:=am b4 h
    refine AX.cT (x4) b4 ?_
    refine AX.si [] [4] [] ⟨[(4,vi v3)],[]⟩ trivial trivial ?_
    refine AX.ret ?_
    refine ae (Wk.fg [4] [] ⟨[(4,vi v3)],[]⟩) ?_
    have hr:=Option.some.inj h
    subst hr
    exact ⟨_,Wk.refl _,.inl ⟨v3,rfl,rfl,rfl⟩⟩
   ·replace h:=aq b4 h
    refine AX.cF (x4) b4 ?_
    refine AX.skip ?_
    refine AX.rh [.auto { raw:=true }] [0,1,7,8] [] ⟨[(0,.bs false 2 (List.map aa p1)),(1,.fn 158 [.bp [vi p2] 0]),(7,vi (p1.length:Int)),(8,vi (IntKind.wrap .i64 (v3+1)))],[]⟩ trivial trivial ?_
    refine ⟨(fu,IntKind.wrap .i64 (v3+1)),h,Nat.lt_succ_self _,?_⟩
    refine Wk.trans (Wk.fg [0,1,7,8] [] ⟨[(0,.bs false 2 (List.map aa p1)),(1,.fn 158 [.bp [vi p2] 0]),(7,vi (p1.length:Int)),(8,vi (IntKind.wrap .i64 (v3+1)))],[]⟩) ?_
    exact Wk.refl _
  ·replace h:=aq b1 h
   refine AX.cF (decide (v3<(p1.length:Int))) b1 ?_
   refine AX.exit ?_
   refine ae (Wk.fg [] [] ⟨[],[]⟩) ?_
   have hr:=Option.some.inj h
   subst hr
   exact ⟨_,Wk.refl _,.inr ⟨(),rfl,rfl,rfl⟩⟩

theorem iB (p1:List (ByteArray×Int)) (p2:Int) (r:Int) (h:bH p1 p2=some r) :
  Eng.al Tryz.prog 122 [.bs false 2 (List.map aa p1),.fn 158 [.bp [vi p2] 0]] [] (vi r) []:=by
 unfold bH at h
 refine Eng.al.body Tryz.func122 (by kernel_rfl) rfl (by kernel_rfl) ?_
 refine AX.wkpost ?_
 refine AX.si [] [0,1] [] ⟨[(0,.bs false 2 (List.map aa p1)),(1,.fn 158 [.bp [vi p2] 0])],[]⟩ trivial trivial ?_
 refine AX.seq ?_
 refine AX.si [aN,aY (vi (p1.length:Int))] [0,1,7,8] [] ⟨[(0,.bs false 2 (List.map aa p1)),(1,.fn 158 [.bp [vi p2] 0]),(7,vi (p1.length:Int)),(8,vi 0)],[]⟩ (pa (⟨trivial,aS aa p1⟩:(True∧(vi ((List.map aa p1).length:Int)=vi (p1.length:Int)))) <| trivial) trivial ?_
 refine AX.block ?_
 obtain ⟨x5,e5,h⟩:=ak h
 refine AX.wk (Wk.fg [0,1,7,8] [] ⟨[(0,.bs false 2 (List.map aa p1)),(1,.fn 158 [.bp [vi p2] 0]),(7,vi (p1.length:Int)),(8,vi 0)],[]⟩) ?_
 refine AX.mono (gU p1 p2 FU 0 x5 e5) ?_
 rintro _ _ (⟨x6,rfl,rfl,rfl⟩ | ⟨x7,rfl,rfl,rfl⟩)
 ·replace h:=eL h
  refine ae (Wk.fg [4] [] ⟨[(4,vi x6)],[]⟩) ?_
  have hr:=Option.some.inj h
  subst hr
  exact ⟨_,Wk.refl _,.inr rfl,⟨[],by kernel_rfl,trivial,[vi x6],by kernel_rfl,by kernel_rfl⟩⟩
 ·replace h:=eU h
  refine AX.si [] [4] [] ⟨[(4,vi (-1))],[]⟩ trivial trivial ?_
  refine AX.ret ?_
  refine ae (Wk.fg [4] [] ⟨[(4,vi (-1))],[]⟩) ?_
  have hr:=Option.some.inj h
  subst hr
  exact ⟨_,Wk.refl _,.inr rfl,⟨[],by kernel_rfl,trivial,[vi (-1)],by kernel_rfl,by kernel_rfl⟩⟩

theorem gP (p2:Int) (n:Nat) (g:Int×Int×(List (ByteArray×Int))) (out:Int×(List (ByteArray×Int))) (h:aE p2 n g.1 g.2.1 g.2.2=some out) :
  AX Tryz.prog 42 2 (codeAt [1,1,1,0,1,1] (aU Tryz.f157)) ((fun g:Int×Int×(List (ByteArray×Int))=>(⟨[(0,.sl 0 0 g.2.2.length),(1,.fn 158 [.pt 1 0]),(5,vi g.1),(6,vi g.2.1)],[(0,.arr 2 (List.map aa g.2.2)),(1,.box [vi p2])]⟩:S)) g) (fun ex s=>ex=.exit 0∧s=(fun o:Int×(List (ByteArray×Int))=>(⟨[(0,.sl 0 0 o.2.length),(5,vi o.1)],[(0,.arr 2 (List.map aa o.2)),(1,.box [vi p2])]⟩:S)) out):=by
 refine AX.wkpost ?_
 refine AX.loop (G:=Nat×(Int×Int×(List (ByteArray×Int)))) (fun q=>(fun g:Int×Int×(List (ByteArray×Int))=>(⟨[(0,.sl 0 0 g.2.2.length),(1,.fn 158 [.pt 1 0]),(5,vi g.1),(6,vi g.2.1)],[(0,.arr 2 (List.map aa g.2.2)),(1,.box [vi p2])]⟩:S)) q.2) (fun q=>aE p2 q.1 q.2.1 q.2.2.1 q.2.2.2=some out) (fun q=>q.1) (n,g) h (Wk.refl _) ?_
 clear h
 rintro ⟨fu,v4,v5,v6⟩ h
 cases fu with
 | zero=>cases h
 | succ fu =>
  rw [aE] at h
  refine AX.seq ?_
  refine AX.si [] [0,1,5,6,19] [0,1] ⟨[(0,.sl 0 0 v6.length),(1,.fn 158 [.pt 1 0]),(5,vi v4),(6,vi v5),(19,vb (decide (v5<(v6.length:Int))))],[(0,.arr 2 (List.map aa v6)),(1,.box [vi p2])]⟩ trivial trivial ?_
  rcases ac (decide (v5<(v6.length:Int))) with b3 | b3
  ·replace h:=am b3 h
   refine AX.cT (decide (v5<(v6.length:Int))) b3 ?_
   refine AX.skip ?_
   refine AX.seq ?_
   refine AX.block ?_
   refine AX.seq ?_
   obtain ⟨g4,h⟩:=aw h
   refine AX.rh [aN,aN,aN,aY (.agg [vs ((gt v6 v5).1),vi ((gt v6 v5).2)]),.auto { nk:=2 }] [0,1,5,6,7] [0,1,2] ⟨[(0,.sl 0 0 v6.length),(1,.fn 158 [.pt 1 0]),(5,vi v4),(6,vi v5),(7,.pt 2 0)],[(0,.arr 2 (List.map aa v6)),(1,.box [vi p2]),(2,.box [vs ((gt v6 v5).1),vi ((gt v6 v5).2)])]⟩ (pa g4 <| pa (⟨trivial,(congrArg (fun z:List Value=>AV.agg (((z.drop 0).take 2).map .v)) (au (enc:=aa) rfl g4))⟩:(True∧(AV.agg ((((List.map aa v6).getD (0+v5.toNat) []).drop 0 |>.take 2).map .v)=.agg [vs ((gt v6 v5).1),vi ((gt v6 v5).2)]))) <| trivial) trivial ?_
   refine AX.seq ?_
   obtain ⟨x7,e5,h⟩:=ak h
   refine AX.rh [aN,aN,.call 158 [.agg [vs ((gt v6 v5).1),vi ((gt v6 v5).2)],.pt 1 0] (aD (rho ([]++[])) [] []++[(1,.box [vi p2])]) (ah [] [] (vb x7) [])] [0,1,5,6,7,29] [0,1,2] ⟨[(0,.sl 0 0 v6.length),(1,.fn 158 [.pt 1 0]),(5,vi v4),(6,vi v5),(7,.pt 2 0),(29,vb (!x7))],[(0,.arr 2 (List.map aa v6)),(1,.box [vi p2]),(2,.box [vs ((gt v6 v5).1),vi ((gt v6 v5).2)])]⟩ (pa (⟨rfl,rfl,trivial⟩:((([.agg [vs ((gt v6 v5).1),vi ((gt v6 v5).2)],.pt 1 0]:List AV)=[.agg [vs ((gt v6 v5).1),vi ((gt v6 v5).2)],.pt 1 0])∧(AO.box [vi p2]=AO.box [vi p2])∧True)) <| trivial) ⟨aA (ks:=[]) (ns:=[]) (bor:=[1]) (bobjs:=[(1,.box [vi p2])]) (jj ((gt v6 v5).1) ((gt v6 v5).2) p2 x7 e5) (.cons (.c1 (.agg (.cons (.same _ (by kernel_rfl) (by kernel_rfl)) (.cons (.same _ (by kernel_rfl) (by kernel_rfl)) (.nil))))) (.cons (.c1 (.box rfl rfl (.cons (.same _ (by kernel_rfl) (by kernel_rfl)) (.nil)))) (.nil))) (by kernel_rfl) trivial,trivial⟩ ?_
   rcases ac ((!x7)) with b6 | b6
   ·replace h:=am b6 h
    refine AX.cT ((!x7)) b6 ?_
    refine AX.seq ?_
    obtain ⟨g7,h⟩:=aw h
    refine AX.rh [] [0,1,5,6] [0,1] ⟨[(0,.sl 0 0 v6.length),(1,.fn 158 [.pt 1 0]),(5,vi v4),(6,vi v5)],[(0,.arr 2 ((List.map aa v6).set (0+v4.toNat) [(.string ((gt v6 v5).1)),(.int .i64 ((gt v6 v5).2))])),(1,.box [vi p2])]⟩ (pa g7 <| trivial) trivial ?_
    refine AX.rh [aN,.auto { raw:=true }] [0,1,5,6] [0,1] ⟨[(0,.sl 0 0 v6.length),(1,.fn 158 [.pt 1 0]),(5,vi (IntKind.wrap .i64 (v4+1))),(6,vi v5)],[(0,.arr 2 ((List.map aa v6).set (0+v4.toNat) [(.string ((gt v6 v5).1)),(.int .i64 ((gt v6 v5).2))])),(1,.box [vi p2])]⟩ trivial trivial ?_
    refine AX.rh [aN,.auto { raw:=true }] [0,1,5,6] [0,1] ⟨[(0,.sl 0 0 v6.length),(1,.fn 158 [.pt 1 0]),(5,vi (IntKind.wrap .i64 (v4+1))),(6,vi (IntKind.wrap .i64 (v5+1)))],[(0,.arr 2 ((List.map aa v6).set (0+v4.toNat) [(.string ((gt v6 v5).1)),(.int .i64 ((gt v6 v5).2))])),(1,.box [vi p2])]⟩ trivial trivial ?_
    refine ⟨(fu,(IntKind.wrap .i64 (v4+1),IntKind.wrap .i64 (v5+1),v6.set (0+v4.toNat) ((gt v6 v5).1,(gt v6 v5).2))),h,Nat.lt_succ_self _,?_⟩
    refine Wk.trans (Wk.fg [0,1,5,6] [0,1] ⟨[(0,.sl 0 0 v6.length),(1,.fn 158 [.pt 1 0]),(5,vi (IntKind.wrap .i64 (v4+1))),(6,vi (IntKind.wrap .i64 (v5+1)))],[(0,.arr 2 ((List.map aa v6).set (0+v4.toNat) [(.string ((gt v6 v5).1)),(.int .i64 ((gt v6 v5).2))])),(1,.box [vi p2])]⟩) ?_
    refine Wk.trans (Wk.of_eq (congrArg (fun z=>(⟨[(0,.sl 0 0 v6.length),(1,.fn 158 [.pt 1 0]),(5,vi (IntKind.wrap .i64 (v4+1))),(6,vi (IntKind.wrap .i64 (v5+1)))],[(0,.arr 2 (z)),(1,.box [vi p2])]⟩:S)) (pR (enc:=aa) rfl (0+v4.toNat) ((gt v6 v5).1,(gt v6 v5).2)))) ?_
    refine Wk.trans (Wk.of_eq (congrArg (fun z=>(⟨[(0,.sl 0 0 z),(1,.fn 158 [.pt 1 0]),(5,vi (IntKind.wrap .i64 (v4+1))),(6,vi (IntKind.wrap .i64 (v5+1)))],[(0,.arr 2 (List.map aa (v6.set (0+v4.toNat) ((gt v6 v5).1,(gt v6 v5).2)))),(1,.box [vi p2])]⟩:S)) (pL ((rfl:v6.length=v6.length)) (0+v4.toNat) ((gt v6 v5).1,(gt v6 v5).2)))) ?_
    exact Wk.refl _
   ·replace h:=aq b6 h
    refine AX.cF ((!x7)) b6 ?_
    refine AX.skip ?_
    refine AX.rh [aN,.auto { raw:=true }] [0,1,5,6] [0,1] ⟨[(0,.sl 0 0 v6.length),(1,.fn 158 [.pt 1 0]),(5,vi v4),(6,vi (IntKind.wrap .i64 (v5+1)))],[(0,.arr 2 (List.map aa v6)),(1,.box [vi p2])]⟩ trivial trivial ?_
    refine ⟨(fu,(v4,IntKind.wrap .i64 (v5+1),v6)),h,Nat.lt_succ_self _,?_⟩
    refine Wk.trans (Wk.fg [0,1,5,6] [0,1] ⟨[(0,.sl 0 0 v6.length),(1,.fn 158 [.pt 1 0]),(5,vi v4),(6,vi (IntKind.wrap .i64 (v5+1)))],[(0,.arr 2 (List.map aa v6)),(1,.box [vi p2])]⟩) ?_
    exact Wk.refl _
  ·replace h:=aq b3 h
   refine AX.cF (decide (v5<(v6.length:Int))) b3 ?_
   refine AX.exit ?_
   refine ae (Wk.fg [0,5] [0,1] ⟨[(0,.sl 0 0 v6.length),(5,vi v4)],[(0,.arr 2 (List.map aa v6)),(1,.box [vi p2])]⟩) ?_
   have hr:=Option.some.inj h
   subst hr
   exact ⟨_,Wk.refl _,⟨rfl,rfl⟩⟩

theorem ik (p1:List (ByteArray×Int)) (p2:Int) (r:List (ByteArray×Int)) (h:cd p1 p2=some r) :
  Eng.al Tryz.prog 157 [.sl 0 0 p1.length,.fn 158 [.pt 1 0]] [.arr 2 (List.map aa p1),.box [vi p2]] (.sl 2 0 r.length) [.dead,.box [vi p2],.arr 2 (List.map aa r)]:=by
 unfold cd at h
 refine Eng.al.body Tryz.func157 (by kernel_rfl) rfl (by kernel_rfl) ?_
 refine AX.wkpost ?_
 refine AX.si [] [0,1] [0,1] ⟨[(0,.sl 0 0 p1.length),(1,.fn 158 [.pt 1 0])],[(0,.arr 2 (List.map aa p1)),(1,.box [vi p2])]⟩ trivial trivial ?_
 refine AX.seq ?_
 obtain ⟨x3,e1,h⟩:=ak h
 refine AX.rh [aN,aN,.call 122 [.sl 0 0 p1.length,.fn 158 [.pt 1 0]] (aD (rho ([]++[])) [] []++[(0,.arr 2 (List.map aa p1)),(1,.box [vi p2])]) (ah [] [] (vi x3) [])] [0,1,5] [0,1] ⟨[(0,.sl 0 0 p1.length),(1,.fn 158 [.pt 1 0]),(5,vi x3)],[(0,.arr 2 (List.map aa p1)),(1,.box [vi p2])]⟩ (pa (⟨rfl,rfl,rfl,trivial⟩:((([.sl 0 0 p1.length,.fn 158 [.pt 1 0]]:List AV)=[.sl 0 0 p1.length,.fn 158 [.pt 1 0]])∧(AO.arr 2 (List.map aa p1)=AO.arr 2 (List.map aa p1))∧(AO.box [vi p2]=AO.box [vi p2])∧True)) <| trivial) ⟨aA (ks:=[]) (ns:=[]) (bor:=[0,1]) (bobjs:=[(0,.arr 2 (List.map aa p1)),(1,.box [vi p2])]) (iB p1 p2 x3 e1) (.cons (.c1 (.c0 (.arr rfl rfl ((rfl).trans (List.length_map ..).symm)))) (.cons (.fn (.cons (.box rfl rfl (.cons (.same _ (by kernel_rfl) (by kernel_rfl)) (.nil))) (.nil))) (.nil))) (by kernel_rfl) trivial,trivial⟩ ?_
 refine AX.seq ?_
 refine AX.si [] [0,1,5,12] [0,1] ⟨[(0,.sl 0 0 p1.length),(1,.fn 158 [.pt 1 0]),(5,vi x3),(12,vb (decide (x3=(-1))))],[(0,.arr 2 (List.map aa p1)),(1,.box [vi p2])]⟩ trivial trivial ?_
 rcases ac (decide (x3=(-1))) with b2 | b2
 ·replace h:=am b2 h
  refine AX.cT (decide (x3=(-1))) b2 ?_
  refine AX.si [] [4] [0,1] ⟨[(4,.sl 0 0 p1.length)],[(0,.arr 2 (List.map aa p1)),(1,.box [vi p2])]⟩ trivial trivial ?_
  refine AX.ret ?_
  refine ae (Wk.trunc 4 0 2 (lo:=0) (len:=p1.length) (sz:=2) (es:=List.map aa p1) (by kernel_rfl) (by kernel_rfl) (Nat.le_of_ble_eq_true (by kernel_rfl)) (by kernel_rfl) rfl) ?_
  refine ae (Wk.fg [4] [1,2] ⟨[(4,.sl 2 0 p1.length)],[(1,.box [vi p2]),(2,.arr 2 (((List.map aa p1).drop (0)).take (p1.length)))]⟩) ?_
  refine ae (Wk.of_eq (congrArg (fun z=>(⟨[(4,.sl 2 0 p1.length)],[(1,.box [vi p2]),(2,.arr 2 (z))]⟩:S)) (bc (enc:=aa) rfl rfl))) ?_
  have hr:=Option.some.inj h
  subst hr
  exact ⟨_,Wk.refl _,.inr rfl,⟨[2],by kernel_rfl,⟨rfl,rfl,trivial⟩,[.sl 2 0 p1.length],by kernel_rfl,by kernel_rfl⟩⟩
 ·replace h:=aq b2 h
  refine AX.cF (decide (x3=(-1))) b2 ?_
  refine AX.skip ?_
  refine AX.seq ?_
  refine AX.si [aN,.auto { raw:=true }] [0,1,5,6] [0,1] ⟨[(0,.sl 0 0 p1.length),(1,.fn 158 [.pt 1 0]),(5,vi x3),(6,vi (IntKind.wrap .i64 (x3+1)))],[(0,.arr 2 (List.map aa p1)),(1,.box [vi p2])]⟩ trivial trivial ?_
  refine AX.block ?_
  obtain ⟨x8,e8,h⟩:=ak h
  refine AX.wk (Wk.fg [0,1,5,6] [0,1] ⟨[(0,.sl 0 0 p1.length),(1,.fn 158 [.pt 1 0]),(5,vi x3),(6,vi (IntKind.wrap .i64 (x3+1)))],[(0,.arr 2 (List.map aa p1)),(1,.box [vi p2])]⟩) ?_
  refine AX.mono (gP p2 FU (x3,IntKind.wrap .i64 (x3+1),p1) x8 e8) ?_
  rintro _ _ ⟨rfl,rfl⟩
  skip
  refine AX.seq ?_
  obtain ⟨g9,h⟩:=aw h
  refine AX.rh [] [0,5] [0,1] ⟨[(0,.sl 0 0 x8.2.length),(5,vi x8.1)],[(0,.arr 2 ((List.map aa x8.2).take (0+x8.1.toNat)++List.replicate ((x8.2.length:Int).toNat - x8.1.toNat) (aa ((ByteArray.empty,0):ByteArray×Int))++(List.map aa x8.2).drop (0+x8.1.toNat+((x8.2.length:Int).toNat - x8.1.toNat)))),(1,.box [vi p2])]⟩ (pa g9 <| trivial) trivial ?_
  refine AX.seq ?_
  obtain ⟨g10,h⟩:=aw h
  refine AX.rh [] [4] [0,1] ⟨[(4,.sl 0 (0+(0:Int).toNat) (x8.1.toNat - (0:Int).toNat))],[(0,.arr 2 ((List.map aa x8.2).take (0+x8.1.toNat)++List.replicate ((x8.2.length:Int).toNat - x8.1.toNat) (aa ((ByteArray.empty,0):ByteArray×Int))++(List.map aa x8.2).drop (0+x8.1.toNat+((x8.2.length:Int).toNat - x8.1.toNat)))),(1,.box [vi p2])]⟩ (pa g10 <| trivial) trivial ?_
  refine AX.ret ?_
  refine ae (Wk.trunc 4 0 2 (lo:=0+(0:Int).toNat) (len:=x8.1.toNat - (0:Int).toNat) (sz:=2) (es:=(List.map aa x8.2).take (0+x8.1.toNat)++List.replicate ((x8.2.length:Int).toNat - x8.1.toNat) (aa ((ByteArray.empty,0):ByteArray×Int))++(List.map aa x8.2).drop (0+x8.1.toNat+((x8.2.length:Int).toNat - x8.1.toNat))) (by kernel_rfl) (by kernel_rfl) (Nat.le_of_ble_eq_true (by kernel_rfl)) (by kernel_rfl) rfl) ?_
  refine ae (Wk.fg [4] [1,2] ⟨[(4,.sl 2 0 (x8.1.toNat - (0:Int).toNat))],[(1,.box [vi p2]),(2,.arr 2 ((((List.map aa x8.2).take (0+x8.1.toNat)++List.replicate ((x8.2.length:Int).toNat - x8.1.toNat) (aa ((ByteArray.empty,0):ByteArray×Int))++(List.map aa x8.2).drop (0+x8.1.toNat+((x8.2.length:Int).toNat - x8.1.toNat))).drop (0+(0:Int).toNat)).take (x8.1.toNat - (0:Int).toNat)))]⟩) ?_
  refine ae (Wk.of_eq (congrArg (fun z=>(⟨[(4,.sl 2 0 (x8.1.toNat - (0:Int).toNat))],[(1,.box [vi p2]),(2,.arr 2 (z))]⟩:S)) (vM (enc:=aa) (AI (enc:=aa) rfl x8.1 (x8.2.length:Int) ((ByteArray.empty,0):ByteArray×Int)) (0:Int) x8.1))) ?_
  refine ae (Wk.of_eq (congrArg (fun z=>(⟨[(4,.sl 2 0 z)],[(1,.box [vi p2]),(2,.arr 2 (List.map aa (sub (clr x8.2 x8.1 (x8.2.length:Int) ((ByteArray.empty,0):ByteArray×Int)) (0:Int) x8.1)))]⟩:S)) (wi ((AF ((rfl:x8.2.length=x8.2.length)) ((ByteArray.empty,0):ByteArray×Int) g9:x8.2.length=(clr x8.2 x8.1 (x8.2.length:Int) ((ByteArray.empty,0):ByteArray×Int)).length)) g10))) ?_
  have hr:=Option.some.inj h
  subst hr
  exact ⟨_,Wk.refl _,.inr rfl,⟨[2],by kernel_rfl,⟨rfl,rfl,trivial⟩,[.sl 2 0 ((sub (clr x8.2 x8.1 (x8.2.length:Int) ((ByteArray.empty,0):ByteArray×Int)) (0:Int) x8.1).length)],by kernel_rfl,by kernel_rfl⟩⟩

theorem ox (p1:List (ByteArray×Int)) (p2:Int) (p3:Int) (r:List (ByteArray×Int)) (h:eG p1 p2 p3=some r) :
  Eng.al Tryz.prog 130 [.agg [.bs false 2 (List.map aa p1),vi p2],vi p3] [] (.sl 0 0 r.length) [.arr 2 (List.map aa r)]:=by
 unfold eG at h
 refine Eng.al.body Tryz.func130 (by kernel_rfl) rfl (by kernel_rfl) ?_
 refine AX.wkpost ?_
 refine AX.si [.auto { nk:=0 },.auto { nk:=1 }] [2,3] [0,1] ⟨[(2,.pt 0 0),(3,.pt 1 0)],[(0,.box [.bs false 2 (List.map aa p1),vi p2]),(1,.box [vi p3])]⟩ trivial trivial ?_
 refine AX.seq ?_
 obtain ⟨x4,e1,h⟩:=ak h
 obtain ⟨x5,e2,h⟩:=ak h
 refine AX.rh [aN,aN,.call 142 [.bs false 2 (List.map aa p1)] (aD (rho ([]++[2])) [] []++[]) (ah [] [2] (.sl 0 0 x4.length) [.arr 2 (List.map aa x4)]),aN,.call 157 [.sl 2 0 x4.length,.fn 158 [.pt 1 0]] (aD (rho ([2,1]++[3])) [2,1] [.arr 2 (List.map aa x4),.box [vi p3]]++[]) (ah [2,1] [3] (.sl 2 0 x5.length) [.dead,.box [vi p3],.arr 2 (List.map aa x5)])] [4] [3] ⟨[(4,.sl 3 0 x5.length)],[(3,.arr 2 (List.map aa x5))]⟩ (pa (smA [.bs false 2 (List.map aa p1)]) <| pa (⟨rfl,rfl,rfl,trivial⟩:((([.sl 2 0 x4.length,.fn 158 [.pt 1 0]]:List AV)=[.sl 2 0 x4.length,.fn 158 [.pt 1 0]])∧(AO.arr 2 (List.map aa x4)=AO.arr 2 (List.map aa x4))∧(AO.box [vi p3]=AO.box [vi p3])∧True)) <| trivial) ⟨aA (ks:=[]) (ns:=[2]) (bor:=[]) (bobjs:=[]) (lh p1 x4 e1) (.cons cS (.nil)) (by kernel_rfl) trivial,aA (ks:=[2,1]) (ns:=[3]) (bor:=[]) (bobjs:=[]) (ik x4 p3 x5 e2) (.cons cS (.cons (.fn (.cons (.c0 (.same _ (by kernel_rfl) (by kernel_rfl))) (.nil))) (.nil))) (by kernel_rfl) ⟨.inl rfl,.inr rfl,trivial⟩,trivial⟩ ?_
 refine AX.ret ?_
 refine ae (Wk.swap 0 3 (Nat.le_of_ble_eq_true (by kernel_rfl)) (Nat.le_of_ble_eq_true (by kernel_rfl)) rfl) ?_
 refine ae (Wk.fg [4] [0] ⟨[(4,.sl 0 0 x5.length)],[(0,.arr 2 (List.map aa x5))]⟩) ?_
 have hr:=Option.some.inj h
 subst hr
 exact ⟨_,Wk.refl _,.inr rfl,⟨[0],by kernel_rfl,⟨rfl,trivial⟩,[.sl 0 0 x5.length],by kernel_rfl,by kernel_rfl⟩⟩

theorem mr (p1:List (ByteArray×Int)) (r:Int) (h:dZ p1=some r) :
  Eng.al Tryz.prog 89 [.bs false 2 (List.map aa p1)] [] (vi r) []:=by
 unfold dZ at h
 refine Eng.al.body Tryz.func89 (by kernel_rfl) rfl (by kernel_rfl) ?_
 refine AX.wkpost ?_
 refine AX.si [] [0] [] ⟨[(0,.bs false 2 (List.map aa p1))],[]⟩ trivial trivial ?_
 refine AX.seq ?_
 obtain ⟨x2,e1,h⟩:=ak h
 refine AX.rh [aN,aN,.call 120 [.agg [.bs false 2 (List.map aa p1),vi 0]] hN (ah [] [] (vi x2) [])] [2] [] ⟨[(2,vi x2)],[]⟩ (pa (smA [.agg [.bs false 2 (List.map aa p1),vi 0]]) <| trivial) ⟨co (dN p1 0 x2 e1) (.cons (.c1 (.agg (.cons (.same _ (by kernel_rfl) (by kernel_rfl)) (.cons (.same _ (by kernel_rfl) (by kernel_rfl)) (.nil))))) (.nil)),trivial⟩ ?_
 refine AX.ret ?_
 refine ae (Wk.fg [2] [] ⟨[(2,vi x2)],[]⟩) ?_
 have hr:=Option.some.inj h
 subst hr
 exact ⟨_,Wk.refl _,.inr rfl,⟨[],by kernel_rfl,trivial,[vi x2],by kernel_rfl,by kernel_rfl⟩⟩

theorem ll (p1:Int) (r:List (ByteArray×Int)) (h:ef p1=some r) :
  Eng.al Tryz.prog 179 [.v (.slice none 0 0),vi p1] [] (.sl 0 0 r.length) [.arr 2 (List.map aa r)]:=by
 unfold ef at h
 refine Eng.al.body Tryz.func179 (by kernel_rfl) rfl (by kernel_rfl) ?_
 refine AX.wkpost ?_
 refine AX.si [] [0,1] [] ⟨[(0,.v (.slice none 0 0)),(1,vi p1)],[]⟩ trivial trivial ?_
 refine AX.seq ?_
 refine AX.si [] [0,1,6] [] ⟨[(0,.v (.slice none 0 0)),(1,vi p1),(6,vb (decide (p1<0)))],[]⟩ trivial trivial ?_
 rcases ac (decide (p1<0)) with b1 | b1
 ·replace h:=am b1 h
  refine AX.cT (decide (p1<0)) b1 ?_
  cases h
 ·replace h:=aq b1 h
  refine AX.cF (decide (p1<0)) b1 ?_
  refine AX.skip ?_
  refine AX.seq ?_
  refine AX.si [aN,aN,aN,aN,aN,.auto { raw:=true },.auto { raw:=true }] [0,1] [] ⟨[(0,.v (.slice none 0 0)),(1,vi (IntKind.wrap .i64 (p1 - (IntKind.wrap .i64 (0 - 0)))))],[]⟩ trivial trivial ?_
  refine AX.seq ?_
  obtain ⟨v2,q2,h⟩:=bT h
  refine AX.rh [aN,aY (vb v2)] [0,1,16] [] ⟨[(0,.v (.slice none 0 0)),(1,vi (IntKind.wrap .i64 (p1 - (IntKind.wrap .i64 (0 - 0))))),(16,vb v2)],[]⟩ (pa (pb (cb q2)) <| trivial) trivial ?_
  rcases ac (v2) with b3 | b3
  ·replace h:=am b3 h
   refine AX.cT (v2) b3 ?_
   obtain ⟨g4,h⟩:=aw h
   obtain ⟨g5,h⟩:=aw h
   obtain ⟨g6,h⟩:=aw h
   obtain ⟨g7,h⟩:=aw h
   refine AX.rh [aN,aN,aN,aN,aN,.auto { y:=some (.sl 0 0 ((List.replicate (IntKind.wrap .i64 (p1 - (IntKind.wrap .i64 (0 - 0)))).toNat ((ByteArray.empty,0):ByteArray×Int)).length)),nk:=0 }] [0] [0] ⟨[(0,.sl 0 (0+(0:Int).toNat) ((0:Int).toNat - (0:Int).toNat))],[(0,.arr 2 (([]:List (List Value))++List.replicate (IntKind.wrap .i64 (p1 - (IntKind.wrap .i64 (0 - 0)))).toNat (aa ((ByteArray.empty,0):ByteArray×Int))))]⟩ (pa g4 <| pa (⟨⟨⟨trivial,g5⟩,(by simp only [List.length_map,List.length_nil,List.length_replicate];simpa using g6)⟩,cj (enc:=aa) (pM (IntKind.wrap .i64 (p1 - (IntKind.wrap .i64 (0 - 0)))).toNat ((ByteArray.empty,0):ByteArray×Int))⟩:(((True∧(0≤(IntKind.wrap .i64 (p1 - (IntKind.wrap .i64 (0 - 0))))∧(IntKind.wrap .i64 (p1 - (IntKind.wrap .i64 (0 - 0))))≤1099511627776))∧(([]:List (List Value))).length+(List.replicate (IntKind.wrap .i64 (p1 - (IntKind.wrap .i64 (0 - 0)))).toNat (aa ((ByteArray.empty,0):ByteArray×Int))).length≤1099511627776)∧(AV.sl 0 0 (([]:List (List Value))++List.replicate (IntKind.wrap .i64 (p1 - (IntKind.wrap .i64 (0 - 0)))).toNat (aa ((ByteArray.empty,0):ByteArray×Int))).length=AV.sl 0 0 (List.replicate (IntKind.wrap .i64 (p1 - (IntKind.wrap .i64 (0 - 0)))).toNat ((ByteArray.empty,0):ByteArray×Int)).length))) <| pa g7 <| trivial) trivial ?_
   refine AX.si [] [4] [0] ⟨[(4,.sl 0 (0+(0:Int).toNat) ((0:Int).toNat - (0:Int).toNat))],[(0,.arr 2 (([]:List (List Value))++List.replicate (IntKind.wrap .i64 (p1 - (IntKind.wrap .i64 (0 - 0)))).toNat (aa ((ByteArray.empty,0):ByteArray×Int))))]⟩ trivial trivial ?_
   refine AX.ret ?_
   refine ae (Wk.trunc 4 0 1 (lo:=0+(0:Int).toNat) (len:=(0:Int).toNat - (0:Int).toNat) (sz:=2) (es:=([]:List (List Value))++List.replicate (IntKind.wrap .i64 (p1 - (IntKind.wrap .i64 (0 - 0)))).toNat (aa ((ByteArray.empty,0):ByteArray×Int))) (by kernel_rfl) (by kernel_rfl) (Nat.le_of_ble_eq_true (by kernel_rfl)) (by kernel_rfl) rfl) ?_
   refine ae (Wk.swap 0 1 (Nat.le_of_ble_eq_true (by kernel_rfl)) (Nat.le_of_ble_eq_true (by kernel_rfl)) rfl) ?_
   refine ae (Wk.fg [4] [0] ⟨[(4,.sl 0 0 ((0:Int).toNat - (0:Int).toNat))],[(0,.arr 2 (((([]:List (List Value))++List.replicate (IntKind.wrap .i64 (p1 - (IntKind.wrap .i64 (0 - 0)))).toNat (aa ((ByteArray.empty,0):ByteArray×Int))).drop (0+(0:Int).toNat)).take ((0:Int).toNat - (0:Int).toNat)))]⟩) ?_
   refine ae (Wk.of_eq (congrArg (fun z=>(⟨[(4,.sl 0 0 ((0:Int).toNat - (0:Int).toNat))],[(0,.arr 2 (z))]⟩:S)) (vM (enc:=aa) (pM (IntKind.wrap .i64 (p1 - (IntKind.wrap .i64 (0 - 0)))).toNat ((ByteArray.empty,0):ByteArray×Int):([]:List (List Value))++List.replicate (IntKind.wrap .i64 (p1 - (IntKind.wrap .i64 (0 - 0)))).toNat (aa ((ByteArray.empty,0):ByteArray×Int))=List.map aa (List.replicate (IntKind.wrap .i64 (p1 - (IntKind.wrap .i64 (0 - 0)))).toNat ((ByteArray.empty,0):ByteArray×Int))) (0:Int) (0:Int)))) ?_
   refine ae (Wk.of_eq (congrArg (fun z=>(⟨[(4,.sl 0 0 z)],[(0,.arr 2 (List.map aa (sub (List.replicate (IntKind.wrap .i64 (p1 - (IntKind.wrap .i64 (0 - 0)))).toNat ((ByteArray.empty,0):ByteArray×Int)) (0:Int) (0:Int))))]⟩:S)) (wi ((rfl:(List.replicate (IntKind.wrap .i64 (p1 - (IntKind.wrap .i64 (0 - 0)))).toNat ((ByteArray.empty,0):ByteArray×Int)).length=(List.replicate (IntKind.wrap .i64 (p1 - (IntKind.wrap .i64 (0 - 0)))).toNat ((ByteArray.empty,0):ByteArray×Int)).length)) g7))) ?_
   have hr:=Option.some.inj h
   subst hr
   exact ⟨_,Wk.refl _,.inr rfl,⟨[0],by kernel_rfl,⟨rfl,trivial⟩,[.sl 0 0 ((sub (List.replicate (IntKind.wrap .i64 (p1 - (IntKind.wrap .i64 (0 - 0)))).toNat ((ByteArray.empty,0):ByteArray×Int)) (0:Int) (0:Int)).length)],by kernel_rfl,by kernel_rfl⟩⟩
  ·replace h:=aq b3 h
   refine AX.cF (v2) b3 ?_
   refine AX.skip ?_
   refine AX.si [] [4] [] ⟨[(4,.v (.slice none 0 0))],[]⟩ trivial trivial ?_
   refine AX.ret ?_
   refine ae (Wk.mat 4 0 2 (by kernel_rfl) (Nat.le_of_ble_eq_true (by kernel_rfl)) (by kernel_rfl) rfl) ?_
   refine ae (Wk.fg [4] [0] ⟨[(4,.sl 0 0 (([]:List (ByteArray×Int)).length))],[(0,.arr 2 (List.map aa ([]:List (ByteArray×Int))))]⟩) ?_
   have hr:=Option.some.inj h
   subst hr
   exact ⟨_,Wk.refl _,.inr rfl,⟨[0],by kernel_rfl,⟨rfl,trivial⟩,[.sl 0 0 (([]:List (ByteArray×Int)).length)],by kernel_rfl,by kernel_rfl⟩⟩

theorem xC (p1:List (ByteArray×Int)) (r:List (ByteArray×Int)) (h:jV p1=some r) :
  Eng.al Tryz.prog 159 [.bx [.bs false 2 (List.map aa p1),.v (.slice none 0 0)]] [] (.sl 0 0 r.length) [.arr 2 (List.map aa r)]:=by
 unfold jV at h
 refine Eng.al.body Tryz.func159 (by kernel_rfl) rfl (by kernel_rfl) ?_
 refine AX.wkpost ?_
 refine AX.si [] [0] [] ⟨[(0,.bx [.bs false 2 (List.map aa p1),.v (.slice none 0 0)])],[]⟩ trivial trivial ?_
 refine AX.si [] [0,3] [] ⟨[(0,.bx [.bs false 2 (List.map aa p1),.v (.slice none 0 0)]),(3,vi 0)],[]⟩ trivial trivial ?_
 refine AX.seq ?_
 refine AX.si [] [0,3,9,10,11] [] ⟨[(0,.bx [.bs false 2 (List.map aa p1),.v (.slice none 0 0)]),(3,vi 0),(9,.bx [.bs false 2 (List.map aa p1),.v (.slice none 0 0)]),(10,vi 2),(11,vi 0)],[]⟩ trivial trivial ?_
 refine AX.block ?_
 refine AXL.start ?_
 refine AXL.step ?_
 refine AX.si [] [0,3,9,10,11,12] [] ⟨[(0,.bx [.bs false 2 (List.map aa p1),.v (.slice none 0 0)]),(3,vi 0),(9,.bx [.bs false 2 (List.map aa p1),.v (.slice none 0 0)]),(10,vi 2),(11,vi 0),(12,vb true)],[]⟩ trivial trivial ?_
 refine AX.seq ?_
 refine AX.cond_true (by kernel_rfl) ?_
 refine AX.skip ?_
 refine AX.seq ?_
 refine AX.block ?_
 refine AX.si [] [0,3,5,9,10,11] [] ⟨[(0,.bx [.bs false 2 (List.map aa p1),.v (.slice none 0 0)]),(3,vi 0),(5,.bs false 2 (List.map aa p1)),(9,.bx [.bs false 2 (List.map aa p1),.v (.slice none 0 0)]),(10,vi 2),(11,vi 0)],[]⟩ (pa ((by decide):((0:Int)≤0∧(0:Int)<((2:Nat):Int))) <| trivial) trivial ?_
 refine AX.si [aN,aN,aY (vi (p1.length:Int)),.auto { raw:=true }] [0,3,9,10,11] [] ⟨[(0,.bx [.bs false 2 (List.map aa p1),.v (.slice none 0 0)]),(3,vi (IntKind.wrap .i64 (0+(p1.length:Int)))),(9,.bx [.bs false 2 (List.map aa p1),.v (.slice none 0 0)]),(10,vi 2),(11,vi 0)],[]⟩ (pa (⟨trivial,aS aa p1⟩:(True∧(vi ((List.map aa p1).length:Int)=vi (p1.length:Int)))) <| trivial) trivial ?_
 refine AX.si [] [0,3,9,10,11,20] [] ⟨[(0,.bx [.bs false 2 (List.map aa p1),.v (.slice none 0 0)]),(3,vi (IntKind.wrap .i64 (0+(p1.length:Int)))),(9,.bx [.bs false 2 (List.map aa p1),.v (.slice none 0 0)]),(10,vi 2),(11,vi 0),(20,vb (decide ((IntKind.wrap .i64 (0+(p1.length:Int)))<0)))],[]⟩ trivial trivial ?_
 rcases ac (decide ((IntKind.wrap .i64 (0+(p1.length:Int)))<0)) with b1 | b1
 ·replace h:=am b1 h
  refine AX.cT (decide ((IntKind.wrap .i64 (0+(p1.length:Int)))<0)) b1 ?_
  cases h
 ·replace h:=aq b1 h
  refine AX.cF (decide ((IntKind.wrap .i64 (0+(p1.length:Int)))<0)) b1 ?_
  refine AX.skip ?_
  refine AX.rh [.auto { raw:=true }] [0,3,9,10,11] [] ⟨[(0,.bx [.bs false 2 (List.map aa p1),.v (.slice none 0 0)]),(3,vi (IntKind.wrap .i64 (0+(p1.length:Int)))),(9,.bx [.bs false 2 (List.map aa p1),.v (.slice none 0 0)]),(10,vi 2),(11,vi 1)],[]⟩ trivial trivial ?_
  refine AXL.step ?_
  refine AX.si [] [0,3,9,10,11,12] [] ⟨[(0,.bx [.bs false 2 (List.map aa p1),.v (.slice none 0 0)]),(3,vi (IntKind.wrap .i64 (0+(p1.length:Int)))),(9,.bx [.bs false 2 (List.map aa p1),.v (.slice none 0 0)]),(10,vi 2),(11,vi 1),(12,vb true)],[]⟩ trivial trivial ?_
  refine AX.seq ?_
  refine AX.cond_true (by kernel_rfl) ?_
  refine AX.skip ?_
  refine AX.seq ?_
  refine AX.block ?_
  refine AX.si [] [0,3,5,9,10,11] [] ⟨[(0,.bx [.bs false 2 (List.map aa p1),.v (.slice none 0 0)]),(3,vi (IntKind.wrap .i64 (0+(p1.length:Int)))),(5,.v (.slice none 0 0)),(9,.bx [.bs false 2 (List.map aa p1),.v (.slice none 0 0)]),(10,vi 2),(11,vi 1)],[]⟩ (pa ((by decide):((0:Int)≤1∧(1:Int)<((2:Nat):Int))) <| trivial) trivial ?_
  refine AX.seq ?_
  obtain ⟨v2,q2,h⟩:=bT h
  refine AX.rh [aN,aN,aN,.auto { y:=some (vi v2),raw:=true }] [0,3,9,10,11] [] ⟨[(0,.bx [.bs false 2 (List.map aa p1),.v (.slice none 0 0)]),(3,vi v2),(9,.bx [.bs false 2 (List.map aa p1),.v (.slice none 0 0)]),(10,vi 2),(11,vi 1)],[]⟩ (pa (⟨trivial,(congrArg (fun z=>vi z) q2)⟩:((True)∧((vi (IntKind.wrap .i64 ((IntKind.wrap .i64 (0+(p1.length:Int)))+0)):AV)=(vi v2:AV)))) <| trivial) trivial ?_
  refine AX.si [] [0,3,9,10,11,20] [] ⟨[(0,.bx [.bs false 2 (List.map aa p1),.v (.slice none 0 0)]),(3,vi v2),(9,.bx [.bs false 2 (List.map aa p1),.v (.slice none 0 0)]),(10,vi 2),(11,vi 1),(20,vb (decide (v2<0)))],[]⟩ trivial trivial ?_
  rcases ac (decide (v2<0)) with b3 | b3
  ·replace h:=am b3 h
   refine AX.cT (decide (v2<0)) b3 ?_
   cases h
  ·replace h:=aq b3 h
   refine AX.cF (decide (v2<0)) b3 ?_
   refine AX.skip ?_
   refine AX.rh [.auto { raw:=true }] [0,3,9,10,11] [] ⟨[(0,.bx [.bs false 2 (List.map aa p1),.v (.slice none 0 0)]),(3,vi v2),(9,.bx [.bs false 2 (List.map aa p1),.v (.slice none 0 0)]),(10,vi 2),(11,vi 2)],[]⟩ trivial trivial ?_
   refine AXL.step ?_
   refine AX.si [] [0,3,9,10,11,12] [] ⟨[(0,.bx [.bs false 2 (List.map aa p1),.v (.slice none 0 0)]),(3,vi v2),(9,.bx [.bs false 2 (List.map aa p1),.v (.slice none 0 0)]),(10,vi 2),(11,vi 2),(12,vb false)],[]⟩ trivial trivial ?_
   refine AX.seq ?_
   refine AX.cond_false (by kernel_rfl) ?_
   refine AX.exit ?_
   refine AX.seq ?_
   obtain ⟨x3,e4,h⟩:=ak h
   refine AX.rh [aN,.call 179 [.v (.slice none 0 0),vi v2] (aD (rho ([]++[0])) [] []++[]) (ah [] [0] (.sl 0 0 x3.length) [.arr 2 (List.map aa x3)])] [0,6] [0] ⟨[(0,.bx [.bs false 2 (List.map aa p1),.v (.slice none 0 0)]),(6,.sl 0 0 x3.length)],[(0,.arr 2 (List.map aa x3))]⟩ (pa (smA [.v (.slice none 0 0),vi v2]) <| trivial) ⟨aA (ks:=[]) (ns:=[0]) (bor:=[]) (bobjs:=[]) (ll v2 x3 e4) (.cons cS (.cons cS (.nil))) (by kernel_rfl) trivial,trivial⟩ ?_
   refine AX.seq ?_
   refine AX.si [] [6,25,26,27] [0] ⟨[(6,.sl 0 0 x3.length),(25,.bx [.bs false 2 (List.map aa p1),.v (.slice none 0 0)]),(26,vi 2),(27,vi 0)],[(0,.arr 2 (List.map aa x3))]⟩ trivial trivial ?_
   refine AX.block ?_
   refine AXL.start ?_
   refine AXL.step ?_
   refine AX.si [] [6,25,26,27,28] [0] ⟨[(6,.sl 0 0 x3.length),(25,.bx [.bs false 2 (List.map aa p1),.v (.slice none 0 0)]),(26,vi 2),(27,vi 0),(28,vb true)],[(0,.arr 2 (List.map aa x3))]⟩ trivial trivial ?_
   refine AX.seq ?_
   refine AX.cond_true (by kernel_rfl) ?_
   refine AX.skip ?_
   refine AX.seq ?_
   refine AX.block ?_
   refine AX.si [] [6,8,25,26,27] [0] ⟨[(6,.sl 0 0 x3.length),(8,.bs false 2 (List.map aa p1)),(25,.bx [.bs false 2 (List.map aa p1),.v (.slice none 0 0)]),(26,vi 2),(27,vi 0)],[(0,.arr 2 (List.map aa x3))]⟩ (pa ((by decide):((0:Int)≤0∧(0:Int)<((2:Nat):Int))) <| trivial) trivial ?_
   obtain ⟨g5,h⟩:=aw h
   refine AX.rh [aN,aN,.auto { y:=some (.sl 1 0 ((x3++p1).length)),els:=some (List.map aa x3),nk:=1 }] [6,25,26,27] [1] ⟨[(6,.sl 1 0 ((x3++p1).length)),(25,.bx [.bs false 2 (List.map aa p1),.v (.slice none 0 0)]),(26,vi 2),(27,vi 0)],[(1,.arr 2 (List.map aa x3++List.map aa p1))]⟩ (pa (⟨⟨⟨(bc (enc:=aa) rfl rfl),trivial⟩,(by simp only [List.length_map,List.length_nil,List.length_replicate];simpa using g5)⟩,cj (enc:=aa) (aH (enc:=aa) rfl (rfl))⟩:((((((List.map aa x3).drop 0).take (x3.length)=List.map aa x3)∧True)∧(List.map aa x3).length+(List.map aa p1).length≤1099511627776)∧(AV.sl 1 0 (List.map aa x3++List.map aa p1).length=AV.sl 1 0 (x3++p1).length))) <| trivial) trivial ?_
   refine AX.rh [.auto { raw:=true }] [6,25,26,27] [1] ⟨[(6,.sl 1 0 ((x3++p1).length)),(25,.bx [.bs false 2 (List.map aa p1),.v (.slice none 0 0)]),(26,vi 2),(27,vi 1)],[(1,.arr 2 (List.map aa x3++List.map aa p1))]⟩ trivial trivial ?_
   refine AXL.step ?_
   refine AX.si [] [6,25,26,27,28] [1] ⟨[(6,.sl 1 0 ((x3++p1).length)),(25,.bx [.bs false 2 (List.map aa p1),.v (.slice none 0 0)]),(26,vi 2),(27,vi 1),(28,vb true)],[(1,.arr 2 (List.map aa x3++List.map aa p1))]⟩ trivial trivial ?_
   refine AX.seq ?_
   refine AX.cond_true (by kernel_rfl) ?_
   refine AX.skip ?_
   refine AX.seq ?_
   refine AX.block ?_
   refine AX.si [] [6,8,25,26,27] [1] ⟨[(6,.sl 1 0 ((x3++p1).length)),(8,.v (.slice none 0 0)),(25,.bx [.bs false 2 (List.map aa p1),.v (.slice none 0 0)]),(26,vi 2),(27,vi 1)],[(1,.arr 2 (List.map aa x3++List.map aa p1))]⟩ (pa ((by decide):((0:Int)≤1∧(1:Int)<((2:Nat):Int))) <| trivial) trivial ?_
   obtain ⟨g6,h⟩:=aw h
   refine AX.rh [aN,aN,.auto { y:=some (.sl 2 0 (((x3++p1)++([]:List (ByteArray×Int))).length)),els:=some (List.map aa (x3++p1)),nk:=2 }] [6,25,26,27] [2] ⟨[(6,.sl 2 0 (((x3++p1)++([]:List (ByteArray×Int))).length)),(25,.bx [.bs false 2 (List.map aa p1),.v (.slice none 0 0)]),(26,vi 2),(27,vi 1)],[(2,.arr 2 (List.map aa (x3++p1)++([]:List (List Value))))]⟩ (pa (⟨⟨⟨(bc (enc:=aa) (aH (enc:=aa) rfl (rfl):List.map aa x3++List.map aa p1=List.map aa (x3++p1)) rfl),trivial⟩,(by simp only [List.length_map,List.length_nil,List.length_replicate];simpa using g6)⟩,cj (enc:=aa) (aH (enc:=aa) rfl (rfl))⟩:((((((List.map aa x3++List.map aa p1).drop 0).take ((x3++p1).length)=List.map aa (x3++p1))∧True)∧(List.map aa (x3++p1)).length+(([]:List (List Value))).length≤1099511627776)∧(AV.sl 2 0 (List.map aa (x3++p1)++([]:List (List Value))).length=AV.sl 2 0 ((x3++p1)++([]:List (ByteArray×Int))).length))) <| trivial) trivial ?_
   refine AX.rh [.auto { raw:=true }] [6,25,26,27] [2] ⟨[(6,.sl 2 0 (((x3++p1)++([]:List (ByteArray×Int))).length)),(25,.bx [.bs false 2 (List.map aa p1),.v (.slice none 0 0)]),(26,vi 2),(27,vi 2)],[(2,.arr 2 (List.map aa (x3++p1)++([]:List (List Value))))]⟩ trivial trivial ?_
   refine AXL.step ?_
   refine AX.si [] [6,25,26,27,28] [2] ⟨[(6,.sl 2 0 (((x3++p1)++([]:List (ByteArray×Int))).length)),(25,.bx [.bs false 2 (List.map aa p1),.v (.slice none 0 0)]),(26,vi 2),(27,vi 2),(28,vb false)],[(2,.arr 2 (List.map aa (x3++p1)++([]:List (List Value))))]⟩ trivial trivial ?_
   refine AX.seq ?_
   refine AX.cond_false (by kernel_rfl) ?_
   refine AX.exit ?_
   refine AX.si [] [2] [2] ⟨[(2,.sl 2 0 (((x3++p1)++([]:List (ByteArray×Int))).length))],[(2,.arr 2 (List.map aa (x3++p1)++([]:List (List Value))))]⟩ trivial trivial ?_
   refine AX.ret ?_
   refine ae (Wk.swap 0 2 (Nat.le_of_ble_eq_true (by kernel_rfl)) (Nat.le_of_ble_eq_true (by kernel_rfl)) rfl) ?_
   refine ae (Wk.fg [2] [0] ⟨[(2,.sl 0 0 (((x3++p1)++([]:List (ByteArray×Int))).length))],[(0,.arr 2 (List.map aa (x3++p1)++([]:List (List Value))))]⟩) ?_
   refine ae (Wk.of_eq (congrArg (fun z=>(⟨[(2,.sl 0 0 (((x3++p1)++([]:List (ByteArray×Int))).length))],[(0,.arr 2 (z))]⟩:S)) (aH (enc:=aa) rfl (rfl):List.map aa (x3++p1)++([]:List (List Value))=List.map aa ((x3++p1)++([]:List (ByteArray×Int)))))) ?_
   have hr:=Option.some.inj h
   subst hr
   exact ⟨_,Wk.refl _,.inr rfl,⟨[0],by kernel_rfl,⟨rfl,trivial⟩,[.sl 0 0 (((x3++p1)++([]:List (ByteArray×Int))).length)],by kernel_rfl,by kernel_rfl⟩⟩

theorem mG (p1:List (ByteArray×Int)) (p2:List (ByteArray×Int)) (r:List (ByteArray×Int)) (h:dG p1 p2=some r) :
  Eng.al Tryz.prog 159 [.bx [.bs false 2 (List.map aa p1),.bs false 2 (List.map aa p2)]] [] (.sl 0 0 r.length) [.arr 2 (List.map aa r)]:=by
 unfold dG at h
 refine Eng.al.body Tryz.func159 (by kernel_rfl) rfl (by kernel_rfl) ?_
 refine AX.wkpost ?_
 refine AX.si [] [0] [] ⟨[(0,.bx [.bs false 2 (List.map aa p1),.bs false 2 (List.map aa p2)])],[]⟩ trivial trivial ?_
 refine AX.si [] [0,3] [] ⟨[(0,.bx [.bs false 2 (List.map aa p1),.bs false 2 (List.map aa p2)]),(3,vi 0)],[]⟩ trivial trivial ?_
 refine AX.seq ?_
 refine AX.si [] [0,3,9,10,11] [] ⟨[(0,.bx [.bs false 2 (List.map aa p1),.bs false 2 (List.map aa p2)]),(3,vi 0),(9,.bx [.bs false 2 (List.map aa p1),.bs false 2 (List.map aa p2)]),(10,vi 2),(11,vi 0)],[]⟩ trivial trivial ?_
 refine AX.block ?_
 refine AXL.start ?_
 refine AXL.step ?_
 refine AX.si [] [0,3,9,10,11,12] [] ⟨[(0,.bx [.bs false 2 (List.map aa p1),.bs false 2 (List.map aa p2)]),(3,vi 0),(9,.bx [.bs false 2 (List.map aa p1),.bs false 2 (List.map aa p2)]),(10,vi 2),(11,vi 0),(12,vb true)],[]⟩ trivial trivial ?_
 refine AX.seq ?_
 refine AX.cond_true (by kernel_rfl) ?_
 refine AX.skip ?_
 refine AX.seq ?_
 refine AX.block ?_
 refine AX.si [] [0,3,5,9,10,11] [] ⟨[(0,.bx [.bs false 2 (List.map aa p1),.bs false 2 (List.map aa p2)]),(3,vi 0),(5,.bs false 2 (List.map aa p1)),(9,.bx [.bs false 2 (List.map aa p1),.bs false 2 (List.map aa p2)]),(10,vi 2),(11,vi 0)],[]⟩ (pa ((by decide):((0:Int)≤0∧(0:Int)<((2:Nat):Int))) <| trivial) trivial ?_
 refine AX.si [aN,aN,aY (vi (p1.length:Int)),.auto { raw:=true }] [0,3,9,10,11] [] ⟨[(0,.bx [.bs false 2 (List.map aa p1),.bs false 2 (List.map aa p2)]),(3,vi (IntKind.wrap .i64 (0+(p1.length:Int)))),(9,.bx [.bs false 2 (List.map aa p1),.bs false 2 (List.map aa p2)]),(10,vi 2),(11,vi 0)],[]⟩ (pa (⟨trivial,aS aa p1⟩:(True∧(vi ((List.map aa p1).length:Int)=vi (p1.length:Int)))) <| trivial) trivial ?_
 refine AX.si [] [0,3,9,10,11,20] [] ⟨[(0,.bx [.bs false 2 (List.map aa p1),.bs false 2 (List.map aa p2)]),(3,vi (IntKind.wrap .i64 (0+(p1.length:Int)))),(9,.bx [.bs false 2 (List.map aa p1),.bs false 2 (List.map aa p2)]),(10,vi 2),(11,vi 0),(20,vb (decide ((IntKind.wrap .i64 (0+(p1.length:Int)))<0)))],[]⟩ trivial trivial ?_
 rcases ac (decide ((IntKind.wrap .i64 (0+(p1.length:Int)))<0)) with b1 | b1
 ·replace h:=am b1 h
  refine AX.cT (decide ((IntKind.wrap .i64 (0+(p1.length:Int)))<0)) b1 ?_
  cases h
 ·replace h:=aq b1 h
  refine AX.cF (decide ((IntKind.wrap .i64 (0+(p1.length:Int)))<0)) b1 ?_
  refine AX.skip ?_
  refine AX.rh [.auto { raw:=true }] [0,3,9,10,11] [] ⟨[(0,.bx [.bs false 2 (List.map aa p1),.bs false 2 (List.map aa p2)]),(3,vi (IntKind.wrap .i64 (0+(p1.length:Int)))),(9,.bx [.bs false 2 (List.map aa p1),.bs false 2 (List.map aa p2)]),(10,vi 2),(11,vi 1)],[]⟩ trivial trivial ?_
  refine AXL.step ?_
  refine AX.si [] [0,3,9,10,11,12] [] ⟨[(0,.bx [.bs false 2 (List.map aa p1),.bs false 2 (List.map aa p2)]),(3,vi (IntKind.wrap .i64 (0+(p1.length:Int)))),(9,.bx [.bs false 2 (List.map aa p1),.bs false 2 (List.map aa p2)]),(10,vi 2),(11,vi 1),(12,vb true)],[]⟩ trivial trivial ?_
  refine AX.seq ?_
  refine AX.cond_true (by kernel_rfl) ?_
  refine AX.skip ?_
  refine AX.seq ?_
  refine AX.block ?_
  refine AX.si [] [0,3,5,9,10,11] [] ⟨[(0,.bx [.bs false 2 (List.map aa p1),.bs false 2 (List.map aa p2)]),(3,vi (IntKind.wrap .i64 (0+(p1.length:Int)))),(5,.bs false 2 (List.map aa p2)),(9,.bx [.bs false 2 (List.map aa p1),.bs false 2 (List.map aa p2)]),(10,vi 2),(11,vi 1)],[]⟩ (pa ((by decide):((0:Int)≤1∧(1:Int)<((2:Nat):Int))) <| trivial) trivial ?_
  refine AX.seq ?_
  obtain ⟨v3,q2,h⟩:=bT h
  refine AX.rh [aN,aN,aY (vi (p2.length:Int)),.auto { y:=some (vi v3),raw:=true }] [0,3,9,10,11] [] ⟨[(0,.bx [.bs false 2 (List.map aa p1),.bs false 2 (List.map aa p2)]),(3,vi v3),(9,.bx [.bs false 2 (List.map aa p1),.bs false 2 (List.map aa p2)]),(10,vi 2),(11,vi 1)],[]⟩ (pa (⟨trivial,aS aa p2⟩:(True∧(vi ((List.map aa p2).length:Int)=vi (p2.length:Int)))) <| pa (⟨trivial,(congrArg (fun z=>vi z) q2)⟩:((True)∧((vi (IntKind.wrap .i64 ((IntKind.wrap .i64 (0+(p1.length:Int)))+(p2.length:Int))):AV)=(vi v3:AV)))) <| trivial) trivial ?_
  refine AX.si [] [0,3,9,10,11,20] [] ⟨[(0,.bx [.bs false 2 (List.map aa p1),.bs false 2 (List.map aa p2)]),(3,vi v3),(9,.bx [.bs false 2 (List.map aa p1),.bs false 2 (List.map aa p2)]),(10,vi 2),(11,vi 1),(20,vb (decide (v3<0)))],[]⟩ trivial trivial ?_
  rcases ac (decide (v3<0)) with b3 | b3
  ·replace h:=am b3 h
   refine AX.cT (decide (v3<0)) b3 ?_
   cases h
  ·replace h:=aq b3 h
   refine AX.cF (decide (v3<0)) b3 ?_
   refine AX.skip ?_
   refine AX.rh [.auto { raw:=true }] [0,3,9,10,11] [] ⟨[(0,.bx [.bs false 2 (List.map aa p1),.bs false 2 (List.map aa p2)]),(3,vi v3),(9,.bx [.bs false 2 (List.map aa p1),.bs false 2 (List.map aa p2)]),(10,vi 2),(11,vi 2)],[]⟩ trivial trivial ?_
   refine AXL.step ?_
   refine AX.si [] [0,3,9,10,11,12] [] ⟨[(0,.bx [.bs false 2 (List.map aa p1),.bs false 2 (List.map aa p2)]),(3,vi v3),(9,.bx [.bs false 2 (List.map aa p1),.bs false 2 (List.map aa p2)]),(10,vi 2),(11,vi 2),(12,vb false)],[]⟩ trivial trivial ?_
   refine AX.seq ?_
   refine AX.cond_false (by kernel_rfl) ?_
   refine AX.exit ?_
   refine AX.seq ?_
   obtain ⟨x4,e4,h⟩:=ak h
   refine AX.rh [aN,.call 179 [.v (.slice none 0 0),vi v3] (aD (rho ([]++[0])) [] []++[]) (ah [] [0] (.sl 0 0 x4.length) [.arr 2 (List.map aa x4)])] [0,6] [0] ⟨[(0,.bx [.bs false 2 (List.map aa p1),.bs false 2 (List.map aa p2)]),(6,.sl 0 0 x4.length)],[(0,.arr 2 (List.map aa x4))]⟩ (pa (smA [.v (.slice none 0 0),vi v3]) <| trivial) ⟨aA (ks:=[]) (ns:=[0]) (bor:=[]) (bobjs:=[]) (ll v3 x4 e4) (.cons cS (.cons cS (.nil))) (by kernel_rfl) trivial,trivial⟩ ?_
   refine AX.seq ?_
   refine AX.si [] [6,25,26,27] [0] ⟨[(6,.sl 0 0 x4.length),(25,.bx [.bs false 2 (List.map aa p1),.bs false 2 (List.map aa p2)]),(26,vi 2),(27,vi 0)],[(0,.arr 2 (List.map aa x4))]⟩ trivial trivial ?_
   refine AX.block ?_
   refine AXL.start ?_
   refine AXL.step ?_
   refine AX.si [] [6,25,26,27,28] [0] ⟨[(6,.sl 0 0 x4.length),(25,.bx [.bs false 2 (List.map aa p1),.bs false 2 (List.map aa p2)]),(26,vi 2),(27,vi 0),(28,vb true)],[(0,.arr 2 (List.map aa x4))]⟩ trivial trivial ?_
   refine AX.seq ?_
   refine AX.cond_true (by kernel_rfl) ?_
   refine AX.skip ?_
   refine AX.seq ?_
   refine AX.block ?_
   refine AX.si [] [6,8,25,26,27] [0] ⟨[(6,.sl 0 0 x4.length),(8,.bs false 2 (List.map aa p1)),(25,.bx [.bs false 2 (List.map aa p1),.bs false 2 (List.map aa p2)]),(26,vi 2),(27,vi 0)],[(0,.arr 2 (List.map aa x4))]⟩ (pa ((by decide):((0:Int)≤0∧(0:Int)<((2:Nat):Int))) <| trivial) trivial ?_
   obtain ⟨g5,h⟩:=aw h
   refine AX.rh [aN,aN,.auto { y:=some (.sl 1 0 ((x4++p1).length)),els:=some (List.map aa x4),nk:=1 }] [6,25,26,27] [1] ⟨[(6,.sl 1 0 ((x4++p1).length)),(25,.bx [.bs false 2 (List.map aa p1),.bs false 2 (List.map aa p2)]),(26,vi 2),(27,vi 0)],[(1,.arr 2 (List.map aa x4++List.map aa p1))]⟩ (pa (⟨⟨⟨(bc (enc:=aa) rfl rfl),trivial⟩,(by simp only [List.length_map,List.length_nil,List.length_replicate];simpa using g5)⟩,cj (enc:=aa) (aH (enc:=aa) rfl (rfl))⟩:((((((List.map aa x4).drop 0).take (x4.length)=List.map aa x4)∧True)∧(List.map aa x4).length+(List.map aa p1).length≤1099511627776)∧(AV.sl 1 0 (List.map aa x4++List.map aa p1).length=AV.sl 1 0 (x4++p1).length))) <| trivial) trivial ?_
   refine AX.rh [.auto { raw:=true }] [6,25,26,27] [1] ⟨[(6,.sl 1 0 ((x4++p1).length)),(25,.bx [.bs false 2 (List.map aa p1),.bs false 2 (List.map aa p2)]),(26,vi 2),(27,vi 1)],[(1,.arr 2 (List.map aa x4++List.map aa p1))]⟩ trivial trivial ?_
   refine AXL.step ?_
   refine AX.si [] [6,25,26,27,28] [1] ⟨[(6,.sl 1 0 ((x4++p1).length)),(25,.bx [.bs false 2 (List.map aa p1),.bs false 2 (List.map aa p2)]),(26,vi 2),(27,vi 1),(28,vb true)],[(1,.arr 2 (List.map aa x4++List.map aa p1))]⟩ trivial trivial ?_
   refine AX.seq ?_
   refine AX.cond_true (by kernel_rfl) ?_
   refine AX.skip ?_
   refine AX.seq ?_
   refine AX.block ?_
   refine AX.si [] [6,8,25,26,27] [1] ⟨[(6,.sl 1 0 ((x4++p1).length)),(8,.bs false 2 (List.map aa p2)),(25,.bx [.bs false 2 (List.map aa p1),.bs false 2 (List.map aa p2)]),(26,vi 2),(27,vi 1)],[(1,.arr 2 (List.map aa x4++List.map aa p1))]⟩ (pa ((by decide):((0:Int)≤1∧(1:Int)<((2:Nat):Int))) <| trivial) trivial ?_
   obtain ⟨g6,h⟩:=aw h
   refine AX.rh [aN,aN,.auto { y:=some (.sl 2 0 (((x4++p1)++p2).length)),els:=some (List.map aa (x4++p1)),nk:=2 }] [6,25,26,27] [2] ⟨[(6,.sl 2 0 (((x4++p1)++p2).length)),(25,.bx [.bs false 2 (List.map aa p1),.bs false 2 (List.map aa p2)]),(26,vi 2),(27,vi 1)],[(2,.arr 2 (List.map aa (x4++p1)++List.map aa p2))]⟩ (pa (⟨⟨⟨(bc (enc:=aa) (aH (enc:=aa) rfl (rfl):List.map aa x4++List.map aa p1=List.map aa (x4++p1)) rfl),trivial⟩,(by simp only [List.length_map,List.length_nil,List.length_replicate];simpa using g6)⟩,cj (enc:=aa) (aH (enc:=aa) rfl (rfl))⟩:((((((List.map aa x4++List.map aa p1).drop 0).take ((x4++p1).length)=List.map aa (x4++p1))∧True)∧(List.map aa (x4++p1)).length+(List.map aa p2).length≤1099511627776)∧(AV.sl 2 0 (List.map aa (x4++p1)++List.map aa p2).length=AV.sl 2 0 ((x4++p1)++p2).length))) <| trivial) trivial ?_
   refine AX.rh [.auto { raw:=true }] [6,25,26,27] [2] ⟨[(6,.sl 2 0 (((x4++p1)++p2).length)),(25,.bx [.bs false 2 (List.map aa p1),.bs false 2 (List.map aa p2)]),(26,vi 2),(27,vi 2)],[(2,.arr 2 (List.map aa (x4++p1)++List.map aa p2))]⟩ trivial trivial ?_
   refine AXL.step ?_
   refine AX.si [] [6,25,26,27,28] [2] ⟨[(6,.sl 2 0 (((x4++p1)++p2).length)),(25,.bx [.bs false 2 (List.map aa p1),.bs false 2 (List.map aa p2)]),(26,vi 2),(27,vi 2),(28,vb false)],[(2,.arr 2 (List.map aa (x4++p1)++List.map aa p2))]⟩ trivial trivial ?_
   refine AX.seq ?_
   refine AX.cond_false (by kernel_rfl) ?_
   refine AX.exit ?_
   refine AX.si [] [2] [2] ⟨[(2,.sl 2 0 (((x4++p1)++p2).length))],[(2,.arr 2 (List.map aa (x4++p1)++List.map aa p2))]⟩ trivial trivial ?_
   refine AX.ret ?_
   refine ae (Wk.swap 0 2 (Nat.le_of_ble_eq_true (by kernel_rfl)) (Nat.le_of_ble_eq_true (by kernel_rfl)) rfl) ?_
   refine ae (Wk.fg [2] [0] ⟨[(2,.sl 0 0 (((x4++p1)++p2).length))],[(0,.arr 2 (List.map aa (x4++p1)++List.map aa p2))]⟩) ?_
   refine ae (Wk.of_eq (congrArg (fun z=>(⟨[(2,.sl 0 0 (((x4++p1)++p2).length))],[(0,.arr 2 (z))]⟩:S)) (aH (enc:=aa) rfl (rfl):List.map aa (x4++p1)++List.map aa p2=List.map aa ((x4++p1)++p2)))) ?_
   have hr:=Option.some.inj h
   subst hr
   exact ⟨_,Wk.refl _,.inr rfl,⟨[0],by kernel_rfl,⟨rfl,trivial⟩,[.sl 0 0 (((x4++p1)++p2).length)],by kernel_rfl,by kernel_rfl⟩⟩

theorem rv (rec:(List (ByteArray×Int))→Int→Int→Option ((List (ByteArray×Int))×Bool)) (ih:∀ (p1:List (ByteArray×Int)) (p2:Int) (p3:Int) (r:(List (ByteArray×Int))×Bool) (h:rec p1 p2 p3=some r),Eng.al Tryz.prog 131 [.bs false 2 (List.map aa p1),vi p2,vi p3] [] (.tup [.sl 0 0 r.1.length,vb r.2]) [.arr 2 (List.map aa r.1)]) (p1:List (ByteArray×Int)) (p2:Int) (p3:Int) (n:Nat) (g:Int) (out:List (ByteArray×Int) ⊕ Unit) (h:cL rec p1 p2 p3 n g=some out) :
  AX Tryz.prog 44 0 (codeAt [1,1,0,1,1] (aU Tryz.f131)) ((fun g:Int=>(⟨[(0,.bs false 2 (List.map aa p1)),(1,vi p2),(2,vi p3),(16,.bs false 2 (List.map aa p1)),(17,vi (p1.length:Int)),(18,vi g)],[]⟩:S)) g) (fun ex s=>(∃ o:List (ByteArray×Int),out=Sum.inl o∧ex=.ret∧s=⟨[(6,.sl 0 0 o.length),(7,vb true)],[(0,.arr 2 (List.map aa o))]⟩)∨(∃ o:Unit,out=Sum.inr o∧ex=.exit 0∧s=⟨[],[]⟩)):=by
 refine AX.wkpost ?_
 refine AX.loop (G:=Nat×(Int)) (fun q=>(fun g:Int=>(⟨[(0,.bs false 2 (List.map aa p1)),(1,vi p2),(2,vi p3),(16,.bs false 2 (List.map aa p1)),(17,vi (p1.length:Int)),(18,vi g)],[]⟩:S)) q.2) (fun q=>cL rec p1 p2 p3 q.1 q.2=some out) (fun q=>q.1) (n,g) h (Wk.refl _) ?_
 clear h
 rintro ⟨fu,v4⟩ h
 cases fu with
 | zero=>cases h
 | succ fu =>
  rw [cL] at h
  refine AX.si [] [0,1,2,16,17,18,19] [] ⟨[(0,.bs false 2 (List.map aa p1)),(1,vi p2),(2,vi p3),(16,.bs false 2 (List.map aa p1)),(17,vi (p1.length:Int)),(18,vi v4),(19,vb (decide (v4<(p1.length:Int))))],[]⟩ trivial trivial ?_
  refine AX.seq ?_
  rcases ac (decide (v4<(p1.length:Int))) with b2 | b2
  ·replace h:=am b2 h
   refine AX.cT (decide (v4<(p1.length:Int))) b2 ?_
   refine AX.skip ?_
   refine AX.seq ?_
   refine AX.block ?_
   refine AX.seq ?_
   obtain ⟨g3,h⟩:=aw h
   refine AX.rh [aN,aY (.be 2 (aa (gt p1 v4)) 0),aN,.auto { nk:=0 }] [0,1,2,8,9,16,17,18] [0] ⟨[(0,.bs false 2 (List.map aa p1)),(1,vi p2),(2,vi p3),(8,vi v4),(9,.pt 0 0),(16,.bs false 2 (List.map aa p1)),(17,vi (p1.length:Int)),(18,vi v4)],[(0,.box [vs ((gt p1 v4).1),vi ((gt p1 v4).2)])]⟩ (pa (aJ aa p1 v4 2 g3) <| trivial) trivial ?_
   refine AX.seq ?_
   obtain ⟨g4,h⟩:=aw h
   obtain ⟨x5,e5,h⟩:=ak h
   refine AX.dh mixed [aN,aN,.auto { raw:=true },.auto { y:=some (.bs false 2 (List.map aa (sub p1 (IntKind.wrap .i64 (v4+1)) (p1.length:Int)))) },aN,.auto { raw:=true },aN,aN,aN,aN,.call 131 [.bs false 2 (List.map aa (sub p1 (IntKind.wrap .i64 (v4+1)) (p1.length:Int))),vi (IntKind.wrap .i64 (p2 - 1)),vi (Go.bits .andNot .i64 p3 ((gt p1 v4).2))] (aD (rho ([]++[1])) [] []++[]) (ah [] [1] (.tup [.sl 0 0 x5.1.length,vb x5.2]) [.arr 2 (List.map aa x5.1)])] [0,1,2,9,10,11,16,17,18] [0,1] ⟨[(0,.bs false 2 (List.map aa p1)),(1,vi p2),(2,vi p3),(9,.pt 0 0),(10,.sl 1 0 x5.1.length),(11,vb x5.2),(16,.bs false 2 (List.map aa p1)),(17,vi (p1.length:Int)),(18,vi v4)],[(0,.box [vs ((gt p1 v4).1),vi ((gt p1 v4).2)]),(1,.arr 2 (List.map aa x5.1))]⟩ (pa (⟨by first | exact g4 | simpa only [List.length_map] using g4,by first | exact iA aa p1 (IntKind.wrap .i64 (v4+1)) (p1.length:Int) false 2 | (simp only [List.length_map];exact iA aa p1 (IntKind.wrap .i64 (v4+1)) (p1.length:Int) false 2)⟩:((0≤(IntKind.wrap .i64 (v4+1))∧(IntKind.wrap .i64 (v4+1))≤((List.map aa p1).length:Int)∧((List.map aa p1).length:Int)≤((List.map aa p1).length:Int)∧((List.map aa p1).length:Int)≤((List.map aa p1).length:Int))∧(AV.bs false 2 (((List.map aa p1).drop (IntKind.wrap .i64 (v4+1)).toNat).take (((List.map aa p1).length:Int).toNat - (IntKind.wrap .i64 (v4+1)).toNat))=(.bs false 2 (List.map aa (sub p1 (IntKind.wrap .i64 (v4+1)) (p1.length:Int))):AV)))) <| pa (smA [.bs false 2 (List.map aa (sub p1 (IntKind.wrap .i64 (v4+1)) (p1.length:Int))),vi (IntKind.wrap .i64 (p2 - 1)),vi (Go.bits .andNot .i64 p3 ((gt p1 v4).2))]) <| trivial) ⟨aA (ks:=[]) (ns:=[1]) (bor:=[]) (bobjs:=[]) (ih (sub p1 (IntKind.wrap .i64 (v4+1)) (p1.length:Int)) (IntKind.wrap .i64 (p2 - 1)) (Go.bits .andNot .i64 p3 ((gt p1 v4).2)) x5 e5) (.cons cS (.cons cS (.cons cS (.nil)))) (by kernel_rfl) trivial,trivial⟩ ?_
   refine AX.si [] [0,1,2,9,10,16,17,18,37] [0,1] ⟨[(0,.bs false 2 (List.map aa p1)),(1,vi p2),(2,vi p3),(9,.pt 0 0),(10,.sl 1 0 x5.1.length),(16,.bs false 2 (List.map aa p1)),(17,vi (p1.length:Int)),(18,vi v4),(37,vb x5.2)],[(0,.box [vs ((gt p1 v4).1),vi ((gt p1 v4).2)]),(1,.arr 2 (List.map aa x5.1))]⟩ trivial trivial ?_
   rcases ac (x5.2) with b6 | b6
   ·replace h:=am b6 h
    refine AX.cT (x5.2) b6 ?_
    refine AX.seq ?_
    obtain ⟨x6,e7,h⟩:=ak h
    refine AX.rh [aN,.auto { nk:=2 },aN,.auto { raw:=true,nk:=3 },.call 159 [.sx 3 2] (aD (rho ([]++[4])) [] []++[(3,.box [.sl 2 0 (([((gt p1 v4).1,(gt p1 v4).2)]:List (ByteArray×Int)).length),.sl 1 0 x5.1.length]),(2,.arr 2 (List.map aa ([((gt p1 v4).1,(gt p1 v4).2)]:List (ByteArray×Int)))),(1,.arr 2 (List.map aa x5.1))]) (ah [] [4] (.sl 0 0 x6.length) [.arr 2 (List.map aa x6)])] [6,7] [4] ⟨[(6,.sl 4 0 x6.length),(7,vb true)],[(4,.arr 2 (List.map aa x6))]⟩ (pa (⟨rfl,rfl,rfl,rfl,trivial⟩:((([.sx 3 2]:List AV)=[.sx 3 2])∧(AO.box [.sl 2 0 (([((gt p1 v4).1,(gt p1 v4).2)]:List (ByteArray×Int)).length),.sl 1 0 x5.1.length]=AO.box [.sl 2 0 (([((gt p1 v4).1,(gt p1 v4).2)]:List (ByteArray×Int)).length),.sl 1 0 x5.1.length])∧(AO.arr 2 (List.map aa ([((gt p1 v4).1,(gt p1 v4).2)]:List (ByteArray×Int)))=AO.arr 2 (List.map aa ([((gt p1 v4).1,(gt p1 v4).2)]:List (ByteArray×Int))))∧(AO.arr 2 (List.map aa x5.1)=AO.arr 2 (List.map aa x5.1))∧True)) <| trivial) ⟨aA (ks:=[]) (ns:=[4]) (bor:=[3,2,1]) (bobjs:=[(3,.box [.sl 2 0 (([((gt p1 v4).1,(gt p1 v4).2)]:List (ByteArray×Int)).length),.sl 1 0 x5.1.length]),(2,.arr 2 (List.map aa ([((gt p1 v4).1,(gt p1 v4).2)]:List (ByteArray×Int)))),(1,.arr 2 (List.map aa x5.1))]) (mG ([((gt p1 v4).1,(gt p1 v4).2)]:List (ByteArray×Int)) x5.1 x6 e7) (.cons (.c1 (.sx rfl rfl (.cons (.arr rfl rfl ((rfl).trans (List.length_map ..).symm)) (.cons (.arr rfl rfl ((rfl).trans (List.length_map ..).symm)) (.nil))))) (.nil)) (by kernel_rfl) trivial,trivial⟩ ?_
    refine AX.ret ?_
    refine ae (Wk.swap 0 4 (Nat.le_of_ble_eq_true (by kernel_rfl)) (Nat.le_of_ble_eq_true (by kernel_rfl)) rfl) ?_
    refine ae (Wk.fg [6,7] [0] ⟨[(6,.sl 0 0 x6.length),(7,vb true)],[(0,.arr 2 (List.map aa x6))]⟩) ?_
    have hr:=Option.some.inj h
    subst hr
    exact ⟨_,Wk.refl _,.inl ⟨x6,rfl,rfl,rfl⟩⟩
   ·replace h:=aq b6 h
    refine AX.cF (x5.2) b6 ?_
    refine AX.skip ?_
    refine AX.rh [.auto { raw:=true }] [0,1,2,16,17,18] [] ⟨[(0,.bs false 2 (List.map aa p1)),(1,vi p2),(2,vi p3),(16,.bs false 2 (List.map aa p1)),(17,vi (p1.length:Int)),(18,vi (IntKind.wrap .i64 (v4+1)))],[]⟩ trivial trivial ?_
    refine ⟨(fu,IntKind.wrap .i64 (v4+1)),h,Nat.lt_succ_self _,?_⟩
    refine Wk.trans (Wk.fg [0,1,2,16,17,18] [] ⟨[(0,.bs false 2 (List.map aa p1)),(1,vi p2),(2,vi p3),(16,.bs false 2 (List.map aa p1)),(17,vi (p1.length:Int)),(18,vi (IntKind.wrap .i64 (v4+1)))],[]⟩) ?_
    exact Wk.refl _
  ·replace h:=aq b2 h
   refine AX.cF (decide (v4<(p1.length:Int))) b2 ?_
   refine AX.exit ?_
   refine ae (Wk.fg [] [] ⟨[],[]⟩) ?_
   have hr:=Option.some.inj h
   subst hr
   exact ⟨_,Wk.refl _,.inr ⟨(),rfl,rfl,rfl⟩⟩

theorem s_impl_fewest:∀ (fu:Nat) (p1:List (ByteArray×Int)) (p2:Int) (p3:Int) (r:(List (ByteArray×Int))×Bool) (h:m_impl_fewest fu p1 p2 p3=some r),
  Eng.al Tryz.prog 131 [.bs false 2 (List.map aa p1),vi p2,vi p3] [] (.tup [.sl 0 0 r.1.length,vb r.2]) [.arr 2 (List.map aa r.1)]:=by
 intro fu
 induction fu with
 | zero=>intro p1 p2 p3 r h;cases h
 | succ fu ih =>
  intro p1 p2 p3 r h
  rw [m_impl_fewest] at h
  refine Eng.al.body Tryz.func131 (by kernel_rfl) rfl (by kernel_rfl) ?_
  refine AX.wkpost ?_
  refine AX.si [] [0,1,2] [] ⟨[(0,.bs false 2 (List.map aa p1)),(1,vi p2),(2,vi p3)],[]⟩ trivial trivial ?_
  refine AX.seq ?_
  refine AX.si [] [0,1,2,13] [] ⟨[(0,.bs false 2 (List.map aa p1)),(1,vi p2),(2,vi p3),(13,vb (decide (p2=0)))],[]⟩ trivial trivial ?_
  rcases ac (decide (p2=0)) with b1 | b1
  ·replace h:=am b1 h
   refine AX.cT (decide (p2=0)) b1 ?_
   refine AX.si [] [6,7] [] ⟨[(6,.v (.slice none 0 0)),(7,vb (decide (p3=0)))],[]⟩ trivial trivial ?_
   refine AX.ret ?_
   refine ae (Wk.mat 6 0 2 (by kernel_rfl) (Nat.le_of_ble_eq_true (by kernel_rfl)) (by kernel_rfl) rfl) ?_
   refine ae (Wk.fg [6,7] [0] ⟨[(6,.sl 0 0 (([]:List (ByteArray×Int)).length)),(7,vb (decide (p3=0)))],[(0,.arr 2 (List.map aa ([]:List (ByteArray×Int))))]⟩) ?_
   have hr:=Option.some.inj h
   subst hr
   exact ⟨_,Wk.refl _,.inr rfl,⟨[0],by kernel_rfl,⟨rfl,trivial⟩,[.sl 0 0 (([]:List (ByteArray×Int)).length),vb (decide (p3=0))],by kernel_rfl,by kernel_rfl⟩⟩
  ·replace h:=aq b1 h
   refine AX.cF (decide (p2=0)) b1 ?_
   refine AX.skip ?_
   refine AX.seq ?_
   refine AX.si [aN,aY (vi (p1.length:Int))] [0,1,2,16,17,18] [] ⟨[(0,.bs false 2 (List.map aa p1)),(1,vi p2),(2,vi p3),(16,.bs false 2 (List.map aa p1)),(17,vi (p1.length:Int)),(18,vi 0)],[]⟩ (pa (⟨trivial,aS aa p1⟩:(True∧(vi ((List.map aa p1).length:Int)=vi (p1.length:Int)))) <| trivial) trivial ?_
   refine AX.block ?_
   obtain ⟨x7,e8,h⟩:=ak h
   refine AX.wk (Wk.fg [0,1,2,16,17,18] [] ⟨[(0,.bs false 2 (List.map aa p1)),(1,vi p2),(2,vi p3),(16,.bs false 2 (List.map aa p1)),(17,vi (p1.length:Int)),(18,vi 0)],[]⟩) ?_
   refine AX.mono (rv (m_impl_fewest fu) ih p1 p2 p3 FU 0 x7 e8) ?_
   rintro _ _ (⟨x8,rfl,rfl,rfl⟩ | ⟨x9,rfl,rfl,rfl⟩)
   ·replace h:=eL h
    refine ae (Wk.fg [6,7] [0] ⟨[(6,.sl 0 0 x8.length),(7,vb true)],[(0,.arr 2 (List.map aa x8))]⟩) ?_
    have hr:=Option.some.inj h
    subst hr
    exact ⟨_,Wk.refl _,.inr rfl,⟨[0],by kernel_rfl,⟨rfl,trivial⟩,[.sl 0 0 x8.length,vb true],by kernel_rfl,by kernel_rfl⟩⟩
   ·replace h:=eU h
    refine AX.si [] [6,7] [] ⟨[(6,.v (.slice none 0 0)),(7,vb false)],[]⟩ trivial trivial ?_
    refine AX.ret ?_
    refine ae (Wk.mat 6 0 2 (by kernel_rfl) (Nat.le_of_ble_eq_true (by kernel_rfl)) (by kernel_rfl) rfl) ?_
    refine ae (Wk.fg [6,7] [0] ⟨[(6,.sl 0 0 (([]:List (ByteArray×Int)).length)),(7,vb false)],[(0,.arr 2 (List.map aa ([]:List (ByteArray×Int))))]⟩) ?_
    have hr:=Option.some.inj h
    subst hr
    exact ⟨_,Wk.refl _,.inr rfl,⟨[0],by kernel_rfl,⟨rfl,trivial⟩,[.sl 0 0 (([]:List (ByteArray×Int)).length),vb false],by kernel_rfl,by kernel_rfl⟩⟩

theorem nM (x4:List (ByteArray×Int)) (n:Nat) (g:Int) (out:List (ByteArray×Int)) (h:cp x4 n g=some out) :
  AX Tryz.prog 24 0 (codeAt [1,1,1,1] (aU Tryz.f86)) ((fun g:Int=>(⟨[(5,.sl 0 0 x4.length),(6,vi g)],[(0,.arr 2 (List.map aa x4))]⟩:S)) g) (fun ex s=>ex=.ret∧s=(fun o:List (ByteArray×Int)=>(⟨[(4,.sl 0 0 o.length)],[(0,.arr 2 (List.map aa o))]⟩:S)) out):=by
 refine AX.wkpost ?_
 refine AX.loop (G:=Nat×(Int)) (fun q=>(fun g:Int=>(⟨[(5,.sl 0 0 x4.length),(6,vi g)],[(0,.arr 2 (List.map aa x4))]⟩:S)) q.2) (fun q=>cp x4 q.1 q.2=some out) (fun q=>q.1) (n,g) h (Wk.refl _) ?_
 clear h
 rintro ⟨fu,v5⟩ h
 cases fu with
 | zero=>cases h
 | succ fu =>
  rw [cp] at h
  refine AX.seq ?_
  refine AX.block ?_
  refine AX.seq ?_
  obtain ⟨x6,e2,h⟩:=ak h
  obtain ⟨x7,e3,h⟩:=ak h
  refine AX.rh [aN,aN,aN,.call 89 [.sl 0 0 x4.length] (aD (rho ([]++[])) [] []++[(0,.arr 2 (List.map aa x4))]) (ah [] [] (vi x6) []),.call 131 [.sl 0 0 x4.length,vi v5,vi x6] (aD (rho ([]++[1])) [] []++[(0,.arr 2 (List.map aa x4))]) (ah [] [1] (.tup [.sl 0 0 x7.1.length,vb x7.2]) [.arr 2 (List.map aa x7.1)])] [5,6,7,8] [0,1] ⟨[(5,.sl 0 0 x4.length),(6,vi v5),(7,.sl 1 0 x7.1.length),(8,vb x7.2)],[(0,.arr 2 (List.map aa x4)),(1,.arr 2 (List.map aa x7.1))]⟩ (pa (⟨rfl,rfl,trivial⟩:((([.sl 0 0 x4.length]:List AV)=[.sl 0 0 x4.length])∧(AO.arr 2 (List.map aa x4)=AO.arr 2 (List.map aa x4))∧True)) <| pa (⟨rfl,rfl,trivial⟩:((([.sl 0 0 x4.length,vi v5,vi x6]:List AV)=[.sl 0 0 x4.length,vi v5,vi x6])∧(AO.arr 2 (List.map aa x4)=AO.arr 2 (List.map aa x4))∧True)) <| trivial) ⟨aA (ks:=[]) (ns:=[]) (bor:=[0]) (bobjs:=[(0,.arr 2 (List.map aa x4))]) (mr x4 x6 e2) (.cons (.c1 (.c0 (.arr rfl rfl ((rfl).trans (List.length_map ..).symm)))) (.nil)) (by kernel_rfl) trivial,aA (ks:=[]) (ns:=[1]) (bor:=[0]) (bobjs:=[(0,.arr 2 (List.map aa x4))]) (s_impl_fewest FU x4 v5 x6 x7 e3) (.cons (.c1 (.c0 (.arr rfl rfl ((rfl).trans (List.length_map ..).symm)))) (.cons cS (.cons cS (.nil)))) (by kernel_rfl) trivial,trivial⟩ ?_
  refine AX.si [] [5,6,7,22] [0,1] ⟨[(5,.sl 0 0 x4.length),(6,vi v5),(7,.sl 1 0 x7.1.length),(22,vb x7.2)],[(0,.arr 2 (List.map aa x4)),(1,.arr 2 (List.map aa x7.1))]⟩ trivial trivial ?_
  rcases ac (x7.2) with b4 | b4
  ·replace h:=am b4 h
   refine AX.cT (x7.2) b4 ?_
   refine AX.si [] [4] [1] ⟨[(4,.sl 1 0 x7.1.length)],[(1,.arr 2 (List.map aa x7.1))]⟩ trivial trivial ?_
   refine AX.ret ?_
   refine ae (Wk.swap 0 1 (Nat.le_of_ble_eq_true (by kernel_rfl)) (Nat.le_of_ble_eq_true (by kernel_rfl)) rfl) ?_
   refine ae (Wk.fg [4] [0] ⟨[(4,.sl 0 0 x7.1.length)],[(0,.arr 2 (List.map aa x7.1))]⟩) ?_
   have hr:=Option.some.inj h
   subst hr
   exact ⟨_,Wk.refl _,⟨rfl,rfl⟩⟩
  ·replace h:=aq b4 h
   refine AX.cF (x7.2) b4 ?_
   refine AX.skip ?_
   refine AX.rh [aN,.auto { raw:=true }] [5,6] [0] ⟨[(5,.sl 0 0 x4.length),(6,vi (IntKind.wrap .i64 (v5+1)))],[(0,.arr 2 (List.map aa x4))]⟩ trivial trivial ?_
   refine ⟨(fu,IntKind.wrap .i64 (v5+1)),h,Nat.lt_succ_self _,?_⟩
   refine Wk.trans (Wk.fg [5,6] [0] ⟨[(5,.sl 0 0 x4.length),(6,vi (IntKind.wrap .i64 (v5+1)))],[(0,.arr 2 (List.map aa x4))]⟩) ?_
   exact Wk.refl _

theorem qf (p1:List (ByteArray×Int)) (p2:Int) (p3:Int) (r:List (ByteArray×Int)) (h:fG p1 p2 p3=some r) :
  Eng.al Tryz.prog 86 [.agg [.bs false 2 (List.map aa p1),vi p2],vi p3] [] (.sl 0 0 r.length) [.arr 2 (List.map aa r)]:=by
 unfold fG at h
 refine Eng.al.body Tryz.func86 (by kernel_rfl) rfl (by kernel_rfl) ?_
 refine AX.wkpost ?_
 refine AX.si [.auto { nk:=0 }] [1,2] [0] ⟨[(1,vi p3),(2,.pt 0 0)],[(0,.box [.bs false 2 (List.map aa p1),vi p2])]⟩ trivial trivial ?_
 refine AX.seq ?_
 obtain ⟨x4,e1,h⟩:=ak h
 refine AX.rh [aN,aN,.call 130 [.agg [.bs false 2 (List.map aa p1),vi p2],vi p3] (aD (rho ([]++[1])) [] []++[]) (ah [] [1] (.sl 0 0 x4.length) [.arr 2 (List.map aa x4)])] [5] [1] ⟨[(5,.sl 1 0 x4.length)],[(1,.arr 2 (List.map aa x4))]⟩ (pa (smA [.agg [.bs false 2 (List.map aa p1),vi p2],vi p3]) <| trivial) ⟨aA (ks:=[]) (ns:=[1]) (bor:=[]) (bobjs:=[]) (ox p1 p2 p3 x4 e1) (.cons (.c1 (.agg (.cons (.same _ (by kernel_rfl) (by kernel_rfl)) (.cons (.same _ (by kernel_rfl) (by kernel_rfl)) (.nil))))) (.cons cS (.nil))) (by kernel_rfl) trivial,trivial⟩ ?_
 refine AX.si [] [5,6] [1] ⟨[(5,.sl 1 0 x4.length),(6,vi 0)],[(1,.arr 2 (List.map aa x4))]⟩ trivial trivial ?_
 refine AX.block ?_
 obtain ⟨x8,e5,h⟩:=ak h
 refine AX.wk (Wk.swap 0 1 (Nat.le_of_ble_eq_true (by kernel_rfl)) (Nat.le_of_ble_eq_true (by kernel_rfl)) rfl) ?_
 refine AX.wk (Wk.fg [5,6] [0] ⟨[(5,.sl 0 0 x4.length),(6,vi 0)],[(0,.arr 2 (List.map aa x4))]⟩) ?_
 refine AX.mono (nM x4 FU 0 x8 e5) ?_
 rintro _ _ ⟨rfl,rfl⟩
 skip
 refine ae (Wk.fg [4] [0] ⟨[(4,.sl 0 0 x8.length)],[(0,.arr 2 (List.map aa x8))]⟩) ?_
 have hr:=Option.some.inj h
 subst hr
 exact ⟨_,Wk.refl _,.inr rfl,⟨[0],by kernel_rfl,⟨rfl,trivial⟩,[.sl 0 0 x8.length],by kernel_rfl,by kernel_rfl⟩⟩

theorem vl (p1:ByteArray) (p2:Int) (r:Unit) (h:jw p1 p2=some r) :
  Eng.al Tryz.prog 88 [.agg [vs p1,vi p2]] [] (vb true) []:=by
 unfold jw at h
 refine Eng.al.body Tryz.func88 (by kernel_rfl) rfl (by kernel_rfl) ?_
 refine AX.wkpost ?_
 refine AX.si [.auto { nk:=0 }] [] [] ⟨[],[]⟩ trivial trivial ?_
 refine AX.si [] [2] [] ⟨[(2,vb true)],[]⟩ trivial trivial ?_
 refine AX.ret ?_
 refine ae (Wk.fg [2] [] ⟨[(2,vb true)],[]⟩) ?_
 have hr:=Option.some.inj h
 subst hr
 exact ⟨_,Wk.refl _,.inr rfl,⟨[],by kernel_rfl,trivial,[vb true],by kernel_rfl,by kernel_rfl⟩⟩

theorem mA (p1:List (ByteArray×Int)) (n:Nat) (g:List ByteArray×Int) (out:List ByteArray) (h:bY p1 n g.1 g.2=some out) :
  AX Tryz.prog 25 0 (codeAt [1,1,0,1,1] (aU Tryz.f87)) ((fun g:List ByteArray×Int=>(⟨[(1,.fn 88 []),(5,.sl 0 0 g.1.length),(8,.bs false 2 (List.map aa p1)),(9,vi (p1.length:Int)),(10,vi g.2)],[(0,.arr 1 (List.map ab g.1))]⟩:S)) g) (fun ex s=>ex=.exit 0∧s=(fun o:List ByteArray=>(⟨[(5,.sl 0 0 o.length)],[(0,.arr 1 (List.map ab o))]⟩:S)) out):=by
 refine AX.wkpost ?_
 refine AX.loop (G:=Nat×(List ByteArray×Int)) (fun q=>(fun g:List ByteArray×Int=>(⟨[(1,.fn 88 []),(5,.sl 0 0 g.1.length),(8,.bs false 2 (List.map aa p1)),(9,vi (p1.length:Int)),(10,vi g.2)],[(0,.arr 1 (List.map ab g.1))]⟩:S)) q.2) (fun q=>bY p1 q.1 q.2.1 q.2.2=some out) (fun q=>q.1) (n,g) h (Wk.refl _) ?_
 clear h
 rintro ⟨fu,v2,v3⟩ h
 cases fu with
 | zero=>cases h
 | succ fu =>
  rw [bY] at h
  refine AX.si [] [1,5,8,9,10,11] [0] ⟨[(1,.fn 88 []),(5,.sl 0 0 v2.length),(8,.bs false 2 (List.map aa p1)),(9,vi (p1.length:Int)),(10,vi v3),(11,vb (decide (v3<(p1.length:Int))))],[(0,.arr 1 (List.map ab v2))]⟩ trivial trivial ?_
  refine AX.seq ?_
  rcases ac (decide (v3<(p1.length:Int))) with b1 | b1
  ·replace h:=am b1 h
   refine AX.cT (decide (v3<(p1.length:Int))) b1 ?_
   refine AX.skip ?_
   refine AX.seq ?_
   refine AX.block ?_
   refine AX.seq ?_
   obtain ⟨g2,h⟩:=aw h
   refine AX.rh [aY (.be 2 (aa (gt p1 v3)) 0),aN,.auto { nk:=1 }] [1,5,7,8,9,10] [0,1] ⟨[(1,.fn 88 []),(5,.sl 0 0 v2.length),(7,.pt 1 0),(8,.bs false 2 (List.map aa p1)),(9,vi (p1.length:Int)),(10,vi v3)],[(0,.arr 1 (List.map ab v2)),(1,.box [vs ((gt p1 v3).1),vi ((gt p1 v3).2)])]⟩ (pa (aJ aa p1 v3 2 g2) <| trivial) trivial ?_
   refine AX.seq ?_
   obtain ⟨x4,e3,h⟩:=ak h
   refine AX.rh [aN,aN,.call 88 [.agg [vs ((gt p1 v3).1),vi ((gt p1 v3).2)]] hN (ah [] [] (vb true) [])] [1,5,7,8,9,10,16] [0,1] ⟨[(1,.fn 88 []),(5,.sl 0 0 v2.length),(7,.pt 1 0),(8,.bs false 2 (List.map aa p1)),(9,vi (p1.length:Int)),(10,vi v3),(16,vb true)],[(0,.arr 1 (List.map ab v2)),(1,.box [vs ((gt p1 v3).1),vi ((gt p1 v3).2)])]⟩ (pa (smA [.agg [vs ((gt p1 v3).1),vi ((gt p1 v3).2)]]) <| trivial) ⟨co (vl ((gt p1 v3).1) ((gt p1 v3).2) x4 e3) (.cons (.c1 (.agg (.cons (.same _ (by kernel_rfl) (by kernel_rfl)) (.cons (.same _ (by kernel_rfl) (by kernel_rfl)) (.nil))))) (.nil)),trivial⟩ ?_
   refine AX.cond_true (by kernel_rfl) ?_
   obtain ⟨g4,h⟩:=aw h
   refine AX.rh [aN,aN,aN,.auto { nk:=2 },.auto { y:=some (.sl 3 0 ((v2++([(gt p1 v3).1]:List ByteArray)).length)),els:=some (List.map ab v2),els2:=some (List.map ab ([(gt p1 v3).1]:List ByteArray)),nk:=3 }] [1,5,8,9,10] [3] ⟨[(1,.fn 88 []),(5,.sl 3 0 ((v2++([(gt p1 v3).1]:List ByteArray)).length)),(8,.bs false 2 (List.map aa p1)),(9,vi (p1.length:Int)),(10,vi v3)],[(3,.arr 1 (List.map ab v2++List.map ab ([(gt p1 v3).1]:List ByteArray)))]⟩ (pa (⟨⟨⟨(bc (enc:=ab) rfl rfl),(bc (enc:=ab) rfl rfl)⟩,(by simp only [List.length_map,List.length_nil,List.length_replicate];simpa using g4)⟩,cj (enc:=ab) (aH (enc:=ab) rfl (rfl))⟩:((((((List.map ab v2).drop 0).take (v2.length)=List.map ab v2)∧(((List.map ab ([(gt p1 v3).1]:List ByteArray)).drop 0).take (([(gt p1 v3).1]:List ByteArray).length)=List.map ab ([(gt p1 v3).1]:List ByteArray)))∧(List.map ab v2).length+(List.map ab ([(gt p1 v3).1]:List ByteArray)).length≤1099511627776)∧(AV.sl 3 0 (List.map ab v2++List.map ab ([(gt p1 v3).1]:List ByteArray)).length=AV.sl 3 0 (v2++([(gt p1 v3).1]:List ByteArray)).length))) <| trivial) trivial ?_
   refine AX.rh [.auto { raw:=true }] [1,5,8,9,10] [3] ⟨[(1,.fn 88 []),(5,.sl 3 0 ((v2++([(gt p1 v3).1]:List ByteArray)).length)),(8,.bs false 2 (List.map aa p1)),(9,vi (p1.length:Int)),(10,vi (IntKind.wrap .i64 (v3+1)))],[(3,.arr 1 (List.map ab v2++List.map ab ([(gt p1 v3).1]:List ByteArray)))]⟩ trivial trivial ?_
   refine ⟨(fu,(v2++([(gt p1 v3).1]:List ByteArray),IntKind.wrap .i64 (v3+1))),h,Nat.lt_succ_self _,?_⟩
   refine Wk.trans (Wk.swap 0 3 (Nat.le_of_ble_eq_true (by kernel_rfl)) (Nat.le_of_ble_eq_true (by kernel_rfl)) rfl) ?_
   refine Wk.trans (Wk.fg [1,5,8,9,10] [0] ⟨[(1,.fn 88 []),(5,.sl 0 0 ((v2++([(gt p1 v3).1]:List ByteArray)).length)),(8,.bs false 2 (List.map aa p1)),(9,vi (p1.length:Int)),(10,vi (IntKind.wrap .i64 (v3+1)))],[(0,.arr 1 (List.map ab v2++List.map ab ([(gt p1 v3).1]:List ByteArray)))]⟩) ?_
   refine Wk.trans (Wk.of_eq (congrArg (fun z=>(⟨[(1,.fn 88 []),(5,.sl 0 0 ((v2++([(gt p1 v3).1]:List ByteArray)).length)),(8,.bs false 2 (List.map aa p1)),(9,vi (p1.length:Int)),(10,vi (IntKind.wrap .i64 (v3+1)))],[(0,.arr 1 (z))]⟩:S)) (aH (enc:=ab) rfl (rfl):List.map ab v2++List.map ab ([(gt p1 v3).1]:List ByteArray)=List.map ab (v2++([(gt p1 v3).1]:List ByteArray))))) ?_
   exact Wk.refl _
  ·replace h:=aq b1 h
   refine AX.cF (decide (v3<(p1.length:Int))) b1 ?_
   refine AX.exit ?_
   refine ae (Wk.fg [5] [0] ⟨[(5,.sl 0 0 v2.length)],[(0,.arr 1 (List.map ab v2))]⟩) ?_
   have hr:=Option.some.inj h
   subst hr
   exact ⟨_,Wk.refl _,⟨rfl,rfl⟩⟩

theorem om (p1:List (ByteArray×Int)) (r:List ByteArray) (h:dE p1=some r) :
  Eng.al Tryz.prog 87 [.bs false 2 (List.map aa p1),.fn 88 []] [] (.sl 0 0 r.length) [.arr 1 (List.map ab r)]:=by
 unfold dE at h
 refine Eng.al.body Tryz.func87 (by kernel_rfl) rfl (by kernel_rfl) ?_
 refine AX.wkpost ?_
 refine AX.si [] [0,1] [] ⟨[(0,.bs false 2 (List.map aa p1)),(1,.fn 88 [])],[]⟩ trivial trivial ?_
 refine AX.si [] [0,1,5] [] ⟨[(0,.bs false 2 (List.map aa p1)),(1,.fn 88 []),(5,.v (.slice none 0 0))],[]⟩ trivial trivial ?_
 refine AX.seq ?_
 refine AX.si [aN,aY (vi (p1.length:Int))] [1,5,8,9,10] [] ⟨[(1,.fn 88 []),(5,.v (.slice none 0 0)),(8,.bs false 2 (List.map aa p1)),(9,vi (p1.length:Int)),(10,vi 0)],[]⟩ (pa (⟨trivial,aS aa p1⟩:(True∧(vi ((List.map aa p1).length:Int)=vi (p1.length:Int)))) <| trivial) trivial ?_
 refine AX.block ?_
 obtain ⟨x5,e5,h⟩:=ak h
 refine AX.wk (Wk.mat 5 0 1 (by kernel_rfl) (Nat.le_of_ble_eq_true (by kernel_rfl)) (by kernel_rfl) rfl) ?_
 refine AX.wk (Wk.fg [1,5,8,9,10] [0] ⟨[(1,.fn 88 []),(5,.sl 0 0 (([]:List ByteArray).length)),(8,.bs false 2 (List.map aa p1)),(9,vi (p1.length:Int)),(10,vi 0)],[(0,.arr 1 (List.map ab ([]:List ByteArray)))]⟩) ?_
 refine AX.mono (mA p1 FU (([]:List ByteArray),0) x5 e5) ?_
 rintro _ _ ⟨rfl,rfl⟩
 skip
 refine AX.seq ?_
 obtain ⟨x6,e6,h⟩:=ak h
 refine AX.rh [aN,.call 132 [.sl 0 0 x5.length] (aD (rho ([0]++[])) [0] [.arr 1 (List.map ab x5)]++[]) (ah [0] [] (.sl 0 0 x5.length) [.arr 1 (List.map ab x5)])] [4] [0] ⟨[(4,.sl 0 0 x5.length)],[(0,.arr 1 (List.map ab x5))]⟩ (pa (⟨rfl,rfl,trivial⟩:((([.sl 0 0 x5.length]:List AV)=[.sl 0 0 x5.length])∧(AO.arr 1 (List.map ab x5)=AO.arr 1 (List.map ab x5))∧True)) <| trivial) ⟨aA (ks:=[0]) (ns:=[]) (bor:=[]) (bobjs:=[]) (lT x5 x6 e6) (.cons cS (.nil)) (by kernel_rfl) ⟨.inr rfl,trivial⟩,trivial⟩ ?_
 refine AX.ret ?_
 refine ae (Wk.fg [4] [0] ⟨[(4,.sl 0 0 x5.length)],[(0,.arr 1 (List.map ab x5))]⟩) ?_
 have hr:=Option.some.inj h
 subst hr
 exact ⟨_,Wk.refl _,.inr rfl,⟨[0],by kernel_rfl,⟨rfl,trivial⟩,[.sl 0 0 x5.length],by kernel_rfl,by kernel_rfl⟩⟩

theorem rl (p1:List (ByteArray×Int)) (p2:Int) (p3:Int) (r:ByteArray) (h:dP p1 p2 p3=some r) :
  Eng.al Tryz.prog 43 [.agg [.bs false 2 (List.map aa p1),vi p2],vi p3] [] (vs r) []:=by
 unfold dP at h
 refine Eng.al.body Tryz.func43 (by kernel_rfl) rfl (by kernel_rfl) ?_
 refine AX.wkpost ?_
 refine AX.si [.auto { nk:=0 }] [1,2] [0] ⟨[(1,vi p3),(2,.pt 0 0)],[(0,.box [.bs false 2 (List.map aa p1),vi p2])]⟩ trivial trivial ?_
 refine AX.seq ?_
 refine AX.seq ?_
 obtain ⟨x4,e1,h⟩:=ak h
 refine AX.rh [aN,aN,.call 82 [.agg [.bs false 2 (List.map aa p1),vi p2],vi p3] hN (ah [] [] (vb x4) [])] [1,2,9] [0] ⟨[(1,vi p3),(2,.pt 0 0),(9,vb (!x4))],[(0,.box [.bs false 2 (List.map aa p1),vi p2])]⟩ (pa (smA [.agg [.bs false 2 (List.map aa p1),vi p2],vi p3]) <| trivial) ⟨co (ca p1 p2 p3 x4 e1) (.cons (.c1 (.agg (.cons (.same _ (by kernel_rfl) (by kernel_rfl)) (.cons (.same _ (by kernel_rfl) (by kernel_rfl)) (.nil))))) (.cons cS (.nil))),trivial⟩ ?_
 rcases ac ((!x4)) with b2 | b2
 ·replace h:=am b2 h
  refine AX.cT ((!x4)) b2 ?_
  refine AX.si [] [4] [] ⟨[(4,vs ByteArray.empty)],[]⟩ trivial trivial ?_
  refine AX.ret ?_
  refine ae (Wk.fg [4] [] ⟨[(4,vs ByteArray.empty)],[]⟩) ?_
  have hr:=Option.some.inj h
  subst hr
  exact ⟨_,Wk.refl _,.inr rfl,⟨[],by kernel_rfl,trivial,[vs ByteArray.empty],by kernel_rfl,by kernel_rfl⟩⟩
 ·replace h:=aq b2 h
  refine AX.cF ((!x4)) b2 ?_
  refine AX.skip ?_
  refine AX.seq ?_
  obtain ⟨x5,e3,h⟩:=ak h
  refine AX.rh [aN,aN,.call 86 [.agg [.bs false 2 (List.map aa p1),vi p2],vi p3] (aD (rho ([]++[1])) [] []++[]) (ah [] [1] (.sl 0 0 x5.length) [.arr 2 (List.map aa x5)])] [1,2,5] [0,1] ⟨[(1,vi p3),(2,.pt 0 0),(5,.sl 1 0 x5.length)],[(0,.box [.bs false 2 (List.map aa p1),vi p2]),(1,.arr 2 (List.map aa x5))]⟩ (pa (smA [.agg [.bs false 2 (List.map aa p1),vi p2],vi p3]) <| trivial) ⟨aA (ks:=[]) (ns:=[1]) (bor:=[]) (bobjs:=[]) (qf p1 p2 p3 x5 e3) (.cons (.c1 (.agg (.cons (.same _ (by kernel_rfl) (by kernel_rfl)) (.cons (.same _ (by kernel_rfl) (by kernel_rfl)) (.nil))))) (.cons cS (.nil))) (by kernel_rfl) trivial,trivial⟩ ?_
  refine AX.seq ?_
  obtain ⟨x6,e4,h⟩:=ak h
  obtain ⟨x7,e5,h⟩:=ak h
  obtain ⟨x8,e6,h⟩:=ak h
  refine AX.dh mixed [aN,aN,.call 87 [.sl 1 0 x5.length,.fn 88 []] (aD (rho ([]++[2])) [] []++[(1,.arr 2 (List.map aa x5))]) (ah [] [2] (.sl 0 0 x6.length) [.arr 1 (List.map ab x6)]),aN,aN,.call 89 [.sl 1 0 x5.length] (aD (rho ([]++[])) [] []++[(1,.arr 2 (List.map aa x5))]) (ah [] [] (vi x7) []),aN,.call 84 [.agg [.bs false 2 (List.map aa p1),vi p2],.sl 2 0 x6.length,vi (Go.bits .andNot .i64 p3 x7)] (aD (rho ([]++[])) [] []++[(2,.arr 1 (List.map ab x6))]) (ah [] [] (vs x8) [])] [4] [] ⟨[(4,vs x8)],[]⟩ (⟨⟨rfl,rfl,trivial⟩,⟨rfl,rfl,trivial⟩,⟨rfl,rfl,trivial⟩,trivial⟩:(((([.sl 1 0 x5.length,.fn 88 []]:List AV)=[.sl 1 0 x5.length,.fn 88 []])∧(AO.arr 2 (List.map aa x5)=AO.arr 2 (List.map aa x5))∧True)∧((([.sl 1 0 x5.length]:List AV)=[.sl 1 0 x5.length])∧(AO.arr 2 (List.map aa x5)=AO.arr 2 (List.map aa x5))∧True)∧((([.agg [.bs false 2 (List.map aa p1),vi p2],.sl 2 0 x6.length,vi (Go.bits .andNot .i64 p3 x7)]:List AV)=[.agg [.bs false 2 (List.map aa p1),vi p2],.sl 2 0 x6.length,vi (Go.bits .andNot .i64 p3 x7)])∧(AO.arr 1 (List.map ab x6)=AO.arr 1 (List.map ab x6))∧True)∧True)) ⟨aA (ks:=[]) (ns:=[2]) (bor:=[1]) (bobjs:=[(1,.arr 2 (List.map aa x5))]) (om x5 x6 e4) (.cons (.c1 (.c0 (.arr rfl rfl ((rfl).trans (List.length_map ..).symm)))) (.cons (.fn (.nil)) (.nil))) (by kernel_rfl) trivial,aA (ks:=[]) (ns:=[]) (bor:=[1]) (bobjs:=[(1,.arr 2 (List.map aa x5))]) (mr x5 x7 e5) (.cons (.c1 (.c0 (.arr rfl rfl ((rfl).trans (List.length_map ..).symm)))) (.nil)) (by kernel_rfl) trivial,aA (ks:=[]) (ns:=[]) (bor:=[2]) (bobjs:=[(2,.arr 1 (List.map ab x6))]) (lV p1 p2 x6 (Go.bits .andNot .i64 p3 x7) x8 e6) (.cons (.c1 (.agg (.cons (.same _ (by kernel_rfl) (by kernel_rfl)) (.cons (.same _ (by kernel_rfl) (by kernel_rfl)) (.nil))))) (.cons (.c1 (.c0 (.arr rfl rfl ((rfl).trans (List.length_map ..).symm)))) (.cons cS (.nil)))) (by kernel_rfl) trivial,trivial⟩ ?_
  refine AX.ret ?_
  refine ae (Wk.fg [4] [] ⟨[(4,vs x8)],[]⟩) ?_
  have hr:=Option.some.inj h
  subst hr
  exact ⟨_,Wk.refl _,.inr rfl,⟨[],by kernel_rfl,trivial,[vs x8],by kernel_rfl,by kernel_rfl⟩⟩

theorem oM (p1:List (ByteArray×Int)) (p2:Int) (p3:Int) (r:Int) (h:dq p1 p2 p3=some r) :
  Eng.al Tryz.prog 44 [.agg [.bs false 2 (List.map aa p1),vi p2],vi p3] [] (vi r) []:=by
 unfold dq at h
 refine Eng.al.body Tryz.func44 (by kernel_rfl) rfl (by kernel_rfl) ?_
 refine AX.wkpost ?_
 refine AX.si [.auto { nk:=0 }] [1,2] [0] ⟨[(1,vi p3),(2,.pt 0 0)],[(0,.box [.bs false 2 (List.map aa p1),vi p2])]⟩ trivial trivial ?_
 refine AX.seq ?_
 refine AX.seq ?_
 obtain ⟨x4,e1,h⟩:=ak h
 refine AX.rh [aN,aN,.call 82 [.agg [.bs false 2 (List.map aa p1),vi p2],vi p3] hN (ah [] [] (vb x4) [])] [1,2,8] [0] ⟨[(1,vi p3),(2,.pt 0 0),(8,vb (!x4))],[(0,.box [.bs false 2 (List.map aa p1),vi p2])]⟩ (pa (smA [.agg [.bs false 2 (List.map aa p1),vi p2],vi p3]) <| trivial) ⟨co (ca p1 p2 p3 x4 e1) (.cons (.c1 (.agg (.cons (.same _ (by kernel_rfl) (by kernel_rfl)) (.cons (.same _ (by kernel_rfl) (by kernel_rfl)) (.nil))))) (.cons cS (.nil))),trivial⟩ ?_
 rcases ac ((!x4)) with b2 | b2
 ·replace h:=am b2 h
  refine AX.cT ((!x4)) b2 ?_
  refine AX.si [] [4] [] ⟨[(4,vi (-1))],[]⟩ trivial trivial ?_
  refine AX.ret ?_
  refine ae (Wk.fg [4] [] ⟨[(4,vi (-1))],[]⟩) ?_
  have hr:=Option.some.inj h
  subst hr
  exact ⟨_,Wk.refl _,.inr rfl,⟨[],by kernel_rfl,trivial,[vi (-1)],by kernel_rfl,by kernel_rfl⟩⟩
 ·replace h:=aq b2 h
  refine AX.cF ((!x4)) b2 ?_
  refine AX.skip ?_
  refine AX.seq ?_
  obtain ⟨x5,e3,h⟩:=ak h
  refine AX.rh [aN,.call 90 [.agg [.bs false 2 (List.map aa p1),vi p2]] hN (ah [] [] (vi x5) [])] [4] [] ⟨[(4,vi (Go.bits .andNot .i64 x5 p3))],[]⟩ (pa (smA [.agg [.bs false 2 (List.map aa p1),vi p2]]) <| trivial) ⟨co (lf p1 p2 x5 e3) (.cons (.c1 (.agg (.cons (.same _ (by kernel_rfl) (by kernel_rfl)) (.cons (.same _ (by kernel_rfl) (by kernel_rfl)) (.nil))))) (.nil)),trivial⟩ ?_
  refine AX.ret ?_
  refine ae (Wk.fg [4] [] ⟨[(4,vi (Go.bits .andNot .i64 x5 p3))],[]⟩) ?_
  have hr:=Option.some.inj h
  subst hr
  exact ⟨_,Wk.refl _,.inr rfl,⟨[],by kernel_rfl,trivial,[vi (Go.bits .andNot .i64 x5 p3)],by kernel_rfl,by kernel_rfl⟩⟩

theorem qa (p1:Int) (p2:Int) (r:Unit) (h:gI p1 p2=some r) :
  Eng.al Tryz.prog 92 [vi p1,vi p2] [] (vi (Go.bits .or .i64 p1 p2)) []:=by
 unfold gI at h
 refine Eng.al.body Tryz.func92 (by kernel_rfl) rfl (by kernel_rfl) ?_
 refine AX.wkpost ?_
 refine AX.si [] [0,1] [] ⟨[(0,vi p1),(1,vi p2)],[]⟩ trivial trivial ?_
 refine AX.si [] [4] [] ⟨[(4,vi (Go.bits .or .i64 p1 p2))],[]⟩ trivial trivial ?_
 refine AX.ret ?_
 refine ae (Wk.fg [4] [] ⟨[(4,vi (Go.bits .or .i64 p1 p2))],[]⟩) ?_
 have hr:=Option.some.inj h
 subst hr
 exact ⟨_,Wk.refl _,.inr rfl,⟨[],by kernel_rfl,trivial,[vi (Go.bits .or .i64 p1 p2)],by kernel_rfl,by kernel_rfl⟩⟩

theorem mC (p1:List (ByteArray×Int)) (p2:Int) (p3:Int) (p4:Int) (r:Int) (h:eX p1 p2 p3 p4=some r) :
  Eng.al Tryz.prog 91 [.agg [.bs false 2 (List.map aa p1),vi p2],vi p3,vi p4,.fn 92 []] [] (vi r) []:=by
 unfold eX at h
 refine Eng.al.body Tryz.func91 (by kernel_rfl) rfl (by kernel_rfl) ?_
 refine AX.wkpost ?_
 refine AX.si [.auto { nk:=0 }] [1,2,3,4] [0] ⟨[(1,vi p3),(2,vi p4),(3,.fn 92 []),(4,.pt 0 0)],[(0,.box [.bs false 2 (List.map aa p1),vi p2])]⟩ trivial trivial ?_
 refine AX.seq ?_
 refine AX.seq ?_
 obtain ⟨x5,e1,h⟩:=ak h
 rcases ac ((!x5)) with b2 | b2
 ·replace h:=am b2 h
  refine AX.rh [aN,aN,.call 82 [.agg [.bs false 2 (List.map aa p1),vi p2],vi p3] hN (ah [] [] (vb x5) []),aY (vb true)] [1,2,3,18] [] ⟨[(1,vi p3),(2,vi p4),(3,.fn 92 []),(18,vb true)],[]⟩ (pa (smA [.agg [.bs false 2 (List.map aa p1),vi p2],vi p3]) <| pa (pb (cb b2)) <| trivial) ⟨co (ca p1 p2 p3 x5 e1) (.cons (.c1 (.agg (.cons (.same _ (by kernel_rfl) (by kernel_rfl)) (.cons (.same _ (by kernel_rfl) (by kernel_rfl)) (.nil))))) (.cons cS (.nil))),trivial⟩ ?_
  refine AX.cond_true (by kernel_rfl) ?_
  refine AX.si [] [8] [] ⟨[(8,vi (-1))],[]⟩ trivial trivial ?_
  refine AX.ret ?_
  refine ae (Wk.fg [8] [] ⟨[(8,vi (-1))],[]⟩) ?_
  have hr:=Option.some.inj h
  subst hr
  exact ⟨_,Wk.refl _,.inr rfl,⟨[],by kernel_rfl,trivial,[vi (-1)],by kernel_rfl,by kernel_rfl⟩⟩
 ·replace h:=aq b2 h
  obtain ⟨x6,e3,h⟩:=ak h
  refine AX.rh [aN,aN,.call 82 [.agg [.bs false 2 (List.map aa p1),vi p2],vi p3] hN (ah [] [] (vb x5) []),aY (vb false),aN,aN,aN,.call 82 [.agg [.bs false 2 (List.map aa p1),vi p2],vi p4] hN (ah [] [] (vb x6) [])] [1,2,3,18] [] ⟨[(1,vi p3),(2,vi p4),(3,.fn 92 []),(18,vb (!x6))],[]⟩ (pa (smA [.agg [.bs false 2 (List.map aa p1),vi p2],vi p3]) <| pa (pb (cb b2)) <| pa (smA [.agg [.bs false 2 (List.map aa p1),vi p2],vi p4]) <| trivial) ⟨co (ca p1 p2 p3 x5 e1) (.cons (.c1 (.agg (.cons (.same _ (by kernel_rfl) (by kernel_rfl)) (.cons (.same _ (by kernel_rfl) (by kernel_rfl)) (.nil))))) (.cons cS (.nil))),co (ca p1 p2 p4 x6 e3) (.cons (.c1 (.agg (.cons (.same _ (by kernel_rfl) (by kernel_rfl)) (.cons (.same _ (by kernel_rfl) (by kernel_rfl)) (.nil))))) (.cons cS (.nil))),trivial⟩ ?_
  rcases ac ((!x6)) with b4 | b4
  ·replace h:=am b4 h
   refine AX.cT ((!x6)) b4 ?_
   refine AX.si [] [8] [] ⟨[(8,vi (-1))],[]⟩ trivial trivial ?_
   refine AX.ret ?_
   refine ae (Wk.fg [8] [] ⟨[(8,vi (-1))],[]⟩) ?_
   have hr:=Option.some.inj h
   subst hr
   exact ⟨_,Wk.refl _,.inr rfl,⟨[],by kernel_rfl,trivial,[vi (-1)],by kernel_rfl,by kernel_rfl⟩⟩
  ·replace h:=aq b4 h
   refine AX.cF ((!x6)) b4 ?_
   refine AX.skip ?_
   refine AX.seq ?_
   obtain ⟨x7,e5,h⟩:=ak h
   refine AX.rh [aN,aN,aN,.call 92 [vi p3,vi p4] hN (ah [] [] (vi (Go.bits .or .i64 p3 p4)) [])] [8] [] ⟨[(8,vi (Go.bits .or .i64 p3 p4))],[]⟩ (pa (smA [vi p3,vi p4]) <| trivial) ⟨co (qa p3 p4 x7 e5) (.cons cS (.cons cS (.nil))),trivial⟩ ?_
   refine AX.ret ?_
   refine ae (Wk.fg [8] [] ⟨[(8,vi (Go.bits .or .i64 p3 p4))],[]⟩) ?_
   have hr:=Option.some.inj h
   subst hr
   exact ⟨_,Wk.refl _,.inr rfl,⟨[],by kernel_rfl,trivial,[vi (Go.bits .or .i64 p3 p4)],by kernel_rfl,by kernel_rfl⟩⟩

theorem sC (p1:List (ByteArray×Int)) (p2:Int) (p3:Int) (p4:Int) (r:Int) (h:eb p1 p2 p3 p4=some r) :
  Eng.al Tryz.prog 45 [.agg [.bs false 2 (List.map aa p1),vi p2],vi p3,vi p4] [] (vi r) []:=by
 unfold eb at h
 refine Eng.al.body Tryz.func45 (by kernel_rfl) rfl (by kernel_rfl) ?_
 refine AX.wkpost ?_
 refine AX.si [.auto { nk:=0 }] [1,2,3] [0] ⟨[(1,vi p3),(2,vi p4),(3,.pt 0 0)],[(0,.box [.bs false 2 (List.map aa p1),vi p2])]⟩ trivial trivial ?_
 refine AX.seq ?_
 obtain ⟨x5,e1,h⟩:=ak h
 refine AX.rh [aN,aN,aN,.call 91 [.agg [.bs false 2 (List.map aa p1),vi p2],vi p3,vi p4,.fn 92 []] hN (ah [] [] (vi x5) [])] [6] [] ⟨[(6,vi x5)],[]⟩ (pa (smA [.agg [.bs false 2 (List.map aa p1),vi p2],vi p3,vi p4,.fn 92 []]) <| trivial) ⟨co (mC p1 p2 p3 p4 x5 e1) (.cons (.c1 (.agg (.cons (.same _ (by kernel_rfl) (by kernel_rfl)) (.cons (.same _ (by kernel_rfl) (by kernel_rfl)) (.nil))))) (.cons cS (.cons cS (.cons (.fn (.nil)) (.nil))))),trivial⟩ ?_
 refine AX.ret ?_
 refine ae (Wk.fg [6] [] ⟨[(6,vi x5)],[]⟩) ?_
 have hr:=Option.some.inj h
 subst hr
 exact ⟨_,Wk.refl _,.inr rfl,⟨[],by kernel_rfl,trivial,[vi x5],by kernel_rfl,by kernel_rfl⟩⟩

theorem pl (p1:Int) (p2:Int) (r:Unit) (h:gy p1 p2=some r) :
  Eng.al Tryz.prog 93 [vi p1,vi p2] [] (vi (Go.bits .and .i64 p1 p2)) []:=by
 unfold gy at h
 refine Eng.al.body Tryz.func93 (by kernel_rfl) rfl (by kernel_rfl) ?_
 refine AX.wkpost ?_
 refine AX.si [] [0,1] [] ⟨[(0,vi p1),(1,vi p2)],[]⟩ trivial trivial ?_
 refine AX.si [] [4] [] ⟨[(4,vi (Go.bits .and .i64 p1 p2))],[]⟩ trivial trivial ?_
 refine AX.ret ?_
 refine ae (Wk.fg [4] [] ⟨[(4,vi (Go.bits .and .i64 p1 p2))],[]⟩) ?_
 have hr:=Option.some.inj h
 subst hr
 exact ⟨_,Wk.refl _,.inr rfl,⟨[],by kernel_rfl,trivial,[vi (Go.bits .and .i64 p1 p2)],by kernel_rfl,by kernel_rfl⟩⟩

end Go.Eng
