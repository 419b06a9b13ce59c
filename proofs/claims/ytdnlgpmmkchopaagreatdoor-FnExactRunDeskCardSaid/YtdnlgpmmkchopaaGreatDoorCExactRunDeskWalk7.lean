/- What is proved here: each function keeps to its model, whatever its arguments, wherever the model has an answer. Printed by gen.py. -/
import Derived.Test.YtdnlgpmmkchopaaGreatDoorCExactRunDeskWalk6
import Derived.Test.YtdnlgpmmkchopaaGreatDoorProg
import Derived.Test.YtdnlgpmmkchopaaGreatDoorCExactRunDeskShelf
import Derived.KernelRfl
set_option linter.unusedVariables false
set_option linter.unusedSimpArgs false
namespace Go.Eng
open Go Go.Proofs

theorem mg (p1:List (ByteArray×Int)) (p2:Int) (p3:Int) (p4:Int) (r:Int) (h:ey p1 p2 p3 p4=some r) :
  Eng.al Tryz.prog 91 [.agg [.bs false 2 (List.map aa p1),vi p2],vi p3,vi p4,.fn 93 []] [] (vi r) []:=by
 unfold ey at h
 refine Eng.al.body Tryz.func91 (by kernel_rfl) rfl (by kernel_rfl) ?_
 refine AX.wkpost ?_
 refine AX.si [.auto { nk:=0 }] [1,2,3,4] [0] ⟨[(1,vi p3),(2,vi p4),(3,.fn 93 []),(4,.pt 0 0)],[(0,.box [.bs false 2 (List.map aa p1),vi p2])]⟩ trivial trivial ?_
 refine AX.seq ?_
 refine AX.seq ?_
 obtain ⟨x5,e1,h⟩:=ak h
 rcases ac ((!x5)) with b2 | b2
 ·replace h:=am b2 h
  refine AX.rh [aN,aN,.call 82 [.agg [.bs false 2 (List.map aa p1),vi p2],vi p3] hN (ah [] [] (vb x5) []),aY (vb true)] [1,2,3,18] [] ⟨[(1,vi p3),(2,vi p4),(3,.fn 93 []),(18,vb true)],[]⟩ (pa (smA [.agg [.bs false 2 (List.map aa p1),vi p2],vi p3]) <| pa (pb (cb b2)) <| trivial) ⟨co (ca p1 p2 p3 x5 e1) (.cons (.c1 (.agg (.cons (.same _ (by kernel_rfl) (by kernel_rfl)) (.cons (.same _ (by kernel_rfl) (by kernel_rfl)) (.nil))))) (.cons cS (.nil))),trivial⟩ ?_
  refine AX.cond_true (by kernel_rfl) ?_
  refine AX.si [] [8] [] ⟨[(8,vi (-1))],[]⟩ trivial trivial ?_
  refine AX.ret ?_
  refine ae (Wk.fg [8] [] ⟨[(8,vi (-1))],[]⟩) ?_
  have hr:=Option.some.inj h
  subst hr
  exact ⟨_,Wk.refl _,.inr rfl,⟨[],by kernel_rfl,trivial,[vi (-1)],by kernel_rfl,by kernel_rfl⟩⟩
 ·replace h:=aq b2 h
  obtain ⟨x6,e3,h⟩:=ak h
  refine AX.rh [aN,aN,.call 82 [.agg [.bs false 2 (List.map aa p1),vi p2],vi p3] hN (ah [] [] (vb x5) []),aY (vb false),aN,aN,aN,.call 82 [.agg [.bs false 2 (List.map aa p1),vi p2],vi p4] hN (ah [] [] (vb x6) [])] [1,2,3,18] [] ⟨[(1,vi p3),(2,vi p4),(3,.fn 93 []),(18,vb (!x6))],[]⟩ (pa (smA [.agg [.bs false 2 (List.map aa p1),vi p2],vi p3]) <| pa (pb (cb b2)) <| pa (smA [.agg [.bs false 2 (List.map aa p1),vi p2],vi p4]) <| trivial) ⟨co (ca p1 p2 p3 x5 e1) (.cons (.c1 (.agg (.cons (.same _ (by kernel_rfl) (by kernel_rfl)) (.cons (.same _ (by kernel_rfl) (by kernel_rfl)) (.nil))))) (.cons cS (.nil))),co (ca p1 p2 p4 x6 e3) (.cons (.c1 (.agg (.cons (.same _ (by kernel_rfl) (by kernel_rfl)) (.cons (.same _ (by kernel_rfl) (by kernel_rfl)) (.nil))))) (.cons cS (.nil))),trivial⟩ ?_
  rcases ac ((!x6)) with b4 | b4
  ·replace h:=am b4 h
   refine AX.cT ((!x6)) b4 ?_
   refine AX.si [] [8] [] ⟨[(8,vi (-1))],[]⟩ trivial trivial ?_
   refine AX.ret ?_
   refine ae (Wk.fg [8] [] ⟨[(8,vi (-1))],[]⟩) ?_
   have hr:=Option.some.inj h
   subst hr
   exact ⟨_,Wk.refl _,.inr rfl,⟨[],by kernel_rfl,trivial,[vi (-1)],by kernel_rfl,by kernel_rfl⟩⟩
  ·replace h:=aq b4 h
   refine AX.cF ((!x6)) b4 ?_
   refine AX.skip ?_
   refine AX.seq ?_
   obtain ⟨x7,e5,h⟩:=ak h
   refine AX.rh [aN,aN,aN,.call 93 [vi p3,vi p4] hN (ah [] [] (vi (Go.bits .and .i64 p3 p4)) [])] [8] [] ⟨[(8,vi (Go.bits .and .i64 p3 p4))],[]⟩ (pa (smA [vi p3,vi p4]) <| trivial) ⟨co (pl p3 p4 x7 e5) (.cons cS (.cons cS (.nil))),trivial⟩ ?_
   refine AX.ret ?_
   refine ae (Wk.fg [8] [] ⟨[(8,vi (Go.bits .and .i64 p3 p4))],[]⟩) ?_
   have hr:=Option.some.inj h
   subst hr
   exact ⟨_,Wk.refl _,.inr rfl,⟨[],by kernel_rfl,trivial,[vi (Go.bits .and .i64 p3 p4)],by kernel_rfl,by kernel_rfl⟩⟩

theorem qV (p1:List (ByteArray×Int)) (p2:Int) (p3:Int) (p4:Int) (r:Int) (h:dK p1 p2 p3 p4=some r) :
  Eng.al Tryz.prog 46 [.agg [.bs false 2 (List.map aa p1),vi p2],vi p3,vi p4] [] (vi r) []:=by
 unfold dK at h
 refine Eng.al.body Tryz.func46 (by kernel_rfl) rfl (by kernel_rfl) ?_
 refine AX.wkpost ?_
 refine AX.si [.auto { nk:=0 }] [1,2,3] [0] ⟨[(1,vi p3),(2,vi p4),(3,.pt 0 0)],[(0,.box [.bs false 2 (List.map aa p1),vi p2])]⟩ trivial trivial ?_
 refine AX.seq ?_
 obtain ⟨x5,e1,h⟩:=ak h
 refine AX.rh [aN,aN,aN,.call 91 [.agg [.bs false 2 (List.map aa p1),vi p2],vi p3,vi p4,.fn 93 []] hN (ah [] [] (vi x5) [])] [6] [] ⟨[(6,vi x5)],[]⟩ (pa (smA [.agg [.bs false 2 (List.map aa p1),vi p2],vi p3,vi p4,.fn 93 []]) <| trivial) ⟨co (mg p1 p2 p3 p4 x5 e1) (.cons (.c1 (.agg (.cons (.same _ (by kernel_rfl) (by kernel_rfl)) (.cons (.same _ (by kernel_rfl) (by kernel_rfl)) (.nil))))) (.cons cS (.cons cS (.cons (.fn (.nil)) (.nil))))),trivial⟩ ?_
 refine AX.ret ?_
 refine ae (Wk.fg [6] [] ⟨[(6,vi x5)],[]⟩) ?_
 have hr:=Option.some.inj h
 subst hr
 exact ⟨_,Wk.refl _,.inr rfl,⟨[],by kernel_rfl,trivial,[vi x5],by kernel_rfl,by kernel_rfl⟩⟩

theorem oC (p1:Int) (p2:Int) (r:Unit) (h:gm p1 p2=some r) :
  Eng.al Tryz.prog 94 [vi p1,vi p2] [] (vi (Go.bits .andNot .i64 p1 p2)) []:=by
 unfold gm at h
 refine Eng.al.body Tryz.func94 (by kernel_rfl) rfl (by kernel_rfl) ?_
 refine AX.wkpost ?_
 refine AX.si [] [0,1] [] ⟨[(0,vi p1),(1,vi p2)],[]⟩ trivial trivial ?_
 refine AX.si [] [4] [] ⟨[(4,vi (Go.bits .andNot .i64 p1 p2))],[]⟩ trivial trivial ?_
 refine AX.ret ?_
 refine ae (Wk.fg [4] [] ⟨[(4,vi (Go.bits .andNot .i64 p1 p2))],[]⟩) ?_
 have hr:=Option.some.inj h
 subst hr
 exact ⟨_,Wk.refl _,.inr rfl,⟨[],by kernel_rfl,trivial,[vi (Go.bits .andNot .i64 p1 p2)],by kernel_rfl,by kernel_rfl⟩⟩

theorem lS (p1:List (ByteArray×Int)) (p2:Int) (p3:Int) (p4:Int) (r:Int) (h:dV p1 p2 p3 p4=some r) :
  Eng.al Tryz.prog 91 [.agg [.bs false 2 (List.map aa p1),vi p2],vi p3,vi p4,.fn 94 []] [] (vi r) []:=by
 unfold dV at h
 refine Eng.al.body Tryz.func91 (by kernel_rfl) rfl (by kernel_rfl) ?_
 refine AX.wkpost ?_
 refine AX.si [.auto { nk:=0 }] [1,2,3,4] [0] ⟨[(1,vi p3),(2,vi p4),(3,.fn 94 []),(4,.pt 0 0)],[(0,.box [.bs false 2 (List.map aa p1),vi p2])]⟩ trivial trivial ?_
 refine AX.seq ?_
 refine AX.seq ?_
 obtain ⟨x5,e1,h⟩:=ak h
 rcases ac ((!x5)) with b2 | b2
 ·replace h:=am b2 h
  refine AX.rh [aN,aN,.call 82 [.agg [.bs false 2 (List.map aa p1),vi p2],vi p3] hN (ah [] [] (vb x5) []),aY (vb true)] [1,2,3,18] [] ⟨[(1,vi p3),(2,vi p4),(3,.fn 94 []),(18,vb true)],[]⟩ (pa (smA [.agg [.bs false 2 (List.map aa p1),vi p2],vi p3]) <| pa (pb (cb b2)) <| trivial) ⟨co (ca p1 p2 p3 x5 e1) (.cons (.c1 (.agg (.cons (.same _ (by kernel_rfl) (by kernel_rfl)) (.cons (.same _ (by kernel_rfl) (by kernel_rfl)) (.nil))))) (.cons cS (.nil))),trivial⟩ ?_
  refine AX.cond_true (by kernel_rfl) ?_
  refine AX.si [] [8] [] ⟨[(8,vi (-1))],[]⟩ trivial trivial ?_
  refine AX.ret ?_
  refine ae (Wk.fg [8] [] ⟨[(8,vi (-1))],[]⟩) ?_
  have hr:=Option.some.inj h
  subst hr
  exact ⟨_,Wk.refl _,.inr rfl,⟨[],by kernel_rfl,trivial,[vi (-1)],by kernel_rfl,by kernel_rfl⟩⟩
 ·replace h:=aq b2 h
  obtain ⟨x6,e3,h⟩:=ak h
  refine AX.rh [aN,aN,.call 82 [.agg [.bs false 2 (List.map aa p1),vi p2],vi p3] hN (ah [] [] (vb x5) []),aY (vb false),aN,aN,aN,.call 82 [.agg [.bs false 2 (List.map aa p1),vi p2],vi p4] hN (ah [] [] (vb x6) [])] [1,2,3,18] [] ⟨[(1,vi p3),(2,vi p4),(3,.fn 94 []),(18,vb (!x6))],[]⟩ (pa (smA [.agg [.bs false 2 (List.map aa p1),vi p2],vi p3]) <| pa (pb (cb b2)) <| pa (smA [.agg [.bs false 2 (List.map aa p1),vi p2],vi p4]) <| trivial) ⟨co (ca p1 p2 p3 x5 e1) (.cons (.c1 (.agg (.cons (.same _ (by kernel_rfl) (by kernel_rfl)) (.cons (.same _ (by kernel_rfl) (by kernel_rfl)) (.nil))))) (.cons cS (.nil))),co (ca p1 p2 p4 x6 e3) (.cons (.c1 (.agg (.cons (.same _ (by kernel_rfl) (by kernel_rfl)) (.cons (.same _ (by kernel_rfl) (by kernel_rfl)) (.nil))))) (.cons cS (.nil))),trivial⟩ ?_
  rcases ac ((!x6)) with b4 | b4
  ·replace h:=am b4 h
   refine AX.cT ((!x6)) b4 ?_
   refine AX.si [] [8] [] ⟨[(8,vi (-1))],[]⟩ trivial trivial ?_
   refine AX.ret ?_
   refine ae (Wk.fg [8] [] ⟨[(8,vi (-1))],[]⟩) ?_
   have hr:=Option.some.inj h
   subst hr
   exact ⟨_,Wk.refl _,.inr rfl,⟨[],by kernel_rfl,trivial,[vi (-1)],by kernel_rfl,by kernel_rfl⟩⟩
  ·replace h:=aq b4 h
   refine AX.cF ((!x6)) b4 ?_
   refine AX.skip ?_
   refine AX.seq ?_
   obtain ⟨x7,e5,h⟩:=ak h
   refine AX.rh [aN,aN,aN,.call 94 [vi p3,vi p4] hN (ah [] [] (vi (Go.bits .andNot .i64 p3 p4)) [])] [8] [] ⟨[(8,vi (Go.bits .andNot .i64 p3 p4))],[]⟩ (pa (smA [vi p3,vi p4]) <| trivial) ⟨co (oC p3 p4 x7 e5) (.cons cS (.cons cS (.nil))),trivial⟩ ?_
   refine AX.ret ?_
   refine ae (Wk.fg [8] [] ⟨[(8,vi (Go.bits .andNot .i64 p3 p4))],[]⟩) ?_
   have hr:=Option.some.inj h
   subst hr
   exact ⟨_,Wk.refl _,.inr rfl,⟨[],by kernel_rfl,trivial,[vi (Go.bits .andNot .i64 p3 p4)],by kernel_rfl,by kernel_rfl⟩⟩

theorem qu (p1:List (ByteArray×Int)) (p2:Int) (p3:Int) (p4:Int) (r:Int) (h:dB p1 p2 p3 p4=some r) :
  Eng.al Tryz.prog 47 [.agg [.bs false 2 (List.map aa p1),vi p2],vi p3,vi p4] [] (vi r) []:=by
 unfold dB at h
 refine Eng.al.body Tryz.func47 (by kernel_rfl) rfl (by kernel_rfl) ?_
 refine AX.wkpost ?_
 refine AX.si [.auto { nk:=0 }] [1,2,3] [0] ⟨[(1,vi p3),(2,vi p4),(3,.pt 0 0)],[(0,.box [.bs false 2 (List.map aa p1),vi p2])]⟩ trivial trivial ?_
 refine AX.seq ?_
 obtain ⟨x5,e1,h⟩:=ak h
 refine AX.rh [aN,aN,aN,.call 91 [.agg [.bs false 2 (List.map aa p1),vi p2],vi p3,vi p4,.fn 94 []] hN (ah [] [] (vi x5) [])] [6] [] ⟨[(6,vi x5)],[]⟩ (pa (smA [.agg [.bs false 2 (List.map aa p1),vi p2],vi p3,vi p4,.fn 94 []]) <| trivial) ⟨co (lS p1 p2 p3 p4 x5 e1) (.cons (.c1 (.agg (.cons (.same _ (by kernel_rfl) (by kernel_rfl)) (.cons (.same _ (by kernel_rfl) (by kernel_rfl)) (.nil))))) (.cons cS (.cons cS (.cons (.fn (.nil)) (.nil))))),trivial⟩ ?_
 refine AX.ret ?_
 refine ae (Wk.fg [6] [] ⟨[(6,vi x5)],[]⟩) ?_
 have hr:=Option.some.inj h
 subst hr
 exact ⟨_,Wk.refl _,.inr rfl,⟨[],by kernel_rfl,trivial,[vi x5],by kernel_rfl,by kernel_rfl⟩⟩

theorem po (p1:List (ByteArray×Int)) (p2:Int) (x4:List ByteArray) (n:Nat) (g:List Int×Int) (out:Unit ⊕ List Int) (h:dt p1 p2 x4 n g.1 g.2=some out) :
  AX Tryz.prog 168 0 (codeAt [1,1,1,1,0,1,1] (aU Tryz.f22)) ((fun g:List Int×Int=>(⟨[(2,.pt 0 0),(5,.sl 1 0 x4.length),(6,.sl 2 0 g.1.length),(28,.sl 1 (0+(1:Int).toNat) ((x4.length:Int).toNat - (1:Int).toNat)),(29,vi (((x4.length:Int).toNat - (1:Int).toNat:Nat):Int)),(30,vi g.2)],[(0,.box [.bs false 2 (List.map aa p1),vi p2]),(1,.arr 1 (List.map ab x4)),(2,.arr 1 (List.map ay g.1))]⟩:S)) g) (fun ex s=>(∃ o:Unit,out=Sum.inl o∧ex=.ret∧s=⟨[(4,vs (ByteArray.mk #[119,104,97,116]))],[]⟩)∨(∃ o:List Int,out=Sum.inr o∧ex=.exit 0∧s=⟨[(2,.pt 0 0),(5,.sl 1 0 x4.length),(6,.sl 2 0 o.length)],[(0,.box [.bs false 2 (List.map aa p1),vi p2]),(1,.arr 1 (List.map ab x4)),(2,.arr 1 (List.map ay o))]⟩)):=by
 refine AX.wkpost ?_
 refine AX.loop (G:=Nat×(List Int×Int)) (fun q=>(fun g:List Int×Int=>(⟨[(2,.pt 0 0),(5,.sl 1 0 x4.length),(6,.sl 2 0 g.1.length),(28,.sl 1 (0+(1:Int).toNat) ((x4.length:Int).toNat - (1:Int).toNat)),(29,vi (((x4.length:Int).toNat - (1:Int).toNat:Nat):Int)),(30,vi g.2)],[(0,.box [.bs false 2 (List.map aa p1),vi p2]),(1,.arr 1 (List.map ab x4)),(2,.arr 1 (List.map ay g.1))]⟩:S)) q.2) (fun q=>dt p1 p2 x4 q.1 q.2.1 q.2.2=some out) (fun q=>q.1) (n,g) h (Wk.refl _) ?_
 clear h
 rintro ⟨fu,v7,v8⟩ h
 cases fu with
 | zero=>cases h
 | succ fu =>
  rw [dt] at h
  refine AX.seq ?_
  obtain ⟨v9,q9,h⟩:=bT h
  refine AX.rh [aY (vb v9)] [2,5,6,28,29,30,31] [0,1,2] ⟨[(2,.pt 0 0),(5,.sl 1 0 x4.length),(6,.sl 2 0 v7.length),(28,.sl 1 (0+(1:Int).toNat) ((x4.length:Int).toNat - (1:Int).toNat)),(29,vi (((x4.length:Int).toNat - (1:Int).toNat:Nat):Int)),(30,vi v8),(31,vb v9)],[(0,.box [.bs false 2 (List.map aa p1),vi p2]),(1,.arr 1 (List.map ab x4)),(2,.arr 1 (List.map ay v7))]⟩ (pa (pb (cb q9)) <| trivial) trivial ?_
  refine AX.seq ?_
  rcases ac (v9) with b10 | b10
  ·replace h:=am b10 h
   refine AX.cT (v9) b10 ?_
   refine AX.skip ?_
   refine AX.seq ?_
   refine AX.block ?_
   refine AX.seq ?_
   obtain ⟨g11,h⟩:=aw h
   refine AX.rh [aN,.auto { y:=some (vs (gt x4 (((1:Int).toNat+v8.toNat:Nat):Int))) }] [2,5,6,8,28,29,30] [0,1,2] ⟨[(2,.pt 0 0),(5,.sl 1 0 x4.length),(6,.sl 2 0 v7.length),(8,vs (gt x4 (((1:Int).toNat+v8.toNat:Nat):Int))),(28,.sl 1 (0+(1:Int).toNat) ((x4.length:Int).toNat - (1:Int).toNat)),(29,vi (((x4.length:Int).toNat - (1:Int).toNat:Nat):Int)),(30,vi v8)],[(0,.box [.bs false 2 (List.map aa p1),vi p2]),(1,.arr 1 (List.map ab x4)),(2,.arr 1 (List.map ay v7))]⟩ (pa (g11.1:(0≤v8∧v8<(((x4.length:Int).toNat - (1:Int).toNat:Nat):Int))) <| pa (⟨trivial,(congrArg (fun z:List Value=>AV.v (z.getD 0 undef)) (rE (enc:=ab) rfl g11.2))⟩:(True∧(AV.v (((List.map ab x4).getD (0+(1:Int).toNat+v8.toNat) []).getD 0 undef)=vs (gt x4 (((1:Int).toNat+v8.toNat:Nat):Int))))) <| trivial) trivial ?_
   refine AX.seq ?_
   obtain ⟨x10,e12,h⟩:=ak h
   refine AX.rh [aN,aN,.call 40 [.agg [.bs false 2 (List.map aa p1),vi p2],vs (gt x4 (((1:Int).toNat+v8.toNat:Nat):Int))] hN (ah [] [] (.tup [vi x10.1,vb x10.2]) [])] [2,5,6,9,10,28,29,30] [0,1,2] ⟨[(2,.pt 0 0),(5,.sl 1 0 x4.length),(6,.sl 2 0 v7.length),(9,vi x10.1),(10,vb x10.2),(28,.sl 1 (0+(1:Int).toNat) ((x4.length:Int).toNat - (1:Int).toNat)),(29,vi (((x4.length:Int).toNat - (1:Int).toNat:Nat):Int)),(30,vi v8)],[(0,.box [.bs false 2 (List.map aa p1),vi p2]),(1,.arr 1 (List.map ab x4)),(2,.arr 1 (List.map ay v7))]⟩ (pa (smA [.agg [.bs false 2 (List.map aa p1),vi p2],vs (gt x4 (((1:Int).toNat+v8.toNat:Nat):Int))]) <| trivial) ⟨co (lZ p1 p2 (gt x4 (((1:Int).toNat+v8.toNat:Nat):Int)) x10 e12) (.cons (.c1 (.agg (.cons (.same _ (by kernel_rfl) (by kernel_rfl)) (.cons (.same _ (by kernel_rfl) (by kernel_rfl)) (.nil))))) (.cons cS (.nil))),trivial⟩ ?_
   refine AX.seq ?_
   refine AX.si [] [2,5,6,9,28,29,30,41] [0,1,2] ⟨[(2,.pt 0 0),(5,.sl 1 0 x4.length),(6,.sl 2 0 v7.length),(9,vi x10.1),(28,.sl 1 (0+(1:Int).toNat) ((x4.length:Int).toNat - (1:Int).toNat)),(29,vi (((x4.length:Int).toNat - (1:Int).toNat:Nat):Int)),(30,vi v8),(41,vb (!x10.2))],[(0,.box [.bs false 2 (List.map aa p1),vi p2]),(1,.arr 1 (List.map ab x4)),(2,.arr 1 (List.map ay v7))]⟩ trivial trivial ?_
   rcases ac ((!x10.2)) with b13 | b13
   ·replace h:=am b13 h
    refine AX.cT ((!x10.2)) b13 ?_
    refine AX.si [] [4] [] ⟨[(4,vs (ByteArray.mk #[119,104,97,116]))],[]⟩ trivial trivial ?_
    refine AX.ret ?_
    refine ae (Wk.fg [4] [] ⟨[(4,vs (ByteArray.mk #[119,104,97,116]))],[]⟩) ?_
    have hr:=Option.some.inj h
    subst hr
    exact ⟨_,Wk.refl _,.inl ⟨(),rfl,rfl,rfl⟩⟩
   ·replace h:=aq b13 h
    refine AX.cF ((!x10.2)) b13 ?_
    refine AX.skip ?_
    obtain ⟨g14,h⟩:=aw h
    refine AX.rh [aN,aN,.auto { nk:=3 },.auto { y:=some (.sl 4 0 ((v7++([x10.1]:List Int)).length)),els:=some (List.map ay v7),els2:=some (List.map ay ([x10.1]:List Int)),nk:=4 }] [2,5,6,28,29,30] [0,1,4] ⟨[(2,.pt 0 0),(5,.sl 1 0 x4.length),(6,.sl 4 0 ((v7++([x10.1]:List Int)).length)),(28,.sl 1 (0+(1:Int).toNat) ((x4.length:Int).toNat - (1:Int).toNat)),(29,vi (((x4.length:Int).toNat - (1:Int).toNat:Nat):Int)),(30,vi v8)],[(0,.box [.bs false 2 (List.map aa p1),vi p2]),(1,.arr 1 (List.map ab x4)),(4,.arr 1 (List.map ay v7++List.map ay ([x10.1]:List Int)))]⟩ (pa (⟨⟨⟨(bc (enc:=ay) rfl rfl),(bc (enc:=ay) rfl rfl)⟩,(by simp only [List.length_map,List.length_nil,List.length_replicate];simpa using g14)⟩,cj (enc:=ay) (aH (enc:=ay) rfl (rfl))⟩:((((((List.map ay v7).drop 0).take (v7.length)=List.map ay v7)∧(((List.map ay ([x10.1]:List Int)).drop 0).take (([x10.1]:List Int).length)=List.map ay ([x10.1]:List Int)))∧(List.map ay v7).length+(List.map ay ([x10.1]:List Int)).length≤1099511627776)∧(AV.sl 4 0 (List.map ay v7++List.map ay ([x10.1]:List Int)).length=AV.sl 4 0 (v7++([x10.1]:List Int)).length))) <| trivial) trivial ?_
    refine AX.rh [.auto { raw:=true }] [2,5,6,28,29,30] [0,1,4] ⟨[(2,.pt 0 0),(5,.sl 1 0 x4.length),(6,.sl 4 0 ((v7++([x10.1]:List Int)).length)),(28,.sl 1 (0+(1:Int).toNat) ((x4.length:Int).toNat - (1:Int).toNat)),(29,vi (((x4.length:Int).toNat - (1:Int).toNat:Nat):Int)),(30,vi (IntKind.wrap .i64 (v8+1)))],[(0,.box [.bs false 2 (List.map aa p1),vi p2]),(1,.arr 1 (List.map ab x4)),(4,.arr 1 (List.map ay v7++List.map ay ([x10.1]:List Int)))]⟩ trivial trivial ?_
    refine ⟨(fu,(v7++([x10.1]:List Int),IntKind.wrap .i64 (v8+1))),h,Nat.lt_succ_self _,?_⟩
    refine Wk.trans (Wk.swap 2 4 (Nat.le_of_ble_eq_true (by kernel_rfl)) (Nat.le_of_ble_eq_true (by kernel_rfl)) rfl) ?_
    refine Wk.trans (Wk.fg [2,5,6,28,29,30] [0,1,2] ⟨[(2,.pt 0 0),(5,.sl 1 0 x4.length),(6,.sl 2 0 ((v7++([x10.1]:List Int)).length)),(28,.sl 1 (0+(1:Int).toNat) ((x4.length:Int).toNat - (1:Int).toNat)),(29,vi (((x4.length:Int).toNat - (1:Int).toNat:Nat):Int)),(30,vi (IntKind.wrap .i64 (v8+1)))],[(0,.box [.bs false 2 (List.map aa p1),vi p2]),(1,.arr 1 (List.map ab x4)),(2,.arr 1 (List.map ay v7++List.map ay ([x10.1]:List Int)))]⟩) ?_
    refine Wk.trans (Wk.of_eq (congrArg (fun z=>(⟨[(2,.pt 0 0),(5,.sl 1 0 x4.length),(6,.sl 2 0 ((v7++([x10.1]:List Int)).length)),(28,.sl 1 (0+(1:Int).toNat) ((x4.length:Int).toNat - (1:Int).toNat)),(29,vi (((x4.length:Int).toNat - (1:Int).toNat:Nat):Int)),(30,vi (IntKind.wrap .i64 (v8+1)))],[(0,.box [.bs false 2 (List.map aa p1),vi p2]),(1,.arr 1 (List.map ab x4)),(2,.arr 1 (z))]⟩:S)) (aH (enc:=ay) rfl (rfl):List.map ay v7++List.map ay ([x10.1]:List Int)=List.map ay (v7++([x10.1]:List Int))))) ?_
    exact Wk.refl _
  ·replace h:=aq b10 h
   refine AX.cF (v9) b10 ?_
   refine AX.exit ?_
   refine ae (Wk.fg [2,5,6] [0,1,2] ⟨[(2,.pt 0 0),(5,.sl 1 0 x4.length),(6,.sl 2 0 v7.length)],[(0,.box [.bs false 2 (List.map aa p1),vi p2]),(1,.arr 1 (List.map ab x4)),(2,.arr 1 (List.map ay v7))]⟩) ?_
   have hr:=Option.some.inj h
   subst hr
   exact ⟨_,Wk.refl _,.inr ⟨v7,rfl,rfl,rfl⟩⟩

theorem pp (p1:List (ByteArray×Int)) (p2:Int) (x4:List ByteArray) (n:Nat) (g:List Int×Int) (out:Unit ⊕ List Int) (h:bN p1 p2 x4 n g.1 g.2=some out) :
  AX Tryz.prog 168 0 (codeAt [1,1,1,1,0,1,1] (aU Tryz.f22)) ((fun g:List Int×Int=>(⟨[(2,.pt 0 0),(5,.sl 1 0 x4.length),(6,.sl 2 0 g.1.length),(28,.sl 1 (0+(1:Int).toNat) ((x4.length:Int).toNat - (1:Int).toNat)),(29,vi (((x4.length:Int).toNat - (1:Int).toNat:Nat):Int)),(30,vi g.2)],[(0,.box [.bs false 2 (List.map aa p1),vi p2]),(1,.arr 1 (List.map ab x4)),(2,.arr 1 (List.map ay g.1))]⟩:S)) g) (fun ex s=>(∃ o:Unit,out=Sum.inl o∧ex=.ret∧s=⟨[(4,vs (ByteArray.mk #[119,104,97,116]))],[]⟩)∨(∃ o:List Int,out=Sum.inr o∧ex=.exit 0∧s=⟨[(2,.pt 0 0),(5,.sl 1 0 x4.length),(6,.sl 2 0 o.length)],[(0,.box [.bs false 2 (List.map aa p1),vi p2]),(1,.arr 1 (List.map ab x4)),(2,.arr 1 (List.map ay o))]⟩)):=by
 refine AX.wkpost ?_
 refine AX.loop (G:=Nat×(List Int×Int)) (fun q=>(fun g:List Int×Int=>(⟨[(2,.pt 0 0),(5,.sl 1 0 x4.length),(6,.sl 2 0 g.1.length),(28,.sl 1 (0+(1:Int).toNat) ((x4.length:Int).toNat - (1:Int).toNat)),(29,vi (((x4.length:Int).toNat - (1:Int).toNat:Nat):Int)),(30,vi g.2)],[(0,.box [.bs false 2 (List.map aa p1),vi p2]),(1,.arr 1 (List.map ab x4)),(2,.arr 1 (List.map ay g.1))]⟩:S)) q.2) (fun q=>bN p1 p2 x4 q.1 q.2.1 q.2.2=some out) (fun q=>q.1) (n,g) h (Wk.refl _) ?_
 clear h
 rintro ⟨fu,v14,v15⟩ h
 cases fu with
 | zero=>cases h
 | succ fu =>
  rw [bN] at h
  refine AX.seq ?_
  obtain ⟨v16,q17,h⟩:=bT h
  refine AX.rh [aY (vb v16)] [2,5,6,28,29,30,31] [0,1,2] ⟨[(2,.pt 0 0),(5,.sl 1 0 x4.length),(6,.sl 2 0 v14.length),(28,.sl 1 (0+(1:Int).toNat) ((x4.length:Int).toNat - (1:Int).toNat)),(29,vi (((x4.length:Int).toNat - (1:Int).toNat:Nat):Int)),(30,vi v15),(31,vb v16)],[(0,.box [.bs false 2 (List.map aa p1),vi p2]),(1,.arr 1 (List.map ab x4)),(2,.arr 1 (List.map ay v14))]⟩ (pa (pb (cb q17)) <| trivial) trivial ?_
  refine AX.seq ?_
  rcases ac (v16) with b18 | b18
  ·replace h:=am b18 h
   refine AX.cT (v16) b18 ?_
   refine AX.skip ?_
   refine AX.seq ?_
   refine AX.block ?_
   refine AX.seq ?_
   obtain ⟨g19,h⟩:=aw h
   refine AX.rh [aN,.auto { y:=some (vs (gt x4 (((1:Int).toNat+v15.toNat:Nat):Int))) }] [2,5,6,8,28,29,30] [0,1,2] ⟨[(2,.pt 0 0),(5,.sl 1 0 x4.length),(6,.sl 2 0 v14.length),(8,vs (gt x4 (((1:Int).toNat+v15.toNat:Nat):Int))),(28,.sl 1 (0+(1:Int).toNat) ((x4.length:Int).toNat - (1:Int).toNat)),(29,vi (((x4.length:Int).toNat - (1:Int).toNat:Nat):Int)),(30,vi v15)],[(0,.box [.bs false 2 (List.map aa p1),vi p2]),(1,.arr 1 (List.map ab x4)),(2,.arr 1 (List.map ay v14))]⟩ (pa (g19.1:(0≤v15∧v15<(((x4.length:Int).toNat - (1:Int).toNat:Nat):Int))) <| pa (⟨trivial,(congrArg (fun z:List Value=>AV.v (z.getD 0 undef)) (rE (enc:=ab) rfl g19.2))⟩:(True∧(AV.v (((List.map ab x4).getD (0+(1:Int).toNat+v15.toNat) []).getD 0 undef)=vs (gt x4 (((1:Int).toNat+v15.toNat:Nat):Int))))) <| trivial) trivial ?_
   refine AX.seq ?_
   obtain ⟨x17,e20,h⟩:=ak h
   refine AX.rh [aN,aN,.call 40 [.agg [.bs false 2 (List.map aa p1),vi p2],vs (gt x4 (((1:Int).toNat+v15.toNat:Nat):Int))] hN (ah [] [] (.tup [vi x17.1,vb x17.2]) [])] [2,5,6,9,10,28,29,30] [0,1,2] ⟨[(2,.pt 0 0),(5,.sl 1 0 x4.length),(6,.sl 2 0 v14.length),(9,vi x17.1),(10,vb x17.2),(28,.sl 1 (0+(1:Int).toNat) ((x4.length:Int).toNat - (1:Int).toNat)),(29,vi (((x4.length:Int).toNat - (1:Int).toNat:Nat):Int)),(30,vi v15)],[(0,.box [.bs false 2 (List.map aa p1),vi p2]),(1,.arr 1 (List.map ab x4)),(2,.arr 1 (List.map ay v14))]⟩ (pa (smA [.agg [.bs false 2 (List.map aa p1),vi p2],vs (gt x4 (((1:Int).toNat+v15.toNat:Nat):Int))]) <| trivial) ⟨co (lZ p1 p2 (gt x4 (((1:Int).toNat+v15.toNat:Nat):Int)) x17 e20) (.cons (.c1 (.agg (.cons (.same _ (by kernel_rfl) (by kernel_rfl)) (.cons (.same _ (by kernel_rfl) (by kernel_rfl)) (.nil))))) (.cons cS (.nil))),trivial⟩ ?_
   refine AX.seq ?_
   refine AX.si [] [2,5,6,9,28,29,30,41] [0,1,2] ⟨[(2,.pt 0 0),(5,.sl 1 0 x4.length),(6,.sl 2 0 v14.length),(9,vi x17.1),(28,.sl 1 (0+(1:Int).toNat) ((x4.length:Int).toNat - (1:Int).toNat)),(29,vi (((x4.length:Int).toNat - (1:Int).toNat:Nat):Int)),(30,vi v15),(41,vb (!x17.2))],[(0,.box [.bs false 2 (List.map aa p1),vi p2]),(1,.arr 1 (List.map ab x4)),(2,.arr 1 (List.map ay v14))]⟩ trivial trivial ?_
   rcases ac ((!x17.2)) with b21 | b21
   ·replace h:=am b21 h
    refine AX.cT ((!x17.2)) b21 ?_
    refine AX.si [] [4] [] ⟨[(4,vs (ByteArray.mk #[119,104,97,116]))],[]⟩ trivial trivial ?_
    refine AX.ret ?_
    refine ae (Wk.fg [4] [] ⟨[(4,vs (ByteArray.mk #[119,104,97,116]))],[]⟩) ?_
    have hr:=Option.some.inj h
    subst hr
    exact ⟨_,Wk.refl _,.inl ⟨(),rfl,rfl,rfl⟩⟩
   ·replace h:=aq b21 h
    refine AX.cF ((!x17.2)) b21 ?_
    refine AX.skip ?_
    obtain ⟨g22,h⟩:=aw h
    refine AX.rh [aN,aN,.auto { nk:=3 },.auto { y:=some (.sl 4 0 ((v14++([x17.1]:List Int)).length)),els:=some (List.map ay v14),els2:=some (List.map ay ([x17.1]:List Int)),nk:=4 }] [2,5,6,28,29,30] [0,1,4] ⟨[(2,.pt 0 0),(5,.sl 1 0 x4.length),(6,.sl 4 0 ((v14++([x17.1]:List Int)).length)),(28,.sl 1 (0+(1:Int).toNat) ((x4.length:Int).toNat - (1:Int).toNat)),(29,vi (((x4.length:Int).toNat - (1:Int).toNat:Nat):Int)),(30,vi v15)],[(0,.box [.bs false 2 (List.map aa p1),vi p2]),(1,.arr 1 (List.map ab x4)),(4,.arr 1 (List.map ay v14++List.map ay ([x17.1]:List Int)))]⟩ (pa (⟨⟨⟨(bc (enc:=ay) rfl rfl),(bc (enc:=ay) rfl rfl)⟩,(by simp only [List.length_map,List.length_nil,List.length_replicate];simpa using g22)⟩,cj (enc:=ay) (aH (enc:=ay) rfl (rfl))⟩:((((((List.map ay v14).drop 0).take (v14.length)=List.map ay v14)∧(((List.map ay ([x17.1]:List Int)).drop 0).take (([x17.1]:List Int).length)=List.map ay ([x17.1]:List Int)))∧(List.map ay v14).length+(List.map ay ([x17.1]:List Int)).length≤1099511627776)∧(AV.sl 4 0 (List.map ay v14++List.map ay ([x17.1]:List Int)).length=AV.sl 4 0 (v14++([x17.1]:List Int)).length))) <| trivial) trivial ?_
    refine AX.rh [.auto { raw:=true }] [2,5,6,28,29,30] [0,1,4] ⟨[(2,.pt 0 0),(5,.sl 1 0 x4.length),(6,.sl 4 0 ((v14++([x17.1]:List Int)).length)),(28,.sl 1 (0+(1:Int).toNat) ((x4.length:Int).toNat - (1:Int).toNat)),(29,vi (((x4.length:Int).toNat - (1:Int).toNat:Nat):Int)),(30,vi (IntKind.wrap .i64 (v15+1)))],[(0,.box [.bs false 2 (List.map aa p1),vi p2]),(1,.arr 1 (List.map ab x4)),(4,.arr 1 (List.map ay v14++List.map ay ([x17.1]:List Int)))]⟩ trivial trivial ?_
    refine ⟨(fu,(v14++([x17.1]:List Int),IntKind.wrap .i64 (v15+1))),h,Nat.lt_succ_self _,?_⟩
    refine Wk.trans (Wk.swap 2 4 (Nat.le_of_ble_eq_true (by kernel_rfl)) (Nat.le_of_ble_eq_true (by kernel_rfl)) rfl) ?_
    refine Wk.trans (Wk.fg [2,5,6,28,29,30] [0,1,2] ⟨[(2,.pt 0 0),(5,.sl 1 0 x4.length),(6,.sl 2 0 ((v14++([x17.1]:List Int)).length)),(28,.sl 1 (0+(1:Int).toNat) ((x4.length:Int).toNat - (1:Int).toNat)),(29,vi (((x4.length:Int).toNat - (1:Int).toNat:Nat):Int)),(30,vi (IntKind.wrap .i64 (v15+1)))],[(0,.box [.bs false 2 (List.map aa p1),vi p2]),(1,.arr 1 (List.map ab x4)),(2,.arr 1 (List.map ay v14++List.map ay ([x17.1]:List Int)))]⟩) ?_
    refine Wk.trans (Wk.of_eq (congrArg (fun z=>(⟨[(2,.pt 0 0),(5,.sl 1 0 x4.length),(6,.sl 2 0 ((v14++([x17.1]:List Int)).length)),(28,.sl 1 (0+(1:Int).toNat) ((x4.length:Int).toNat - (1:Int).toNat)),(29,vi (((x4.length:Int).toNat - (1:Int).toNat:Nat):Int)),(30,vi (IntKind.wrap .i64 (v15+1)))],[(0,.box [.bs false 2 (List.map aa p1),vi p2]),(1,.arr 1 (List.map ab x4)),(2,.arr 1 (z))]⟩:S)) (aH (enc:=ay) rfl (rfl):List.map ay v14++List.map ay ([x17.1]:List Int)=List.map ay (v14++([x17.1]:List Int))))) ?_
    exact Wk.refl _
  ·replace h:=aq b18 h
   refine AX.cF (v16) b18 ?_
   refine AX.exit ?_
   refine ae (Wk.fg [2,5,6] [0,1,2] ⟨[(2,.pt 0 0),(5,.sl 1 0 x4.length),(6,.sl 2 0 v14.length)],[(0,.box [.bs false 2 (List.map aa p1),vi p2]),(1,.arr 1 (List.map ab x4)),(2,.arr 1 (List.map ay v14))]⟩) ?_
   have hr:=Option.some.inj h
   subst hr
   exact ⟨_,Wk.refl _,.inr ⟨v14,rfl,rfl,rfl⟩⟩

theorem sH (p1:List (ByteArray×Int)) (p2:Int) (p3:ByteArray) (r:ByteArray) (h:fp p1 p2 p3=some r) :
  Eng.al Tryz.prog 22 [.agg [.bs false 2 (List.map aa p1),vi p2],vs p3] [] (vs r) []:=by
 unfold fp at h
 refine Eng.al.body Tryz.func22 (by kernel_rfl) rfl (by kernel_rfl) ?_
 refine AX.wkpost ?_
 refine AX.si [.auto { nk:=0 }] [1,2] [0] ⟨[(1,vs p3),(2,.pt 0 0)],[(0,.box [.bs false 2 (List.map aa p1),vi p2])]⟩ trivial trivial ?_
 refine AX.seq ?_
 obtain ⟨x4,e1,h⟩:=ak h
 refine AX.rh [aN,.call 38 [vs p3,vs (ByteArray.mk #[32])] (aD (rho ([]++[1])) [] []++[]) (ah [] [1] (.sl 0 0 x4.length) [.arr 1 (List.map ab x4)])] [2,5] [0,1] ⟨[(2,.pt 0 0),(5,.sl 1 0 x4.length)],[(0,.box [.bs false 2 (List.map aa p1),vi p2]),(1,.arr 1 (List.map ab x4))]⟩ (pa (smA [vs p3,vs (ByteArray.mk #[32])]) <| trivial) ⟨aA (ks:=[]) (ns:=[1]) (bor:=[]) (bobjs:=[]) (kj p3 (ByteArray.mk #[32]) x4 e1) (.cons cS (.cons cS (.nil))) (by kernel_rfl) trivial,trivial⟩ ?_
 refine AX.seq ?_
 refine AX.seq ?_
 obtain ⟨g2,h⟩:=aw h
 obtain ⟨v5,q3,h⟩:=bT h
 rcases ac (v5) with b4 | b4
 ·replace h:=am b4 h
  refine AX.rh [aN,aN,aY (vs (gt x4 (0:Int))),aY (vb v5),aY (vb true)] [2,5,21] [0,1] ⟨[(2,.pt 0 0),(5,.sl 1 0 x4.length),(21,vb (decide ((x4.length:Int)=2)))],[(0,.box [.bs false 2 (List.map aa p1),vi p2]),(1,.arr 1 (List.map ab x4))]⟩ (pa g2 <| pa (⟨trivial,(congrArg (fun z:List Value=>AV.v (z.getD 0 undef)) (au (enc:=ab) rfl g2))⟩:(True∧(AV.v (((List.map ab x4).getD (0+(0:Int).toNat) []).getD 0 undef)=vs (gt x4 (0:Int))))) <| pa (pb (cb q3)) <| pa (pb (cb b4)) <| trivial) trivial ?_
  rcases ac (decide ((x4.length:Int)=2)) with b5 | b5
  ·replace h:=am b5 h
   refine AX.cT (decide ((x4.length:Int)=2)) b5 ?_
   refine AX.seq ?_
   obtain ⟨g6,h⟩:=aw h
   obtain ⟨x6,e7,h⟩:=ak h
   refine AX.dh mixed [aN,aN,aN,aY (vs (gt x4 (1:Int))),.call 39 [.agg [.bs false 2 (List.map aa p1),vi p2],vs (gt x4 (1:Int))] hN (ah [] [] (vs x6) [])] [4] [] ⟨[(4,vs x6)],[]⟩ (pa g6 <| pa (⟨trivial,(congrArg (fun z:List Value=>AV.v (z.getD 0 undef)) (au (enc:=ab) rfl g6))⟩:(True∧(AV.v (((List.map ab x4).getD (0+(1:Int).toNat) []).getD 0 undef)=vs (gt x4 (1:Int))))) <| pa (smA [.agg [.bs false 2 (List.map aa p1),vi p2],vs (gt x4 (1:Int))]) <| trivial) ⟨co (ta p1 p2 (gt x4 (1:Int)) x6 e7) (.cons (.c1 (.agg (.cons (.same _ (by kernel_rfl) (by kernel_rfl)) (.cons (.same _ (by kernel_rfl) (by kernel_rfl)) (.nil))))) (.cons cS (.nil))),trivial⟩ ?_
   refine AX.ret ?_
   refine ae (Wk.fg [4] [] ⟨[(4,vs x6)],[]⟩) ?_
   have hr:=Option.some.inj h
   subst hr
   exact ⟨_,Wk.refl _,.inr rfl,⟨[],by kernel_rfl,trivial,[vs x6],by kernel_rfl,by kernel_rfl⟩⟩
  ·replace h:=aq b5 h
   refine AX.cF (decide ((x4.length:Int)=2)) b5 ?_
   refine AX.skip ?_
   refine AX.si [] [2,5,6] [0,1] ⟨[(2,.pt 0 0),(5,.sl 1 0 x4.length),(6,.v (.slice none 0 0))],[(0,.box [.bs false 2 (List.map aa p1),vi p2]),(1,.arr 1 (List.map ab x4))]⟩ trivial trivial ?_
   refine AX.seq ?_
   refine AX.seq ?_
   obtain ⟨g8,h⟩:=aw h
   refine AX.rh [] [2,5,6,28,29,30] [0,1] ⟨[(2,.pt 0 0),(5,.sl 1 0 x4.length),(6,.v (.slice none 0 0)),(28,.sl 1 (0+(1:Int).toNat) ((x4.length:Int).toNat - (1:Int).toNat)),(29,vi (((x4.length:Int).toNat - (1:Int).toNat:Nat):Int)),(30,vi 0)],[(0,.box [.bs false 2 (List.map aa p1),vi p2]),(1,.arr 1 (List.map ab x4))]⟩ (pa g8 <| trivial) trivial ?_
   refine AX.block ?_
   obtain ⟨x11,e15,h⟩:=ak h
   refine AX.wk (Wk.mat 6 2 1 (by kernel_rfl) (Nat.le_of_ble_eq_true (by kernel_rfl)) (by kernel_rfl) rfl) ?_
   refine AX.wk (Wk.fg [2,5,6,28,29,30] [0,1,2] ⟨[(2,.pt 0 0),(5,.sl 1 0 x4.length),(6,.sl 2 0 (([]:List Int).length)),(28,.sl 1 (0+(1:Int).toNat) ((x4.length:Int).toNat - (1:Int).toNat)),(29,vi (((x4.length:Int).toNat - (1:Int).toNat:Nat):Int)),(30,vi 0)],[(0,.box [.bs false 2 (List.map aa p1),vi p2]),(1,.arr 1 (List.map ab x4)),(2,.arr 1 (List.map ay ([]:List Int)))]⟩) ?_
   refine AX.mono (po p1 p2 x4 FU (([]:List Int),0) x11 e15) ?_
   rintro _ _ (⟨x12,rfl,rfl,rfl⟩ | ⟨x13,rfl,rfl,rfl⟩)
   ·replace h:=eL h
    refine ae (Wk.fg [4] [] ⟨[(4,vs (ByteArray.mk #[119,104,97,116]))],[]⟩) ?_
    have hr:=Option.some.inj h
    subst hr
    exact ⟨_,Wk.refl _,.inr rfl,⟨[],by kernel_rfl,trivial,[vs (ByteArray.mk #[119,104,97,116])],by kernel_rfl,by kernel_rfl⟩⟩
   ·replace h:=eU h
    refine AX.seq ?_
    refine AX.block ?_
    refine AX.si [aN,aN,aY (vs (gt x4 (0:Int))),aY (vb false)] [2,5,6,47] [0,1,2] ⟨[(2,.pt 0 0),(5,.sl 1 0 x4.length),(6,.sl 2 0 x13.length),(47,vb false)],[(0,.box [.bs false 2 (List.map aa p1),vi p2]),(1,.arr 1 (List.map ab x4)),(2,.arr 1 (List.map ay x13))]⟩ (pa g2 <| pa (⟨trivial,(congrArg (fun z:List Value=>AV.v (z.getD 0 undef)) (au (enc:=ab) rfl g2))⟩:(True∧(AV.v (((List.map ab x4).getD (0+(0:Int).toNat) []).getD 0 undef)=vs (gt x4 (0:Int))))) <| pa (pb (cb (ax (b:=(ByteArray.mk #[118,97,108,117,101])) (q3.trans b4) (by decide)))) <| trivial) trivial ?_
    refine AX.cond_false (by kernel_rfl) ?_
    refine AX.si [aN,aN,aY (vs (gt x4 (0:Int))),aY (vb false)] [2,5,6,61] [0,1,2] ⟨[(2,.pt 0 0),(5,.sl 1 0 x4.length),(6,.sl 2 0 x13.length),(61,vb false)],[(0,.box [.bs false 2 (List.map aa p1),vi p2]),(1,.arr 1 (List.map ab x4)),(2,.arr 1 (List.map ay x13))]⟩ (pa g2 <| pa (⟨trivial,(congrArg (fun z:List Value=>AV.v (z.getD 0 undef)) (au (enc:=ab) rfl g2))⟩:(True∧(AV.v (((List.map ab x4).getD (0+(0:Int).toNat) []).getD 0 undef)=vs (gt x4 (0:Int))))) <| pa (pb (cb (ax (b:=(ByteArray.mk #[115,104,111,119])) (q3.trans b4) (by decide)))) <| trivial) trivial ?_
    refine AX.cond_false (by kernel_rfl) ?_
    refine AX.si [aN,aN,aY (vs (gt x4 (0:Int))),aY (vb false)] [2,5,6,76] [0,1,2] ⟨[(2,.pt 0 0),(5,.sl 1 0 x4.length),(6,.sl 2 0 x13.length),(76,vb false)],[(0,.box [.bs false 2 (List.map aa p1),vi p2]),(1,.arr 1 (List.map ab x4)),(2,.arr 1 (List.map ay x13))]⟩ (pa g2 <| pa (⟨trivial,(congrArg (fun z:List Value=>AV.v (z.getD 0 undef)) (au (enc:=ab) rfl g2))⟩:(True∧(AV.v (((List.map ab x4).getD (0+(0:Int).toNat) []).getD 0 undef)=vs (gt x4 (0:Int))))) <| pa (pb (cb (ax (b:=(ByteArray.mk #[115,104,111,114,116])) (q3.trans b4) (by decide)))) <| trivial) trivial ?_
    refine AX.cond_false (by kernel_rfl) ?_
    refine AX.si [aN,aN,aY (vs (gt x4 (0:Int))),aY (vb false)] [2,5,6,91] [0,1,2] ⟨[(2,.pt 0 0),(5,.sl 1 0 x4.length),(6,.sl 2 0 x13.length),(91,vb false)],[(0,.box [.bs false 2 (List.map aa p1),vi p2]),(1,.arr 1 (List.map ab x4)),(2,.arr 1 (List.map ay x13))]⟩ (pa g2 <| pa (⟨trivial,(congrArg (fun z:List Value=>AV.v (z.getD 0 undef)) (au (enc:=ab) rfl g2))⟩:(True∧(AV.v (((List.map ab x4).getD (0+(0:Int).toNat) []).getD 0 undef)=vs (gt x4 (0:Int))))) <| pa (pb (cb (ax (b:=(ByteArray.mk #[110,111,116])) (q3.trans b4) (by decide)))) <| trivial) trivial ?_
    refine AX.cond_false (by kernel_rfl) ?_
    refine AX.si [aN,aN,aY (vs (gt x4 (0:Int))),aY (vb false)] [2,5,6,108] [0,1,2] ⟨[(2,.pt 0 0),(5,.sl 1 0 x4.length),(6,.sl 2 0 x13.length),(108,vb false)],[(0,.box [.bs false 2 (List.map aa p1),vi p2]),(1,.arr 1 (List.map ab x4)),(2,.arr 1 (List.map ay x13))]⟩ (pa g2 <| pa (⟨trivial,(congrArg (fun z:List Value=>AV.v (z.getD 0 undef)) (au (enc:=ab) rfl g2))⟩:(True∧(AV.v (((List.map ab x4).getD (0+(0:Int).toNat) []).getD 0 undef)=vs (gt x4 (0:Int))))) <| pa (pb (cb (ax (b:=(ByteArray.mk #[111,114])) (q3.trans b4) (by decide)))) <| trivial) trivial ?_
    refine AX.cond_false (by kernel_rfl) ?_
    refine AX.si [aN,aN,aY (vs (gt x4 (0:Int))),aY (vb false)] [2,5,6,128] [0,1,2] ⟨[(2,.pt 0 0),(5,.sl 1 0 x4.length),(6,.sl 2 0 x13.length),(128,vb false)],[(0,.box [.bs false 2 (List.map aa p1),vi p2]),(1,.arr 1 (List.map ab x4)),(2,.arr 1 (List.map ay x13))]⟩ (pa g2 <| pa (⟨trivial,(congrArg (fun z:List Value=>AV.v (z.getD 0 undef)) (au (enc:=ab) rfl g2))⟩:(True∧(AV.v (((List.map ab x4).getD (0+(0:Int).toNat) []).getD 0 undef)=vs (gt x4 (0:Int))))) <| pa (pb (cb (ax (b:=(ByteArray.mk #[97,110,100])) (q3.trans b4) (by decide)))) <| trivial) trivial ?_
    refine AX.cond_false (by kernel_rfl) ?_
    refine AX.si [aN,aN,aY (vs (gt x4 (0:Int))),aY (vb false)] [2,6,148] [0,2] ⟨[(2,.pt 0 0),(6,.sl 2 0 x13.length),(148,vb false)],[(0,.box [.bs false 2 (List.map aa p1),vi p2]),(2,.arr 1 (List.map ay x13))]⟩ (pa g2 <| pa (⟨trivial,(congrArg (fun z:List Value=>AV.v (z.getD 0 undef)) (au (enc:=ab) rfl g2))⟩:(True∧(AV.v (((List.map ab x4).getD (0+(0:Int).toNat) []).getD 0 undef)=vs (gt x4 (0:Int))))) <| pa (pb (cb (ax (b:=(ByteArray.mk #[108,101,115,115])) (q3.trans b4) (by decide)))) <| trivial) trivial ?_
    refine AX.cond_false (by kernel_rfl) ?_
    refine AX.skip ?_
    refine AX.si [] [4] [] ⟨[(4,vs (ByteArray.mk #[119,104,97,116]))],[]⟩ trivial trivial ?_
    refine AX.ret ?_
    refine ae (Wk.fg [4] [] ⟨[(4,vs (ByteArray.mk #[119,104,97,116]))],[]⟩) ?_
    have hr:=Option.some.inj h
    subst hr
    exact ⟨_,Wk.refl _,.inr rfl,⟨[],by kernel_rfl,trivial,[vs (ByteArray.mk #[119,104,97,116])],by kernel_rfl,by kernel_rfl⟩⟩
 ·replace h:=aq b4 h
  refine AX.rh [aN,aN,aY (vs (gt x4 (0:Int))),aY (vb v5),aY (vb false)] [2,5,21] [0,1] ⟨[(2,.pt 0 0),(5,.sl 1 0 x4.length),(21,vb false)],[(0,.box [.bs false 2 (List.map aa p1),vi p2]),(1,.arr 1 (List.map ab x4))]⟩ (pa g2 <| pa (⟨trivial,(congrArg (fun z:List Value=>AV.v (z.getD 0 undef)) (au (enc:=ab) rfl g2))⟩:(True∧(AV.v (((List.map ab x4).getD (0+(0:Int).toNat) []).getD 0 undef)=vs (gt x4 (0:Int))))) <| pa (pb (cb q3)) <| pa (pb (cb b4)) <| trivial) trivial ?_
  refine AX.cond_false (by kernel_rfl) ?_
  refine AX.skip ?_
  refine AX.si [] [2,5,6] [0,1] ⟨[(2,.pt 0 0),(5,.sl 1 0 x4.length),(6,.v (.slice none 0 0))],[(0,.box [.bs false 2 (List.map aa p1),vi p2]),(1,.arr 1 (List.map ab x4))]⟩ trivial trivial ?_
  refine AX.seq ?_
  refine AX.seq ?_
  obtain ⟨g16,h⟩:=aw h
  refine AX.rh [] [2,5,6,28,29,30] [0,1] ⟨[(2,.pt 0 0),(5,.sl 1 0 x4.length),(6,.v (.slice none 0 0)),(28,.sl 1 (0+(1:Int).toNat) ((x4.length:Int).toNat - (1:Int).toNat)),(29,vi (((x4.length:Int).toNat - (1:Int).toNat:Nat):Int)),(30,vi 0)],[(0,.box [.bs false 2 (List.map aa p1),vi p2]),(1,.arr 1 (List.map ab x4))]⟩ (pa g16 <| trivial) trivial ?_
  refine AX.block ?_
  obtain ⟨x18,e23,h⟩:=ak h
  refine AX.wk (Wk.mat 6 2 1 (by kernel_rfl) (Nat.le_of_ble_eq_true (by kernel_rfl)) (by kernel_rfl) rfl) ?_
  refine AX.wk (Wk.fg [2,5,6,28,29,30] [0,1,2] ⟨[(2,.pt 0 0),(5,.sl 1 0 x4.length),(6,.sl 2 0 (([]:List Int).length)),(28,.sl 1 (0+(1:Int).toNat) ((x4.length:Int).toNat - (1:Int).toNat)),(29,vi (((x4.length:Int).toNat - (1:Int).toNat:Nat):Int)),(30,vi 0)],[(0,.box [.bs false 2 (List.map aa p1),vi p2]),(1,.arr 1 (List.map ab x4)),(2,.arr 1 (List.map ay ([]:List Int)))]⟩) ?_
  refine AX.mono (pp p1 p2 x4 FU (([]:List Int),0) x18 e23) ?_
  rintro _ _ (⟨x19,rfl,rfl,rfl⟩ | ⟨x20,rfl,rfl,rfl⟩)
  ·replace h:=eL h
   refine ae (Wk.fg [4] [] ⟨[(4,vs (ByteArray.mk #[119,104,97,116]))],[]⟩) ?_
   have hr:=Option.some.inj h
   subst hr
   exact ⟨_,Wk.refl _,.inr rfl,⟨[],by kernel_rfl,trivial,[vs (ByteArray.mk #[119,104,97,116])],by kernel_rfl,by kernel_rfl⟩⟩
  ·replace h:=eU h
   refine AX.seq ?_
   refine AX.block ?_
   refine AX.seq ?_
   obtain ⟨v21,q24,h⟩:=bT h
   rcases ac (v21) with b25 | b25
   ·replace h:=am b25 h
    refine AX.rh [aN,aN,aY (vs (gt x4 (0:Int))),aY (vb v21),aY (vb true)] [2,5,6,47] [0,1,2] ⟨[(2,.pt 0 0),(5,.sl 1 0 x4.length),(6,.sl 2 0 x20.length),(47,vb (decide ((x20.length:Int)=1)))],[(0,.box [.bs false 2 (List.map aa p1),vi p2]),(1,.arr 1 (List.map ab x4)),(2,.arr 1 (List.map ay x20))]⟩ (pa g2 <| pa (⟨trivial,(congrArg (fun z:List Value=>AV.v (z.getD 0 undef)) (au (enc:=ab) rfl g2))⟩:(True∧(AV.v (((List.map ab x4).getD (0+(0:Int).toNat) []).getD 0 undef)=vs (gt x4 (0:Int))))) <| pa (pb (cb q24)) <| pa (pb (cb b25)) <| trivial) trivial ?_
    rcases ac (decide ((x20.length:Int)=1)) with b26 | b26
    ·replace h:=am b26 h
     refine AX.cT (decide ((x20.length:Int)=1)) b26 ?_
     refine AX.seq ?_
     obtain ⟨g27,h⟩:=aw h
     obtain ⟨x22,e28,h⟩:=ak h
     refine AX.rh [aN,aN,aY (vi (gt x20 (0:Int))),.call 41 [vi (gt x20 (0:Int))] hN (ah [] [] (vs x22) [])] [4] [] ⟨[(4,vs x22)],[]⟩ (pa g27 <| pa (⟨trivial,(congrArg (fun z:List Value=>AV.v (z.getD 0 undef)) (au (enc:=ay) rfl g27))⟩:(True∧(AV.v (((List.map ay x20).getD (0+(0:Int).toNat) []).getD 0 undef)=vi (gt x20 (0:Int))))) <| pa (smA [vi (gt x20 (0:Int))]) <| trivial) ⟨co (iY (gt x20 (0:Int)) x22 e28) (.cons cS (.nil)),trivial⟩ ?_
     refine AX.ret ?_
     refine ae (Wk.fg [4] [] ⟨[(4,vs x22)],[]⟩) ?_
     have hr:=Option.some.inj h
     subst hr
     exact ⟨_,Wk.refl _,.inr rfl,⟨[],by kernel_rfl,trivial,[vs x22],by kernel_rfl,by kernel_rfl⟩⟩
    ·replace h:=aq b26 h
     refine AX.cF (decide ((x20.length:Int)=1)) b26 ?_
     refine AX.si [aN,aN,aY (vs (gt x4 (0:Int))),aY (vb false)] [2,5,6,61] [0,1,2] ⟨[(2,.pt 0 0),(5,.sl 1 0 x4.length),(6,.sl 2 0 x20.length),(61,vb false)],[(0,.box [.bs false 2 (List.map aa p1),vi p2]),(1,.arr 1 (List.map ab x4)),(2,.arr 1 (List.map ay x20))]⟩ (pa g2 <| pa (⟨trivial,(congrArg (fun z:List Value=>AV.v (z.getD 0 undef)) (au (enc:=ab) rfl g2))⟩:(True∧(AV.v (((List.map ab x4).getD (0+(0:Int).toNat) []).getD 0 undef)=vs (gt x4 (0:Int))))) <| pa (pb (cb (ax (b:=(ByteArray.mk #[115,104,111,119])) (q24.trans b25) (by decide)))) <| trivial) trivial ?_
     refine AX.cond_false (by kernel_rfl) ?_
     refine AX.si [aN,aN,aY (vs (gt x4 (0:Int))),aY (vb false)] [2,5,6,76] [0,1,2] ⟨[(2,.pt 0 0),(5,.sl 1 0 x4.length),(6,.sl 2 0 x20.length),(76,vb false)],[(0,.box [.bs false 2 (List.map aa p1),vi p2]),(1,.arr 1 (List.map ab x4)),(2,.arr 1 (List.map ay x20))]⟩ (pa g2 <| pa (⟨trivial,(congrArg (fun z:List Value=>AV.v (z.getD 0 undef)) (au (enc:=ab) rfl g2))⟩:(True∧(AV.v (((List.map ab x4).getD (0+(0:Int).toNat) []).getD 0 undef)=vs (gt x4 (0:Int))))) <| pa (pb (cb (ax (b:=(ByteArray.mk #[115,104,111,114,116])) (q24.trans b25) (by decide)))) <| trivial) trivial ?_
     refine AX.cond_false (by kernel_rfl) ?_
     refine AX.si [aN,aN,aY (vs (gt x4 (0:Int))),aY (vb false)] [2,5,6,91] [0,1,2] ⟨[(2,.pt 0 0),(5,.sl 1 0 x4.length),(6,.sl 2 0 x20.length),(91,vb false)],[(0,.box [.bs false 2 (List.map aa p1),vi p2]),(1,.arr 1 (List.map ab x4)),(2,.arr 1 (List.map ay x20))]⟩ (pa g2 <| pa (⟨trivial,(congrArg (fun z:List Value=>AV.v (z.getD 0 undef)) (au (enc:=ab) rfl g2))⟩:(True∧(AV.v (((List.map ab x4).getD (0+(0:Int).toNat) []).getD 0 undef)=vs (gt x4 (0:Int))))) <| pa (pb (cb (ax (b:=(ByteArray.mk #[110,111,116])) (q24.trans b25) (by decide)))) <| trivial) trivial ?_
     refine AX.cond_false (by kernel_rfl) ?_
     refine AX.si [aN,aN,aY (vs (gt x4 (0:Int))),aY (vb false)] [2,5,6,108] [0,1,2] ⟨[(2,.pt 0 0),(5,.sl 1 0 x4.length),(6,.sl 2 0 x20.length),(108,vb false)],[(0,.box [.bs false 2 (List.map aa p1),vi p2]),(1,.arr 1 (List.map ab x4)),(2,.arr 1 (List.map ay x20))]⟩ (pa g2 <| pa (⟨trivial,(congrArg (fun z:List Value=>AV.v (z.getD 0 undef)) (au (enc:=ab) rfl g2))⟩:(True∧(AV.v (((List.map ab x4).getD (0+(0:Int).toNat) []).getD 0 undef)=vs (gt x4 (0:Int))))) <| pa (pb (cb (ax (b:=(ByteArray.mk #[111,114])) (q24.trans b25) (by decide)))) <| trivial) trivial ?_
     refine AX.cond_false (by kernel_rfl) ?_
     refine AX.si [aN,aN,aY (vs (gt x4 (0:Int))),aY (vb false)] [2,5,6,128] [0,1,2] ⟨[(2,.pt 0 0),(5,.sl 1 0 x4.length),(6,.sl 2 0 x20.length),(128,vb false)],[(0,.box [.bs false 2 (List.map aa p1),vi p2]),(1,.arr 1 (List.map ab x4)),(2,.arr 1 (List.map ay x20))]⟩ (pa g2 <| pa (⟨trivial,(congrArg (fun z:List Value=>AV.v (z.getD 0 undef)) (au (enc:=ab) rfl g2))⟩:(True∧(AV.v (((List.map ab x4).getD (0+(0:Int).toNat) []).getD 0 undef)=vs (gt x4 (0:Int))))) <| pa (pb (cb (ax (b:=(ByteArray.mk #[97,110,100])) (q24.trans b25) (by decide)))) <| trivial) trivial ?_
     refine AX.cond_false (by kernel_rfl) ?_
     refine AX.si [aN,aN,aY (vs (gt x4 (0:Int))),aY (vb false)] [2,6,148] [0,2] ⟨[(2,.pt 0 0),(6,.sl 2 0 x20.length),(148,vb false)],[(0,.box [.bs false 2 (List.map aa p1),vi p2]),(2,.arr 1 (List.map ay x20))]⟩ (pa g2 <| pa (⟨trivial,(congrArg (fun z:List Value=>AV.v (z.getD 0 undef)) (au (enc:=ab) rfl g2))⟩:(True∧(AV.v (((List.map ab x4).getD (0+(0:Int).toNat) []).getD 0 undef)=vs (gt x4 (0:Int))))) <| pa (pb (cb (ax (b:=(ByteArray.mk #[108,101,115,115])) (q24.trans b25) (by decide)))) <| trivial) trivial ?_
     refine AX.cond_false (by kernel_rfl) ?_
     refine AX.skip ?_
     refine AX.si [] [4] [] ⟨[(4,vs (ByteArray.mk #[119,104,97,116]))],[]⟩ trivial trivial ?_
     refine AX.ret ?_
     refine ae (Wk.fg [4] [] ⟨[(4,vs (ByteArray.mk #[119,104,97,116]))],[]⟩) ?_
     have hr:=Option.some.inj h
     subst hr
     exact ⟨_,Wk.refl _,.inr rfl,⟨[],by kernel_rfl,trivial,[vs (ByteArray.mk #[119,104,97,116])],by kernel_rfl,by kernel_rfl⟩⟩
   ·replace h:=aq b25 h
    refine AX.rh [aN,aN,aY (vs (gt x4 (0:Int))),aY (vb v21),aY (vb false)] [2,5,6,47] [0,1,2] ⟨[(2,.pt 0 0),(5,.sl 1 0 x4.length),(6,.sl 2 0 x20.length),(47,vb false)],[(0,.box [.bs false 2 (List.map aa p1),vi p2]),(1,.arr 1 (List.map ab x4)),(2,.arr 1 (List.map ay x20))]⟩ (pa g2 <| pa (⟨trivial,(congrArg (fun z:List Value=>AV.v (z.getD 0 undef)) (au (enc:=ab) rfl g2))⟩:(True∧(AV.v (((List.map ab x4).getD (0+(0:Int).toNat) []).getD 0 undef)=vs (gt x4 (0:Int))))) <| pa (pb (cb q24)) <| pa (pb (cb b25)) <| trivial) trivial ?_
    refine AX.cond_false (by kernel_rfl) ?_
    refine AX.seq ?_
    obtain ⟨v23,q29,h⟩:=bT h
    rcases ac (v23) with b30 | b30
    ·replace h:=am b30 h
     refine AX.rh [aN,aN,aY (vs (gt x4 (0:Int))),aY (vb v23),aY (vb true)] [2,5,6,61] [0,1,2] ⟨[(2,.pt 0 0),(5,.sl 1 0 x4.length),(6,.sl 2 0 x20.length),(61,vb (decide ((x20.length:Int)=1)))],[(0,.box [.bs false 2 (List.map aa p1),vi p2]),(1,.arr 1 (List.map ab x4)),(2,.arr 1 (List.map ay x20))]⟩ (pa g2 <| pa (⟨trivial,(congrArg (fun z:List Value=>AV.v (z.getD 0 undef)) (au (enc:=ab) rfl g2))⟩:(True∧(AV.v (((List.map ab x4).getD (0+(0:Int).toNat) []).getD 0 undef)=vs (gt x4 (0:Int))))) <| pa (pb (cb q29)) <| pa (pb (cb b30)) <| trivial) trivial ?_
     rcases ac (decide ((x20.length:Int)=1)) with b31 | b31
     ·replace h:=am b31 h
      refine AX.cT (decide ((x20.length:Int)=1)) b31 ?_
      refine AX.seq ?_
      obtain ⟨g32,h⟩:=aw h
      obtain ⟨x24,e33,h⟩:=ak h
      refine AX.dh mixed [aN,aN,aN,aY (vi (gt x20 (0:Int))),.call 42 [.agg [.bs false 2 (List.map aa p1),vi p2],vi (gt x20 (0:Int))] hN (ah [] [] (vs x24) [])] [4] [] ⟨[(4,vs x24)],[]⟩ (pa g32 <| pa (⟨trivial,(congrArg (fun z:List Value=>AV.v (z.getD 0 undef)) (au (enc:=ay) rfl g32))⟩:(True∧(AV.v (((List.map ay x20).getD (0+(0:Int).toNat) []).getD 0 undef)=vi (gt x20 (0:Int))))) <| pa (smA [.agg [.bs false 2 (List.map aa p1),vi p2],vi (gt x20 (0:Int))]) <| trivial) ⟨co (eM p1 p2 (gt x20 (0:Int)) x24 e33) (.cons (.c1 (.agg (.cons (.same _ (by kernel_rfl) (by kernel_rfl)) (.cons (.same _ (by kernel_rfl) (by kernel_rfl)) (.nil))))) (.cons cS (.nil))),trivial⟩ ?_
      refine AX.ret ?_
      refine ae (Wk.fg [4] [] ⟨[(4,vs x24)],[]⟩) ?_
      have hr:=Option.some.inj h
      subst hr
      exact ⟨_,Wk.refl _,.inr rfl,⟨[],by kernel_rfl,trivial,[vs x24],by kernel_rfl,by kernel_rfl⟩⟩
     ·replace h:=aq b31 h
      refine AX.cF (decide ((x20.length:Int)=1)) b31 ?_
      refine AX.si [aN,aN,aY (vs (gt x4 (0:Int))),aY (vb false)] [2,5,6,76] [0,1,2] ⟨[(2,.pt 0 0),(5,.sl 1 0 x4.length),(6,.sl 2 0 x20.length),(76,vb false)],[(0,.box [.bs false 2 (List.map aa p1),vi p2]),(1,.arr 1 (List.map ab x4)),(2,.arr 1 (List.map ay x20))]⟩ (pa g2 <| pa (⟨trivial,(congrArg (fun z:List Value=>AV.v (z.getD 0 undef)) (au (enc:=ab) rfl g2))⟩:(True∧(AV.v (((List.map ab x4).getD (0+(0:Int).toNat) []).getD 0 undef)=vs (gt x4 (0:Int))))) <| pa (pb (cb (ax (b:=(ByteArray.mk #[115,104,111,114,116])) (q29.trans b30) (by decide)))) <| trivial) trivial ?_
      refine AX.cond_false (by kernel_rfl) ?_
      refine AX.si [aN,aN,aY (vs (gt x4 (0:Int))),aY (vb false)] [2,5,6,91] [0,1,2] ⟨[(2,.pt 0 0),(5,.sl 1 0 x4.length),(6,.sl 2 0 x20.length),(91,vb false)],[(0,.box [.bs false 2 (List.map aa p1),vi p2]),(1,.arr 1 (List.map ab x4)),(2,.arr 1 (List.map ay x20))]⟩ (pa g2 <| pa (⟨trivial,(congrArg (fun z:List Value=>AV.v (z.getD 0 undef)) (au (enc:=ab) rfl g2))⟩:(True∧(AV.v (((List.map ab x4).getD (0+(0:Int).toNat) []).getD 0 undef)=vs (gt x4 (0:Int))))) <| pa (pb (cb (ax (b:=(ByteArray.mk #[110,111,116])) (q29.trans b30) (by decide)))) <| trivial) trivial ?_
      refine AX.cond_false (by kernel_rfl) ?_
      refine AX.si [aN,aN,aY (vs (gt x4 (0:Int))),aY (vb false)] [2,5,6,108] [0,1,2] ⟨[(2,.pt 0 0),(5,.sl 1 0 x4.length),(6,.sl 2 0 x20.length),(108,vb false)],[(0,.box [.bs false 2 (List.map aa p1),vi p2]),(1,.arr 1 (List.map ab x4)),(2,.arr 1 (List.map ay x20))]⟩ (pa g2 <| pa (⟨trivial,(congrArg (fun z:List Value=>AV.v (z.getD 0 undef)) (au (enc:=ab) rfl g2))⟩:(True∧(AV.v (((List.map ab x4).getD (0+(0:Int).toNat) []).getD 0 undef)=vs (gt x4 (0:Int))))) <| pa (pb (cb (ax (b:=(ByteArray.mk #[111,114])) (q29.trans b30) (by decide)))) <| trivial) trivial ?_
      refine AX.cond_false (by kernel_rfl) ?_
      refine AX.si [aN,aN,aY (vs (gt x4 (0:Int))),aY (vb false)] [2,5,6,128] [0,1,2] ⟨[(2,.pt 0 0),(5,.sl 1 0 x4.length),(6,.sl 2 0 x20.length),(128,vb false)],[(0,.box [.bs false 2 (List.map aa p1),vi p2]),(1,.arr 1 (List.map ab x4)),(2,.arr 1 (List.map ay x20))]⟩ (pa g2 <| pa (⟨trivial,(congrArg (fun z:List Value=>AV.v (z.getD 0 undef)) (au (enc:=ab) rfl g2))⟩:(True∧(AV.v (((List.map ab x4).getD (0+(0:Int).toNat) []).getD 0 undef)=vs (gt x4 (0:Int))))) <| pa (pb (cb (ax (b:=(ByteArray.mk #[97,110,100])) (q29.trans b30) (by decide)))) <| trivial) trivial ?_
      refine AX.cond_false (by kernel_rfl) ?_
      refine AX.si [aN,aN,aY (vs (gt x4 (0:Int))),aY (vb false)] [2,6,148] [0,2] ⟨[(2,.pt 0 0),(6,.sl 2 0 x20.length),(148,vb false)],[(0,.box [.bs false 2 (List.map aa p1),vi p2]),(2,.arr 1 (List.map ay x20))]⟩ (pa g2 <| pa (⟨trivial,(congrArg (fun z:List Value=>AV.v (z.getD 0 undef)) (au (enc:=ab) rfl g2))⟩:(True∧(AV.v (((List.map ab x4).getD (0+(0:Int).toNat) []).getD 0 undef)=vs (gt x4 (0:Int))))) <| pa (pb (cb (ax (b:=(ByteArray.mk #[108,101,115,115])) (q29.trans b30) (by decide)))) <| trivial) trivial ?_
      refine AX.cond_false (by kernel_rfl) ?_
      refine AX.skip ?_
      refine AX.si [] [4] [] ⟨[(4,vs (ByteArray.mk #[119,104,97,116]))],[]⟩ trivial trivial ?_
      refine AX.ret ?_
      refine ae (Wk.fg [4] [] ⟨[(4,vs (ByteArray.mk #[119,104,97,116]))],[]⟩) ?_
      have hr:=Option.some.inj h
      subst hr
      exact ⟨_,Wk.refl _,.inr rfl,⟨[],by kernel_rfl,trivial,[vs (ByteArray.mk #[119,104,97,116])],by kernel_rfl,by kernel_rfl⟩⟩
    ·replace h:=aq b30 h
     refine AX.rh [aN,aN,aY (vs (gt x4 (0:Int))),aY (vb v23),aY (vb false)] [2,5,6,61] [0,1,2] ⟨[(2,.pt 0 0),(5,.sl 1 0 x4.length),(6,.sl 2 0 x20.length),(61,vb false)],[(0,.box [.bs false 2 (List.map aa p1),vi p2]),(1,.arr 1 (List.map ab x4)),(2,.arr 1 (List.map ay x20))]⟩ (pa g2 <| pa (⟨trivial,(congrArg (fun z:List Value=>AV.v (z.getD 0 undef)) (au (enc:=ab) rfl g2))⟩:(True∧(AV.v (((List.map ab x4).getD (0+(0:Int).toNat) []).getD 0 undef)=vs (gt x4 (0:Int))))) <| pa (pb (cb q29)) <| pa (pb (cb b30)) <| trivial) trivial ?_
     refine AX.cond_false (by kernel_rfl) ?_
     refine AX.seq ?_
     obtain ⟨v25,q34,h⟩:=bT h
     rcases ac (v25) with b35 | b35
     ·replace h:=am b35 h
      refine AX.rh [aN,aN,aY (vs (gt x4 (0:Int))),aY (vb v25),aY (vb true)] [2,5,6,76] [0,1,2] ⟨[(2,.pt 0 0),(5,.sl 1 0 x4.length),(6,.sl 2 0 x20.length),(76,vb (decide ((x20.length:Int)=1)))],[(0,.box [.bs false 2 (List.map aa p1),vi p2]),(1,.arr 1 (List.map ab x4)),(2,.arr 1 (List.map ay x20))]⟩ (pa g2 <| pa (⟨trivial,(congrArg (fun z:List Value=>AV.v (z.getD 0 undef)) (au (enc:=ab) rfl g2))⟩:(True∧(AV.v (((List.map ab x4).getD (0+(0:Int).toNat) []).getD 0 undef)=vs (gt x4 (0:Int))))) <| pa (pb (cb q34)) <| pa (pb (cb b35)) <| trivial) trivial ?_
      rcases ac (decide ((x20.length:Int)=1)) with b36 | b36
      ·replace h:=am b36 h
       refine AX.cT (decide ((x20.length:Int)=1)) b36 ?_
       refine AX.seq ?_
       obtain ⟨g37,h⟩:=aw h
       obtain ⟨x26,e38,h⟩:=ak h
       refine AX.dh mixed [aN,aN,aN,aY (vi (gt x20 (0:Int))),.call 43 [.agg [.bs false 2 (List.map aa p1),vi p2],vi (gt x20 (0:Int))] hN (ah [] [] (vs x26) [])] [4] [] ⟨[(4,vs x26)],[]⟩ (pa g37 <| pa (⟨trivial,(congrArg (fun z:List Value=>AV.v (z.getD 0 undef)) (au (enc:=ay) rfl g37))⟩:(True∧(AV.v (((List.map ay x20).getD (0+(0:Int).toNat) []).getD 0 undef)=vi (gt x20 (0:Int))))) <| pa (smA [.agg [.bs false 2 (List.map aa p1),vi p2],vi (gt x20 (0:Int))]) <| trivial) ⟨co (rl p1 p2 (gt x20 (0:Int)) x26 e38) (.cons (.c1 (.agg (.cons (.same _ (by kernel_rfl) (by kernel_rfl)) (.cons (.same _ (by kernel_rfl) (by kernel_rfl)) (.nil))))) (.cons cS (.nil))),trivial⟩ ?_
       refine AX.ret ?_
       refine ae (Wk.fg [4] [] ⟨[(4,vs x26)],[]⟩) ?_
       have hr:=Option.some.inj h
       subst hr
       exact ⟨_,Wk.refl _,.inr rfl,⟨[],by kernel_rfl,trivial,[vs x26],by kernel_rfl,by kernel_rfl⟩⟩
      ·replace h:=aq b36 h
       refine AX.cF (decide ((x20.length:Int)=1)) b36 ?_
       refine AX.si [aN,aN,aY (vs (gt x4 (0:Int))),aY (vb false)] [2,5,6,91] [0,1,2] ⟨[(2,.pt 0 0),(5,.sl 1 0 x4.length),(6,.sl 2 0 x20.length),(91,vb false)],[(0,.box [.bs false 2 (List.map aa p1),vi p2]),(1,.arr 1 (List.map ab x4)),(2,.arr 1 (List.map ay x20))]⟩ (pa g2 <| pa (⟨trivial,(congrArg (fun z:List Value=>AV.v (z.getD 0 undef)) (au (enc:=ab) rfl g2))⟩:(True∧(AV.v (((List.map ab x4).getD (0+(0:Int).toNat) []).getD 0 undef)=vs (gt x4 (0:Int))))) <| pa (pb (cb (ax (b:=(ByteArray.mk #[110,111,116])) (q34.trans b35) (by decide)))) <| trivial) trivial ?_
       refine AX.cond_false (by kernel_rfl) ?_
       refine AX.si [aN,aN,aY (vs (gt x4 (0:Int))),aY (vb false)] [2,5,6,108] [0,1,2] ⟨[(2,.pt 0 0),(5,.sl 1 0 x4.length),(6,.sl 2 0 x20.length),(108,vb false)],[(0,.box [.bs false 2 (List.map aa p1),vi p2]),(1,.arr 1 (List.map ab x4)),(2,.arr 1 (List.map ay x20))]⟩ (pa g2 <| pa (⟨trivial,(congrArg (fun z:List Value=>AV.v (z.getD 0 undef)) (au (enc:=ab) rfl g2))⟩:(True∧(AV.v (((List.map ab x4).getD (0+(0:Int).toNat) []).getD 0 undef)=vs (gt x4 (0:Int))))) <| pa (pb (cb (ax (b:=(ByteArray.mk #[111,114])) (q34.trans b35) (by decide)))) <| trivial) trivial ?_
       refine AX.cond_false (by kernel_rfl) ?_
       refine AX.si [aN,aN,aY (vs (gt x4 (0:Int))),aY (vb false)] [2,5,6,128] [0,1,2] ⟨[(2,.pt 0 0),(5,.sl 1 0 x4.length),(6,.sl 2 0 x20.length),(128,vb false)],[(0,.box [.bs false 2 (List.map aa p1),vi p2]),(1,.arr 1 (List.map ab x4)),(2,.arr 1 (List.map ay x20))]⟩ (pa g2 <| pa (⟨trivial,(congrArg (fun z:List Value=>AV.v (z.getD 0 undef)) (au (enc:=ab) rfl g2))⟩:(True∧(AV.v (((List.map ab x4).getD (0+(0:Int).toNat) []).getD 0 undef)=vs (gt x4 (0:Int))))) <| pa (pb (cb (ax (b:=(ByteArray.mk #[97,110,100])) (q34.trans b35) (by decide)))) <| trivial) trivial ?_
       refine AX.cond_false (by kernel_rfl) ?_
       refine AX.si [aN,aN,aY (vs (gt x4 (0:Int))),aY (vb false)] [2,6,148] [0,2] ⟨[(2,.pt 0 0),(6,.sl 2 0 x20.length),(148,vb false)],[(0,.box [.bs false 2 (List.map aa p1),vi p2]),(2,.arr 1 (List.map ay x20))]⟩ (pa g2 <| pa (⟨trivial,(congrArg (fun z:List Value=>AV.v (z.getD 0 undef)) (au (enc:=ab) rfl g2))⟩:(True∧(AV.v (((List.map ab x4).getD (0+(0:Int).toNat) []).getD 0 undef)=vs (gt x4 (0:Int))))) <| pa (pb (cb (ax (b:=(ByteArray.mk #[108,101,115,115])) (q34.trans b35) (by decide)))) <| trivial) trivial ?_
       refine AX.cond_false (by kernel_rfl) ?_
       refine AX.skip ?_
       refine AX.si [] [4] [] ⟨[(4,vs (ByteArray.mk #[119,104,97,116]))],[]⟩ trivial trivial ?_
       refine AX.ret ?_
       refine ae (Wk.fg [4] [] ⟨[(4,vs (ByteArray.mk #[119,104,97,116]))],[]⟩) ?_
       have hr:=Option.some.inj h
       subst hr
       exact ⟨_,Wk.refl _,.inr rfl,⟨[],by kernel_rfl,trivial,[vs (ByteArray.mk #[119,104,97,116])],by kernel_rfl,by kernel_rfl⟩⟩
     ·replace h:=aq b35 h
      refine AX.rh [aN,aN,aY (vs (gt x4 (0:Int))),aY (vb v25),aY (vb false)] [2,5,6,76] [0,1,2] ⟨[(2,.pt 0 0),(5,.sl 1 0 x4.length),(6,.sl 2 0 x20.length),(76,vb false)],[(0,.box [.bs false 2 (List.map aa p1),vi p2]),(1,.arr 1 (List.map ab x4)),(2,.arr 1 (List.map ay x20))]⟩ (pa g2 <| pa (⟨trivial,(congrArg (fun z:List Value=>AV.v (z.getD 0 undef)) (au (enc:=ab) rfl g2))⟩:(True∧(AV.v (((List.map ab x4).getD (0+(0:Int).toNat) []).getD 0 undef)=vs (gt x4 (0:Int))))) <| pa (pb (cb q34)) <| pa (pb (cb b35)) <| trivial) trivial ?_
      refine AX.cond_false (by kernel_rfl) ?_
      refine AX.seq ?_
      rcases ac (decide ((gt x4 (0:Int))=(ByteArray.mk #[110,111,116]))) with b39 | b39
      ·replace h:=am b39 h
       refine AX.rh [aN,aN,aY (vs (gt x4 (0:Int))),aY (vb true)] [2,5,6,91] [0,1,2] ⟨[(2,.pt 0 0),(5,.sl 1 0 x4.length),(6,.sl 2 0 x20.length),(91,vb (decide ((x20.length:Int)=1)))],[(0,.box [.bs false 2 (List.map aa p1),vi p2]),(1,.arr 1 (List.map ab x4)),(2,.arr 1 (List.map ay x20))]⟩ (pa g2 <| pa (⟨trivial,(congrArg (fun z:List Value=>AV.v (z.getD 0 undef)) (au (enc:=ab) rfl g2))⟩:(True∧(AV.v (((List.map ab x4).getD (0+(0:Int).toNat) []).getD 0 undef)=vs (gt x4 (0:Int))))) <| pa (pb (cb b39)) <| trivial) trivial ?_
       rcases ac (decide ((x20.length:Int)=1)) with b40 | b40
       ·replace h:=am b40 h
        refine AX.cT (decide ((x20.length:Int)=1)) b40 ?_
        refine AX.seq ?_
        obtain ⟨g41,h⟩:=aw h
        obtain ⟨x27,e42,h⟩:=ak h
        obtain ⟨x28,e43,h⟩:=ak h
        refine AX.dh mixed [aN,aN,aN,aN,aY (vi (gt x20 (0:Int))),.call 44 [.agg [.bs false 2 (List.map aa p1),vi p2],vi (gt x20 (0:Int))] hN (ah [] [] (vi x27) []),.call 42 [.agg [.bs false 2 (List.map aa p1),vi p2],vi x27] hN (ah [] [] (vs x28) [])] [4] [] ⟨[(4,vs x28)],[]⟩ (pa g41 <| pa (⟨trivial,(congrArg (fun z:List Value=>AV.v (z.getD 0 undef)) (au (enc:=ay) rfl g41))⟩:(True∧(AV.v (((List.map ay x20).getD (0+(0:Int).toNat) []).getD 0 undef)=vi (gt x20 (0:Int))))) <| pa (smA [.agg [.bs false 2 (List.map aa p1),vi p2],vi (gt x20 (0:Int))]) <| pa (smA [.agg [.bs false 2 (List.map aa p1),vi p2],vi x27]) <| trivial) ⟨co (oM p1 p2 (gt x20 (0:Int)) x27 e42) (.cons (.c1 (.agg (.cons (.same _ (by kernel_rfl) (by kernel_rfl)) (.cons (.same _ (by kernel_rfl) (by kernel_rfl)) (.nil))))) (.cons cS (.nil))),co (eM p1 p2 x27 x28 e43) (.cons (.c1 (.agg (.cons (.same _ (by kernel_rfl) (by kernel_rfl)) (.cons (.same _ (by kernel_rfl) (by kernel_rfl)) (.nil))))) (.cons cS (.nil))),trivial⟩ ?_
        refine AX.ret ?_
        refine ae (Wk.fg [4] [] ⟨[(4,vs x28)],[]⟩) ?_
        have hr:=Option.some.inj h
        subst hr
        exact ⟨_,Wk.refl _,.inr rfl,⟨[],by kernel_rfl,trivial,[vs x28],by kernel_rfl,by kernel_rfl⟩⟩
       ·replace h:=aq b40 h
        refine AX.cF (decide ((x20.length:Int)=1)) b40 ?_
        refine AX.si [aN,aN,aY (vs (gt x4 (0:Int))),aY (vb false)] [2,5,6,108] [0,1,2] ⟨[(2,.pt 0 0),(5,.sl 1 0 x4.length),(6,.sl 2 0 x20.length),(108,vb false)],[(0,.box [.bs false 2 (List.map aa p1),vi p2]),(1,.arr 1 (List.map ab x4)),(2,.arr 1 (List.map ay x20))]⟩ (pa g2 <| pa (⟨trivial,(congrArg (fun z:List Value=>AV.v (z.getD 0 undef)) (au (enc:=ab) rfl g2))⟩:(True∧(AV.v (((List.map ab x4).getD (0+(0:Int).toNat) []).getD 0 undef)=vs (gt x4 (0:Int))))) <| pa (pb (cb (ax (b:=(ByteArray.mk #[111,114])) b39 (by decide)))) <| trivial) trivial ?_
        refine AX.cond_false (by kernel_rfl) ?_
        refine AX.si [aN,aN,aY (vs (gt x4 (0:Int))),aY (vb false)] [2,5,6,128] [0,1,2] ⟨[(2,.pt 0 0),(5,.sl 1 0 x4.length),(6,.sl 2 0 x20.length),(128,vb false)],[(0,.box [.bs false 2 (List.map aa p1),vi p2]),(1,.arr 1 (List.map ab x4)),(2,.arr 1 (List.map ay x20))]⟩ (pa g2 <| pa (⟨trivial,(congrArg (fun z:List Value=>AV.v (z.getD 0 undef)) (au (enc:=ab) rfl g2))⟩:(True∧(AV.v (((List.map ab x4).getD (0+(0:Int).toNat) []).getD 0 undef)=vs (gt x4 (0:Int))))) <| pa (pb (cb (ax (b:=(ByteArray.mk #[97,110,100])) b39 (by decide)))) <| trivial) trivial ?_
        refine AX.cond_false (by kernel_rfl) ?_
        refine AX.si [aN,aN,aY (vs (gt x4 (0:Int))),aY (vb false)] [2,6,148] [0,2] ⟨[(2,.pt 0 0),(6,.sl 2 0 x20.length),(148,vb false)],[(0,.box [.bs false 2 (List.map aa p1),vi p2]),(2,.arr 1 (List.map ay x20))]⟩ (pa g2 <| pa (⟨trivial,(congrArg (fun z:List Value=>AV.v (z.getD 0 undef)) (au (enc:=ab) rfl g2))⟩:(True∧(AV.v (((List.map ab x4).getD (0+(0:Int).toNat) []).getD 0 undef)=vs (gt x4 (0:Int))))) <| pa (pb (cb (ax (b:=(ByteArray.mk #[108,101,115,115])) b39 (by decide)))) <| trivial) trivial ?_
        refine AX.cond_false (by kernel_rfl) ?_
        refine AX.skip ?_
        refine AX.si [] [4] [] ⟨[(4,vs (ByteArray.mk #[119,104,97,116]))],[]⟩ trivial trivial ?_
        refine AX.ret ?_
        refine ae (Wk.fg [4] [] ⟨[(4,vs (ByteArray.mk #[119,104,97,116]))],[]⟩) ?_
        have hr:=Option.some.inj h
        subst hr
        exact ⟨_,Wk.refl _,.inr rfl,⟨[],by kernel_rfl,trivial,[vs (ByteArray.mk #[119,104,97,116])],by kernel_rfl,by kernel_rfl⟩⟩
      ·replace h:=aq b39 h
       refine AX.rh [aN,aN,aY (vs (gt x4 (0:Int))),aY (vb false)] [2,5,6,91] [0,1,2] ⟨[(2,.pt 0 0),(5,.sl 1 0 x4.length),(6,.sl 2 0 x20.length),(91,vb false)],[(0,.box [.bs false 2 (List.map aa p1),vi p2]),(1,.arr 1 (List.map ab x4)),(2,.arr 1 (List.map ay x20))]⟩ (pa g2 <| pa (⟨trivial,(congrArg (fun z:List Value=>AV.v (z.getD 0 undef)) (au (enc:=ab) rfl g2))⟩:(True∧(AV.v (((List.map ab x4).getD (0+(0:Int).toNat) []).getD 0 undef)=vs (gt x4 (0:Int))))) <| pa (pb (cb b39)) <| trivial) trivial ?_
       refine AX.cond_false (by kernel_rfl) ?_
       refine AX.seq ?_
       rcases ac (decide ((gt x4 (0:Int))=(ByteArray.mk #[111,114]))) with b44 | b44
       ·replace h:=am b44 h
        refine AX.rh [aN,aN,aY (vs (gt x4 (0:Int))),aY (vb true)] [2,5,6,108] [0,1,2] ⟨[(2,.pt 0 0),(5,.sl 1 0 x4.length),(6,.sl 2 0 x20.length),(108,vb (decide ((x20.length:Int)=2)))],[(0,.box [.bs false 2 (List.map aa p1),vi p2]),(1,.arr 1 (List.map ab x4)),(2,.arr 1 (List.map ay x20))]⟩ (pa g2 <| pa (⟨trivial,(congrArg (fun z:List Value=>AV.v (z.getD 0 undef)) (au (enc:=ab) rfl g2))⟩:(True∧(AV.v (((List.map ab x4).getD (0+(0:Int).toNat) []).getD 0 undef)=vs (gt x4 (0:Int))))) <| pa (pb (cb b44)) <| trivial) trivial ?_
        rcases ac (decide ((x20.length:Int)=2)) with b45 | b45
        ·replace h:=am b45 h
         refine AX.cT (decide ((x20.length:Int)=2)) b45 ?_
         refine AX.seq ?_
         obtain ⟨g46,h⟩:=aw h
         obtain ⟨g47,h⟩:=aw h
         obtain ⟨x29,e48,h⟩:=ak h
         obtain ⟨x30,e49,h⟩:=ak h
         refine AX.dh mixed [aN,aN,aN,aN,aY (vi (gt x20 (0:Int))),aN,aN,aY (vi (gt x20 (1:Int))),.call 45 [.agg [.bs false 2 (List.map aa p1),vi p2],vi (gt x20 (0:Int)),vi (gt x20 (1:Int))] hN (ah [] [] (vi x29) []),.call 42 [.agg [.bs false 2 (List.map aa p1),vi p2],vi x29] hN (ah [] [] (vs x30) [])] [4] [] ⟨[(4,vs x30)],[]⟩ (pa g46 <| pa (⟨trivial,(congrArg (fun z:List Value=>AV.v (z.getD 0 undef)) (au (enc:=ay) rfl g46))⟩:(True∧(AV.v (((List.map ay x20).getD (0+(0:Int).toNat) []).getD 0 undef)=vi (gt x20 (0:Int))))) <| pa g47 <| pa (⟨trivial,(congrArg (fun z:List Value=>AV.v (z.getD 0 undef)) (au (enc:=ay) rfl g47))⟩:(True∧(AV.v (((List.map ay x20).getD (0+(1:Int).toNat) []).getD 0 undef)=vi (gt x20 (1:Int))))) <| pa (smA [.agg [.bs false 2 (List.map aa p1),vi p2],vi (gt x20 (0:Int)),vi (gt x20 (1:Int))]) <| pa (smA [.agg [.bs false 2 (List.map aa p1),vi p2],vi x29]) <| trivial) ⟨co (sC p1 p2 (gt x20 (0:Int)) (gt x20 (1:Int)) x29 e48) (.cons (.c1 (.agg (.cons (.same _ (by kernel_rfl) (by kernel_rfl)) (.cons (.same _ (by kernel_rfl) (by kernel_rfl)) (.nil))))) (.cons cS (.cons cS (.nil)))),co (eM p1 p2 x29 x30 e49) (.cons (.c1 (.agg (.cons (.same _ (by kernel_rfl) (by kernel_rfl)) (.cons (.same _ (by kernel_rfl) (by kernel_rfl)) (.nil))))) (.cons cS (.nil))),trivial⟩ ?_
         refine AX.ret ?_
         refine ae (Wk.fg [4] [] ⟨[(4,vs x30)],[]⟩) ?_
         have hr:=Option.some.inj h
         subst hr
         exact ⟨_,Wk.refl _,.inr rfl,⟨[],by kernel_rfl,trivial,[vs x30],by kernel_rfl,by kernel_rfl⟩⟩
        ·replace h:=aq b45 h
         refine AX.cF (decide ((x20.length:Int)=2)) b45 ?_
         refine AX.si [aN,aN,aY (vs (gt x4 (0:Int))),aY (vb false)] [2,5,6,128] [0,1,2] ⟨[(2,.pt 0 0),(5,.sl 1 0 x4.length),(6,.sl 2 0 x20.length),(128,vb false)],[(0,.box [.bs false 2 (List.map aa p1),vi p2]),(1,.arr 1 (List.map ab x4)),(2,.arr 1 (List.map ay x20))]⟩ (pa g2 <| pa (⟨trivial,(congrArg (fun z:List Value=>AV.v (z.getD 0 undef)) (au (enc:=ab) rfl g2))⟩:(True∧(AV.v (((List.map ab x4).getD (0+(0:Int).toNat) []).getD 0 undef)=vs (gt x4 (0:Int))))) <| pa (pb (cb (ax (b:=(ByteArray.mk #[97,110,100])) b44 (by decide)))) <| trivial) trivial ?_
         refine AX.cond_false (by kernel_rfl) ?_
         refine AX.si [aN,aN,aY (vs (gt x4 (0:Int))),aY (vb false)] [2,6,148] [0,2] ⟨[(2,.pt 0 0),(6,.sl 2 0 x20.length),(148,vb false)],[(0,.box [.bs false 2 (List.map aa p1),vi p2]),(2,.arr 1 (List.map ay x20))]⟩ (pa g2 <| pa (⟨trivial,(congrArg (fun z:List Value=>AV.v (z.getD 0 undef)) (au (enc:=ab) rfl g2))⟩:(True∧(AV.v (((List.map ab x4).getD (0+(0:Int).toNat) []).getD 0 undef)=vs (gt x4 (0:Int))))) <| pa (pb (cb (ax (b:=(ByteArray.mk #[108,101,115,115])) b44 (by decide)))) <| trivial) trivial ?_
         refine AX.cond_false (by kernel_rfl) ?_
         refine AX.skip ?_
         refine AX.si [] [4] [] ⟨[(4,vs (ByteArray.mk #[119,104,97,116]))],[]⟩ trivial trivial ?_
         refine AX.ret ?_
         refine ae (Wk.fg [4] [] ⟨[(4,vs (ByteArray.mk #[119,104,97,116]))],[]⟩) ?_
         have hr:=Option.some.inj h
         subst hr
         exact ⟨_,Wk.refl _,.inr rfl,⟨[],by kernel_rfl,trivial,[vs (ByteArray.mk #[119,104,97,116])],by kernel_rfl,by kernel_rfl⟩⟩
       ·replace h:=aq b44 h
        refine AX.rh [aN,aN,aY (vs (gt x4 (0:Int))),aY (vb false)] [2,5,6,108] [0,1,2] ⟨[(2,.pt 0 0),(5,.sl 1 0 x4.length),(6,.sl 2 0 x20.length),(108,vb false)],[(0,.box [.bs false 2 (List.map aa p1),vi p2]),(1,.arr 1 (List.map ab x4)),(2,.arr 1 (List.map ay x20))]⟩ (pa g2 <| pa (⟨trivial,(congrArg (fun z:List Value=>AV.v (z.getD 0 undef)) (au (enc:=ab) rfl g2))⟩:(True∧(AV.v (((List.map ab x4).getD (0+(0:Int).toNat) []).getD 0 undef)=vs (gt x4 (0:Int))))) <| pa (pb (cb b44)) <| trivial) trivial ?_
        refine AX.cond_false (by kernel_rfl) ?_
        refine AX.seq ?_
        rcases ac (decide ((gt x4 (0:Int))=(ByteArray.mk #[97,110,100]))) with b50 | b50
        ·replace h:=am b50 h
         refine AX.rh [aN,aN,aY (vs (gt x4 (0:Int))),aY (vb true)] [2,5,6,128] [0,1,2] ⟨[(2,.pt 0 0),(5,.sl 1 0 x4.length),(6,.sl 2 0 x20.length),(128,vb (decide ((x20.length:Int)=2)))],[(0,.box [.bs false 2 (List.map aa p1),vi p2]),(1,.arr 1 (List.map ab x4)),(2,.arr 1 (List.map ay x20))]⟩ (pa g2 <| pa (⟨trivial,(congrArg (fun z:List Value=>AV.v (z.getD 0 undef)) (au (enc:=ab) rfl g2))⟩:(True∧(AV.v (((List.map ab x4).getD (0+(0:Int).toNat) []).getD 0 undef)=vs (gt x4 (0:Int))))) <| pa (pb (cb b50)) <| trivial) trivial ?_
         rcases ac (decide ((x20.length:Int)=2)) with b51 | b51
         ·replace h:=am b51 h
          refine AX.cT (decide ((x20.length:Int)=2)) b51 ?_
          refine AX.seq ?_
          obtain ⟨g52,h⟩:=aw h
          obtain ⟨g53,h⟩:=aw h
          obtain ⟨x31,e54,h⟩:=ak h
          obtain ⟨x32,e55,h⟩:=ak h
          refine AX.dh mixed [aN,aN,aN,aN,aY (vi (gt x20 (0:Int))),aN,aN,aY (vi (gt x20 (1:Int))),.call 46 [.agg [.bs false 2 (List.map aa p1),vi p2],vi (gt x20 (0:Int)),vi (gt x20 (1:Int))] hN (ah [] [] (vi x31) []),.call 42 [.agg [.bs false 2 (List.map aa p1),vi p2],vi x31] hN (ah [] [] (vs x32) [])] [4] [] ⟨[(4,vs x32)],[]⟩ (pa g52 <| pa (⟨trivial,(congrArg (fun z:List Value=>AV.v (z.getD 0 undef)) (au (enc:=ay) rfl g52))⟩:(True∧(AV.v (((List.map ay x20).getD (0+(0:Int).toNat) []).getD 0 undef)=vi (gt x20 (0:Int))))) <| pa g53 <| pa (⟨trivial,(congrArg (fun z:List Value=>AV.v (z.getD 0 undef)) (au (enc:=ay) rfl g53))⟩:(True∧(AV.v (((List.map ay x20).getD (0+(1:Int).toNat) []).getD 0 undef)=vi (gt x20 (1:Int))))) <| pa (smA [.agg [.bs false 2 (List.map aa p1),vi p2],vi (gt x20 (0:Int)),vi (gt x20 (1:Int))]) <| pa (smA [.agg [.bs false 2 (List.map aa p1),vi p2],vi x31]) <| trivial) ⟨co (qV p1 p2 (gt x20 (0:Int)) (gt x20 (1:Int)) x31 e54) (.cons (.c1 (.agg (.cons (.same _ (by kernel_rfl) (by kernel_rfl)) (.cons (.same _ (by kernel_rfl) (by kernel_rfl)) (.nil))))) (.cons cS (.cons cS (.nil)))),co (eM p1 p2 x31 x32 e55) (.cons (.c1 (.agg (.cons (.same _ (by kernel_rfl) (by kernel_rfl)) (.cons (.same _ (by kernel_rfl) (by kernel_rfl)) (.nil))))) (.cons cS (.nil))),trivial⟩ ?_
          refine AX.ret ?_
          refine ae (Wk.fg [4] [] ⟨[(4,vs x32)],[]⟩) ?_
          have hr:=Option.some.inj h
          subst hr
          exact ⟨_,Wk.refl _,.inr rfl,⟨[],by kernel_rfl,trivial,[vs x32],by kernel_rfl,by kernel_rfl⟩⟩
         ·replace h:=aq b51 h
          refine AX.cF (decide ((x20.length:Int)=2)) b51 ?_
          refine AX.si [aN,aN,aY (vs (gt x4 (0:Int))),aY (vb false)] [2,6,148] [0,2] ⟨[(2,.pt 0 0),(6,.sl 2 0 x20.length),(148,vb false)],[(0,.box [.bs false 2 (List.map aa p1),vi p2]),(2,.arr 1 (List.map ay x20))]⟩ (pa g2 <| pa (⟨trivial,(congrArg (fun z:List Value=>AV.v (z.getD 0 undef)) (au (enc:=ab) rfl g2))⟩:(True∧(AV.v (((List.map ab x4).getD (0+(0:Int).toNat) []).getD 0 undef)=vs (gt x4 (0:Int))))) <| pa (pb (cb (ax (b:=(ByteArray.mk #[108,101,115,115])) b50 (by decide)))) <| trivial) trivial ?_
          refine AX.cond_false (by kernel_rfl) ?_
          refine AX.skip ?_
          refine AX.si [] [4] [] ⟨[(4,vs (ByteArray.mk #[119,104,97,116]))],[]⟩ trivial trivial ?_
          refine AX.ret ?_
          refine ae (Wk.fg [4] [] ⟨[(4,vs (ByteArray.mk #[119,104,97,116]))],[]⟩) ?_
          have hr:=Option.some.inj h
          subst hr
          exact ⟨_,Wk.refl _,.inr rfl,⟨[],by kernel_rfl,trivial,[vs (ByteArray.mk #[119,104,97,116])],by kernel_rfl,by kernel_rfl⟩⟩
        ·replace h:=aq b50 h
         refine AX.rh [aN,aN,aY (vs (gt x4 (0:Int))),aY (vb false)] [2,5,6,128] [0,1,2] ⟨[(2,.pt 0 0),(5,.sl 1 0 x4.length),(6,.sl 2 0 x20.length),(128,vb false)],[(0,.box [.bs false 2 (List.map aa p1),vi p2]),(1,.arr 1 (List.map ab x4)),(2,.arr 1 (List.map ay x20))]⟩ (pa g2 <| pa (⟨trivial,(congrArg (fun z:List Value=>AV.v (z.getD 0 undef)) (au (enc:=ab) rfl g2))⟩:(True∧(AV.v (((List.map ab x4).getD (0+(0:Int).toNat) []).getD 0 undef)=vs (gt x4 (0:Int))))) <| pa (pb (cb b50)) <| trivial) trivial ?_
         refine AX.cond_false (by kernel_rfl) ?_
         refine AX.seq ?_
         obtain ⟨v33,q56,h⟩:=bT h
         rcases ac (v33) with b57 | b57
         ·replace h:=am b57 h
          refine AX.rh [aN,aN,aY (vs (gt x4 (0:Int))),aY (vb v33),aY (vb true)] [2,6,148] [0,2] ⟨[(2,.pt 0 0),(6,.sl 2 0 x20.length),(148,vb (decide ((x20.length:Int)=2)))],[(0,.box [.bs false 2 (List.map aa p1),vi p2]),(2,.arr 1 (List.map ay x20))]⟩ (pa g2 <| pa (⟨trivial,(congrArg (fun z:List Value=>AV.v (z.getD 0 undef)) (au (enc:=ab) rfl g2))⟩:(True∧(AV.v (((List.map ab x4).getD (0+(0:Int).toNat) []).getD 0 undef)=vs (gt x4 (0:Int))))) <| pa (pb (cb q56)) <| pa (pb (cb b57)) <| trivial) trivial ?_
          rcases ac (decide ((x20.length:Int)=2)) with b58 | b58
          ·replace h:=am b58 h
           refine AX.cT (decide ((x20.length:Int)=2)) b58 ?_
           refine AX.seq ?_
           obtain ⟨g59,h⟩:=aw h
           obtain ⟨g60,h⟩:=aw h
           obtain ⟨x34,e61,h⟩:=ak h
           obtain ⟨x35,e62,h⟩:=ak h
           refine AX.dh mixed [aN,aN,aN,aN,aY (vi (gt x20 (0:Int))),aN,aN,aY (vi (gt x20 (1:Int))),.call 47 [.agg [.bs false 2 (List.map aa p1),vi p2],vi (gt x20 (0:Int)),vi (gt x20 (1:Int))] hN (ah [] [] (vi x34) []),.call 42 [.agg [.bs false 2 (List.map aa p1),vi p2],vi x34] hN (ah [] [] (vs x35) [])] [4] [] ⟨[(4,vs x35)],[]⟩ (pa g59 <| pa (⟨trivial,(congrArg (fun z:List Value=>AV.v (z.getD 0 undef)) (au (enc:=ay) rfl g59))⟩:(True∧(AV.v (((List.map ay x20).getD (0+(0:Int).toNat) []).getD 0 undef)=vi (gt x20 (0:Int))))) <| pa g60 <| pa (⟨trivial,(congrArg (fun z:List Value=>AV.v (z.getD 0 undef)) (au (enc:=ay) rfl g60))⟩:(True∧(AV.v (((List.map ay x20).getD (0+(1:Int).toNat) []).getD 0 undef)=vi (gt x20 (1:Int))))) <| pa (smA [.agg [.bs false 2 (List.map aa p1),vi p2],vi (gt x20 (0:Int)),vi (gt x20 (1:Int))]) <| pa (smA [.agg [.bs false 2 (List.map aa p1),vi p2],vi x34]) <| trivial) ⟨co (qu p1 p2 (gt x20 (0:Int)) (gt x20 (1:Int)) x34 e61) (.cons (.c1 (.agg (.cons (.same _ (by kernel_rfl) (by kernel_rfl)) (.cons (.same _ (by kernel_rfl) (by kernel_rfl)) (.nil))))) (.cons cS (.cons cS (.nil)))),co (eM p1 p2 x34 x35 e62) (.cons (.c1 (.agg (.cons (.same _ (by kernel_rfl) (by kernel_rfl)) (.cons (.same _ (by kernel_rfl) (by kernel_rfl)) (.nil))))) (.cons cS (.nil))),trivial⟩ ?_
           refine AX.ret ?_
           refine ae (Wk.fg [4] [] ⟨[(4,vs x35)],[]⟩) ?_
           have hr:=Option.some.inj h
           subst hr
           exact ⟨_,Wk.refl _,.inr rfl,⟨[],by kernel_rfl,trivial,[vs x35],by kernel_rfl,by kernel_rfl⟩⟩
          ·replace h:=aq b58 h
           refine AX.cF (decide ((x20.length:Int)=2)) b58 ?_
           refine AX.skip ?_
           refine AX.si [] [4] [] ⟨[(4,vs (ByteArray.mk #[119,104,97,116]))],[]⟩ trivial trivial ?_
           refine AX.ret ?_
           refine ae (Wk.fg [4] [] ⟨[(4,vs (ByteArray.mk #[119,104,97,116]))],[]⟩) ?_
           have hr:=Option.some.inj h
           subst hr
           exact ⟨_,Wk.refl _,.inr rfl,⟨[],by kernel_rfl,trivial,[vs (ByteArray.mk #[119,104,97,116])],by kernel_rfl,by kernel_rfl⟩⟩
         ·replace h:=aq b57 h
          refine AX.rh [aN,aN,aY (vs (gt x4 (0:Int))),aY (vb v33),aY (vb false)] [2,6,148] [0,2] ⟨[(2,.pt 0 0),(6,.sl 2 0 x20.length),(148,vb false)],[(0,.box [.bs false 2 (List.map aa p1),vi p2]),(2,.arr 1 (List.map ay x20))]⟩ (pa g2 <| pa (⟨trivial,(congrArg (fun z:List Value=>AV.v (z.getD 0 undef)) (au (enc:=ab) rfl g2))⟩:(True∧(AV.v (((List.map ab x4).getD (0+(0:Int).toNat) []).getD 0 undef)=vs (gt x4 (0:Int))))) <| pa (pb (cb q56)) <| pa (pb (cb b57)) <| trivial) trivial ?_
          refine AX.cond_false (by kernel_rfl) ?_
          refine AX.skip ?_
          refine AX.si [] [4] [] ⟨[(4,vs (ByteArray.mk #[119,104,97,116]))],[]⟩ trivial trivial ?_
          refine AX.ret ?_
          refine ae (Wk.fg [4] [] ⟨[(4,vs (ByteArray.mk #[119,104,97,116]))],[]⟩) ?_
          have hr:=Option.some.inj h
          subst hr
          exact ⟨_,Wk.refl _,.inr rfl,⟨[],by kernel_rfl,trivial,[vs (ByteArray.mk #[119,104,97,116])],by kernel_rfl,by kernel_rfl⟩⟩

theorem tY (p1:ByteArray) (p2:List ByteArray) (r:ByteArray) (h:gN p1 p2=some r) :
  Eng.al Tryz.prog 6 [vs p1,.bs false 1 (List.map ab p2)] [] (vs r) []:=by
 unfold gN at h
 refine jU (r:=.string r) ⟨_,Tryz.func6,by kernel_rfl,by kernel_rfl⟩ (fun X m sh=>by simp only [VR]) ?_
 intro X m vs hv
 obtain ⟨v,rfl,hvr⟩:∃ v,vs=[.string p1,v]∧VR X m (shL []) (.bs false 1 (List.map ab p2)) v:=by
  unfold VRs at hv
  obtain ⟨u,t,rfl,h1,h2⟩:=hv
  simp only [VR] at h1
  subst h1
  unfold VRs at h2
  obtain ⟨v,t,rfl,h3,h4⟩:=h2
  unfold VRs at h4
  subst h4
  exact ⟨v,rfl,h3⟩
 obtain ⟨a,c,rfl,hc⟩:=zw (xs:=p2) hvr
 have hStr:=fun B b t w1 (h1:Lib.IsBuilder 49 5 B b (Lib.byteCells t) w1) h2=>Tryz.Builder_String_any B b t w1 h1 h2
 by_cases h20:20<(p2.length:Int)
 ·rw [decide_eq_true h20,cond_true] at h
  cases h
  exact Tryz.run_desk_long p1 p2.length a c X.w0 (by omega)
 ·rw [decide_eq_false h20,cond_false] at h
  obtain ⟨x3,e3,h⟩:=ak h
  obtain ⟨x4,e4,h⟩:=ak h
  cases h
  obtain ⟨o1,rfl⟩:=qD _ _ _ _ e4
  refine Tryz.run_desk p1 p2 a c X.w0 x3.1.length x3.2.1 x3.2.2 _ hc (by omega) (fun hk x hx=>(o1 hk x hx).2) ?_ hStr
  haveI:=zm (X:=X) (RowKit.Below.refl _ _)
  refine (xK (rp p1 x3 e3) (List.length_map ..) X.w0).mono ?_
  rintro e w1 ⟨a1,cap,rfl,hb,hr⟩
  refine ⟨a1,cap,rfl,hb,fun w2 hb2 hk x hx=>?_⟩
  haveI:=zm (X:=X) (hb.trans (hb2.mono hb.size))
  exact yZ (sH x3.1 x3.2.1 x _ (o1 hk x hx).1) w2 (hr w2 hb2)

theorem oI (p1:List ByteArray) (p2:List ByteArray) (n:Nat) (g:Int) (out:Unit ⊕ Unit) (h:cw p1 p2 n g=some out) :
  AX Tryz.prog 26 0 (codeAt [1,1,0,1,1] (aU Tryz.f11)) ((fun g:Int=>(⟨[(0,.bs false 1 (List.map ab p1)),(1,.bs false 1 (List.map ab p2)),(5,vi g)],[]⟩:S)) g) (fun ex s=>(∃ o:Unit,out=Sum.inl o∧ex=.ret∧s=⟨[(4,vb false)],[]⟩)∨(∃ o:Unit,out=Sum.inr o∧ex=.exit 0∧s=⟨[],[]⟩)):=by
 refine AX.wkpost ?_
 refine AX.loop (G:=Nat×(Int)) (fun q=>(fun g:Int=>(⟨[(0,.bs false 1 (List.map ab p1)),(1,.bs false 1 (List.map ab p2)),(5,vi g)],[]⟩:S)) q.2) (fun q=>cw p1 p2 q.1 q.2=some out) (fun q=>q.1) (n,g) h (Wk.refl _) ?_
 clear h
 rintro ⟨fu,v3⟩ h
 cases fu with
 | zero=>cases h
 | succ fu =>
  rw [cw] at h
  refine AX.seq ?_
  refine AX.si [aN,aN,aY (vi (p1.length:Int))] [0,1,5,14] [] ⟨[(0,.bs false 1 (List.map ab p1)),(1,.bs false 1 (List.map ab p2)),(5,vi v3),(14,vb (decide (v3<(p1.length:Int))))],[]⟩ (pa (⟨trivial,aS ab p1⟩:(True∧(vi ((List.map ab p1).length:Int)=vi (p1.length:Int)))) <| trivial) trivial ?_
  rcases ac (decide (v3<(p1.length:Int))) with b2 | b2
  ·replace h:=am b2 h
   refine AX.cT (decide (v3<(p1.length:Int))) b2 ?_
   refine AX.skip ?_
   refine AX.seq ?_
   refine AX.block ?_
   refine AX.seq ?_
   obtain ⟨g3,h⟩:=aw h
   obtain ⟨g4,h⟩:=aw h
   refine AX.dh mixed [aN,aN,aY (.be 1 (ab (gt p1 v3)) 0),aN,aN,aN,aY (.be 1 (ab (gt p2 v3)) 0)] [0,1,5,25] [] ⟨[(0,.bs false 1 (List.map ab p1)),(1,.bs false 1 (List.map ab p2)),(5,vi v3),(25,vb (!decide ((gt p1 v3)=(gt p2 v3))))],[]⟩ (pa (aJ ab p1 v3 1 g3) <| pa (aJ ab p2 v3 1 g4) <| trivial) trivial ?_
   rcases ac ((!decide ((gt p1 v3)=(gt p2 v3)))) with b5 | b5
   ·replace h:=am b5 h
    refine AX.cT ((!decide ((gt p1 v3)=(gt p2 v3)))) b5 ?_
    refine AX.si [] [4] [] ⟨[(4,vb false)],[]⟩ trivial trivial ?_
    refine AX.ret ?_
    refine ae (Wk.fg [4] [] ⟨[(4,vb false)],[]⟩) ?_
    have hr:=Option.some.inj h
    subst hr
    exact ⟨_,Wk.refl _,.inl ⟨(),rfl,rfl,rfl⟩⟩
   ·replace h:=aq b5 h
    refine AX.cF ((!decide ((gt p1 v3)=(gt p2 v3)))) b5 ?_
    refine AX.skip ?_
    refine AX.rh [aN,.auto { raw:=true }] [0,1,5] [] ⟨[(0,.bs false 1 (List.map ab p1)),(1,.bs false 1 (List.map ab p2)),(5,vi (IntKind.wrap .i64 (v3+1)))],[]⟩ trivial trivial ?_
    refine ⟨(fu,IntKind.wrap .i64 (v3+1)),h,Nat.lt_succ_self _,?_⟩
    refine Wk.trans (Wk.fg [0,1,5] [] ⟨[(0,.bs false 1 (List.map ab p1)),(1,.bs false 1 (List.map ab p2)),(5,vi (IntKind.wrap .i64 (v3+1)))],[]⟩) ?_
    exact Wk.refl _
  ·replace h:=aq b2 h
   refine AX.cF (decide (v3<(p1.length:Int))) b2 ?_
   refine AX.exit ?_
   refine ae (Wk.fg [] [] ⟨[],[]⟩) ?_
   have hr:=Option.some.inj h
   subst hr
   exact ⟨_,Wk.refl _,.inr ⟨(),rfl,rfl,rfl⟩⟩

theorem rQ (p1:List ByteArray) (p2:List ByteArray) (r:Bool) (h:eQ p1 p2=some r) :
  Eng.al Tryz.prog 11 [.bs false 1 (List.map ab p1),.bs false 1 (List.map ab p2)] [] (vb r) []:=by
 unfold eQ at h
 refine Eng.al.body Tryz.func11 (by kernel_rfl) rfl (by kernel_rfl) ?_
 refine AX.wkpost ?_
 refine AX.si [] [0,1] [] ⟨[(0,.bs false 1 (List.map ab p1)),(1,.bs false 1 (List.map ab p2))],[]⟩ trivial trivial ?_
 refine AX.seq ?_
 refine AX.si [aN,aY (vi (p1.length:Int)),aN,aY (vi (p2.length:Int))] [0,1,10] [] ⟨[(0,.bs false 1 (List.map ab p1)),(1,.bs false 1 (List.map ab p2)),(10,vb (!decide ((p1.length:Int)=(p2.length:Int))))],[]⟩ (pa (⟨trivial,aS ab p1⟩:(True∧(vi ((List.map ab p1).length:Int)=vi (p1.length:Int)))) <| pa (⟨trivial,aS ab p2⟩:(True∧(vi ((List.map ab p2).length:Int)=vi (p2.length:Int)))) <| trivial) trivial ?_
 rcases ac ((!decide ((p1.length:Int)=(p2.length:Int)))) with b1 | b1
 ·replace h:=am b1 h
  refine AX.cT ((!decide ((p1.length:Int)=(p2.length:Int)))) b1 ?_
  refine AX.si [] [4] [] ⟨[(4,vb false)],[]⟩ trivial trivial ?_
  refine AX.ret ?_
  refine ae (Wk.fg [4] [] ⟨[(4,vb false)],[]⟩) ?_
  have hr:=Option.some.inj h
  subst hr
  exact ⟨_,Wk.refl _,.inr rfl,⟨[],by kernel_rfl,trivial,[vb false],by kernel_rfl,by kernel_rfl⟩⟩
 ·replace h:=aq b1 h
  refine AX.cF ((!decide ((p1.length:Int)=(p2.length:Int)))) b1 ?_
  refine AX.skip ?_
  refine AX.seq ?_
  refine AX.si [] [0,1,5] [] ⟨[(0,.bs false 1 (List.map ab p1)),(1,.bs false 1 (List.map ab p2)),(5,vi 0)],[]⟩ trivial trivial ?_
  refine AX.block ?_
  obtain ⟨x4,e6,h⟩:=ak h
  refine AX.wk (Wk.fg [0,1,5] [] ⟨[(0,.bs false 1 (List.map ab p1)),(1,.bs false 1 (List.map ab p2)),(5,vi 0)],[]⟩) ?_
  refine AX.mono (oI p1 p2 FU 0 x4 e6) ?_
  rintro _ _ (⟨x5,rfl,rfl,rfl⟩ | ⟨x6,rfl,rfl,rfl⟩)
  ·replace h:=eL h
   refine ae (Wk.fg [4] [] ⟨[(4,vb false)],[]⟩) ?_
   have hr:=Option.some.inj h
   subst hr
   exact ⟨_,Wk.refl _,.inr rfl,⟨[],by kernel_rfl,trivial,[vb false],by kernel_rfl,by kernel_rfl⟩⟩
  ·replace h:=eU h
   refine AX.si [] [4] [] ⟨[(4,vb true)],[]⟩ trivial trivial ?_
   refine AX.ret ?_
   refine ae (Wk.fg [4] [] ⟨[(4,vb true)],[]⟩) ?_
   have hr:=Option.some.inj h
   subst hr
   exact ⟨_,Wk.refl _,.inr rfl,⟨[],by kernel_rfl,trivial,[vb true],by kernel_rfl,by kernel_rfl⟩⟩

theorem nh (p1:ByteArray) (p2:List ByteArray) (r:Bool) (h:fq p1 p2=some r) :
  Eng.al Tryz.prog 4 [vs p1,.bs true 1 (List.map ab p2)] [] (vb r) []:=by
 unfold fq at h
 refine Eng.al.body Tryz.func4 (by kernel_rfl) rfl (by kernel_rfl) ?_
 refine AX.wkpost ?_
 refine AX.si [] [0,1] [] ⟨[(0,vs p1),(1,.bs true 1 (List.map ab p2))],[]⟩ trivial trivial ?_
 refine AX.seq ?_
 refine AX.si [] [0,1,11] [] ⟨[(0,vs p1),(1,.bs true 1 (List.map ab p2)),(11,vb (decide (1048576<(p1.size:Int))))],[]⟩ trivial trivial ?_
 rcases ac (decide (1048576<(p1.size:Int))) with b1 | b1
 ·replace h:=am b1 h
  refine AX.cT (decide (1048576<(p1.size:Int))) b1 ?_
  refine AX.si [] [4] [] ⟨[(4,vb true)],[]⟩ trivial trivial ?_
  refine AX.ret ?_
  refine ae (Wk.fg [4] [] ⟨[(4,vb true)],[]⟩) ?_
  have hr:=Option.some.inj h
  subst hr
  exact ⟨_,Wk.refl _,.inr rfl,⟨[],by kernel_rfl,trivial,[vb true],by kernel_rfl,by kernel_rfl⟩⟩
 ·replace h:=aq b1 h
  refine AX.cF (decide (1048576<(p1.size:Int))) b1 ?_
  refine AX.skip ?_
  refine AX.si [] [0,1,5] [] ⟨[(0,vs p1),(1,.bs true 1 (List.map ab p2)),(5,vi 1048576)],[]⟩ trivial trivial ?_
  refine AX.seq ?_
  obtain ⟨x3,e2,h⟩:=ak h
  refine AX.rh [aN,aN,.call 9 [.bs true 1 (List.map ab p2),vi 1048576] hN (ah [] [] (vi x3) [])] [0,1,5] [] ⟨[(0,vs p1),(1,.bs true 1 (List.map ab p2)),(5,vi x3)],[]⟩ (pa (smA [.bs true 1 (List.map ab p2),vi 1048576]) <| trivial) ⟨co (rL p2 1048576 x3 e2) (.cons cS (.cons cS (.nil))),trivial⟩ ?_
  refine AX.seq ?_
  refine AX.si [] [0,1,16] [] ⟨[(0,vs p1),(1,.bs true 1 (List.map ab p2)),(16,vb (decide (x3<0)))],[]⟩ trivial trivial ?_
  rcases ac (decide (x3<0)) with b3 | b3
  ·replace h:=am b3 h
   refine AX.cT (decide (x3<0)) b3 ?_
   refine AX.si [] [4] [] ⟨[(4,vb true)],[]⟩ trivial trivial ?_
   refine AX.ret ?_
   refine ae (Wk.fg [4] [] ⟨[(4,vb true)],[]⟩) ?_
   have hr:=Option.some.inj h
   subst hr
   exact ⟨_,Wk.refl _,.inr rfl,⟨[],by kernel_rfl,trivial,[vb true],by kernel_rfl,by kernel_rfl⟩⟩
  ·replace h:=aq b3 h
   refine AX.cF (decide (x3<0)) b3 ?_
   refine AX.skip ?_
   refine AX.seq ?_
   obtain ⟨x4,e4,h⟩:=ak h
   obtain ⟨x5,e5,h⟩:=ak h
   refine AX.rh [aN,aN,.call 10 [.bs true 1 (List.map ab p2)] (aD (rho ([]++[0])) [] []++[]) (ah [] [0] (.sl 0 0 x4.length) [.arr 1 (List.map ab x4)]),.call 7 [vs p1,.sl 0 0 x4.length] (aD (rho ([]++[])) [] []++[(0,.arr 1 (List.map ab x4))]) (ah [] [] (vs x5) [])] [0,1,6] [] ⟨[(0,vs p1),(1,.bs true 1 (List.map ab p2)),(6,vs x5)],[]⟩ (pa (smA [.bs true 1 (List.map ab p2)]) <| pa (⟨rfl,rfl,trivial⟩:((([vs p1,.sl 0 0 x4.length]:List AV)=[vs p1,.sl 0 0 x4.length])∧(AO.arr 1 (List.map ab x4)=AO.arr 1 (List.map ab x4))∧True)) <| trivial) ⟨aA (ks:=[]) (ns:=[0]) (bor:=[]) (bobjs:=[]) (jB p2 x4 e4) (.cons cS (.nil)) (by kernel_rfl) trivial,aA (ks:=[]) (ns:=[]) (bor:=[0]) (bobjs:=[(0,.arr 1 (List.map ab x4))]) (ug p1 x4 x5 e5) (.cons cS (.cons (.c1 (.c0 (.arr rfl rfl ((rfl).trans (List.length_map ..).symm)))) (.nil))) (by kernel_rfl) trivial,trivial⟩ ?_
   refine AX.seq ?_
   obtain ⟨x6,e6,h⟩:=ak h
   refine AX.rh [aN,.call 10 [.bs true 1 (List.map ab p2)] (aD (rho ([]++[0])) [] []++[]) (ah [] [0] (.sl 0 0 x6.length) [.arr 1 (List.map ab x6)])] [0,1,6,7] [0] ⟨[(0,vs p1),(1,.bs true 1 (List.map ab p2)),(6,vs x5),(7,.sl 0 0 x6.length)],[(0,.arr 1 (List.map ab x6))]⟩ (pa (smA [.bs true 1 (List.map ab p2)]) <| trivial) ⟨aA (ks:=[]) (ns:=[0]) (bor:=[]) (bobjs:=[]) (jB p2 x6 e6) (.cons cS (.nil)) (by kernel_rfl) trivial,trivial⟩ ?_
   refine AX.seq ?_
   obtain ⟨x7,e7,h⟩:=ak h
   refine AX.rh [aN,aN,.call 6 [vs p1,.sl 0 0 x6.length] (aD (rho ([]++[])) [] []++[(0,.arr 1 (List.map ab x6))]) (ah [] [] (vs x7) [])] [1,6,7,8] [0] ⟨[(1,.bs true 1 (List.map ab p2)),(6,vs x5),(7,.sl 0 0 x6.length),(8,vs x7)],[(0,.arr 1 (List.map ab x6))]⟩ (pa (⟨rfl,rfl,trivial⟩:((([vs p1,.sl 0 0 x6.length]:List AV)=[vs p1,.sl 0 0 x6.length])∧(AO.arr 1 (List.map ab x6)=AO.arr 1 (List.map ab x6))∧True)) <| trivial) ⟨aA (ks:=[]) (ns:=[]) (bor:=[0]) (bobjs:=[(0,.arr 1 (List.map ab x6))]) (tY p1 x6 x7 e7) (.cons cS (.cons (.c1 (.c0 (.arr rfl rfl ((rfl).trans (List.length_map ..).symm)))) (.nil))) (by kernel_rfl) trivial,trivial⟩ ?_
   refine AX.seq ?_
   refine AX.si [] [1,7,28] [0] ⟨[(1,.bs true 1 (List.map ab p2)),(7,.sl 0 0 x6.length),(28,vb (!decide (x7=x5)))],[(0,.arr 1 (List.map ab x6))]⟩ trivial trivial ?_
   rcases ac ((!decide (x7=x5))) with b8 | b8
   ·replace h:=am b8 h
    refine AX.cT ((!decide (x7=x5))) b8 ?_
    refine AX.si [] [4] [] ⟨[(4,vb false)],[]⟩ trivial trivial ?_
    refine AX.ret ?_
    refine ae (Wk.fg [4] [] ⟨[(4,vb false)],[]⟩) ?_
    have hr:=Option.some.inj h
    subst hr
    exact ⟨_,Wk.refl _,.inr rfl,⟨[],by kernel_rfl,trivial,[vb false],by kernel_rfl,by kernel_rfl⟩⟩
   ·replace h:=aq b8 h
    refine AX.cF ((!decide (x7=x5))) b8 ?_
    refine AX.skip ?_
    refine AX.seq ?_
    refine AX.seq ?_
    obtain ⟨x8,e9,h⟩:=ak h
    obtain ⟨x9,e10,h⟩:=ak h
    refine AX.rh [aN,aN,.call 10 [.bs true 1 (List.map ab p2)] (aD (rho ([]++[1])) [] []++[]) (ah [] [1] (.sl 0 0 x8.length) [.arr 1 (List.map ab x8)]),.call 11 [.sl 0 0 x6.length,.sl 1 0 x8.length] (aD (rho ([]++[])) [] []++[(0,.arr 1 (List.map ab x6)),(1,.arr 1 (List.map ab x8))]) (ah [] [] (vb x9) [])] [33] [] ⟨[(33,vb (!x9))],[]⟩ (pa (smA [.bs true 1 (List.map ab p2)]) <| pa (⟨rfl,rfl,rfl,trivial⟩:((([.sl 0 0 x6.length,.sl 1 0 x8.length]:List AV)=[.sl 0 0 x6.length,.sl 1 0 x8.length])∧(AO.arr 1 (List.map ab x6)=AO.arr 1 (List.map ab x6))∧(AO.arr 1 (List.map ab x8)=AO.arr 1 (List.map ab x8))∧True)) <| trivial) ⟨aA (ks:=[]) (ns:=[1]) (bor:=[]) (bobjs:=[]) (jB p2 x8 e9) (.cons cS (.nil)) (by kernel_rfl) trivial,aA (ks:=[]) (ns:=[]) (bor:=[0,1]) (bobjs:=[(0,.arr 1 (List.map ab x6)),(1,.arr 1 (List.map ab x8))]) (rQ x6 x8 x9 e10) (.cons (.c1 (.c0 (.arr rfl rfl ((rfl).trans (List.length_map ..).symm)))) (.cons (.c1 (.c0 (.arr rfl rfl ((rfl).trans (List.length_map ..).symm)))) (.nil))) (by kernel_rfl) trivial,trivial⟩ ?_
    rcases ac ((!x9)) with b11 | b11
    ·replace h:=am b11 h
     refine AX.cT ((!x9)) b11 ?_
     refine AX.si [] [4] [] ⟨[(4,vb false)],[]⟩ trivial trivial ?_
     refine AX.ret ?_
     refine ae (Wk.fg [4] [] ⟨[(4,vb false)],[]⟩) ?_
     have hr:=Option.some.inj h
     subst hr
     exact ⟨_,Wk.refl _,.inr rfl,⟨[],by kernel_rfl,trivial,[vb false],by kernel_rfl,by kernel_rfl⟩⟩
    ·replace h:=aq b11 h
     refine AX.cF ((!x9)) b11 ?_
     refine AX.skip ?_
     refine AX.si [] [4] [] ⟨[(4,vb true)],[]⟩ trivial trivial ?_
     refine AX.ret ?_
     refine ae (Wk.fg [4] [] ⟨[(4,vb true)],[]⟩) ?_
     have hr:=Option.some.inj h
     subst hr
     exact ⟨_,Wk.refl _,.inr rfl,⟨[],by kernel_rfl,trivial,[vb true],by kernel_rfl,by kernel_rfl⟩⟩

end Go.Eng
