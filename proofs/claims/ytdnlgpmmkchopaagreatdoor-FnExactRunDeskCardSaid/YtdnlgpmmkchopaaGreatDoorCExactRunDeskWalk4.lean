/- What is proved here: each function keeps to its model, whatever its arguments, wherever the model has an answer. Printed by gen.py. -/
import Derived.Test.YtdnlgpmmkchopaaGreatDoorCExactRunDeskWalk3
import Derived.Test.YtdnlgpmmkchopaaGreatDoorProg
import Derived.Test.YtdnlgpmmkchopaaGreatDoorCExactRunDeskShelf
import Derived.KernelRfl
set_option linter.unusedVariables false
set_option linter.unusedSimpArgs false
namespace Go.Eng
open Go Go.Proofs

theorem qr (p2:List ByteArray) (x3:(List (ByteArray×Int))×Int×Bool) (n:Nat) (g:ByteArray×Int) (out:ByteArray) (h:cD p2 x3 n g.1 g.2=some out) :
  AX Tryz.prog 36 0 (codeAt [1,1,1,1,0,1,1] (aU Tryz.f7)) ((fun g:ByteArray×Int=>(⟨[(1,.bs false 1 (List.map ab p2)),(5,.pt 0 0),(6,vb x3.2.2),(7,vs g.1),(8,vi g.2)],[(0,.box [.sl 1 0 x3.1.length,vi x3.2.1]),(1,.arr 2 (List.map aa x3.1))]⟩:S)) g) (fun ex s=>ex=.exit 0∧s=(fun o:ByteArray=>(⟨[(7,vs o)],[]⟩:S)) out):=by
 refine AX.wkpost ?_
 refine AX.loop (G:=Nat×(ByteArray×Int)) (fun q=>(fun g:ByteArray×Int=>(⟨[(1,.bs false 1 (List.map ab p2)),(5,.pt 0 0),(6,vb x3.2.2),(7,vs g.1),(8,vi g.2)],[(0,.box [.sl 1 0 x3.1.length,vi x3.2.1]),(1,.arr 2 (List.map aa x3.1))]⟩:S)) q.2) (fun q=>cD p2 x3 q.1 q.2.1 q.2.2=some out) (fun q=>q.1) (n,g) h (Wk.refl _) ?_
 clear h
 rintro ⟨fu,v4,v5⟩ h
 cases fu with
 | zero=>cases h
 | succ fu =>
  rw [cD] at h
  refine AX.seq ?_
  refine AX.si [aN,aN,aY (vi (p2.length:Int))] [1,5,6,7,8,20] [0,1] ⟨[(1,.bs false 1 (List.map ab p2)),(5,.pt 0 0),(6,vb x3.2.2),(7,vs v4),(8,vi v5),(20,vb (decide (v5<(p2.length:Int))))],[(0,.box [.sl 1 0 x3.1.length,vi x3.2.1]),(1,.arr 2 (List.map aa x3.1))]⟩ (pa (⟨trivial,aS ab p2⟩:(True∧(vi ((List.map ab p2).length:Int)=vi (p2.length:Int)))) <| trivial) trivial ?_
  rcases ac (decide (v5<(p2.length:Int))) with b3 | b3
  ·replace h:=am b3 h
   refine AX.cT (decide (v5<(p2.length:Int))) b3 ?_
   refine AX.skip ?_
   refine AX.seq ?_
   refine AX.block ?_
   refine AX.si [] [1,5,6,7,8,23] [0,1] ⟨[(1,.bs false 1 (List.map ab p2)),(5,.pt 0 0),(6,vb x3.2.2),(7,vs v4),(8,vi v5),(23,vb x3.2.2)],[(0,.box [.sl 1 0 x3.1.length,vi x3.2.1]),(1,.arr 2 (List.map aa x3.1))]⟩ trivial trivial ?_
   rcases ac (x3.2.2) with b4 | b4
   ·replace h:=am b4 h
    refine AX.cT (x3.2.2) b4 ?_
    obtain ⟨g5,h⟩:=aw h
    obtain ⟨x6,e6,h⟩:=ak h
    obtain ⟨g7,h⟩:=aw h
    obtain ⟨g8,h⟩:=aw h
    refine AX.dh mixed [aN,aN,aN,aN,aY (.be 1 (ab (gt p2 v5)) 0),aN,.call 24 [.agg [.sl 1 0 x3.1.length,vi x3.2.1],vs (gt p2 v5)] (aD (rho ([]++[])) [] []++[(1,.arr 2 (List.map aa x3.1))]) (ah [] [] (vs x6) [])] [1,5,6,7,8] [0,1] ⟨[(1,.bs false 1 (List.map ab p2)),(5,.pt 0 0),(6,vb x3.2.2),(7,vs ((v4++x6)++(ByteArray.mk #[10]))),(8,vi v5)],[(0,.box [.sl 1 0 x3.1.length,vi x3.2.1]),(1,.arr 2 (List.map aa x3.1))]⟩ (pa (aJ ab p2 v5 1 g5) <| pa (⟨rfl,rfl,trivial⟩:((([.agg [.sl 1 0 x3.1.length,vi x3.2.1],vs (gt p2 v5)]:List AV)=[.agg [.sl 1 0 x3.1.length,vi x3.2.1],vs (gt p2 v5)])∧(AO.arr 2 (List.map aa x3.1)=AO.arr 2 (List.map aa x3.1))∧True)) <| pa g7 <| pa g8 <| trivial) ⟨aA (ks:=[]) (ns:=[]) (bor:=[1]) (bobjs:=[(1,.arr 2 (List.map aa x3.1))]) (uI x3.1 x3.2.1 (gt p2 v5) x6 e6) (.cons (.c1 (.agg (.cons (.arr rfl rfl ((rfl).trans (List.length_map ..).symm)) (.cons (.same _ (by kernel_rfl) (by kernel_rfl)) (.nil))))) (.cons cS (.nil))) (by kernel_rfl) trivial,trivial⟩ ?_
    refine AX.rh [aN,.auto { raw:=true }] [1,5,6,7,8] [0,1] ⟨[(1,.bs false 1 (List.map ab p2)),(5,.pt 0 0),(6,vb x3.2.2),(7,vs ((v4++x6)++(ByteArray.mk #[10]))),(8,vi (IntKind.wrap .i64 (v5+1)))],[(0,.box [.sl 1 0 x3.1.length,vi x3.2.1]),(1,.arr 2 (List.map aa x3.1))]⟩ trivial trivial ?_
    refine ⟨(fu,((v4++x6)++(ByteArray.mk #[10]),IntKind.wrap .i64 (v5+1))),h,Nat.lt_succ_self _,?_⟩
    refine Wk.trans (Wk.fg [1,5,6,7,8] [0,1] ⟨[(1,.bs false 1 (List.map ab p2)),(5,.pt 0 0),(6,vb x3.2.2),(7,vs ((v4++x6)++(ByteArray.mk #[10]))),(8,vi (IntKind.wrap .i64 (v5+1)))],[(0,.box [.sl 1 0 x3.1.length,vi x3.2.1]),(1,.arr 2 (List.map aa x3.1))]⟩) ?_
    exact Wk.refl _
   ·replace h:=aq b4 h
    refine AX.cF (x3.2.2) b4 ?_
    obtain ⟨g9,h⟩:=aw h
    refine AX.rh [] [1,5,6,7,8] [0,1] ⟨[(1,.bs false 1 (List.map ab p2)),(5,.pt 0 0),(6,vb x3.2.2),(7,vs (v4++(ByteArray.mk #[119,114,111,110,103,10]))),(8,vi v5)],[(0,.box [.sl 1 0 x3.1.length,vi x3.2.1]),(1,.arr 2 (List.map aa x3.1))]⟩ (pa g9 <| trivial) trivial ?_
    refine AX.rh [aN,.auto { raw:=true }] [1,5,6,7,8] [0,1] ⟨[(1,.bs false 1 (List.map ab p2)),(5,.pt 0 0),(6,vb x3.2.2),(7,vs (v4++(ByteArray.mk #[119,114,111,110,103,10]))),(8,vi (IntKind.wrap .i64 (v5+1)))],[(0,.box [.sl 1 0 x3.1.length,vi x3.2.1]),(1,.arr 2 (List.map aa x3.1))]⟩ trivial trivial ?_
    refine ⟨(fu,(v4++(ByteArray.mk #[119,114,111,110,103,10]),IntKind.wrap .i64 (v5+1))),h,Nat.lt_succ_self _,?_⟩
    refine Wk.trans (Wk.fg [1,5,6,7,8] [0,1] ⟨[(1,.bs false 1 (List.map ab p2)),(5,.pt 0 0),(6,vb x3.2.2),(7,vs (v4++(ByteArray.mk #[119,114,111,110,103,10]))),(8,vi (IntKind.wrap .i64 (v5+1)))],[(0,.box [.sl 1 0 x3.1.length,vi x3.2.1]),(1,.arr 2 (List.map aa x3.1))]⟩) ?_
    exact Wk.refl _
  ·replace h:=aq b3 h
   refine AX.cF (decide (v5<(p2.length:Int))) b3 ?_
   refine AX.exit ?_
   refine ae (Wk.fg [7] [] ⟨[(7,vs v4)],[]⟩) ?_
   have hr:=Option.some.inj h
   subst hr
   exact ⟨_,Wk.refl _,⟨rfl,rfl⟩⟩

theorem ug (p1:ByteArray) (p2:List ByteArray) (r:ByteArray) (h:gQ p1 p2=some r) :
  Eng.al Tryz.prog 7 [vs p1,.bs false 1 (List.map ab p2)] [] (vs r) []:=by
 unfold gQ at h
 refine Eng.al.body Tryz.func7 (by kernel_rfl) rfl (by kernel_rfl) ?_
 refine AX.wkpost ?_
 refine AX.si [] [0,1] [] ⟨[(0,vs p1),(1,.bs false 1 (List.map ab p2))],[]⟩ trivial trivial ?_
 refine AX.seq ?_
 refine AX.si [aN,aY (vi (p2.length:Int))] [0,1,11] [] ⟨[(0,vs p1),(1,.bs false 1 (List.map ab p2)),(11,vb (decide (20<(p2.length:Int))))],[]⟩ (pa (⟨trivial,aS ab p2⟩:(True∧(vi ((List.map ab p2).length:Int)=vi (p2.length:Int)))) <| trivial) trivial ?_
 rcases ac (decide (20<(p2.length:Int))) with b1 | b1
 ·replace h:=am b1 h
  refine AX.cT (decide (20<(p2.length:Int))) b1 ?_
  refine AX.si [] [4] [] ⟨[(4,vs ByteArray.empty)],[]⟩ trivial trivial ?_
  refine AX.ret ?_
  refine ae (Wk.fg [4] [] ⟨[(4,vs ByteArray.empty)],[]⟩) ?_
  have hr:=Option.some.inj h
  subst hr
  exact ⟨_,Wk.refl _,.inr rfl,⟨[],by kernel_rfl,trivial,[vs ByteArray.empty],by kernel_rfl,by kernel_rfl⟩⟩
 ·replace h:=aq b1 h
  refine AX.cF (decide (20<(p2.length:Int))) b1 ?_
  refine AX.skip ?_
  refine AX.seq ?_
  obtain ⟨x3,e2,h⟩:=ak h
  refine AX.rh [aN,.call 14 [vs p1] (aD (rho ([]++[0])) [] []++[]) (ah [] [0] (.tup [.agg [.sl 0 0 x3.1.length,vi x3.2.1],vb x3.2.2]) [.arr 2 (List.map aa x3.1)]),aN,aN,aN,.auto { nk:=1 }] [1,5,6] [0,1] ⟨[(1,.bs false 1 (List.map ab p2)),(5,.pt 1 0),(6,vb x3.2.2)],[(0,.arr 2 (List.map aa x3.1)),(1,.box [.sl 0 0 x3.1.length,vi x3.2.1])]⟩ (pa (smA [vs p1]) <| trivial) ⟨aA (ks:=[]) (ns:=[0]) (bor:=[]) (bobjs:=[]) (rk p1 x3 e2) (.cons cS (.nil)) (by kernel_rfl) trivial,trivial⟩ ?_
  refine AX.si [] [1,5,6,7] [0,1] ⟨[(1,.bs false 1 (List.map ab p2)),(5,.pt 1 0),(6,vb x3.2.2),(7,vs ByteArray.empty)],[(0,.arr 2 (List.map aa x3.1)),(1,.box [.sl 0 0 x3.1.length,vi x3.2.1])]⟩ trivial trivial ?_
  refine AX.seq ?_
  refine AX.si [] [1,5,6,7,8] [0,1] ⟨[(1,.bs false 1 (List.map ab p2)),(5,.pt 1 0),(6,vb x3.2.2),(7,vs ByteArray.empty),(8,vi 0)],[(0,.arr 2 (List.map aa x3.1)),(1,.box [.sl 0 0 x3.1.length,vi x3.2.1])]⟩ trivial trivial ?_
  refine AX.block ?_
  obtain ⟨x7,e10,h⟩:=ak h
  refine AX.wk (Wk.swap 0 1 (Nat.le_of_ble_eq_true (by kernel_rfl)) (Nat.le_of_ble_eq_true (by kernel_rfl)) rfl) ?_
  refine AX.wk (Wk.fg [1,5,6,7,8] [0,1] ⟨[(1,.bs false 1 (List.map ab p2)),(5,.pt 0 0),(6,vb x3.2.2),(7,vs ByteArray.empty),(8,vi 0)],[(0,.box [.sl 1 0 x3.1.length,vi x3.2.1]),(1,.arr 2 (List.map aa x3.1))]⟩) ?_
  refine AX.mono (qr p2 x3 FU (ByteArray.empty,0) x7 e10) ?_
  rintro _ _ ⟨rfl,rfl⟩
  skip
  refine AX.si [] [4] [] ⟨[(4,vs x7)],[]⟩ trivial trivial ?_
  refine AX.ret ?_
  refine ae (Wk.fg [4] [] ⟨[(4,vs x7)],[]⟩) ?_
  have hr:=Option.some.inj h
  subst hr
  exact ⟨_,Wk.refl _,.inr rfl,⟨[],by kernel_rfl,trivial,[vs x7],by kernel_rfl,by kernel_rfl⟩⟩

theorem oD (p1:ByteArray) (p2:ByteArray) (r:ByteArray×Bool) (h:go p1 p2=some r) :
  Eng.al Tryz.prog 67 [vs p1,vs p2] [] (.tup [vs r.1,vb r.2]) []:=by
 unfold go at h
 obtain ⟨g1,h⟩:=aw h
 have hr:=Option.some.inj h
 refine jU (r:=.tuple ([.string r.1,.bool r.2]:List Value).toArray) ⟨_,Tryz.func67,by kernel_rfl,by kernel_rfl⟩ (fun X m sh=>by simp only [VR];exact ⟨_,rfl,by simp [VRs,VR]⟩) ?_
 subst hr
 intro X m vs hv
 simp only [VRs,VR] at hv
 obtain ⟨_,_,rfl,rfl,_,_,rfl,rfl,rfl⟩:=hv
 have hg:=(X.hG X.w0 (fun _ _=>rfl)).2
 refine (Tryz.strings_CutSuffix p1 p2 X.w0 g1).mono ?_
 rintro e w' ⟨rfl,rfl⟩
 exact ⟨rfl,RowKit.Below.refl _ _⟩

theorem kj (p1:ByteArray) (p2:ByteArray) (r:List ByteArray) (h:df p1 p2=some r) :
  Eng.al Tryz.prog 38 [vs p1,vs p2] [] (.sl 0 0 r.length) [.arr 1 (List.map ab r)]:=by
 unfold df at h
 obtain ⟨g1,h⟩:=aw h
 obtain ⟨g2,h⟩:=aw h
 have hr:=Option.some.inj h
 subst hr
 have e:List.map ab (Lib.splitB p2 0 (Lib.countB p1 p2) p1)=((Lib.splitB p2 0 (Lib.countB p1 p2) p1).map Value.string).map fun x=>[x]:=by simp [ab]
 have hlen:=Lib.splitB_all p2 g2 0 _ p1 rfl
 rw [e,show (Lib.splitB p2 0 (Lib.countB p1 p2) p1).length=((Lib.splitB p2 0 (Lib.countB p1 p2) p1).map Value.string).length by simp]
 refine zB (T:=9) ⟨_,Tryz.func38,by kernel_rfl,by kernel_rfl⟩ (by intro x hx;obtain ⟨y,_,rfl⟩:=List.mem_map.1 hx;rfl) ?_
 intro X m vs hv
 simp only [VRs,VR] at hv
 obtain ⟨_,_,rfl,rfl,_,_,rfl,rfl,rfl⟩:=hv
 have hg:=(X.hG X.w0 (fun _ _=>rfl)).2
 obtain ⟨mx,hmx⟩:=un hg
 refine (Tryz.strings_Split p1 p2 mx X.w0 g1 hmx g2).mono ?_
 rintro e w' ⟨rfl,rfl⟩
 exact ⟨by rw [List.length_map,hlen],rfl⟩

theorem uQ (p1:ByteArray) (p2:ByteArray) (r:ByteArray×ByteArray×Bool) (h:ju p1 p2=some r) :
  Eng.al Tryz.prog 68 [vs p1,vs p2] [] (.tup [vs r.1,vs r.2.1,vb r.2.2]) []:=by
 unfold ju at h
 obtain ⟨g1,h⟩:=aw h
 have hr:=Option.some.inj h
 refine jU (r:=.tuple ([.string r.1,.string r.2.1,.bool r.2.2]:List Value).toArray) ⟨_,Tryz.func68,by kernel_rfl,by kernel_rfl⟩ (fun X m sh=>by simp only [VR];exact ⟨_,rfl,by simp [VRs,VR]⟩) ?_
 subst hr
 intro X m vs hv
 simp only [VRs,VR] at hv
 obtain ⟨_,_,rfl,rfl,_,_,rfl,rfl,rfl⟩:=hv
 have hg:=(X.hG X.w0 (fun _ _=>rfl)).2
 obtain ⟨mx,hmx⟩:=un hg
 refine (Tryz.strings_Cut p1 p2 mx X.w0 g1 hmx).mono ?_
 rintro e w' ⟨rfl,n,rfl⟩
 exact ⟨rfl,wZ _ _⟩

theorem tC (p1:ByteArray) (r:Int×Bool) (h:jh p1=some r) :
  Eng.al Tryz.prog 111 [vs p1] [] (.tup [vi r.1,.er r.2]) []:=by
 unfold jh at h
 obtain ⟨g1,h⟩:=aw h
 have hr:=Option.some.inj h
 subst hr
 refine zJ ⟨_,Tryz.func111,by kernel_rfl,by kernel_rfl⟩ ?_
 intro X m vs hv
 simp only [VRs,VR] at hv
 obtain ⟨_,_,rfl,rfl,rfl⟩:=hv
 have hg:=(X.hG X.w0 (fun _ _=>rfl)).2
 rcases ha:Lib.atoiAll p1.data.toList with v | _ | _
 ·have e0:jJ p1=(v,true):=by unfold jJ;rw [ha]
  rw [e0]
  refine (Tryz.strconv_Atoi_ok p1 (by omega) v ha X.w0).mono ?_
  rintro e w' ⟨rfl,hw⟩
  refine ⟨_,rfl,fun m sh=>?_,?_⟩
  ·exact nz ⟨fun _=>rfl,(fun h=>nomatch h)⟩
  ·rcases hw with rfl | ⟨t,rfl⟩
   ·exact RowKit.Below.refl _ _
   ·exact Lib.bytesWorld_below _ _ _
 ·have e0:jJ p1=(0,false):=by unfold jJ;rw [ha]
  rw [e0]
  obtain ⟨ev,h1,h2⟩:=wL hg
  refine (Tryz.strconv_Atoi_syntax p1 g1 ha ev X.w0 h1 h2).mono ?_
  rintro e w' ⟨N,rfl,_,_,hw⟩
  refine ⟨_,rfl,fun m sh=>?_,hw⟩
  exact nz ⟨(fun h=>nomatch h),fun _=>⟨_,_,rfl⟩⟩
 ·have e0:jJ p1=(Lib.atoiSat p1.data.toList,false):=by unfold jJ;rw [ha]
  rw [e0]
  obtain ⟨ev,h1,h2⟩:=xo hg
  refine (Tryz.strconv_Atoi_range p1 g1 ha ev X.w0 h1 h2).mono ?_
  rintro e w' ⟨N,rfl,_,_,hw⟩
  refine ⟨_,rfl,fun m sh=>?_,hw⟩
  exact nz ⟨(fun h=>nomatch h),fun _=>⟨_,_,rfl⟩⟩

theorem iY (p1:Int) (r:ByteArray) (h:cV p1=some r) :
  Eng.al Tryz.prog 41 [vi p1] [] (vs r) []:=by
 unfold cV at h
 obtain ⟨g1,h⟩:=aw h
 have hr:=Option.some.inj h
 refine jU (r:=.string r) ⟨_,Tryz.func41,by kernel_rfl,by kernel_rfl⟩ (fun X m sh=>by simp only [VR]) ?_
 subst hr
 intro X m vs hv
 simp only [VRs,VR] at hv
 obtain ⟨_,_,rfl,rfl,rfl⟩:=hv
 have hg:=(X.hG X.w0 (fun _ _=>rfl)).2
 refine (Tryz.strconv_Itoa p1 g1.1 g1.2 X.w0 (zK hg)).mono ?_
 rintro e w' ⟨rfl,k,os,rfl⟩
 exact ⟨rfl,Lib.below_grow _ _ (Nat.le_refl _) _ _⟩

theorem kD (p1:ByteArray) (r:Int×Bool) (h:eH p1=some r) :
  Eng.al Tryz.prog 69 [vs p1] [] (.tup [vi r.1,vb r.2]) []:=by
 unfold eH at h
 refine Eng.al.body Tryz.func69 (by kernel_rfl) rfl (by kernel_rfl) ?_
 refine AX.wkpost ?_
 refine AX.si [] [0] [] ⟨[(0,vs p1)],[]⟩ trivial trivial ?_
 refine AX.seq ?_
 obtain ⟨x2,e1,h⟩:=ak h
 refine AX.rh [aN,.call 111 [vs p1] hN (ah [] [] (.tup [vi x2.1,.er x2.2]) [])] [0,4,5] [] ⟨[(0,vs p1),(4,vi x2.1),(5,.er x2.2)],[]⟩ (pa (smA [vs p1]) <| trivial) ⟨co (tC p1 x2 e1) (.cons cS (.nil)),trivial⟩ ?_
 refine AX.seq ?_
 rcases ac (x2.2) with b2 | b2
 ·replace h:=am b2 h
  obtain ⟨x3,e3,h⟩:=ak h
  refine AX.rh [aN,aN,aY (vb true),aN,aN,.call 41 [vi x2.1] hN (ah [] [] (vs x3) [])] [2,3] [] ⟨[(2,vi x2.1),(3,vb (decide (x3=p1)))],[]⟩ (pa (pb (cb b2)) <| pa (smA [vi x2.1]) <| trivial) ⟨co (iY x2.1 x3 e3) (.cons cS (.nil)),trivial⟩ ?_
  refine AX.ret ?_
  refine ae (Wk.fg [2,3] [] ⟨[(2,vi x2.1),(3,vb (decide (x3=p1)))],[]⟩) ?_
  have hr:=Option.some.inj h
  subst hr
  exact ⟨_,Wk.refl _,.inr rfl,⟨[],by kernel_rfl,trivial,[vi x2.1,vb (decide (x3=p1))],by kernel_rfl,by kernel_rfl⟩⟩
 ·replace h:=aq b2 h
  refine AX.rh [aN,aN,aY (vb false)] [2,3] [] ⟨[(2,vi x2.1),(3,vb false)],[]⟩ (pa (pb (cb b2)) <| trivial) trivial ?_
  refine AX.ret ?_
  refine ae (Wk.fg [2,3] [] ⟨[(2,vi x2.1),(3,vb false)],[]⟩) ?_
  have hr:=Option.some.inj h
  subst hr
  exact ⟨_,Wk.refl _,.inr rfl,⟨[],by kernel_rfl,trivial,[vi x2.1,vb false],by kernel_rfl,by kernel_rfl⟩⟩

theorem oK (x3:List ByteArray) (n:Nat) (g:(List (ByteArray×Bool×Int))×Int) (out:Unit ⊕ List (ByteArray×Bool×Int)) (h:bF x3 n g.1 g.2=some out) :
  AX Tryz.prog 67 0 (codeAt [1,1,1,1,1,0,1,1] (aU Tryz.f33)) ((fun g:(List (ByteArray×Bool×Int))×Int=>(⟨[(7,.sl 0 0 x3.length),(8,.sl 1 0 g.1.length),(32,.sl 0 (0+(1:Int).toNat) ((x3.length:Int).toNat - (1:Int).toNat)),(33,vi (((x3.length:Int).toNat - (1:Int).toNat:Nat):Int)),(34,vi g.2)],[(0,.arr 1 (List.map ab x3)),(1,.arr 3 (List.map ag g.1))]⟩:S)) g) (fun ex s=>(∃ o:Unit,out=Sum.inl o∧ex=.ret∧s=⟨[(2,vs ByteArray.empty),(3,.v (.slice none 0 0)),(4,vb false)],[]⟩)∨(∃ o:List (ByteArray×Bool×Int),out=Sum.inr o∧ex=.exit 0∧s=⟨[(7,.sl 0 0 x3.length),(8,.sl 1 0 o.length)],[(0,.arr 1 (List.map ab x3)),(1,.arr 3 (List.map ag o))]⟩)):=by
 refine AX.wkpost ?_
 refine AX.loop (G:=Nat×((List (ByteArray×Bool×Int))×Int)) (fun q=>(fun g:(List (ByteArray×Bool×Int))×Int=>(⟨[(7,.sl 0 0 x3.length),(8,.sl 1 0 g.1.length),(32,.sl 0 (0+(1:Int).toNat) ((x3.length:Int).toNat - (1:Int).toNat)),(33,vi (((x3.length:Int).toNat - (1:Int).toNat:Nat):Int)),(34,vi g.2)],[(0,.arr 1 (List.map ab x3)),(1,.arr 3 (List.map ag g.1))]⟩:S)) q.2) (fun q=>bF x3 q.1 q.2.1 q.2.2=some out) (fun q=>q.1) (n,g) h (Wk.refl _) ?_
 clear h
 rintro ⟨fu,v4,v5⟩ h
 cases fu with
 | zero=>cases h
 | succ fu =>
  rw [bF] at h
  refine AX.seq ?_
  obtain ⟨v6,q6,h⟩:=bT h
  refine AX.rh [aY (vb v6)] [7,8,32,33,34,35] [0,1] ⟨[(7,.sl 0 0 x3.length),(8,.sl 1 0 v4.length),(32,.sl 0 (0+(1:Int).toNat) ((x3.length:Int).toNat - (1:Int).toNat)),(33,vi (((x3.length:Int).toNat - (1:Int).toNat:Nat):Int)),(34,vi v5),(35,vb v6)],[(0,.arr 1 (List.map ab x3)),(1,.arr 3 (List.map ag v4))]⟩ (pa (pb (cb q6)) <| trivial) trivial ?_
  refine AX.seq ?_
  rcases ac (v6) with b7 | b7
  ·replace h:=am b7 h
   refine AX.cT (v6) b7 ?_
   refine AX.skip ?_
   refine AX.seq ?_
   refine AX.block ?_
   refine AX.seq ?_
   obtain ⟨g8,h⟩:=aw h
   refine AX.rh [aN,.auto { y:=some (vs (gt x3 (((1:Int).toNat+v5.toNat:Nat):Int))) }] [7,8,10,32,33,34] [0,1] ⟨[(7,.sl 0 0 x3.length),(8,.sl 1 0 v4.length),(10,vs (gt x3 (((1:Int).toNat+v5.toNat:Nat):Int))),(32,.sl 0 (0+(1:Int).toNat) ((x3.length:Int).toNat - (1:Int).toNat)),(33,vi (((x3.length:Int).toNat - (1:Int).toNat:Nat):Int)),(34,vi v5)],[(0,.arr 1 (List.map ab x3)),(1,.arr 3 (List.map ag v4))]⟩ (pa (g8.1:(0≤v5∧v5<(((x3.length:Int).toNat - (1:Int).toNat:Nat):Int))) <| pa (⟨trivial,(congrArg (fun z:List Value=>AV.v (z.getD 0 undef)) (rE (enc:=ab) rfl g8.2))⟩:(True∧(AV.v (((List.map ab x3).getD (0+(1:Int).toNat+v5.toNat) []).getD 0 undef)=vs (gt x3 (((1:Int).toNat+v5.toNat:Nat):Int))))) <| trivial) trivial ?_
   refine AX.seq ?_
   obtain ⟨x7,e9,h⟩:=ak h
   refine AX.rh [aN,.call 68 [vs (gt x3 (((1:Int).toNat+v5.toNat:Nat):Int)),vs (ByteArray.mk #[32,61,32])] hN (ah [] [] (.tup [vs x7.1,vs x7.2.1,vb x7.2.2]) [])] [7,8,11,12,13,32,33,34] [0,1] ⟨[(7,.sl 0 0 x3.length),(8,.sl 1 0 v4.length),(11,vs x7.1),(12,vs x7.2.1),(13,vb x7.2.2),(32,.sl 0 (0+(1:Int).toNat) ((x3.length:Int).toNat - (1:Int).toNat)),(33,vi (((x3.length:Int).toNat - (1:Int).toNat:Nat):Int)),(34,vi v5)],[(0,.arr 1 (List.map ab x3)),(1,.arr 3 (List.map ag v4))]⟩ (pa (smA [vs (gt x3 (((1:Int).toNat+v5.toNat:Nat):Int)),vs (ByteArray.mk #[32,61,32])]) <| trivial) ⟨co (uQ (gt x3 (((1:Int).toNat+v5.toNat:Nat):Int)) (ByteArray.mk #[32,61,32]) x7 e9) (.cons cS (.cons cS (.nil))),trivial⟩ ?_
   refine AX.si [aN,aN,aN,aN,.auto { nk:=2 }] [7,8,12,13,14,32,33,34] [0,1,2] ⟨[(7,.sl 0 0 x3.length),(8,.sl 1 0 v4.length),(12,vs x7.2.1),(13,vb x7.2.2),(14,.pt 2 0),(32,.sl 0 (0+(1:Int).toNat) ((x3.length:Int).toNat - (1:Int).toNat)),(33,vi (((x3.length:Int).toNat - (1:Int).toNat:Nat):Int)),(34,vi v5)],[(0,.arr 1 (List.map ab x3)),(1,.arr 3 (List.map ag v4)),(2,.box [vs x7.1,vb (!x7.2.2),vi 0])]⟩ trivial trivial ?_
   refine AX.seq ?_
   refine AX.si [] [7,8,12,14,32,33,34,48] [0,1,2] ⟨[(7,.sl 0 0 x3.length),(8,.sl 1 0 v4.length),(12,vs x7.2.1),(14,.pt 2 0),(32,.sl 0 (0+(1:Int).toNat) ((x3.length:Int).toNat - (1:Int).toNat)),(33,vi (((x3.length:Int).toNat - (1:Int).toNat:Nat):Int)),(34,vi v5),(48,vb x7.2.2)],[(0,.arr 1 (List.map ab x3)),(1,.arr 3 (List.map ag v4)),(2,.box [vs x7.1,vb (!x7.2.2),vi 0])]⟩ trivial trivial ?_
   rcases ac (x7.2.2) with b10 | b10
   ·replace h:=am b10 h
    refine AX.cT (x7.2.2) b10 ?_
    refine AX.seq ?_
    obtain ⟨x8,e11,h⟩:=ak h
    refine AX.rh [aN,.call 69 [vs x7.2.1] hN (ah [] [] (.tup [vi x8.1,vb x8.2]) [])] [7,8,14,15,16,32,33,34] [0,1,2] ⟨[(7,.sl 0 0 x3.length),(8,.sl 1 0 v4.length),(14,.pt 2 0),(15,vi x8.1),(16,vb x8.2),(32,.sl 0 (0+(1:Int).toNat) ((x3.length:Int).toNat - (1:Int).toNat)),(33,vi (((x3.length:Int).toNat - (1:Int).toNat:Nat):Int)),(34,vi v5)],[(0,.arr 1 (List.map ab x3)),(1,.arr 3 (List.map ag v4)),(2,.box [vs x7.1,vb (!x7.2.2),vi 0])]⟩ (pa (smA [vs x7.2.1]) <| trivial) ⟨co (kD x7.2.1 x8 e11) (.cons cS (.nil)),trivial⟩ ?_
    refine AX.seq ?_
    refine AX.si [] [7,8,14,15,32,33,34,55] [0,1,2] ⟨[(7,.sl 0 0 x3.length),(8,.sl 1 0 v4.length),(14,.pt 2 0),(15,vi x8.1),(32,.sl 0 (0+(1:Int).toNat) ((x3.length:Int).toNat - (1:Int).toNat)),(33,vi (((x3.length:Int).toNat - (1:Int).toNat:Nat):Int)),(34,vi v5),(55,vb (!x8.2))],[(0,.arr 1 (List.map ab x3)),(1,.arr 3 (List.map ag v4)),(2,.box [vs x7.1,vb (!x7.2.2),vi 0])]⟩ trivial trivial ?_
    rcases ac ((!x8.2)) with b12 | b12
    ·replace h:=am b12 h
     refine AX.cT ((!x8.2)) b12 ?_
     refine AX.si [] [2,3,4] [] ⟨[(2,vs ByteArray.empty),(3,.v (.slice none 0 0)),(4,vb false)],[]⟩ trivial trivial ?_
     refine AX.ret ?_
     refine ae (Wk.fg [2,3,4] [] ⟨[(2,vs ByteArray.empty),(3,.v (.slice none 0 0)),(4,vb false)],[]⟩) ?_
     have hr:=Option.some.inj h
     subst hr
     exact ⟨_,Wk.refl _,.inl ⟨(),rfl,rfl,rfl⟩⟩
    ·replace h:=aq b12 h
     refine AX.cF ((!x8.2)) b12 ?_
     refine AX.skip ?_
     refine AX.rh [] [7,8,14,32,33,34] [0,1,2] ⟨[(7,.sl 0 0 x3.length),(8,.sl 1 0 v4.length),(14,.pt 2 0),(32,.sl 0 (0+(1:Int).toNat) ((x3.length:Int).toNat - (1:Int).toNat)),(33,vi (((x3.length:Int).toNat - (1:Int).toNat:Nat):Int)),(34,vi v5)],[(0,.arr 1 (List.map ab x3)),(1,.arr 3 (List.map ag v4)),(2,.box [vs x7.1,vb (!x7.2.2),vi x8.1])]⟩ trivial trivial ?_
     obtain ⟨g13,h⟩:=aw h
     refine AX.rh [aN,aN,.auto { nk:=3 },.auto { y:=some (.sl 4 0 ((v4++([(x7.1,(!x7.2.2),x8.1)]:List (ByteArray×Bool×Int))).length)),els:=some (List.map ag v4),els2:=some (List.map ag ([(x7.1,(!x7.2.2),x8.1)]:List (ByteArray×Bool×Int))),nk:=4 }] [7,8,32,33,34] [0,4] ⟨[(7,.sl 0 0 x3.length),(8,.sl 4 0 ((v4++([(x7.1,(!x7.2.2),x8.1)]:List (ByteArray×Bool×Int))).length)),(32,.sl 0 (0+(1:Int).toNat) ((x3.length:Int).toNat - (1:Int).toNat)),(33,vi (((x3.length:Int).toNat - (1:Int).toNat:Nat):Int)),(34,vi v5)],[(0,.arr 1 (List.map ab x3)),(4,.arr 3 (List.map ag v4++List.map ag ([(x7.1,(!x7.2.2),x8.1)]:List (ByteArray×Bool×Int))))]⟩ (pa (⟨⟨⟨(bc (enc:=ag) rfl rfl),(bc (enc:=ag) rfl rfl)⟩,(by simp only [List.length_map,List.length_nil,List.length_replicate];simpa using g13)⟩,cj (enc:=ag) (aH (enc:=ag) rfl (rfl))⟩:((((((List.map ag v4).drop 0).take (v4.length)=List.map ag v4)∧(((List.map ag ([(x7.1,(!x7.2.2),x8.1)]:List (ByteArray×Bool×Int))).drop 0).take (([(x7.1,(!x7.2.2),x8.1)]:List (ByteArray×Bool×Int)).length)=List.map ag ([(x7.1,(!x7.2.2),x8.1)]:List (ByteArray×Bool×Int))))∧(List.map ag v4).length+(List.map ag ([(x7.1,(!x7.2.2),x8.1)]:List (ByteArray×Bool×Int))).length≤1099511627776)∧(AV.sl 4 0 (List.map ag v4++List.map ag ([(x7.1,(!x7.2.2),x8.1)]:List (ByteArray×Bool×Int))).length=AV.sl 4 0 (v4++([(x7.1,(!x7.2.2),x8.1)]:List (ByteArray×Bool×Int))).length))) <| trivial) trivial ?_
     refine AX.rh [.auto { raw:=true }] [7,8,32,33,34] [0,4] ⟨[(7,.sl 0 0 x3.length),(8,.sl 4 0 ((v4++([(x7.1,(!x7.2.2),x8.1)]:List (ByteArray×Bool×Int))).length)),(32,.sl 0 (0+(1:Int).toNat) ((x3.length:Int).toNat - (1:Int).toNat)),(33,vi (((x3.length:Int).toNat - (1:Int).toNat:Nat):Int)),(34,vi (IntKind.wrap .i64 (v5+1)))],[(0,.arr 1 (List.map ab x3)),(4,.arr 3 (List.map ag v4++List.map ag ([(x7.1,(!x7.2.2),x8.1)]:List (ByteArray×Bool×Int))))]⟩ trivial trivial ?_
     refine ⟨(fu,(v4++([(x7.1,(!x7.2.2),x8.1)]:List (ByteArray×Bool×Int)),IntKind.wrap .i64 (v5+1))),h,Nat.lt_succ_self _,?_⟩
     refine Wk.trans (Wk.swap 1 4 (Nat.le_of_ble_eq_true (by kernel_rfl)) (Nat.le_of_ble_eq_true (by kernel_rfl)) rfl) ?_
     refine Wk.trans (Wk.fg [7,8,32,33,34] [0,1] ⟨[(7,.sl 0 0 x3.length),(8,.sl 1 0 ((v4++([(x7.1,(!x7.2.2),x8.1)]:List (ByteArray×Bool×Int))).length)),(32,.sl 0 (0+(1:Int).toNat) ((x3.length:Int).toNat - (1:Int).toNat)),(33,vi (((x3.length:Int).toNat - (1:Int).toNat:Nat):Int)),(34,vi (IntKind.wrap .i64 (v5+1)))],[(0,.arr 1 (List.map ab x3)),(1,.arr 3 (List.map ag v4++List.map ag ([(x7.1,(!x7.2.2),x8.1)]:List (ByteArray×Bool×Int))))]⟩) ?_
     refine Wk.trans (Wk.of_eq (congrArg (fun z=>(⟨[(7,.sl 0 0 x3.length),(8,.sl 1 0 ((v4++([(x7.1,(!x7.2.2),x8.1)]:List (ByteArray×Bool×Int))).length)),(32,.sl 0 (0+(1:Int).toNat) ((x3.length:Int).toNat - (1:Int).toNat)),(33,vi (((x3.length:Int).toNat - (1:Int).toNat:Nat):Int)),(34,vi (IntKind.wrap .i64 (v5+1)))],[(0,.arr 1 (List.map ab x3)),(1,.arr 3 (z))]⟩:S)) (aH (enc:=ag) rfl (rfl):List.map ag v4++List.map ag ([(x7.1,(!x7.2.2),x8.1)]:List (ByteArray×Bool×Int))=List.map ag (v4++([(x7.1,(!x7.2.2),x8.1)]:List (ByteArray×Bool×Int)))))) ?_
     exact Wk.refl _
   ·replace h:=aq b10 h
    refine AX.cF (x7.2.2) b10 ?_
    refine AX.skip ?_
    obtain ⟨g14,h⟩:=aw h
    refine AX.rh [aN,aN,.auto { nk:=3 },.auto { y:=some (.sl 4 0 ((v4++([(x7.1,(!x7.2.2),0)]:List (ByteArray×Bool×Int))).length)),els:=some (List.map ag v4),els2:=some (List.map ag ([(x7.1,(!x7.2.2),0)]:List (ByteArray×Bool×Int))),nk:=4 }] [7,8,32,33,34] [0,4] ⟨[(7,.sl 0 0 x3.length),(8,.sl 4 0 ((v4++([(x7.1,(!x7.2.2),0)]:List (ByteArray×Bool×Int))).length)),(32,.sl 0 (0+(1:Int).toNat) ((x3.length:Int).toNat - (1:Int).toNat)),(33,vi (((x3.length:Int).toNat - (1:Int).toNat:Nat):Int)),(34,vi v5)],[(0,.arr 1 (List.map ab x3)),(4,.arr 3 (List.map ag v4++List.map ag ([(x7.1,(!x7.2.2),0)]:List (ByteArray×Bool×Int))))]⟩ (pa (⟨⟨⟨(bc (enc:=ag) rfl rfl),(bc (enc:=ag) rfl rfl)⟩,(by simp only [List.length_map,List.length_nil,List.length_replicate];simpa using g14)⟩,cj (enc:=ag) (aH (enc:=ag) rfl (rfl))⟩:((((((List.map ag v4).drop 0).take (v4.length)=List.map ag v4)∧(((List.map ag ([(x7.1,(!x7.2.2),0)]:List (ByteArray×Bool×Int))).drop 0).take (([(x7.1,(!x7.2.2),0)]:List (ByteArray×Bool×Int)).length)=List.map ag ([(x7.1,(!x7.2.2),0)]:List (ByteArray×Bool×Int))))∧(List.map ag v4).length+(List.map ag ([(x7.1,(!x7.2.2),0)]:List (ByteArray×Bool×Int))).length≤1099511627776)∧(AV.sl 4 0 (List.map ag v4++List.map ag ([(x7.1,(!x7.2.2),0)]:List (ByteArray×Bool×Int))).length=AV.sl 4 0 (v4++([(x7.1,(!x7.2.2),0)]:List (ByteArray×Bool×Int))).length))) <| trivial) trivial ?_
    refine AX.rh [.auto { raw:=true }] [7,8,32,33,34] [0,4] ⟨[(7,.sl 0 0 x3.length),(8,.sl 4 0 ((v4++([(x7.1,(!x7.2.2),0)]:List (ByteArray×Bool×Int))).length)),(32,.sl 0 (0+(1:Int).toNat) ((x3.length:Int).toNat - (1:Int).toNat)),(33,vi (((x3.length:Int).toNat - (1:Int).toNat:Nat):Int)),(34,vi (IntKind.wrap .i64 (v5+1)))],[(0,.arr 1 (List.map ab x3)),(4,.arr 3 (List.map ag v4++List.map ag ([(x7.1,(!x7.2.2),0)]:List (ByteArray×Bool×Int))))]⟩ trivial trivial ?_
    refine ⟨(fu,(v4++([(x7.1,(!x7.2.2),0)]:List (ByteArray×Bool×Int)),IntKind.wrap .i64 (v5+1))),h,Nat.lt_succ_self _,?_⟩
    refine Wk.trans (Wk.swap 1 4 (Nat.le_of_ble_eq_true (by kernel_rfl)) (Nat.le_of_ble_eq_true (by kernel_rfl)) rfl) ?_
    refine Wk.trans (Wk.fg [7,8,32,33,34] [0,1] ⟨[(7,.sl 0 0 x3.length),(8,.sl 1 0 ((v4++([(x7.1,(!x7.2.2),0)]:List (ByteArray×Bool×Int))).length)),(32,.sl 0 (0+(1:Int).toNat) ((x3.length:Int).toNat - (1:Int).toNat)),(33,vi (((x3.length:Int).toNat - (1:Int).toNat:Nat):Int)),(34,vi (IntKind.wrap .i64 (v5+1)))],[(0,.arr 1 (List.map ab x3)),(1,.arr 3 (List.map ag v4++List.map ag ([(x7.1,(!x7.2.2),0)]:List (ByteArray×Bool×Int))))]⟩) ?_
    refine Wk.trans (Wk.of_eq (congrArg (fun z=>(⟨[(7,.sl 0 0 x3.length),(8,.sl 1 0 ((v4++([(x7.1,(!x7.2.2),0)]:List (ByteArray×Bool×Int))).length)),(32,.sl 0 (0+(1:Int).toNat) ((x3.length:Int).toNat - (1:Int).toNat)),(33,vi (((x3.length:Int).toNat - (1:Int).toNat:Nat):Int)),(34,vi (IntKind.wrap .i64 (v5+1)))],[(0,.arr 1 (List.map ab x3)),(1,.arr 3 (z))]⟩:S)) (aH (enc:=ag) rfl (rfl):List.map ag v4++List.map ag ([(x7.1,(!x7.2.2),0)]:List (ByteArray×Bool×Int))=List.map ag (v4++([(x7.1,(!x7.2.2),0)]:List (ByteArray×Bool×Int)))))) ?_
    exact Wk.refl _
  ·replace h:=aq b7 h
   refine AX.cF (v6) b7 ?_
   refine AX.exit ?_
   refine ae (Wk.fg [7,8] [0,1] ⟨[(7,.sl 0 0 x3.length),(8,.sl 1 0 v4.length)],[(0,.arr 1 (List.map ab x3)),(1,.arr 3 (List.map ag v4))]⟩) ?_
   have hr:=Option.some.inj h
   subst hr
   exact ⟨_,Wk.refl _,.inr ⟨v4,rfl,rfl,rfl⟩⟩

theorem rm (p1:ByteArray) (r:ByteArray×(List (ByteArray×Bool×Int))×Bool) (h:gi p1=some r) :
  Eng.al Tryz.prog 33 [vs p1] [] (.tup [vs r.1,.sl 0 0 r.2.1.length,vb r.2.2]) [.arr 3 (List.map ag r.2.1)]:=by
 unfold gi at h
 refine Eng.al.body Tryz.func33 (by kernel_rfl) rfl (by kernel_rfl) ?_
 refine AX.wkpost ?_
 refine AX.si [] [0] [] ⟨[(0,vs p1)],[]⟩ trivial trivial ?_
 refine AX.seq ?_
 obtain ⟨x2,e1,h⟩:=ak h
 refine AX.rh [aN,.call 67 [vs p1,vs (ByteArray.mk #[10])] hN (ah [] [] (.tup [vs x2.1,vb x2.2]) [])] [5,6] [] ⟨[(5,vs x2.1),(6,vb x2.2)],[]⟩ (pa (smA [vs p1,vs (ByteArray.mk #[10])]) <| trivial) ⟨co (oD p1 (ByteArray.mk #[10]) x2 e1) (.cons cS (.cons cS (.nil))),trivial⟩ ?_
 refine AX.seq ?_
 obtain ⟨x3,e2,h⟩:=ak h
 refine AX.rh [aN,.call 38 [vs x2.1,vs (ByteArray.mk #[10])] (aD (rho ([]++[0])) [] []++[]) (ah [] [0] (.sl 0 0 x3.length) [.arr 1 (List.map ab x3)])] [6,7] [0] ⟨[(6,vb x2.2),(7,.sl 0 0 x3.length)],[(0,.arr 1 (List.map ab x3))]⟩ (pa (smA [vs x2.1,vs (ByteArray.mk #[10])]) <| trivial) ⟨aA (ks:=[]) (ns:=[0]) (bor:=[]) (bobjs:=[]) (kj x2.1 (ByteArray.mk #[10]) x3 e2) (.cons cS (.cons cS (.nil))) (by kernel_rfl) trivial,trivial⟩ ?_
 refine AX.seq ?_
 refine AX.seq ?_
 rcases ac ((!x2.2)) with b3 | b3
 ·replace h:=am b3 h
  refine AX.rh [aN,aY (vb true)] [7,30] [0] ⟨[(7,.sl 0 0 x3.length),(30,vb true)],[(0,.arr 1 (List.map ab x3))]⟩ (pa (pb (cb b3)) <| trivial) trivial ?_
  refine AX.cond_true (by kernel_rfl) ?_
  refine AX.si [] [2,3,4] [] ⟨[(2,vs ByteArray.empty),(3,.v (.slice none 0 0)),(4,vb false)],[]⟩ trivial trivial ?_
  refine AX.ret ?_
  refine ae (Wk.mat 3 0 3 (by kernel_rfl) (Nat.le_of_ble_eq_true (by kernel_rfl)) (by kernel_rfl) rfl) ?_
  refine ae (Wk.fg [2,3,4] [0] ⟨[(2,vs ByteArray.empty),(3,.sl 0 0 (([]:List (ByteArray×Bool×Int)).length)),(4,vb false)],[(0,.arr 3 (List.map ag ([]:List (ByteArray×Bool×Int))))]⟩) ?_
  have hr:=Option.some.inj h
  subst hr
  exact ⟨_,Wk.refl _,.inr rfl,⟨[0],by kernel_rfl,⟨rfl,trivial⟩,[vs ByteArray.empty,.sl 0 0 (([]:List (ByteArray×Bool×Int)).length),vb false],by kernel_rfl,by kernel_rfl⟩⟩
 ·replace h:=aq b3 h
  refine AX.rh [aN,aY (vb false)] [7,30] [0] ⟨[(7,.sl 0 0 x3.length),(30,vb (decide (13<(x3.length:Int))))],[(0,.arr 1 (List.map ab x3))]⟩ (pa (pb (cb b3)) <| trivial) trivial ?_
  rcases ac (decide (13<(x3.length:Int))) with b4 | b4
  ·replace h:=am b4 h
   refine AX.cT (decide (13<(x3.length:Int))) b4 ?_
   refine AX.si [] [2,3,4] [] ⟨[(2,vs ByteArray.empty),(3,.v (.slice none 0 0)),(4,vb false)],[]⟩ trivial trivial ?_
   refine AX.ret ?_
   refine ae (Wk.mat 3 0 3 (by kernel_rfl) (Nat.le_of_ble_eq_true (by kernel_rfl)) (by kernel_rfl) rfl) ?_
   refine ae (Wk.fg [2,3,4] [0] ⟨[(2,vs ByteArray.empty),(3,.sl 0 0 (([]:List (ByteArray×Bool×Int)).length)),(4,vb false)],[(0,.arr 3 (List.map ag ([]:List (ByteArray×Bool×Int))))]⟩) ?_
   have hr:=Option.some.inj h
   subst hr
   exact ⟨_,Wk.refl _,.inr rfl,⟨[0],by kernel_rfl,⟨rfl,trivial⟩,[vs ByteArray.empty,.sl 0 0 (([]:List (ByteArray×Bool×Int)).length),vb false],by kernel_rfl,by kernel_rfl⟩⟩
  ·replace h:=aq b4 h
   refine AX.cF (decide (13<(x3.length:Int))) b4 ?_
   refine AX.skip ?_
   refine AX.si [] [7,8] [0] ⟨[(7,.sl 0 0 x3.length),(8,.v (.slice none 0 0))],[(0,.arr 1 (List.map ab x3))]⟩ trivial trivial ?_
   refine AX.seq ?_
   refine AX.seq ?_
   obtain ⟨g5,h⟩:=aw h
   refine AX.rh [] [7,8,32,33,34] [0] ⟨[(7,.sl 0 0 x3.length),(8,.v (.slice none 0 0)),(32,.sl 0 (0+(1:Int).toNat) ((x3.length:Int).toNat - (1:Int).toNat)),(33,vi (((x3.length:Int).toNat - (1:Int).toNat:Nat):Int)),(34,vi 0)],[(0,.arr 1 (List.map ab x3))]⟩ (pa g5 <| trivial) trivial ?_
   refine AX.block ?_
   obtain ⟨x9,e15,h⟩:=ak h
   refine AX.wk (Wk.mat 8 1 3 (by kernel_rfl) (Nat.le_of_ble_eq_true (by kernel_rfl)) (by kernel_rfl) rfl) ?_
   refine AX.wk (Wk.fg [7,8,32,33,34] [0,1] ⟨[(7,.sl 0 0 x3.length),(8,.sl 1 0 (([]:List (ByteArray×Bool×Int)).length)),(32,.sl 0 (0+(1:Int).toNat) ((x3.length:Int).toNat - (1:Int).toNat)),(33,vi (((x3.length:Int).toNat - (1:Int).toNat:Nat):Int)),(34,vi 0)],[(0,.arr 1 (List.map ab x3)),(1,.arr 3 (List.map ag ([]:List (ByteArray×Bool×Int))))]⟩) ?_
   refine AX.mono (oK x3 FU (([]:List (ByteArray×Bool×Int)),0) x9 e15) ?_
   rintro _ _ (⟨x10,rfl,rfl,rfl⟩ | ⟨x11,rfl,rfl,rfl⟩)
   ·replace h:=eL h
    refine ae (Wk.mat 3 0 3 (by kernel_rfl) (Nat.le_of_ble_eq_true (by kernel_rfl)) (by kernel_rfl) rfl) ?_
    refine ae (Wk.fg [2,3,4] [0] ⟨[(2,vs ByteArray.empty),(3,.sl 0 0 (([]:List (ByteArray×Bool×Int)).length)),(4,vb false)],[(0,.arr 3 (List.map ag ([]:List (ByteArray×Bool×Int))))]⟩) ?_
    have hr:=Option.some.inj h
    subst hr
    exact ⟨_,Wk.refl _,.inr rfl,⟨[0],by kernel_rfl,⟨rfl,trivial⟩,[vs ByteArray.empty,.sl 0 0 (([]:List (ByteArray×Bool×Int)).length),vb false],by kernel_rfl,by kernel_rfl⟩⟩
   ·replace h:=eU h
    refine AX.seq ?_
    obtain ⟨g16,h⟩:=aw h
    refine AX.rh [aN,aN,aY (vs (gt x3 (0:Int)))] [2,3,4] [1] ⟨[(2,vs (gt x3 (0:Int))),(3,.sl 1 0 x11.length),(4,vb true)],[(1,.arr 3 (List.map ag x11))]⟩ (pa g16 <| pa (⟨trivial,(congrArg (fun z:List Value=>AV.v (z.getD 0 undef)) (au (enc:=ab) rfl g16))⟩:(True∧(AV.v (((List.map ab x3).getD (0+(0:Int).toNat) []).getD 0 undef)=vs (gt x3 (0:Int))))) <| trivial) trivial ?_
    refine AX.ret ?_
    refine ae (Wk.swap 0 1 (Nat.le_of_ble_eq_true (by kernel_rfl)) (Nat.le_of_ble_eq_true (by kernel_rfl)) rfl) ?_
    refine ae (Wk.fg [2,3,4] [0] ⟨[(2,vs (gt x3 (0:Int))),(3,.sl 0 0 x11.length),(4,vb true)],[(0,.arr 3 (List.map ag x11))]⟩) ?_
    have hr:=Option.some.inj h
    subst hr
    exact ⟨_,Wk.refl _,.inr rfl,⟨[0],by kernel_rfl,⟨rfl,trivial⟩,[vs (gt x3 (0:Int)),.sl 0 0 x11.length,vb true],by kernel_rfl,by kernel_rfl⟩⟩

theorem oE (p1:ByteArray) (p2:ByteArray) (r:ByteArray×Bool) (h:gk p1 p2=some r) :
  Eng.al Tryz.prog 34 [vs p1,vs p2] [] (.tup [vs r.1,vb r.2]) []:=by
 unfold gk at h
 have hr:=Option.some.inj h
 refine jU (r:=.tuple ([.string r.1,.bool r.2]:List Value).toArray) ⟨_,Tryz.func34,by kernel_rfl,by kernel_rfl⟩ (fun X m sh=>by simp only [VR];exact ⟨_,rfl,by simp [VRs,VR]⟩) ?_
 subst hr
 intro X m vs hv
 simp only [VRs,VR] at hv
 obtain ⟨_,_,rfl,rfl,_,_,rfl,rfl,rfl⟩:=hv
 have hg:=(X.hG X.w0 (fun _ _=>rfl)).2
 refine (Tryz.strings_CutPrefix p1 p2 X.w0).mono ?_
 rintro e w' ⟨rfl,rfl⟩
 exact ⟨rfl,RowKit.Below.refl _ _⟩

theorem oq (p1:List ByteArray) (p2:ByteArray) (n:Nat) (g:Int) (out:Int ⊕ Unit) (h:cA p1 p2 n g=some out) :
  AX Tryz.prog 19 0 (codeAt [1,0,1,1] (aU Tryz.f35)) ((fun g:Int=>(⟨[(0,.bs false 1 (List.map ab p1)),(1,vs p2),(7,vi (p1.length:Int)),(8,vi g)],[]⟩:S)) g) (fun ex s=>(∃ o:Int,out=Sum.inl o∧ex=.ret∧s=⟨[(4,vi o)],[]⟩)∨(∃ o:Unit,out=Sum.inr o∧ex=.exit 0∧s=⟨[],[]⟩)):=by
 refine AX.wkpost ?_
 refine AX.loop (G:=Nat×(Int)) (fun q=>(fun g:Int=>(⟨[(0,.bs false 1 (List.map ab p1)),(1,vs p2),(7,vi (p1.length:Int)),(8,vi g)],[]⟩:S)) q.2) (fun q=>cA p1 p2 q.1 q.2=some out) (fun q=>q.1) (n,g) h (Wk.refl _) ?_
 clear h
 rintro ⟨fu,v3⟩ h
 cases fu with
 | zero=>cases h
 | succ fu =>
  rw [cA] at h
  refine AX.si [] [0,1,7,8,9] [] ⟨[(0,.bs false 1 (List.map ab p1)),(1,vs p2),(7,vi (p1.length:Int)),(8,vi v3),(9,vb (decide (v3<(p1.length:Int))))],[]⟩ trivial trivial ?_
  refine AX.seq ?_
  rcases ac (decide (v3<(p1.length:Int))) with b1 | b1
  ·replace h:=am b1 h
   refine AX.cT (decide (v3<(p1.length:Int))) b1 ?_
   refine AX.skip ?_
   refine AX.seq ?_
   refine AX.block ?_
   refine AX.si [] [0,1,5,7,8] [] ⟨[(0,.bs false 1 (List.map ab p1)),(1,vs p2),(5,vi v3),(7,vi (p1.length:Int)),(8,vi v3)],[]⟩ trivial trivial ?_
   refine AX.seq ?_
   obtain ⟨g2,h⟩:=aw h
   refine AX.rh [aN,aN,aN,aY (.be 1 (ab (gt p1 v3)) 0)] [0,1,5,7,8,16] [] ⟨[(0,.bs false 1 (List.map ab p1)),(1,vs p2),(5,vi v3),(7,vi (p1.length:Int)),(8,vi v3),(16,vb (decide (p2=(gt p1 v3))))],[]⟩ (pa (aJ ab p1 v3 1 g2) <| trivial) trivial ?_
   rcases ac (decide (p2=(gt p1 v3))) with b3 | b3
   ·replace h:=am b3 h
    refine AX.cT (decide (p2=(gt p1 v3))) b3 ?_
    refine AX.si [] [4] [] ⟨[(4,vi v3)],[]⟩ trivial trivial ?_
    refine AX.ret ?_
    refine ae (Wk.fg [4] [] ⟨[(4,vi v3)],[]⟩) ?_
    have hr:=Option.some.inj h
    subst hr
    exact ⟨_,Wk.refl _,.inl ⟨v3,rfl,rfl,rfl⟩⟩
   ·replace h:=aq b3 h
    refine AX.cF (decide (p2=(gt p1 v3))) b3 ?_
    refine AX.skip ?_
    refine AX.rh [.auto { raw:=true }] [0,1,7,8] [] ⟨[(0,.bs false 1 (List.map ab p1)),(1,vs p2),(7,vi (p1.length:Int)),(8,vi (IntKind.wrap .i64 (v3+1)))],[]⟩ trivial trivial ?_
    refine ⟨(fu,IntKind.wrap .i64 (v3+1)),h,Nat.lt_succ_self _,?_⟩
    refine Wk.trans (Wk.fg [0,1,7,8] [] ⟨[(0,.bs false 1 (List.map ab p1)),(1,vs p2),(7,vi (p1.length:Int)),(8,vi (IntKind.wrap .i64 (v3+1)))],[]⟩) ?_
    exact Wk.refl _
  ·replace h:=aq b1 h
   refine AX.cF (decide (v3<(p1.length:Int))) b1 ?_
   refine AX.exit ?_
   refine ae (Wk.fg [] [] ⟨[],[]⟩) ?_
   have hr:=Option.some.inj h
   subst hr
   exact ⟨_,Wk.refl _,.inr ⟨(),rfl,rfl,rfl⟩⟩

theorem qY (p1:List ByteArray) (p2:ByteArray) (r:Int) (h:eJ p1 p2=some r) :
  Eng.al Tryz.prog 35 [.bs false 1 (List.map ab p1),vs p2] [] (vi r) []:=by
 unfold eJ at h
 refine Eng.al.body Tryz.func35 (by kernel_rfl) rfl (by kernel_rfl) ?_
 refine AX.wkpost ?_
 refine AX.si [] [0,1] [] ⟨[(0,.bs false 1 (List.map ab p1)),(1,vs p2)],[]⟩ trivial trivial ?_
 refine AX.seq ?_
 refine AX.si [aN,aY (vi (p1.length:Int))] [0,1,7,8] [] ⟨[(0,.bs false 1 (List.map ab p1)),(1,vs p2),(7,vi (p1.length:Int)),(8,vi 0)],[]⟩ (pa (⟨trivial,aS ab p1⟩:(True∧(vi ((List.map ab p1).length:Int)=vi (p1.length:Int)))) <| trivial) trivial ?_
 refine AX.block ?_
 obtain ⟨x4,e4,h⟩:=ak h
 refine AX.wk (Wk.fg [0,1,7,8] [] ⟨[(0,.bs false 1 (List.map ab p1)),(1,vs p2),(7,vi (p1.length:Int)),(8,vi 0)],[]⟩) ?_
 refine AX.mono (oq p1 p2 FU 0 x4 e4) ?_
 rintro _ _ (⟨x5,rfl,rfl,rfl⟩ | ⟨x6,rfl,rfl,rfl⟩)
 ·replace h:=eL h
  refine ae (Wk.fg [4] [] ⟨[(4,vi x5)],[]⟩) ?_
  have hr:=Option.some.inj h
  subst hr
  exact ⟨_,Wk.refl _,.inr rfl,⟨[],by kernel_rfl,trivial,[vi x5],by kernel_rfl,by kernel_rfl⟩⟩
 ·replace h:=eU h
  refine AX.si [] [4] [] ⟨[(4,vi (-1))],[]⟩ trivial trivial ?_
  refine AX.ret ?_
  refine ae (Wk.fg [4] [] ⟨[(4,vi (-1))],[]⟩) ?_
  have hr:=Option.some.inj h
  subst hr
  exact ⟨_,Wk.refl _,.inr rfl,⟨[],by kernel_rfl,trivial,[vi (-1)],by kernel_rfl,by kernel_rfl⟩⟩

theorem pd (p1:List (ByteArray×Int)) (n:Nat) (g:Int×Int) (out:Int) (h:bM p1 n g.1 g.2=some out) :
  AX Tryz.prog 28 0 (codeAt [1,1,0,1,1] (aU Tryz.f74)) ((fun g:Int×Int=>(⟨[(5,vi g.1),(9,.bs false 2 (List.map aa p1)),(10,vi (p1.length:Int)),(11,vi g.2)],[]⟩:S)) g) (fun ex s=>ex=.exit 0∧s=(fun o:Int=>(⟨[(5,vi o)],[]⟩:S)) out):=by
 refine AX.wkpost ?_
 refine AX.loop (G:=Nat×(Int×Int)) (fun q=>(fun g:Int×Int=>(⟨[(5,vi g.1),(9,.bs false 2 (List.map aa p1)),(10,vi (p1.length:Int)),(11,vi g.2)],[]⟩:S)) q.2) (fun q=>bM p1 q.1 q.2.1 q.2.2=some out) (fun q=>q.1) (n,g) h (Wk.refl _) ?_
 clear h
 rintro ⟨fu,v3,v4⟩ h
 cases fu with
 | zero=>cases h
 | succ fu =>
  rw [bM] at h
  refine AX.si [] [5,9,10,11,12] [] ⟨[(5,vi v3),(9,.bs false 2 (List.map aa p1)),(10,vi (p1.length:Int)),(11,vi v4),(12,vb (decide (v4<(p1.length:Int))))],[]⟩ trivial trivial ?_
  refine AX.seq ?_
  rcases ac (decide (v4<(p1.length:Int))) with b1 | b1
  ·replace h:=am b1 h
   refine AX.cT (decide (v4<(p1.length:Int))) b1 ?_
   refine AX.skip ?_
   refine AX.seq ?_
   refine AX.block ?_
   refine AX.seq ?_
   obtain ⟨g2,h⟩:=aw h
   refine AX.rh [aN,aY (.be 2 (aa (gt p1 v4)) 0),aN,.auto { nk:=0 }] [5,6,7,9,10,11] [0] ⟨[(5,vi v3),(6,vi v4),(7,.pt 0 0),(9,.bs false 2 (List.map aa p1)),(10,vi (p1.length:Int)),(11,vi v4)],[(0,.box [vs ((gt p1 v4).1),vi ((gt p1 v4).2)])]⟩ (pa (aJ aa p1 v4 2 g2) <| trivial) trivial ?_
   refine AX.seq ?_
   rcases ac (decide (v4=0)) with b3 | b3
   ·replace h:=am b3 h
    refine AX.rh [aN,aY (vb true)] [5,7,9,10,11,23] [0] ⟨[(5,vi v3),(7,.pt 0 0),(9,.bs false 2 (List.map aa p1)),(10,vi (p1.length:Int)),(11,vi v4),(23,vb true)],[(0,.box [vs ((gt p1 v4).1),vi ((gt p1 v4).2)])]⟩ (pa (pb (cb b3)) <| trivial) trivial ?_
    refine AX.cond_true (by kernel_rfl) ?_
    refine AX.rh [] [5,9,10,11] [] ⟨[(5,vi ((gt p1 v4).2)),(9,.bs false 2 (List.map aa p1)),(10,vi (p1.length:Int)),(11,vi v4)],[]⟩ trivial trivial ?_
    refine AX.rh [.auto { raw:=true }] [5,9,10,11] [] ⟨[(5,vi ((gt p1 v4).2)),(9,.bs false 2 (List.map aa p1)),(10,vi (p1.length:Int)),(11,vi (IntKind.wrap .i64 (v4+1)))],[]⟩ trivial trivial ?_
    refine ⟨(fu,((gt p1 v4).2,IntKind.wrap .i64 (v4+1))),h,Nat.lt_succ_self _,?_⟩
    refine Wk.trans (Wk.fg [5,9,10,11] [] ⟨[(5,vi ((gt p1 v4).2)),(9,.bs false 2 (List.map aa p1)),(10,vi (p1.length:Int)),(11,vi (IntKind.wrap .i64 (v4+1)))],[]⟩) ?_
    exact Wk.refl _
   ·replace h:=aq b3 h
    refine AX.rh [aN,aY (vb false)] [5,7,9,10,11,23] [0] ⟨[(5,vi v3),(7,.pt 0 0),(9,.bs false 2 (List.map aa p1)),(10,vi (p1.length:Int)),(11,vi v4),(23,vb (decide (v3<((gt p1 v4).2))))],[(0,.box [vs ((gt p1 v4).1),vi ((gt p1 v4).2)])]⟩ (pa (pb (cb b3)) <| trivial) trivial ?_
    rcases ac (decide (v3<((gt p1 v4).2))) with b4 | b4
    ·replace h:=am b4 h
     refine AX.cT (decide (v3<((gt p1 v4).2))) b4 ?_
     refine AX.rh [] [5,9,10,11] [] ⟨[(5,vi ((gt p1 v4).2)),(9,.bs false 2 (List.map aa p1)),(10,vi (p1.length:Int)),(11,vi v4)],[]⟩ trivial trivial ?_
     refine AX.rh [.auto { raw:=true }] [5,9,10,11] [] ⟨[(5,vi ((gt p1 v4).2)),(9,.bs false 2 (List.map aa p1)),(10,vi (p1.length:Int)),(11,vi (IntKind.wrap .i64 (v4+1)))],[]⟩ trivial trivial ?_
     refine ⟨(fu,((gt p1 v4).2,IntKind.wrap .i64 (v4+1))),h,Nat.lt_succ_self _,?_⟩
     refine Wk.trans (Wk.fg [5,9,10,11] [] ⟨[(5,vi ((gt p1 v4).2)),(9,.bs false 2 (List.map aa p1)),(10,vi (p1.length:Int)),(11,vi (IntKind.wrap .i64 (v4+1)))],[]⟩) ?_
     exact Wk.refl _
    ·replace h:=aq b4 h
     refine AX.cF (decide (v3<((gt p1 v4).2))) b4 ?_
     refine AX.skip ?_
     refine AX.rh [.auto { raw:=true }] [5,9,10,11] [] ⟨[(5,vi v3),(9,.bs false 2 (List.map aa p1)),(10,vi (p1.length:Int)),(11,vi (IntKind.wrap .i64 (v4+1)))],[]⟩ trivial trivial ?_
     refine ⟨(fu,(v3,IntKind.wrap .i64 (v4+1))),h,Nat.lt_succ_self _,?_⟩
     refine Wk.trans (Wk.fg [5,9,10,11] [] ⟨[(5,vi v3),(9,.bs false 2 (List.map aa p1)),(10,vi (p1.length:Int)),(11,vi (IntKind.wrap .i64 (v4+1)))],[]⟩) ?_
     exact Wk.refl _
  ·replace h:=aq b1 h
   refine AX.cF (decide (v4<(p1.length:Int))) b1 ?_
   refine AX.exit ?_
   refine ae (Wk.fg [5] [] ⟨[(5,vi v3)],[]⟩) ?_
   have hr:=Option.some.inj h
   subst hr
   exact ⟨_,Wk.refl _,⟨rfl,rfl⟩⟩

theorem sS (p1:List (ByteArray×Int)) (p2:Int) (r:Int) (h:gw p1 p2=some r) :
  Eng.al Tryz.prog 74 [.bs false 2 (List.map aa p1),vi p2] [] (vi r) []:=by
 unfold gw at h
 refine Eng.al.body Tryz.func74 (by kernel_rfl) rfl (by kernel_rfl) ?_
 refine AX.wkpost ?_
 refine AX.si [] [0,1] [] ⟨[(0,.bs false 2 (List.map aa p1)),(1,vi p2)],[]⟩ trivial trivial ?_
 refine AX.si [] [0,5] [] ⟨[(0,.bs false 2 (List.map aa p1)),(5,vi p2)],[]⟩ trivial trivial ?_
 refine AX.seq ?_
 refine AX.si [aN,aY (vi (p1.length:Int))] [5,9,10,11] [] ⟨[(5,vi p2),(9,.bs false 2 (List.map aa p1)),(10,vi (p1.length:Int)),(11,vi 0)],[]⟩ (pa (⟨trivial,aS aa p1⟩:(True∧(vi ((List.map aa p1).length:Int)=vi (p1.length:Int)))) <| trivial) trivial ?_
 refine AX.block ?_
 obtain ⟨x5,e5,h⟩:=ak h
 refine AX.wk (Wk.fg [5,9,10,11] [] ⟨[(5,vi p2),(9,.bs false 2 (List.map aa p1)),(10,vi (p1.length:Int)),(11,vi 0)],[]⟩) ?_
 refine AX.mono (pd p1 FU (p2,0) x5 e5) ?_
 rintro _ _ ⟨rfl,rfl⟩
 skip
 refine AX.si [] [4] [] ⟨[(4,vi x5)],[]⟩ trivial trivial ?_
 refine AX.ret ?_
 refine ae (Wk.fg [4] [] ⟨[(4,vi x5)],[]⟩) ?_
 have hr:=Option.some.inj h
 subst hr
 exact ⟨_,Wk.refl _,.inr rfl,⟨[],by kernel_rfl,trivial,[vi x5],by kernel_rfl,by kernel_rfl⟩⟩

theorem qc (p1:Int) (r:Int) (h:gM p1=some r) :
  Eng.al Tryz.prog 115 [.v (.int .u64 p1)] [] (vi r) []:=by
 unfold gM at h
 refine Eng.al.body Tryz.func115 (by kernel_rfl) rfl (by kernel_rfl) ?_
 refine AX.wkpost ?_
 refine AX.si [] [0,2] [] ⟨[(0,.v (.int .u64 p1)),(2,vi 0)],[]⟩ trivial trivial ?_
 refine AX.seq ?_
 refine AX.si [] [0,2,4] [] ⟨[(0,.v (.int .u64 p1)),(2,vi 0),(4,vb (decide (4294967296≤p1)))],[]⟩ trivial trivial ?_
 rcases ac (decide (4294967296≤p1)) with b1 | b1
 ·replace h:=am b1 h
  refine AX.cT (decide (4294967296≤p1)) b1 ?_
  refine AX.seq ?_
  obtain ⟨g2,h⟩:=aw h
  refine AX.rh [] [0] [] ⟨[(0,.v (.int .u64 (p1 / 2 ^ (32:Int).toNat)))],[]⟩ (pa g2 <| trivial) trivial ?_
  refine AX.rh [] [0,2] [] ⟨[(0,.v (.int .u64 (p1 / 2 ^ (32:Int).toNat))),(2,vi 32)],[]⟩ trivial trivial ?_
  refine AX.seq ?_
  refine AX.si [] [0,2,8] [] ⟨[(0,.v (.int .u64 (p1 / 2 ^ (32:Int).toNat))),(2,vi 32),(8,vb (decide (65536≤(p1 / 2 ^ (32:Int).toNat))))],[]⟩ trivial trivial ?_
  rcases ac (decide (65536≤(p1 / 2 ^ (32:Int).toNat))) with b3 | b3
  ·replace h:=am b3 h
   refine AX.cT (decide (65536≤(p1 / 2 ^ (32:Int).toNat))) b3 ?_
   refine AX.seq ?_
   obtain ⟨g4,h⟩:=aw h
   refine AX.rh [] [0,2] [] ⟨[(0,.v (.int .u64 ((p1 / 2 ^ (32:Int).toNat) / 2 ^ (16:Int).toNat))),(2,vi 32)],[]⟩ (pa g4 <| trivial) trivial ?_
   refine AX.rh [aN,.auto { raw:=true }] [0,2] [] ⟨[(0,.v (.int .u64 ((p1 / 2 ^ (32:Int).toNat) / 2 ^ (16:Int).toNat))),(2,vi (IntKind.wrap .i64 (32+16)))],[]⟩ trivial trivial ?_
   refine AX.seq ?_
   refine AX.seq ?_
   obtain ⟨v2,q5,h⟩:=bT h
   refine AX.rh [aN,aY (vb v2)] [0,2,14] [] ⟨[(0,.v (.int .u64 ((p1 / 2 ^ (32:Int).toNat) / 2 ^ (16:Int).toNat))),(2,vi (IntKind.wrap .i64 (32+16))),(14,vb v2)],[]⟩ (pa (pb (cb q5)) <| trivial) trivial ?_
   rcases ac (v2) with b6 | b6
   ·replace h:=am b6 h
    refine AX.cT (v2) b6 ?_
    refine AX.seq ?_
    obtain ⟨g7,h⟩:=aw h
    obtain ⟨v3,q8,h⟩:=bT h
    refine AX.rh [aN,aY (.v (.int .u64 v3))] [0,2] [] ⟨[(0,.v (.int .u64 v3)),(2,vi (IntKind.wrap .i64 (32+16)))],[]⟩ (pa (⟨g7,(congrArg (fun z=>AV.v (.int .u64 z)) q8)⟩:((0≤(8:Int)∧(8:Int)≤(IntKind.bits .u64:Int))∧((.v (.int .u64 (((p1 / 2 ^ (32:Int).toNat) / 2 ^ (16:Int).toNat) / 2 ^ (8:Int).toNat)):AV)=(.v (.int .u64 v3):AV)))) <| trivial) trivial ?_
    refine AX.rh [aN,.auto { raw:=true }] [0,2] [] ⟨[(0,.v (.int .u64 v3)),(2,vi (IntKind.wrap .i64 ((IntKind.wrap .i64 (32+16))+8)))],[]⟩ trivial trivial ?_
    refine AX.seq ?_
    obtain ⟨g9,h⟩:=aw h
    obtain ⟨v4,q10,h⟩:=bT h
    obtain ⟨v5,q11,h⟩:=bT h
    refine AX.rh [aN,aN,.auto { raw:=true },aN,.auto { y:=some (vi v4),raw:=true },.auto { y:=some (vi v5),raw:=true }] [2] [] ⟨[(2,vi v5)],[]⟩ (pa g9 <| pa (⟨trivial,(congrArg (fun z=>vi z) q10)⟩:((True)∧((vi (IntKind.wrap .i64 (aC lstr_c9535661 (IntKind.wrap .u8 (v3)).toNat)):AV)=(vi v4:AV)))) <| pa (⟨trivial,(congrArg (fun z=>vi z) q11)⟩:((True)∧((vi (IntKind.wrap .i64 ((IntKind.wrap .i64 ((IntKind.wrap .i64 (32+16))+8))+v4)):AV)=(vi v5:AV)))) <| trivial) trivial ?_
    refine AX.ret ?_
    refine ae (Wk.fg [2] [] ⟨[(2,vi v5)],[]⟩) ?_
    have hr:=Option.some.inj h
    subst hr
    exact ⟨_,Wk.refl _,.inr rfl,⟨[],by kernel_rfl,trivial,[vi v5],by kernel_rfl,by kernel_rfl⟩⟩
   ·replace h:=aq b6 h
    refine AX.cF (v2) b6 ?_
    refine AX.skip ?_
    refine AX.seq ?_
    obtain ⟨v6,q12,h⟩:=bT h
    obtain ⟨g13,h⟩:=aw h
    obtain ⟨v7,q14,h⟩:=bT h
    refine AX.rh [aN,aN,.auto { y:=some (.v (.int .u8 v6)),raw:=true },aN,.auto { raw:=true },.auto { y:=some (vi v7),raw:=true }] [2] [] ⟨[(2,vi v7)],[]⟩ (pa (⟨trivial,(congrArg (fun z=>AV.v (.int .u8 z)) q12)⟩:((True)∧((.v (.int .u8 (IntKind.wrap .u8 ((p1 / 2 ^ (32:Int).toNat) / 2 ^ (16:Int).toNat))):AV)=(.v (.int .u8 v6):AV)))) <| pa g13 <| pa (⟨trivial,(congrArg (fun z=>vi z) q14)⟩:((True)∧((vi (IntKind.wrap .i64 ((IntKind.wrap .i64 (32+16))+(IntKind.wrap .i64 (aC lstr_c9535661 v6.toNat)))):AV)=(vi v7:AV)))) <| trivial) trivial ?_
    refine AX.ret ?_
    refine ae (Wk.fg [2] [] ⟨[(2,vi v7)],[]⟩) ?_
    have hr:=Option.some.inj h
    subst hr
    exact ⟨_,Wk.refl _,.inr rfl,⟨[],by kernel_rfl,trivial,[vi v7],by kernel_rfl,by kernel_rfl⟩⟩
  ·replace h:=aq b3 h
   refine AX.cF (decide (65536≤(p1 / 2 ^ (32:Int).toNat))) b3 ?_
   refine AX.skip ?_
   refine AX.seq ?_
   refine AX.si [] [0,2,14] [] ⟨[(0,.v (.int .u64 (p1 / 2 ^ (32:Int).toNat))),(2,vi 32),(14,vb (decide (256≤(p1 / 2 ^ (32:Int).toNat))))],[]⟩ trivial trivial ?_
   rcases ac (decide (256≤(p1 / 2 ^ (32:Int).toNat))) with b15 | b15
   ·replace h:=am b15 h
    refine AX.cT (decide (256≤(p1 / 2 ^ (32:Int).toNat))) b15 ?_
    refine AX.seq ?_
    obtain ⟨g16,h⟩:=aw h
    refine AX.rh [] [0,2] [] ⟨[(0,.v (.int .u64 ((p1 / 2 ^ (32:Int).toNat) / 2 ^ (8:Int).toNat))),(2,vi 32)],[]⟩ (pa g16 <| trivial) trivial ?_
    refine AX.rh [aN,.auto { raw:=true }] [0,2] [] ⟨[(0,.v (.int .u64 ((p1 / 2 ^ (32:Int).toNat) / 2 ^ (8:Int).toNat))),(2,vi (IntKind.wrap .i64 (32+8)))],[]⟩ trivial trivial ?_
    refine AX.seq ?_
    obtain ⟨v8,q17,h⟩:=bT h
    obtain ⟨g18,h⟩:=aw h
    obtain ⟨v9,q19,h⟩:=bT h
    refine AX.rh [aN,aN,.auto { y:=some (.v (.int .u8 v8)),raw:=true },aN,.auto { raw:=true },.auto { y:=some (vi v9),raw:=true }] [2] [] ⟨[(2,vi v9)],[]⟩ (pa (⟨trivial,(congrArg (fun z=>AV.v (.int .u8 z)) q17)⟩:((True)∧((.v (.int .u8 (IntKind.wrap .u8 ((p1 / 2 ^ (32:Int).toNat) / 2 ^ (8:Int).toNat))):AV)=(.v (.int .u8 v8):AV)))) <| pa g18 <| pa (⟨trivial,(congrArg (fun z=>vi z) q19)⟩:((True)∧((vi (IntKind.wrap .i64 ((IntKind.wrap .i64 (32+8))+(IntKind.wrap .i64 (aC lstr_c9535661 v8.toNat)))):AV)=(vi v9:AV)))) <| trivial) trivial ?_
    refine AX.ret ?_
    refine ae (Wk.fg [2] [] ⟨[(2,vi v9)],[]⟩) ?_
    have hr:=Option.some.inj h
    subst hr
    exact ⟨_,Wk.refl _,.inr rfl,⟨[],by kernel_rfl,trivial,[vi v9],by kernel_rfl,by kernel_rfl⟩⟩
   ·replace h:=aq b15 h
    refine AX.cF (decide (256≤(p1 / 2 ^ (32:Int).toNat))) b15 ?_
    refine AX.skip ?_
    refine AX.seq ?_
    obtain ⟨g20,h⟩:=aw h
    obtain ⟨v10,q21,h⟩:=bT h
    refine AX.rh [aN,aN,.auto { raw:=true },aY (.v (.int .u8 v10)),.auto { raw:=true },.auto { raw:=true }] [2] [] ⟨[(2,vi (IntKind.wrap .i64 (32+(IntKind.wrap .i64 (v10)))))],[]⟩ (pa (⟨g20,(congrArg (fun z=>AV.v (.int .u8 z)) q21)⟩:((0≤(IntKind.wrap .u8 (p1 / 2 ^ (32:Int).toNat))∧(IntKind.wrap .u8 (p1 / 2 ^ (32:Int).toNat))<(lstr_c9535661.size:Int))∧((.v (.int .u8 (aC lstr_c9535661 (IntKind.wrap .u8 (p1 / 2 ^ (32:Int).toNat)).toNat)):AV)=(.v (.int .u8 v10):AV)))) <| trivial) trivial ?_
    refine AX.ret ?_
    refine ae (Wk.fg [2] [] ⟨[(2,vi (IntKind.wrap .i64 (32+(IntKind.wrap .i64 (v10)))))],[]⟩) ?_
    have hr:=Option.some.inj h
    subst hr
    exact ⟨_,Wk.refl _,.inr rfl,⟨[],by kernel_rfl,trivial,[vi (IntKind.wrap .i64 (32+(IntKind.wrap .i64 (v10))))],by kernel_rfl,by kernel_rfl⟩⟩
 ·replace h:=aq b1 h
  refine AX.cF (decide (4294967296≤p1)) b1 ?_
  refine AX.skip ?_
  refine AX.seq ?_
  refine AX.si [] [0,2,8] [] ⟨[(0,.v (.int .u64 p1)),(2,vi 0),(8,vb (decide (65536≤p1)))],[]⟩ trivial trivial ?_
  rcases ac (decide (65536≤p1)) with b22 | b22
  ·replace h:=am b22 h
   refine AX.cT (decide (65536≤p1)) b22 ?_
   refine AX.seq ?_
   obtain ⟨g23,h⟩:=aw h
   refine AX.rh [] [0,2] [] ⟨[(0,.v (.int .u64 (p1 / 2 ^ (16:Int).toNat))),(2,vi 0)],[]⟩ (pa g23 <| trivial) trivial ?_
   refine AX.rh [aN,.auto { raw:=true }] [0,2] [] ⟨[(0,.v (.int .u64 (p1 / 2 ^ (16:Int).toNat))),(2,vi (IntKind.wrap .i64 (0+16)))],[]⟩ trivial trivial ?_
   refine AX.seq ?_
   refine AX.si [] [0,2,14] [] ⟨[(0,.v (.int .u64 (p1 / 2 ^ (16:Int).toNat))),(2,vi (IntKind.wrap .i64 (0+16))),(14,vb (decide (256≤(p1 / 2 ^ (16:Int).toNat))))],[]⟩ trivial trivial ?_
   rcases ac (decide (256≤(p1 / 2 ^ (16:Int).toNat))) with b24 | b24
   ·replace h:=am b24 h
    refine AX.cT (decide (256≤(p1 / 2 ^ (16:Int).toNat))) b24 ?_
    refine AX.seq ?_
    obtain ⟨g25,h⟩:=aw h
    refine AX.rh [] [0,2] [] ⟨[(0,.v (.int .u64 ((p1 / 2 ^ (16:Int).toNat) / 2 ^ (8:Int).toNat))),(2,vi (IntKind.wrap .i64 (0+16)))],[]⟩ (pa g25 <| trivial) trivial ?_
    refine AX.rh [aN,.auto { raw:=true }] [0,2] [] ⟨[(0,.v (.int .u64 ((p1 / 2 ^ (16:Int).toNat) / 2 ^ (8:Int).toNat))),(2,vi (IntKind.wrap .i64 ((IntKind.wrap .i64 (0+16))+8)))],[]⟩ trivial trivial ?_
    refine AX.seq ?_
    obtain ⟨v11,q26,h⟩:=bT h
    obtain ⟨g27,h⟩:=aw h
    obtain ⟨v12,q28,h⟩:=bT h
    refine AX.rh [aN,aN,.auto { y:=some (.v (.int .u8 v11)),raw:=true },aN,.auto { raw:=true },.auto { y:=some (vi v12),raw:=true }] [2] [] ⟨[(2,vi v12)],[]⟩ (pa (⟨trivial,(congrArg (fun z=>AV.v (.int .u8 z)) q26)⟩:((True)∧((.v (.int .u8 (IntKind.wrap .u8 ((p1 / 2 ^ (16:Int).toNat) / 2 ^ (8:Int).toNat))):AV)=(.v (.int .u8 v11):AV)))) <| pa g27 <| pa (⟨trivial,(congrArg (fun z=>vi z) q28)⟩:((True)∧((vi (IntKind.wrap .i64 ((IntKind.wrap .i64 ((IntKind.wrap .i64 (0+16))+8))+(IntKind.wrap .i64 (aC lstr_c9535661 v11.toNat)))):AV)=(vi v12:AV)))) <| trivial) trivial ?_
    refine AX.ret ?_
    refine ae (Wk.fg [2] [] ⟨[(2,vi v12)],[]⟩) ?_
    have hr:=Option.some.inj h
    subst hr
    exact ⟨_,Wk.refl _,.inr rfl,⟨[],by kernel_rfl,trivial,[vi v12],by kernel_rfl,by kernel_rfl⟩⟩
   ·replace h:=aq b24 h
    refine AX.cF (decide (256≤(p1 / 2 ^ (16:Int).toNat))) b24 ?_
    refine AX.skip ?_
    refine AX.seq ?_
    obtain ⟨g29,h⟩:=aw h
    obtain ⟨v13,q30,h⟩:=bT h
    obtain ⟨v14,q31,h⟩:=bT h
    refine AX.rh [aN,aN,.auto { raw:=true },aY (.v (.int .u8 v13)),.auto { raw:=true },.auto { y:=some (vi v14),raw:=true }] [2] [] ⟨[(2,vi v14)],[]⟩ (pa (⟨g29,(congrArg (fun z=>AV.v (.int .u8 z)) q30)⟩:((0≤(IntKind.wrap .u8 (p1 / 2 ^ (16:Int).toNat))∧(IntKind.wrap .u8 (p1 / 2 ^ (16:Int).toNat))<(lstr_c9535661.size:Int))∧((.v (.int .u8 (aC lstr_c9535661 (IntKind.wrap .u8 (p1 / 2 ^ (16:Int).toNat)).toNat)):AV)=(.v (.int .u8 v13):AV)))) <| pa (⟨trivial,(congrArg (fun z=>vi z) q31)⟩:((True)∧((vi (IntKind.wrap .i64 ((IntKind.wrap .i64 (0+16))+(IntKind.wrap .i64 (v13)))):AV)=(vi v14:AV)))) <| trivial) trivial ?_
    refine AX.ret ?_
    refine ae (Wk.fg [2] [] ⟨[(2,vi v14)],[]⟩) ?_
    have hr:=Option.some.inj h
    subst hr
    exact ⟨_,Wk.refl _,.inr rfl,⟨[],by kernel_rfl,trivial,[vi v14],by kernel_rfl,by kernel_rfl⟩⟩
  ·replace h:=aq b22 h
   refine AX.cF (decide (65536≤p1)) b22 ?_
   refine AX.skip ?_
   refine AX.seq ?_
   refine AX.si [] [0,2,14] [] ⟨[(0,.v (.int .u64 p1)),(2,vi 0),(14,vb (decide (256≤p1)))],[]⟩ trivial trivial ?_
   rcases ac (decide (256≤p1)) with b32 | b32
   ·replace h:=am b32 h
    refine AX.cT (decide (256≤p1)) b32 ?_
    refine AX.seq ?_
    obtain ⟨g33,h⟩:=aw h
    refine AX.rh [] [0,2] [] ⟨[(0,.v (.int .u64 (p1 / 2 ^ (8:Int).toNat))),(2,vi 0)],[]⟩ (pa g33 <| trivial) trivial ?_
    refine AX.rh [aN,.auto { raw:=true }] [0,2] [] ⟨[(0,.v (.int .u64 (p1 / 2 ^ (8:Int).toNat))),(2,vi (IntKind.wrap .i64 (0+8)))],[]⟩ trivial trivial ?_
    refine AX.seq ?_
    obtain ⟨g34,h⟩:=aw h
    obtain ⟨v15,q35,h⟩:=bT h
    obtain ⟨v16,q36,h⟩:=bT h
    refine AX.rh [aN,aN,.auto { raw:=true },aY (.v (.int .u8 v15)),.auto { raw:=true },.auto { y:=some (vi v16),raw:=true }] [2] [] ⟨[(2,vi v16)],[]⟩ (pa (⟨g34,(congrArg (fun z=>AV.v (.int .u8 z)) q35)⟩:((0≤(IntKind.wrap .u8 (p1 / 2 ^ (8:Int).toNat))∧(IntKind.wrap .u8 (p1 / 2 ^ (8:Int).toNat))<(lstr_c9535661.size:Int))∧((.v (.int .u8 (aC lstr_c9535661 (IntKind.wrap .u8 (p1 / 2 ^ (8:Int).toNat)).toNat)):AV)=(.v (.int .u8 v15):AV)))) <| pa (⟨trivial,(congrArg (fun z=>vi z) q36)⟩:((True)∧((vi (IntKind.wrap .i64 ((IntKind.wrap .i64 (0+8))+(IntKind.wrap .i64 (v15)))):AV)=(vi v16:AV)))) <| trivial) trivial ?_
    refine AX.ret ?_
    refine ae (Wk.fg [2] [] ⟨[(2,vi v16)],[]⟩) ?_
    have hr:=Option.some.inj h
    subst hr
    exact ⟨_,Wk.refl _,.inr rfl,⟨[],by kernel_rfl,trivial,[vi v16],by kernel_rfl,by kernel_rfl⟩⟩
   ·replace h:=aq b32 h
    refine AX.cF (decide (256≤p1)) b32 ?_
    refine AX.skip ?_
    refine AX.seq ?_
    obtain ⟨g37,h⟩:=aw h
    obtain ⟨v17,q38,h⟩:=bT h
    refine AX.rh [aN,aN,.auto { raw:=true },aN,.auto { y:=some (vi v17),raw:=true },.auto { raw:=true }] [2] [] ⟨[(2,vi (IntKind.wrap .i64 (0+v17)))],[]⟩ (pa g37 <| pa (⟨trivial,(congrArg (fun z=>vi z) q38)⟩:((True)∧((vi (IntKind.wrap .i64 (aC lstr_c9535661 (IntKind.wrap .u8 (p1)).toNat)):AV)=(vi v17:AV)))) <| trivial) trivial ?_
    refine AX.ret ?_
    refine ae (Wk.fg [2] [] ⟨[(2,vi (IntKind.wrap .i64 (0+v17)))],[]⟩) ?_
    have hr:=Option.some.inj h
    subst hr
    exact ⟨_,Wk.refl _,.inr rfl,⟨[],by kernel_rfl,trivial,[vi (IntKind.wrap .i64 (0+v17))],by kernel_rfl,by kernel_rfl⟩⟩

theorem kc (p1:Int) (r:Int) (h:ee p1=some r) :
  Eng.al Tryz.prog 73 [.v (.int .u64 p1)] [] (vi r) []:=by
 unfold ee at h
 refine Eng.al.body Tryz.func73 (by kernel_rfl) rfl (by kernel_rfl) ?_
 refine AX.wkpost ?_
 refine AX.si [] [0] [] ⟨[(0,.v (.int .u64 p1))],[]⟩ trivial trivial ?_
 refine AX.seq ?_
 refine AX.cond_false (by kernel_rfl) ?_
 refine AX.skip ?_
 refine AX.seq ?_
 obtain ⟨x2,e1,h⟩:=ak h
 refine AX.rh [aN,.call 115 [.v (.int .u64 p1)] hN (ah [] [] (vi x2) [])] [2] [] ⟨[(2,vi x2)],[]⟩ (pa (smA [.v (.int .u64 p1)]) <| trivial) ⟨co (qc p1 x2 e1) (.cons cS (.nil)),trivial⟩ ?_
 refine AX.ret ?_
 refine ae (Wk.fg [2] [] ⟨[(2,vi x2)],[]⟩) ?_
 have hr:=Option.some.inj h
 subst hr
 exact ⟨_,Wk.refl _,.inr rfl,⟨[],by kernel_rfl,trivial,[vi x2],by kernel_rfl,by kernel_rfl⟩⟩

theorem oX (p1:List (ByteArray×Int)) (r:Int) (h:fb p1=some r) :
  Eng.al Tryz.prog 72 [.bs false 2 (List.map aa p1)] [] (vi r) []:=by
 unfold fb at h
 refine Eng.al.body Tryz.func72 (by kernel_rfl) rfl (by kernel_rfl) ?_
 refine AX.wkpost ?_
 refine AX.si [] [0] [] ⟨[(0,.bs false 2 (List.map aa p1))],[]⟩ trivial trivial ?_
 refine AX.seq ?_
 obtain ⟨x2,e1,h⟩:=ak h
 obtain ⟨x3,e2,h⟩:=ak h
 obtain ⟨g3,h⟩:=aw h
 refine AX.rh [aN,.call 74 [.bs false 2 (List.map aa p1),vi 0] hN (ah [] [] (vi x2) []),aN,.auto { raw:=true },.call 73 [.v (.int .u64 (IntKind.wrap .u64 ((if x2>0 then x2 else 0))))] hN (ah [] [] (vi x3) [])] [2] [] ⟨[(2,vi (IntKind.wrap .i64 ((1:Int)*2 ^ x3.toNat)))],[]⟩ (pa (smA [.bs false 2 (List.map aa p1),vi 0]) <| pa (smA [.v (.int .u64 (IntKind.wrap .u64 ((if x2>0 then x2 else 0))))]) <| pa g3 <| trivial) ⟨co (sS p1 0 x2 e1) (.cons cS (.cons cS (.nil))),co (kc (IntKind.wrap .u64 ((if x2>0 then x2 else 0))) x3 e2) (.cons cS (.nil)),trivial⟩ ?_
 refine AX.ret ?_
 refine ae (Wk.fg [2] [] ⟨[(2,vi (IntKind.wrap .i64 ((1:Int)*2 ^ x3.toNat)))],[]⟩) ?_
 have hr:=Option.some.inj h
 subst hr
 exact ⟨_,Wk.refl _,.inr rfl,⟨[],by kernel_rfl,trivial,[vi (IntKind.wrap .i64 ((1:Int)*2 ^ x3.toNat))],by kernel_rfl,by kernel_rfl⟩⟩

theorem zQ (p1:List (ByteArray×Int)) (r:Unit) (h:lP p1=some r) :
  Eng.al Tryz.prog 113 [.bs false 2 (List.map aa p1)] [] (.bs false 2 (List.map aa (sub p1 (0:Int) (p1.length:Int)))) []:=by
 unfold lP at h
 refine Eng.al.body Tryz.func113 (by kernel_rfl) rfl (by kernel_rfl) ?_
 refine AX.wkpost ?_
 refine AX.si [] [0] [] ⟨[(0,.bs false 2 (List.map aa p1))],[]⟩ trivial trivial ?_
 refine AX.seq ?_
 obtain ⟨g1,h⟩:=aw h
 refine AX.rg [aN,aN,aY (vi (p1.length:Int)),aN,aY (vi (p1.length:Int)),.auto { y:=some (.bs false 2 (List.map aa (sub p1 (0:Int) (p1.length:Int)))) }] [2] [] ⟨[(2,.bs false 2 (List.map aa (sub p1 (0:Int) (p1.length:Int))))],[]⟩ ((True∧(vi ((List.map aa p1).length:Int)=vi (p1.length:Int)))∧(True∧(vi ((List.map aa p1).length:Int)=vi (p1.length:Int)))∧((0≤(0:Int)∧(0:Int)≤(p1.length:Int)∧(p1.length:Int)≤(p1.length:Int)∧(p1.length:Int)≤((List.map aa p1).length:Int))∧(AV.bs false 2 (((List.map aa p1).drop (0:Int).toNat).take ((p1.length:Int).toNat - (0:Int).toNat))=(.bs false 2 (List.map aa (sub p1 (0:Int) (p1.length:Int))):AV)))∧True) ⟨⟨trivial,aS aa p1⟩,⟨trivial,aS aa p1⟩,⟨by first | exact g1 | simpa only [List.length_map] using g1,by first | exact iA aa p1 (0:Int) (p1.length:Int) false 2 | (simp only [List.length_map];exact iA aa p1 (0:Int) (p1.length:Int) false 2)⟩,trivial⟩ trivial ?_
 refine AX.ret ?_
 refine ae (Wk.fg [2] [] ⟨[(2,.bs false 2 (List.map aa (sub p1 (0:Int) (p1.length:Int))))],[]⟩) ?_
 have hr:=Option.some.inj h
 subst hr
 exact ⟨_,Wk.refl _,.inr rfl,⟨[],by kernel_rfl,trivial,[.bs false 2 (List.map aa (sub p1 (0:Int) (p1.length:Int)))],by kernel_rfl,by kernel_rfl⟩⟩

theorem lj (p1:List (ByteArray×Int)) (r:Unit) (h:fC p1=some r) :
  Eng.al Tryz.prog 113 [.sl 0 0 p1.length] [.arr 2 (List.map aa p1)] (.sl 0 0 p1.length) [.arr 2 (List.map aa p1)]:=by
 unfold fC at h
 refine Eng.al.body Tryz.func113 (by kernel_rfl) rfl (by kernel_rfl) ?_
 refine AX.wkpost ?_
 refine AX.si [] [0] [0] ⟨[(0,.sl 0 0 p1.length)],[(0,.arr 2 (List.map aa p1))]⟩ trivial trivial ?_
 refine AX.si [aN,aN,aN,aN,aN,aY (.sl 0 0 p1.length)] [2] [0] ⟨[(2,.sl 0 0 p1.length)],[(0,.arr 2 (List.map aa p1))]⟩ (pa (⟨⟨by omega,by omega,by omega,by omega⟩,rfl⟩:((0≤(0:Int)∧(0:Int)≤(p1.length:Int)∧(p1.length:Int)≤(p1.length:Int)∧(p1.length:Int)≤(p1.length:Int))∧(AV.sl 0 (0+(0:Int).toNat) ((p1.length:Int).toNat - (0:Int).toNat)=AV.sl 0 0 p1.length))) <| trivial) trivial ?_
 refine AX.ret ?_
 refine ae (Wk.fg [2] [0] ⟨[(2,.sl 0 0 p1.length)],[(0,.arr 2 (List.map aa p1))]⟩) ?_
 have hr:=Option.some.inj h
 subst hr
 exact ⟨_,Wk.refl _,.inr rfl,⟨[],by kernel_rfl,⟨rfl,trivial⟩,[.sl 0 0 p1.length],by kernel_rfl,by kernel_rfl⟩⟩

theorem kT (p1:List (ByteArray×Bool×Int)) (n:Nat) (g:(List (ByteArray×Int))×Int) (out:Unit ⊕ List (ByteArray×Int)) (h:bq p1 n g.1 g.2=some out) :
  AX Tryz.prog 35 0 (codeAt [1,1,0,1,1] (aU Tryz.f71)) ((fun g:(List (ByteArray×Int))×Int=>(⟨[(1,.fn 72 []),(6,.sl 0 0 g.1.length),(9,.bs false 3 (List.map ag p1)),(10,vi (p1.length:Int)),(11,vi g.2)],[(0,.arr 2 (List.map aa g.1))]⟩:S)) g) (fun ex s=>(∃ o:Unit,out=Sum.inl o∧ex=.ret∧s=⟨[(4,.v (.slice none 0 0)),(5,vb false)],[]⟩)∨(∃ o:List (ByteArray×Int),out=Sum.inr o∧ex=.exit 0∧s=⟨[(6,.sl 0 0 o.length)],[(0,.arr 2 (List.map aa o))]⟩)):=by
 refine AX.wkpost ?_
 refine AX.loop (G:=Nat×((List (ByteArray×Int))×Int)) (fun q=>(fun g:(List (ByteArray×Int))×Int=>(⟨[(1,.fn 72 []),(6,.sl 0 0 g.1.length),(9,.bs false 3 (List.map ag p1)),(10,vi (p1.length:Int)),(11,vi g.2)],[(0,.arr 2 (List.map aa g.1))]⟩:S)) q.2) (fun q=>bq p1 q.1 q.2.1 q.2.2=some out) (fun q=>q.1) (n,g) h (Wk.refl _) ?_
 clear h
 rintro ⟨fu,v2,v3⟩ h
 cases fu with
 | zero=>cases h
 | succ fu =>
  rw [bq] at h
  refine AX.si [] [1,6,9,10,11,12] [0] ⟨[(1,.fn 72 []),(6,.sl 0 0 v2.length),(9,.bs false 3 (List.map ag p1)),(10,vi (p1.length:Int)),(11,vi v3),(12,vb (decide (v3<(p1.length:Int))))],[(0,.arr 2 (List.map aa v2))]⟩ trivial trivial ?_
  refine AX.seq ?_
  rcases ac (decide (v3<(p1.length:Int))) with b1 | b1
  ·replace h:=am b1 h
   refine AX.cT (decide (v3<(p1.length:Int))) b1 ?_
   refine AX.skip ?_
   refine AX.seq ?_
   refine AX.block ?_
   refine AX.seq ?_
   obtain ⟨g2,h⟩:=aw h
   refine AX.rh [aY (.be 3 (ag (gt p1 v3)) 0),aN,.auto { nk:=1 }] [1,6,8,9,10,11] [0,1] ⟨[(1,.fn 72 []),(6,.sl 0 0 v2.length),(8,.pt 1 0),(9,.bs false 3 (List.map ag p1)),(10,vi (p1.length:Int)),(11,vi v3)],[(0,.arr 2 (List.map aa v2)),(1,.box [vs ((gt p1 v3).1),vb ((gt p1 v3).2.1),vi ((gt p1 v3).2.2)])]⟩ (pa (aJ ag p1 v3 3 g2) <| trivial) trivial ?_
   refine AX.seq ?_
   refine AX.si [] [1,6,8,9,10,11,16] [0,1] ⟨[(1,.fn 72 []),(6,.sl 0 0 v2.length),(8,.pt 1 0),(9,.bs false 3 (List.map ag p1)),(10,vi (p1.length:Int)),(11,vi v3),(16,vb ((gt p1 v3).2.1))],[(0,.arr 2 (List.map aa v2)),(1,.box [vs ((gt p1 v3).1),vb ((gt p1 v3).2.1),vi ((gt p1 v3).2.2)])]⟩ trivial trivial ?_
   rcases ac ((gt p1 v3).2.1) with b3 | b3
   ·replace h:=am b3 h
    refine AX.cT ((gt p1 v3).2.1) b3 ?_
    refine AX.seq ?_
    refine AX.si [] [1,6,8,9,10,11,19] [0,1] ⟨[(1,.fn 72 []),(6,.sl 0 0 v2.length),(8,.pt 1 0),(9,.bs false 3 (List.map ag p1)),(10,vi (p1.length:Int)),(11,vi v3),(19,vb (!decide (((gt p1 v3).2.2)=0)))],[(0,.arr 2 (List.map aa v2)),(1,.box [vs ((gt p1 v3).1),vb ((gt p1 v3).2.1),vi ((gt p1 v3).2.2)])]⟩ trivial trivial ?_
    rcases ac ((!decide (((gt p1 v3).2.2)=0))) with b4 | b4
    ·replace h:=am b4 h
     refine AX.cT ((!decide (((gt p1 v3).2.2)=0))) b4 ?_
     refine AX.si [] [4,5] [] ⟨[(4,.v (.slice none 0 0)),(5,vb false)],[]⟩ trivial trivial ?_
     refine AX.ret ?_
     refine ae (Wk.fg [4,5] [] ⟨[(4,.v (.slice none 0 0)),(5,vb false)],[]⟩) ?_
     have hr:=Option.some.inj h
     subst hr
     exact ⟨_,Wk.refl _,.inl ⟨(),rfl,rfl,rfl⟩⟩
    ·replace h:=aq b4 h
     refine AX.cF ((!decide (((gt p1 v3).2.2)=0))) b4 ?_
     refine AX.skip ?_
     obtain ⟨x4,e5,h⟩:=ak h
     refine AX.rh [aN,aN,.call 72 [.sl 0 0 v2.length] (aD (rho ([]++[])) [] []++[(0,.arr 2 (List.map aa v2))]) (ah [] [] (vi x4) [])] [1,6,8,9,10,11] [0,1] ⟨[(1,.fn 72 []),(6,.sl 0 0 v2.length),(8,.pt 1 0),(9,.bs false 3 (List.map ag p1)),(10,vi (p1.length:Int)),(11,vi v3)],[(0,.arr 2 (List.map aa v2)),(1,.box [vs ((gt p1 v3).1),vb ((gt p1 v3).2.1),vi x4])]⟩ (pa (⟨rfl,rfl,trivial⟩:((([.sl 0 0 v2.length]:List AV)=[.sl 0 0 v2.length])∧(AO.arr 2 (List.map aa v2)=AO.arr 2 (List.map aa v2))∧True)) <| trivial) ⟨aA (ks:=[]) (ns:=[]) (bor:=[0]) (bobjs:=[(0,.arr 2 (List.map aa v2))]) (oX v2 x4 e5) (.cons (.c1 (.c0 (.arr rfl rfl ((rfl).trans (List.length_map ..).symm)))) (.nil)) (by kernel_rfl) trivial,trivial⟩ ?_
     obtain ⟨g6,h⟩:=aw h
     refine AX.rh [aN,aN,aN,aN,aN,aN,.auto { nk:=2 },.auto { y:=some (.sl 3 0 ((v2++([((gt p1 v3).1,x4)]:List (ByteArray×Int))).length)),els:=some (List.map aa v2),els2:=some (List.map aa ([((gt p1 v3).1,x4)]:List (ByteArray×Int))),nk:=3 }] [1,6,9,10,11] [3] ⟨[(1,.fn 72 []),(6,.sl 3 0 ((v2++([((gt p1 v3).1,x4)]:List (ByteArray×Int))).length)),(9,.bs false 3 (List.map ag p1)),(10,vi (p1.length:Int)),(11,vi v3)],[(3,.arr 2 (List.map aa v2++List.map aa ([((gt p1 v3).1,x4)]:List (ByteArray×Int))))]⟩ (pa (⟨⟨⟨(bc (enc:=aa) rfl rfl),(bc (enc:=aa) rfl rfl)⟩,(by simp only [List.length_map,List.length_nil,List.length_replicate];simpa using g6)⟩,cj (enc:=aa) (aH (enc:=aa) rfl (rfl))⟩:((((((List.map aa v2).drop 0).take (v2.length)=List.map aa v2)∧(((List.map aa ([((gt p1 v3).1,x4)]:List (ByteArray×Int))).drop 0).take (([((gt p1 v3).1,x4)]:List (ByteArray×Int)).length)=List.map aa ([((gt p1 v3).1,x4)]:List (ByteArray×Int))))∧(List.map aa v2).length+(List.map aa ([((gt p1 v3).1,x4)]:List (ByteArray×Int))).length≤1099511627776)∧(AV.sl 3 0 (List.map aa v2++List.map aa ([((gt p1 v3).1,x4)]:List (ByteArray×Int))).length=AV.sl 3 0 (v2++([((gt p1 v3).1,x4)]:List (ByteArray×Int))).length))) <| trivial) trivial ?_
     refine AX.rh [.auto { raw:=true }] [1,6,9,10,11] [3] ⟨[(1,.fn 72 []),(6,.sl 3 0 ((v2++([((gt p1 v3).1,x4)]:List (ByteArray×Int))).length)),(9,.bs false 3 (List.map ag p1)),(10,vi (p1.length:Int)),(11,vi (IntKind.wrap .i64 (v3+1)))],[(3,.arr 2 (List.map aa v2++List.map aa ([((gt p1 v3).1,x4)]:List (ByteArray×Int))))]⟩ trivial trivial ?_
     refine ⟨(fu,(v2++([((gt p1 v3).1,x4)]:List (ByteArray×Int)),IntKind.wrap .i64 (v3+1))),h,Nat.lt_succ_self _,?_⟩
     refine Wk.trans (Wk.swap 0 3 (Nat.le_of_ble_eq_true (by kernel_rfl)) (Nat.le_of_ble_eq_true (by kernel_rfl)) rfl) ?_
     refine Wk.trans (Wk.fg [1,6,9,10,11] [0] ⟨[(1,.fn 72 []),(6,.sl 0 0 ((v2++([((gt p1 v3).1,x4)]:List (ByteArray×Int))).length)),(9,.bs false 3 (List.map ag p1)),(10,vi (p1.length:Int)),(11,vi (IntKind.wrap .i64 (v3+1)))],[(0,.arr 2 (List.map aa v2++List.map aa ([((gt p1 v3).1,x4)]:List (ByteArray×Int))))]⟩) ?_
     refine Wk.trans (Wk.of_eq (congrArg (fun z=>(⟨[(1,.fn 72 []),(6,.sl 0 0 ((v2++([((gt p1 v3).1,x4)]:List (ByteArray×Int))).length)),(9,.bs false 3 (List.map ag p1)),(10,vi (p1.length:Int)),(11,vi (IntKind.wrap .i64 (v3+1)))],[(0,.arr 2 (z))]⟩:S)) (aH (enc:=aa) rfl (rfl):List.map aa v2++List.map aa ([((gt p1 v3).1,x4)]:List (ByteArray×Int))=List.map aa (v2++([((gt p1 v3).1,x4)]:List (ByteArray×Int)))))) ?_
     exact Wk.refl _
   ·replace h:=aq b3 h
    refine AX.cF ((gt p1 v3).2.1) b3 ?_
    refine AX.skip ?_
    obtain ⟨g7,h⟩:=aw h
    refine AX.rh [aN,aN,aN,aN,aN,aN,.auto { nk:=2 },.auto { y:=some (.sl 3 0 ((v2++([((gt p1 v3).1,(gt p1 v3).2.2)]:List (ByteArray×Int))).length)),els:=some (List.map aa v2),els2:=some (List.map aa ([((gt p1 v3).1,(gt p1 v3).2.2)]:List (ByteArray×Int))),nk:=3 }] [1,6,9,10,11] [3] ⟨[(1,.fn 72 []),(6,.sl 3 0 ((v2++([((gt p1 v3).1,(gt p1 v3).2.2)]:List (ByteArray×Int))).length)),(9,.bs false 3 (List.map ag p1)),(10,vi (p1.length:Int)),(11,vi v3)],[(3,.arr 2 (List.map aa v2++List.map aa ([((gt p1 v3).1,(gt p1 v3).2.2)]:List (ByteArray×Int))))]⟩ (pa (⟨⟨⟨(bc (enc:=aa) rfl rfl),(bc (enc:=aa) rfl rfl)⟩,(by simp only [List.length_map,List.length_nil,List.length_replicate];simpa using g7)⟩,cj (enc:=aa) (aH (enc:=aa) rfl (rfl))⟩:((((((List.map aa v2).drop 0).take (v2.length)=List.map aa v2)∧(((List.map aa ([((gt p1 v3).1,(gt p1 v3).2.2)]:List (ByteArray×Int))).drop 0).take (([((gt p1 v3).1,(gt p1 v3).2.2)]:List (ByteArray×Int)).length)=List.map aa ([((gt p1 v3).1,(gt p1 v3).2.2)]:List (ByteArray×Int))))∧(List.map aa v2).length+(List.map aa ([((gt p1 v3).1,(gt p1 v3).2.2)]:List (ByteArray×Int))).length≤1099511627776)∧(AV.sl 3 0 (List.map aa v2++List.map aa ([((gt p1 v3).1,(gt p1 v3).2.2)]:List (ByteArray×Int))).length=AV.sl 3 0 (v2++([((gt p1 v3).1,(gt p1 v3).2.2)]:List (ByteArray×Int))).length))) <| trivial) trivial ?_
    refine AX.rh [.auto { raw:=true }] [1,6,9,10,11] [3] ⟨[(1,.fn 72 []),(6,.sl 3 0 ((v2++([((gt p1 v3).1,(gt p1 v3).2.2)]:List (ByteArray×Int))).length)),(9,.bs false 3 (List.map ag p1)),(10,vi (p1.length:Int)),(11,vi (IntKind.wrap .i64 (v3+1)))],[(3,.arr 2 (List.map aa v2++List.map aa ([((gt p1 v3).1,(gt p1 v3).2.2)]:List (ByteArray×Int))))]⟩ trivial trivial ?_
    refine ⟨(fu,(v2++([((gt p1 v3).1,(gt p1 v3).2.2)]:List (ByteArray×Int)),IntKind.wrap .i64 (v3+1))),h,Nat.lt_succ_self _,?_⟩
    refine Wk.trans (Wk.swap 0 3 (Nat.le_of_ble_eq_true (by kernel_rfl)) (Nat.le_of_ble_eq_true (by kernel_rfl)) rfl) ?_
    refine Wk.trans (Wk.fg [1,6,9,10,11] [0] ⟨[(1,.fn 72 []),(6,.sl 0 0 ((v2++([((gt p1 v3).1,(gt p1 v3).2.2)]:List (ByteArray×Int))).length)),(9,.bs false 3 (List.map ag p1)),(10,vi (p1.length:Int)),(11,vi (IntKind.wrap .i64 (v3+1)))],[(0,.arr 2 (List.map aa v2++List.map aa ([((gt p1 v3).1,(gt p1 v3).2.2)]:List (ByteArray×Int))))]⟩) ?_
    refine Wk.trans (Wk.of_eq (congrArg (fun z=>(⟨[(1,.fn 72 []),(6,.sl 0 0 ((v2++([((gt p1 v3).1,(gt p1 v3).2.2)]:List (ByteArray×Int))).length)),(9,.bs false 3 (List.map ag p1)),(10,vi (p1.length:Int)),(11,vi (IntKind.wrap .i64 (v3+1)))],[(0,.arr 2 (z))]⟩:S)) (aH (enc:=aa) rfl (rfl):List.map aa v2++List.map aa ([((gt p1 v3).1,(gt p1 v3).2.2)]:List (ByteArray×Int))=List.map aa (v2++([((gt p1 v3).1,(gt p1 v3).2.2)]:List (ByteArray×Int)))))) ?_
    exact Wk.refl _
  ·replace h:=aq b1 h
   refine AX.cF (decide (v3<(p1.length:Int))) b1 ?_
   refine AX.exit ?_
   refine ae (Wk.fg [6] [0] ⟨[(6,.sl 0 0 v2.length)],[(0,.arr 2 (List.map aa v2))]⟩) ?_
   have hr:=Option.some.inj h
   subst hr
   exact ⟨_,Wk.refl _,.inr ⟨v2,rfl,rfl,rfl⟩⟩

theorem lR (p1:List (ByteArray×Bool×Int)) (r:(List (ByteArray×Int))×Bool) (h:dj p1=some r) :
  Eng.al Tryz.prog 71 [.bs false 3 (List.map ag p1),.fn 72 []] [] (.tup [.sl 0 0 r.1.length,vb r.2]) [.arr 2 (List.map aa r.1)]:=by
 unfold dj at h
 refine Eng.al.body Tryz.func71 (by kernel_rfl) rfl (by kernel_rfl) ?_
 refine AX.wkpost ?_
 refine AX.si [] [0,1] [] ⟨[(0,.bs false 3 (List.map ag p1)),(1,.fn 72 [])],[]⟩ trivial trivial ?_
 refine AX.si [] [0,1,6] [] ⟨[(0,.bs false 3 (List.map ag p1)),(1,.fn 72 []),(6,.v (.slice none 0 0))],[]⟩ trivial trivial ?_
 refine AX.seq ?_
 refine AX.si [aN,aY (vi (p1.length:Int))] [1,6,9,10,11] [] ⟨[(1,.fn 72 []),(6,.v (.slice none 0 0)),(9,.bs false 3 (List.map ag p1)),(10,vi (p1.length:Int)),(11,vi 0)],[]⟩ (pa (⟨trivial,aS ag p1⟩:(True∧(vi ((List.map ag p1).length:Int)=vi (p1.length:Int)))) <| trivial) trivial ?_
 refine AX.block ?_
 obtain ⟨x5,e8,h⟩:=ak h
 refine AX.wk (Wk.mat 6 0 2 (by kernel_rfl) (Nat.le_of_ble_eq_true (by kernel_rfl)) (by kernel_rfl) rfl) ?_
 refine AX.wk (Wk.fg [1,6,9,10,11] [0] ⟨[(1,.fn 72 []),(6,.sl 0 0 (([]:List (ByteArray×Int)).length)),(9,.bs false 3 (List.map ag p1)),(10,vi (p1.length:Int)),(11,vi 0)],[(0,.arr 2 (List.map aa ([]:List (ByteArray×Int))))]⟩) ?_
 refine AX.mono (kT p1 FU (([]:List (ByteArray×Int)),0) x5 e8) ?_
 rintro _ _ (⟨x6,rfl,rfl,rfl⟩ | ⟨x7,rfl,rfl,rfl⟩)
 ·replace h:=eL h
  refine ae (Wk.mat 4 0 2 (by kernel_rfl) (Nat.le_of_ble_eq_true (by kernel_rfl)) (by kernel_rfl) rfl) ?_
  refine ae (Wk.fg [4,5] [0] ⟨[(4,.sl 0 0 (([]:List (ByteArray×Int)).length)),(5,vb false)],[(0,.arr 2 (List.map aa ([]:List (ByteArray×Int))))]⟩) ?_
  have hr:=Option.some.inj h
  subst hr
  exact ⟨_,Wk.refl _,.inr rfl,⟨[0],by kernel_rfl,⟨rfl,trivial⟩,[.sl 0 0 (([]:List (ByteArray×Int)).length),vb false],by kernel_rfl,by kernel_rfl⟩⟩
 ·replace h:=eU h
  refine AX.seq ?_
  obtain ⟨x8,e9,h⟩:=ak h
  refine AX.rh [aN,.call 113 [.sl 0 0 x7.length] (aD (rho ([0]++[])) [0] [.arr 2 (List.map aa x7)]++[]) (ah [0] [] (.sl 0 0 x7.length) [.arr 2 (List.map aa x7)])] [4,5] [0] ⟨[(4,.sl 0 0 x7.length),(5,vb true)],[(0,.arr 2 (List.map aa x7))]⟩ (pa (⟨rfl,rfl,trivial⟩:((([.sl 0 0 x7.length]:List AV)=[.sl 0 0 x7.length])∧(AO.arr 2 (List.map aa x7)=AO.arr 2 (List.map aa x7))∧True)) <| trivial) ⟨aA (ks:=[0]) (ns:=[]) (bor:=[]) (bobjs:=[]) (lj x7 x8 e9) (.cons cS (.nil)) (by kernel_rfl) ⟨.inr rfl,trivial⟩,trivial⟩ ?_
  refine AX.ret ?_
  refine ae (Wk.fg [4,5] [0] ⟨[(4,.sl 0 0 x7.length),(5,vb true)],[(0,.arr 2 (List.map aa x7))]⟩) ?_
  have hr:=Option.some.inj h
  subst hr
  exact ⟨_,Wk.refl _,.inr rfl,⟨[0],by kernel_rfl,⟨rfl,trivial⟩,[.sl 0 0 x7.length,vb true],by kernel_rfl,by kernel_rfl⟩⟩

theorem lh (p1:List (ByteArray×Int)) (r:List (ByteArray×Int)) (h:eg p1=some r) :
  Eng.al Tryz.prog 142 [.bs false 2 (List.map aa p1)] [] (.sl 0 0 r.length) [.arr 2 (List.map aa r)]:=by
 unfold eg at h
 obtain ⟨g1,h⟩:=aw h
 have hr:=Option.some.inj h
 subst hr
 refine Eng.al.body Tryz.func142 (by kernel_rfl) rfl (by kernel_rfl) ?_
 refine AX.wkpost ?_
 refine AX.si [] [0] [] ⟨[(0,.bs false 2 (List.map aa p1))],[]⟩ trivial trivial ?_
 refine AX.nilEq (l:=false) (sz:=2) (es:=(List.map aa p1)) (s0:=(⟨[(2,.sl 1 0 p1.length)],[(1,.arr 2 (List.map aa p1))]⟩:S)) .ret rfl rfl rfl rfl rfl rfl Tryz.underlying36 (by kernel_rfl) (by kernel_rfl) (by kernel_rfl) ⟨_,Wk.refl _,.inr rfl,⟨[1],by kernel_rfl,⟨rfl,trivial⟩,[.sl 1 0 p1.length],by kernel_rfl,by kernel_rfl⟩⟩ ?_
 intro b hb
 rcases ac b with h1 | h1
 ·subst h1
  have hp:p1=[]:=by simpa using hb rfl
  subst hp
  refine AX.cT true rfl ?_
  refine AX.si [] [2] [] ⟨[(2,.v (.slice none 0 0))],[]⟩ trivial trivial ?_
  refine AX.wk (Wk.mat 2 1 2 (by kernel_rfl) (Nat.le_of_ble_eq_true (by kernel_rfl)) (by kernel_rfl) rfl) ?_
  refine AX.wk (Wk.fg [2] [1] ⟨[(2,.sl 1 0 0)],[(1,.arr 2 [])]⟩) ?_
  exact AX.ret ⟨rfl,rfl⟩
 ·subst h1
  refine AX.cF false rfl ?_
  refine AX.skip ?_
  refine AX.si [.auto { nk:=0 },aN,.auto { y:=some (.sl 1 0 p1.length),nk:=1 }] [2] [1] ⟨[(2,.sl 1 0 p1.length)],[(1,.arr 2 (List.map aa p1))]⟩ (pa (⟨⟨⟨trivial,trivial⟩,by simpa using g1⟩,cj (enc:=aa) rfl⟩:((((True)∧(True))∧(([]:List (List Value)).length+(List.map aa p1).length≤1099511627776))∧(AV.sl 1 0 (List.map aa p1).length=AV.sl 1 0 p1.length))) <| trivial) trivial ?_
  exact AX.ret ⟨rfl,rfl⟩

theorem sK (p1:List (ByteArray×Int)) (r:List (ByteArray×Int)) (h:gx p1=some r) :
  Eng.al Tryz.prog 116 [.bs false 2 (List.map aa p1)] [] (.sl 0 0 r.length) [.arr 2 (List.map aa r)]:=by
 unfold gx at h
 refine Eng.al.body Tryz.func116 (by kernel_rfl) rfl (by kernel_rfl) ?_
 refine AX.wkpost ?_
 refine AX.si [] [0] [] ⟨[(0,.bs false 2 (List.map aa p1))],[]⟩ trivial trivial ?_
 refine AX.seq ?_
 obtain ⟨x2,e1,h⟩:=ak h
 obtain ⟨x3,e2,h⟩:=ak h
 refine AX.rh [aN,.call 142 [.bs false 2 (List.map aa p1)] (aD (rho ([]++[0])) [] []++[]) (ah [] [0] (.sl 0 0 x2.length) [.arr 2 (List.map aa x2)]),.call 113 [.sl 0 0 x2.length] (aD (rho ([0]++[])) [0] [.arr 2 (List.map aa x2)]++[]) (ah [0] [] (.sl 0 0 x2.length) [.arr 2 (List.map aa x2)])] [2] [0] ⟨[(2,.sl 0 0 x2.length)],[(0,.arr 2 (List.map aa x2))]⟩ (pa (smA [.bs false 2 (List.map aa p1)]) <| pa (⟨rfl,rfl,trivial⟩:((([.sl 0 0 x2.length]:List AV)=[.sl 0 0 x2.length])∧(AO.arr 2 (List.map aa x2)=AO.arr 2 (List.map aa x2))∧True)) <| trivial) ⟨aA (ks:=[]) (ns:=[0]) (bor:=[]) (bobjs:=[]) (lh p1 x2 e1) (.cons cS (.nil)) (by kernel_rfl) trivial,aA (ks:=[0]) (ns:=[]) (bor:=[]) (bobjs:=[]) (lj x2 x3 e2) (.cons cS (.nil)) (by kernel_rfl) ⟨.inr rfl,trivial⟩,trivial⟩ ?_
 refine AX.ret ?_
 refine ae (Wk.fg [2] [0] ⟨[(2,.sl 0 0 x2.length)],[(0,.arr 2 (List.map aa x2))]⟩) ?_
 have hr:=Option.some.inj h
 subst hr
 exact ⟨_,Wk.refl _,.inr rfl,⟨[0],by kernel_rfl,⟨rfl,trivial⟩,[.sl 0 0 x2.length],by kernel_rfl,by kernel_rfl⟩⟩

theorem fJ (p1:Int) (p2:Int) (p3:Int) (r:Bool) (h:fL p1 p2 p3=some r) :
  Eng.al Tryz.prog 78 [vi p1,vi p2,vi p3] [] (vb r) []:=by
 unfold fL at h
 refine Eng.al.body Tryz.func78 (by kernel_rfl) rfl (by kernel_rfl) ?_
 refine AX.wkpost ?_
 refine AX.si [] [0,1,2] [] ⟨[(0,vi p1),(1,vi p2),(2,vi p3)],[]⟩ trivial trivial ?_
 refine AX.seq ?_
 rcases ac (decide (p2≤p1)) with b1 | b1
 ·replace h:=am b1 h
  refine AX.rh [aN,aN,aY (vb true)] [6] [] ⟨[(6,vb (decide (p1≤p3)))],[]⟩ (pa (pb (cb b1)) <| trivial) trivial ?_
  refine AX.ret ?_
  refine ae (Wk.fg [6] [] ⟨[(6,vb (decide (p1≤p3)))],[]⟩) ?_
  have hr:=Option.some.inj h
  subst hr
  exact ⟨_,Wk.refl _,.inr rfl,⟨[],by kernel_rfl,trivial,[vb (decide (p1≤p3))],by kernel_rfl,by kernel_rfl⟩⟩
 ·replace h:=aq b1 h
  refine AX.rh [aN,aN,aY (vb false)] [6] [] ⟨[(6,vb false)],[]⟩ (pa (pb (cb b1)) <| trivial) trivial ?_
  refine AX.ret ?_
  refine ae (Wk.fg [6] [] ⟨[(6,vb false)],[]⟩) ?_
  have hr:=Option.some.inj h
  subst hr
  exact ⟨_,Wk.refl _,.inr rfl,⟨[],by kernel_rfl,trivial,[vb false],by kernel_rfl,by kernel_rfl⟩⟩

theorem oo (p1:ByteArray) (n:Nat) (g:Int) (out:Unit ⊕ Unit) (h:dc p1 n g=some out) :
  AX Tryz.prog 23 0 (codeAt [1,0,1,1] (aU Tryz.f146)) ((fun g:Int=>(⟨[(0,vs p1),(3,vi g)],[]⟩:S)) g) (fun ex s=>(∃ o:Unit,out=Sum.inl o∧ex=.ret∧s=⟨[(2,vb false)],[]⟩)∨(∃ o:Unit,out=Sum.inr o∧ex=.exit 0∧s=⟨[(0,vs p1)],[]⟩)):=by
 refine AX.wkpost ?_
 refine AX.loop (G:=Nat×(Int)) (fun q=>(fun g:Int=>(⟨[(0,vs p1),(3,vi g)],[]⟩:S)) q.2) (fun q=>dc p1 q.1 q.2=some out) (fun q=>q.1) (n,g) h (Wk.refl _) ?_
 clear h
 rintro ⟨fu,v2⟩ h
 cases fu with
 | zero=>cases h
 | succ fu =>
  rw [dc] at h
  refine AX.seq ?_
  refine AX.si [] [0,3,7] [] ⟨[(0,vs p1),(3,vi v2),(7,vb (decide (v2<(p1.size:Int))))],[]⟩ trivial trivial ?_
  rcases ac (decide (v2<(p1.size:Int))) with b1 | b1
  ·replace h:=am b1 h
   refine AX.cT (decide (v2<(p1.size:Int))) b1 ?_
   refine AX.skip ?_
   refine AX.seq ?_
   refine AX.block ?_
   refine AX.seq ?_
   obtain ⟨g2,h⟩:=aw h
   rcases ac (decide ((aC p1 v2.toNat)<97)) with b3 | b3
   ·replace h:=am b3 h
    refine AX.rh [aN,aN,aN,aY (vb true)] [0,3,19] [] ⟨[(0,vs p1),(3,vi v2),(19,vb true)],[]⟩ (pa g2 <| pa (pb (cb b3)) <| trivial) trivial ?_
    refine AX.cond_true (by kernel_rfl) ?_
    refine AX.si [] [2] [] ⟨[(2,vb false)],[]⟩ trivial trivial ?_
    refine AX.ret ?_
    refine ae (Wk.fg [2] [] ⟨[(2,vb false)],[]⟩) ?_
    have hr:=Option.some.inj h
    subst hr
    exact ⟨_,Wk.refl _,.inl ⟨(),rfl,rfl,rfl⟩⟩
   ·replace h:=aq b3 h
    refine AX.rh [aN,aN,aN,aY (vb false)] [0,3,19] [] ⟨[(0,vs p1),(3,vi v2),(19,vb (decide (122<(aC p1 v2.toNat))))],[]⟩ (pa g2 <| pa (pb (cb b3)) <| pa g2 <| trivial) trivial ?_
    rcases ac (decide (122<(aC p1 v2.toNat))) with b4 | b4
    ·replace h:=am b4 h
     refine AX.cT (decide (122<(aC p1 v2.toNat))) b4 ?_
     refine AX.si [] [2] [] ⟨[(2,vb false)],[]⟩ trivial trivial ?_
     refine AX.ret ?_
     refine ae (Wk.fg [2] [] ⟨[(2,vb false)],[]⟩) ?_
     have hr:=Option.some.inj h
     subst hr
     exact ⟨_,Wk.refl _,.inl ⟨(),rfl,rfl,rfl⟩⟩
    ·replace h:=aq b4 h
     refine AX.cF (decide (122<(aC p1 v2.toNat))) b4 ?_
     refine AX.skip ?_
     refine AX.rh [aN,.auto { raw:=true }] [0,3] [] ⟨[(0,vs p1),(3,vi (IntKind.wrap .i64 (v2+1)))],[]⟩ trivial trivial ?_
     refine ⟨(fu,IntKind.wrap .i64 (v2+1)),h,Nat.lt_succ_self _,?_⟩
     refine Wk.trans (Wk.fg [0,3] [] ⟨[(0,vs p1),(3,vi (IntKind.wrap .i64 (v2+1)))],[]⟩) ?_
     exact Wk.refl _
  ·replace h:=aq b1 h
   refine AX.cF (decide (v2<(p1.size:Int))) b1 ?_
   refine AX.exit ?_
   refine ae (Wk.fg [0] [] ⟨[(0,vs p1)],[]⟩) ?_
   have hr:=Option.some.inj h
   subst hr
   exact ⟨_,Wk.refl _,.inr ⟨(),rfl,rfl,rfl⟩⟩

theorem jC (p1:ByteArray) (r:Bool) (h:fX p1=some r) :
  Eng.al Tryz.prog 146 [vs p1] [] (vb r) []:=by
 unfold fX at h
 refine Eng.al.body Tryz.func146 (by kernel_rfl) rfl (by kernel_rfl) ?_
 refine AX.wkpost ?_
 refine AX.si [] [0] [] ⟨[(0,vs p1)],[]⟩ trivial trivial ?_
 refine AX.seq ?_
 refine AX.si [] [0,3] [] ⟨[(0,vs p1),(3,vi 0)],[]⟩ trivial trivial ?_
 refine AX.block ?_
 obtain ⟨x3,e5,h⟩:=ak h
 refine AX.wk (Wk.fg [0,3] [] ⟨[(0,vs p1),(3,vi 0)],[]⟩) ?_
 refine AX.mono (oo p1 FU 0 x3 e5) ?_
 rintro _ _ (⟨x4,rfl,rfl,rfl⟩ | ⟨x5,rfl,rfl,rfl⟩)
 ·replace h:=eL h
  refine ae (Wk.fg [2] [] ⟨[(2,vb false)],[]⟩) ?_
  have hr:=Option.some.inj h
  subst hr
  exact ⟨_,Wk.refl _,.inr rfl,⟨[],by kernel_rfl,trivial,[vb false],by kernel_rfl,by kernel_rfl⟩⟩
 ·replace h:=eU h
  refine AX.seq ?_
  obtain ⟨x6,e6,h⟩:=ak h
  refine AX.rh [aN,aN,.call 78 [vi (p1.size:Int),vi 1,vi 6] hN (ah [] [] (vb x6) [])] [2] [] ⟨[(2,vb x6)],[]⟩ (pa (smA [vi (p1.size:Int),vi 1,vi 6]) <| trivial) ⟨co (fJ (p1.size:Int) 1 6 x6 e6) (.cons cS (.cons cS (.cons cS (.nil)))),trivial⟩ ?_
  refine AX.ret ?_
  refine ae (Wk.fg [2] [] ⟨[(2,vb x6)],[]⟩) ?_
  have hr:=Option.some.inj h
  subst hr
  exact ⟨_,Wk.refl _,.inr rfl,⟨[],by kernel_rfl,trivial,[vb x6],by kernel_rfl,by kernel_rfl⟩⟩

theorem rF (p1:ByteArray) (p2:Int) (p3:ByteArray) (r:Unit) (h:hF p1 p2 p3=some r) :
  Eng.al Tryz.prog 123 [.agg [vs p1,vi p2],.bp [vs p3] 0] [] (vb (decide (p1=p3))) []:=by
 unfold hF at h
 refine Eng.al.body Tryz.func123 (by kernel_rfl) rfl (by kernel_rfl) ?_
 refine AX.wkpost ?_
 refine AX.si [.auto { nk:=0 }] [1,2] [0] ⟨[(1,.bp [vs p3] 0),(2,.pt 0 0)],[(0,.box [vs p1,vi p2])]⟩ trivial trivial ?_
 refine AX.si [] [3] [] ⟨[(3,vb (decide (p1=p3)))],[]⟩ trivial trivial ?_
 refine AX.ret ?_
 refine ae (Wk.fg [3] [] ⟨[(3,vb (decide (p1=p3)))],[]⟩) ?_
 have hr:=Option.some.inj h
 subst hr
 exact ⟨_,Wk.refl _,.inr rfl,⟨[],by kernel_rfl,trivial,[vb (decide (p1=p3))],by kernel_rfl,by kernel_rfl⟩⟩

theorem jm (p1:List (ByteArray×Int)) (p2:ByteArray) (n:Nat) (g:Int) (out:Int ⊕ Unit) (h:aV p1 p2 n g=some out) :
  AX Tryz.prog 19 0 (codeAt [1,0,1,1] (aU Tryz.f122)) ((fun g:Int=>(⟨[(0,.bs false 2 (List.map aa p1)),(1,.fn 123 [.bp [vs p2] 0]),(7,vi (p1.length:Int)),(8,vi g)],[]⟩:S)) g) (fun ex s=>(∃ o:Int,out=Sum.inl o∧ex=.ret∧s=⟨[(4,vi o)],[]⟩)∨(∃ o:Unit,out=Sum.inr o∧ex=.exit 0∧s=⟨[],[]⟩)):=by
 refine AX.wkpost ?_
 refine AX.loop (G:=Nat×(Int)) (fun q=>(fun g:Int=>(⟨[(0,.bs false 2 (List.map aa p1)),(1,.fn 123 [.bp [vs p2] 0]),(7,vi (p1.length:Int)),(8,vi g)],[]⟩:S)) q.2) (fun q=>aV p1 p2 q.1 q.2=some out) (fun q=>q.1) (n,g) h (Wk.refl _) ?_
 clear h
 rintro ⟨fu,v3⟩ h
 cases fu with
 | zero=>cases h
 | succ fu =>
  rw [aV] at h
  refine AX.si [] [0,1,7,8,9] [] ⟨[(0,.bs false 2 (List.map aa p1)),(1,.fn 123 [.bp [vs p2] 0]),(7,vi (p1.length:Int)),(8,vi v3),(9,vb (decide (v3<(p1.length:Int))))],[]⟩ trivial trivial ?_
  refine AX.seq ?_
  rcases ac (decide (v3<(p1.length:Int))) with b1 | b1
  ·replace h:=am b1 h
   refine AX.cT (decide (v3<(p1.length:Int))) b1 ?_
   refine AX.skip ?_
   refine AX.seq ?_
   refine AX.block ?_
   refine AX.si [] [0,1,5,7,8] [] ⟨[(0,.bs false 2 (List.map aa p1)),(1,.fn 123 [.bp [vs p2] 0]),(5,vi v3),(7,vi (p1.length:Int)),(8,vi v3)],[]⟩ trivial trivial ?_
   refine AX.seq ?_
   obtain ⟨g2,h⟩:=aw h
   obtain ⟨x4,e3,h⟩:=ak h
   refine AX.rh [aN,aN,aN,aY (.be 2 (aa (gt p1 v3)) 0),aN,.call 123 [.agg [vs ((gt p1 v3).1),vi ((gt p1 v3).2)],.bp [vs p2] 0] hN (ah [] [] (vb (decide (((gt p1 v3).1)=p2))) [])] [0,1,5,7,8,16] [] ⟨[(0,.bs false 2 (List.map aa p1)),(1,.fn 123 [.bp [vs p2] 0]),(5,vi v3),(7,vi (p1.length:Int)),(8,vi v3),(16,vb (decide (((gt p1 v3).1)=p2)))],[]⟩ (pa (aJ aa p1 v3 2 g2) <| pa (smA [.agg [vs ((gt p1 v3).1),vi ((gt p1 v3).2)],.bp [vs p2] 0]) <| trivial) ⟨co (rF ((gt p1 v3).1) ((gt p1 v3).2) p2 x4 e3) (.cons (.c1 (.agg (.cons (.same _ (by kernel_rfl) (by kernel_rfl)) (.cons (.same _ (by kernel_rfl) (by kernel_rfl)) (.nil))))) (.cons (.c1 (.bp (.cons (.same _ (by kernel_rfl) (by kernel_rfl)) (.nil)))) (.nil))),trivial⟩ ?_
   rcases ac (decide (((gt p1 v3).1)=p2)) with b4 | b4
   ·replace h:=am b4 h
    refine AX.cT (decide (((gt p1 v3).1)=p2)) b4 ?_
    refine AX.si [] [4] [] ⟨[(4,vi v3)],[]⟩ trivial trivial ?_
    refine AX.ret ?_
    refine ae (Wk.fg [4] [] ⟨[(4,vi v3)],[]⟩) ?_
    have hr:=Option.some.inj h
    subst hr
    exact ⟨_,Wk.refl _,.inl ⟨v3,rfl,rfl,rfl⟩⟩
   ·replace h:=aq b4 h
    refine AX.cF (decide (((gt p1 v3).1)=p2)) b4 ?_
    refine AX.skip ?_
    refine AX.rh [.auto { raw:=true }] [0,1,7,8] [] ⟨[(0,.bs false 2 (List.map aa p1)),(1,.fn 123 [.bp [vs p2] 0]),(7,vi (p1.length:Int)),(8,vi (IntKind.wrap .i64 (v3+1)))],[]⟩ trivial trivial ?_
    refine ⟨(fu,IntKind.wrap .i64 (v3+1)),h,Nat.lt_succ_self _,?_⟩
    refine Wk.trans (Wk.fg [0,1,7,8] [] ⟨[(0,.bs false 2 (List.map aa p1)),(1,.fn 123 [.bp [vs p2] 0]),(7,vi (p1.length:Int)),(8,vi (IntKind.wrap .i64 (v3+1)))],[]⟩) ?_
    exact Wk.refl _
  ·replace h:=aq b1 h
   refine AX.cF (decide (v3<(p1.length:Int))) b1 ?_
   refine AX.exit ?_
   refine ae (Wk.fg [] [] ⟨[],[]⟩) ?_
   have hr:=Option.some.inj h
   subst hr
   exact ⟨_,Wk.refl _,.inr ⟨(),rfl,rfl,rfl⟩⟩

theorem jW (p1:List (ByteArray×Int)) (p2:ByteArray) (r:Int) (h:cQ p1 p2=some r) :
  Eng.al Tryz.prog 122 [.bs false 2 (List.map aa p1),.fn 123 [.bp [vs p2] 0]] [] (vi r) []:=by
 unfold cQ at h
 refine Eng.al.body Tryz.func122 (by kernel_rfl) rfl (by kernel_rfl) ?_
 refine AX.wkpost ?_
 refine AX.si [] [0,1] [] ⟨[(0,.bs false 2 (List.map aa p1)),(1,.fn 123 [.bp [vs p2] 0])],[]⟩ trivial trivial ?_
 refine AX.seq ?_
 refine AX.si [aN,aY (vi (p1.length:Int))] [0,1,7,8] [] ⟨[(0,.bs false 2 (List.map aa p1)),(1,.fn 123 [.bp [vs p2] 0]),(7,vi (p1.length:Int)),(8,vi 0)],[]⟩ (pa (⟨trivial,aS aa p1⟩:(True∧(vi ((List.map aa p1).length:Int)=vi (p1.length:Int)))) <| trivial) trivial ?_
 refine AX.block ?_
 obtain ⟨x5,e5,h⟩:=ak h
 refine AX.wk (Wk.fg [0,1,7,8] [] ⟨[(0,.bs false 2 (List.map aa p1)),(1,.fn 123 [.bp [vs p2] 0]),(7,vi (p1.length:Int)),(8,vi 0)],[]⟩) ?_
 refine AX.mono (jm p1 p2 FU 0 x5 e5) ?_
 rintro _ _ (⟨x6,rfl,rfl,rfl⟩ | ⟨x7,rfl,rfl,rfl⟩)
 ·replace h:=eL h
  refine ae (Wk.fg [4] [] ⟨[(4,vi x6)],[]⟩) ?_
  have hr:=Option.some.inj h
  subst hr
  exact ⟨_,Wk.refl _,.inr rfl,⟨[],by kernel_rfl,trivial,[vi x6],by kernel_rfl,by kernel_rfl⟩⟩
 ·replace h:=eU h
  refine AX.si [] [4] [] ⟨[(4,vi (-1))],[]⟩ trivial trivial ?_
  refine AX.ret ?_
  refine ae (Wk.fg [4] [] ⟨[(4,vi (-1))],[]⟩) ?_
  have hr:=Option.some.inj h
  subst hr
  exact ⟨_,Wk.refl _,.inr rfl,⟨[],by kernel_rfl,trivial,[vi (-1)],by kernel_rfl,by kernel_rfl⟩⟩

theorem oQ (p1:List (ByteArray×Int)) (p2:ByteArray) (r:Int) (h:gO p1 p2=some r) :
  Eng.al Tryz.prog 81 [.bs false 2 (List.map aa p1),vs p2] [] (vi r) []:=by
 unfold gO at h
 refine Eng.al.body Tryz.func81 (by kernel_rfl) rfl (by kernel_rfl) ?_
 refine AX.wkpost ?_
 refine AX.si [.auto { nk:=0 }] [0,3] [0] ⟨[(0,.bs false 2 (List.map aa p1)),(3,.pt 0 0)],[(0,.box [vs p2])]⟩ trivial trivial ?_
 refine AX.seq ?_
 obtain ⟨x3,e1,h⟩:=ak h
 refine AX.rh [aN,aN,.call 122 [.bs false 2 (List.map aa p1),.fn 123 [.pt 0 0]] (aD (rho ([]++[])) [] []++[(0,.box [vs p2])]) (ah [] [] (vi x3) [])] [4] [] ⟨[(4,vi x3)],[]⟩ (pa (⟨rfl,rfl,trivial⟩:((([.bs false 2 (List.map aa p1),.fn 123 [.pt 0 0]]:List AV)=[.bs false 2 (List.map aa p1),.fn 123 [.pt 0 0]])∧(AO.box [vs p2]=AO.box [vs p2])∧True)) <| trivial) ⟨aA (ks:=[]) (ns:=[]) (bor:=[0]) (bobjs:=[(0,.box [vs p2])]) (jW p1 p2 x3 e1) (.cons cS (.cons (.fn (.cons (.box rfl rfl (.cons (.same _ (by kernel_rfl) (by kernel_rfl)) (.nil))) (.nil))) (.nil))) (by kernel_rfl) trivial,trivial⟩ ?_
 refine AX.ret ?_
 refine ae (Wk.fg [4] [] ⟨[(4,vi x3)],[]⟩) ?_
 have hr:=Option.some.inj h
 subst hr
 exact ⟨_,Wk.refl _,.inr rfl,⟨[],by kernel_rfl,trivial,[vi x3],by kernel_rfl,by kernel_rfl⟩⟩

theorem ov (p1:List (ByteArray×Int)) (p2:Int) (p3:Int) (n:Nat) (g:Int) (out:Unit ⊕ Unit) (h:de p1 p2 p3 n g=some out) :
  AX Tryz.prog 41 0 (codeAt [1,0,1,1] (aU Tryz.f121)) ((fun g:Int=>(⟨[(0,.bs false 2 (List.map aa p1)),(1,vi p2),(2,vi p3),(9,.bs false 2 (List.map aa p1)),(10,vi (p1.length:Int)),(11,vi g)],[]⟩:S)) g) (fun ex s=>(∃ o:Unit,out=Sum.inl o∧ex=.ret∧s=⟨[(6,vb false)],[]⟩)∨(∃ o:Unit,out=Sum.inr o∧ex=.exit 0∧s=⟨[(0,.bs false 2 (List.map aa p1))],[]⟩)):=by
 refine AX.wkpost ?_
 refine AX.loop (G:=Nat×(Int)) (fun q=>(fun g:Int=>(⟨[(0,.bs false 2 (List.map aa p1)),(1,vi p2),(2,vi p3),(9,.bs false 2 (List.map aa p1)),(10,vi (p1.length:Int)),(11,vi g)],[]⟩:S)) q.2) (fun q=>de p1 p2 p3 q.1 q.2=some out) (fun q=>q.1) (n,g) h (Wk.refl _) ?_
 clear h
 rintro ⟨fu,v4⟩ h
 cases fu with
 | zero=>cases h
 | succ fu =>
  rw [de] at h
  refine AX.si [] [0,1,2,9,10,11,12] [] ⟨[(0,.bs false 2 (List.map aa p1)),(1,vi p2),(2,vi p3),(9,.bs false 2 (List.map aa p1)),(10,vi (p1.length:Int)),(11,vi v4),(12,vb (decide (v4<(p1.length:Int))))],[]⟩ trivial trivial ?_
  refine AX.seq ?_
  rcases ac (decide (v4<(p1.length:Int))) with b1 | b1
  ·replace h:=am b1 h
   refine AX.cT (decide (v4<(p1.length:Int))) b1 ?_
   refine AX.skip ?_
   refine AX.seq ?_
   refine AX.block ?_
   refine AX.seq ?_
   obtain ⟨g2,h⟩:=aw h
   refine AX.rh [aN,aY (.be 2 (aa (gt p1 v4)) 0),aN,.auto { nk:=0 }] [0,1,2,7,8,9,10,11] [0] ⟨[(0,.bs false 2 (List.map aa p1)),(1,vi p2),(2,vi p3),(7,vi v4),(8,.pt 0 0),(9,.bs false 2 (List.map aa p1)),(10,vi (p1.length:Int)),(11,vi v4)],[(0,.box [vs ((gt p1 v4).1),vi ((gt p1 v4).2)])]⟩ (pa (aJ aa p1 v4 2 g2) <| trivial) trivial ?_
   refine AX.seq ?_
   obtain ⟨x5,e3,h⟩:=ak h
   rcases ac ((!x5)) with b4 | b4
   ·replace h:=am b4 h
    refine AX.dh mixed [aN,aN,.call 146 [vs ((gt p1 v4).1)] hN (ah [] [] (vb x5) []),aY (vb true)] [0,1,2,9,10,11,36] [] ⟨[(0,.bs false 2 (List.map aa p1)),(1,vi p2),(2,vi p3),(9,.bs false 2 (List.map aa p1)),(10,vi (p1.length:Int)),(11,vi v4),(36,vb true)],[]⟩ (pa (smA [vs ((gt p1 v4).1)]) <| pa (pb (cb b4)) <| trivial) ⟨co (jC ((gt p1 v4).1) x5 e3) (.cons cS (.nil)),trivial⟩ ?_
    refine AX.cond_true (by kernel_rfl) ?_
    refine AX.si [] [6] [] ⟨[(6,vb false)],[]⟩ trivial trivial ?_
    refine AX.ret ?_
    refine ae (Wk.fg [6] [] ⟨[(6,vb false)],[]⟩) ?_
    have hr:=Option.some.inj h
    subst hr
    exact ⟨_,Wk.refl _,.inl ⟨(),rfl,rfl,rfl⟩⟩
   ·replace h:=aq b4 h
    obtain ⟨x6,e5,h⟩:=ak h
    rcases ac ((!x6)) with b6 | b6
    ·replace h:=am b6 h
     refine AX.dh mixed [aN,aN,.call 146 [vs ((gt p1 v4).1)] hN (ah [] [] (vb x5) []),aY (vb false),aN,aN,aN,aN,aN,.call 78 [vi ((gt p1 v4).2),vi p2,vi p3] hN (ah [] [] (vb x6) []),aY (vb true)] [0,1,2,9,10,11,36] [] ⟨[(0,.bs false 2 (List.map aa p1)),(1,vi p2),(2,vi p3),(9,.bs false 2 (List.map aa p1)),(10,vi (p1.length:Int)),(11,vi v4),(36,vb true)],[]⟩ (pa (smA [vs ((gt p1 v4).1)]) <| pa (pb (cb b4)) <| pa (smA [vi ((gt p1 v4).2),vi p2,vi p3]) <| pa (pb (cb b6)) <| trivial) ⟨co (jC ((gt p1 v4).1) x5 e3) (.cons cS (.nil)),co (fJ ((gt p1 v4).2) p2 p3 x6 e5) (.cons cS (.cons cS (.cons cS (.nil)))),trivial⟩ ?_
     refine AX.cond_true (by kernel_rfl) ?_
     refine AX.si [] [6] [] ⟨[(6,vb false)],[]⟩ trivial trivial ?_
     refine AX.ret ?_
     refine ae (Wk.fg [6] [] ⟨[(6,vb false)],[]⟩) ?_
     have hr:=Option.some.inj h
     subst hr
     exact ⟨_,Wk.refl _,.inl ⟨(),rfl,rfl,rfl⟩⟩
    ·replace h:=aq b6 h
     obtain ⟨g7,h⟩:=aw h
     obtain ⟨x7,e8,h⟩:=ak h
     refine AX.dh mixed [aN,aN,.call 146 [vs ((gt p1 v4).1)] hN (ah [] [] (vb x5) []),aY (vb false),aN,aN,aN,aN,aN,.call 78 [vi ((gt p1 v4).2),vi p2,vi p3] hN (ah [] [] (vb x6) []),aY (vb false),aN,aN,aN,aN,.auto { y:=some (.bs false 2 (List.map aa (sub p1 (0:Int) v4))) },aN,aN,.call 81 [.bs false 2 (List.map aa (sub p1 (0:Int) v4)),vs ((gt p1 v4).1)] hN (ah [] [] (vi x7) [])] [0,1,2,9,10,11,36] [] ⟨[(0,.bs false 2 (List.map aa p1)),(1,vi p2),(2,vi p3),(9,.bs false 2 (List.map aa p1)),(10,vi (p1.length:Int)),(11,vi v4),(36,vb (decide (0≤x7)))],[]⟩ (pa (smA [vs ((gt p1 v4).1)]) <| pa (pb (cb b4)) <| pa (smA [vi ((gt p1 v4).2),vi p2,vi p3]) <| pa (pb (cb b6)) <| pa (⟨by first | exact g7 | simpa only [List.length_map] using g7,by first | exact iA aa p1 (0:Int) v4 false 2 | (simp only [List.length_map];exact iA aa p1 (0:Int) v4 false 2)⟩:((0≤(0:Int)∧(0:Int)≤v4∧v4≤((List.map aa p1).length:Int)∧((List.map aa p1).length:Int)≤((List.map aa p1).length:Int))∧(AV.bs false 2 (((List.map aa p1).drop (0:Int).toNat).take (v4.toNat - (0:Int).toNat))=(.bs false 2 (List.map aa (sub p1 (0:Int) v4)):AV)))) <| pa (smA [.bs false 2 (List.map aa (sub p1 (0:Int) v4)),vs ((gt p1 v4).1)]) <| trivial) ⟨co (jC ((gt p1 v4).1) x5 e3) (.cons cS (.nil)),co (fJ ((gt p1 v4).2) p2 p3 x6 e5) (.cons cS (.cons cS (.cons cS (.nil)))),co (oQ (sub p1 (0:Int) v4) ((gt p1 v4).1) x7 e8) (.cons cS (.cons cS (.nil))),trivial⟩ ?_
     rcases ac (decide (0≤x7)) with b9 | b9
     ·replace h:=am b9 h
      refine AX.cT (decide (0≤x7)) b9 ?_
      refine AX.si [] [6] [] ⟨[(6,vb false)],[]⟩ trivial trivial ?_
      refine AX.ret ?_
      refine ae (Wk.fg [6] [] ⟨[(6,vb false)],[]⟩) ?_
      have hr:=Option.some.inj h
      subst hr
      exact ⟨_,Wk.refl _,.inl ⟨(),rfl,rfl,rfl⟩⟩
     ·replace h:=aq b9 h
      refine AX.cF (decide (0≤x7)) b9 ?_
      refine AX.skip ?_
      refine AX.rh [.auto { raw:=true }] [0,1,2,9,10,11] [] ⟨[(0,.bs false 2 (List.map aa p1)),(1,vi p2),(2,vi p3),(9,.bs false 2 (List.map aa p1)),(10,vi (p1.length:Int)),(11,vi (IntKind.wrap .i64 (v4+1)))],[]⟩ trivial trivial ?_
      refine ⟨(fu,IntKind.wrap .i64 (v4+1)),h,Nat.lt_succ_self _,?_⟩
      refine Wk.trans (Wk.fg [0,1,2,9,10,11] [] ⟨[(0,.bs false 2 (List.map aa p1)),(1,vi p2),(2,vi p3),(9,.bs false 2 (List.map aa p1)),(10,vi (p1.length:Int)),(11,vi (IntKind.wrap .i64 (v4+1)))],[]⟩) ?_
      exact Wk.refl _
  ·replace h:=aq b1 h
   refine AX.cF (decide (v4<(p1.length:Int))) b1 ?_
   refine AX.exit ?_
   refine ae (Wk.fg [0] [] ⟨[(0,.bs false 2 (List.map aa p1))],[]⟩) ?_
   have hr:=Option.some.inj h
   subst hr
   exact ⟨_,Wk.refl _,.inr ⟨(),rfl,rfl,rfl⟩⟩

theorem lQ (p1:List (ByteArray×Int)) (p2:Int) (p3:Int) (r:Bool) (h:ga p1 p2 p3=some r) :
  Eng.al Tryz.prog 121 [.bs false 2 (List.map aa p1),vi p2,vi p3] [] (vb r) []:=by
 unfold ga at h
 refine Eng.al.body Tryz.func121 (by kernel_rfl) rfl (by kernel_rfl) ?_
 refine AX.wkpost ?_
 refine AX.si [] [0,1,2] [] ⟨[(0,.bs false 2 (List.map aa p1)),(1,vi p2),(2,vi p3)],[]⟩ trivial trivial ?_
 refine AX.seq ?_
 refine AX.si [aN,aY (vi (p1.length:Int))] [0,1,2,9,10,11] [] ⟨[(0,.bs false 2 (List.map aa p1)),(1,vi p2),(2,vi p3),(9,.bs false 2 (List.map aa p1)),(10,vi (p1.length:Int)),(11,vi 0)],[]⟩ (pa (⟨trivial,aS aa p1⟩:(True∧(vi ((List.map aa p1).length:Int)=vi (p1.length:Int)))) <| trivial) trivial ?_
 refine AX.block ?_
 obtain ⟨x8,e10,h⟩:=ak h
 refine AX.wk (Wk.fg [0,1,2,9,10,11] [] ⟨[(0,.bs false 2 (List.map aa p1)),(1,vi p2),(2,vi p3),(9,.bs false 2 (List.map aa p1)),(10,vi (p1.length:Int)),(11,vi 0)],[]⟩) ?_
 refine AX.mono (ov p1 p2 p3 FU 0 x8 e10) ?_
 rintro _ _ (⟨x9,rfl,rfl,rfl⟩ | ⟨x10,rfl,rfl,rfl⟩)
 ·replace h:=eL h
  refine ae (Wk.fg [6] [] ⟨[(6,vb false)],[]⟩) ?_
  have hr:=Option.some.inj h
  subst hr
  exact ⟨_,Wk.refl _,.inr rfl,⟨[],by kernel_rfl,trivial,[vb false],by kernel_rfl,by kernel_rfl⟩⟩
 ·replace h:=eU h
  refine AX.si [aN,aY (vi (p1.length:Int))] [6] [] ⟨[(6,vb (decide ((p1.length:Int)≤12)))],[]⟩ (pa (⟨trivial,aS aa p1⟩:(True∧(vi ((List.map aa p1).length:Int)=vi (p1.length:Int)))) <| trivial) trivial ?_
  refine AX.ret ?_
  refine ae (Wk.fg [6] [] ⟨[(6,vb (decide ((p1.length:Int)≤12)))],[]⟩) ?_
  have hr:=Option.some.inj h
  subst hr
  exact ⟨_,Wk.refl _,.inr rfl,⟨[],by kernel_rfl,trivial,[vb (decide ((p1.length:Int)≤12))],by kernel_rfl,by kernel_rfl⟩⟩

theorem dn (p1:List (ByteArray×Int)) (p2:Int) (r:Bool) (h:dl p1 p2=some r) :
  Eng.al Tryz.prog 80 [.agg [.bs false 2 (List.map aa p1),vi p2]] [] (vb r) []:=by
 unfold dl at h
 refine Eng.al.body Tryz.func80 (by kernel_rfl) rfl (by kernel_rfl) ?_
 refine AX.wkpost ?_
 refine AX.si [.auto { nk:=0 }] [1] [0] ⟨[(1,.pt 0 0)],[(0,.box [.bs false 2 (List.map aa p1),vi p2])]⟩ trivial trivial ?_
 refine AX.seq ?_
 obtain ⟨x3,e1,h⟩:=ak h
 rcases ac (x3) with b2 | b2
 ·replace h:=am b2 h
  obtain ⟨x4,e3,h⟩:=ak h
  refine AX.rh [aN,aN,.call 121 [.bs false 2 (List.map aa p1),vi 0,vi 4095] hN (ah [] [] (vb true) []),aN,aN,aN,.call 78 [vi p2,vi 0,vi 3] hN (ah [] [] (vb x4) [])] [2] [] ⟨[(2,vb x4)],[]⟩ (pa (smA [.bs false 2 (List.map aa p1),vi 0,vi 4095]) <| pa (smA [vi p2,vi 0,vi 3]) <| trivial) ⟨co (show Eng.al Tryz.prog 121 [.bs false 2 (List.map aa p1),vi 0,vi 4095] [] (vb true) [] from by have q:=lQ p1 0 4095 x3 e1;rw [b2] at q;exact q) (.cons cS (.cons cS (.cons cS (.nil)))),co (fJ p2 0 3 x4 e3) (.cons cS (.cons cS (.cons cS (.nil)))),trivial⟩ ?_
  refine AX.ret ?_
  refine ae (Wk.fg [2] [] ⟨[(2,vb x4)],[]⟩) ?_
  have hr:=Option.some.inj h
  subst hr
  exact ⟨_,Wk.refl _,.inr rfl,⟨[],by kernel_rfl,trivial,[vb x4],by kernel_rfl,by kernel_rfl⟩⟩
 ·replace h:=aq b2 h
  refine AX.rh [aN,aN,.call 121 [.bs false 2 (List.map aa p1),vi 0,vi 4095] hN (ah [] [] (vb false) [])] [2] [] ⟨[(2,vb false)],[]⟩ (pa (smA [.bs false 2 (List.map aa p1),vi 0,vi 4095]) <| trivial) ⟨co (show Eng.al Tryz.prog 121 [.bs false 2 (List.map aa p1),vi 0,vi 4095] [] (vb false) [] from by have q:=lQ p1 0 4095 x3 e1;rw [b2] at q;exact q) (.cons cS (.cons cS (.cons cS (.nil)))),trivial⟩ ?_
  refine AX.ret ?_
  refine ae (Wk.fg [2] [] ⟨[(2,vb false)],[]⟩) ?_
  have hr:=Option.some.inj h
  subst hr
  exact ⟨_,Wk.refl _,.inr rfl,⟨[],by kernel_rfl,trivial,[vb false],by kernel_rfl,by kernel_rfl⟩⟩

theorem vd (p1:List (ByteArray×Int)) (p2:Int) (p3:Bool) (r:(List (ByteArray×Int))×Int×Bool) (h:ig p1 p2 p3=some r) :
  Eng.al Tryz.prog 75 [.bs false 2 (List.map aa p1),vi p2,vb p3] [] (.tup [.agg [.sl 0 0 r.1.length,vi r.2.1],vb r.2.2]) [.arr 2 (List.map aa r.1)]:=by
 unfold ig at h
 refine Eng.al.body Tryz.func75 (by kernel_rfl) rfl (by kernel_rfl) ?_
 refine AX.wkpost ?_
 refine AX.si [.auto { nk:=0 }] [0,1,2,6] [0] ⟨[(0,.bs false 2 (List.map aa p1)),(1,vi p2),(2,vb p3),(6,.pt 0 0)],[(0,.box [.v (.slice none 0 0),vi 0])]⟩ trivial trivial ?_
 refine AX.seq ?_
 refine AX.seq ?_
 obtain ⟨x4,e1,h⟩:=ak h
 refine AX.rh [aN,.call 116 [.bs false 2 (List.map aa p1)] (aD (rho ([]++[1])) [] []++[]) (ah [] [1] (.sl 0 0 x4.length) [.arr 2 (List.map aa x4)]),aN,aN,.auto { nk:=2 }] [2,6,8] [0,1,2] ⟨[(2,vb p3),(6,.pt 0 0),(8,.pt 2 0)],[(0,.box [.v (.slice none 0 0),vi 0]),(1,.arr 2 (List.map aa x4)),(2,.box [.sl 1 0 x4.length,vi p2])]⟩ (pa (smA [.bs false 2 (List.map aa p1)]) <| trivial) ⟨aA (ks:=[]) (ns:=[1]) (bor:=[]) (bobjs:=[]) (sK p1 x4 e1) (.cons cS (.nil)) (by kernel_rfl) trivial,trivial⟩ ?_
 refine AX.seq ?_
 rcases ac (p3) with b2 | b2
 ·replace h:=am b2 h
  obtain ⟨x5,e3,h⟩:=ak h
  refine AX.rh [aY (vb true),aN,aN,.call 80 [.agg [.sl 1 0 x4.length,vi p2]] (aD (rho ([]++[])) [] []++[(1,.arr 2 (List.map aa x4))]) (ah [] [] (vb x5) [])] [6,8,17] [0,1,2] ⟨[(6,.pt 0 0),(8,.pt 2 0),(17,vb x5)],[(0,.box [.v (.slice none 0 0),vi 0]),(1,.arr 2 (List.map aa x4)),(2,.box [.sl 1 0 x4.length,vi p2])]⟩ (pa (pb (cb b2)) <| pa (⟨rfl,rfl,trivial⟩:((([.agg [.sl 1 0 x4.length,vi p2]]:List AV)=[.agg [.sl 1 0 x4.length,vi p2]])∧(AO.arr 2 (List.map aa x4)=AO.arr 2 (List.map aa x4))∧True)) <| trivial) ⟨aA (ks:=[]) (ns:=[]) (bor:=[1]) (bobjs:=[(1,.arr 2 (List.map aa x4))]) (dn x4 p2 x5 e3) (.cons (.c1 (.agg (.cons (.arr rfl rfl ((rfl).trans (List.length_map ..).symm)) (.cons (.same _ (by kernel_rfl) (by kernel_rfl)) (.nil))))) (.nil)) (by kernel_rfl) trivial,trivial⟩ ?_
  rcases ac (x5) with b4 | b4
  ·replace h:=am b4 h
   refine AX.cT (x5) b4 ?_
   refine AX.si [] [6,7] [0,1] ⟨[(6,.pt 0 0),(7,vb true)],[(0,.box [.sl 1 0 x4.length,vi p2]),(1,.arr 2 (List.map aa x4))]⟩ trivial trivial ?_
   refine AX.ret ?_
   refine ae (Wk.fg [6,7] [0,1] ⟨[(6,.pt 0 0),(7,vb true)],[(0,.box [.sl 1 0 x4.length,vi p2]),(1,.arr 2 (List.map aa x4))]⟩) ?_
   have hr:=Option.some.inj h
   subst hr
   exact ⟨_,Wk.refl _,.inr rfl,⟨[1],by kernel_rfl,⟨rfl,trivial⟩,[.agg [.sl 1 0 x4.length,vi p2],vb true],by kernel_rfl,by kernel_rfl⟩⟩
  ·replace h:=aq b4 h
   refine AX.cF (x5) b4 ?_
   refine AX.skip ?_
   refine AX.si [] [6,7] [0] ⟨[(6,.pt 0 0),(7,vb false)],[(0,.box [.v (.slice none 0 0),vi 0])]⟩ trivial trivial ?_
   refine AX.ret ?_
   refine ae (Wk.matB 0 0 1 2 (cs:=[.v (.slice none 0 0),vi 0]) (by kernel_rfl) (by kernel_rfl) (Nat.le_of_ble_eq_true (by kernel_rfl)) (by kernel_rfl) (by decide) rfl) ?_
   refine ae (Wk.fg [6,7] [0,1] ⟨[(6,.pt 0 0),(7,vb false)],[(0,.box [.sl 1 0 (([]:List (ByteArray×Int)).length),vi 0]),(1,.arr 2 (List.map aa ([]:List (ByteArray×Int))))]⟩) ?_
   have hr:=Option.some.inj h
   subst hr
   exact ⟨_,Wk.refl _,.inr rfl,⟨[1],by kernel_rfl,⟨rfl,trivial⟩,[.agg [.sl 1 0 (([]:List (ByteArray×Int)).length),vi 0],vb false],by kernel_rfl,by kernel_rfl⟩⟩
 ·replace h:=aq b2 h
  refine AX.rh [aY (vb false)] [6,8,17] [0,1,2] ⟨[(6,.pt 0 0),(8,.pt 2 0),(17,vb false)],[(0,.box [.v (.slice none 0 0),vi 0]),(1,.arr 2 (List.map aa x4)),(2,.box [.sl 1 0 x4.length,vi p2])]⟩ (pa (pb (cb b2)) <| trivial) trivial ?_
  refine AX.cond_false (by kernel_rfl) ?_
  refine AX.skip ?_
  refine AX.si [] [6,7] [0] ⟨[(6,.pt 0 0),(7,vb false)],[(0,.box [.v (.slice none 0 0),vi 0])]⟩ trivial trivial ?_
  refine AX.ret ?_
  refine ae (Wk.matB 0 0 1 2 (cs:=[.v (.slice none 0 0),vi 0]) (by kernel_rfl) (by kernel_rfl) (Nat.le_of_ble_eq_true (by kernel_rfl)) (by kernel_rfl) (by decide) rfl) ?_
  refine ae (Wk.fg [6,7] [0,1] ⟨[(6,.pt 0 0),(7,vb false)],[(0,.box [.sl 1 0 (([]:List (ByteArray×Int)).length),vi 0]),(1,.arr 2 (List.map aa ([]:List (ByteArray×Int))))]⟩) ?_
  have hr:=Option.some.inj h
  subst hr
  exact ⟨_,Wk.refl _,.inr rfl,⟨[1],by kernel_rfl,⟨rfl,trivial⟩,[.agg [.sl 1 0 (([]:List (ByteArray×Int)).length),vi 0],vb false],by kernel_rfl,by kernel_rfl⟩⟩

end Go.Eng
