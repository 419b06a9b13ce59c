/- What is proved: an argument that is a slice of bytes is a list that the engine reads; a contract that answers true serves the row. Conditions: the row's own reading of the argument. -/
import Derived.Test.YtdnlgpmmkchopaaGreatDoorCExactRunDeskEng23
import Derived.ProofKit
set_option linter.unusedVariables false
set_option linter.unusedSimpArgs false
namespace Go.Eng
open Go Go.RowKit Go.ChangeShapes Go.WideShapes

theorem zM {W w:World} (h:∀ b,b<W.heap.size→w.heap[b]?=W.heap[b]?) {b off sz:Nat} {es:List (List Value)} (hb:b<W.heap.size) (hc:RdE W b off sz es):RdE w b off sz es:=by
 unfold RdE at hc ⊢
 rw [h b hb];exact hc

class GOK (W:World):Prop where
 ok:mt (fun b=>b<W.heap.size) W

theorem A8 (W:World) [hW:GOK W] (w:World) (h:∀ b,b<W.heap.size→w.heap[b]?=W.heap[b]?):mt (fun b=>b<W.heap.size) w:=by
 obtain ⟨h1,h2⟩:=hW.ok
 refine ⟨fun p hp=>?_,AG h2 h⟩
 obtain ⟨b,off,cap,g1,g2,g3,g4,g5⟩:=h1 p hp
 exact ⟨b,off,cap,kN h g1,g2,g3,g4,zM h g4 g5⟩

def pl (W:World) [GOK W]:Env where
 w0:=W
 mb:=[]
 B:=fun b=>b<W.heap.size
 B1:=fun b=>b<W.heap.size
 hB1:=fun _ h=>h
 hB:=fun b h=>⟨h,by simp⟩
 hG:=A8 W
 nin:=0
 m0:=fun _=>none

theorem vH {P:Program} {f:FuncId} {args:List AV} {r:Value} (hs:Eng.ak P f args [] (.v r) []) (W:World) [GOK W] (vs:List Value) (hv:VRs (pl W) (fun _=>none) (shL []) args vs) :
  Calls P f vs.toArray W (fun e W'=>e=.returned r∧Below W.heap.size W W'):=by
 refine (hs.run (pl W) (fun _=>none) vs rfl rfl hv (fun k=>by unfold HR;rw [kc (l:=[]) (i:=k) (Nat.zero_le k)];trivial) (fun k k' L L' _ hk=>absurd (by simp only [shL,kc (l:=[]) (i:=k) (Nat.zero_le k)];rfl) hk)).mono fun e W' he=>?_
 obtain ⟨v,m',rfl,hr,_,_,_,hf⟩:=he
 simp only [VR] at hr
 subst hr
 exact ⟨rfl,hf.os,hf.tape,hf.output,hf.size,fun b hb=>hf.block b hb (by simp [pl])⟩

section
variable {H : Type} {enc : TypeId × Value → H} {P : Program}
theorem yr {f:Func} {s:ChangeSpec} {apart fresh handsOn again:Bool} {W W':World} {args:Array Value} {v:Value} {ds gs:List (DataW H)} {before pa pv:List MemPlace}
  (hW:DataW.Whole enc P f.params.toList s.vars apart W args.toList ds gs before)
  (hres:∀ (b:Nat) (sp:Nat→Bool) (hd:Bool),DataW.TrodAll enc P W' b sp hd f.resultTypes.toList (v.resultList f.resultTypes.size) (s.fn H (ds++gs)).results [])
  (hargs:∀ sp:Nat→Bool,(∀ p∈before,sp p.block=true)→DataW.TrodAll enc P W' 0 sp true f.params.toList args.toList (s.fn H (ds++gs)).args pa)
  (hvars:∀ sp:Nat→Bool,(∀ p∈before,sp p.block=true)→DataW.TrodVars enc P W' sp s.vars (s.fn H (ds++gs)).vars pv)
  (hps:before=pa++pv) (hb:Below W.heap.size W W')
  (hok:∀ (j:Nat) (t:TypeId) (r:Value),f.resultTypes[j]?=some t→(v.resultList f.resultTypes.size)[j]?=some r→Value.okWide P W' .any 0 t r) :
  s.post enc P f apart fresh handsOn again W args v W':=by
 have hlt:∀ p∈before,p.block<W.heap.size:=fun p hp=>hW.lt p hp
 have hold:∀ p∈before,(fun b=>decide (b<W.heap.size)) p.block=true:=fun p hp=>by simpa using hlt p hp
 refine ⟨ds,gs,before,[],pa,pv,hW,hres _ _ _,hargs _ hold,hvars _ hold,World.keptBut_mono (fun p hp=>⟨hp,?_⟩) (hb.frame (·∈before)),fun _=>?_⟩
 ·rw [hps,List.mem_append] at hp
  exact Or.inr hp
 ·obtain ⟨_,_,_,_,_,hz,hn⟩:=hW
  refine ⟨hok,_,_,([]++pa)++pv,⟨[]++pa,pv,trodAll_append (hargs _ (fun _ _=>rfl)) (hres _ _ _),hvars _ (fun _ _=>rfl),rfl,?_,?_⟩,?_⟩
  ·intro b off hp
   have hin:MemPlace.cell b off∈before:=by rw [hps];simpa using hp
   rw [hb.frozen (hlt _ hin)]
   exact hz b off hin
  ·intro ha
   have:=hn ha
   rw [hps] at this
   simpa using this
  ·intro p hp _
   rw [hps]
   simpa using hp
end

end Go.Eng
