/- What is proved: a region of operations, run in whatever order its edges allow, ends in the state that the engine reckons by going through the operations in the order of the text, if operations that no edge orders do not meddle with one another. -/
import Derived.Test.YtdnlgpmmkchopaaGreatDoorCExactRunDeskEng13
set_option linter.unusedVariables false
set_option linter.unusedSimpArgs false
namespace Go.Eng
open Go

variable {P : Program} {X : Env} {N : Nat} {m : Nat → Option Loc} {a : Act} {w : World}

structure bj where
 ev:Ev
 rt:List Nat
 rh:List Nat
 dst:Option Nat

inductive Item where
 | auto (h:pf)
 | call (f:FuncId) (args:List AV) (objs:List (Nat×AO)) (ev:Ev)

def iK (O:Nat→AO):List (Nat×AO)→Prop
 | []=>True
 | (k,o)::r=>O k=o∧iK O r

def kS (s:S) (o:Oper):Option (FuncId×List AV) :=
 match o.op with
 | .call { callee:=.value fo,args,.. }=>match evO s fo with
  | .fn f caps=>some (f,args.toList.map (evO s)++caps)
  | _=>none
 | _=>none

def vt (P:Program) (nin:Nat) (f:FuncId) (args:List AV) (objs:List (Nat×AO)) (ev:Ev):Prop :=
 ∀ (s:S) (o:Oper),kS s o=some (f,args)→iK s.O objs→bz P nin o s { ev with c:=none }

def ls (ops:Array Oper) (s:S) (o:Oper):Option Bool :=
 match o.guard with
 | none=>some true
 | some (j,want)=>match (ops[j]?).bind (·.dst) with
  | some d=>match s.T d with
   | .v (.bool b)=>some (b == want)
   | .v (.tuple ⟨[]⟩)=>some false
   | _=>none
  | none=>none

def sE (ops:Array Oper) (o:Oper):List Nat :=
 match o.guard with
 | none=>[]
 | some (j,_)=>match (ops[j]?).bind (·.dst) with
  | some d=>[d]
  | none=>[]

def yY (xs:Array Operand):List Nat:=xs.toList.filterMap fun | .tmp t=>some t | _=>none

def lv (ops:Array Oper) (o:Oper):List Nat:=yY o.op.operands++sE ops o

def vw (s:S) (o:Oper):List Nat :=
 match o.op with
 | .move _ | .assign _ | .pick .. | .extract .. | .makeFunc ..=>[]
 | _=>o.op.operands.toList.filterMap fun x=>(evO s x).id1

def rY (P:Program) (ops:Array Oper) (s:S) (o:Oper) (it:Item):Option bj :=
 match ls ops s o with
 | some false=>some ⟨⟨.v undef,[],[],none⟩,lv ops o,[],o.dst⟩
 | some true=>match it with
  | .auto h=>match gA P s h o with
   | some ev=>some ⟨ev,lv ops o,vw s o,o.dst⟩
   | none=>none
  | .call f args objs ev=>match kS s o with
   | some (f',args')=>bif Nat.beq f' f then some ⟨{ ev with c:=some (args'=args∧iK s.O objs) },lv ops o,objs.map (·.1),o.dst⟩ else none
   | none=>none
 | none=>none

def bj.ap (r:bj) (s:S):S:=r.ev.ap r.dst s

def kF (P:Program) (ops:Array Oper):List Oper→List Item→S→Option (List bj×S)
 | [],_,s=>some ([],s)
 | o::os,its,s=>match rY P ops s o (its.headD (.auto {})) with
  | some r=>match kF P ops os its.tail (r.ap s) with
   | some (rs,s')=>some (r::rs,s')
   | none=>none
  | none=>none

def allC:List bj→Prop
 | []=>True
 | r::rs=>match r.ev.c with
  | none=>allC rs
  | some p=>p∧allC rs

def ky (P:Program) (nin:Nat):List Item→Prop
 | []=>True
 | .auto _::r=>ky P nin r
 | .call f args objs ev::r=>vt P nin f args objs ev∧ky P nin r

structure S.Like (s s':S):Prop where
 T:∀ t,s.T t=s'.T t
 O:∀ k,s.O k=s'.O k

theorem S.Like.refl (s:S):s.Like s:=⟨fun _=>rfl,fun _=>rfl⟩

theorem S.Like.sh {s s':S} (h:s.Like s'):s.sh=s'.sh:=by funext k;simp only [S.sh,h.O]
theorem S.Like.Of {s s':S} (h:s.Like s'):s.O=s'.O:=funext h.O

theorem Rel.like {s s':S} (h:Rel X N s m a w) (hl:s.Like s'):Rel X N s' m a w:=by
 refine ⟨h.size,h.defers,fun t=>?_,fun k=>?_,?_,?_,h.fr⟩
 ·rw [← hl.sh,← hl.T];exact h.slot t
 ·rw [← hl.Of];exact h.obj k
 ·rw [← hl.sh];exact h.dist
 ·rw [← hl.sh];exact h.keep

def bj.wT (r:bj) (t:Nat):Prop:=r.dst=some t
def bj.wO (r:bj) (k:Nat):Prop:=∃ p∈r.ev.hw,p.1=k

theorem zA (ev:Ev) (s:S):(ev.hp s).T=s.T:=by
 unfold Ev.hp
 generalize ev.hw=l
 induction l generalizing s with
 | nil=>rfl
 | cons p l ih=>rw [List.foldl_cons,ih,S.T_setO]

theorem rz (l:List (Nat×AO)) (s:S) (k:Nat) (h:∀ p∈l,p.1≠k):(l.foldl (fun s p=>s.setO p.1 p.2) s).O k=s.O k:=by
 induction l generalizing s with
 | nil=>rfl
 | cons p l ih =>
  rw [List.foldl_cons,ih _ (fun q hq=>h q (by simp [hq])),S.O_setO,if_neg (Ne.symm (h p (by simp)))]

theorem AP (l:List (Nat×AO)) (s s':S) (k:Nat) (h:s.O k=s'.O k∨∃ p∈l,p.1=k):(l.foldl (fun s p=>s.setO p.1 p.2) s).O k=(l.foldl (fun s p=>s.setO p.1 p.2) s').O k:=by
 induction l generalizing s s' with
 | nil=>rcases h with h | ⟨p,hp,_⟩;exact h;cases hp
 | cons p l ih =>
  rw [List.foldl_cons,List.foldl_cons]
  refine ih _ _ ?_
  by_cases hk:k=p.1
  ·left;rw [S.O_setO,S.O_setO,if_pos hk,if_pos hk]
  ·rcases h with h | ⟨q,hq,hqk⟩
   ·left;rw [S.O_setO,S.O_setO,if_neg hk,if_neg hk];exact h
   ·rcases List.mem_cons.1 hq with rfl | hq
    ·exact absurd hqk.symm hk
    ·exact .inr ⟨q,hq,hqk⟩

theorem AW (r:bj) (s:S) (t:Nat):(r.ap s).T t=if r.dst=some t then r.ev.x else s.T t:=by
 unfold bj.ap Ev.ap
 cases hd:r.dst with
 | none=>simp [zA]
 | some d =>
  simp only [S.T_setT,zA]
  by_cases h:t=d
  ·simp [h]
  ·simp [h,Ne.symm h]

theorem qa {r:bj} {t:Nat} (h:r.wT t) (s:S):(r.ap s).T t=r.ev.x:=by rw [AW];exact if_pos h
theorem jA {r:bj} {t:Nat} (h:¬ r.wT t) (s:S):(r.ap s).T t=s.T t:=by rw [AW];exact if_neg h

theorem zN (r:bj) (s:S):(r.ap s).O=(r.ev.hp s).O:=by
 unfold bj.ap Ev.ap
 cases r.dst <;> rfl

theorem jv {r:bj} {s:S} {k:Nat} (h:¬ r.wO k):(r.ap s).O k=s.O k:=by
 rw [zN];exact rz _ _ _ fun p hp e=>h ⟨p,hp,e⟩

theorem xE {r:bj} {s s':S} {k:Nat} (h:s.O k=s'.O k∨r.wO k):(r.ap s).O k=(r.ap s').O k:=by
 rw [zN,zN];exact AP _ _ _ _ h

def sel:List bj→Nat→(Nat→Bool)→S→S
 | [],_,_,s=>s
 | r::rs,i,L,s=>sel rs (i+1) L (if L i then r.ap s else s)

theorem yD (t:Nat):∀ (rs:List bj) (i:Nat) (L L':Nat→Bool) (s s':S),s.T t=s'.T t→(∀ (j:Nat) r,rs[j]?=some r→r.wT t→L (i+j)=L' (i+j))→(sel rs i L s).T t=(sel rs i L' s').T t
 | [],_,_,_,s,s',h,_=>h
 | r::rs,i,L,L',s,s',h,hw=>by
  simp only [sel]
  refine yD t rs (i+1) L L' _ _ ?_ (fun j r' hr hw'=>by have:=hw (j+1) r' (by simpa using hr) hw';rwa [show i+(j+1)=i+1+j by omega] at this)
  by_cases hwt:r.wT t
  ·have:=hw 0 r rfl hwt
   simp only [Nat.add_zero] at this
   rw [this]
   split
   ·rw [qa hwt,qa hwt]
   ·exact h
  ·split <;> split
   ·rw [jA hwt,jA hwt];exact h
   ·rw [jA hwt];exact h
   ·rw [jA hwt];exact h
   ·exact h

theorem yp (k:Nat):∀ (rs:List bj) (i:Nat) (L L':Nat→Bool) (s s':S),s.O k=s'.O k→(∀ (j:Nat) r,rs[j]?=some r→r.wO k→L (i+j)=L' (i+j))→(sel rs i L s).O k=(sel rs i L' s').O k
 | [],_,_,_,s,s',h,_=>h
 | r::rs,i,L,L',s,s',h,hw=>by
  simp only [sel]
  refine yp k rs (i+1) L L' _ _ ?_ (fun j r' hr hw'=>by have:=hw (j+1) r' (by simpa using hr) hw';rwa [show i+(j+1)=i+1+j by omega] at this)
  by_cases hwt:r.wO k
  ·have:=hw 0 r rfl hwt
   simp only [Nat.add_zero] at this
   rw [this]
   split
   ·exact xE (.inl h)
   ·exact h
  ·split <;> split
   ·rw [jv hwt,jv hwt];exact h
   ·rw [jv hwt];exact h
   ·rw [jv hwt];exact h
   ·exact h

theorem pO (t:Nat):∀ (rs:List bj) (i0 n:Nat) (r:bj) (L L':Nat→Bool) (s:S),rs[n]?=some r→L (i0+n)=false→L' (i0+n)=true→(∀ j,j≠i0+n→L' j=L j) →
  (r.wT t→∀ (j:Nat) r',n<j→rs[j]?=some r'→L (i0+j)=true→¬ r'.wT t)→(sel rs i0 L' s).T t=(r.ap (sel rs i0 L s)).T t
 | [],_,n,r,_,_,_,h,_,_,_,_=>by simp at h
 | r0::rs,i0,0,r,L,L',s,h,h1,h2,h3,h4=>by
  simp at h;subst h
  simp only [Nat.add_zero] at h1 h2 h3
  simp only [sel,h1,h2,if_true,Bool.false_eq_true,if_false]
  have hsame:∀ s s':S,s.T t=s'.T t→(sel rs (i0+1) L' s).T t=(sel rs (i0+1) L s').T t:=fun s s' hs =>
   yD t rs (i0+1) L' L s s' hs (fun j _ _ _=>h3 _ (by omega))
  by_cases hwt:r0.wT t
  ·rw [qa hwt]
   have hconst:∀ (rs:List bj) (i:Nat) (s:S),(∀ (j:Nat) r',rs[j]?=some r'→L' (i+j)=true→¬ r'.wT t)→(sel rs i L' s).T t=s.T t:=by
    intro rs
    induction rs with
    | nil=>intro i s _;rfl
    | cons q qs ih =>
     intro i s hq
     simp only [sel]
     rw [ih (i+1) _ (fun j r' hr hl=>hq (j+1) r' (by simpa using hr) (by rwa [show i+(j+1)=i+1+j by omega]))]
     split
     ·rename_i hl
      exact jA (hq 0 q rfl (by simpa using hl)) _
     ·rfl
   rw [hconst rs (i0+1) _ (fun j r' hr hl=>h4 hwt (j+1) r' (by omega) (by simpa using hr) (by rw [show i0+(j+1)=i0+1+j by omega,← h3 _ (by omega)];exact hl))]
   rw [qa hwt]
  ·rw [jA hwt]
   exact hsame _ _ (jA hwt _)
 | r0::rs,i0,n+1,r,L,L',s,h,h1,h2,h3,h4=>by
  simp only [sel]
  rw [h3 i0 (by omega)]
  exact pO t rs (i0+1) n r L L' _ (by simpa using h) (by rw [show i0+1+n=i0+(n+1) by omega];exact h1) (by rw [show i0+1+n=i0+(n+1) by omega];exact h2)
   (fun j hj=>h3 j (by omega)) (fun hw j r' hj hr hl=>h4 hw (j+1) r' (by omega) (by simpa using hr) (by rw [show i0+(j+1)=i0+1+j by omega];exact hl))

theorem oY (k:Nat):∀ (rs:List bj) (i0 n:Nat) (r:bj) (L L':Nat→Bool) (s:S),rs[n]?=some r→L (i0+n)=false→L' (i0+n)=true→(∀ j,j≠i0+n→L' j=L j) →
  (r.wO k→∀ (j:Nat) r',n<j→rs[j]?=some r'→L (i0+j)=true→¬ r'.wO k)→(sel rs i0 L' s).O k=(r.ap (sel rs i0 L s)).O k
 | [],_,n,r,_,_,_,h,_,_,_,_=>by simp at h
 | r0::rs,i0,0,r,L,L',s,h,h1,h2,h3,h4=>by
  simp at h;subst h
  simp only [Nat.add_zero] at h1 h2 h3
  simp only [sel,h1,h2,if_true,Bool.false_eq_true,if_false]
  have hsame:∀ s s':S,s.O k=s'.O k→(sel rs (i0+1) L' s).O k=(sel rs (i0+1) L s').O k:=fun s s' hs =>
   yp k rs (i0+1) L' L s s' hs (fun j _ _ _=>h3 _ (by omega))
  by_cases hwt:r0.wO k
  ·have hconst:∀ (rs:List bj) (i:Nat) (s:S),(∀ (j:Nat) r',rs[j]?=some r'→L' (i+j)=true→¬ r'.wO k)→(sel rs i L' s).O k=s.O k:=by
    intro rs
    induction rs with
    | nil=>intro i s _;rfl
    | cons q qs ih =>
     intro i s hq
     simp only [sel]
     rw [ih (i+1) _ (fun j r' hr hl=>hq (j+1) r' (by simpa using hr) (by rwa [show i+(j+1)=i+1+j by omega]))]
     split
     ·rename_i hl
      exact jv (hq 0 q rfl (by simpa using hl))
     ·rfl
   rw [hconst rs (i0+1) _ (fun j r' hr hl=>h4 hwt (j+1) r' (by omega) (by simpa using hr) (by rw [show i0+(j+1)=i0+1+j by omega,← h3 _ (by omega)];exact hl))]
   exact xE (.inr hwt)
  ·rw [jv hwt]
   exact hsame _ _ (jv hwt)
 | r0::rs,i0,n+1,r,L,L',s,h,h1,h2,h3,h4=>by
  simp only [sel]
  rw [h3 i0 (by omega)]
  exact oY k rs (i0+1) n r L L' _ (by simpa using h) (by rw [show i0+1+n=i0+(n+1) by omega];exact h1) (by rw [show i0+1+n=i0+(n+1) by omega];exact h2)
   (fun j hj=>h3 j (by omega)) (fun hw j r' hj hr hl=>h4 hw (j+1) r' (by omega) (by simpa using hr) (by rw [show i0+(j+1)=i0+1+j by omega];exact hl))

def bj.speaks (r:bj) (k:Nat):Bool:=r.ev.x.names k || r.ev.hw.any fun p=>p.2.names k

theorem AK {r:bj} {s:S} {k:Nat} (h:s.free k=true) (hr:r.speaks k=false):(r.ap s).free k=true:=by
 simp only [bj.speaks,Bool.or_eq_false_iff,List.any_eq_false] at hr
 have hhp:∀ (l:List (Nat×AO)) (s:S),s.free k=true→(∀ p∈l,¬ (p.2.names k=true))→(l.foldl (fun s p=>s.setO p.1 p.2) s).free k=true:=by
  intro l
  induction l with
  | nil=>intro s h _;exact h
  | cons p l ih =>
   intro s h hp
   refine ih _ ?_ (fun q hq=>hp q (by simp [hq]))
   have:=hp p (by simp)
   simp only [S.free,S.setO,List.all_cons,Bool.and_eq_true] at h ⊢
   exact ⟨h.1,by simpa using this,h.2⟩
 have h1:=hhp r.ev.hw s h hr.2
 unfold bj.ap Ev.ap
 cases r.dst with
 | none=>exact h1
 | some d =>
  unfold Ev.hp
  simp only [S.free,S.setT,List.all_cons,Bool.and_eq_true] at h1 ⊢
  exact ⟨⟨by simpa using hr.1,h1.1⟩,h1.2⟩

theorem rn {k:Nat}:∀ (rs:List bj) (i:Nat) (L:Nat→Bool) (s:S),s.free k=true→(∀ (j:Nat) r,rs[j]?=some r→L (i+j)=true→r.speaks k=false)→(sel rs i L s).free k=true
 | [],_,_,s,h,_=>h
 | r::rs,i,L,s,h,hs=>by
  simp only [sel]
  refine rn rs (i+1) L _ ?_ (fun j r' hr hl=>hs (j+1) r' (by simpa using hr) (by rwa [show i+(j+1)=i+1+j by omega]))
  split
  ·rename_i hl
   exact AK h (hs 0 r rfl (by simpa using hl))
  ·exact h

end Go.Eng
