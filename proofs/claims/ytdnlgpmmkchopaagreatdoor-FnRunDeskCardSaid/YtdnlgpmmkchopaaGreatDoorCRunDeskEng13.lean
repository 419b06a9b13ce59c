/- What is proved: what the engine reckons of an operation hangs on the operation's own operands and on the objects that they name. No conditions. -/
import Derived.Test.YtdnlgpmmkchopaaGreatDoorCRunDeskEng12
set_option linter.unusedVariables false
set_option linter.unusedSimpArgs false
namespace Go.Eng
open Go

variable {P : Program} {s s' : S} {o : Oper} {ev : Ev}

def AV.id1:AV→Option Nat
 | .sl k _ _=>some k
 | .pt k _=>some k
 | .pe k _ _=>some k
 | .mp k=>some k
 | _=>none

theorem rE {n:Nat} {O O':Nat→AO} {x i:AV} (h:∀ k,x.id1=some k→O k=O' k):jh n O x i=jh n O' x i:=by
 cases x <;> cases i <;> first
  | rfl
  | (rename_i y;cases y <;> first | rfl | simp only [jh,h _ rfl])

theorem wu {off:Nat} {O O':Nat→AO} {x:AV} (h:∀ k,x.id1=some k→O k=O' k):mr off O x=mr off O' x:=by
 cases x <;> first
  | rfl
  | simp only [mr,h _ rfl]

theorem qH {g:Bool} {n:Nat} {O O':Nat→AO} {x:AV} (h:∀ k,x.id1=some k→O k=O' k):nW g n O x=nW g n O' x:=by
 cases x <;> first
  | rfl
  | simp only [nW,h _ rfl]

theorem sW {O O':Nat→AO} {x:AV} (h:∀ k,x.id1=some k→O k=O' k):jE O x=jE O' x:=by
 cases x <;> first
  | rfl
  | simp only [jE,h _ rfl]

theorem xr {O O':Nat→AO} {x:AV} (h:∀ k,x.id1=some k→O k=O' k):ot O x=ot O' x:=by
 cases x <;> first
  | rfl
  | simp only [ot,h _ rfl]

theorem wm {n:Nat} {O O':Nat→AO} {els:Option (List (List Value))} {p x:AV} (h:∀ k,p.id1=some k→O k=O' k):mv n O els p x=mv n O' els p x:=by
 cases p <;> first
  | rfl
  | simp only [mv,h _ rfl]

theorem nP {sz:Nat} {O O':Nat→AO} {els:Option (List (List Value))} {x:AV} (h:∀ k,x.id1=some k→O k=O' k):jz sz O els x=jz sz O' els x:=by
 cases x with
 | sl k lo len=>simp only [jz,h k rfl]
 | v y=>unfold jz;split <;> simp_all
 | _=>rfl

theorem zX {t t':TypeId} {sz:Nat} {zs:List Value} {O O':Nat→AO} {els:Option (List (List Value))} {x:AV} (h:∀ k,x.id1=some k→O k=O' k):uZ P t t' sz zs O els x=uZ P t t' sz zs O' els x:=by
 simp only [uZ,nP h]

theorem uV {t t':TypeId} {zs:List Value} {sz bytes nk:Nat} {O O':Nat→AO} {els els2:Option (List (List Value))} {b x:AV} (h1:∀ k,b.id1=some k→O k=O' k) (h2:∀ k,x.id1=some k→O k=O' k):lj P t t' sz bytes zs O nk els els2 b x=lj P t t' sz bytes zs O' nk els els2 b x:=by
 simp only [lj,nP h1,zX h2]

theorem wj {sz:Nat} {zs:List Value} {O O':Nat→AO} {x:AV} (h:∀ k,x.id1=some k→O k=O' k):mu sz zs O x=mu sz zs O' x:=by
 cases x with
 | sl k lo len=>simp only [mu,h k rfl]
 | _=>rfl

theorem rk {O O':Nat→AO} {m k x:AV} (h:∀ i,m.id1=some i→O i=O' i):jc O m k x=jc O' m k x:=by
 cases m with
 | mp i =>
  have h0:=h i rfl
  unfold jc
  split <;> simp_all
 | _=>rfl

theorem uI {O O':Nat→AO} {m k:AV} (h:∀ i,m.id1=some i→O i=O' i):ko O m k=ko O' m k:=by
 cases m with
 | mp i =>
  have h0:=h i rfl
  unfold ko
  split <;> simp_all
 | bm ks=>unfold ko;split <;> simp_all
 | _=>rfl

theorem sU {O O':Nat→AO} {els:Option (List (List Value))} {src dst:TypeId} {x:AV} (h:∀ k,x.id1=some k→O k=O' k):jD P O els src dst x=jD P O' els src dst x:=by
 simp only [jD,nP h]

theorem fQ {d:Int} {x:Option Operand} (h:∀ y∈x.toArray,evO s y=evO s' y):bnd s d x=bnd s' d x:=by
 cases x with
 | none=>rfl
 | some y=>simp only [bnd,h y (by simp)]

theorem wl {n nk:Nat} {x:AV} {lo hi mx:Option Operand} (h:∀ k,x.id1=some k→s.O k=s'.O k) (h1:∀ y∈lo.toArray,evO s y=evO s' y) (h2:∀ y∈hi.toArray,evO s y=evO s' y) (h3:∀ y∈mx.toArray,evO s y=evO s' y) :
  kw n s nk x lo hi mx=kw n s' nk x lo hi mx:=by
 cases x with
 | sl k L len=>simp only [kw,h k rfl,fQ h1,fQ h2,fQ h3]
 | v y=>simp only [kw,fQ h1,fQ h2,fQ h3];split <;> simp_all
 | _=>simp only [kw,fQ h1,fQ h2,fQ h3]

theorem uQ {t:TypeId} {x:AV} {lo hi mx:Option Operand} (h1:∀ y∈lo.toArray,evO s y=evO s' y) (h2:∀ y∈hi.toArray,evO s y=evO s' y) :
  lq P t s x lo hi mx=lq P t s' x lo hi mx:=by
 cases x <;> simp only [lq,fQ h1,fQ h2]

theorem uX {h:qd} (ho:∀ x∈o.op.operands,evO s x=evO s' x) (hO:∀ x∈o.op.operands,∀ k,(evO s x).id1=some k→s.O k=s'.O k):bn P s h o=bn P s' h o:=by
 obtain ⟨dst,op,type,pos,after,guard⟩:=o
 simp only at ho hO
 have pairs:∀ ps:Array (Nat×Operand),(∀ x∈(ps.toList.map (·.2)).toArray,evO s x=evO s' x)→(ps.toList.map fun p=>(p.1,evO s p.2))=ps.toList.map fun p=>(p.1,evO s' p.2):=fun ps hp =>
  List.map_congr_left fun p hm=>by rw [hp p.2 (by simp;exact ⟨p.1,by simpa using hm⟩)]
 cases op <;> simp only [Op.operands] at ho hO
 case move x=>simp only [bn,ho x (by simp)]
 case assign x=>simp only [bn,ho x (by simp)]
 case pick c a b=>simp only [bn,ho c (by simp),ho a (by simp),ho b (by simp)]
 case alloc t=>rfl
 case box t x=>simp only [bn,ho x (by simp)]
 case build t ps=>simp only [bn,pairs ps ho]
 case buildSlice t n ps=>simp only [bn,pairs ps ho]
 case load t a=>have:=qH (g:=true) (n:=0) (hO a (by simp));simp only [bn,← ho a (by simp),qH (hO a (by simp))]
 case store t a v=>simp only [bn,← ho a (by simp),← ho v (by simp),wm (hO a (by simp))]
 case nilCheck x=>simp only [bn,← ho x (by simp),sW (hO x (by simp))]
 case makeMap t r=>cases r <;> rfl
 case mapUpdate t m k x=>simp only [bn,← ho m (by simp),← ho k (by simp),← ho x (by simp),rk (hO m (by simp))]
 case lookup t m k b =>
  cases b with
  | true=>rfl
  | false=>simp only [bn,← ho m (by simp),← ho k (by simp),uI (hO m (by simp))]
 case binOp op t x y yt=>simp only [bn,ho x (by simp),ho y (by simp)]
 case unOp op t x=>simp only [bn,ho x (by simp)]
 case convert src dst x=>simp only [bn,← ho x (by simp),sU (hO x (by simp))]
 case makeFunc fn first caps =>
  cases fn <;> try rfl
  simp only [bn]
  have:caps.toList.map (evO s)=caps.toList.map (evO s'):=List.map_congr_left fun x hx=>ho x (by simp;exact .inr (by simpa using hx))
  rw [this]
 case makeSlice t a v=>simp only [bn,ho a (by simp),ho v (by simp)]
 case slice t x lo hi mx =>
  simp only [bn]
  rw [← ho x (by simp)]
  have q1:∀ y∈lo.toArray,evO s y=evO s' y:=fun y hy=>ho y (by simp only [Array.mem_append];exact .inl (.inl (.inr hy)))
  have q2:∀ y∈hi.toArray,evO s y=evO s' y:=fun y hy=>ho y (by simp only [Array.mem_append];exact .inl (.inr hy))
  have q3:∀ y∈mx.toArray,evO s y=evO s' y:=fun y hy=>ho y (by simp only [Array.mem_append];exact .inr hy)
  cases dP P t with
  | none=>exact uQ q1 q2
  | some q=>exact wl (hO x (by simp)) q1 q2 q3
 case fieldAddr t x f=>simp only [bn,← ho x (by simp),wu (hO x (by simp))]
 case indexAddr t x i=>simp only [bn,← ho x (by simp),← ho i (by simp),rE (hO x (by simp))]
 case index t x i=>simp only [bn,ho x (by simp),ho i (by simp)]
 case extract x i=>simp only [bn,ho x (by simp)]
 case call c =>
  obtain ⟨callee,args,argTypes⟩:=c
  have hargs:∀ x∈args,evO s x=evO s' x:=fun x hx=>ho x (by simp only [Call.operands];exact Array.mem_append_right _ hx)
  have hargO:∀ x∈args,∀ k,(evO s x).id1=some k→s.O k=s'.O k:=fun x hx=>hO x (by simp only [Call.operands];exact Array.mem_append_right _ hx)
  unfold bn
  cases callee with
  | value f=>rfl
  | invoke r m=>rfl
  | builtin b =>
   obtain ⟨args⟩:=args
   obtain ⟨argTypes⟩:=argTypes
   cases b <;> try rfl
   case append =>
    match args,argTypes with
    | [b,x],[t,t'] =>
     have e1:=hargs b (by simp)
     have e2:=hargs x (by simp)
     simp only [← e1,← e2,uV (hargO b (by simp)) (hargO x (by simp))]
    | [],_=>rfl
    | [_],_=>rfl
    | _::_::_::_,_=>rfl
    | [_,_],[]=>rfl
    | [_,_],[_]=>rfl
    | [_,_],_::_::_::_=>rfl
   case clear =>
    match args,argTypes with
    | [x],[t]=>simp only [← hargs x (by simp),wj (hargO x (by simp))]
    | [],_=>rfl
    | _::_::_,_=>rfl
    | [_],[]=>rfl
    | [_],_::_::_=>rfl
   case cap =>
    match args,argTypes with
    | [x],[t]=>simp only [← hargs x (by simp)]
    | [],_=>rfl
    | _::_::_,_=>rfl
    | [_],[]=>rfl
    | [_],_::_::_=>rfl
   case len =>
    match args,argTypes with
    | [x],[t]=>simp only [← hargs x (by simp),xr (hargO x (by simp))]
    | [],_=>rfl
    | _::_::_,_=>rfl
    | [_],[]=>rfl
    | [_],_::_::_=>rfl
   case max =>
    match args with
    | [x,y]=>simp only [← hargs x (by simp),← hargs y (by simp)]
    | []=>rfl
    | [_]=>rfl
    | _::_::_::_=>rfl
   case min =>
    match args with
    | [x,y]=>simp only [← hargs x (by simp),← hargs y (by simp)]
    | []=>rfl
    | [_]=>rfl
    | _::_::_::_=>rfl
 all_goals rfl

theorem xO {h:qd} (ho:∀ x∈o.op.operands,evO s x=evO s' x) (hO:∀ x∈o.op.operands,∀ k,(evO s x).id1=some k→s.O k=s'.O k):ik P s h o=ik P s' h o:=by
 unfold ik
 rw [uX ho hO]

end Go.Eng
