/- What is proved: what the engine reckons of an operation hangs on the operation's own operands and on the objects that they name. No conditions. -/
import Derived.Test.YtdnlgpmmkchopaaGreatDoorCRunDeskEng12
set_option linter.unusedVariables false
set_option linter.unusedSimpArgs false
namespace Go.Eng
open Go

variable {P : Program} {s s' : S} {o : Oper} {ev : Ev}

def AV.id1:AV→Option Nat
 | .sl k _ _=>some k
 | .pt k _=>some k
 | .pe k _ _=>some k
 | .mp k=>some k
 | _=>none

theorem rI {n:Nat} {O O':Nat→AO} {x i:AV} (h:∀ k,x.id1=some k→O k=O' k):jh n O x i=jh n O' x i:=by
 cases x <;> cases i <;> first
  | rfl
  | (rename_i y;cases y <;> first | rfl | simp only [jh,h _ rfl])

theorem wH {off:Nat} {O O':Nat→AO} {x:AV} (h:∀ k,x.id1=some k→O k=O' k):mu off O x=mu off O' x:=by
 cases x <;> first
  | rfl
  | simp only [mu,h _ rfl]

theorem qj {g:Bool} {n:Nat} {O O':Nat→AO} {x:AV} (h:∀ k,x.id1=some k→O k=O' k):od g n O x=od g n O' x:=by
 cases x <;> first
  | rfl
  | simp only [od,h _ rfl]

theorem sq {O O':Nat→AO} {x:AV} (h:∀ k,x.id1=some k→O k=O' k):jO O x=jO O' x:=by
 cases x <;> first
  | rfl
  | simp only [jO,h _ rfl]

theorem yp {O O':Nat→AO} {x:AV} (h:∀ k,x.id1=some k→O k=O' k):oj O x=oj O' x:=by
 cases x <;> first
  | rfl
  | simp only [oj,h _ rfl]

theorem wU {n:Nat} {O O':Nat→AO} {els:Option (List (List Value))} {p x:AV} (h:∀ k,p.id1=some k→O k=O' k):mA n O els p x=mA n O' els p x:=by
 cases p <;> first
  | rfl
  | simp only [mA,h _ rfl]

theorem nM {sz:Nat} {O O':Nat→AO} {els:Option (List (List Value))} {x:AV} (h:∀ k,x.id1=some k→O k=O' k):jz sz O els x=jz sz O' els x:=by
 cases x with
 | sl k lo len=>simp only [jz,h k rfl]
 | v y=>unfold jz;split <;> simp_all
 | _=>rfl

theorem zm {t t':TypeId} {sz:Nat} {zs:List Value} {O O':Nat→AO} {els:Option (List (List Value))} {x:AV} (h:∀ k,x.id1=some k→O k=O' k):uM P t t' sz zs O els x=uM P t t' sz zs O' els x:=by
 simp only [uM,nM h]

theorem vo {t t':TypeId} {zs:List Value} {sz bytes nk:Nat} {O O':Nat→AO} {els els2:Option (List (List Value))} {b x:AV} (h1:∀ k,b.id1=some k→O k=O' k) (h2:∀ k,x.id1=some k→O k=O' k):lm P t t' sz bytes zs O nk els els2 b x=lm P t t' sz bytes zs O' nk els els2 b x:=by
 simp only [lm,nM h1,zm h2]

theorem wy {sz:Nat} {zs:List Value} {O O':Nat→AO} {x:AV} (h:∀ k,x.id1=some k→O k=O' k):mB sz zs O x=mB sz zs O' x:=by
 cases x with
 | sl k lo len=>simp only [mB,h k rfl]
 | _=>rfl

theorem rq {O O':Nat→AO} {m k x:AV} (h:∀ i,m.id1=some i→O i=O' i):jf O m k x=jf O' m k x:=by
 cases m with
 | mp i =>
  have h0:=h i rfl
  unfold jf
  split <;> simp_all
 | _=>rfl

theorem vy {O O':Nat→AO} {m k:AV} (h:∀ i,m.id1=some i→O i=O' i):ko O m k=ko O' m k:=by
 cases m with
 | mp i =>
  have h0:=h i rfl
  unfold ko
  split <;> simp_all
 | bm ks=>unfold ko;split <;> simp_all
 | _=>rfl

theorem ta {O O':Nat→AO} {els:Option (List (List Value))} {src dst:TypeId} {x:AV} (h:∀ k,x.id1=some k→O k=O' k):jN P O els src dst x=jN P O' els src dst x:=by
 simp only [jN,nM h]

theorem fN {d:Int} {x:Option Operand} (h:∀ y∈x.toArray,evO s y=evO s' y):bnd s d x=bnd s' d x:=by
 cases x with
 | none=>rfl
 | some y=>simp only [bnd,h y (by simp)]

theorem wJ {n nk:Nat} {x:AV} {lo hi mx:Option Operand} (h:∀ k,x.id1=some k→s.O k=s'.O k) (h1:∀ y∈lo.toArray,evO s y=evO s' y) (h2:∀ y∈hi.toArray,evO s y=evO s' y) (h3:∀ y∈mx.toArray,evO s y=evO s' y) :
  kF n s nk x lo hi mx=kF n s' nk x lo hi mx:=by
 cases x with
 | sl k L len=>simp only [kF,h k rfl,fN h1,fN h2,fN h3]
 | v y=>simp only [kF,fN h1,fN h2,fN h3];split <;> simp_all
 | _=>simp only [kF,fN h1,fN h2,fN h3]

theorem vm {t:TypeId} {x:AV} {lo hi mx:Option Operand} (h1:∀ y∈lo.toArray,evO s y=evO s' y) (h2:∀ y∈hi.toArray,evO s y=evO s' y) :
  lr P t s x lo hi mx=lr P t s' x lo hi mx:=by
 cases x <;> simp only [lr,fN h1,fN h2]

theorem vu {h:pX} (ho:∀ x∈o.op.operands,evO s x=evO s' x) (hO:∀ x∈o.op.operands,∀ k,(evO s x).id1=some k→s.O k=s'.O k):bn P s h o=bn P s' h o:=by
 obtain ⟨dst,op,type,pos,after,guard⟩:=o
 simp only at ho hO
 have pairs:∀ ps:Array (Nat×Operand),(∀ x∈(ps.toList.map (·.2)).toArray,evO s x=evO s' x)→(ps.toList.map fun p=>(p.1,evO s p.2))=ps.toList.map fun p=>(p.1,evO s' p.2):=fun ps hp =>
  List.map_congr_left fun p hm=>by rw [hp p.2 (by simp;exact ⟨p.1,by simpa using hm⟩)]
 cases op <;> simp only [Op.operands] at ho hO
 case move x=>simp only [bn,ho x (by simp)]
 case assign x=>simp only [bn,ho x (by simp)]
 case pick c a b=>simp only [bn,ho c (by simp),ho a (by simp),ho b (by simp)]
 case alloc t=>rfl
 case box t x=>simp only [bn,ho x (by simp)]
 case build t ps=>simp only [bn,pairs ps ho]
 case buildSlice t n ps=>simp only [bn,pairs ps ho]
 case load t a=>have:=qj (g:=true) (n:=0) (hO a (by simp));simp only [bn,← ho a (by simp),qj (hO a (by simp))]
 case store t a v=>simp only [bn,← ho a (by simp),← ho v (by simp),wU (hO a (by simp))]
 case nilCheck x=>simp only [bn,← ho x (by simp),sq (hO x (by simp))]
 case makeMap t r=>cases r <;> rfl
 case mapUpdate t m k x=>simp only [bn,← ho m (by simp),← ho k (by simp),← ho x (by simp),rq (hO m (by simp))]
 case lookup t m k b =>
  cases b with
  | true=>rfl
  | false=>simp only [bn,← ho m (by simp),← ho k (by simp),vy (hO m (by simp))]
 case binOp op t x y yt=>simp only [bn,ho x (by simp),ho y (by simp)]
 case unOp op t x=>simp only [bn,ho x (by simp)]
 case convert src dst x=>simp only [bn,← ho x (by simp),ta (hO x (by simp))]
 case makeFunc fn first caps =>
  cases fn <;> try rfl
  simp only [bn]
  have:caps.toList.map (evO s)=caps.toList.map (evO s'):=List.map_congr_left fun x hx=>ho x (by simp;exact .inr (by simpa using hx))
  rw [this]
 case makeSlice t a v=>simp only [bn,ho a (by simp),ho v (by simp)]
 case slice t x lo hi mx =>
  simp only [bn]
  rw [← ho x (by simp)]
  have q1:∀ y∈lo.toArray,evO s y=evO s' y:=fun y hy=>ho y (by simp only [Array.mem_append];exact .inl (.inl (.inr hy)))
  have q2:∀ y∈hi.toArray,evO s y=evO s' y:=fun y hy=>ho y (by simp only [Array.mem_append];exact .inl (.inr hy))
  have q3:∀ y∈mx.toArray,evO s y=evO s' y:=fun y hy=>ho y (by simp only [Array.mem_append];exact .inr hy)
  cases dS P t with
  | none=>exact vm q1 q2
  | some q=>exact wJ (hO x (by simp)) q1 q2 q3
 case fieldAddr t x f=>simp only [bn,← ho x (by simp),wH (hO x (by simp))]
 case indexAddr t x i=>simp only [bn,← ho x (by simp),← ho i (by simp),rI (hO x (by simp))]
 case index t x i=>simp only [bn,ho x (by simp),ho i (by simp)]
 case extract x i=>simp only [bn,ho x (by simp)]
 case call c =>
  obtain ⟨callee,args,argTypes⟩:=c
  have hargs:∀ x∈args,evO s x=evO s' x:=fun x hx=>ho x (by simp only [Call.operands];exact Array.mem_append_right _ hx)
  have hargO:∀ x∈args,∀ k,(evO s x).id1=some k→s.O k=s'.O k:=fun x hx=>hO x (by simp only [Call.operands];exact Array.mem_append_right _ hx)
  unfold bn
  cases callee with
  | value f=>rfl
  | invoke r m=>rfl
  | builtin b =>
   obtain ⟨args⟩:=args
   obtain ⟨argTypes⟩:=argTypes
   cases b <;> try rfl
   case append =>
    match args,argTypes with
    | [b,x],[t,t'] =>
     have e1:=hargs b (by simp)
     have e2:=hargs x (by simp)
     simp only [← e1,← e2,vo (hargO b (by simp)) (hargO x (by simp))]
    | [],_=>rfl
    | [_],_=>rfl
    | _::_::_::_,_=>rfl
    | [_,_],[]=>rfl
    | [_,_],[_]=>rfl
    | [_,_],_::_::_::_=>rfl
   case clear =>
    match args,argTypes with
    | [x],[t]=>simp only [← hargs x (by simp),wy (hargO x (by simp))]
    | [],_=>rfl
    | _::_::_,_=>rfl
    | [_],[]=>rfl
    | [_],_::_::_=>rfl
   case cap =>
    match args,argTypes with
    | [x],[t]=>simp only [← hargs x (by simp)]
    | [],_=>rfl
    | _::_::_,_=>rfl
    | [_],[]=>rfl
    | [_],_::_::_=>rfl
   case len =>
    match args,argTypes with
    | [x],[t]=>simp only [← hargs x (by simp),yp (hargO x (by simp))]
    | [],_=>rfl
    | _::_::_,_=>rfl
    | [_],[]=>rfl
    | [_],_::_::_=>rfl
   case max =>
    match args with
    | [x,y]=>simp only [← hargs x (by simp),← hargs y (by simp)]
    | []=>rfl
    | [_]=>rfl
    | _::_::_::_=>rfl
   case min =>
    match args with
    | [x,y]=>simp only [← hargs x (by simp),← hargs y (by simp)]
    | []=>rfl
    | [_]=>rfl
    | _::_::_::_=>rfl
 all_goals rfl

theorem xW {h:pX} (ho:∀ x∈o.op.operands,evO s x=evO s' x) (hO:∀ x∈o.op.operands,∀ k,(evO s x).id1=some k→s.O k=s'.O k):ic P s h o=ic P s' h o:=by
 unfold ic
 rw [vu ho hO]

end Go.Eng
