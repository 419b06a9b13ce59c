/- What is proved: what the engine reckons of an operation hangs on the operation's own operands and on the objects that they name. No conditions. -/
import Derived.Test.YtdnlgpmmkchopaaGreatDoorCExactRunDeskEng12
set_option linter.unusedVariables false
set_option linter.unusedSimpArgs false
namespace Go.Eng
open Go

variable {P : Program} {s s' : S} {o : Oper} {ev : Ev}

def AV.id1:AV→Option Nat
 | .sl k _ _=>some k
 | .pt k _=>some k
 | .pe k _ _=>some k
 | .mp k=>some k
 | _=>none

theorem qv {n:Nat} {O O':Nat→AO} {x i:AV} (h:∀ k,x.id1=some k→O k=O' k):iv n O x i=iv n O' x i:=by
 cases x <;> cases i <;> first
  | rfl
  | (rename_i y;cases y <;> first | rfl | simp only [iv,h _ rfl])

theorem uP {off:Nat} {O O':Nat→AO} {x:AV} (h:∀ k,x.id1=some k→O k=O' k):lA off O x=lA off O' x:=by
 cases x <;> first
  | rfl
  | simp only [lA,h _ rfl]

theorem pk {g:Bool} {n:Nat} {O O':Nat→AO} {x:AV} (h:∀ k,x.id1=some k→O k=O' k):mX g n O x=mX g n O' x:=by
 cases x <;> first
  | rfl
  | simp only [mX,h _ rfl]

theorem rT {O O':Nat→AO} {x:AV} (h:∀ k,x.id1=some k→O k=O' k):iU O x=iU O' x:=by
 cases x <;> first
  | rfl
  | simp only [iU,h _ rfl]

theorem wd {O O':Nat→AO} {x:AV} (h:∀ k,x.id1=some k→O k=O' k):ni O x=ni O' x:=by
 cases x <;> first
  | rfl
  | simp only [ni,h _ rfl]

theorem vr {n:Nat} {O O':Nat→AO} {els:Option (List (List Value))} {p x:AV} (h:∀ k,p.id1=some k→O k=O' k):lu n O els p x=lu n O' els p x:=by
 cases p <;> first
  | rfl
  | simp only [lu,h _ rfl]

theorem mK {sz:Nat} {O O':Nat→AO} {els:Option (List (List Value))} {x:AV} (h:∀ k,x.id1=some k→O k=O' k):iR sz O els x=iR sz O' els x:=by
 cases x with
 | sl k lo len=>simp only [iR,h k rfl]
 | v y=>unfold iR;split <;> simp_all
 | _=>rfl

theorem ya {t t':TypeId} {sz:Nat} {zs:List Value} {O O':Nat→AO} {els:Option (List (List Value))} {x:AV} (h:∀ k,x.id1=some k→O k=O' k):tG P t t' sz zs O els x=tG P t t' sz zs O' els x:=by
 simp only [tG,mK h]

theorem tY {t t':TypeId} {zs:List Value} {sz bytes nk:Nat} {O O':Nat→AO} {els els2:Option (List (List Value))} {b x:AV} (h1:∀ k,b.id1=some k→O k=O' k) (h2:∀ k,x.id1=some k→O k=O' k):kp P t t' sz bytes zs O nk els els2 b x=kp P t t' sz bytes zs O' nk els els2 b x:=by
 simp only [kp,mK h1,ya h2]

theorem uU {sz:Nat} {zs:List Value} {O O':Nat→AO} {x:AV} (h:∀ k,x.id1=some k→O k=O' k):lw sz zs O x=lw sz zs O' x:=by
 cases x with
 | sl k lo len=>simp only [lw,h k rfl]
 | _=>rfl

theorem qw {O O':Nat→AO} {m k x:AV} (h:∀ i,m.id1=some i→O i=O' i):io O m k x=io O' m k x:=by
 cases m with
 | mp i =>
  have h0:=h i rfl
  unfold io
  split <;> simp_all
 | _=>rfl

theorem tq {O O':Nat→AO} {m k:AV} (h:∀ i,m.id1=some i→O i=O' i):jz O m k=jz O' m k:=by
 cases m with
 | mp i =>
  have h0:=h i rfl
  unfold jz
  split <;> simp_all
 | bm ks=>unfold jz;split <;> simp_all
 | _=>rfl

theorem qZ {O O':Nat→AO} {els:Option (List (List Value))} {src dst:TypeId} {x:AV} (h:∀ k,x.id1=some k→O k=O' k):iX P O els src dst x=iX P O' els src dst x:=by
 simp only [iX,mK h]

theorem eX {d:Int} {x:Option Operand} (h:∀ y∈x.toArray,evO s y=evO s' y):bnd s d x=bnd s' d x:=by
 cases x with
 | none=>rfl
 | some y=>simp only [bnd,h y (by simp)]

theorem vp {n nk:Nat} {x:AV} {lo hi mx:Option Operand} (h:∀ k,x.id1=some k→s.O k=s'.O k) (h1:∀ y∈lo.toArray,evO s y=evO s' y) (h2:∀ y∈hi.toArray,evO s y=evO s' y) (h3:∀ y∈mx.toArray,evO s y=evO s' y) :
  jH n s nk x lo hi mx=jH n s' nk x lo hi mx:=by
 cases x with
 | sl k L len=>simp only [jH,h k rfl,eX h1,eX h2,eX h3]
 | v y=>simp only [jH,eX h1,eX h2,eX h3];split <;> simp_all
 | _=>simp only [jH,eX h1,eX h2,eX h3]

theorem tN {t:TypeId} {x:AV} {lo hi mx:Option Operand} (h1:∀ y∈lo.toArray,evO s y=evO s' y) (h2:∀ y∈hi.toArray,evO s y=evO s' y) :
  kz P t s x lo hi mx=kz P t s' x lo hi mx:=by
 cases x <;> simp only [kz,eX h1,eX h2]

theorem ub {h:pf} (ho:∀ x∈o.op.operands,evO s x=evO s' x) (hO:∀ x∈o.op.operands,∀ k,(evO s x).id1=some k→s.O k=s'.O k):aZ P s h o=aZ P s' h o:=by
 obtain ⟨dst,op,type,pos,after,guard⟩:=o
 simp only at ho hO
 have pairs:∀ ps:Array (Nat×Operand),(∀ x∈(ps.toList.map (·.2)).toArray,evO s x=evO s' x)→(ps.toList.map fun p=>(p.1,evO s p.2))=ps.toList.map fun p=>(p.1,evO s' p.2):=fun ps hp =>
  List.map_congr_left fun p hm=>by rw [hp p.2 (by simp;exact ⟨p.1,by simpa using hm⟩)]
 cases op <;> simp only [Op.operands] at ho hO
 case move x=>simp only [aZ,ho x (by simp)]
 case assign x=>simp only [aZ,ho x (by simp)]
 case pick c a b=>simp only [aZ,ho c (by simp),ho a (by simp),ho b (by simp)]
 case alloc t=>rfl
 case box t x=>simp only [aZ,ho x (by simp)]
 case build t ps=>simp only [aZ,pairs ps ho]
 case buildSlice t n ps=>simp only [aZ,pairs ps ho]
 case load t a=>have:=pk (g:=true) (n:=0) (hO a (by simp));simp only [aZ,← ho a (by simp),pk (hO a (by simp))]
 case store t a v=>simp only [aZ,← ho a (by simp),← ho v (by simp),vr (hO a (by simp))]
 case nilCheck x=>simp only [aZ,← ho x (by simp),rT (hO x (by simp))]
 case makeMap t r=>cases r <;> rfl
 case mapUpdate t m k x=>simp only [aZ,← ho m (by simp),← ho k (by simp),← ho x (by simp),qw (hO m (by simp))]
 case lookup t m k b =>
  cases b with
  | true=>rfl
  | false=>simp only [aZ,← ho m (by simp),← ho k (by simp),tq (hO m (by simp))]
 case binOp op t x y yt=>simp only [aZ,ho x (by simp),ho y (by simp)]
 case unOp op t x=>simp only [aZ,ho x (by simp)]
 case convert src dst x=>simp only [aZ,← ho x (by simp),qZ (hO x (by simp))]
 case makeFunc fn first caps =>
  cases fn <;> try rfl
  simp only [aZ]
  have:caps.toList.map (evO s)=caps.toList.map (evO s'):=List.map_congr_left fun x hx=>ho x (by simp;exact .inr (by simpa using hx))
  rw [this]
 case makeSlice t a v=>simp only [aZ,ho a (by simp),ho v (by simp)]
 case slice t x lo hi mx =>
  simp only [aZ]
  rw [← ho x (by simp)]
  have q1:∀ y∈lo.toArray,evO s y=evO s' y:=fun y hy=>ho y (by simp only [Array.mem_append];exact .inl (.inl (.inr hy)))
  have q2:∀ y∈hi.toArray,evO s y=evO s' y:=fun y hy=>ho y (by simp only [Array.mem_append];exact .inl (.inr hy))
  have q3:∀ y∈mx.toArray,evO s y=evO s' y:=fun y hy=>ho y (by simp only [Array.mem_append];exact .inr hy)
  cases dE P t with
  | none=>exact tN q1 q2
  | some q=>exact vp (hO x (by simp)) q1 q2 q3
 case fieldAddr t x f=>simp only [aZ,← ho x (by simp),uP (hO x (by simp))]
 case indexAddr t x i=>simp only [aZ,← ho x (by simp),← ho i (by simp),qv (hO x (by simp))]
 case index t x i=>simp only [aZ,ho x (by simp),ho i (by simp)]
 case extract x i=>simp only [aZ,ho x (by simp)]
 case call c =>
  obtain ⟨callee,args,argTypes⟩:=c
  have hargs:∀ x∈args,evO s x=evO s' x:=fun x hx=>ho x (by simp only [Call.operands];exact Array.mem_append_right _ hx)
  have hargO:∀ x∈args,∀ k,(evO s x).id1=some k→s.O k=s'.O k:=fun x hx=>hO x (by simp only [Call.operands];exact Array.mem_append_right _ hx)
  unfold aZ
  cases callee with
  | value f=>rfl
  | invoke r m=>rfl
  | builtin b =>
   obtain ⟨args⟩:=args
   obtain ⟨argTypes⟩:=argTypes
   cases b <;> try rfl
   case append =>
    match args,argTypes with
    | [b,x],[t,t'] =>
     have e1:=hargs b (by simp)
     have e2:=hargs x (by simp)
     simp only [← e1,← e2,tY (hargO b (by simp)) (hargO x (by simp))]
    | [],_=>rfl
    | [_],_=>rfl
    | _::_::_::_,_=>rfl
    | [_,_],[]=>rfl
    | [_,_],[_]=>rfl
    | [_,_],_::_::_::_=>rfl
   case clear =>
    match args,argTypes with
    | [x],[t]=>simp only [← hargs x (by simp),uU (hargO x (by simp))]
    | [],_=>rfl
    | _::_::_,_=>rfl
    | [_],[]=>rfl
    | [_],_::_::_=>rfl
   case cap =>
    match args,argTypes with
    | [x],[t]=>simp only [← hargs x (by simp)]
    | [],_=>rfl
    | _::_::_,_=>rfl
    | [_],[]=>rfl
    | [_],_::_::_=>rfl
   case len =>
    match args,argTypes with
    | [x],[t]=>simp only [← hargs x (by simp),wd (hargO x (by simp))]
    | [],_=>rfl
    | _::_::_,_=>rfl
    | [_],[]=>rfl
    | [_],_::_::_=>rfl
   case max =>
    match args with
    | [x,y]=>simp only [← hargs x (by simp),← hargs y (by simp)]
    | []=>rfl
    | [_]=>rfl
    | _::_::_::_=>rfl
   case min =>
    match args with
    | [x,y]=>simp only [← hargs x (by simp),← hargs y (by simp)]
    | []=>rfl
    | [_]=>rfl
    | _::_::_::_=>rfl
 all_goals rfl

theorem vO {h:pf} (ho:∀ x∈o.op.operands,evO s x=evO s' x) (hO:∀ x∈o.op.operands,∀ k,(evO s x).id1=some k→s.O k=s'.O k):gA P s h o=gA P s' h o:=by
 unfold gA
 rw [ub ho hO]

end Go.Eng
