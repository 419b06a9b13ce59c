/- What is proved: what the engine reckons of an operation hangs on the operation's own operands and on the objects that they name. No conditions. -/
import Derived.Test.YtdnlgpmmkchopaaGreatDoorCExactRunDeskEng12
set_option linter.unusedVariables false
set_option linter.unusedSimpArgs false
namespace Go.Eng
open Go

variable {P : Program} {s s' : S} {o : Oper} {ev : Ev}

def AV.id1:AV→Option Nat
  | .sl k _ _=>some k
  | .pt k _=>some k
  | .pe k _ _=>some k
  | .mp k=>some k
  | _=>none

theorem qm {n:Nat} {O O':Nat→AO} {x i:AV} (h:∀ k,x.id1=some k→O k=O' k):ip n O x i=ip n O' x i:=by
  cases x <;> cases i <;> first
    | rfl
    | (rename_i y;cases y <;> first | rfl | simp only [ip,h _ rfl])

theorem uN {off:Nat} {O O':Nat→AO} {x:AV} (h:∀ k,x.id1=some k→O k=O' k):lw off O x=lw off O' x:=by
  cases x <;> first
    | rfl
    | simp only [lw,h _ rfl]

theorem pk {g:Bool} {n:Nat} {O O':Nat→AO} {x:AV} (h:∀ k,x.id1=some k→O k=O' k):mT g n O x=mT g n O' x:=by
  cases x <;> first
    | rfl
    | simp only [mT,h _ rfl]

theorem rB {O O':Nat→AO} {x:AV} (h:∀ k,x.id1=some k→O k=O' k):iT O x=iT O' x:=by
  cases x <;> first
    | rfl
    | simp only [iT,h _ rfl]

theorem vV {O O':Nat→AO} {x:AV} (h:∀ k,x.id1=some k→O k=O' k):mQ O x=mQ O' x:=by
  cases x <;> first
    | rfl
    | simp only [mQ,h _ rfl]

theorem vm {n:Nat} {O O':Nat→AO} {els:Option (List (List Value))} {p x:AV} (h:∀ k,p.id1=some k→O k=O' k):lz n O els p x=lz n O' els p x:=by
  cases p <;> first
    | rfl
    | simp only [lz,h _ rfl]

theorem mH {sz:Nat} {O O':Nat→AO} {els:Option (List (List Value))} {x:AV} (h:∀ k,x.id1=some k→O k=O' k):iZ sz O els x=iZ sz O' els x:=by
  cases x with
  | sl k lo len=>simp only [iZ,h k rfl]
  | v y=>unfold iZ;split <;> simp_all
  | _=>rfl

theorem xQ {t t':TypeId} {sz:Nat} {zs:List Value} {O O':Nat→AO} {els:Option (List (List Value))} {x:AV} (h:∀ k,x.id1=some k→O k=O' k):tD P t t' sz zs O els x=tD P t t' sz zs O' els x:=by
  simp only [tD,mH h]

theorem ue {t t':TypeId} {zs:List Value} {sz bytes nk:Nat} {O O':Nat→AO} {els els2:Option (List (List Value))} {b x:AV} (h1:∀ k,b.id1=some k→O k=O' k) (h2:∀ k,x.id1=some k→O k=O' k):kH P t t' sz bytes zs O nk els els2 b x=kH P t t' sz bytes zs O' nk els els2 b x:=by
  simp only [kH,mH h1,xQ h2]

theorem uV {sz:Nat} {zs:List Value} {O O':Nat→AO} {x:AV} (h:∀ k,x.id1=some k→O k=O' k):lB sz zs O x=lB sz zs O' x:=by
  cases x with
  | sl k lo len=>simp only [lB,h k rfl]
  | _=>rfl

theorem qe {O O':Nat→AO} {m k x:AV} (h:∀ i,m.id1=some i→O i=O' i):iv O m k x=iv O' m k x:=by
  cases m with
  | mp i =>
    have h0:=h i rfl
    unfold iv
    split <;> simp_all
  | _=>rfl

theorem tP {O O':Nat→AO} {m k:AV} (h:∀ i,m.id1=some i→O i=O' i):jH O m k=jH O' m k:=by
  cases m with
  | mp i =>
    have h0:=h i rfl
    unfold jH
    split <;> simp_all
  | bm ks=>unfold jH;split <;> simp_all
  | _=>rfl

theorem rA {O O':Nat→AO} {els:Option (List (List Value))} {src dst:TypeId} {x:AV} (h:∀ k,x.id1=some k→O k=O' k):ja P O els src dst x=ja P O' els src dst x:=by
  simp only [ja,mH h]

theorem fh {d:Int} {x:Option Operand} (h:∀ y∈x.toArray,evO s y=evO s' y):bnd s d x=bnd s' d x:=by
  cases x with
  | none=>rfl
  | some y=>simp only [bnd,h y (by simp)]

theorem uJ {n nk:Nat} {x:AV} {lo hi mx:Option Operand} (h:∀ k,x.id1=some k→s.O k=s'.O k) (h1:∀ y∈lo.toArray,evO s y=evO s' y) (h2:∀ y∈hi.toArray,evO s y=evO s' y) (h3:∀ y∈mx.toArray,evO s y=evO s' y) :
    jQ n s nk x lo hi mx=jQ n s' nk x lo hi mx:=by
  cases x with
  | sl k L len=>simp only [jQ,h k rfl,fh h1,fh h2,fh h3]
  | v y=>simp only [jQ,fh h1,fh h2,fh h3];split <;> simp_all
  | _=>simp only [jQ,fh h1,fh h2,fh h3]

theorem tl {t:TypeId} {x:AV} {lo hi mx:Option Operand} (h1:∀ y∈lo.toArray,evO s y=evO s' y) (h2:∀ y∈hi.toArray,evO s y=evO s' y) :
    kx P t s x lo hi mx=kx P t s' x lo hi mx:=by
  cases x <;> simp only [kx,fh h1,fh h2]

theorem tt {h:pB} (ho:∀ x∈o.op.operands,evO s x=evO s' x) (hO:∀ x∈o.op.operands,∀ k,(evO s x).id1=some k→s.O k=s'.O k):bh P s h o=bh P s' h o:=by
  obtain ⟨dst,op,type,pos,after,guard⟩:=o
  simp only at ho hO
  have pairs:∀ ps:Array (Nat×Operand),(∀ x∈(ps.toList.map (·.2)).toArray,evO s x=evO s' x)→(ps.toList.map fun p=>(p.1,evO s p.2))=ps.toList.map fun p=>(p.1,evO s' p.2):=fun ps hp =>
    List.map_congr_left fun p hm=>by rw [hp p.2 (by simp;exact ⟨p.1,by simpa using hm⟩)]
  cases op <;> simp only [Op.operands] at ho hO
  case move x=>simp only [bh,ho x (by simp)]
  case assign x=>simp only [bh,ho x (by simp)]
  case pick c a b=>simp only [bh,ho c (by simp),ho a (by simp),ho b (by simp)]
  case alloc t=>rfl
  case box t x=>simp only [bh,ho x (by simp)]
  case build t ps=>simp only [bh,pairs ps ho]
  case buildSlice t n ps=>simp only [bh,pairs ps ho]
  case load t a=>have:=pk (g:=true) (n:=0) (hO a (by simp));simp only [bh,← ho a (by simp),pk (hO a (by simp))]
  case store t a v=>simp only [bh,← ho a (by simp),← ho v (by simp),vm (hO a (by simp))]
  case nilCheck x=>simp only [bh,← ho x (by simp),rB (hO x (by simp))]
  case makeMap t r=>cases r <;> rfl
  case mapUpdate t m k x=>simp only [bh,← ho m (by simp),← ho k (by simp),← ho x (by simp),qe (hO m (by simp))]
  case lookup t m k b =>
    cases b with
    | true=>rfl
    | false=>simp only [bh,← ho m (by simp),← ho k (by simp),tP (hO m (by simp))]
  case binOp op t x y yt=>simp only [bh,ho x (by simp),ho y (by simp)]
  case unOp op t x=>simp only [bh,ho x (by simp)]
  case convert src dst x=>simp only [bh,← ho x (by simp),rA (hO x (by simp))]
  case makeFunc fn first caps =>
    cases fn <;> try rfl
    simp only [bh]
    have:caps.toList.map (evO s)=caps.toList.map (evO s'):=List.map_congr_left fun x hx=>ho x (by simp;exact .inr (by simpa using hx))
    rw [this]
  case makeSlice t a v=>simp only [bh,ho a (by simp),ho v (by simp)]
  case slice t x lo hi mx =>
    simp only [bh]
    rw [← ho x (by simp)]
    have q1:∀ y∈lo.toArray,evO s y=evO s' y:=fun y hy=>ho y (by simp only [Array.mem_append];exact .inl (.inl (.inr hy)))
    have q2:∀ y∈hi.toArray,evO s y=evO s' y:=fun y hy=>ho y (by simp only [Array.mem_append];exact .inl (.inr hy))
    have q3:∀ y∈mx.toArray,evO s y=evO s' y:=fun y hy=>ho y (by simp only [Array.mem_append];exact .inr hy)
    cases dD P t with
    | none=>exact tl q1 q2
    | some q=>exact uJ (hO x (by simp)) q1 q2 q3
  case fieldAddr t x f=>simp only [bh,← ho x (by simp),uN (hO x (by simp))]
  case indexAddr t x i=>simp only [bh,← ho x (by simp),← ho i (by simp),qm (hO x (by simp))]
  case index t x i=>simp only [bh,ho x (by simp),ho i (by simp)]
  case extract x i=>simp only [bh,ho x (by simp)]
  case call c =>
    obtain ⟨callee,args,argTypes⟩:=c
    have hargs:∀ x∈args,evO s x=evO s' x:=fun x hx=>ho x (by simp only [Call.operands];exact Array.mem_append_right _ hx)
    have hargO:∀ x∈args,∀ k,(evO s x).id1=some k→s.O k=s'.O k:=fun x hx=>hO x (by simp only [Call.operands];exact Array.mem_append_right _ hx)
    unfold bh
    cases callee with
    | value f=>rfl
    | invoke r m=>rfl
    | builtin b =>
      obtain ⟨args⟩:=args
      obtain ⟨argTypes⟩:=argTypes
      cases b <;> try rfl
      case append =>
        match args,argTypes with
        | [b,x],[t,t'] =>
          have e1:=hargs b (by simp)
          have e2:=hargs x (by simp)
          simp only [← e1,← e2,ue (hargO b (by simp)) (hargO x (by simp))]
        | [],_=>rfl
        | [_],_=>rfl
        | _::_::_::_,_=>rfl
        | [_,_],[]=>rfl
        | [_,_],[_]=>rfl
        | [_,_],_::_::_::_=>rfl
      case clear =>
        match args,argTypes with
        | [x],[t]=>simp only [← hargs x (by simp),uV (hargO x (by simp))]
        | [],_=>rfl
        | _::_::_,_=>rfl
        | [_],[]=>rfl
        | [_],_::_::_=>rfl
      case cap =>
        match args,argTypes with
        | [x],[t]=>simp only [← hargs x (by simp)]
        | [],_=>rfl
        | _::_::_,_=>rfl
        | [_],[]=>rfl
        | [_],_::_::_=>rfl
      case len =>
        match args,argTypes with
        | [x],[t]=>simp only [← hargs x (by simp),vV (hargO x (by simp))]
        | [],_=>rfl
        | _::_::_,_=>rfl
        | [_],[]=>rfl
        | [_],_::_::_=>rfl
      case max =>
        match args with
        | [x,y]=>simp only [← hargs x (by simp),← hargs y (by simp)]
        | []=>rfl
        | [_]=>rfl
        | _::_::_::_=>rfl
      case min =>
        match args with
        | [x,y]=>simp only [← hargs x (by simp),← hargs y (by simp)]
        | []=>rfl
        | [_]=>rfl
        | _::_::_::_=>rfl
  all_goals rfl

theorem vv {h:pB} (ho:∀ x∈o.op.operands,evO s x=evO s' x) (hO:∀ x∈o.op.operands,∀ k,(evO s x).id1=some k→s.O k=s'.O k):gB P s h o=gB P s' h o:=by
  unfold gB
  rw [tt ho hO]

end Go.Eng
