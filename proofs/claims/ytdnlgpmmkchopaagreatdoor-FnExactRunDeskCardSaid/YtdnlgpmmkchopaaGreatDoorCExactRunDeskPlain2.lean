/- What is proved: plain laws of the models, up to the law itself. Conditions: sizes and ranges of what is handed over, as each says. -/
import Derived.Test.YtdnlgpmmkchopaaGreatDoorCExactRunDeskPlain1
set_option linter.unusedVariables false
set_option linter.unusedSimpArgs false
namespace Go.Eng
open Go

def bc (f:List (ByteArray×Int)) (b:Int) (s:ByteArray):Int×Bool :=
 if bC f b then (match ll f (aE s 124) 0 with
  | none=>(0,false)
  | some x=>if aM f b (x:Int) then ((x:Int),true) else (0,false)) else (0,false)

theorem gI (s:ByteArray) (c:UInt8):∀ w∈aE s c,w.size≤s.size:=fun w hw=>by
 obtain ⟨p,hp,rfl⟩:=List.mem_map.1 hw
 have key:∀ (l:List UInt8),∀ q∈aP c l,q.length≤l.length:=by
  intro l
  induction l with
  | nil=>intro q hq;simp [aP] at hq;subst hq;simp
  | cons x r ih =>
   intro q hq
   unfold aP at hq
   split at hq
   ·rcases List.mem_cons.1 hq with rfl | hq
    ·simp
    ·have:=ih q hq;rw [List.length_cons];omega
   ·split at hq
    ·rename_i e0;exact absurd e0 (ej _ _)
    ·rename_i p0 ps e0
     rcases List.mem_cons.1 hq with rfl | hq
     ·have:=ih p0 (by rw [e0];simp);simp only [List.length_cons];omega
     ·have:=ih q (by rw [e0];simp [hq]);rw [List.length_cons];omega
 rw [fj,cW]
 exact key _ p hp

theorem tR {f:List (ByteArray×Int)} (h:cp f) (b:Int) {s:ByteArray} (hs:s.size≤100000000):eO f b s=some (bc f b s):=by
 rw [eO,ja h,ae,bc]
 by_cases hf:bC f b
 ·have hwl:=gq s 124
  have hws:=gI s 124
  have el:=jk h.1 hf.v12 b (aE s 124) (fun w hw=>by have:=hws w hw;omega) (aE s 124).length 0 FU 0 (by omega) (by rw [FU_eq];omega) (by omega) (by omega)
  have el':bE f b (aE s 124) FU 0 0=some (match ll f (aE s 124) 0 with | none=>.inl () | some x=>.inr (x:Int)):=el
  rw [decide_eq_true hf,Bool.not_true,cond_false,if_pos hf,show (ByteArray.mk #[124])=bl [124] from rfl,kY (by omega),ae]
  show bd (bE f b (aE s 124) FU 0 0) _=_
  rw [el',ae]
  cases hr:ll f (aE s 124) 0 with
  | none=>rfl
  | some x =>
   simp only [sm]
   rw [dF h,ae]
   by_cases hv:aM f b (x:Int)
   ·rw [decide_eq_true hv,Bool.not_true,cond_false,if_pos hv]
   ·rw [decide_eq_false hv,Bool.not_false,cond_true,if_neg hv]
 ·rw [decide_eq_false hf,Bool.not_false,cond_true,if_neg hf]

theorem iT {f:List (ByteArray×Int)} (h:cp f) {b:Int} (hf:bC f b) {s:ByteArray} (hs:s.size≤100000000):bA f b s=some (if (bc f b s).2 then (bc f b s).1 else -1):=by
 have hwl:=gq s 124
 have hws:=gI s 124
 have el:=lf h.1 hf.v12 b (aE s 124) (fun w hw=>by have:=hws w hw;omega) (aE s 124).length 0 FU 0 (by omega) (by rw [FU_eq];omega) (by omega) (by omega)
 have el':cd f b (aE s 124) FU 0 0=some (match ju f (aE s 124) 0 with | none=>.inl () | some x=>.inr (x:Int)):=el
 have es:=jU (s:=s) (c:=124) (by omega)
 have es':ck s 124=some (aE s 124):=es
 rw [bA,es',ae,el',ae,bc,if_pos hf]
 rcases Ah hf.v12 (aE s 124) 0 (by omega) with ⟨x,hx,e1,e2⟩ | ⟨e1,e2⟩
 ·rw [e1,e2]
  simp only [sm]
  rw [jV h,ae]
  by_cases hv:aM f b (x:Int)
  ·rw [decide_eq_true hv,Bool.not_true,cond_false,if_pos hv];rfl
  ·rw [decide_eq_false hv,Bool.not_false,cond_true,if_neg hv];rfl
 ·rw [e1]
  rcases e2 with e2 | ⟨x,e2,hx⟩
  ·rw [e2];rfl
  ·rw [e2]
   simp only [sm]
   rw [jV h,ae,decide_eq_false (fun hv=>by have:=hv.2.1;omega)]
   rfl

theorem iq (c:UInt8):∀ l:List UInt8,c ∉ l→aP c l=[l]
 | [],_=>rfl
 | x::r,h=>by
  have h1:x≠c:=fun e=>h (by rw [e];simp)
  have h2:c ∉ r:=fun e=>h (by simp [e])
  rw [jf h1,iq c r h2];rfl

theorem jd (c:UInt8) (b:List UInt8):∀ a:List UInt8,aP c (a++c::b)=aP c a++aP c b
 | []=>by rw [List.nil_append,jK];rfl
 | x::a=>by
  rw [List.cons_append]
  by_cases h:x=c
  ·subst h;rw [jK,jK,jd x b a];rfl
  ·rw [jf h,jf h,jd c b a]
   cases e:aP c a with
   | nil=>exact absurd e (ej c a)
   | cons p ps=>rfl

theorem rZ {c:UInt8} {w:ByteArray} (h:c ∉ w.data.toList):aE w c=[w]:=by
 rw [aE,iq c _ h,List.map_singleton,fq]

theorem xX {s:ByteArray} (h:fe s) {c:UInt8} (hc:c∈s.data.toList):97≤c.toNat∧c.toNat≤122:=by
 obtain ⟨i,hi,rfl⟩:=List.mem_iff_getElem.1 hc
 have:=h.1 i (by rw [cW];exact hi)
 rw [iz,List.getD,List.getElem?_eq_getElem hi,Option.getD_some] at this
 omega

theorem wa {s:ByteArray} (h:fe s) {c:UInt8} (hc:c.toNat<97∨122<c.toNat):c ∉ s.data.toList:=fun hm=>by
 have:=xX h hm;omega

theorem sn {f:List (ByteArray×Int)} {b:Int} (hf:bC f b) {list:List ByteArray} {rest:Int} (hl:list.length≤1000) (hs:∀ s∈list,s.size≤100) (hr:0≤rest∧rest≤1000000):(lm f list rest).size≤1000000:=by
 obtain ⟨h1,h2⟩:=pJ hl hs hr
 rw [lm]
 split
 ·rw [sX]
  split
  ·rw [fj];simp
  ·rename_i hv
   have hx:=lX f 0
   obtain ⟨i,hi⟩:=Int.eq_ofNat_of_zero_le (by omega:0≤dS f 0)
   have hlt:i<f.length:=by omega
   have:=hf.small f[i] (List.getElem_mem hlt)
   rw [hi];rw [bT hlt];omega
 ·rw [pS,fj]
  have:=xJ [124] (by simp) ((gE list rest).map (·.data.toList)) (fun x hx=>by
   obtain ⟨y,hy,rfl⟩:=List.mem_map.1 hx
   rw [← cW];exact h2 y hy)
  rw [List.length_map] at this
  omega

theorem wC (f:List (ByteArray×Int)) (b a:Int):(bU f b a).size≤1000000:=by
 rw [bU]
 split
 ·rename_i hv
  have h1:=hv.2.1
  have hr:=rQ f a.toNat
  refine sn hv.1 (by have:=kj f a.toNat;omega) (iw hv.1 (fun d hd=>mE hd)) (by omega)
 ·simp

theorem tx (f:List (ByteArray×Int)) (b a:Int):(eV f b a).size≤1000000:=by
 rw [eV]
 split
 ·rename_i hv
  have h1:=hv.2.1
  have hr:=iL a.toNat (aK (dg f a.toNat))
  have:=hv.1.len
  have:=jC f a.toNat
  exact sn hv.1 (by rw [List.length_map];omega) (iw hv.1 (fun d hd=>hZ hd)) (by omega)
 ·simp

theorem wD.len {l:List (ByteArray×Int)} (h:wD l):l.length≤12:=h.2

def dm (s:ByteArray):Int×Bool :=
 if s≠ByteArray.empty∧aD s 0=45 then (if cM (s.extract 1 s.size)≤0 then (0,false) else (0 - cM (s.extract 1 s.size),true)) else (if cM s<0 then (0,false) else (cM s,true))

theorem xn (s:ByteArray) : -1≤cM s∧cM s≤4096:=by
 rcases ir s with ⟨e,_⟩ | ⟨n,hn,_,e⟩ <;> rw [e] <;> omega

theorem ml {s:ByteArray} (hs:s.size≤1000000000):ef s=some (dm s):=by
 rw [ef,dm]
 have fin:∀ h:¬ (s≠ByteArray.empty∧aD s 0=45),(bd (cC s) fun x3=>bif decide (x3<0) then some ((0:Int),false) else some (x3,true))=some (if s≠ByteArray.empty∧aD s 0=45 then (if cM (s.extract 1 s.size)≤0 then (0,false) else (0 - cM (s.extract 1 s.size),true)) else (if cM s<0 then (0,false) else (cM s,true))):=fun h=>by
  rw [jZ hs,ae,if_neg h]
  by_cases h1:cM s<0
  ·rw [ai h1,if_pos h1]
  ·rw [ah h1,if_neg h1]
 by_cases h0:s=ByteArray.empty
 ·rw [decide_eq_true h0,Bool.not_true,cond_false]
  exact fin (fun h=>h.1 h0)
 ·have hpos:0<s.size:=by
   rcases Nat.eq_zero_or_pos s.size with h' | h'
   ·exfalso;apply h0
    have e0:s.data.toList=[]:=List.eq_nil_of_length_eq_zero (by rw [← cW];exact h')
    rw [← fq s,e0];rfl
   ·exact h'
  rw [decide_eq_false h0,Bool.not_false,cond_true,al (by omega)]
  have e0:(0:Int).toNat=0:=rfl
  have e1:(1:Int).toNat=1:=rfl
  rw [e0,e1,Int.toNat_natCast]
  by_cases hm:aD s 0=45
  ·have hr:=xn (s.extract 1 s.size)
   rw [ai hm,al (by omega),jZ (by rw [ByteArray.size_extract];omega),ae,if_pos ⟨h0,hm⟩]
   by_cases h1:cM (s.extract 1 s.size)<0
   ·rw [ai h1,if_pos (by omega)]
   ·by_cases h2:cM (s.extract 1 s.size)=0
    ·rw [ah h1,ai h2,if_pos (by omega)]
    ·rw [ah h1,ah h2,if_neg (by omega),w64 (by omega) (by omega)]
  ·rw [ah hm]
   exact fin (fun h=>hm h.2)

theorem sv {n:Nat} (hn:n≤4096):cM (bG (n:Int))=n:=by
 rcases ir (bG (n:Int)) with ⟨_,h⟩ | ⟨m,hm,e,er⟩
 ·exact absurd rfl (h n hn)
 ·rw [er]
  have e1:=kO (n:=(n:Int)) ⟨by omega,by omega⟩
  have e2:=kO (n:=(m:Int)) ⟨by omega,by omega⟩
  rw [e,e2] at e1
  exact congrArg Prod.fst e1

theorem nM {n:Nat} (h:0<n):bG (0 - (n:Int))=bl (45::(bG (n:Int)).data.toList):=by
 rw [bG,bG,cv,yd (by omega)]
 rw [show (0:Int) - (0 - (n:Int))=n by omega]

theorem vl {n:Nat}:∃ c r,(bG (n:Int)).data.toList=c::r∧48≤c.toNat:=by
 rw [uK,cv]
 obtain ⟨c,r,e⟩:=List.exists_cons_of_ne_nil (ki n)
 exact ⟨c,r,e,(decDigits_digit n c (by rw [e];simp)).1⟩

theorem uv {v:Int} (h : -4096≤v∧v≤4096):dm (bG v)=(v,true):=by
 by_cases hv:v<0
 ·obtain ⟨n,hn⟩:=Int.eq_ofNat_of_zero_le (show 0≤0 - v by omega)
  have ev:v=0 - (n:Int):=by omega
  have ex:(bG v).extract 1 (bG v).size=bG (n:Int):=by
   rw [ev,nM (by omega),jY,cv]
   rw [fj]
   simp [fq]
   rw [cW,List.take_length,fq]
  have hh:bG v≠ByteArray.empty∧aD (bG v) 0=45:=by
   refine ⟨wc v,?_⟩
   rw [ev,nM (by omega),iz,cv];rfl
  rw [dm,if_pos hh,ex,sv (by omega),if_neg (by omega)]
  rw [ev]
 ·obtain ⟨n,rfl⟩:=Int.eq_ofNat_of_zero_le (show 0≤v by omega)
  obtain ⟨c,r,e,hc⟩:=vl (n:=n)
  rw [dm,if_neg,sv (by omega),if_neg (by omega)]
  rintro ⟨_,hb⟩
  rw [iz,e] at hb
  simp at hb;omega

theorem tS {s:ByteArray} (h:(dm s).2=true):s=bG (dm s).1 ∧ -4096≤(dm s).1∧(dm s).1≤4096:=by
 by_cases hm:s≠ByteArray.empty∧aD s 0=45
 ·by_cases h1:cM (s.extract 1 s.size)≤0
  ·rw [dm,if_pos hm,if_pos h1] at h;cases h
  ·have e:dm s=(0 - cM (s.extract 1 s.size),true):=by rw [dm,if_pos hm,if_neg h1]
   rcases ir (s.extract 1 s.size) with ⟨e1,_⟩ | ⟨n,hn,e2,e1⟩
   ·omega
   ·rw [e]
    simp only []
    rw [e1]
    refine ⟨?_,by omega,by omega⟩
    rw [nM (by omega),← e2]
    cases es:s.data.toList with
    | nil=>exact absurd (by rw [← fq s,es];rfl) hm.1
    | cons c r =>
     have hc:c=45:=by
      have:=hm.2
      rw [iz,es] at this
      apply UInt8.toNat_inj.1
      simp at this
      show c.toNat=45
      omega
     rw [jY,cv,cW,es,hc]
     conv=>lhs;rw [← fq s,es,hc]
     simp
 ·by_cases h1:cM s<0
  ·rw [dm,if_neg hm,if_pos h1] at h;cases h
  ·have e:dm s=(cM s,true):=by rw [dm,if_neg hm,if_neg h1]
   rcases ir s with ⟨e1,_⟩ | ⟨n,hn,e2,e1⟩
   ·omega
   ·rw [e]
    simp only []
    rw [e1]
    exact ⟨e2,by omega,by omega⟩

def eq3:List UInt8:=[32,61,32]

theorem Am {a b:List UInt8} (h:(32:UInt8) ∉ a):Lib.cut (a++(eq3++b)) eq3=(a,b,true):=by
 have hi:Lib.index (a++(eq3++b)) eq3=(a.length:Int):=by
  refine Lib.index_first (by simp) ?_ (fun j hj=>?_)
  ·rw [Lib.occAt,List.drop_left]
   simp [eq3,List.isPrefixOf]
  ·rw [Lib.occAt,List.drop_append_of_le_length (by omega),List.drop_eq_getElem_cons hj,List.cons_append]
   have hne:a[j]≠32:=fun e=>h (by rw [← e];exact List.getElem_mem hj)
   have:((32:UInt8) == a[j])=false:=by simpa using fun e=>hne e.symm
   simp only [eq3,List.isPrefixOf,this,Bool.false_and]
 rw [Lib.cut,hi,if_pos (by omega),Int.toNat_natCast,List.take_left]
 congr 2
 rw [← List.drop_drop,List.drop_left,List.drop_left]

theorem mn {l sep:List UInt8} (h:(Lib.cut l sep).2.2=true):l=(Lib.cut l sep).1++(sep++(Lib.cut l sep).2.1):=by
 rw [Lib.cut] at *
 by_cases h0:0≤Lib.index l sep
 ·rw [if_pos h0]
  simp only []
  rcases Lib.index_spec l sep with ⟨e,_⟩ | ⟨i,e,hi,ho,_⟩
  ·omega
  ·rw [e,Int.toNat_natCast]
   rw [Lib.occAt,List.isPrefixOf_iff_prefix] at ho
   obtain ⟨t,ht⟩:=ho
   have e2:l.drop (i+sep.length)=t:=by rw [← List.drop_drop,← ht,List.drop_left]
   rw [e2,ht,List.take_append_drop]
 ·rw [if_neg h0] at h;cases h

theorem pU {l:List UInt8} (h:(Lib.cut l eq3).2.2=false):Lib.cut l eq3=(l,[],false):=by
 rw [Lib.cut] at *
 split at h
 ·cases h
 ·rename_i h0;rw [if_neg h0]

abbrev dV:=ByteArray×Bool×Int

def dw (w:ByteArray):Option dV:=if (Lib.cut w.data.toList eq3).2.2 then (if (cH (bl (Lib.cut w.data.toList eq3).2.1)).2 then some (bl (Lib.cut w.data.toList eq3).1,false,(cH (bl (Lib.cut w.data.toList eq3).2.1)).1) else none) else some (bl (Lib.cut w.data.toList eq3).1,true,0)

def bB (w:ByteArray):Option dV:=if (aE w 32).length=1 then some (w,true,0) else if (aE w 32).length=3∧gt (aE w 32) 1=bl [61] then (if (dm (gt (aE w 32) 2)).2 then some (gt (aE w 32) 0,false,(dm (gt (aE w 32) 2)).1) else none) else none

def um (x:dV):Prop:=fe x.1 ∧ -1000≤x.2.2∧x.2.2≤4095

theorem nP (c:UInt8):∀ l:List UInt8,Lib.join (aP c l) [c]=l
 | []=>by rw [aP,Lib.join_one]
 | x::r=>by
  have ih:=nP c r
  have two:∀ (p:List UInt8) (q:List UInt8) (t:List (List UInt8)),Lib.join (p::q::t) [c]=p++c::Lib.join (q::t) [c]:=fun p q t=>by
   rw [Lib.join_cons,Lib.join_cons,Lib.joinTail,Lib.joinTail];simp
  by_cases h:x=c
  ·subst h
   rw [jK]
   cases e:aP x r with
   | nil=>exact absurd e (ej _ _)
   | cons p ps=>rw [two,← e,ih];rfl
  ·rw [jf h]
   cases e:aP c r with
   | nil=>exact absurd e (ej _ _)
   | cons p ps =>
    rw [e] at ih
    cases ps with
    | nil =>
     rw [Lib.join_one] at ih
     rw [ih]
     exact Lib.join_one _ _
    | cons q t =>
     rw [two] at ih
     show Lib.join ((x::p)::q::t) [c]=_
     rw [two,List.cons_append,ih]

theorem nU (c:UInt8):∀ l:List UInt8,∀ p∈aP c l,c ∉ p
 | [],p,hp=>by simp [aP] at hp;subst hp;simp
 | x::r,p,hp=>by
  by_cases h:x=c
  ·subst h
   rw [jK] at hp
   rcases List.mem_cons.1 hp with rfl | hp
   ·simp
   ·exact nU x r p hp
  ·rw [jf h] at hp
   cases e:aP c r with
   | nil=>exact absurd e (ej _ _)
   | cons q t =>
    have ih:=nU c r
    rw [e] at hp ih
    rcases List.mem_cons.1 hp with rfl | hp
    ·intro hm
     rcases List.mem_cons.1 hm with hm | hm
     ·exact h hm.symm
     ·exact ih q (by simp) hm
    ·exact ih p (by simp [hp])

theorem zq {w:ByteArray} {c:UInt8} (h:(aE w c).length=1):c ∉ w.data.toList:=by
 rw [aE,List.length_map] at h
 have e:=nP c w.data.toList
 have hn:=nU c w.data.toList
 cases hs:aP c w.data.toList with
 | nil=>rw [hs] at h;cases h
 | cons p t =>
  rw [hs] at h e hn
  have:t=[]:=List.eq_nil_of_length_eq_zero (by rw [List.length_cons] at h;omega)
  subst this
  rw [Lib.join_one] at e
  rw [← e];exact hn p (by simp)

theorem xz {w:ByteArray} {c:UInt8} (h:(aE w c).length=3):∃ p q r,aE w c=[bl p,bl q,bl r]∧w.data.toList=p++c::(q++c::r)∧c ∉ p∧c ∉ q∧c ∉ r:=by
 rw [aE,List.length_map] at h
 have e:=nP c w.data.toList
 have hn:=nU c w.data.toList
 rw [aE]
 match hs:aP c w.data.toList,h with
 | [p,q,r],_ =>
  rw [hs] at e hn
  refine ⟨p,q,r,rfl,?_,hn p (by simp),hn q (by simp),hn r (by simp)⟩
  rw [← e]
  rw [Lib.join_cons,Lib.joinTail];simp

theorem AM {w:ByteArray} {x:dV} (hx:bB w=some x) (hg:um x):dw w=some x:=by
 rw [bB] at hx
 by_cases h1:(aE w 32).length=1
 ·rw [if_pos h1] at hx
  cases hx
  have hn:=zq h1
  have hc:(Lib.cut w.data.toList eq3).2.2=false:=by
   cases hc:(Lib.cut w.data.toList eq3).2.2 with
   | false=>rfl
   | true =>
    exfalso
    have:=mn hc
    apply hn
    rw [this];simp [eq3]
  have e:=pU hc
  rw [dw,e]
  simp only [Bool.false_eq_true,if_false]
  rw [fq]
 ·rw [if_neg h1] at hx
  by_cases h3:(aE w 32).length=3∧gt (aE w 32) 1=bl [61]
  ·rw [if_pos h3] at hx
   obtain ⟨p,q,r,ew,el,np,nq,nr⟩:=xz h3.1
   have g0:gt (aE w 32) 0=bl p:=by rw [ew];rfl
   have g1:gt (aE w 32) 1=bl q:=by rw [ew];rfl
   have g2:gt (aE w 32) 2=bl r:=by rw [ew];rfl
   have hq:q=[61]:=by have:=h3.2;rw [g1,sF] at this;exact this
   rw [g0,g2] at hx
   cases hs:(dm (bl r)).2 with
   | false=>rw [hs] at hx;cases hx
   | true =>
    rw [hs] at hx
    simp only [if_true,Option.some.injEq] at hx
    subst hx
    obtain ⟨e1,e2,e3⟩:=tS hs
    have hl:w.data.toList=p++(eq3++r):=by rw [el,hq];simp [eq3]
    have hd:cH (bl r)=((dm (bl r)).1,true):=by
     have:=kO (n:=(dm (bl r)).1) ⟨by omega,by omega⟩
     rwa [← e1] at this
    rw [dw,hl,Am np]
    simp only [if_true]
    rw [hd]
    simp
  ·rw [if_neg h3] at hx;cases hx

theorem AE {w:ByteArray} {x:dV} (hx:dw w=some x) (hg:um x):bB w=some x:=by
 rw [dw] at hx
 cases hc:(Lib.cut w.data.toList eq3).2.2 with
 | false =>
  rw [pU hc] at hx
  simp only [Bool.false_eq_true,if_false,Option.some.injEq] at hx
  rw [fq] at hx
  subst hx
  have hn:=wa hg.1 (c:=32) (.inl (by decide))
  rw [bB,rZ hn,if_pos (by rfl)]
 | true =>
  rw [hc] at hx
  simp only [if_true] at hx
  have hl:=mn hc
  cases hd:(cH (bl (Lib.cut w.data.toList eq3).2.1)).2 with
  | false=>rw [hd] at hx;cases hx
  | true =>
   rw [hd] at hx
   simp only [if_true,Option.some.injEq] at hx
   generalize (Lib.cut w.data.toList eq3).1=p at hl hx
   generalize (Lib.cut w.data.toList eq3).2.1=r at hl hx hd
   obtain ⟨e1,e2⟩:=pX hd
   subst hx
   have hr:=hg.2
   simp only at hr
   have np:(32:UInt8) ∉ p:=by
    have:=wa hg.1 (c:=32) (.inl (by decide))
    rwa [cv] at this
   have nr:(32:UInt8) ∉ r:=by
    intro hm
    have hm':(32:UInt8)∈(bl r).data.toList:=by rw [cv];exact hm
    rw [e1,bG,cv,Lib.itoa] at hm'
    split at hm'
    ·rcases List.mem_cons.1 hm' with h | h
     ·cases h
     ·have:=decDigits_digit _ _ h;have e32:(32:UInt8).toNat=32:=rfl;omega
    ·have:=decDigits_digit _ _ hm';have e32:(32:UInt8).toNat=32:=rfl;omega
   have ew:aE w 32=[bl p,bl [61],bl r]:=by
    have e3:w.data.toList=p++32::([61]++32::r):=by rw [hl];simp [eq3]
    rw [aE,e3,jd,jd,iq 32 p np,iq 32 r nr,iq 32 [61] (by decide)]
    rfl
   have hs:dm (bl r)=((cH (bl r)).1,true):=by
    have:=uv (v:=(cH (bl r)).1) ⟨by omega,by omega⟩
    rwa [← e1] at this
   have g0:gt [bl p,bl [61],bl r] 0=bl p:=rfl
   have g1:gt [bl p,bl [61],bl r] 1=bl [61]:=rfl
   have g2:gt [bl p,bl [61],bl r] 2=bl r:=rfl
   rw [bB,ew,if_neg (by simp),g0,g1,g2,if_pos ⟨by simp,rfl⟩,hs]
   simp

def dJ (f:ByteArray→Option dV):List ByteArray→Option (List dV)
 | []=>some []
 | w::r=>match f w with
  | none=>none
  | some x=>(dJ f r).map (x::·)

theorem kw {f:ByteArray→Option dV}:∀ {l:List ByteArray} {r:List dV},dJ f l=some r→r.length=l.length∧(∀ x∈r,∃ w∈l,f w=some x)∧∀ w∈l,∃ x∈r,f w=some x
 | [],r,h=>by simp only [dJ] at h;cases h;simp
 | w::l,r,h=>by
  simp only [dJ] at h
  cases e:f w with
  | none=>rw [e] at h;cases h
  | some x =>
   rw [e] at h
   cases e2:dJ f l with
   | none=>rw [e2] at h;cases h
   | some t =>
    rw [e2] at h
    simp only [Option.map_some,Option.some.injEq] at h
    subst h
    obtain ⟨h1,h2,h3⟩:=kw e2
    refine ⟨by simp [h1],fun y hy=>?_,fun y hy=>?_⟩
    ·rcases List.mem_cons.1 hy with rfl | hy
     ·exact ⟨w,by simp,e⟩
     ·obtain ⟨v,hv,ev⟩:=h2 y hy;exact ⟨v,by simp [hv],ev⟩
    ·rcases List.mem_cons.1 hy with rfl | hy
     ·exact ⟨x,by simp,e⟩
     ·obtain ⟨v,hv,ev⟩:=h3 y hy;exact ⟨v,by simp [hv],ev⟩

theorem yn (T:List ByteArray):dJ dw T=dJ bB T∨((∀ r,dJ dw T=some r→∃ x∈r,¬ um x)∧(∀ r,dJ bB T=some r→∃ x∈r,¬ um x)):=by
 classical
 by_cases h:∀ w∈T,dw w=bB w
 ·left
  induction T with
  | nil=>rfl
  | cons w r ih =>
   simp only [dJ]
   rw [h w (by simp),ih (fun v hv=>h v (by simp [hv]))]
 ·right
  obtain ⟨w,hw⟩:=Classical.not_forall.1 h
  obtain ⟨hw,hne⟩:=Classical.not_imp.1 hw
  refine ⟨fun r hr=>?_,fun r hr=>?_⟩
  ·obtain ⟨x,hx,ex⟩:=(kw hr).2.2 w hw
   exact ⟨x,hx,fun hg=>hne (by rw [ex,AE ex hg])⟩
  ·obtain ⟨x,hx,ex⟩:=(kw hr).2.2 w hw
   exact ⟨x,hx,fun hg=>hne (by rw [ex,AM ex hg])⟩

theorem tQ (l:List UInt8):(Lib.hasSuffix l [10]=true→l=Lib.trimSuffix l [10]++[10])∧(Lib.hasSuffix l [10]=false→(10:UInt8) ∉ l∨∃ a b,l=a++10::b∧(10:UInt8) ∉ b∧b≠[]):=by
 constructor
 ·intro h
  have h2:=h
  rw [Lib.hasSuffix,List.isSuffixOf_iff_suffix] at h2
  obtain ⟨t,ht⟩:=h2
  have e:Lib.trimSuffix l [10]=t:=by
   rw [Lib.trimSuffix,if_pos h,← ht]
   simp
  rw [e,ht]
 ·intro h
  have key:∀ m:List UInt8,(10:UInt8) ∉ m∨∃ a b,m=a++10::b∧(10:UInt8) ∉ b:=by
   intro m
   induction m with
   | nil=>left;simp
   | cons x r ih =>
    rcases ih with ih | ⟨a,b,e,hb⟩
    ·by_cases hx:x=10
     ·right;exact ⟨[],r,by rw [hx];rfl,ih⟩
     ·left;intro hm
      rcases List.mem_cons.1 hm with hm | hm
      ·exact hx hm.symm
      ·exact ih hm
    ·right;exact ⟨x::a,b,by rw [e];rfl,hb⟩
  rcases key l with h' | ⟨a,b,e,hb⟩
  ·exact .inl h'
  ·right
   refine ⟨a,b,e,hb,fun hn=>?_⟩
   subst hn
   have:Lib.hasSuffix l [10]=true:=by rw [Lib.hasSuffix,List.isSuffixOf_iff_suffix,e];exact ⟨a,rfl⟩
   rw [h] at this;cases this

def aC (s:ByteArray):List ByteArray:=aE (bl (Lib.trimSuffix s.data.toList [10])) 10

def kJ (s:ByteArray):Bool:=Lib.hasSuffix s.data.toList [10]

theorem yj {s:ByteArray} (h:kJ s=true):aE s 10=aC s++[ByteArray.empty]:=by
 have e:=(tQ s.data.toList).1 h
 rw [aC,aE,aE,cv]
 conv=>lhs;rw [e]
 rw [jd,List.map_append]
 rfl

theorem yP {s:ByteArray} (h:kJ s=false):(aE s 10).length=1∨∃ a b,aE s 10=a++[b]∧a≠[]∧b≠ByteArray.empty:=by
 rcases (tQ s.data.toList).2 h with h1 | ⟨a,b,e,hb,hne⟩
 ·left;rw [rZ h1];rfl
 ·right
  refine ⟨(aP 10 a).map bl,bl b,?_,by simpa using ej 10 a,by rw [empty_bl,Ne,sF];exact hne⟩
  rw [aE,e,jd,iq 10 b hb,List.map_append];rfl

theorem oS (s:ByteArray):aC s≠[]:=by rw [aC,aE];simpa using ej _ _

theorem uM (s:ByteArray):(bl (Lib.trimSuffix s.data.toList [10])).size≤s.size:=by
 rw [fj,cW,Lib.trimSuffix]
 split
 ·rw [List.length_take];omega
 ·omega

theorem mO (s:ByteArray):(aC s).length≤s.size+1∧∀ w∈aC s,w.size≤s.size:=by
 have h1:=uM s
 have h2:=gq (bl (Lib.trimSuffix s.data.toList [10])) 10
 have h3:=gI (bl (Lib.trimSuffix s.data.toList [10])) 10
 exact ⟨by rw [aC];omega,fun w hw=>by have:=h3 w hw;omega⟩

def aV (f:ByteArray→Option dV) (s:ByteArray):ByteArray×List dV×Bool :=
 if kJ s then (match dJ f (aC s).tail with
  | none=>(ByteArray.empty,[],false)
  | some r=>(gt (aC s) 0,r,true)) else (ByteArray.empty,[],false)

theorem uw {f:ByteArray→Option dV} {w:ByteArray} {r:List ByteArray}:dJ f (w::r)=match f w with | none=>none | some x=>(dJ f r).map (x::·):=rfl

theorem om (L:List ByteArray) (hL:L.length≤1000000000) (hne:L≠[]) (hw:∀ w∈L,w.size≤1000000000):∀ (k i n:Nat) (acc:List dV),i+k=L.tail.length→k<n→acc.length=i →
  bD L n acc (i:Int)=some (match dJ dw (L.tail.drop i) with | none=>.inl () | some r=>.inr (acc++r))
 | 0,i,n,acc,hik,hn,ha=>by
  obtain ⟨n,rfl⟩:∃ m,n=m+1:=⟨n - 1,by omega⟩
  have ht:=List.length_tail (l:=L)
  rw [bD,cj,decide_eq_false (by simp only [Int.toNat_natCast];have e1:(1:Int).toNat=1:=rfl;omega),cond_false,List.drop_of_length_le (by omega)]
  simp [dJ]
 | k+1,i,n,acc,hik,hn,ha=>by
  obtain ⟨n,rfl⟩:∃ m,n=m+1:=⟨n - 1,by omega⟩
  have ht:=List.length_tail (l:=L)
  have e1:(1:Int).toNat=1:=rfl
  have hi:i<L.tail.length:=by omega
  have hi':i+1<L.length:=by omega
  have hd:L.tail.drop i=L[i+1]::L.tail.drop (i+1):=by
   rw [List.drop_eq_getElem_cons hi,List.getElem_tail]
  have hws:=hw _ (List.getElem_mem hi')
  have hg:gt L (((1:Int).toNat+(i:Int).toNat:Nat):Int)=L[i+1]:=by
   rw [e1,Int.toNat_natCast,Nat.add_comm 1 i];exact bT hi'
  have ih:∀ acc':List dV,acc'.length=i+1→_:=fun acc' h=>om L hL hne hw k (i+1) n acc' (by omega) (by omega) h
  rw [bD,cj,decide_eq_true (by rw [Int.toNat_natCast,e1];omega),cond_true,al (by rw [Int.toNat_natCast,Int.toNat_natCast,e1];omega),hg,js,al (by omega),ae,hd,uw]
  have e3:(ByteArray.mk #[32,61,32]).data.toList=eq3:=rfl
  rw [e3,bY (i:=i) (by omega),dw]
  generalize hc:Lib.cut L[i+1].data.toList eq3=c at *
  obtain ⟨p,q,b⟩:=c
  have hq:q.length≤1000000000:=by
   have:q.length≤L[i+1].data.toList.length:=by
    cases hb:b with
    | true =>
     have h0:(Lib.cut L[i+1].data.toList eq3).2.2=true:=by rw [hc];exact hb
     have:=congrArg List.length (mn h0)
     rw [hc] at this
     simp only [List.length_append] at this
     omega
    | false =>
     have h0:(Lib.cut L[i+1].data.toList eq3).2.2=false:=by rw [hc];exact hb
     have:=pU h0
     rw [hc] at this
     simp only [Prod.mk.injEq] at this
     rw [this.2.1];simp
   rw [← cW] at this
   omega
  simp only []
  cases b with
  | false =>
   rw [cond_false,al (by rw [List.length_singleton];omega),ih _ (by rw [List.length_append,List.length_singleton];omega)]
   simp only [Bool.false_eq_true,if_false,Bool.not_false]
   cases dJ dw (L.tail.drop (i+1)) with
   | none=>rfl
   | some r=>simp only [Option.map_some,List.append_assoc,List.singleton_append];rfl
  | true =>
   rw [cond_true,show (⟨q.toArray⟩:ByteArray)=bl q from rfl,lW (by rw [fj];exact hq),ae]
   simp only [if_true]
   cases hd2:(cH (bl q)).2 with
   | false=>rw [Bool.not_false,cond_true];rfl
   | true =>
    rw [Bool.not_true,cond_false,al (by rw [List.length_singleton];omega),ih _ (by rw [List.length_append,List.length_singleton];omega)]
    simp only [if_true,Bool.not_true]
    cases dJ dw (L.tail.drop (i+1)) with
    | none=>rfl
    | some r=>simp only [Option.map_some,List.append_assoc,List.singleton_append];rfl

theorem tF {s:ByteArray} (hs:s.size≤100000000):fZ s=some (if (aC s).length≤13 then aV dw s else (ByteArray.empty,[],false)):=by
 obtain ⟨hl,hz⟩:=mO s
 have hne:=oS s
 have hlen:0<(aC s).length:=List.length_pos_iff.2 hne
 have e10:(ByteArray.mk #[10]).data.toList=[10]:=rfl
 have es:de (bl (Lib.trimSuffix s.data.toList [10])) (bl [10])=some (aC s):=by
  have:=uM s
  exact kY (by omega)
 rw [fZ,gj,al (by omega),ae,e10]
 show bd (de (bl (Lib.trimSuffix s.data.toList [10])) (bl [10])) _=_
 rw [es,ae,aV]
 show (bif (!kJ s) then _ else _)=_
 cases he:kJ s with
 | false =>
  rw [Bool.not_false,cond_true]
  simp
 | true =>
  rw [Bool.not_true,cond_false]
  by_cases h13:13<((aC s).length:Int)
  ·rw [ai h13,if_neg (by omega)]
  ·have el:=om (aC s) (by omega) hne (fun w hw=>by have:=hz w hw;omega) (aC s).tail.length 0 FU [] (by omega) (by rw [FU_eq,List.length_tail];omega) rfl
   have el':bD (aC s) FU [] 0=some (match dJ dw (aC s).tail with | none=>.inl () | some r=>.inr ([]++r)):=el
   rw [ah h13,if_pos (by omega),al (by omega)]
   show bd (bD (aC s) FU [] 0) _=_
   rw [el',ae]
   simp only [if_true]
   cases dJ dw (aC s).tail with
   | none=>rfl
   | some r =>
    simp only [sm,List.nil_append]
    rw [al (by omega)]

theorem tO {w:ByteArray} (hw:w.size≤100000000):∃ x,gh w=some x∧(bB w=if x.2.2.2 then some (x.1,x.2.1,x.2.2.1) else none):=by
 have es:ck w 32=some (aE w 32):=jU (s:=w) (c:=32) (by omega)
 have hz:=gI w 32
 rw [gh,es,ae,bB]
 by_cases h1:(aE w 32).length=1
 ·rw [ai (by omega),if_pos h1];exact ⟨_,rfl,rfl⟩
 ·rw [ah (by omega),if_neg h1]
  by_cases h3:(aE w 32).length=3
  ·have m2:gt (aE w 32) 2∈aE w 32:=fD (by omega)
   rw [decide_eq_true (by omega),Bool.not_true,cond_false,al (by omega),show (ByteArray.mk #[61])=bl [61] from rfl]
   by_cases h4:gt (aE w 32) 1=bl [61]
   ·rw [decide_eq_true h4,Bool.not_true,cond_false,al (by omega),ml (by have:=hz _ m2;omega),ae,al (by omega),if_pos ⟨h3,h4⟩]
    exact ⟨_,rfl,rfl⟩
   ·rw [decide_eq_false h4,Bool.not_false,cond_true,if_neg (fun h=>h4 h.2)]
    exact ⟨_,rfl,rfl⟩
  ·rw [decide_eq_false (by omega),Bool.not_false,cond_true,if_neg (fun h=>h3 h.1)]
   exact ⟨_,rfl,rfl⟩

theorem og (L:List ByteArray) (e:ByteArray) (hL:L.length≤1000000000) (hne:L≠[]) (hw:∀ w∈L,w.size≤100000000):∀ (k i n:Nat) (acc:List dV),i+k=L.tail.length→k<n→acc.length=i →
  bJ (L++[e]) n acc ((i+1:Nat):Int)=some (match dJ bB (L.tail.drop i) with | none=>.inl () | some r=>.inr (acc++r))
 | 0,i,n,acc,hik,hn,ha=>by
  obtain ⟨n,rfl⟩:∃ m,n=m+1:=⟨n - 1,by omega⟩
  have ht:=List.length_tail (l:=L)
  have hp:0<L.length:=List.length_pos_iff.2 hne
  have hl:(L++[e]).length=L.length+1:=by simp
  rw [bJ,bY (i:=i+1) (by omega),ah (by rw [hl];omega),List.drop_of_length_le (by omega)]
  simp [dJ]
 | k+1,i,n,acc,hik,hn,ha=>by
  obtain ⟨n,rfl⟩:∃ m,n=m+1:=⟨n - 1,by omega⟩
  have ht:=List.length_tail (l:=L)
  have hl:(L++[e]).length=L.length+1:=by simp
  have hi:i<L.tail.length:=by omega
  have hi':i+1<L.length:=by omega
  have hd:L.tail.drop i=L[i+1]::L.tail.drop (i+1):=by
   rw [List.drop_eq_getElem_cons hi,List.getElem_tail]
  have hg:gt (L++[e]) ((i+1:Nat):Int)=L[i+1]:=by
   rw [bT (by rw [hl];omega),List.getElem_append_left hi']
  obtain ⟨x,ex,hx⟩:=tO (hw _ (List.getElem_mem hi'))
  rw [bJ,bY (i:=i+1) (by omega),ai (by rw [hl];omega),al (by rw [hl];omega),hg,ex,ae,hd,uw,hx]
  cases hb:x.2.2.2 with
  | false=>rw [Bool.not_false,cond_true];rfl
  | true =>
   rw [Bool.not_true,cond_false,al (by rw [List.length_singleton];omega),og L e hL hne hw k (i+1) n _ (by omega) (by omega) (by rw [List.length_append,List.length_singleton];omega)]
   simp only [if_true]
   cases dJ bB (L.tail.drop (i+1)) with
   | none=>rfl
   | some r=>simp only [Option.map_some,List.append_assoc,List.singleton_append]

theorem th {s:ByteArray} (hs:s.size≤100000000):fC s=some (aV bB s):=by
 obtain ⟨hl,hz⟩:=mO s
 have hne:=oS s
 have hlen:0<(aC s).length:=List.length_pos_iff.2 hne
 have hwl:=gq s 10
 have es:ck s 10=some (aE s 10):=jU (s:=s) (c:=10) (by omega)
 rw [fC,es,ae,aV]
 cases he:kJ s with
 | true =>
  have hw:(aC s++[ByteArray.empty]).length=(aC s).length+1:=by simp
  have hg:gt (aC s++[ByteArray.empty]) (((aC s).length:Nat):Int)=ByteArray.empty:=by
   rw [bT (by rw [hw];omega)];simp
  have ew:IntKind.wrap .i64 (((aC s++[ByteArray.empty]).length:Int) - 1)=(((aC s).length:Nat):Int):=by
   rw [hw,w64 (by omega) (by omega)];omega
  have el:=og (aC s) ByteArray.empty (by omega) hne (fun w hw=>by have:=hz w hw;omega) (aC s).tail.length 0 FU [] (by omega) (by rw [FU_eq,List.length_tail];omega) rfl
  have el':bJ (aC s++[ByteArray.empty]) FU [] 1=some (match dJ bB (aC s).tail with | none=>.inl () | some r=>.inr ([]++r)):=el
  have g0:gt (aC s++[ByteArray.empty]) (0:Int)=gt (aC s) (0:Int):=by
   have a1:=bT (l:=aC s++[ByteArray.empty]) (i:=0) (by rw [hw];omega)
   have a2:=bT (l:=aC s) (i:=0) hlen
   rw [List.getElem_append_left hlen] at a1
   exact a1.trans a2.symm
  rw [yj he,ah (by rw [hw];omega),ew,al (by rw [hw];omega),cj,hg,decide_eq_true rfl,Bool.not_true,cond_false]
  show bd (bJ (aC s++[ByteArray.empty]) FU [] 1) _=_
  rw [el',ae]
  simp only [if_true]
  cases dJ bB (aC s).tail with
  | none=>rfl
  | some r =>
   simp only [sm,List.nil_append]
   rw [al (by rw [hw];omega),g0]
 | false =>
  rcases yP he with h1 | ⟨a,b,e,ha,hb⟩
  ·rw [ai (by omega)];simp
  ·have hw:(a++[b]).length=a.length+1:=by simp
   have hp:0<a.length:=List.length_pos_iff.2 ha
   have hle:a.length≤s.size+1:=by rw [e,hw] at hwl;omega
   have hg:gt (a++[b]) ((a.length:Nat):Int)=b:=by
    rw [bT (by rw [hw];omega)];simp
   have ew:IntKind.wrap .i64 (((a++[b]).length:Int) - 1)=((a.length:Nat):Int):=by
    rw [hw,w64 (by omega) (by omega)];omega
   rw [e,ah (by rw [hw];omega),ew,al (by rw [hw];omega),cj,hg,decide_eq_false hb,Bool.not_false,cond_true]
   simp

theorem wv {f:ByteArray→Option dV} (hf:∀ w x,w.size≤100000000→f w=some x→x.1.size≤100000000∧I64 x.2.2) {s:ByteArray} (hs:s.size≤100000000):jM (aV f s).2.1:=by
 rw [aV]
 split
 ·obtain ⟨hl,hz⟩:=mO s
  split
  ·exact ⟨by simp,by simp,by simp⟩
  ·rename_i r hr
   obtain ⟨h1,h2,_⟩:=kw hr
   have ht:=List.length_tail (l:=aC s)
   refine ⟨by simp only;omega,fun x hx=>?_,fun x hx=>?_⟩
   ·obtain ⟨w,hw,e⟩:=h2 x hx
    have:=(hf w x (by have:=hz w (List.mem_of_mem_tail hw);omega) e).1
    omega
   ·obtain ⟨w,hw,e⟩:=h2 x hx
    exact (hf w x (by have:=hz w (List.mem_of_mem_tail hw);omega) e).2
 ·exact ⟨by simp,by simp,by simp⟩

theorem zO (w:ByteArray) (x:dV) (hw:w.size≤100000000) (h:bB w=some x):x.1.size≤100000000∧I64 x.2.2:=by
 rw [bB] at h
 split at h
 ·cases h;exact ⟨hw,by simp only;omega,by simp only;omega⟩
 ·split at h
  ·rename_i h3
   split at h
   ·rename_i h4
    cases h
    have m0:gt (aE w 32) 0∈aE w 32:=fD (by omega)
    have:=gI w 32 _ m0
    obtain ⟨_,h5,h6⟩:=tS h4
    exact ⟨by simp only;omega,by simp only;omega,by simp only;omega⟩
   ·cases h
  ·cases h

theorem zG (w:ByteArray) (x:dV) (hw:w.size≤100000000) (h:dw w=some x):x.1.size≤100000000∧I64 x.2.2:=by
 have hp:(bl (Lib.cut w.data.toList eq3).1).size≤100000000:=by
  rw [fj]
  cases hb:(Lib.cut w.data.toList eq3).2.2 with
  | true =>
   have:=congrArg List.length (mn hb)
   rw [← cW,List.length_append] at this
   omega
  | false=>rw [pU hb];simp only;rw [← cW];exact hw
 rw [dw] at h
 split at h
 ·split at h
  ·rename_i h4
   cases h
   exact ⟨hp,(pX h4).2⟩
  ·cases h
 ·cases h
  exact ⟨hp,by simp only;omega,by simp only;omega⟩

theorem Ae {R:Type} (bld:List dV→R) (bad:R) (hb:∀ r,(∃ x∈r,¬ um x)→bld r=bad) (hlong:∀ r:List dV,12<r.length→bld r=bad) (hdr:ByteArray→Prop) [∀ w,Decidable (hdr w)] (s:ByteArray) :
  (if (if (aC s).length≤13 then aV dw s else (ByteArray.empty,[],false)).2.2=true∧hdr (if (aC s).length≤13 then aV dw s else (ByteArray.empty,[],false)).1 then bld (if (aC s).length≤13 then aV dw s else (ByteArray.empty,[],false)).2.1 else bad) =
  (if (aV bB s).2.2=true∧hdr (aV bB s).1 then bld (aV bB s).2.1 else bad):=by
 by_cases he:kJ s=true
 ·have ht:=List.length_tail (l:=aC s)
  have es:aV bB s=match dJ bB (aC s).tail with | none=>(ByteArray.empty,[],false) | some r=>(gt (aC s) 0,r,true):=by rw [aV,if_pos he]
  have ei:aV dw s=match dJ dw (aC s).tail with | none=>(ByteArray.empty,[],false) | some r=>(gt (aC s) 0,r,true):=by rw [aV,if_pos he]
  have spec_bad:(∀ r,dJ bB (aC s).tail=some r→bld r=bad)→(if (aV bB s).2.2=true∧hdr (aV bB s).1 then bld (aV bB s).2.1 else bad)=bad:=fun h=>by
   rw [es]
   cases hr:dJ bB (aC s).tail with
   | none=>simp
   | some r=>simp only [];rw [h r hr];simp
  by_cases h13:(aC s).length≤13
  ·simp only [if_pos h13]
   rcases yn (aC s).tail with h | ⟨h1,h2⟩
   ·rw [ei,es,h]
   ·rw [spec_bad (fun r hr=>hb r (h2 r hr)),ei]
    cases hr:dJ dw (aC s).tail with
    | none=>simp
    | some r=>simp only [];rw [hb r (h1 r hr)];simp
  ·simp only [if_neg h13]
   rw [spec_bad (fun r hr=>hlong r (by have:=(kw hr).1;omega))]
   simp
 ·have e1:∀ f,aV f s=(ByteArray.empty,[],false):=fun f=>by rw [aV,if_neg he]
  rw [e1,e1]
  simp

def flagSp:ByteArray:=ByteArray.mk #[102,108,97,103,32]

def eB (h:ByteArray):Int:=ix (fun w=>decide (h=flagSp++w)) boundWords

theorem words_small:∀ w∈boundWords,w.size≤6:=by
 intro w hw
 simp only [boundWords,List.mem_cons,List.not_mem_nil,or_false] at hw
 rcases hw with rfl | rfl | rfl | rfl <;> decide

theorem wV (h:ByteArray):fO h=some (eB h):=by
 have e:=nN boundWords (da h) (fun w=>decide (h=flagSp++w)) ?_ ?_ FU (by rw [FU_eq];decide)
 ·rw [fO,gM,ae,e,ae,eB,ix]
  cases boundWords.findIdx? (fun w=>decide (h=flagSp++w)) <;> rfl
 ·intro n
  rw [da,cj,ah (by decide)]
 ·intro n i hi
  have e4:boundWords.length=4:=rfl
  have hm:gt boundWords (i:Int)∈boundWords:=fD (by omega)
  have hz:=words_small _ hm
  have hf:(ByteArray.mk #[102,108,97,103,32]).size=5:=rfl
  rw [da,cj,show ([(ByteArray.mk #[115,116,114,105,99,116]),(ByteArray.mk #[102,105,116]),(ByteArray.mk #[101,106,101,99,116]),(ByteArray.mk #[107,101,101,112])]:List ByteArray)=boundWords from rfl,cj,cj,ai (by omega),al (by omega),al (by omega),bY (i:=i) (by omega)]
  by_cases h1:h=flagSp++gt boundWords (i:Int)
  ·rw [decide_eq_true h1,if_pos rfl]
   rw [ai (show h=(ByteArray.mk #[102,108,97,103,32])++gt boundWords (i:Int) from h1)]
  ·rw [decide_eq_false h1,if_neg (by simp)]
   rw [ah (show ¬ h=(ByteArray.mk #[102,108,97,103,32])++gt boundWords (i:Int) from h1)]

theorem wZ (w:ByteArray):eK boundWords w=some (ix (fun v=>decide (w=v)) boundWords):=by
 have e:=nN boundWords (cw boundWords w) (fun v=>decide (w=v)) ?_ ?_ FU (by rw [FU_eq];decide)
 ·rw [eK,e,ae,ix]
  cases boundWords.findIdx? (fun v=>decide (w=v)) <;> rfl
 ·intro n
  rw [cw,ah (by omega)]
 ·intro n i hi
  have e4:boundWords.length=4:=rfl
  rw [cw,ai (by omega),al (by omega),bY (i:=i) (by omega)]
  by_cases h1:w=gt boundWords (i:Int)
  ·rw [decide_eq_true h1,cond_true,if_pos rfl]
  ·rw [decide_eq_false h1,cond_false,if_neg (by simp)]

theorem yB (h:ByteArray):(Lib.hasPrefix h.data.toList flagSp.data.toList=true∧ix (fun v=>decide (bl (Lib.trimPrefix h.data.toList flagSp.data.toList)=v)) boundWords=eB h)∨(Lib.hasPrefix h.data.toList flagSp.data.toList=false∧eB h = -1):=by
 cases hp:Lib.hasPrefix h.data.toList flagSp.data.toList with
 | true =>
  left
  refine ⟨rfl,?_⟩
  have h2:=hp
  rw [Lib.hasPrefix,List.isPrefixOf_iff_prefix] at h2
  obtain ⟨t,ht⟩:=h2
  have e:Lib.trimPrefix h.data.toList flagSp.data.toList=t:=by
   rw [Lib.trimPrefix,if_pos hp,← ht,List.drop_left]
  rw [e,eB]
  congr 1
  funext w
  refine decide_eq_decide.2 ?_
  constructor
  ·intro hw
   rw [jn,← hw,cv,ht,fq]
  ·intro hw
   have h3:h.data.toList=flagSp.data.toList++w.data.toList:=by rw [hw,jn,cv]
   rw [h3] at ht
   have:=List.append_cancel_left ht
   rw [this,fq]
 | false =>
  right
  refine ⟨rfl,?_⟩
  rcases kE (fun w=>decide (h=flagSp++w)) boundWords with ⟨e,_⟩ | ⟨i,d,_,_,_,_,_,hd⟩
  ·exact e
  ·exfalso
   have hd:=of_decide_eq_true hd
   have h3:h.data.toList=flagSp.data.toList++d.data.toList:=by rw [hd,jn,cv]
   have:Lib.hasPrefix h.data.toList flagSp.data.toList=true:=by
    rw [Lib.hasPrefix,List.isPrefixOf_iff_prefix,h3];exact ⟨_,rfl⟩
   rw [hp] at this;cases this

theorem pd {f:ByteArray→Option dV} {s:ByteArray} (h:(aV f s).2.2=true):(aV f s).1=gt (aC s) 0:=by
 rw [aV] at *
 split at h
 ·rename_i he
  rw [if_pos he]
  cases hm:dJ f (aC s).tail with
  | none=>rw [hm] at h;cases h
  | some r=>rfl
 ·cases h

def aI (s:ByteArray):List (ByteArray×Int)×Int×Bool :=
 if (aV bB s).2.2=true∧0≤eB (aV bB s).1 then iV (aV bB s).2.1 (eB (gt (aC s) 0)) else ([],0,false)

theorem zf {r:List dV} {b:Int} (h:∃ x∈r,¬ um x):iV r b=([],0,false):=by
 rw [iV,if_neg]
 rintro ⟨h1,h2⟩
 obtain ⟨x,hx,hg⟩:=h
 have:=jN.of h1 h2
 obtain ⟨i,hi,rfl⟩:=List.mem_iff_getElem.1 hx
 have h3:=this.1 i hi
 rw [bT hi] at h3
 exact hg ⟨h3.1,by have:=h3.2.2.1.1;omega,h3.2.2.1.2⟩

theorem xY {r:List dV} {b:Int} (h:12<r.length):iV r b=([],0,false):=by
 rw [iV,if_neg]
 rintro ⟨h1,h2⟩
 have:=h2.len
 rw [cN] at this
 simp at this;omega

theorem tr {s:ByteArray} (hs:s.size≤100000000):fX s=some (aI s):=by
 rw [fX,th hs,ae,aI]
 have hin:=wv zO hs
 cases h1:(aV bB s).2.2 with
 | false=>rw [Bool.not_false,cond_true,if_neg (by simp)]
 | true =>
  have hh:=pd h1
  rw [Bool.not_true,cond_false,wV,ae]
  by_cases h2:0≤eB (aV bB s).1
  ·rw [ah (by omega),ae,tE hin,ae,if_pos ⟨rfl,h2⟩,hh]
  ·rw [ai (by omega),if_neg (fun h=>h2 h.2)]

theorem tX {s:ByteArray} (hs:s.size≤100000000):fR s=some (aI s):=by
 have key:=Ae (fun r=>iV r (eB (gt (aC s) 0))) ([],0,false) (fun r h=>zf h) (fun r h=>xY h) (fun w=>0≤eB w) s
 rw [fR,tF hs,ae,aI,← key]
 have hin:jM (if (aC s).length≤13 then aV dw s else (ByteArray.empty,[],false)).2.1:=by
  split
  ·exact wv zG hs
  ·exact ⟨by simp,by simp,by simp⟩
 have hh:(if (aC s).length≤13 then aV dw s else (ByteArray.empty,[],false)).2.2=true→(if (aC s).length≤13 then aV dw s else (ByteArray.empty,[],false)).1=gt (aC s) 0:=by
  split
  ·exact pd
  ·intro h;cases h
 generalize (if (aC s).length≤13 then aV dw s else (ByteArray.empty,[],false))=q at hin hh
 rw [gm,ae]
 show bd (eK boundWords (bl (Lib.trimPrefix q.1.data.toList flagSp.data.toList))) (fun x4=>bif (!q.2.2) then _ else bif (!Lib.hasPrefix q.1.data.toList flagSp.data.toList) then _ else _)=_
 rw [wZ,ae]
 cases h1:q.2.2 with
 | false=>rw [Bool.not_false,cond_true,if_neg (by simp)]
 | true =>
  rw [Bool.not_true,cond_false]
  rcases yB q.1 with ⟨e1,e2⟩ | ⟨e1,e2⟩
  ·rw [e1,Bool.not_true,cond_false,e2]
   by_cases h2:0≤eB q.1
   ·rw [ah (by omega),uk hin,ae,if_pos ⟨rfl,h2⟩,hh h1]
   ·rw [ai (by omega),if_neg (fun h=>h2 h.2)]
  ·rw [e1,Bool.not_false,cond_true,if_neg (fun h=>by have:=h.2;omega)]

def tt (l:List (ByteArray×Int)):Prop:=l.length≤12∧∀ d∈l,fe d.1 ∧ -4096≤d.2∧d.2≤4096

theorem ez.smallD {l:List (ByteArray×Int)} {lo hi:Int} (h:ez l lo hi) (h1 : -4096≤lo) (h2:hi≤4096):tt l :=
 ⟨h.out.2.2,fun d hd=>by have:=h.out.1 d hd;exact ⟨this.1,by omega,by omega⟩⟩

def nlC (l:List UInt8):Nat:=(l.filter fun c=>decide (c=10)).length

theorem yv (a b:List UInt8):nlC (a++b)=nlC a+nlC b:=by rw [nlC,List.filter_append,List.length_append];rfl

theorem oU (c:UInt8):∀ l:List UInt8,(aP c l).length=(l.filter fun x=>decide (x=c)).length+1
 | []=>rfl
 | x::r=>by
  have ih:=oU c r
  by_cases h:x=c
  ·rw [aP,if_pos h,List.length_cons,ih,List.filter_cons_of_pos (p:=fun x=>decide (x=c)) (decide_eq_true h),List.length_cons]
  ·rw [List.filter_cons_of_neg (p:=fun x=>decide (x=c)) (by simp [h]),← ih,aP,if_neg h]
   cases e:aP c r with
   | nil=>exact absurd e (ej c r)
   | cons p ps=>rfl

theorem zB {s:ByteArray} (h:kJ s=true):nlC s.data.toList=(aC s).length:=by
 have e:=(tQ s.data.toList).1 h
 rw [aC,aE,cv,List.length_map,oU]
 conv=>lhs;rw [e,yv]
 rfl

theorem zy {s:ByteArray} (h:(aV bB s).2.2=true):kJ s=true∧(aV bB s).2.1.length+1=(aC s).length:=by
 cases he:kJ s with
 | false=>rw [aV,if_neg (by simp [he])] at h;cases h
 | true =>
  refine ⟨rfl,?_⟩
  cases hm:dJ bB (aC s).tail with
  | none=>rw [aV,if_pos he,hm] at h;cases h
  | some r =>
   have e:aV bB s=(gt (aC s) 0,r,true):=by rw [aV,if_pos he,hm]
   have hl:=(kw hm).1
   have hne:=List.length_pos_iff.2 (oS s)
   rw [List.length_tail] at hl
   rw [e]
   show r.length+1=_
   omega

theorem tt.inn {l:List (ByteArray×Int)} (h:tt l):cp l :=
 ⟨by have:=h.1;omega,fun d hd=>by have:=(h.2 d hd).1.2.2;omega,fun d hd=>by have:=(h.2 d hd).2;exact ⟨by omega,by omega⟩⟩

theorem mU {s:ByteArray} (h:(aI s).2.2=true):bC (aI s).1 (aI s).2.1∧nlC s.data.toList=(aI s).1.length+1∧0≤eB (aV bB s).1:=by
 by_cases h1:(aV bB s).2.2=true∧0≤eB (aV bB s).1
 ·have e:aI s=iV (aV bB s).2.1 (eB (gt (aC s) 0)):=if_pos h1
  rw [e] at h ⊢
  by_cases h2:((aV bB s).2.1.any (fun x=>x.2.1 && !decide (x.2.2=0))=false)∧bC (br gx (aV bB s).2.1 []) (eB (gt (aC s) 0))
  ·have e2:iV (aV bB s).2.1 (eB (gt (aC s) 0))=(br gx (aV bB s).2.1 [],eB (gt (aC s) 0),true):=if_pos h2
   obtain ⟨o1,o2⟩:=zy h1.1
   rw [e2]
   refine ⟨h2.2,?_,h1.2⟩
   show _=(br gx (aV bB s).2.1 []).length+1
   rw [zB o1,cN,← o2]
   simp
  ·have e2:iV (aV bB s).2.1 (eB (gt (aC s) 0))=([],0,false):=if_neg h2
   rw [e2] at h;cases h
 ·have e:aI s=([],0,false):=if_neg h1
  rw [e] at h;cases h

theorem qI {k:Nat}:∀ {l:List (ByteArray×Int)},(∀ d∈l,d.2.toNat<2 ^ k)→aK l<2 ^ k
 | [],_=>Nat.two_pow_pos k
 | d::l,h=>by
  rw [nV]
  exact Nat.or_lt_two_pow (h d (by simp)) (qI (fun e he=>h e (by simp [he])))

theorem vZ {l:List (ByteArray×Int)} {d:ByteArray×Int} (h:d∈l):d.2.toNat≤aK l :=
 qE (hF.2 fun i hi=>by rw [hY];exact List.any_eq_true.2 ⟨d,h,hi⟩)

theorem yU (l:List (ByteArray×Int)):aT (aK l)=aT (greatest l 0).toNat:=by
 refine Nat.le_antisymm (iO (qI fun d hd=>?_)) ?_
 ·have h1:=qK 0 d hd
  have h2:=jo (greatest l 0).toNat
  have h3:d.2.toNat≤(greatest l 0).toNat:=by omega
  exact Nat.lt_of_le_of_lt h3 h2
 ·by_cases h:l=[]
  ·subst h;exact Nat.le_refl _
  ·obtain ⟨d,hd,e⟩:=kd h 0
   rw [e];exact uI (vZ hd)

def mA (f:List (ByteArray×Int)):Nat:=2 ^ aT (aK f) - 1

theorem re {f:List (ByteArray×Int)} (hv:V12 f):1≤2 ^ aT (aK f)∧2 ^ aT (aK f)≤4096∧aT (aK f)≤12:=by
 have hb:=iO (k:=12) (eb hv)
 exact ⟨Nat.one_le_two_pow,(Nat.pow_le_pow_right (by omega) hb:2 ^ aT (aK f)≤2 ^ 12),hb⟩

theorem ro {f:List (ByteArray×Int)} (hv:V12 f):mA f<4096:=by
 have:=re hv
 rw [mA];omega

theorem zg {f:List (ByteArray×Int)} (hv:V12 f) (hl:f.length≤1099511627776) (b:Int):fV f b=some ((mA f:Nat):Int):=by
 have hm:=eb hv
 obtain ⟨h1,h2,hb⟩:=re hv
 have e:IntKind.wrap .u64 ((aK f:Nat):Int)=((aK f:Nat):Int):=by rw [IntKind.wrap_u64];omega
 have e2:(1:Int)*2 ^ (((aT (aK f):Nat):Int)).toNat=((2 ^ aT (aK f):Nat):Int):=by rw [Int.toNat_natCast];simp
 rw [fV,jP b hv hl,ae,e,ry (by omega),ae,al ⟨by omega,by simp [IntKind.bits];omega⟩,cj,e2,mA]
 generalize 2 ^ aT (aK f)=q at *
 rw [w64 (a:=(q:Int)) (by omega) (by omega),w64 (by omega) (by omega)]
 congr 1;omega

theorem uL {f:List (ByteArray×Int)} (hv:V12 f) (hl:f.length≤1099511627776):iu f=some ((mA f:Nat):Int):=by
 obtain ⟨h1,h2,hb⟩:=re hv
 rw [iu,pM hl (fun d hd=>by have:=hv d hd;omega),ae,← yU,mA]
 generalize 2 ^ aT (aK f)=q at *
 rw [w64 (by omega) (by omega)]
 congr 1;omega

def ie (f:List (ByteArray×Int)) (b:Int):Nat:=if b=3 then mA f else aK f

theorem po {f:List (ByteArray×Int)} (hv:V12 f) (b:Int):ie f b<4096:=by
 rw [ie];split
 ·exact ro hv
 ·exact eb hv

theorem sk {f:List (ByteArray×Int)} (hv:V12 f) (hl:f.length≤1099511627776) (b:Int):eh f b=some ((ie f b:Nat):Int):=by
 rw [eh,ie]
 by_cases hb:b=3
 ·rw [ai hb,zg hv hl,ae,if_pos hb]
 ·rw [ah hb,jP b hv hl,ae,if_neg hb]

theorem aM.whole {f:List (ByteArray×Int)} {b:Int} (hf:bC f b) (x:Nat):aM f b ((aJ (ie f b) x:Nat):Int):=by
 have h1:=po hf.v12 b
 have h2:=iL (ie f b) x
 refine ⟨hf,by omega,?_⟩
 rw [Int.toNat_natCast]
 by_cases hb:b=3
 ·exact .inl hb
 ·right
  rw [ie,if_neg hb,hF]
  intro i hi
  rw [dr] at hi
  simp at hi;exact hi.1

def nF (f:List (ByteArray×Int)) (b x:Int):Int:=if aM f b x then ((aJ (ie f b) x.toNat:Nat):Int) else -1

theorem rx {f:List (ByteArray×Int)} (h:cp f) (b a:Int):dj f b a=some (nF f b a):=by
 rw [dj,dF h,ae,nF]
 by_cases hv:aM f b a
 ·have hm:=po hv.1.v12 b
  have ha:=hv.2.1
  have e:=iN (a:=ie f b) (b:=a.toNat) (by omega) (by omega)
  rw [aO ha.1] at e
  rw [decide_eq_true hv,Bool.not_true,cond_false,sk hv.1.v12 h.1,ae,if_pos hv,e]
 ·rw [decide_eq_false hv,Bool.not_false,cond_true,if_neg hv]

theorem rm {f:List (ByteArray×Int)} (h:cp f) (b a:Int):fb f b a=some (nF f b a):=by
 rw [fb,jV h,ae,nF]
 by_cases hv:aM f b a
 ·have ha:=hv.2.1
  rw [decide_eq_true hv,Bool.not_true,cond_false,if_pos hv,ie]
  by_cases hb:b=3
  ·have e:=fh (a:=mA f) (b:=a.toNat) (ro hv.1.v12) (by omega)
   rw [aO ha.1] at e
   rw [ai hb,uL hv.1.v12 h.1,ae,e,ae,if_pos hb]
  ·have e:=fh (a:=aK f) (b:=a.toNat) (eb hv.1.v12) (by omega)
   rw [aO ha.1] at e
   rw [ah hb,iH hv.1.v12 h.1,ae,e,ae,if_neg hb]
 ·rw [decide_eq_false hv,Bool.not_false,cond_true,if_neg hv]

def fF (f:List (ByteArray×Int)) (b n:Int):Int×Int :=
 if n<0 then (((aJ (ie f b) (0 - n - 1).toNat:Nat):Int),0)
 else if aJ n.toNat (aK f)=0∨b=3 then (n,0)
 else if b=1 then (((n.toNat&&&aK f:Nat):Int),0)
 else if b=2 then (n,1) else (0,2)

theorem tP {f:List (ByteArray×Int)} (h:cp f) {b n:Int} (hf:bC f b) (hn : -4096≤n∧n≤4095):fQ f b n=some (fF f b n):=by
 have hm:=eb hf.v12
 rw [fQ,ja h,ae,decide_eq_true hf,Bool.not_true,cond_false,kv,ae,decide_eq_true hn,Bool.not_true,cond_false,fF]
 by_cases h0:n<0
 ·obtain ⟨k,hk⟩:∃ k:Nat,(0:Int) - n - 1=(k:Int):=⟨(0 - n - 1).toNat,by omega⟩
  have hw:=po hf.v12 b
  rw [ai h0,if_pos h0,sk hf.v12 h.1,ae,cj,w64 (a:=0 - n) (by omega) (by omega),w64 (a:=0 - n - 1) (by omega) (by omega),hk,iN (by omega) (by omega),Int.toNat_natCast]
 ·have h2:=lU (a:=n) (m:=aK f) ⟨by omega,by omega⟩ hm
  rw [ah h0,if_neg h0,jP b hf.v12 h.1,ae]
  by_cases h1:aJ n.toNat (aK f)=0
  ·rw [ai (h2.2 ⟨by omega,h1⟩),if_pos (.inl h1)]
  ·rw [ah (fun h=>h1 (h2.1 h).2)]
   by_cases hb3:b=3
   ·rw [ai hb3,if_pos (.inr hb3)]
   ·rw [ah hb3,if_neg (by rintro (h | h);exact h1 h;exact hb3 h)]
    by_cases hb1:b=1
    ·have e:=vu (a:=n.toNat) (b:=aK f) (by omega) (by omega)
     rw [aO (by omega)] at e
     rw [ai hb1,if_pos hb1,ae,e]
    ·rw [ah hb1,if_neg hb1]
     by_cases hb2:b=2
     ·rw [ai hb2,if_pos hb2]
     ·rw [ah hb2,if_neg hb2]

theorem yN {f:List (ByteArray×Int)} (h:cp f) {b n:Int} (hf:bC f b) (hn : -4096≤n∧n≤4095):jq f b n=some (fF f b n):=by
 have hm:=eb hf.v12
 have hb:=hf.2
 rw [jq,fF]
 by_cases h0:n<0
 ·obtain ⟨k,hk⟩:∃ k:Nat,(0:Int) - n - 1=(k:Int):=⟨(0 - n - 1).toNat,by omega⟩
  rw [ai h0,if_pos h0,w64 (a:=0 - n) (by omega) (by omega),w64 (a:=0 - n - 1) (by omega) (by omega),hk,Int.toNat_natCast,ie]
  by_cases hb3:b=3
  ·rw [ai hb3,if_pos hb3,uL hf.v12 h.1,ae,fh (ro hf.v12) (by omega),ae]
  ·rw [ah hb3,if_neg hb3,iH hf.v12 h.1,ae,fh hm (by omega),ae]
 ·have e:=fh (a:=n.toNat) (b:=aK f) (by omega) hm
  rw [aO (by omega)] at e
  rw [ah h0,if_neg h0,iH hf.v12 h.1,ae,e,ae]
  by_cases h1:aJ n.toNat (aK f)=0
  ·rw [ai (by omega),if_pos (.inl h1)]
  ·rw [ah (by omega)]
   by_cases hb0:b=0
   ·rw [ai hb0,if_neg (by rintro (h | h);exact h1 h;omega),if_neg (by omega),if_neg (by omega)]
   ·rw [ah hb0]
    by_cases hb1:b=1
    ·have e2:=kT (a:=n.toNat) (b:=aK f) (by omega) hm
     rw [aO (by omega)] at e2
     rw [ai hb1,if_neg (by rintro (h | h);exact h1 h;omega),if_pos hb1,ae,e2,ae]
    ·rw [ah hb1]
     by_cases hb2:b=2
     ·rw [ai hb2,if_neg (by rintro (h | h);exact h1 h;omega),if_neg hb1,if_pos hb2]
     ·rw [ah hb2,if_pos (.inr (by omega))]

theorem qY {f:List (ByteArray×Int)} {b n:Int} (hf:bC f b) (hn : -4096≤n∧n≤4095):((fF f b n).2=0→aM f b (fF f b n).1)∧(0≤(fF f b n).1∧(fF f b n).1≤4095):=by
 rw [fF]
 by_cases h0:n<0
 ·rw [if_pos h0]
  have h1:=aM.whole hf (0 - n - 1).toNat
  exact ⟨fun _=>h1,h1.2.1⟩
 ·rw [if_neg h0]
  by_cases h1:aJ n.toNat (aK f)=0∨b=3
  ·rw [if_pos h1]
   exact ⟨fun _=>⟨hf,⟨by simp only;omega,by simp only;omega⟩,h1.symm⟩,by simp only;omega⟩
  ·rw [if_neg h1]
   by_cases hb1:b=1
   ·rw [if_pos hb1]
    have h2:aJ (n.toNat&&&aK f) (((aK f:Nat):Int)).toNat=0:=by
     rw [Int.toNat_natCast,hF]
     intro i hi
     rw [Nat.testBit_and] at hi
     simp at hi;exact hi.2
    have h3:=aM.sub (aM.mask hf) h2
    exact ⟨fun _=>h3,h3.2.1⟩
   ·rw [if_neg hb1]
    by_cases hb2:b=2
    ·rw [if_pos hb2]
     exact ⟨fun h=>by simp at h,by simp only;omega⟩
    ·rw [if_neg hb2]
     exact ⟨fun h=>by simp at h,by simp⟩

def numberB:ByteArray:=ByteArray.mk #[110,117,109,98,101,114,32]

def wrongB:ByteArray:=ByteArray.mk #[119,114,111,110,103]

def whatB:ByteArray:=ByteArray.mk #[119,104,97,116]

def jL (f:List (ByteArray×Int)) (b n:Int):ByteArray :=
 if (fF f b n).2=0 then bU f b (fF f b n).1 else if (fF f b n).2=1 then numberB++bG (fF f b n).1 else wrongB

theorem uY {f:List (ByteArray×Int)} (h:cp f) {b n:Int} (hf:bC f b) (hn : -4096≤n∧n≤4095):gu f b n=some (jL f b n):=by
 obtain ⟨h1,h2⟩:=qY hf hn
 rw [gu,yN h hf hn,ae,jL]
 by_cases h3:(fF f b n).2=0
 ·have hv:=h1 h3
  rw [ai h3,tk hf hv.2.1,ae,if_pos h3,bU,if_pos hv]
 ·rw [ah h3,if_neg h3]
  by_cases h4:(fF f b n).2=1
  ·have hz:=jX (n:=(fF f b n).1) ⟨by omega,by omega⟩
   have e7:(ByteArray.mk #[110,117,109,98,101,114,32]).size=7:=rfl
   rw [ai h4,kH h2.1 (by omega),ae,al (by omega),if_pos h4]
   rfl
  ·rw [ah h4,if_neg h4]
   rfl

def kR (f:List (ByteArray×Int)) (b:Int) (w:ByteArray):ByteArray :=
 if (dm w).2=true ∧ -4096≤(dm w).1∧(dm w).1≤4095 then jL f b (dm w).1 else whatB

theorem Ap (w:ByteArray):((cH w).2=true∧(-4096≤(cH w).1∧(cH w).1≤4095)∧(dm w).2=true∧(dm w).1=(cH w).1) ∨
  (¬ ((cH w).2=true ∧ -4096≤(cH w).1∧(cH w).1≤4095)∧¬ ((dm w).2=true ∧ -4096≤(dm w).1∧(dm w).1≤4095)):=by
 by_cases h1:(cH w).2=true ∧ -4096≤(cH w).1∧(cH w).1≤4095
 ·left
  obtain ⟨e,_⟩:=pX h1.1
  have hs:=uv (v:=(cH w).1) ⟨by omega,by omega⟩
  rw [← e] at hs
  exact ⟨h1.1,h1.2,by rw [hs],by rw [hs]⟩
 ·right
  refine ⟨h1,fun h2=>h1 ?_⟩
  obtain ⟨e,_⟩:=tS h2.1
  have hd:=kO (n:=(dm w).1) ⟨by omega,by omega⟩
  rw [← e] at hd
  exact ⟨by rw [hd],by rw [hd];exact h2.2⟩

theorem uT {f:List (ByteArray×Int)} (h:cp f) {b:Int} (hf:bC f b) {w:ByteArray} (hw:w.size≤100000000):gy f b w=some (kR f b w):=by
 rw [gy,lW (by omega),ae,kR]
 rcases Ap w with ⟨h1,h2,h3,h4⟩ | ⟨h1,h2⟩
 ·obtain ⟨g1,g2⟩:=qY hf h2
  rw [h1,Bool.not_true,cond_false,kv,ae,decide_eq_true h2,Bool.not_true,cond_false,tP h hf h2,ae,h4,if_pos ⟨h3,h2⟩,jL]
  by_cases h5:(fF f b (cH w).1).2=0
  ·rw [ai h5,fK h,ae,if_pos h5]
  ·rw [ah h5,if_neg h5]
   by_cases h6:(fF f b (cH w).1).2=1
   ·have hz:=jX (n:=(fF f b (cH w).1).1) ⟨by omega,by omega⟩
    have e7:(ByteArray.mk #[110,117,109,98,101,114,32]).size=7:=rfl
    rw [ai h6,qc ⟨by omega,by omega⟩,ae,al (by omega),if_pos h6]
    rfl
   ·rw [ah h6,if_neg h6]
    rfl
 ·rw [if_neg h2]
  cases h3:(cH w).2 with
  | false=>rw [Bool.not_false,cond_true];rfl
  | true =>
   rw [Bool.not_true,cond_false,kv,ae,decide_eq_false (fun h4=>h1 ⟨h3,h4⟩),Bool.not_false,cond_true];rfl

def cO (f:List (ByteArray×Int)) (b:Int):List ByteArray→Option (List Int)
 | []=>some []
 | w::r=>if (bc f b w).2=true then (cO f b r).map ((bc f b w).1::·) else none

theorem kX {f:List (ByteArray×Int)} {b:Int}:∀ {l:List ByteArray} {r:List Int},cO f b l=some r→r.length=l.length
 | [],r,h=>by rw [cO] at h;cases h;rfl
 | w::l,r,h=>by
  rw [cO] at h
  by_cases hv:(bc f b w).2=true
  ·rw [if_pos hv] at h
   obtain ⟨q,hq,rfl⟩:=Option.map_eq_some_iff.1 h
   rw [List.length_cons,List.length_cons,kX hq]
  ·rw [if_neg hv] at h;cases h

theorem nZ {f:List (ByteArray×Int)} {b:Int} {s:ByteArray} (h:(bc f b s).2=true):aM f b (bc f b s).1:=by
 rw [bc] at *
 split
 ·rename_i hf
  rw [if_pos hf] at h
  split
  ·rename_i e;rw [e] at h;cases h
  ·rename_i x e
   rw [e] at h
   split
   ·rename_i hv;exact hv
   ·rename_i hv
    simp only at h
    rw [if_neg hv] at h;cases h
 ·rename_i hf;rw [if_neg hf] at h;cases h

theorem Ar {f:List (ByteArray×Int)} (h:cp f) (b:Int) (W:List ByteArray) (hl:W.length≤1000000000) (hw:∀ w∈W,w.size≤100000000):∀ (k i n:Nat) (acc:List Int),i+k=W.length - 1→k<n→acc.length=i→1≤W.length →
  bK f b W n acc (i:Int)=some (match cO f b (W.drop (i+1)) with | none=>.inl () | some r=>.inr (acc++r)):=by
 have e:((((W.length:Nat):Int).toNat - (1:Int).toNat:Nat):Int)=((W.length - 1:Nat):Int):=by rw [Int.toNat_natCast];rfl
 intro k
 induction k with
 | zero =>
  intro i n acc hk hn ha h1
  cases n with
  | zero=>omega
  | succ n =>
   rw [bK,cj,e,ah (by omega),List.drop_eq_nil_of_le (by omega),cO]
   simp
 | succ k ih =>
  intro i n acc hk hn ha h1
  cases n with
  | zero=>omega
  | succ n =>
   have hi:i+1<W.length:=by omega
   have e2:(((1:Int).toNat+((i:Nat):Int).toNat:Nat):Int)=((i+1:Nat):Int):=by
    have:(1:Int).toNat=1:=rfl
    rw [Int.toNat_natCast,this];omega
   have hs:=hw _ (List.getElem_mem hi)
   rw [bK,cj,e,ai (by omega),al ⟨by omega,by omega⟩,e2,bT hi,tR h b hs,ae,List.drop_eq_getElem_cons hi,cO,bY (by omega)]
   cases hv:(bc f b W[i+1]).2 with
   | false=>rw [Bool.not_false,cond_true,if_neg (by simp)]
   | true =>
    rw [Bool.not_true,cond_false,al (by simp;omega),if_pos rfl,ih (i+1) n _ (by omega) (by omega) (by simp [ha]) h1]
    cases cO f b (W.drop (i+1+1)) <;> simp

theorem rX (f:List (ByteArray×Int)) (b:Int) (W:List ByteArray):∀ (n:Nat) (acc:List Int) (i:Int),dk f b W n acc i=bK f b W n acc i
 | 0,_,_=>rfl
 | n+1,acc,i=>by
  rw [dk,bK]
  simp only [rX f b W n]

def orC (f:List (ByteArray×Int)) (b a c:Int):Int:=if aM f b a∧aM f b c then ((a.toNat|||c.toNat:Nat):Int) else -1

def yq (f:List (ByteArray×Int)) (b a c:Int):Int:=if aM f b a∧aM f b c then ((a.toNat&&&c.toNat:Nat):Int) else -1

def vv (f:List (ByteArray×Int)) (b a c:Int):Int:=if aM f b a∧aM f b c then ((aJ a.toNat c.toNat:Nat):Int) else -1

def jp (f:List (ByteArray×Int)) (b:Int) (w:ByteArray) (vs:List Int):ByteArray :=
 if w=(ByteArray.mk #[118,97,108,117,101]) then (if vs.length=1 then bG (gt vs 0) else whatB)
 else if w=(ByteArray.mk #[115,104,111,119]) then (if vs.length=1 then bU f b (gt vs 0) else whatB)
 else if w=(ByteArray.mk #[115,104,111,114,116]) then (if vs.length=1 then eV f b (gt vs 0) else whatB)
 else if w=(ByteArray.mk #[110,111,116]) then (if vs.length=1 then bU f b (nF f b (gt vs 0)) else whatB)
 else if w=(ByteArray.mk #[111,114]) then (if vs.length=2 then bU f b (orC f b (gt vs 0) (gt vs 1)) else whatB)
 else if w=(ByteArray.mk #[97,110,100]) then (if vs.length=2 then bU f b (yq f b (gt vs 0) (gt vs 1)) else whatB)
 else if w=(ByteArray.mk #[108,101,115,115]) then (if vs.length=2 then bU f b (vv f b (gt vs 0) (gt vs 1)) else whatB)
 else whatB

def makeB:ByteArray:=ByteArray.mk #[109,97,107,101]

def jD (f:List (ByteArray×Int)) (b:Int) (W:List ByteArray):ByteArray :=
 if gt W 0=makeB then (if W.length=2 then kR f b (gt W 1) else whatB)
 else match cO f b W.tail with
  | none=>whatB
  | some vs=>jp f b (gt W 0) vs

def iF (f:List (ByteArray×Int)) (b:Int) (line:ByteArray):ByteArray:=jD f b (aE line 32)

theorem uS {f:List (ByteArray×Int)} (h:cp f) {b:Int} (hf:bC f b) {s:ByteArray} (hs:s.size≤100000000):fl f b s=some (iF f b s):=by
 have hwl:=gq s 32
 have hws:=gI s 32
 have hne:aE s 32≠[]:=by rw [aE];simpa using ej _ _
 rw [fl,show (ByteArray.mk #[32])=bl [32] from rfl,kY (by omega),ae,iF]
 show gd _ _=_
 rw [show ((aP 32 s.data.toList).map bl)=aE s 32 from rfl]
 generalize aE s 32=W at *
 have hlen:=List.length_pos_iff.2 hne
 have el:bK f b W FU [] 0=some (match cO f b W.tail with | none=>.inl () | some r=>.inr r):=by
  have e:=Ar h b W (by omega) (fun w hw=>by have:=hws w hw;omega) (W.length - 1) 0 FU [] (by omega) (by rw [FU_eq];omega) rfl (by omega)
  rw [List.drop_one] at e
  simpa using e
 rw [al ⟨by omega,by omega⟩,cj,jD]
 by_cases hm:gt W 0=makeB
 ·rw [ai (show gt W (0:Int)=(ByteArray.mk #[109,97,107,101]) from hm),if_pos hm]
  by_cases h2:W.length=2
  ·have hz:=hws _ (fD (l:=W) (q:=1) (by omega))
   rw [ai (by omega),al ⟨by omega,by omega⟩,uT h hf (by omega),ae,if_pos h2]
  ·rw [ah (by omega),al ⟨by omega,by omega,by omega,by omega⟩,rX,el,ae,if_neg h2]
   cases cO f b W.tail <;> rfl
 ·rw [ah (show ¬ gt W (0:Int)=(ByteArray.mk #[109,97,107,101]) from hm),if_neg hm,al ⟨by omega,by omega,by omega,by omega⟩,el,ae]
  cases hr:cO f b W.tail with
  | none=>rfl
  | some vs =>
   have hvl:=kX hr
   have h64:∀ x∈vs,0≤x∧x≤4095:=by
    have key:∀ (l:List ByteArray) (r:List Int),cO f b l=some r→∀ x∈r,0≤x∧x≤4095:=by
     intro l
     induction l with
     | nil=>intro r h;rw [cO] at h;cases h;simp
     | cons w l ih =>
      intro r h x hx
      rw [cO] at h
      by_cases hv:(bc f b w).2=true
      ·rw [if_pos hv] at h
       obtain ⟨q,hq,rfl⟩:=Option.map_eq_some_iff.1 h
       rcases List.mem_cons.1 hx with rfl | hx
       ·exact (nZ hv).2.1
       ·exact ih q hq x hx
      ·rw [if_neg hv] at h;cases h
    exact key _ _ hr
   simp only [sm]
   rw [cj,jp]
   have one:∀ (X:Int→Option ByteArray) (Y:Int→ByteArray),(vs.length=1→X (gt vs 0)=some (Y (gt vs 0))) →
     (bif decide ((vs.length:Int)=1) then gd (0≤(0:Int)∧(0:Int)<(vs.length:Int)) <| X (gt vs (0:Int)) else some (ByteArray.mk #[119,104,97,116]))=some (if vs.length=1 then Y (gt vs 0) else whatB):=by
    intro X Y hX
    by_cases h1:vs.length=1
    ·rw [ai (by omega),al ⟨by omega,by omega⟩,hX h1,if_pos h1]
    ·rw [ah (by omega),if_neg h1];rfl
   have two:∀ (X:Int→Int→Option ByteArray) (Y:Int→Int→ByteArray),(∀ x y,X x y=some (Y x y)) →
     (bif decide ((vs.length:Int)=2) then gd (0≤(0:Int)∧(0:Int)<(vs.length:Int)) <| gd (0≤(1:Int)∧(1:Int)<(vs.length:Int)) <| X (gt vs (0:Int)) (gt vs (1:Int)) else some (ByteArray.mk #[119,104,97,116]))=some (if vs.length=2 then Y (gt vs 0) (gt vs 1) else whatB):=by
    intro X Y hX
    by_cases h1:vs.length=2
    ·rw [ai (by omega),al ⟨by omega,by omega⟩,al ⟨by omega,by omega⟩,hX,if_pos h1]
    ·rw [ah (by omega),if_neg h1];rfl
   by_cases c1:gt W (0:Int)=(ByteArray.mk #[118,97,108,117,101])
   ·rw [ai c1,if_pos c1]
    refine one (fun x=>bd (cU x) fun y=>some y) bG (fun h1=>?_)
    have h2:=h64 _ (fD (l:=vs) (q:=0) (by omega))
    show bd (cU (gt vs 0)) _=_
    rw [qc ⟨by omega,by omega⟩,ae]
   rw [ah c1,if_neg c1,cj]
   by_cases c2:gt W (0:Int)=(ByteArray.mk #[115,104,111,119])
   ·rw [ai c2,if_pos c2]
    exact one (fun x=>bd (bh f b x) fun y=>some y) (bU f b) (fun h1=>by show bd (bh f b (gt vs 0)) _=_;rw [fK h,ae])
   rw [ah c2,if_neg c2,cj]
   by_cases c3:gt W (0:Int)=(ByteArray.mk #[115,104,111,114,116])
   ·rw [ai c3,if_pos c3]
    exact one (fun x=>bd (dP f b x) fun y=>some y) (eV f b) (fun h1=>by show bd (dP f b (gt vs 0)) _=_;rw [tz h,ae])
   rw [ah c3,if_neg c3]
   by_cases c4:gt W (0:Int)=(ByteArray.mk #[110,111,116])
   ·rw [ai c4,if_pos c4]
    exact one (fun x=>bd (dj f b x) fun y=>bd (bh f b y) fun z=>some z) (fun x=>bU f b (nF f b x)) (fun h1=>by show bd (dj f b (gt vs 0)) _=_;rw [rx h,ae,fK h,ae])
   rw [ah c4,if_neg c4]
   by_cases c5:gt W (0:Int)=(ByteArray.mk #[111,114])
   ·rw [ai c5,if_pos c5]
    exact two (fun x y=>bd (dU f b x y) fun y=>bd (bh f b y) fun z=>some z) (fun x y=>bU f b (orC f b x y)) (fun x y=>by show bd (dU f b x y) _=_;rw [vf h,ae,fK h,ae];rfl)
   rw [ah c5,if_neg c5]
   by_cases c6:gt W (0:Int)=(ByteArray.mk #[97,110,100])
   ·rw [ai c6,if_pos c6]
    exact two (fun x y=>bd (dL f b x y) fun y=>bd (bh f b y) fun z=>some z) (fun x y=>bU f b (yq f b x y)) (fun x y=>by show bd (dL f b x y) _=_;rw [uj h,ae,fK h,ae];rfl)
   rw [ah c6,if_neg c6,cj]
   by_cases c7:gt W (0:Int)=(ByteArray.mk #[108,101,115,115])
   ·rw [ai c7,if_pos c7]
    exact two (fun x y=>bd (dy f b x y) fun y=>bd (bh f b y) fun z=>some z) (fun x y=>bU f b (vv f b x y)) (fun x y=>by show bd (dy f b x y) _=_;rw [sT h,ae,fK h,ae];rfl)
   rw [ah c7,if_neg c7]
   rfl

theorem yu {f:List (ByteArray×Int)} {b:Int} {w:ByteArray} {v:Int}:jp f b w [v] =
  if w=(ByteArray.mk #[118,97,108,117,101]) then bG v
  else if w=(ByteArray.mk #[115,104,111,119]) then bU f b v
  else if w=(ByteArray.mk #[115,104,111,114,116]) then eV f b v
  else if w=(ByteArray.mk #[110,111,116]) then bU f b (nF f b v)
  else whatB:=by
 have h1:([v]:List Int).length=1:=rfl
 have h2:¬ ([v]:List Int).length=2:=by simp
 have g0:gt [v] (0:Int)=v:=rfl
 unfold jp
 simp only [if_pos h1,if_neg h2,ite_self,g0]

theorem yE {f:List (ByteArray×Int)} {b:Int} {w:ByteArray} {v u:Int}:jp f b w [v,u] =
  if w=(ByteArray.mk #[111,114]) then bU f b (orC f b v u)
  else if w=(ByteArray.mk #[97,110,100]) then bU f b (yq f b v u)
  else if w=(ByteArray.mk #[108,101,115,115]) then bU f b (vv f b v u)
  else whatB:=by
 have h1:¬ ([v,u]:List Int).length=1:=by simp
 have h2:([v,u]:List Int).length=2:=rfl
 have g0:gt [v,u] (0:Int)=v:=rfl
 have g1:gt [v,u] (1:Int)=u:=rfl
 unfold jp
 simp only [if_pos h2,if_neg h1,g0,g1]
 by_cases c1:w=(ByteArray.mk #[118,97,108,117,101])
 ·rw [if_pos c1];subst c1
  rw [if_neg (by decide),if_neg (by decide),if_neg (by decide)]
 rw [if_neg c1]
 by_cases c2:w=(ByteArray.mk #[115,104,111,119])
 ·rw [if_pos c2];subst c2
  rw [if_neg (by decide),if_neg (by decide),if_neg (by decide)]
 rw [if_neg c2]
 by_cases c3:w=(ByteArray.mk #[115,104,111,114,116])
 ·rw [if_pos c3];subst c3
  rw [if_neg (by decide),if_neg (by decide),if_neg (by decide)]
 rw [if_neg c3]
 by_cases c4:w=(ByteArray.mk #[110,111,116])
 ·rw [if_pos c4];subst c4
  rw [if_neg (by decide),if_neg (by decide),if_neg (by decide)]
 rw [if_neg c4]

theorem qF {f:List (ByteArray×Int)} {b:Int} {w:ByteArray} {vs:List Int} (h1:vs.length≠1) (h2:vs.length≠2):jp f b w vs=whatB:=by
 simp only [jp,if_neg h1,if_neg h2,ite_self]

theorem lN {f:List (ByteArray×Int)} {b:Int} {s:ByteArray}:((bc f b s).2=true∧0≤(if (bc f b s).2=true then (bc f b s).1 else -1)∧(if (bc f b s).2=true then (bc f b s).1 else -1)=(bc f b s).1∧aM f b (bc f b s).1)∨((bc f b s).2≠true∧¬ 0≤(if (bc f b s).2=true then (bc f b s).1 else -1)):=by
 by_cases h:(bc f b s).2=true
 ·left
  have:=nZ h
  rw [if_pos h]
  exact ⟨h,this.2.1.1,rfl,this⟩
 ·right
  rw [if_neg h]
  exact ⟨h,by omega⟩

theorem jm {f:List (ByteArray×Int)} {b a:Int} (hv:aM f b a):dp f b a=some (bU f b a):=by
 rw [tk hv.1 hv.2.1,bU,if_pos hv]

theorem gt0 (a:ByteArray) (r:List ByteArray):gt (a::r) (0:Int)=a:=rfl

theorem gt1 (a x:ByteArray) (r:List ByteArray):gt (a::x::r) (1:Int)=x:=rfl

theorem gt2 (a x y:ByteArray) (r:List ByteArray):gt (a::x::y::r) (2:Int)=y:=rfl

theorem xr {f:List (ByteArray×Int)} (h:cp f) {b:Int} (hf:bC f b) {s:ByteArray} (hs:s.size≤100000000):ia f b s=some (iF f b s):=by
 have hwl:=gq s 32
 have hws:=gI s 32
 have hne:aE s 32≠[]:=by rw [aE];simpa using ej _ _
 have es:ck s 32=some (aE s 32):=jU (s:=s) (c:=32) (by omega)
 rw [ia,es,ae,iF]
 generalize aE s 32=W at *
 have hlen:=List.length_pos_iff.2 hne
 rw [w64 (a:=(W.length:Int) - 1) (by omega) (by omega),al ⟨by omega,by omega⟩,ml (by have:=hws _ (fD (l:=W) (q:=(W.length:Int) - 1) (by omega));omega),ae]
 have k1:∀ w∈W,w.size≤100000000:=fun w hw=>by have:=hws w hw;omega
 rcases W with _ | ⟨a,_ | ⟨x,_ | ⟨y,_ | ⟨z,r⟩⟩⟩⟩
 ·exact absurd rfl hne
 ·have e1:((([a]:List ByteArray).length:Nat):Int)=1:=rfl
  rw [e1,ah (by omega),ai (by omega),jD,gt0]
  by_cases hm:a=makeB
  ·rw [if_pos hm,if_neg (by simp)];rfl
  ·rw [if_neg hm,List.tail_cons,cO]
   simp only []
   rw [qF (by simp) (by simp)];rfl
 ·have e1:((([a,x]:List ByteArray).length:Nat):Int)=2:=rfl
  have hx:=k1 x (by simp)
  rw [e1,show (2:Int) - 1=1 from rfl,ai rfl,al (by omega),gt0,gt1,cj,jD,gt0,gt1]
  by_cases hm:a=makeB
  ·rw [ai (show a=(ByteArray.mk #[109,97,107,101]) from hm),if_pos hm,if_pos (by rfl),kR]
   have rest:(bif decide ((2:Int)<2) then some (ByteArray.mk #[119,104,97,116]) else bif decide ((3:Int)<2) then some (ByteArray.mk #[119,104,97,116]) else gd (0≤(1:Int)∧(1:Int)<2) <| bd (bA f b x) fun x9=>bd (bA f b x) fun x10=>some (ByteArray.mk #[119,104,97,116]))=some whatB:=by
    rw [ah (by omega),ah (by omega),al (by omega),iT h hf (by omega),ae,ae];rfl
   by_cases h1:(dm x).2=true
   ·rw [h1,cond_true,fS,ae]
    by_cases h2 : -4096≤(dm x).1∧(dm x).1≤4095
    ·rw [decide_eq_true h2,cond_true,uY h hf h2,ae,if_pos ⟨rfl,h2⟩]
    ·rw [decide_eq_false h2,cond_false,if_neg (fun h3=>h2 h3.2)]
     exact rest
   ·have h1':(dm x).2=false:=by simpa using h1
    rw [h1',cond_false,if_neg (fun h3=>by cases h3.1)]
    exact rest
  ·rw [ah (show ¬ a=(ByteArray.mk #[109,97,107,101]) from hm),if_neg hm,ah (by omega),ah (by omega),al (by omega),iT h hf (by omega),ae,ae,cj,List.tail_cons,cO,cO]
   rcases lN (f:=f) (b:=b) (s:=x) with ⟨v1,v2,v3,v4⟩ | ⟨v1,v2⟩
   ·rw [if_pos v1,if_pos v1]
    simp only [Option.map_some]
    rw [if_pos v1] at v2
    rw [yu]
    by_cases c1:a=(ByteArray.mk #[118,97,108,117,101])
    ·rw [ai c1,if_pos c1,ai v2,kH v2 (by have:=v4.2.1;omega),ae]
    rw [ah c1,if_neg c1,cj]
    by_cases c2:a=(ByteArray.mk #[115,104,111,119])
    ·rw [ai c2,if_pos c2,ai v2,jm v4,ae]
    rw [ah c2,if_neg c2,cj]
    by_cases c3:a=(ByteArray.mk #[115,104,111,114,116])
    ·rw [ai c3,if_pos c3,ai v2,uc h,ae]
    rw [ah c3,if_neg c3]
    by_cases c4:a=(ByteArray.mk #[110,111,116])
    ·have hi:aM f b (nF f b (bc f b x).1):=by rw [nF,if_pos v4];exact aM.whole hf _
     rw [ai c4,if_pos c4,ai v2,rm h,ae,jm hi,ae]
    rw [ah c4,if_neg c4]
    rfl
   ·rw [if_neg v1] at v2
    rw [if_neg v1,if_neg v1]
    simp only [ah v2,cj,Bool.cond_self]
    rfl
 ·have e1:((([a,x,y]:List ByteArray).length:Nat):Int)=3:=rfl
  have hx:=k1 x (by simp)
  have hy:=k1 y (by simp)
  rw [e1,show (3:Int) - 1=2 from rfl,ah (by omega),ah (by omega),ah (by omega),al (by omega),gt1,gt2,iT h hf (by omega),ae,iT h hf (by omega),ae,ai rfl,al (by omega),gt0,jD,gt0]
  have what:∀ (c:Bool) (X:Option ByteArray),(∀ q,X=q→c=true→q=some whatB)→(bif c then X else some (ByteArray.mk #[119,104,97,116]))=some whatB:=fun c X hX=>by
   cases c with
   | true=>exact hX X rfl rfl
   | false=>rfl
  by_cases hm:a=makeB
  ·rw [if_pos hm,if_neg (show ¬ ([a,x,y]:List ByteArray).length=2 by simp)]
   subst hm
   rw [ah (by decide),ah (by decide),cj,ah (by decide)];rfl
  ·rw [if_neg hm,List.tail_cons,cO,cO,cO]
   rcases lN (f:=f) (b:=b) (s:=x) with ⟨v1,v2,v3,v4⟩ | ⟨v1,v2⟩
   ·rcases lN (f:=f) (b:=b) (s:=y) with ⟨u1,u2,u3,u4⟩ | ⟨u1,u2⟩
    ·rw [if_pos v1] at v2
     rw [if_pos u1] at u2
     rw [if_pos v1,if_pos v1,if_pos u1,if_pos u1]
     simp only [Option.map_some]
     rw [yE]
     have hxr:=v4.2.1
     have hyr:=u4.2.1
     by_cases c5:a=(ByteArray.mk #[111,114])
     ·have e:=qM (a:=(bc f b x).1.toNat) (b:=(bc f b y).1.toNat) (by omega) (by omega)
      rw [aO hxr.1,aO hyr.1] at e
      rw [ai c5,ai v2,ai u2,e,ae,jm (aM.or v4 u4),ae,orC,if_pos (show aM f b _∧aM f b _ from ⟨v4,u4⟩),if_pos c5]
     rw [ah c5,if_neg c5]
     by_cases c6:a=(ByteArray.mk #[97,110,100])
     ·have e:=kT (a:=(bc f b x).1.toNat) (b:=(bc f b y).1.toNat) (by omega) (by omega)
      rw [aO hxr.1,aO hyr.1] at e
      rw [ai c6,ai v2,ai u2,e,ae,jm (aM.sub v4 (ud _ _)),ae,yq,if_pos (show aM f b _∧aM f b _ from ⟨v4,u4⟩),if_pos c6]
     rw [ah c6,if_neg c6,cj]
     by_cases c7:a=(ByteArray.mk #[108,101,115,115])
     ·have e:=fh (a:=(bc f b x).1.toNat) (b:=(bc f b y).1.toNat) (by omega) (by omega)
      rw [aO hxr.1,aO hyr.1] at e
      have hs:aJ (aJ (bc f b x).1.toNat (bc f b y).1.toNat) (bc f b x).1.toNat=0:=by
       rw [hF];intro i hi
       rw [dr] at hi
       simp at hi;exact hi.1
      rw [ai c7,ai v2,ai u2,e,ae,jm (aM.sub v4 hs),ae,vv,if_pos (show aM f b _∧aM f b _ from ⟨v4,u4⟩),if_pos c7]
     rw [ah c7,if_neg c7]
     rfl
    ·rw [if_neg u1] at u2
     rw [if_pos v1] at v2
     rw [if_pos v1,if_pos v1,if_neg u1,if_neg u1]
     simp only [ah u2,ai v2,Option.map_none,cj,Bool.cond_self]
     rfl
   ·rw [if_neg v1] at v2
    rw [if_neg v1,if_neg v1]
    simp only [ah v2,cj,Bool.cond_self]
    rfl
 ·have e1:(3:Int)<(((a::x::y::z::r).length:Nat):Int):=by simp only [List.length_cons];omega
  rw [ah (by omega),ah (by omega),ai e1,jD,gt0]
  by_cases hm:a=makeB
  ·rw [if_pos hm,if_neg (by simp)];rfl
  ·rw [if_neg hm,List.tail_cons]
   cases hr:cO f b (x::y::z::r) with
   | none=>rfl
   | some vs =>
    have hvl:=kX hr
    simp only [List.length_cons] at hvl
    simp only []
    rw [qF (by omega) (by omega)];rfl

theorem oR {f:List (ByteArray×Int)} {b:Int}:∀ {l:List ByteArray} {r:List Int},cO f b l=some r→∀ x∈r,0≤x∧x≤4095
 | [],r,h=>by rw [cO] at h;cases h;simp
 | w::l,r,h=>by
  intro x hx
  rw [cO] at h
  by_cases hv:(bc f b w).2=true
  ·rw [if_pos hv] at h
   obtain ⟨q,hq,rfl⟩:=Option.map_eq_some_iff.1 h
   rcases List.mem_cons.1 hx with rfl | hx
   ·exact (nZ hv).2.1
   ·exact oR hq x hx
  ·rw [if_neg hv] at h;cases h

structure yk (f:List (ByteArray×Int)) (b:Int) (Q:ByteArray→Prop):Prop where
 what:Q whatB
 wrong:Q wrongB
 num:∀ n:Int,0≤n∧n≤4095→Q (bG n)
 number:∀ n:Int,0≤n∧n≤4095→Q (numberB++bG n)
 shown:∀ a,Q (bU f b a)
 short:∀ a,Q (eV f b a)

theorem vy {f:List (ByteArray×Int)} {b n:Int} {Q:ByteArray→Prop} (h:yk f b Q) (hf:bC f b) (hn : -4096≤n∧n≤4095):Q (jL f b n):=by
 obtain ⟨h1,h2⟩:=qY hf hn
 rw [jL]
 split
 ·exact h.shown _
 ·split
  ·exact h.number _ h2
  ·exact h.wrong

theorem yX {f:List (ByteArray×Int)} {b:Int} {Q:ByteArray→Prop} (h:yk f b Q) (w:ByteArray) {vs:List Int} (hv:∀ x∈vs,0≤x∧x≤4095):Q (jp f b w vs):=by
 have one:∀ x:ByteArray,(vs.length=1→Q x)→Q (if vs.length=1 then x else whatB):=fun x hx=>by
  by_cases h1:vs.length=1
  ·rw [if_pos h1];exact hx h1
  ·rw [if_neg h1];exact h.what
 have two:∀ x:ByteArray,Q x→Q (if vs.length=2 then x else whatB):=fun x hx=>by
  by_cases h1:vs.length=2
  ·rw [if_pos h1];exact hx
  ·rw [if_neg h1];exact h.what
 rw [jp]
 split
 ·exact one _ (fun h1=>h.num _ (hv _ (fD (by omega))))
 split
 ·exact one _ (fun _=>h.shown _)
 split
 ·exact one _ (fun _=>h.short _)
 split
 ·exact one _ (fun _=>h.shown _)
 split
 ·exact two _ (h.shown _)
 split
 ·exact two _ (h.shown _)
 split
 ·exact two _ (h.shown _)
 exact h.what

theorem Ac {f:List (ByteArray×Int)} {b:Int} {Q:ByteArray→Prop} (h:yk f b Q) (hf:bC f b) (s:ByteArray):Q (iF f b s):=by
 rw [iF,jD]
 split
 ·split
  ·rw [kR]
   split
   ·rename_i h1;exact vy h hf h1.2
   ·exact h.what
  ·exact h.what
 ·split
  ·exact h.what
  ·rename_i vs e;exact yX h _ (oR e)

theorem uF {f:List (ByteArray×Int)} {b:Int} (hf:bC f b) (s:ByteArray):(iF f b s).size≤1000000:=by
 have e4:whatB.size=4:=rfl
 have e5:wrongB.size=5:=rfl
 have e7:numberB.size=7:=rfl
 refine Ac (Q:=fun a=>a.size≤1000000) ⟨by omega,by omega,fun n hn=>?_,fun n hn=>?_,fun a=>wC f b a,fun a=>tx f b a⟩ hf s
 ·have:=jX (n:=n) ⟨by omega,by omega⟩
  omega
 ·have:=jX (n:=n) ⟨by omega,by omega⟩
  rw [ByteArray.size_append];omega

def jQ (ok:Bool) (g:ByteArray→ByteArray) (xs:List ByteArray):List UInt8:=xs.flatMap fun x=>gU ok (g x)

theorem pC (ok:Bool) (g:ByteArray→ByteArray) (x:ByteArray) (r:List ByteArray):jQ ok g (x::r)=gU ok (g x)++jQ ok g r:=by
 rw [jQ,List.flatMap_cons];rfl

theorem sc {F:ByteArray→Option ByteArray} {g:ByteArray→ByteArray} (ok:Bool):∀ xs:List ByteArray,(ok=true→∀ x∈xs,F x=some (g x)∧(g x).size≤1000000000)→jJ F ok xs=some (jQ ok g xs)
 | [],_=>rfl
 | x::r,h=>by
  have ih:=sc (F:=F) (g:=g) ok r (fun hk y hy=>h hk y (by simp [hy]))
  rw [jJ,ih,pC]
  cases ok with
  | true =>
   obtain ⟨h1,h2⟩:=h rfl x (by simp)
   rw [cond_true,h1,ae,al h2,ae,ae]
  | false=>rw [cond_false,ae,ae];rfl

def ny (s:ByteArray) (lines:List ByteArray):ByteArray :=
 if 20<lines.length then ByteArray.empty else bl (jQ (aI s).2.2 (iF (aI s).1 (aI s).2.1) lines)

theorem ww {s:ByteArray} {lines:List ByteArray} (hs:s.size≤100000000) (hl:∀ x∈lines,x.size≤100000000):gS s lines=some (ny s lines):=by
 rw [gS,ny]
 by_cases h20:20<lines.length
 ·rw [ai (by omega),if_pos h20]
 ·have e:jJ (fun l=>fl (aI s).1 (aI s).2.1 l) (aI s).2.2 lines=some (jQ (aI s).2.2 (iF (aI s).1 (aI s).2.1) lines):=by
   refine sc _ _ (fun hk x hx=>?_)
   have hf:=(mU hk).1
   have hd:cp (aI s).1:=(ez.smallD hf.1 (by decide) (by decide)).inn
   exact ⟨uS hd hf (hl x hx),by have:=uF hf x;omega⟩
  rw [ah (by omega),if_neg h20,tX hs,ae,e,ae]
  rfl

theorem A9 (s a b:ByteArray):(s++a)++b=s++(a++b):=by
 apply ByteArray.ext
 simp

theorem pq (ok:Bool) (g:ByteArray→ByteArray):∀ (l:List ByteArray) (a:List UInt8),l.foldl (fun s x=>s++bl (gU ok (g x))) (bl a)=bl (a++jQ ok g l)
 | [],a=>by simp [jQ]
 | x::l,a=>by
  rw [List.foldl_cons,kQ,pq ok g l,pC,sF]
  simp

theorem wH {s:ByteArray} {lines:List ByteArray} (hs:s.size≤100000000) (hl:∀ x∈lines,x.size≤100000000):gV s lines=some (ny s lines):=by
 rw [gV,ny]
 by_cases h20:20<lines.length
 ·rw [ai (by omega),if_pos h20]
 ·have e:=qb lines (cB lines (aI s)) (fun s' x=>s'++bl (gU (aI s).2.2 (iF (aI s).1 (aI s).2.1 x))) (fun i s'=>s'.size≤1000010*i) ?_ ?_ FU (by rw [FU_eq];omega) ByteArray.empty (by decide)
  ·rw [ah (by omega),if_neg h20,tr hs,ae,e.1,ae,empty_bl,pq,List.nil_append]
  ·intro n s'
   rw [cB,ah (by omega)]
  ·intro n i s' hi hm hI
   have e1:(ByteArray.mk #[10]).size=1:=rfl
   have e6:(ByteArray.mk #[119,114,111,110,103,10]).size=6:=rfl
   rw [cB,ai (by omega),bY (by omega)]
   cases hk:(aI s).2.2 with
   | true =>
    have hf:=(mU hk).1
    have hd:cp (aI s).1:=(ez.smallD hf.1 (by decide) (by decide)).inn
    have hz:=uF hf (gt lines (i:Int))
    refine ⟨?_,?_⟩
    ·have h3:(gU true (iF (aI s).1 (aI s).2.1 (gt lines (i:Int)))).length=(iF (aI s).1 (aI s).2.1 (gt lines (i:Int))).size+1:=by
      rw [gU,cond_true,List.length_append,← cW];rfl
     rw [ByteArray.size_append,fj,h3];omega
    ·have h4:s'++bl (gU true (iF (aI s).1 (aI s).2.1 (gt lines (i:Int))))=(s'++iF (aI s).1 (aI s).2.1 (gt lines (i:Int)))++(ByteArray.mk #[10]):=by
      rw [A9,gU,cond_true,← kQ,fq];rfl
     rw [cond_true,al (by omega),xr hd hf (hl _ hm),ae,al (by omega),al (by rw [ByteArray.size_append];omega),h4]
   | false =>
    refine ⟨?_,?_⟩
    ·rw [ByteArray.size_append,fj,gU,cond_false]
     simp only [List.length_cons,List.length_nil]
     omega
    ·rw [cond_false,al (by omega)]
     rfl

theorem tw {l:List ByteArray} (hl:l.length≤1000000000):dM l=some l:=by
 have e:=A5 l (cz l) ?_ ?_ FU (by rw [FU_eq];omega) (List.replicate (l.length:Int).toNat ByteArray.empty) (by simp)
 ·rw [dM,al ⟨by omega,rfl,by omega,by omega⟩,e,ae]
 ·intro n s
  rw [cz,ah (by omega)]
 ·intro n i s hi hs
  rw [cz,ai (by omega),al (by omega),al (by omega),bY (by omega),Int.toNat_natCast]

theorem tC {l:List ByteArray} {q:Int} (hq:0≤q∧q≤1048576) (hl:l.length≤9223372036854775807) (hs:∀ s∈l,s.size≤9223372036854775807) :
  ∃ r,gc l q=some r∧(¬ r<0→l.length≤1048576∧∀ s∈l,s.size≤1048576):=by
 rw [gc,w64 (a:=q - (l.length:Int)) (by omega) (by omega)]
 by_cases h0:q - (l.length:Int)<0
 ·exact ⟨-1,by rw [ai h0],fun h=>absurd (by omega) h⟩
 ·have h:=iE l (fun n i (s:Int)=>cc l n s i) (fun i s=>(0≤s∧s≤q)∧∀ j,j<i→(gt l (j:Int)).size≤1048576)
   (fun r=>r=.inl ()∨∀ s∈l,s.size≤1048576) ?_ ?_ FU (by rw [FU_eq];omega) (q - (l.length:Int)) ⟨⟨by omega,by omega⟩,by intro j hj;omega⟩
  ·obtain ⟨r,er,hr⟩:=h
   rw [ah h0,show cc l FU (q - (l.length:Int)) 0=some r from er,ae]
   cases r with
   | inl a=>exact ⟨-1,rfl,fun h=>absurd (by omega) h⟩
   | inr x =>
    refine ⟨x,rfl,fun _=>⟨by omega,?_⟩⟩
    rcases hr with hr | hr
    ·cases hr
    ·exact hr
  ·rintro n s ⟨h1,h2⟩
   rw [cc,ah (by omega)]
   refine df.2 (.inr fun x hx=>?_)
   obtain ⟨i,hi,rfl⟩:=List.mem_iff_getElem.1 hx
   have:=h2 i hi
   rwa [bT hi] at this
  ·rintro n i s d hi hg hd hm ⟨h1,h2⟩ ih
   have hz:=hs d hm
   rw [cc,ai (by omega),al (by omega),hg,cj,w64 (a:=s - (d.size:Int)) (by omega) (by omega),bY (by omega)]
   by_cases h3:s - (d.size:Int)<0
   ·rw [ai h3]
    exact df.2 (.inl rfl)
   ·rw [ah h3]
    refine ih _ ⟨⟨by omega,by omega⟩,fun j hj=>?_⟩
    by_cases e:j=i
    ·subst e;rw [hg];omega
    ·exact h2 j (by omega)

theorem pm (p1:ByteArray) (p2:List ByteArray) (h1:p1.size≤9223372036854775807) (h2:∀ s∈p2,s.size≤9223372036854775807) (hl:p2.length≤9223372036854775807):fi p1 p2=some true:=by
 rw [fi]
 by_cases hz:1048576<(p1.size:Int)
 ·rw [ai hz]
 obtain ⟨r,er,hr⟩:=tC (q:=1048576) ⟨by omega,by omega⟩ hl h2
 rw [ah hz,er,ae]
 by_cases h:r<0
 ·rw [ai h]
 ·obtain ⟨hlen,hs⟩:=hr h
  have hs':∀ x∈p2,x.size≤100000000:=fun x hx=>by have:=hs x hx;omega
  rw [ah h,tw (by omega),ae,wH (by omega) hs',ae,ae,ww (by omega) hs',ae,decide_eq_true rfl,Bool.not_true,cond_false,ae,oN (by omega),ae]
  rfl

end Go.Eng
