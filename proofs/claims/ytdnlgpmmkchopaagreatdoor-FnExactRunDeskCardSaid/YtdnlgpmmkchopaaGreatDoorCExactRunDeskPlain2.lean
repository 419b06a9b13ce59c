/- What is proved: plain laws of the models, up to the law itself. Conditions: sizes and ranges of what is handed over, as each says. -/
import Derived.Test.YtdnlgpmmkchopaaGreatDoorCExactRunDeskPlain1
set_option linter.unusedVariables false
set_option linter.unusedSimpArgs false
namespace Go.Eng
open Go

def bi (f:List (ByteArray×Int)) (b:Int) (s:ByteArray):Int×Bool :=
  if bE f b then (match lq f (aG s 124) 0 with
    | none=>(0,false)
    | some x=>if aQ f b (x:Int) then ((x:Int),true) else (0,false)) else (0,false)

theorem gF (s:ByteArray) (c:UInt8):∀ w∈aG s c,w.size≤s.size:=fun w hw=>by
  obtain ⟨p,hp,rfl⟩:=List.mem_map.1 hw
  have key:∀ (l:List UInt8),∀ q∈aR c l,q.length≤l.length:=by
    intro l
    induction l with
    | nil=>intro q hq;simp [aR] at hq;subst hq;simp
    | cons x r ih =>
      intro q hq
      unfold aR at hq
      split at hq
      · rcases List.mem_cons.1 hq with rfl | hq
        · simp
        · have:=ih q hq;rw [List.length_cons];omega
      · split at hq
        · rename_i e0;exact absurd e0 (eo _ _)
        · rename_i p0 ps e0
          rcases List.mem_cons.1 hq with rfl | hq
          · have:=ih p0 (by rw [e0];simp);simp only [List.length_cons];omega
          · have:=ih q (by rw [e0];simp [hq]);rw [List.length_cons];omega
  rw [fm,cZ]
  exact key _ p hp

theorem tg {f:List (ByteArray×Int)} (h:cq f) (b:Int) {s:ByteArray} (hs:s.size≤100000000):eO f b s=some (bi f b s):=by
  rw [eO,iR h,af,bi]
  by_cases hf:bE f b
  · have hwl:=gr s 124
    have hws:=gF s 124
    have el:=jk h.1 hf.v12 b (aG s 124) (fun w hw=>by have:=hws w hw;omega) (aG s 124).length 0 FU 0 (by omega) (by rw [FU_eq];omega) (by omega) (by omega)
    have el':bG f b (aG s 124) FU 0 0=some (match lq f (aG s 124) 0 with | none=>.inl () | some x=>.inr (x:Int)):=el
    rw [decide_eq_true hf,Bool.not_true,cond_false,if_pos hf,show (ByteArray.mk #[124])=bl [124] from rfl,lc (by omega),af]
    show bd (bG f b (aG s 124) FU 0 0) _=_
    rw [el',af]
    cases hr:lq f (aG s 124) 0 with
    | none=>rfl
    | some x =>
      simp only [sm]
      rw [dH h,af]
      by_cases hv:aQ f b (x:Int)
      · rw [decide_eq_true hv,Bool.not_true,cond_false,if_pos hv]
      · rw [decide_eq_false hv,Bool.not_false,cond_true,if_neg hv]
  · rw [decide_eq_false hf,Bool.not_false,cond_true,if_neg hf]

theorem jd {f:List (ByteArray×Int)} (h:cq f) {b:Int} (hf:bE f b) {s:ByteArray} (hs:s.size≤100000000):bA f b s=some (if (bi f b s).2 then (bi f b s).1 else -1):=by
  have hwl:=gr s 124
  have hws:=gF s 124
  have el:=li h.1 hf.v12 b (aG s 124) (fun w hw=>by have:=hws w hw;omega) (aG s 124).length 0 FU 0 (by omega) (by rw [FU_eq];omega) (by omega) (by omega)
  have el':cf f b (aG s 124) FU 0 0=some (match jv f (aG s 124) 0 with | none=>.inl () | some x=>.inr (x:Int)):=el
  have es:=kb (s:=s) (c:=124) (by omega)
  have es':cm s 124=some (aG s 124):=es
  rw [bA,es',af,el',af,bi,if_pos hf]
  rcases Ac hf.v12 (aG s 124) 0 (by omega) with ⟨x,hx,e1,e2⟩ | ⟨e1,e2⟩
  · rw [e1,e2]
    simp only [sm]
    rw [kd h,af]
    by_cases hv:aQ f b (x:Int)
    · rw [decide_eq_true hv,Bool.not_true,cond_false,if_pos hv];rfl
    · rw [decide_eq_false hv,Bool.not_false,cond_true,if_neg hv];rfl
  · rw [e1]
    rcases e2 with e2 | ⟨x,e2,hx⟩
    · rw [e2];rfl
    · rw [e2]
      simp only [sm]
      rw [kd h,af,decide_eq_false (fun hv=>by have:=hv.2.1;omega)]
      rfl

theorem iu (c:UInt8):∀ l:List UInt8,c ∉ l→aR c l=[l]
  | [],_=>rfl
  | x::r,h=>by
    have h1:x≠c:=fun e=>h (by rw [e];simp)
    have h2:c ∉ r:=fun e=>h (by simp [e])
    rw [je h1,iu c r h2];rfl

theorem jg (c:UInt8) (b:List UInt8):∀ a:List UInt8,aR c (a++c::b)=aR c a++aR c b
  | []=>by rw [List.nil_append,jK];rfl
  | x::a=>by
    rw [List.cons_append]
    by_cases h:x=c
    · subst h;rw [jK,jK,jg x b a];rfl
    · rw [je h,je h,jg c b a]
      cases e:aR c a with
      | nil=>exact absurd e (eo c a)
      | cons p ps=>rfl

theorem sN {c:UInt8} {w:ByteArray} (h:c ∉ w.data.toList):aG w c=[w]:=by
  rw [aG,iu c _ h,List.map_singleton,ft]

theorem yu {s:ByteArray} (h:fe s) {c:UInt8} (hc:c∈s.data.toList):97≤c.toNat∧c.toNat≤122:=by
  obtain ⟨i,hi,rfl⟩:=List.mem_iff_getElem.1 hc
  have:=h.1 i (by rw [cZ];exact hi)
  rw [iw,List.getD,List.getElem?_eq_getElem hi,Option.getD_some] at this
  omega

theorem wh {s:ByteArray} (h:fe s) {c:UInt8} (hc:c.toNat<97∨122<c.toNat):c ∉ s.data.toList:=fun hm=>by
  have:=yu h hm;omega

theorem se {f:List (ByteArray×Int)} {b:Int} (hf:bE f b) {list:List ByteArray} {rest:Int} (hl:list.length≤1000) (hs:∀ s∈list,s.size≤100) (hr:0≤rest∧rest≤1000000):(lm f list rest).size≤1000000:=by
  obtain ⟨h1,h2⟩:=oU hl hs hr
  rw [lm]
  split
  · rw [sW]
    split
    · rw [fm];simp
    · rename_i hv
      have hx:=lJ f 0
      obtain ⟨i,hi⟩:=Int.eq_ofNat_of_zero_le (by omega:0≤dT f 0)
      have hlt:i<f.length:=by omega
      have:=hf.small f[i] (List.getElem_mem hlt)
      rw [hi];rw [bV hlt];omega
  · rw [pS,fm]
    have:=xA [124] (by simp) ((gA list rest).map (·.data.toList)) (fun x hx=>by
      obtain ⟨y,hy,rfl⟩:=List.mem_map.1 hx
      rw [← cZ];exact h2 y hy)
    rw [List.length_map] at this
    omega

theorem vP (f:List (ByteArray×Int)) (b a:Int):(bW f b a).size≤1000000:=by
  rw [bW]
  split
  · rename_i hv
    have h1:=hv.2.1
    have hr:=rD f a.toNat
    refine se hv.1 (by have:=kn f a.toNat;omega) (io hv.1 (fun d hd=>mI hd)) (by omega)
  · simp

theorem tO (f:List (ByteArray×Int)) (b a:Int):(eZ f b a).size≤1000000:=by
  rw [eZ]
  split
  · rename_i hv
    have h1:=hv.2.1
    have hr:=iI a.toNat (aM (dm f a.toNat))
    have:=hv.1.len
    have:=jE f a.toNat
    exact se hv.1 (by rw [List.length_map];omega) (io hv.1 (fun d hd=>hY hd)) (by omega)
  · simp

theorem vG.len {l:List (ByteArray×Int)} (h:vG l):l.length≤12:=h.2

def dp (s:ByteArray):Int×Bool :=
  if s≠ByteArray.empty∧aC s 0=45 then (if cI (s.extract 1 s.size)≤0 then (0,false) else (0 - cI (s.extract 1 s.size),true)) else (if cI s<0 then (0,false) else (cI s,true))

theorem xb (s:ByteArray) : -1≤cI s∧cI s≤4096:=by
  rcases iz s with ⟨e,_⟩ | ⟨n,hn,_,e⟩ <;> rw [e] <;> omega

theorem ml {s:ByteArray} (hs:s.size≤1000000000):eh s=some (dp s):=by
  rw [eh,dp]
  have fin:∀ h:¬ (s≠ByteArray.empty∧aC s 0=45),(bd (cE s) fun x3=>bif decide (x3<0) then some ((0:Int),false) else some (x3,true))=some (if s≠ByteArray.empty∧aC s 0=45 then (if cI (s.extract 1 s.size)≤0 then (0,false) else (0 - cI (s.extract 1 s.size),true)) else (if cI s<0 then (0,false) else (cI s,true))):=fun h=>by
    rw [jZ hs,af,if_neg h]
    by_cases h1:cI s<0
    · rw [aj h1,if_pos h1]
    · rw [ai h1,if_neg h1]
  by_cases h0:s=ByteArray.empty
  · rw [decide_eq_true h0,Bool.not_true,cond_false]
    exact fin (fun h=>h.1 h0)
  · have hpos:0<s.size:=by
      rcases Nat.eq_zero_or_pos s.size with h' | h'
      · exfalso;apply h0
        have e0:s.data.toList=[]:=List.eq_nil_of_length_eq_zero (by rw [← cZ];exact h')
        rw [← ft s,e0];rfl
      · exact h'
    rw [decide_eq_false h0,Bool.not_false,cond_true,ar (by omega)]
    have e0:(0:Int).toNat=0:=rfl
    have e1:(1:Int).toNat=1:=rfl
    rw [e0,e1,Int.toNat_natCast]
    by_cases hm:aC s 0=45
    · have hr:=xb (s.extract 1 s.size)
      rw [aj hm,ar (by omega),jZ (by rw [ByteArray.size_extract];omega),af,if_pos ⟨h0,hm⟩]
      by_cases h1:cI (s.extract 1 s.size)<0
      · rw [aj h1,if_pos (by omega)]
      · by_cases h2:cI (s.extract 1 s.size)=0
        · rw [ai h1,aj h2,if_pos (by omega)]
        · rw [ai h1,ai h2,if_neg (by omega),w64 (by omega) (by omega)]
    · rw [ai hm]
      exact fin (fun h=>hm h.2)

theorem sJ {n:Nat} (hn:n≤4096):cI (bI (n:Int))=n:=by
  rcases iz (bI (n:Int)) with ⟨_,h⟩ | ⟨m,hm,e,er⟩
  · exact absurd rfl (h n hn)
  · rw [er]
    have e1:=kP (n:=(n:Int)) ⟨by omega,by omega⟩
    have e2:=kP (n:=(m:Int)) ⟨by omega,by omega⟩
    rw [e,e2] at e1
    exact congrArg Prod.fst e1

theorem ny {n:Nat} (h:0<n):bI (0 - (n:Int))=bl (45::(bI (n:Int)).data.toList):=by
  rw [bI,bI,cz,yw (by omega)]
  rw [show (0:Int) - (0 - (n:Int))=n by omega]

theorem vh {n:Nat}:∃ c r,(bI (n:Int)).data.toList=c::r∧48≤c.toNat:=by
  rw [uq,cz]
  obtain ⟨c,r,e⟩:=List.exists_cons_of_ne_nil (ke n)
  exact ⟨c,r,e,(decDigits_digit n c (by rw [e];simp)).1⟩

theorem ui {v:Int} (h : -4096≤v∧v≤4096):dp (bI v)=(v,true):=by
  by_cases hv:v<0
  · obtain ⟨n,hn⟩:=Int.eq_ofNat_of_zero_le (show 0≤0 - v by omega)
    have ev:v=0 - (n:Int):=by omega
    have ex:(bI v).extract 1 (bI v).size=bI (n:Int):=by
      rw [ev,ny (by omega),kg,cz]
      rw [fm]
      simp [ft]
      rw [cZ,List.take_length,ft]
    have hh:bI v≠ByteArray.empty∧aC (bI v) 0=45:=by
      refine ⟨wH v,?_⟩
      rw [ev,ny (by omega),iw,cz];rfl
    rw [dp,if_pos hh,ex,sJ (by omega),if_neg (by omega)]
    rw [ev]
  · obtain ⟨n,rfl⟩:=Int.eq_ofNat_of_zero_le (show 0≤v by omega)
    obtain ⟨c,r,e,hc⟩:=vh (n:=n)
    rw [dp,if_neg,sJ (by omega),if_neg (by omega)]
    rintro ⟨_,hb⟩
    rw [iw,e] at hb
    simp at hb;omega

theorem tU {s:ByteArray} (h:(dp s).2=true):s=bI (dp s).1 ∧ -4096≤(dp s).1∧(dp s).1≤4096:=by
  by_cases hm:s≠ByteArray.empty∧aC s 0=45
  · by_cases h1:cI (s.extract 1 s.size)≤0
    · rw [dp,if_pos hm,if_pos h1] at h;cases h
    · have e:dp s=(0 - cI (s.extract 1 s.size),true):=by rw [dp,if_pos hm,if_neg h1]
      rcases iz (s.extract 1 s.size) with ⟨e1,_⟩ | ⟨n,hn,e2,e1⟩
      · omega
      · rw [e]
        simp only []
        rw [e1]
        refine ⟨?_,by omega,by omega⟩
        rw [ny (by omega),← e2]
        cases es:s.data.toList with
        | nil=>exact absurd (by rw [← ft s,es];rfl) hm.1
        | cons c r =>
          have hc:c=45:=by
            have:=hm.2
            rw [iw,es] at this
            apply UInt8.toNat_inj.1
            simp at this
            show c.toNat=45
            omega
          rw [kg,cz,cZ,es,hc]
          conv=>lhs;rw [← ft s,es,hc]
          simp
  · by_cases h1:cI s<0
    · rw [dp,if_neg hm,if_pos h1] at h;cases h
    · have e:dp s=(cI s,true):=by rw [dp,if_neg hm,if_neg h1]
      rcases iz s with ⟨e1,_⟩ | ⟨n,hn,e2,e1⟩
      · omega
      · rw [e]
        simp only []
        rw [e1]
        exact ⟨e2,by omega,by omega⟩

def eq3:List UInt8:=[32,61,32]

theorem At {a b:List UInt8} (h:(32:UInt8) ∉ a):Lib.cut (a++(eq3++b)) eq3=(a,b,true):=by
  have hi:Lib.index (a++(eq3++b)) eq3=(a.length:Int):=by
    refine Lib.index_first (by simp) ?_ (fun j hj=>?_)
    · rw [Lib.occAt,List.drop_left]
      simp [eq3,List.isPrefixOf]
    · rw [Lib.occAt,List.drop_append_of_le_length (by omega),List.drop_eq_getElem_cons hj,List.cons_append]
      have hne:a[j]≠32:=fun e=>h (by rw [← e];exact List.getElem_mem hj)
      have:((32:UInt8) == a[j])=false:=by simpa using fun e=>hne e.symm
      simp only [eq3,List.isPrefixOf,this,Bool.false_and]
  rw [Lib.cut,hi,if_pos (by omega),Int.toNat_natCast,List.take_left]
  congr 2
  rw [← List.drop_drop,List.drop_left,List.drop_left]

theorem mu {l sep:List UInt8} (h:(Lib.cut l sep).2.2=true):l=(Lib.cut l sep).1++(sep++(Lib.cut l sep).2.1):=by
  rw [Lib.cut] at *
  by_cases h0:0≤Lib.index l sep
  · rw [if_pos h0]
    simp only []
    rcases Lib.index_spec l sep with ⟨e,_⟩ | ⟨i,e,hi,ho,_⟩
    · omega
    · rw [e,Int.toNat_natCast]
      rw [Lib.occAt,List.isPrefixOf_iff_prefix] at ho
      obtain ⟨t,ht⟩:=ho
      have e2:l.drop (i+sep.length)=t:=by rw [← List.drop_drop,← ht,List.drop_left]
      rw [e2,ht,List.take_append_drop]
  · rw [if_neg h0] at h;cases h

theorem pN {l:List UInt8} (h:(Lib.cut l eq3).2.2=false):Lib.cut l eq3=(l,[],false):=by
  rw [Lib.cut] at *
  split at h
  · cases h
  · rename_i h0;rw [if_neg h0]

abbrev dX:=ByteArray×Bool×Int

def dx (w:ByteArray):Option dX:=if (Lib.cut w.data.toList eq3).2.2 then (if (cJ (bl (Lib.cut w.data.toList eq3).2.1)).2 then some (bl (Lib.cut w.data.toList eq3).1,false,(cJ (bl (Lib.cut w.data.toList eq3).2.1)).1) else none) else some (bl (Lib.cut w.data.toList eq3).1,true,0)

def bD (w:ByteArray):Option dX:=if (aG w 32).length=1 then some (w,true,0) else if (aG w 32).length=3∧gt (aG w 32) 1=bl [61] then (if (dp (gt (aG w 32) 2)).2 then some (gt (aG w 32) 0,false,(dp (gt (aG w 32) 2)).1) else none) else none

def tV (x:dX):Prop:=fe x.1 ∧ -1000≤x.2.2∧x.2.2≤4095

theorem nC (c:UInt8):∀ l:List UInt8,Lib.join (aR c l) [c]=l
  | []=>by rw [aR,Lib.join_one]
  | x::r=>by
    have ih:=nC c r
    have two:∀ (p:List UInt8) (q:List UInt8) (t:List (List UInt8)),Lib.join (p::q::t) [c]=p++c::Lib.join (q::t) [c]:=fun p q t=>by
      rw [Lib.join_cons,Lib.join_cons,Lib.joinTail,Lib.joinTail];simp
    by_cases h:x=c
    · subst h
      rw [jK]
      cases e:aR x r with
      | nil=>exact absurd e (eo _ _)
      | cons p ps=>rw [two,← e,ih];rfl
    · rw [je h]
      cases e:aR c r with
      | nil=>exact absurd e (eo _ _)
      | cons p ps =>
        rw [e] at ih
        cases ps with
        | nil =>
          rw [Lib.join_one] at ih
          rw [ih]
          exact Lib.join_one _ _
        | cons q t =>
          rw [two] at ih
          show Lib.join ((x::p)::q::t) [c]=_
          rw [two,List.cons_append,ih]

theorem nU (c:UInt8):∀ l:List UInt8,∀ p∈aR c l,c ∉ p
  | [],p,hp=>by simp [aR] at hp;subst hp;simp
  | x::r,p,hp=>by
    by_cases h:x=c
    · subst h
      rw [jK] at hp
      rcases List.mem_cons.1 hp with rfl | hp
      · simp
      · exact nU x r p hp
    · rw [je h] at hp
      cases e:aR c r with
      | nil=>exact absurd e (eo _ _)
      | cons q t =>
        have ih:=nU c r
        rw [e] at hp ih
        rcases List.mem_cons.1 hp with rfl | hp
        · intro hm
          rcases List.mem_cons.1 hm with hm | hm
          · exact h hm.symm
          · exact ih q (by simp) hm
        · exact ih p (by simp [hp])

theorem zj {w:ByteArray} {c:UInt8} (h:(aG w c).length=1):c ∉ w.data.toList:=by
  rw [aG,List.length_map] at h
  have e:=nC c w.data.toList
  have hn:=nU c w.data.toList
  cases hs:aR c w.data.toList with
  | nil=>rw [hs] at h;cases h
  | cons p t =>
    rw [hs] at h e hn
    have:t=[]:=List.eq_nil_of_length_eq_zero (by rw [List.length_cons] at h;omega)
    subst this
    rw [Lib.join_one] at e
    rw [← e];exact hn p (by simp)

theorem xn {w:ByteArray} {c:UInt8} (h:(aG w c).length=3):∃ p q r,aG w c=[bl p,bl q,bl r]∧w.data.toList=p++c::(q++c::r)∧c ∉ p∧c ∉ q∧c ∉ r:=by
  rw [aG,List.length_map] at h
  have e:=nC c w.data.toList
  have hn:=nU c w.data.toList
  rw [aG]
  match hs:aR c w.data.toList,h with
  | [p,q,r],_ =>
    rw [hs] at e hn
    refine ⟨p,q,r,rfl,?_,hn p (by simp),hn q (by simp),hn r (by simp)⟩
    rw [← e]
    rw [Lib.join_cons,Lib.joinTail];simp

theorem Aq {w:ByteArray} {x:dX} (hx:bD w=some x) (hg:tV x):dx w=some x:=by
  rw [bD] at hx
  by_cases h1:(aG w 32).length=1
  · rw [if_pos h1] at hx
    cases hx
    have hn:=zj h1
    have hc:(Lib.cut w.data.toList eq3).2.2=false:=by
      cases hc:(Lib.cut w.data.toList eq3).2.2 with
      | false=>rfl
      | true =>
        exfalso
        have:=mu hc
        apply hn
        rw [this];simp [eq3]
    have e:=pN hc
    rw [dx,e]
    simp only [Bool.false_eq_true,if_false]
    rw [ft]
  · rw [if_neg h1] at hx
    by_cases h3:(aG w 32).length=3∧gt (aG w 32) 1=bl [61]
    · rw [if_pos h3] at hx
      obtain ⟨p,q,r,ew,el,np,nq,nr⟩:=xn h3.1
      have g0:gt (aG w 32) 0=bl p:=by rw [ew];rfl
      have g1:gt (aG w 32) 1=bl q:=by rw [ew];rfl
      have g2:gt (aG w 32) 2=bl r:=by rw [ew];rfl
      have hq:q=[61]:=by have:=h3.2;rw [g1,rS] at this;exact this
      rw [g0,g2] at hx
      cases hs:(dp (bl r)).2 with
      | false=>rw [hs] at hx;cases hx
      | true =>
        rw [hs] at hx
        simp only [if_true,Option.some.injEq] at hx
        subst hx
        obtain ⟨e1,e2,e3⟩:=tU hs
        have hl:w.data.toList=p++(eq3++r):=by rw [el,hq];simp [eq3]
        have hd:cJ (bl r)=((dp (bl r)).1,true):=by
          have:=kP (n:=(dp (bl r)).1) ⟨by omega,by omega⟩
          rwa [← e1] at this
        rw [dx,hl,At np]
        simp only [if_true]
        rw [hd]
        simp
    · rw [if_neg h3] at hx;cases hx

theorem Ax {w:ByteArray} {x:dX} (hx:dx w=some x) (hg:tV x):bD w=some x:=by
  rw [dx] at hx
  cases hc:(Lib.cut w.data.toList eq3).2.2 with
  | false =>
    rw [pN hc] at hx
    simp only [Bool.false_eq_true,if_false,Option.some.injEq] at hx
    rw [ft] at hx
    subst hx
    have hn:=wh hg.1 (c:=32) (.inl (by decide))
    rw [bD,sN hn,if_pos (by rfl)]
  | true =>
    rw [hc] at hx
    simp only [if_true] at hx
    have hl:=mu hc
    cases hd:(cJ (bl (Lib.cut w.data.toList eq3).2.1)).2 with
    | false=>rw [hd] at hx;cases hx
    | true =>
      rw [hd] at hx
      simp only [if_true,Option.some.injEq] at hx
      generalize (Lib.cut w.data.toList eq3).1=p at hl hx
      generalize (Lib.cut w.data.toList eq3).2.1=r at hl hx hd
      obtain ⟨e1,e2⟩:=pY hd
      subst hx
      have hr:=hg.2
      simp only at hr
      have np:(32:UInt8) ∉ p:=by
        have:=wh hg.1 (c:=32) (.inl (by decide))
        rwa [cz] at this
      have nr:(32:UInt8) ∉ r:=by
        intro hm
        have hm':(32:UInt8)∈(bl r).data.toList:=by rw [cz];exact hm
        rw [e1,bI,cz,Lib.itoa] at hm'
        split at hm'
        · rcases List.mem_cons.1 hm' with h | h
          · cases h
          · have:=decDigits_digit _ _ h;have e32:(32:UInt8).toNat=32:=rfl;omega
        · have:=decDigits_digit _ _ hm';have e32:(32:UInt8).toNat=32:=rfl;omega
      have ew:aG w 32=[bl p,bl [61],bl r]:=by
        have e3:w.data.toList=p++32::([61]++32::r):=by rw [hl];simp [eq3]
        rw [aG,e3,jg,jg,iu 32 p np,iu 32 r nr,iu 32 [61] (by decide)]
        rfl
      have hs:dp (bl r)=((cJ (bl r)).1,true):=by
        have:=ui (v:=(cJ (bl r)).1) ⟨by omega,by omega⟩
        rwa [← e1] at this
      have g0:gt [bl p,bl [61],bl r] 0=bl p:=rfl
      have g1:gt [bl p,bl [61],bl r] 1=bl [61]:=rfl
      have g2:gt [bl p,bl [61],bl r] 2=bl r:=rfl
      rw [bD,ew,if_neg (by simp),g0,g1,g2,if_pos ⟨by simp,rfl⟩,hs]
      simp

def dQ (f:ByteArray→Option dX):List ByteArray→Option (List dX)
  | []=>some []
  | w::r=>match f w with
    | none=>none
    | some x=>(dQ f r).map (x::·)

theorem kw {f:ByteArray→Option dX}:∀ {l:List ByteArray} {r:List dX},dQ f l=some r→r.length=l.length∧(∀ x∈r,∃ w∈l,f w=some x)∧∀ w∈l,∃ x∈r,f w=some x
  | [],r,h=>by simp only [dQ] at h;cases h;simp
  | w::l,r,h=>by
    simp only [dQ] at h
    cases e:f w with
    | none=>rw [e] at h;cases h
    | some x =>
      rw [e] at h
      cases e2:dQ f l with
      | none=>rw [e2] at h;cases h
      | some t =>
        rw [e2] at h
        simp only [Option.map_some,Option.some.injEq] at h
        subst h
        obtain ⟨h1,h2,h3⟩:=kw e2
        refine ⟨by simp [h1],fun y hy=>?_,fun y hy=>?_⟩
        · rcases List.mem_cons.1 hy with rfl | hy
          · exact ⟨w,by simp,e⟩
          · obtain ⟨v,hv,ev⟩:=h2 y hy;exact ⟨v,by simp [hv],ev⟩
        · rcases List.mem_cons.1 hy with rfl | hy
          · exact ⟨x,by simp,e⟩
          · obtain ⟨v,hv,ev⟩:=h3 y hy;exact ⟨v,by simp [hv],ev⟩

theorem xW (T:List ByteArray):dQ dx T=dQ bD T∨((∀ r,dQ dx T=some r→∃ x∈r,¬ tV x)∧(∀ r,dQ bD T=some r→∃ x∈r,¬ tV x)):=by
  classical
  by_cases h:∀ w∈T,dx w=bD w
  · left
    induction T with
    | nil=>rfl
    | cons w r ih =>
      simp only [dQ]
      rw [h w (by simp),ih (fun v hv=>h v (by simp [hv]))]
  · right
    obtain ⟨w,hw⟩:=Classical.not_forall.1 h
    obtain ⟨hw,hne⟩:=Classical.not_imp.1 hw
    refine ⟨fun r hr=>?_,fun r hr=>?_⟩
    · obtain ⟨x,hx,ex⟩:=(kw hr).2.2 w hw
      exact ⟨x,hx,fun hg=>hne (by rw [ex,Ax ex hg])⟩
    · obtain ⟨x,hx,ex⟩:=(kw hr).2.2 w hw
      exact ⟨x,hx,fun hg=>hne (by rw [ex,Aq ex hg])⟩

theorem tW (l:List UInt8):(Lib.hasSuffix l [10]=true→l=Lib.trimSuffix l [10]++[10])∧(Lib.hasSuffix l [10]=false→(10:UInt8) ∉ l∨∃ a b,l=a++10::b∧(10:UInt8) ∉ b∧b≠[]):=by
  constructor
  · intro h
    have h2:=h
    rw [Lib.hasSuffix,List.isSuffixOf_iff_suffix] at h2
    obtain ⟨t,ht⟩:=h2
    have e:Lib.trimSuffix l [10]=t:=by
      rw [Lib.trimSuffix,if_pos h,← ht]
      simp
    rw [e,ht]
  · intro h
    have key:∀ m:List UInt8,(10:UInt8) ∉ m∨∃ a b,m=a++10::b∧(10:UInt8) ∉ b:=by
      intro m
      induction m with
      | nil=>left;simp
      | cons x r ih =>
        rcases ih with ih | ⟨a,b,e,hb⟩
        · by_cases hx:x=10
          · right;exact ⟨[],r,by rw [hx];rfl,ih⟩
          · left;intro hm
            rcases List.mem_cons.1 hm with hm | hm
            · exact hx hm.symm
            · exact ih hm
        · right;exact ⟨x::a,b,by rw [e];rfl,hb⟩
    rcases key l with h' | ⟨a,b,e,hb⟩
    · exact .inl h'
    · right
      refine ⟨a,b,e,hb,fun hn=>?_⟩
      subst hn
      have:Lib.hasSuffix l [10]=true:=by rw [Lib.hasSuffix,List.isSuffixOf_iff_suffix,e];exact ⟨a,rfl⟩
      rw [h] at this;cases this

def aF (s:ByteArray):List ByteArray:=aG (bl (Lib.trimSuffix s.data.toList [10])) 10

def kO (s:ByteArray):Bool:=Lib.hasSuffix s.data.toList [10]

theorem xV {s:ByteArray} (h:kO s=true):aG s 10=aF s++[ByteArray.empty]:=by
  have e:=(tW s.data.toList).1 h
  rw [aF,aG,aG,cz]
  conv=>lhs;rw [e]
  rw [jg,List.map_append]
  rfl

theorem yU {s:ByteArray} (h:kO s=false):(aG s 10).length=1∨∃ a b,aG s 10=a++[b]∧a≠[]∧b≠ByteArray.empty:=by
  rcases (tW s.data.toList).2 h with h1 | ⟨a,b,e,hb,hne⟩
  · left;rw [sN h1];rfl
  · right
    refine ⟨(aR 10 a).map bl,bl b,?_,by simpa using eo 10 a,by rw [empty_bl,Ne,rS];exact hne⟩
    rw [aG,e,jg,iu 10 b hb,List.map_append];rfl

theorem pz (s:ByteArray):aF s≠[]:=by rw [aF,aG];simpa using eo _ _

theorem ur (s:ByteArray):(bl (Lib.trimSuffix s.data.toList [10])).size≤s.size:=by
  rw [fm,cZ,Lib.trimSuffix]
  split
  · rw [List.length_take];omega
  · omega

theorem mN (s:ByteArray):(aF s).length≤s.size+1∧∀ w∈aF s,w.size≤s.size:=by
  have h1:=ur s
  have h2:=gr (bl (Lib.trimSuffix s.data.toList [10])) 10
  have h3:=gF (bl (Lib.trimSuffix s.data.toList [10])) 10
  exact ⟨by rw [aF];omega,fun w hw=>by have:=h3 w hw;omega⟩

def aX (f:ByteArray→Option dX) (s:ByteArray):ByteArray×List dX×Bool :=
  if kO s then (match dQ f (aF s).tail with
    | none=>(ByteArray.empty,[],false)
    | some r=>(gt (aF s) 0,r,true)) else (ByteArray.empty,[],false)

theorem uy {f:ByteArray→Option dX} {w:ByteArray} {r:List ByteArray}:dQ f (w::r)=match f w with | none=>none | some x=>(dQ f r).map (x::·):=rfl

theorem oh (L:List ByteArray) (hL:L.length≤1000000000) (hne:L≠[]) (hw:∀ w∈L,w.size≤1000000000):∀ (k i n:Nat) (acc:List dX),i+k=L.tail.length→k<n→acc.length=i →
    bF L n acc (i:Int)=some (match dQ dx (L.tail.drop i) with | none=>.inl () | some r=>.inr (acc++r))
  | 0,i,n,acc,hik,hn,ha=>by
    obtain ⟨n,rfl⟩:∃ m,n=m+1:=⟨n - 1,by omega⟩
    have ht:=List.length_tail (l:=L)
    rw [bF,ck,decide_eq_false (by simp only [Int.toNat_natCast];have e1:(1:Int).toNat=1:=rfl;omega),cond_false,List.drop_of_length_le (by omega)]
    simp [dQ]
  | k+1,i,n,acc,hik,hn,ha=>by
    obtain ⟨n,rfl⟩:∃ m,n=m+1:=⟨n - 1,by omega⟩
    have ht:=List.length_tail (l:=L)
    have e1:(1:Int).toNat=1:=rfl
    have hi:i<L.tail.length:=by omega
    have hi':i+1<L.length:=by omega
    have hd:L.tail.drop i=L[i+1]::L.tail.drop (i+1):=by
      rw [List.drop_eq_getElem_cons hi,List.getElem_tail]
    have hws:=hw _ (List.getElem_mem hi')
    have hg:gt L (((1:Int).toNat+(i:Int).toNat:Nat):Int)=L[i+1]:=by
      rw [e1,Int.toNat_natCast,Nat.add_comm 1 i];exact bV hi'
    have ih:∀ acc':List dX,acc'.length=i+1→_:=fun acc' h=>oh L hL hne hw k (i+1) n acc' (by omega) (by omega) h
    rw [bF,ck,decide_eq_true (by rw [Int.toNat_natCast,e1];omega),cond_true,ar (by rw [Int.toNat_natCast,Int.toNat_natCast,e1];omega),hg,ju,ar (by omega),af,hd,uy]
    have e3:(ByteArray.mk #[32,61,32]).data.toList=eq3:=rfl
    rw [e3,cc (i:=i) (by omega),dx]
    generalize hc:Lib.cut L[i+1].data.toList eq3=c at *
    obtain ⟨p,q,b⟩:=c
    have hq:q.length≤1000000000:=by
      have:q.length≤L[i+1].data.toList.length:=by
        cases hb:b with
        | true =>
          have h0:(Lib.cut L[i+1].data.toList eq3).2.2=true:=by rw [hc];exact hb
          have:=congrArg List.length (mu h0)
          rw [hc] at this
          simp only [List.length_append] at this
          omega
        | false =>
          have h0:(Lib.cut L[i+1].data.toList eq3).2.2=false:=by rw [hc];exact hb
          have:=pN h0
          rw [hc] at this
          simp only [Prod.mk.injEq] at this
          rw [this.2.1];simp
      rw [← cZ] at this
      omega
    simp only []
    cases b with
    | false =>
      rw [cond_false,ar (by rw [List.length_singleton];omega),ih _ (by rw [List.length_append,List.length_singleton];omega)]
      simp only [Bool.false_eq_true,if_false,Bool.not_false]
      cases dQ dx (L.tail.drop (i+1)) with
      | none=>rfl
      | some r=>simp only [Option.map_some,List.append_assoc,List.singleton_append];rfl
    | true =>
      rw [cond_true,show (⟨q.toArray⟩:ByteArray)=bl q from rfl,ma (by rw [fm];exact hq),af]
      simp only [if_true]
      cases hd2:(cJ (bl q)).2 with
      | false=>rw [Bool.not_false,cond_true];rfl
      | true =>
        rw [Bool.not_true,cond_false,ar (by rw [List.length_singleton];omega),ih _ (by rw [List.length_append,List.length_singleton];omega)]
        simp only [if_true,Bool.not_true]
        cases dQ dx (L.tail.drop (i+1)) with
        | none=>rfl
        | some r=>simp only [Option.map_some,List.append_assoc,List.singleton_append];rfl

theorem tv {s:ByteArray} (hs:s.size≤100000000):gi s=some (if (aF s).length≤13 then aX dx s else (ByteArray.empty,[],false)):=by
  obtain ⟨hl,hz⟩:=mN s
  have hne:=pz s
  have hlen:0<(aF s).length:=List.length_pos_iff.2 hne
  have e10:(ByteArray.mk #[10]).data.toList=[10]:=rfl
  have es:df (bl (Lib.trimSuffix s.data.toList [10])) (bl [10])=some (aF s):=by
    have:=ur s
    exact lc (by omega)
  rw [gi,go,ar (by omega),af,e10]
  show bd (df (bl (Lib.trimSuffix s.data.toList [10])) (bl [10])) _=_
  rw [es,af,aX]
  show (bif (!kO s) then _ else _)=_
  cases he:kO s with
  | false =>
    rw [Bool.not_false,cond_true]
    simp
  | true =>
    rw [Bool.not_true,cond_false]
    by_cases h13:13<((aF s).length:Int)
    · rw [aj h13,if_neg (by omega)]
    · have el:=oh (aF s) (by omega) hne (fun w hw=>by have:=hz w hw;omega) (aF s).tail.length 0 FU [] (by omega) (by rw [FU_eq,List.length_tail];omega) rfl
      have el':bF (aF s) FU [] 0=some (match dQ dx (aF s).tail with | none=>.inl () | some r=>.inr ([]++r)):=el
      rw [ai h13,if_pos (by omega),ar (by omega)]
      show bd (bF (aF s) FU [] 0) _=_
      rw [el',af]
      simp only [if_true]
      cases dQ dx (aF s).tail with
      | none=>rfl
      | some r =>
        simp only [sm,List.nil_append]
        rw [ar (by omega)]

theorem tM {w:ByteArray} (hw:w.size≤100000000):∃ x,fU w=some x∧(bD w=if x.2.2.2 then some (x.1,x.2.1,x.2.2.1) else none):=by
  have es:cm w 32=some (aG w 32):=kb (s:=w) (c:=32) (by omega)
  have hz:=gF w 32
  rw [fU,es,af,bD]
  by_cases h1:(aG w 32).length=1
  · rw [aj (by omega),if_pos h1];exact ⟨_,rfl,rfl⟩
  · rw [ai (by omega),if_neg h1]
    by_cases h3:(aG w 32).length=3
    · have m2:gt (aG w 32) 2∈aG w 32:=fH (by omega)
      rw [decide_eq_true (by omega),Bool.not_true,cond_false,ar (by omega),show (ByteArray.mk #[61])=bl [61] from rfl]
      by_cases h4:gt (aG w 32) 1=bl [61]
      · rw [decide_eq_true h4,Bool.not_true,cond_false,ar (by omega),ml (by have:=hz _ m2;omega),af,ar (by omega),if_pos ⟨h3,h4⟩]
        exact ⟨_,rfl,rfl⟩
      · rw [decide_eq_false h4,Bool.not_false,cond_true,if_neg (fun h=>h4 h.2)]
        exact ⟨_,rfl,rfl⟩
    · rw [decide_eq_false (by omega),Bool.not_false,cond_true,if_neg (fun h=>h3 h.1)]
      exact ⟨_,rfl,rfl⟩

theorem od (L:List ByteArray) (e:ByteArray) (hL:L.length≤1000000000) (hne:L≠[]) (hw:∀ w∈L,w.size≤100000000):∀ (k i n:Nat) (acc:List dX),i+k=L.tail.length→k<n→acc.length=i →
    bL (L++[e]) n acc ((i+1:Nat):Int)=some (match dQ bD (L.tail.drop i) with | none=>.inl () | some r=>.inr (acc++r))
  | 0,i,n,acc,hik,hn,ha=>by
    obtain ⟨n,rfl⟩:∃ m,n=m+1:=⟨n - 1,by omega⟩
    have ht:=List.length_tail (l:=L)
    have hp:0<L.length:=List.length_pos_iff.2 hne
    have hl:(L++[e]).length=L.length+1:=by simp
    rw [bL,cc (i:=i+1) (by omega),ai (by rw [hl];omega),List.drop_of_length_le (by omega)]
    simp [dQ]
  | k+1,i,n,acc,hik,hn,ha=>by
    obtain ⟨n,rfl⟩:∃ m,n=m+1:=⟨n - 1,by omega⟩
    have ht:=List.length_tail (l:=L)
    have hl:(L++[e]).length=L.length+1:=by simp
    have hi:i<L.tail.length:=by omega
    have hi':i+1<L.length:=by omega
    have hd:L.tail.drop i=L[i+1]::L.tail.drop (i+1):=by
      rw [List.drop_eq_getElem_cons hi,List.getElem_tail]
    have hg:gt (L++[e]) ((i+1:Nat):Int)=L[i+1]:=by
      rw [bV (by rw [hl];omega),List.getElem_append_left hi']
    obtain ⟨x,ex,hx⟩:=tM (hw _ (List.getElem_mem hi'))
    rw [bL,cc (i:=i+1) (by omega),aj (by rw [hl];omega),ar (by rw [hl];omega),hg,ex,af,hd,uy,hx]
    cases hb:x.2.2.2 with
    | false=>rw [Bool.not_false,cond_true];rfl
    | true =>
      rw [Bool.not_true,cond_false,ar (by rw [List.length_singleton];omega),od L e hL hne hw k (i+1) n _ (by omega) (by omega) (by rw [List.length_append,List.length_singleton];omega)]
      simp only [if_true]
      cases dQ bD (L.tail.drop (i+1)) with
      | none=>rfl
      | some r=>simp only [Option.map_some,List.append_assoc,List.singleton_append]

theorem sP {s:ByteArray} (hs:s.size≤100000000):fF s=some (aX bD s):=by
  obtain ⟨hl,hz⟩:=mN s
  have hne:=pz s
  have hlen:0<(aF s).length:=List.length_pos_iff.2 hne
  have hwl:=gr s 10
  have es:cm s 10=some (aG s 10):=kb (s:=s) (c:=10) (by omega)
  rw [fF,es,af,aX]
  cases he:kO s with
  | true =>
    have hw:(aF s++[ByteArray.empty]).length=(aF s).length+1:=by simp
    have hg:gt (aF s++[ByteArray.empty]) (((aF s).length:Nat):Int)=ByteArray.empty:=by
      rw [bV (by rw [hw];omega)];simp
    have ew:IntKind.wrap .i64 (((aF s++[ByteArray.empty]).length:Int) - 1)=(((aF s).length:Nat):Int):=by
      rw [hw,w64 (by omega) (by omega)];omega
    have el:=od (aF s) ByteArray.empty (by omega) hne (fun w hw=>by have:=hz w hw;omega) (aF s).tail.length 0 FU [] (by omega) (by rw [FU_eq,List.length_tail];omega) rfl
    have el':bL (aF s++[ByteArray.empty]) FU [] 1=some (match dQ bD (aF s).tail with | none=>.inl () | some r=>.inr ([]++r)):=el
    have g0:gt (aF s++[ByteArray.empty]) (0:Int)=gt (aF s) (0:Int):=by
      have a1:=bV (l:=aF s++[ByteArray.empty]) (i:=0) (by rw [hw];omega)
      have a2:=bV (l:=aF s) (i:=0) hlen
      rw [List.getElem_append_left hlen] at a1
      exact a1.trans a2.symm
    rw [xV he,ai (by rw [hw];omega),ew,ar (by rw [hw];omega),ck,hg,decide_eq_true rfl,Bool.not_true,cond_false]
    show bd (bL (aF s++[ByteArray.empty]) FU [] 1) _=_
    rw [el',af]
    simp only [if_true]
    cases dQ bD (aF s).tail with
    | none=>rfl
    | some r =>
      simp only [sm,List.nil_append]
      rw [ar (by rw [hw];omega),g0]
  | false =>
    rcases yU he with h1 | ⟨a,b,e,ha,hb⟩
    · rw [aj (by omega)];simp
    · have hw:(a++[b]).length=a.length+1:=by simp
      have hp:0<a.length:=List.length_pos_iff.2 ha
      have hle:a.length≤s.size+1:=by rw [e,hw] at hwl;omega
      have hg:gt (a++[b]) ((a.length:Nat):Int)=b:=by
        rw [bV (by rw [hw];omega)];simp
      have ew:IntKind.wrap .i64 (((a++[b]).length:Int) - 1)=((a.length:Nat):Int):=by
        rw [hw,w64 (by omega) (by omega)];omega
      rw [e,ai (by rw [hw];omega),ew,ar (by rw [hw];omega),ck,hg,decide_eq_false hb,Bool.not_false,cond_true]
      simp

theorem vT {f:ByteArray→Option dX} (hf:∀ w x,w.size≤100000000→f w=some x→x.1.size≤100000000∧I64 x.2.2) {s:ByteArray} (hs:s.size≤100000000):jO (aX f s).2.1:=by
  rw [aX]
  split
  · obtain ⟨hl,hz⟩:=mN s
    split
    · exact ⟨by simp,by simp,by simp⟩
    · rename_i r hr
      obtain ⟨h1,h2,_⟩:=kw hr
      have ht:=List.length_tail (l:=aF s)
      refine ⟨by simp only;omega,fun x hx=>?_,fun x hx=>?_⟩
      · obtain ⟨w,hw,e⟩:=h2 x hx
        have:=(hf w x (by have:=hz w (List.mem_of_mem_tail hw);omega) e).1
        omega
      · obtain ⟨w,hw,e⟩:=h2 x hx
        exact (hf w x (by have:=hz w (List.mem_of_mem_tail hw);omega) e).2
  · exact ⟨by simp,by simp,by simp⟩

theorem zy (w:ByteArray) (x:dX) (hw:w.size≤100000000) (h:bD w=some x):x.1.size≤100000000∧I64 x.2.2:=by
  rw [bD] at h
  split at h
  · cases h;exact ⟨hw,by simp only;omega,by simp only;omega⟩
  · split at h
    · rename_i h3
      split at h
      · rename_i h4
        cases h
        have m0:gt (aG w 32) 0∈aG w 32:=fH (by omega)
        have:=gF w 32 _ m0
        obtain ⟨_,h5,h6⟩:=tU h4
        exact ⟨by simp only;omega,by simp only;omega,by simp only;omega⟩
      · cases h
    · cases h

theorem zR (w:ByteArray) (x:dX) (hw:w.size≤100000000) (h:dx w=some x):x.1.size≤100000000∧I64 x.2.2:=by
  have hp:(bl (Lib.cut w.data.toList eq3).1).size≤100000000:=by
    rw [fm]
    cases hb:(Lib.cut w.data.toList eq3).2.2 with
    | true =>
      have:=congrArg List.length (mu hb)
      rw [← cZ,List.length_append] at this
      omega
    | false=>rw [pN hb];simp only;rw [← cZ];exact hw
  rw [dx] at h
  split at h
  · split at h
    · rename_i h4
      cases h
      exact ⟨hp,(pY h4).2⟩
    · cases h
  · cases h
    exact ⟨hp,by simp only;omega,by simp only;omega⟩

theorem zX {R:Type} (bld:List dX→R) (bad:R) (hb:∀ r,(∃ x∈r,¬ tV x)→bld r=bad) (hlong:∀ r:List dX,12<r.length→bld r=bad) (hdr:ByteArray→Prop) [∀ w,Decidable (hdr w)] (s:ByteArray) :
    (if (if (aF s).length≤13 then aX dx s else (ByteArray.empty,[],false)).2.2=true∧hdr (if (aF s).length≤13 then aX dx s else (ByteArray.empty,[],false)).1 then bld (if (aF s).length≤13 then aX dx s else (ByteArray.empty,[],false)).2.1 else bad) =
    (if (aX bD s).2.2=true∧hdr (aX bD s).1 then bld (aX bD s).2.1 else bad):=by
  by_cases he:kO s=true
  · have ht:=List.length_tail (l:=aF s)
    have es:aX bD s=match dQ bD (aF s).tail with | none=>(ByteArray.empty,[],false) | some r=>(gt (aF s) 0,r,true):=by rw [aX,if_pos he]
    have ei:aX dx s=match dQ dx (aF s).tail with | none=>(ByteArray.empty,[],false) | some r=>(gt (aF s) 0,r,true):=by rw [aX,if_pos he]
    have spec_bad:(∀ r,dQ bD (aF s).tail=some r→bld r=bad)→(if (aX bD s).2.2=true∧hdr (aX bD s).1 then bld (aX bD s).2.1 else bad)=bad:=fun h=>by
      rw [es]
      cases hr:dQ bD (aF s).tail with
      | none=>simp
      | some r=>simp only [];rw [h r hr];simp
    by_cases h13:(aF s).length≤13
    · simp only [if_pos h13]
      rcases xW (aF s).tail with h | ⟨h1,h2⟩
      · rw [ei,es,h]
      · rw [spec_bad (fun r hr=>hb r (h2 r hr)),ei]
        cases hr:dQ dx (aF s).tail with
        | none=>simp
        | some r=>simp only [];rw [hb r (h1 r hr)];simp
    · simp only [if_neg h13]
      rw [spec_bad (fun r hr=>hlong r (by have:=(kw hr).1;omega))]
      simp
  · have e1:∀ f,aX f s=(ByteArray.empty,[],false):=fun f=>by rw [aX,if_neg he]
    rw [e1,e1]
    simp

def flagSp:ByteArray:=ByteArray.mk #[102,108,97,103,32]

def eB (h:ByteArray):Int:=ix (fun w=>decide (h=flagSp++w)) boundWords

theorem words_small:∀ w∈boundWords,w.size≤6:=by
  intro w hw
  simp only [boundWords,List.mem_cons,List.not_mem_nil,or_false] at hw
  rcases hw with rfl | rfl | rfl | rfl <;> decide

theorem wG (h:ByteArray):fQ h=some (eB h):=by
  have e:=nQ boundWords (da h) (fun w=>decide (h=flagSp++w)) ?_ ?_ FU (by rw [FU_eq];decide)
  · rw [fQ,gJ,af,e,af,eB,ix]
    cases boundWords.findIdx? (fun w=>decide (h=flagSp++w)) <;> rfl
  · intro n
    rw [da,ck,ai (by decide)]
  · intro n i hi
    have e4:boundWords.length=4:=rfl
    have hm:gt boundWords (i:Int)∈boundWords:=fH (by omega)
    have hz:=words_small _ hm
    have hf:(ByteArray.mk #[102,108,97,103,32]).size=5:=rfl
    rw [da,ck,show ([(ByteArray.mk #[115,116,114,105,99,116]),(ByteArray.mk #[102,105,116]),(ByteArray.mk #[101,106,101,99,116]),(ByteArray.mk #[107,101,101,112])]:List ByteArray)=boundWords from rfl,ck,ck,aj (by omega),ar (by omega),ar (by omega),cc (i:=i) (by omega)]
    by_cases h1:h=flagSp++gt boundWords (i:Int)
    · rw [decide_eq_true h1,if_pos rfl]
      rw [aj (show h=(ByteArray.mk #[102,108,97,103,32])++gt boundWords (i:Int) from h1)]
    · rw [decide_eq_false h1,if_neg (by simp)]
      rw [ai (show ¬ h=(ByteArray.mk #[102,108,97,103,32])++gt boundWords (i:Int) from h1)]

theorem xt (w:ByteArray):eJ boundWords w=some (ix (fun v=>decide (w=v)) boundWords):=by
  have e:=nQ boundWords (cA boundWords w) (fun v=>decide (w=v)) ?_ ?_ FU (by rw [FU_eq];decide)
  · rw [eJ,e,af,ix]
    cases boundWords.findIdx? (fun v=>decide (w=v)) <;> rfl
  · intro n
    rw [cA,ai (by omega)]
  · intro n i hi
    have e4:boundWords.length=4:=rfl
    rw [cA,aj (by omega),ar (by omega),cc (i:=i) (by omega)]
    by_cases h1:w=gt boundWords (i:Int)
    · rw [decide_eq_true h1,cond_true,if_pos rfl]
    · rw [decide_eq_false h1,cond_false,if_neg (by simp)]

theorem yC (h:ByteArray):(Lib.hasPrefix h.data.toList flagSp.data.toList=true∧ix (fun v=>decide (bl (Lib.trimPrefix h.data.toList flagSp.data.toList)=v)) boundWords=eB h)∨(Lib.hasPrefix h.data.toList flagSp.data.toList=false∧eB h = -1):=by
  cases hp:Lib.hasPrefix h.data.toList flagSp.data.toList with
  | true =>
    left
    refine ⟨rfl,?_⟩
    have h2:=hp
    rw [Lib.hasPrefix,List.isPrefixOf_iff_prefix] at h2
    obtain ⟨t,ht⟩:=h2
    have e:Lib.trimPrefix h.data.toList flagSp.data.toList=t:=by
      rw [Lib.trimPrefix,if_pos hp,← ht,List.drop_left]
    rw [e,eB]
    congr 1
    funext w
    refine decide_eq_decide.2 ?_
    constructor
    · intro hw
      rw [js,← hw,cz,ht,ft]
    · intro hw
      have h3:h.data.toList=flagSp.data.toList++w.data.toList:=by rw [hw,js,cz]
      rw [h3] at ht
      have:=List.append_cancel_left ht
      rw [this,ft]
  | false =>
    right
    refine ⟨rfl,?_⟩
    rcases kI (fun w=>decide (h=flagSp++w)) boundWords with ⟨e,_⟩ | ⟨i,d,_,_,_,_,_,hd⟩
    · exact e
    · exfalso
      have hd:=of_decide_eq_true hd
      have h3:h.data.toList=flagSp.data.toList++d.data.toList:=by rw [hd,js,cz]
      have:Lib.hasPrefix h.data.toList flagSp.data.toList=true:=by
        rw [Lib.hasPrefix,List.isPrefixOf_iff_prefix,h3];exact ⟨_,rfl⟩
      rw [hp] at this;cases this

theorem oW {f:ByteArray→Option dX} {s:ByteArray} (h:(aX f s).2.2=true):(aX f s).1=gt (aF s) 0:=by
  rw [aX] at *
  split at h
  · rename_i he
    rw [if_pos he]
    cases hm:dQ f (aF s).tail with
    | none=>rw [hm] at h;cases h
    | some r=>rfl
  · cases h

def aK (s:ByteArray):List (ByteArray×Int)×Int×Bool :=
  if (aX bD s).2.2=true∧0≤eB (aX bD s).1 then iQ (aX bD s).2.1 (eB (gt (aF s) 0)) else ([],0,false)

theorem zi {r:List dX} {b:Int} (h:∃ x∈r,¬ tV x):iQ r b=([],0,false):=by
  rw [iQ,if_neg]
  rintro ⟨h1,h2⟩
  obtain ⟨x,hx,hg⟩:=h
  have:=jS.of h1 h2
  obtain ⟨i,hi,rfl⟩:=List.mem_iff_getElem.1 hx
  have h3:=this.1 i hi
  rw [bV hi] at h3
  exact hg ⟨h3.1,by have:=h3.2.2.1.1;omega,h3.2.2.1.2⟩

theorem yo {r:List dX} {b:Int} (h:12<r.length):iQ r b=([],0,false):=by
  rw [iQ,if_neg]
  rintro ⟨h1,h2⟩
  have:=h2.len
  rw [cO] at this
  simp at this;omega

theorem tc {s:ByteArray} (hs:s.size≤100000000):gj s=some (aK s):=by
  rw [gj,sP hs,af,aK]
  have hin:=vT zy hs
  cases h1:(aX bD s).2.2 with
  | false=>rw [Bool.not_false,cond_true,if_neg (by simp)]
  | true =>
    have hh:=oW h1
    rw [Bool.not_true,cond_false,wG,af]
    by_cases h2:0≤eB (aX bD s).1
    · rw [ai (by omega),af,tJ hin,af,if_pos ⟨rfl,h2⟩,hh]
    · rw [aj (by omega),if_neg (fun h=>h2 h.2)]

theorem ud {s:ByteArray} (hs:s.size≤100000000):gg s=some (aK s):=by
  have key:=zX (fun r=>iQ r (eB (gt (aF s) 0))) ([],0,false) (fun r h=>zi h) (fun r h=>yo h) (fun w=>0≤eB w) s
  rw [gg,tv hs,af,aK,← key]
  have hin:jO (if (aF s).length≤13 then aX dx s else (ByteArray.empty,[],false)).2.1:=by
    split
    · exact vT zR hs
    · exact ⟨by simp,by simp,by simp⟩
  have hh:(if (aF s).length≤13 then aX dx s else (ByteArray.empty,[],false)).2.2=true→(if (aF s).length≤13 then aX dx s else (ByteArray.empty,[],false)).1=gt (aF s) 0:=by
    split
    · exact oW
    · intro h;cases h
  generalize (if (aF s).length≤13 then aX dx s else (ByteArray.empty,[],false))=q at hin hh
  rw [gk,af]
  show bd (eJ boundWords (bl (Lib.trimPrefix q.1.data.toList flagSp.data.toList))) (fun x4=>bif (!q.2.2) then _ else bif (!Lib.hasPrefix q.1.data.toList flagSp.data.toList) then _ else _)=_
  rw [xt,af]
  cases h1:q.2.2 with
  | false=>rw [Bool.not_false,cond_true,if_neg (by simp)]
  | true =>
    rw [Bool.not_true,cond_false]
    rcases yC q.1 with ⟨e1,e2⟩ | ⟨e1,e2⟩
    · rw [e1,Bool.not_true,cond_false,e2]
      by_cases h2:0≤eB q.1
      · rw [ai (by omega),tr hin,af,if_pos ⟨rfl,h2⟩,hh h1]
      · rw [aj (by omega),if_neg (fun h=>h2 h.2)]
    · rw [e1,Bool.not_false,cond_true,if_neg (fun h=>by have:=h.2;omega)]

def tj (l:List (ByteArray×Int)):Prop:=l.length≤12∧∀ d∈l,fe d.1 ∧ -4096≤d.2∧d.2≤4096

theorem eF.smallD {l:List (ByteArray×Int)} {lo hi:Int} (h:eF l lo hi) (h1 : -4096≤lo) (h2:hi≤4096):tj l :=
  ⟨h.out.2.2,fun d hd=>by have:=h.out.1 d hd;exact ⟨this.1,by omega,by omega⟩⟩

def nlC (l:List UInt8):Nat:=(l.filter fun c=>decide (c=10)).length

theorem ye (a b:List UInt8):nlC (a++b)=nlC a+nlC b:=by rw [nlC,List.filter_append,List.length_append];rfl

theorem pj (c:UInt8):∀ l:List UInt8,(aR c l).length=(l.filter fun x=>decide (x=c)).length+1
  | []=>rfl
  | x::r=>by
    have ih:=pj c r
    by_cases h:x=c
    · rw [aR,if_pos h,List.length_cons,ih,List.filter_cons_of_pos (p:=fun x=>decide (x=c)) (decide_eq_true h),List.length_cons]
    · rw [List.filter_cons_of_neg (p:=fun x=>decide (x=c)) (by simp [h]),← ih,aR,if_neg h]
      cases e:aR c r with
      | nil=>exact absurd e (eo c r)
      | cons p ps=>rfl

theorem zv {s:ByteArray} (h:kO s=true):nlC s.data.toList=(aF s).length:=by
  have e:=(tW s.data.toList).1 h
  rw [aF,aG,cz,List.length_map,pj]
  conv=>lhs;rw [e,ye]
  rfl

theorem yV {s:ByteArray} (h:(aX bD s).2.2=true):kO s=true∧(aX bD s).2.1.length+1=(aF s).length:=by
  cases he:kO s with
  | false=>rw [aX,if_neg (by simp [he])] at h;cases h
  | true =>
    refine ⟨rfl,?_⟩
    cases hm:dQ bD (aF s).tail with
    | none=>rw [aX,if_pos he,hm] at h;cases h
    | some r =>
      have e:aX bD s=(gt (aF s) 0,r,true):=by rw [aX,if_pos he,hm]
      have hl:=(kw hm).1
      have hne:=List.length_pos_iff.2 (pz s)
      rw [List.length_tail] at hl
      rw [e]
      show r.length+1=_
      omega

theorem tj.inn {l:List (ByteArray×Int)} (h:tj l):cq l :=
  ⟨by have:=h.1;omega,fun d hd=>by have:=(h.2 d hd).1.2.2;omega,fun d hd=>by have:=(h.2 d hd).2;exact ⟨by omega,by omega⟩⟩

theorem ng {s:ByteArray} (h:(aK s).2.2=true):bE (aK s).1 (aK s).2.1∧nlC s.data.toList=(aK s).1.length+1∧0≤eB (aX bD s).1:=by
  by_cases h1:(aX bD s).2.2=true∧0≤eB (aX bD s).1
  · have e:aK s=iQ (aX bD s).2.1 (eB (gt (aF s) 0)):=if_pos h1
    rw [e] at h ⊢
    by_cases h2:((aX bD s).2.1.any (fun x=>x.2.1 && !decide (x.2.2=0))=false)∧bE (bu gC (aX bD s).2.1 []) (eB (gt (aF s) 0))
    · have e2:iQ (aX bD s).2.1 (eB (gt (aF s) 0))=(bu gC (aX bD s).2.1 [],eB (gt (aF s) 0),true):=if_pos h2
      obtain ⟨o1,o2⟩:=yV h1.1
      rw [e2]
      refine ⟨h2.2,?_,h1.2⟩
      show _=(bu gC (aX bD s).2.1 []).length+1
      rw [zv o1,cO,← o2]
      simp
    · have e2:iQ (aX bD s).2.1 (eB (gt (aF s) 0))=([],0,false):=if_neg h2
      rw [e2] at h;cases h
  · have e:aK s=([],0,false):=if_neg h1
    rw [e] at h;cases h

theorem qB {k:Nat}:∀ {l:List (ByteArray×Int)},(∀ d∈l,d.2.toNat<2 ^ k)→aM l<2 ^ k
  | [],_=>Nat.two_pow_pos k
  | d::l,h=>by
    rw [nR]
    exact Nat.or_lt_two_pow (h d (by simp)) (qB (fun e he=>h e (by simp [he])))

theorem vR {l:List (ByteArray×Int)} {d:ByteArray×Int} (h:d∈l):d.2.toNat≤aM l :=
  qy (gY.2 fun i hi=>by rw [hJ];exact List.any_eq_true.2 ⟨d,h,hi⟩)

theorem yG (l:List (ByteArray×Int)):aW (aM l)=aW (greatest l 0).toNat:=by
  refine Nat.le_antisymm (iP (qB fun d hd=>?_)) ?_
  · have h1:=qH 0 d hd
    have h2:=jr (greatest l 0).toNat
    have h3:d.2.toNat≤(greatest l 0).toNat:=by omega
    exact Nat.lt_of_le_of_lt h3 h2
  · by_cases h:l=[]
    · subst h;exact Nat.le_refl _
    · obtain ⟨d,hd,e⟩:=kf h 0
      rw [e];exact uA (vR hd)

def mv (f:List (ByteArray×Int)):Nat:=2 ^ aW (aM f) - 1

theorem rj {f:List (ByteArray×Int)} (hv:V12 f):1≤2 ^ aW (aM f)∧2 ^ aW (aM f)≤4096∧aW (aM f)≤12:=by
  have hb:=iP (k:=12) (ea hv)
  exact ⟨Nat.one_le_two_pow,(Nat.pow_le_pow_right (by omega) hb:2 ^ aW (aM f)≤2 ^ 12),hb⟩

theorem ry {f:List (ByteArray×Int)} (hv:V12 f):mv f<4096:=by
  have:=rj hv
  rw [mv];omega

theorem yJ {f:List (ByteArray×Int)} (hv:V12 f) (hl:f.length≤1099511627776) (b:Int):fT f b=some ((mv f:Nat):Int):=by
  have hm:=ea hv
  obtain ⟨h1,h2,hb⟩:=rj hv
  have e:IntKind.wrap .u64 ((aM f:Nat):Int)=((aM f:Nat):Int):=by rw [IntKind.wrap_u64];omega
  have e2:(1:Int)*2 ^ (((aW (aM f):Nat):Int)).toNat=((2 ^ aW (aM f):Nat):Int):=by rw [Int.toNat_natCast];simp
  rw [fT,jL b hv hl,af,e,re (by omega),af,ar ⟨by omega,by simp [IntKind.bits];omega⟩,ck,e2,mv]
  generalize 2 ^ aW (aM f)=q at *
  rw [w64 (a:=(q:Int)) (by omega) (by omega),w64 (by omega) (by omega)]
  congr 1;omega

theorem uB {f:List (ByteArray×Int)} (hv:V12 f) (hl:f.length≤1099511627776):ir f=some ((mv f:Nat):Int):=by
  obtain ⟨h1,h2,hb⟩:=rj hv
  rw [ir,pw hl (fun d hd=>by have:=hv d hd;omega),af,← yG,mv]
  generalize 2 ^ aW (aM f)=q at *
  rw [w64 (by omega) (by omega)]
  congr 1;omega

def hZ (f:List (ByteArray×Int)) (b:Int):Nat:=if b=3 then mv f else aM f

theorem oN {f:List (ByteArray×Int)} (hv:V12 f) (b:Int):hZ f b<4096:=by
  rw [hZ];split
  · exact ry hv
  · exact ea hv

theorem sI {f:List (ByteArray×Int)} (hv:V12 f) (hl:f.length≤1099511627776) (b:Int):ej f b=some ((hZ f b:Nat):Int):=by
  rw [ej,hZ]
  by_cases hb:b=3
  · rw [aj hb,yJ hv hl,af,if_pos hb]
  · rw [ai hb,jL b hv hl,af,if_neg hb]

theorem aQ.whole {f:List (ByteArray×Int)} {b:Int} (hf:bE f b) (x:Nat):aQ f b ((aL (hZ f b) x:Nat):Int):=by
  have h1:=oN hf.v12 b
  have h2:=iI (hZ f b) x
  refine ⟨hf,by omega,?_⟩
  rw [Int.toNat_natCast]
  by_cases hb:b=3
  · exact .inl hb
  · right
    rw [hZ,if_neg hb,gY]
    intro i hi
    rw [dw] at hi
    simp at hi;exact hi.1

def nt (f:List (ByteArray×Int)) (b x:Int):Int:=if aQ f b x then ((aL (hZ f b) x.toNat:Nat):Int) else -1

theorem ri {f:List (ByteArray×Int)} (h:cq f) (b a:Int):dq f b a=some (nt f b a):=by
  rw [dq,dH h,af,nt]
  by_cases hv:aQ f b a
  · have hm:=oN hv.1.v12 b
    have ha:=hv.2.1
    have e:=iL (a:=hZ f b) (b:=a.toNat) (by omega) (by omega)
    rw [aO ha.1] at e
    rw [decide_eq_true hv,Bool.not_true,cond_false,sI hv.1.v12 h.1,af,if_pos hv,e]
  · rw [decide_eq_false hv,Bool.not_false,cond_true,if_neg hv]

theorem rx {f:List (ByteArray×Int)} (h:cq f) (b a:Int):ff f b a=some (nt f b a):=by
  rw [ff,kd h,af,nt]
  by_cases hv:aQ f b a
  · have ha:=hv.2.1
    rw [decide_eq_true hv,Bool.not_true,cond_false,if_pos hv,hZ]
    by_cases hb:b=3
    · have e:=fc (a:=mv f) (b:=a.toNat) (ry hv.1.v12) (by omega)
      rw [aO ha.1] at e
      rw [aj hb,uB hv.1.v12 h.1,af,e,af,if_pos hb]
    · have e:=fc (a:=aM f) (b:=a.toNat) (ea hv.1.v12) (by omega)
      rw [aO ha.1] at e
      rw [ai hb,iJ hv.1.v12 h.1,af,e,af,if_neg hb]
  · rw [decide_eq_false hv,Bool.not_false,cond_true,if_neg hv]

def fI (f:List (ByteArray×Int)) (b n:Int):Int×Int :=
  if n<0 then (((aL (hZ f b) (0 - n - 1).toNat:Nat):Int),0)
  else if aL n.toNat (aM f)=0∨b=3 then (n,0)
  else if b=1 then (((n.toNat&&&aM f:Nat):Int),0)
  else if b=2 then (n,1) else (0,2)

theorem tn {f:List (ByteArray×Int)} (h:cq f) {b n:Int} (hf:bE f b) (hn : -4096≤n∧n≤4095):fV f b n=some (fI f b n):=by
  have hm:=ea hf.v12
  rw [fV,iR h,af,decide_eq_true hf,Bool.not_true,cond_false,kC,af,decide_eq_true hn,Bool.not_true,cond_false,fI]
  by_cases h0:n<0
  · obtain ⟨k,hk⟩:∃ k:Nat,(0:Int) - n - 1=(k:Int):=⟨(0 - n - 1).toNat,by omega⟩
    have hw:=oN hf.v12 b
    rw [aj h0,if_pos h0,sI hf.v12 h.1,af,ck,w64 (a:=0 - n) (by omega) (by omega),w64 (a:=0 - n - 1) (by omega) (by omega),hk,iL (by omega) (by omega),Int.toNat_natCast]
  · have h2:=mf (a:=n) (m:=aM f) ⟨by omega,by omega⟩ hm
    rw [ai h0,if_neg h0,jL b hf.v12 h.1,af]
    by_cases h1:aL n.toNat (aM f)=0
    · rw [aj (h2.2 ⟨by omega,h1⟩),if_pos (.inl h1)]
    · rw [ai (fun h=>h1 (h2.1 h).2)]
      by_cases hb3:b=3
      · rw [aj hb3,if_pos (.inr hb3)]
      · rw [ai hb3,if_neg (by rintro (h | h);exact h1 h;exact hb3 h)]
        by_cases hb1:b=1
        · have e:=vp (a:=n.toNat) (b:=aM f) (by omega) (by omega)
          rw [aO (by omega)] at e
          rw [aj hb1,if_pos hb1,af,e]
        · rw [ai hb1,if_neg hb1]
          by_cases hb2:b=2
          · rw [aj hb2,if_pos hb2]
          · rw [ai hb2,if_neg hb2]

theorem yH {f:List (ByteArray×Int)} (h:cq f) {b n:Int} (hf:bE f b) (hn : -4096≤n∧n≤4095):jt f b n=some (fI f b n):=by
  have hm:=ea hf.v12
  have hb:=hf.2
  rw [jt,fI]
  by_cases h0:n<0
  · obtain ⟨k,hk⟩:∃ k:Nat,(0:Int) - n - 1=(k:Int):=⟨(0 - n - 1).toNat,by omega⟩
    rw [aj h0,if_pos h0,w64 (a:=0 - n) (by omega) (by omega),w64 (a:=0 - n - 1) (by omega) (by omega),hk,Int.toNat_natCast,hZ]
    by_cases hb3:b=3
    · rw [aj hb3,if_pos hb3,uB hf.v12 h.1,af,fc (ry hf.v12) (by omega),af]
    · rw [ai hb3,if_neg hb3,iJ hf.v12 h.1,af,fc hm (by omega),af]
  · have e:=fc (a:=n.toNat) (b:=aM f) (by omega) hm
    rw [aO (by omega)] at e
    rw [ai h0,if_neg h0,iJ hf.v12 h.1,af,e,af]
    by_cases h1:aL n.toNat (aM f)=0
    · rw [aj (by omega),if_pos (.inl h1)]
    · rw [ai (by omega)]
      by_cases hb0:b=0
      · rw [aj hb0,if_neg (by rintro (h | h);exact h1 h;omega),if_neg (by omega),if_neg (by omega)]
      · rw [ai hb0]
        by_cases hb1:b=1
        · have e2:=kX (a:=n.toNat) (b:=aM f) (by omega) hm
          rw [aO (by omega)] at e2
          rw [aj hb1,if_neg (by rintro (h | h);exact h1 h;omega),if_pos hb1,af,e2,af]
        · rw [ai hb1]
          by_cases hb2:b=2
          · rw [aj hb2,if_neg (by rintro (h | h);exact h1 h;omega),if_neg hb1,if_pos hb2]
          · rw [ai hb2,if_pos (.inr (by omega))]

theorem rH {f:List (ByteArray×Int)} {b n:Int} (hf:bE f b) (hn : -4096≤n∧n≤4095):((fI f b n).2=0→aQ f b (fI f b n).1)∧(0≤(fI f b n).1∧(fI f b n).1≤4095):=by
  rw [fI]
  by_cases h0:n<0
  · rw [if_pos h0]
    have h1:=aQ.whole hf (0 - n - 1).toNat
    exact ⟨fun _=>h1,h1.2.1⟩
  · rw [if_neg h0]
    by_cases h1:aL n.toNat (aM f)=0∨b=3
    · rw [if_pos h1]
      exact ⟨fun _=>⟨hf,⟨by simp only;omega,by simp only;omega⟩,h1.symm⟩,by simp only;omega⟩
    · rw [if_neg h1]
      by_cases hb1:b=1
      · rw [if_pos hb1]
        have h2:aL (n.toNat&&&aM f) (((aM f:Nat):Int)).toNat=0:=by
          rw [Int.toNat_natCast,gY]
          intro i hi
          rw [Nat.testBit_and] at hi
          simp at hi;exact hi.2
        have h3:=aQ.sub (aQ.mask hf) h2
        exact ⟨fun _=>h3,h3.2.1⟩
      · rw [if_neg hb1]
        by_cases hb2:b=2
        · rw [if_pos hb2]
          exact ⟨fun h=>by simp at h,by simp only;omega⟩
        · rw [if_neg hb2]
          exact ⟨fun h=>by simp at h,by simp⟩

def numberB:ByteArray:=ByteArray.mk #[110,117,109,98,101,114,32]

def wrongB:ByteArray:=ByteArray.mk #[119,114,111,110,103]

def whatB:ByteArray:=ByteArray.mk #[119,104,97,116]

def jR (f:List (ByteArray×Int)) (b n:Int):ByteArray :=
  if (fI f b n).2=0 then bW f b (fI f b n).1 else if (fI f b n).2=1 then numberB++bI (fI f b n).1 else wrongB

theorem uW {f:List (ByteArray×Int)} (h:cq f) {b n:Int} (hf:bE f b) (hn : -4096≤n∧n≤4095):gu f b n=some (jR f b n):=by
  obtain ⟨h1,h2⟩:=rH hf hn
  rw [gu,yH h hf hn,af,jR]
  by_cases h3:(fI f b n).2=0
  · have hv:=h1 h3
    rw [aj h3,sO hf hv.2.1,af,if_pos h3,bW,if_pos hv]
  · rw [ai h3,if_neg h3]
    by_cases h4:(fI f b n).2=1
    · have hz:=ko (n:=(fI f b n).1) ⟨by omega,by omega⟩
      have e7:(ByteArray.mk #[110,117,109,98,101,114,32]).size=7:=rfl
      rw [aj h4,kN h2.1 (by omega),af,ar (by omega),if_pos h4]
      rfl
    · rw [ai h4,if_neg h4]
      rfl

def kQ (f:List (ByteArray×Int)) (b:Int) (w:ByteArray):ByteArray :=
  if (dp w).2=true ∧ -4096≤(dp w).1∧(dp w).1≤4095 then jR f b (dp w).1 else whatB

theorem AH (w:ByteArray):((cJ w).2=true∧(-4096≤(cJ w).1∧(cJ w).1≤4095)∧(dp w).2=true∧(dp w).1=(cJ w).1) ∨
    (¬ ((cJ w).2=true ∧ -4096≤(cJ w).1∧(cJ w).1≤4095)∧¬ ((dp w).2=true ∧ -4096≤(dp w).1∧(dp w).1≤4095)):=by
  by_cases h1:(cJ w).2=true ∧ -4096≤(cJ w).1∧(cJ w).1≤4095
  · left
    obtain ⟨e,_⟩:=pY h1.1
    have hs:=ui (v:=(cJ w).1) ⟨by omega,by omega⟩
    rw [← e] at hs
    exact ⟨h1.1,h1.2,by rw [hs],by rw [hs]⟩
  · right
    refine ⟨h1,fun h2=>h1 ?_⟩
    obtain ⟨e,_⟩:=tU h2.1
    have hd:=kP (n:=(dp w).1) ⟨by omega,by omega⟩
    rw [← e] at hd
    exact ⟨by rw [hd],by rw [hd];exact h2.2⟩

theorem vf {f:List (ByteArray×Int)} (h:cq f) {b:Int} (hf:bE f b) {w:ByteArray} (hw:w.size≤100000000):gz f b w=some (kQ f b w):=by
  rw [gz,ma (by omega),af,kQ]
  rcases AH w with ⟨h1,h2,h3,h4⟩ | ⟨h1,h2⟩
  · obtain ⟨g1,g2⟩:=rH hf h2
    rw [h1,Bool.not_true,cond_false,kC,af,decide_eq_true h2,Bool.not_true,cond_false,tn h hf h2,af,h4,if_pos ⟨h3,h2⟩,jR]
    by_cases h5:(fI f b (cJ w).1).2=0
    · rw [aj h5,fP h,af,if_pos h5]
    · rw [ai h5,if_neg h5]
      by_cases h6:(fI f b (cJ w).1).2=1
      · have hz:=ko (n:=(fI f b (cJ w).1).1) ⟨by omega,by omega⟩
        have e7:(ByteArray.mk #[110,117,109,98,101,114,32]).size=7:=rfl
        rw [aj h6,pQ ⟨by omega,by omega⟩,af,ar (by omega),if_pos h6]
        rfl
      · rw [ai h6,if_neg h6]
        rfl
  · rw [if_neg h2]
    cases h3:(cJ w).2 with
    | false=>rw [Bool.not_false,cond_true];rfl
    | true =>
      rw [Bool.not_true,cond_false,kC,af,decide_eq_false (fun h4=>h1 ⟨h3,h4⟩),Bool.not_false,cond_true];rfl

def cP (f:List (ByteArray×Int)) (b:Int):List ByteArray→Option (List Int)
  | []=>some []
  | w::r=>if (bi f b w).2=true then (cP f b r).map ((bi f b w).1::·) else none

theorem la {f:List (ByteArray×Int)} {b:Int}:∀ {l:List ByteArray} {r:List Int},cP f b l=some r→r.length=l.length
  | [],r,h=>by rw [cP] at h;cases h;rfl
  | w::l,r,h=>by
    rw [cP] at h
    by_cases hv:(bi f b w).2=true
    · rw [if_pos hv] at h
      obtain ⟨q,hq,rfl⟩:=Option.map_eq_some_iff.1 h
      rw [List.length_cons,List.length_cons,la hq]
    · rw [if_neg hv] at h;cases h

theorem nP {f:List (ByteArray×Int)} {b:Int} {s:ByteArray} (h:(bi f b s).2=true):aQ f b (bi f b s).1:=by
  rw [bi] at *
  split
  · rename_i hf
    rw [if_pos hf] at h
    split
    · rename_i e;rw [e] at h;cases h
    · rename_i x e
      rw [e] at h
      split
      · rename_i hv;exact hv
      · rename_i hv
        simp only at h
        rw [if_neg hv] at h;cases h
  · rename_i hf;rw [if_neg hf] at h;cases h

theorem Av {f:List (ByteArray×Int)} (h:cq f) (b:Int) (W:List ByteArray) (hl:W.length≤1000000000) (hw:∀ w∈W,w.size≤100000000):∀ (k i n:Nat) (acc:List Int),i+k=W.length - 1→k<n→acc.length=i→1≤W.length →
    bN f b W n acc (i:Int)=some (match cP f b (W.drop (i+1)) with | none=>.inl () | some r=>.inr (acc++r)):=by
  have e:((((W.length:Nat):Int).toNat - (1:Int).toNat:Nat):Int)=((W.length - 1:Nat):Int):=by rw [Int.toNat_natCast];rfl
  intro k
  induction k with
  | zero =>
    intro i n acc hk hn ha h1
    cases n with
    | zero=>omega
    | succ n =>
      rw [bN,ck,e,ai (by omega),List.drop_eq_nil_of_le (by omega),cP]
      simp
  | succ k ih =>
    intro i n acc hk hn ha h1
    cases n with
    | zero=>omega
    | succ n =>
      have hi:i+1<W.length:=by omega
      have e2:(((1:Int).toNat+((i:Nat):Int).toNat:Nat):Int)=((i+1:Nat):Int):=by
        have:(1:Int).toNat=1:=rfl
        rw [Int.toNat_natCast,this];omega
      have hs:=hw _ (List.getElem_mem hi)
      rw [bN,ck,e,aj (by omega),ar ⟨by omega,by omega⟩,e2,bV hi,tg h b hs,af,List.drop_eq_getElem_cons hi,cP,cc (by omega)]
      cases hv:(bi f b W[i+1]).2 with
      | false=>rw [Bool.not_false,cond_true,if_neg (by simp)]
      | true =>
        rw [Bool.not_true,cond_false,ar (by simp;omega),if_pos rfl,ih (i+1) n _ (by omega) (by omega) (by simp [ha]) h1]
        cases cP f b (W.drop (i+1+1)) <;> simp

theorem sA (f:List (ByteArray×Int)) (b:Int) (W:List ByteArray):∀ (n:Nat) (acc:List Int) (i:Int),dt f b W n acc i=bN f b W n acc i
  | 0,_,_=>rfl
  | n+1,acc,i=>by
    rw [dt,bN]
    simp only [sA f b W n]

def orC (f:List (ByteArray×Int)) (b a c:Int):Int:=if aQ f b a∧aQ f b c then ((a.toNat|||c.toNat:Nat):Int) else -1

def yb (f:List (ByteArray×Int)) (b a c:Int):Int:=if aQ f b a∧aQ f b c then ((a.toNat&&&c.toNat:Nat):Int) else -1

def vq (f:List (ByteArray×Int)) (b a c:Int):Int:=if aQ f b a∧aQ f b c then ((aL a.toNat c.toNat:Nat):Int) else -1

def jo (f:List (ByteArray×Int)) (b:Int) (w:ByteArray) (vs:List Int):ByteArray :=
  if w=(ByteArray.mk #[118,97,108,117,101]) then (if vs.length=1 then bI (gt vs 0) else whatB)
  else if w=(ByteArray.mk #[115,104,111,119]) then (if vs.length=1 then bW f b (gt vs 0) else whatB)
  else if w=(ByteArray.mk #[115,104,111,114,116]) then (if vs.length=1 then eZ f b (gt vs 0) else whatB)
  else if w=(ByteArray.mk #[110,111,116]) then (if vs.length=1 then bW f b (nt f b (gt vs 0)) else whatB)
  else if w=(ByteArray.mk #[111,114]) then (if vs.length=2 then bW f b (orC f b (gt vs 0) (gt vs 1)) else whatB)
  else if w=(ByteArray.mk #[97,110,100]) then (if vs.length=2 then bW f b (yb f b (gt vs 0) (gt vs 1)) else whatB)
  else if w=(ByteArray.mk #[108,101,115,115]) then (if vs.length=2 then bW f b (vq f b (gt vs 0) (gt vs 1)) else whatB)
  else whatB

def makeB:ByteArray:=ByteArray.mk #[109,97,107,101]

def jF (f:List (ByteArray×Int)) (b:Int) (W:List ByteArray):ByteArray :=
  if gt W 0=makeB then (if W.length=2 then kQ f b (gt W 1) else whatB)
  else match cP f b W.tail with
    | none=>whatB
    | some vs=>jo f b (gt W 0) vs

def iE (f:List (ByteArray×Int)) (b:Int) (line:ByteArray):ByteArray:=jF f b (aG line 32)

theorem uM {f:List (ByteArray×Int)} (h:cq f) {b:Int} (hf:bE f b) {s:ByteArray} (hs:s.size≤100000000):fp f b s=some (iE f b s):=by
  have hwl:=gr s 32
  have hws:=gF s 32
  have hne:aG s 32≠[]:=by rw [aG];simpa using eo _ _
  rw [fp,show (ByteArray.mk #[32])=bl [32] from rfl,lc (by omega),af,iE]
  show gd _ _=_
  rw [show ((aR 32 s.data.toList).map bl)=aG s 32 from rfl]
  generalize aG s 32=W at *
  have hlen:=List.length_pos_iff.2 hne
  have el:bN f b W FU [] 0=some (match cP f b W.tail with | none=>.inl () | some r=>.inr r):=by
    have e:=Av h b W (by omega) (fun w hw=>by have:=hws w hw;omega) (W.length - 1) 0 FU [] (by omega) (by rw [FU_eq];omega) rfl (by omega)
    rw [List.drop_one] at e
    simpa using e
  rw [ar ⟨by omega,by omega⟩,ck,jF]
  by_cases hm:gt W 0=makeB
  · rw [aj (show gt W (0:Int)=(ByteArray.mk #[109,97,107,101]) from hm),if_pos hm]
    by_cases h2:W.length=2
    · have hz:=hws _ (fH (l:=W) (q:=1) (by omega))
      rw [aj (by omega),ar ⟨by omega,by omega⟩,vf h hf (by omega),af,if_pos h2]
    · rw [ai (by omega),ar ⟨by omega,by omega,by omega,by omega⟩,sA,el,af,if_neg h2]
      cases cP f b W.tail <;> rfl
  · rw [ai (show ¬ gt W (0:Int)=(ByteArray.mk #[109,97,107,101]) from hm),if_neg hm,ar ⟨by omega,by omega,by omega,by omega⟩,el,af]
    cases hr:cP f b W.tail with
    | none=>rfl
    | some vs =>
      have hvl:=la hr
      have h64:∀ x∈vs,0≤x∧x≤4095:=by
        have key:∀ (l:List ByteArray) (r:List Int),cP f b l=some r→∀ x∈r,0≤x∧x≤4095:=by
          intro l
          induction l with
          | nil=>intro r h;rw [cP] at h;cases h;simp
          | cons w l ih =>
            intro r h x hx
            rw [cP] at h
            by_cases hv:(bi f b w).2=true
            · rw [if_pos hv] at h
              obtain ⟨q,hq,rfl⟩:=Option.map_eq_some_iff.1 h
              rcases List.mem_cons.1 hx with rfl | hx
              · exact (nP hv).2.1
              · exact ih q hq x hx
            · rw [if_neg hv] at h;cases h
        exact key _ _ hr
      simp only [sm]
      rw [ck,jo]
      have one:∀ (X:Int→Option ByteArray) (Y:Int→ByteArray),(vs.length=1→X (gt vs 0)=some (Y (gt vs 0))) →
          (bif decide ((vs.length:Int)=1) then gd (0≤(0:Int)∧(0:Int)<(vs.length:Int)) <| X (gt vs (0:Int)) else some (ByteArray.mk #[119,104,97,116]))=some (if vs.length=1 then Y (gt vs 0) else whatB):=by
        intro X Y hX
        by_cases h1:vs.length=1
        · rw [aj (by omega),ar ⟨by omega,by omega⟩,hX h1,if_pos h1]
        · rw [ai (by omega),if_neg h1];rfl
      have two:∀ (X:Int→Int→Option ByteArray) (Y:Int→Int→ByteArray),(∀ x y,X x y=some (Y x y)) →
          (bif decide ((vs.length:Int)=2) then gd (0≤(0:Int)∧(0:Int)<(vs.length:Int)) <| gd (0≤(1:Int)∧(1:Int)<(vs.length:Int)) <| X (gt vs (0:Int)) (gt vs (1:Int)) else some (ByteArray.mk #[119,104,97,116]))=some (if vs.length=2 then Y (gt vs 0) (gt vs 1) else whatB):=by
        intro X Y hX
        by_cases h1:vs.length=2
        · rw [aj (by omega),ar ⟨by omega,by omega⟩,ar ⟨by omega,by omega⟩,hX,if_pos h1]
        · rw [ai (by omega),if_neg h1];rfl
      by_cases c1:gt W (0:Int)=(ByteArray.mk #[118,97,108,117,101])
      · rw [aj c1,if_pos c1]
        refine one (fun x=>bd (cV x) fun y=>some y) bI (fun h1=>?_)
        have h2:=h64 _ (fH (l:=vs) (q:=0) (by omega))
        show bd (cV (gt vs 0)) _=_
        rw [pQ ⟨by omega,by omega⟩,af]
      rw [ai c1,if_neg c1,ck]
      by_cases c2:gt W (0:Int)=(ByteArray.mk #[115,104,111,119])
      · rw [aj c2,if_pos c2]
        exact one (fun x=>bd (bo f b x) fun y=>some y) (bW f b) (fun h1=>by show bd (bo f b (gt vs 0)) _=_;rw [fP h,af])
      rw [ai c2,if_neg c2,ck]
      by_cases c3:gt W (0:Int)=(ByteArray.mk #[115,104,111,114,116])
      · rw [aj c3,if_pos c3]
        exact one (fun x=>bd (dP f b x) fun y=>some y) (eZ f b) (fun h1=>by show bd (dP f b (gt vs 0)) _=_;rw [uc h,af])
      rw [ai c3,if_neg c3]
      by_cases c4:gt W (0:Int)=(ByteArray.mk #[110,111,116])
      · rw [aj c4,if_pos c4]
        exact one (fun x=>bd (dq f b x) fun y=>bd (bo f b y) fun z=>some z) (fun x=>bW f b (nt f b x)) (fun h1=>by show bd (dq f b (gt vs 0)) _=_;rw [ri h,af,fP h,af])
      rw [ai c4,if_neg c4]
      by_cases c5:gt W (0:Int)=(ByteArray.mk #[111,114])
      · rw [aj c5,if_pos c5]
        exact two (fun x y=>bd (eb f b x y) fun y=>bd (bo f b y) fun z=>some z) (fun x y=>bW f b (orC f b x y)) (fun x y=>by show bd (eb f b x y) _=_;rw [uZ h,af,fP h,af];rfl)
      rw [ai c5,if_neg c5]
      by_cases c6:gt W (0:Int)=(ByteArray.mk #[97,110,100])
      · rw [aj c6,if_pos c6]
        exact two (fun x y=>bd (dK f b x y) fun y=>bd (bo f b y) fun z=>some z) (fun x y=>bW f b (yb f b x y)) (fun x y=>by show bd (dK f b x y) _=_;rw [tN h,af,fP h,af];rfl)
      rw [ai c6,if_neg c6,ck]
      by_cases c7:gt W (0:Int)=(ByteArray.mk #[108,101,115,115])
      · rw [aj c7,if_pos c7]
        exact two (fun x y=>bd (dB f b x y) fun y=>bd (bo f b y) fun z=>some z) (fun x y=>bW f b (vq f b x y)) (fun x y=>by show bd (dB f b x y) _=_;rw [sd h,af,fP h,af];rfl)
      rw [ai c7,if_neg c7]
      rfl

theorem xP {f:List (ByteArray×Int)} {b:Int} {w:ByteArray} {v:Int}:jo f b w [v] =
    if w=(ByteArray.mk #[118,97,108,117,101]) then bI v
    else if w=(ByteArray.mk #[115,104,111,119]) then bW f b v
    else if w=(ByteArray.mk #[115,104,111,114,116]) then eZ f b v
    else if w=(ByteArray.mk #[110,111,116]) then bW f b (nt f b v)
    else whatB:=by
  have h1:([v]:List Int).length=1:=rfl
  have h2:¬ ([v]:List Int).length=2:=by simp
  have g0:gt [v] (0:Int)=v:=rfl
  unfold jo
  simp only [if_pos h1,if_neg h2,ite_self,g0]

theorem yA {f:List (ByteArray×Int)} {b:Int} {w:ByteArray} {v u:Int}:jo f b w [v,u] =
    if w=(ByteArray.mk #[111,114]) then bW f b (orC f b v u)
    else if w=(ByteArray.mk #[97,110,100]) then bW f b (yb f b v u)
    else if w=(ByteArray.mk #[108,101,115,115]) then bW f b (vq f b v u)
    else whatB:=by
  have h1:¬ ([v,u]:List Int).length=1:=by simp
  have h2:([v,u]:List Int).length=2:=rfl
  have g0:gt [v,u] (0:Int)=v:=rfl
  have g1:gt [v,u] (1:Int)=u:=rfl
  unfold jo
  simp only [if_pos h2,if_neg h1,g0,g1]
  by_cases c1:w=(ByteArray.mk #[118,97,108,117,101])
  · rw [if_pos c1];subst c1
    rw [if_neg (by decide),if_neg (by decide),if_neg (by decide)]
  rw [if_neg c1]
  by_cases c2:w=(ByteArray.mk #[115,104,111,119])
  · rw [if_pos c2];subst c2
    rw [if_neg (by decide),if_neg (by decide),if_neg (by decide)]
  rw [if_neg c2]
  by_cases c3:w=(ByteArray.mk #[115,104,111,114,116])
  · rw [if_pos c3];subst c3
    rw [if_neg (by decide),if_neg (by decide),if_neg (by decide)]
  rw [if_neg c3]
  by_cases c4:w=(ByteArray.mk #[110,111,116])
  · rw [if_pos c4];subst c4
    rw [if_neg (by decide),if_neg (by decide),if_neg (by decide)]
  rw [if_neg c4]

theorem qI {f:List (ByteArray×Int)} {b:Int} {w:ByteArray} {vs:List Int} (h1:vs.length≠1) (h2:vs.length≠2):jo f b w vs=whatB:=by
  simp only [jo,if_neg h1,if_neg h2,ite_self]

theorem lW {f:List (ByteArray×Int)} {b:Int} {s:ByteArray}:((bi f b s).2=true∧0≤(if (bi f b s).2=true then (bi f b s).1 else -1)∧(if (bi f b s).2=true then (bi f b s).1 else -1)=(bi f b s).1∧aQ f b (bi f b s).1)∨((bi f b s).2≠true∧¬ 0≤(if (bi f b s).2=true then (bi f b s).1 else -1)):=by
  by_cases h:(bi f b s).2=true
  · left
    have:=nP h
    rw [if_pos h]
    exact ⟨h,this.2.1.1,rfl,this⟩
  · right
    rw [if_neg h]
    exact ⟨h,by omega⟩

theorem jq {f:List (ByteArray×Int)} {b a:Int} (hv:aQ f b a):dr f b a=some (bW f b a):=by
  rw [sO hv.1 hv.2.1,bW,if_pos hv]

theorem gt0 (a:ByteArray) (r:List ByteArray):gt (a::r) (0:Int)=a:=rfl

theorem gt1 (a x:ByteArray) (r:List ByteArray):gt (a::x::r) (1:Int)=x:=rfl

theorem gt2 (a x y:ByteArray) (r:List ByteArray):gt (a::x::y::r) (2:Int)=y:=rfl

theorem xm {f:List (ByteArray×Int)} (h:cq f) {b:Int} (hf:bE f b) {s:ByteArray} (hs:s.size≤100000000):ic f b s=some (iE f b s):=by
  have hwl:=gr s 32
  have hws:=gF s 32
  have hne:aG s 32≠[]:=by rw [aG];simpa using eo _ _
  have es:cm s 32=some (aG s 32):=kb (s:=s) (c:=32) (by omega)
  rw [ic,es,af,iE]
  generalize aG s 32=W at *
  have hlen:=List.length_pos_iff.2 hne
  rw [w64 (a:=(W.length:Int) - 1) (by omega) (by omega),ar ⟨by omega,by omega⟩,ml (by have:=hws _ (fH (l:=W) (q:=(W.length:Int) - 1) (by omega));omega),af]
  have k1:∀ w∈W,w.size≤100000000:=fun w hw=>by have:=hws w hw;omega
  rcases W with _ | ⟨a,_ | ⟨x,_ | ⟨y,_ | ⟨z,r⟩⟩⟩⟩
  · exact absurd rfl hne
  · have e1:((([a]:List ByteArray).length:Nat):Int)=1:=rfl
    rw [e1,ai (by omega),aj (by omega),jF,gt0]
    by_cases hm:a=makeB
    · rw [if_pos hm,if_neg (by simp)];rfl
    · rw [if_neg hm,List.tail_cons,cP]
      simp only []
      rw [qI (by simp) (by simp)];rfl
  · have e1:((([a,x]:List ByteArray).length:Nat):Int)=2:=rfl
    have hx:=k1 x (by simp)
    rw [e1,show (2:Int) - 1=1 from rfl,aj rfl,ar (by omega),gt0,gt1,ck,jF,gt0,gt1]
    by_cases hm:a=makeB
    · rw [aj (show a=(ByteArray.mk #[109,97,107,101]) from hm),if_pos hm,if_pos (by rfl),kQ]
      have rest:(bif decide ((2:Int)<2) then some (ByteArray.mk #[119,104,97,116]) else bif decide ((3:Int)<2) then some (ByteArray.mk #[119,104,97,116]) else gd (0≤(1:Int)∧(1:Int)<2) <| bd (bA f b x) fun x9=>bd (bA f b x) fun x10=>some (ByteArray.mk #[119,104,97,116]))=some whatB:=by
        rw [ai (by omega),ai (by omega),ar (by omega),jd h hf (by omega),af,af];rfl
      by_cases h1:(dp x).2=true
      · rw [h1,cond_true,gh,af]
        by_cases h2 : -4096≤(dp x).1∧(dp x).1≤4095
        · rw [decide_eq_true h2,cond_true,uW h hf h2,af,if_pos ⟨rfl,h2⟩]
        · rw [decide_eq_false h2,cond_false,if_neg (fun h3=>h2 h3.2)]
          exact rest
      · have h1':(dp x).2=false:=by simpa using h1
        rw [h1',cond_false,if_neg (fun h3=>by cases h3.1)]
        exact rest
    · rw [ai (show ¬ a=(ByteArray.mk #[109,97,107,101]) from hm),if_neg hm,ai (by omega),ai (by omega),ar (by omega),jd h hf (by omega),af,af,ck,List.tail_cons,cP,cP]
      rcases lW (f:=f) (b:=b) (s:=x) with ⟨v1,v2,v3,v4⟩ | ⟨v1,v2⟩
      · rw [if_pos v1,if_pos v1]
        simp only [Option.map_some]
        rw [if_pos v1] at v2
        rw [xP]
        by_cases c1:a=(ByteArray.mk #[118,97,108,117,101])
        · rw [aj c1,if_pos c1,aj v2,kN v2 (by have:=v4.2.1;omega),af]
        rw [ai c1,if_neg c1,ck]
        by_cases c2:a=(ByteArray.mk #[115,104,111,119])
        · rw [aj c2,if_pos c2,aj v2,jq v4,af]
        rw [ai c2,if_neg c2,ck]
        by_cases c3:a=(ByteArray.mk #[115,104,111,114,116])
        · rw [aj c3,if_pos c3,aj v2,tR h,af]
        rw [ai c3,if_neg c3]
        by_cases c4:a=(ByteArray.mk #[110,111,116])
        · have hi:aQ f b (nt f b (bi f b x).1):=by rw [nt,if_pos v4];exact aQ.whole hf _
          rw [aj c4,if_pos c4,aj v2,rx h,af,jq hi,af]
        rw [ai c4,if_neg c4]
        rfl
      · rw [if_neg v1] at v2
        rw [if_neg v1,if_neg v1]
        simp only [ai v2,ck,Bool.cond_self]
        rfl
  · have e1:((([a,x,y]:List ByteArray).length:Nat):Int)=3:=rfl
    have hx:=k1 x (by simp)
    have hy:=k1 y (by simp)
    rw [e1,show (3:Int) - 1=2 from rfl,ai (by omega),ai (by omega),ai (by omega),ar (by omega),gt1,gt2,jd h hf (by omega),af,jd h hf (by omega),af,aj rfl,ar (by omega),gt0,jF,gt0]
    have what:∀ (c:Bool) (X:Option ByteArray),(∀ q,X=q→c=true→q=some whatB)→(bif c then X else some (ByteArray.mk #[119,104,97,116]))=some whatB:=fun c X hX=>by
      cases c with
      | true=>exact hX X rfl rfl
      | false=>rfl
    by_cases hm:a=makeB
    · rw [if_pos hm,if_neg (show ¬ ([a,x,y]:List ByteArray).length=2 by simp)]
      subst hm
      rw [ai (by decide),ai (by decide),ck,ai (by decide)];rfl
    · rw [if_neg hm,List.tail_cons,cP,cP,cP]
      rcases lW (f:=f) (b:=b) (s:=x) with ⟨v1,v2,v3,v4⟩ | ⟨v1,v2⟩
      · rcases lW (f:=f) (b:=b) (s:=y) with ⟨u1,u2,u3,u4⟩ | ⟨u1,u2⟩
        · rw [if_pos v1] at v2
          rw [if_pos u1] at u2
          rw [if_pos v1,if_pos v1,if_pos u1,if_pos u1]
          simp only [Option.map_some]
          rw [yA]
          have hxr:=v4.2.1
          have hyr:=u4.2.1
          by_cases c5:a=(ByteArray.mk #[111,114])
          · have e:=qQ (a:=(bi f b x).1.toNat) (b:=(bi f b y).1.toNat) (by omega) (by omega)
            rw [aO hxr.1,aO hyr.1] at e
            rw [aj c5,aj v2,aj u2,e,af,jq (aQ.or v4 u4),af,orC,if_pos (show aQ f b _∧aQ f b _ from ⟨v4,u4⟩),if_pos c5]
          rw [ai c5,if_neg c5]
          by_cases c6:a=(ByteArray.mk #[97,110,100])
          · have e:=kX (a:=(bi f b x).1.toNat) (b:=(bi f b y).1.toNat) (by omega) (by omega)
            rw [aO hxr.1,aO hyr.1] at e
            rw [aj c6,aj v2,aj u2,e,af,jq (aQ.sub v4 (th _ _)),af,yb,if_pos (show aQ f b _∧aQ f b _ from ⟨v4,u4⟩),if_pos c6]
          rw [ai c6,if_neg c6,ck]
          by_cases c7:a=(ByteArray.mk #[108,101,115,115])
          · have e:=fc (a:=(bi f b x).1.toNat) (b:=(bi f b y).1.toNat) (by omega) (by omega)
            rw [aO hxr.1,aO hyr.1] at e
            have hs:aL (aL (bi f b x).1.toNat (bi f b y).1.toNat) (bi f b x).1.toNat=0:=by
              rw [gY];intro i hi
              rw [dw] at hi
              simp at hi;exact hi.1
            rw [aj c7,aj v2,aj u2,e,af,jq (aQ.sub v4 hs),af,vq,if_pos (show aQ f b _∧aQ f b _ from ⟨v4,u4⟩),if_pos c7]
          rw [ai c7,if_neg c7]
          rfl
        · rw [if_neg u1] at u2
          rw [if_pos v1] at v2
          rw [if_pos v1,if_pos v1,if_neg u1,if_neg u1]
          simp only [ai u2,aj v2,Option.map_none,ck,Bool.cond_self]
          rfl
      · rw [if_neg v1] at v2
        rw [if_neg v1,if_neg v1]
        simp only [ai v2,ck,Bool.cond_self]
        rfl
  · have e1:(3:Int)<(((a::x::y::z::r).length:Nat):Int):=by simp only [List.length_cons];omega
    rw [ai (by omega),ai (by omega),aj e1,jF,gt0]
    by_cases hm:a=makeB
    · rw [if_pos hm,if_neg (by simp)];rfl
    · rw [if_neg hm,List.tail_cons]
      cases hr:cP f b (x::y::z::r) with
      | none=>rfl
      | some vs =>
        have hvl:=la hr
        simp only [List.length_cons] at hvl
        simp only []
        rw [qI (by omega) (by omega)];rfl

theorem pH {f:List (ByteArray×Int)} {b:Int}:∀ {l:List ByteArray} {r:List Int},cP f b l=some r→∀ x∈r,0≤x∧x≤4095
  | [],r,h=>by rw [cP] at h;cases h;simp
  | w::l,r,h=>by
    intro x hx
    rw [cP] at h
    by_cases hv:(bi f b w).2=true
    · rw [if_pos hv] at h
      obtain ⟨q,hq,rfl⟩:=Option.map_eq_some_iff.1 h
      rcases List.mem_cons.1 hx with rfl | hx
      · exact (nP hv).2.1
      · exact pH hq x hx
    · rw [if_neg hv] at h;cases h

structure xX (f:List (ByteArray×Int)) (b:Int) (Q:ByteArray→Prop):Prop where
  what:Q whatB
  wrong:Q wrongB
  num:∀ n:Int,0≤n∧n≤4095→Q (bI n)
  number:∀ n:Int,0≤n∧n≤4095→Q (numberB++bI n)
  shown:∀ a,Q (bW f b a)
  short:∀ a,Q (eZ f b a)

theorem vt {f:List (ByteArray×Int)} {b n:Int} {Q:ByteArray→Prop} (h:xX f b Q) (hf:bE f b) (hn : -4096≤n∧n≤4095):Q (jR f b n):=by
  obtain ⟨h1,h2⟩:=rH hf hn
  rw [jR]
  split
  · exact h.shown _
  · split
    · exact h.number _ h2
    · exact h.wrong

theorem zo {f:List (ByteArray×Int)} {b:Int} {Q:ByteArray→Prop} (h:xX f b Q) (w:ByteArray) {vs:List Int} (hv:∀ x∈vs,0≤x∧x≤4095):Q (jo f b w vs):=by
  have one:∀ x:ByteArray,(vs.length=1→Q x)→Q (if vs.length=1 then x else whatB):=fun x hx=>by
    by_cases h1:vs.length=1
    · rw [if_pos h1];exact hx h1
    · rw [if_neg h1];exact h.what
  have two:∀ x:ByteArray,Q x→Q (if vs.length=2 then x else whatB):=fun x hx=>by
    by_cases h1:vs.length=2
    · rw [if_pos h1];exact hx
    · rw [if_neg h1];exact h.what
  rw [jo]
  split
  · exact one _ (fun h1=>h.num _ (hv _ (fH (by omega))))
  split
  · exact one _ (fun _=>h.shown _)
  split
  · exact one _ (fun _=>h.short _)
  split
  · exact one _ (fun _=>h.shown _)
  split
  · exact two _ (h.shown _)
  split
  · exact two _ (h.shown _)
  split
  · exact two _ (h.shown _)
  exact h.what

theorem zY {f:List (ByteArray×Int)} {b:Int} {Q:ByteArray→Prop} (h:xX f b Q) (hf:bE f b) (s:ByteArray):Q (iE f b s):=by
  rw [iE,jF]
  split
  · split
    · rw [kQ]
      split
      · rename_i h1;exact vt h hf h1.2
      · exact h.what
    · exact h.what
  · split
    · exact h.what
    · rename_i vs e;exact zo h _ (pH e)

theorem ut {f:List (ByteArray×Int)} {b:Int} (hf:bE f b) (s:ByteArray):(iE f b s).size≤1000000:=by
  have e4:whatB.size=4:=rfl
  have e5:wrongB.size=5:=rfl
  have e7:numberB.size=7:=rfl
  refine zY (Q:=fun a=>a.size≤1000000) ⟨by omega,by omega,fun n hn=>?_,fun n hn=>?_,fun a=>vP f b a,fun a=>tO f b a⟩ hf s
  · have:=ko (n:=n) ⟨by omega,by omega⟩
    omega
  · have:=ko (n:=n) ⟨by omega,by omega⟩
    rw [ByteArray.size_append];omega

def jM (ok:Bool) (g:ByteArray→ByteArray) (xs:List ByteArray):List UInt8:=xs.flatMap fun x=>gT ok (g x)

theorem oZ (ok:Bool) (g:ByteArray→ByteArray) (x:ByteArray) (r:List ByteArray):jM ok g (x::r)=gT ok (g x)++jM ok g r:=by
  rw [jM,List.flatMap_cons];rfl

theorem sV {F:ByteArray→Option ByteArray} {g:ByteArray→ByteArray} (ok:Bool):∀ xs:List ByteArray,(ok=true→∀ x∈xs,F x=some (g x)∧(g x).size≤1000000000)→jT F ok xs=some (jM ok g xs)
  | [],_=>rfl
  | x::r,h=>by
    have ih:=sV (F:=F) (g:=g) ok r (fun hk y hy=>h hk y (by simp [hy]))
    rw [jT,ih,oZ]
    cases ok with
    | true =>
      obtain ⟨h1,h2⟩:=h rfl x (by simp)
      rw [cond_true,h1,af,ar h2,af,af]
    | false=>rw [cond_false,af,af];rfl

def nl (s:ByteArray) (lines:List ByteArray):ByteArray :=
  if 20<lines.length then ByteArray.empty else bl (jM (aK s).2.2 (iE (aK s).1 (aK s).2.1) lines)

theorem wU {s:ByteArray} {lines:List ByteArray} (hs:s.size≤100000000) (hl:∀ x∈lines,x.size≤100000000):gN s lines=some (nl s lines):=by
  rw [gN,nl]
  by_cases h20:20<lines.length
  · rw [aj (by omega),if_pos h20]
  · have e:jT (fun l=>fp (aK s).1 (aK s).2.1 l) (aK s).2.2 lines=some (jM (aK s).2.2 (iE (aK s).1 (aK s).2.1) lines):=by
      refine sV _ _ (fun hk x hx=>?_)
      have hf:=(ng hk).1
      have hd:cq (aK s).1:=(eF.smallD hf.1 (by decide) (by decide)).inn
      exact ⟨uM hd hf (hl x hx),by have:=ut hf x;omega⟩
    rw [ai (by omega),if_neg h20,ud hs,af,e,af]
    rfl

theorem A8 (s a b:ByteArray):(s++a)++b=s++(a++b):=by
  apply ByteArray.ext
  simp

theorem pG (ok:Bool) (g:ByteArray→ByteArray):∀ (l:List ByteArray) (a:List UInt8),l.foldl (fun s x=>s++bl (gT ok (g x))) (bl a)=bl (a++jM ok g l)
  | [],a=>by simp [jM]
  | x::l,a=>by
    rw [List.foldl_cons,kY,pG ok g l,oZ,rS]
    simp

theorem wP {s:ByteArray} {lines:List ByteArray} (hs:s.size≤100000000) (hl:∀ x∈lines,x.size≤100000000):gQ s lines=some (nl s lines):=by
  rw [gQ,nl]
  by_cases h20:20<lines.length
  · rw [aj (by omega),if_pos h20]
  · have e:=pV lines (cD lines (aK s)) (fun s' x=>s'++bl (gT (aK s).2.2 (iE (aK s).1 (aK s).2.1 x))) (fun i s'=>s'.size≤1000010*i) ?_ ?_ FU (by rw [FU_eq];omega) ByteArray.empty (by decide)
    · rw [ai (by omega),if_neg h20,tc hs,af,e.1,af,empty_bl,pG,List.nil_append]
    · intro n s'
      rw [cD,ai (by omega)]
    · intro n i s' hi hm hI
      have e1:(ByteArray.mk #[10]).size=1:=rfl
      have e6:(ByteArray.mk #[119,114,111,110,103,10]).size=6:=rfl
      rw [cD,aj (by omega),cc (by omega)]
      cases hk:(aK s).2.2 with
      | true =>
        have hf:=(ng hk).1
        have hd:cq (aK s).1:=(eF.smallD hf.1 (by decide) (by decide)).inn
        have hz:=ut hf (gt lines (i:Int))
        refine ⟨?_,?_⟩
        · have h3:(gT true (iE (aK s).1 (aK s).2.1 (gt lines (i:Int)))).length=(iE (aK s).1 (aK s).2.1 (gt lines (i:Int))).size+1:=by
            rw [gT,cond_true,List.length_append,← cZ];rfl
          rw [ByteArray.size_append,fm,h3];omega
        · have h4:s'++bl (gT true (iE (aK s).1 (aK s).2.1 (gt lines (i:Int))))=(s'++iE (aK s).1 (aK s).2.1 (gt lines (i:Int)))++(ByteArray.mk #[10]):=by
            rw [A8,gT,cond_true,← kY,ft];rfl
          rw [cond_true,ar (by omega),xm hd hf (hl _ hm),af,ar (by omega),ar (by rw [ByteArray.size_append];omega),h4]
      | false =>
        refine ⟨?_,?_⟩
        · rw [ByteArray.size_append,fm,gT,cond_false]
          simp only [List.length_cons,List.length_nil]
          omega
        · rw [cond_false,ar (by omega)]
          rfl

theorem tH {l:List ByteArray} (hl:l.length≤1000000000):dO l=some l:=by
  have e:=A2 l (cv l) ?_ ?_ FU (by rw [FU_eq];omega) (List.replicate (l.length:Int).toNat ByteArray.empty) (by simp)
  · rw [dO,ar ⟨by omega,rfl,by omega,by omega⟩,e,af]
  · intro n s
    rw [cv,ai (by omega)]
  · intro n i s hi hs
    rw [cv,aj (by omega),ar (by omega),ar (by omega),cc (by omega),Int.toNat_natCast]

theorem tT {l:List ByteArray} {q:Int} (hq:0≤q∧q≤1048576) (hl:l.length≤9223372036854775807) (hs:∀ s∈l,s.size≤9223372036854775807) :
    ∃ r,fS l q=some r∧(¬ r<0→l.length≤1048576∧∀ s∈l,s.size≤1048576):=by
  rw [fS,w64 (a:=q - (l.length:Int)) (by omega) (by omega)]
  by_cases h0:q - (l.length:Int)<0
  · exact ⟨-1,by rw [aj h0],fun h=>absurd (by omega) h⟩
  · have h:=iD l (fun n i (s:Int)=>cg l n s i) (fun i s=>(0≤s∧s≤q)∧∀ j,j<i→(gt l (j:Int)).size≤1048576)
      (fun r=>r=.inl ()∨∀ s∈l,s.size≤1048576) ?_ ?_ FU (by rw [FU_eq];omega) (q - (l.length:Int)) ⟨⟨by omega,by omega⟩,by intro j hj;omega⟩
    · obtain ⟨r,er,hr⟩:=h
      rw [ai h0,show cg l FU (q - (l.length:Int)) 0=some r from er,af]
      cases r with
      | inl a=>exact ⟨-1,rfl,fun h=>absurd (by omega) h⟩
      | inr x =>
        refine ⟨x,rfl,fun _=>⟨by omega,?_⟩⟩
        rcases hr with hr | hr
        · cases hr
        · exact hr
    · rintro n s ⟨h1,h2⟩
      rw [cg,ai (by omega)]
      refine dg.2 (.inr fun x hx=>?_)
      obtain ⟨i,hi,rfl⟩:=List.mem_iff_getElem.1 hx
      have:=h2 i hi
      rwa [bV hi] at this
    · rintro n i s d hi hg hd hm ⟨h1,h2⟩ ih
      have hz:=hs d hm
      rw [cg,aj (by omega),ar (by omega),hg,ck,w64 (a:=s - (d.size:Int)) (by omega) (by omega),cc (by omega)]
      by_cases h3:s - (d.size:Int)<0
      · rw [aj h3]
        exact dg.2 (.inl rfl)
      · rw [ai h3]
        refine ih _ ⟨⟨by omega,by omega⟩,fun j hj=>?_⟩
        by_cases e:j=i
        · subst e;rw [hg];omega
        · exact h2 j (by omega)

theorem pf (p1:ByteArray) (p2:List ByteArray) (h1:p1.size≤9223372036854775807) (h2:∀ s∈p2,s.size≤9223372036854775807) (hl:p2.length≤9223372036854775807):fq p1 p2=some true:=by
  rw [fq]
  by_cases hz:1048576<(p1.size:Int)
  · rw [aj hz]
  obtain ⟨r,er,hr⟩:=tT (q:=1048576) ⟨by omega,by omega⟩ hl h2
  rw [ai hz,er,af]
  by_cases h:r<0
  · rw [aj h]
  · obtain ⟨hlen,hs⟩:=hr h
    have hs':∀ x∈p2,x.size≤100000000:=fun x hx=>by have:=hs x hx;omega
    rw [ai h,tH (by omega),af,wP (by omega) hs',af,af,wU (by omega) hs',af,decide_eq_true rfl,Bool.not_true,cond_false,af,oz (by omega),af]
    rfl

end Go.Eng
