/- What is proved: plain laws of the models, up to the law itself. Conditions: sizes and ranges of what is handed over, as each says. -/
import Derived.Test.YtdnlgpmmkchopaaGreatDoorCRunDeskPlain1
set_option linter.unusedVariables false
set_option linter.unusedSimpArgs false
namespace Go.Eng
open Go

def eC (a b:Nat):Nat:=a+b - (a&&&b) % 4096

theorem tO {a b:Nat} (ha:a≤9007199254740992) (hb:b≤4096):dX (a:Int) (b:Int)=some ((eC a b:Nat):Int):=by
 obtain ⟨r,e,h0,h⟩:=Ac a b ⟨by omega,by omega⟩ ⟨by omega,by omega⟩ a b
 have hx:a&&&b≤b:=Nat.and_le_right
 have hm:=Nat.mod_le (a&&&b) 4096
 rw [dX,eH,e,ae,ae,h rfl rfl]
 rw [w64 (a:=(a:Int)+(b:Int)) (by omega) (by omega),w64 (by omega) (by omega),eC]
 congr 1;omega

theorem Cs {a b:Nat} (ha:a<4096) (hb:b<4096):eC a b=a|||b:=by
 have hx:=pd a b
 have hy:a&&&b≤a:=Nat.and_le_left
 rw [eC,Nat.mod_eq_of_lt (by omega)]
 omega

theorem BG (a b:Nat):a≤eC a b∧eC a b≤a+b:=by
 have hx:a&&&b≤b:=Nat.and_le_right
 have hm:=Nat.mod_le (a&&&b) 4096
 rw [eC];omega

theorem B7 {a:Nat} (ha:a<4096):4096≤eC a 4096:=by
 have hx:a&&&4096≤a:=Nat.and_le_left
 have hm:=Nat.mod_le (a&&&4096) 4096
 rw [eC];omega

def prC (f:List (ByteArray×Int)) (w:ByteArray):Int:=if 0≤dY f w then (gt f (dY f w)).2 else da w

theorem wl {f:List (ByteArray×Int)} (h:f.length≤1099511627776) {w:ByteArray} (hw:w.size≤1000000000):im f w=some (prC f w):=by
 have hr:=rO f w
 rw [im,ld _ _ h,ae,prC]
 by_cases h0:0≤dY f w
 ·rw [ak h0,al (by omega),if_pos h0]
 ·rw [ai h0,kY hw,ae,if_neg h0]

theorem qx {f:List (ByteArray×Int)} (hv:V12 f) (w:ByteArray) : -1≤prC f w∧prC f w≤4096:=by
 rw [prC]
 by_cases h0:0≤dY f w
 ·have:=hv _ (yh (by omega:¬ dY f w<0)).1
  rw [if_pos h0];omega
 ·rw [if_neg h0]
  rcases jd w with ⟨e,_⟩ | ⟨n,hn,_,e⟩ <;> rw [e] <;> omega

def kf (f:List (ByteArray×Int)):List ByteArray→Nat→Option Nat
 | [],v=>some v
 | w::r,v=>if prC f w<0 then none else kf f r (eC v (prC f w).toNat)

def mq (f:List (ByteArray×Int)):List ByteArray→Nat→Option Nat
 | [],v=>some v
 | w::r,v=>if 0≤prC f w∧prC f w≤4095 then mq f r (v|||(prC f w).toNat) else none

theorem xx {f:List (ByteArray×Int)}:∀ (W:List ByteArray) (v x:Nat),kf f W v=some x→v≤x
 | [],v,x,h=>by simp only [kf] at h;cases h;exact Nat.le_refl _
 | w::r,v,x,h=>by
  simp only [kf] at h
  split at h
  ·cases h
  ·have:=xx r _ x h
   have:=BG v (prC f w).toNat
   omega

theorem BD {f:List (ByteArray×Int)} (hv:V12 f):∀ (W:List ByteArray) (v:Nat),v<4096 →
  (∃ x,x<4096∧mq f W v=some x∧kf f W v=some x)∨(mq f W v=none∧(kf f W v=none∨∃ x,kf f W v=some x∧4096≤x))
 | [],v,h=>.inl ⟨v,h,rfl,rfl⟩
 | w::r,v,h=>by
  have hr:=qx hv w
  simp only [mq,kf]
  by_cases h1:prC f w<0
  ·right;rw [if_neg (by omega),if_pos h1];exact ⟨rfl,.inl rfl⟩
  ·rw [if_neg h1]
   by_cases h2:prC f w≤4095
   ·rw [if_pos ⟨by omega,h2⟩,Cs h (by omega)]
    exact BD hv r _ (oD h (by omega))
   ·right
    rw [if_neg (fun h=>h2 h.2)]
    refine ⟨rfl,?_⟩
    have e:(prC f w).toNat=4096:=by omega
    rw [e]
    cases hs:kf f r (eC v 4096) with
    | none=>exact .inl rfl
    | some x=>exact .inr ⟨x,rfl,Nat.le_trans (B7 h) (xx r _ x hs)⟩

theorem A6 {w:ByteArray}:(0≤da w∧da w≤4095∧db w=(da w,true))∨(¬ (0≤da w∧da w≤4095)∧((db w).2=false∨¬ (0≤(db w).1∧(db w).1≤4095))):=by
 rcases jd w with ⟨e,h⟩ | ⟨n,hn,rfl,e⟩
 ·right
  refine ⟨by omega,?_⟩
  cases hd:(db w).2 with
  | false=>exact .inl rfl
  | true =>
   right
   intro hb
   have:=(qT hd).1
   have e1:(db w).1=(((db w).1.toNat:Nat):Int):=by omega
   rw [e1] at this
   exact h _ (by omega) this
 ·have ed:db (bz (n:Int))=((n:Int),true):=lO ⟨by omega,by omega⟩
  by_cases h2:n≤4095
  ·left;rw [e,ed];exact ⟨by omega,by omega,rfl⟩
  ·right;rw [e,ed];exact ⟨by omega,.inr (by simp only;omega)⟩

theorem jU {f:List (ByteArray×Int)} (h:f.length≤1099511627776) (hv:V12 f) (b:Int) (W:List ByteArray) (hw:∀ w∈W,w.size≤1000000000):∀ (k i n v:Nat),i+k=W.length→k<n→W.length≤1000000000→v<4096 →
  bR f b W n (v:Int) (i:Int)=some (match mq f (W.drop i) v with | none=>.inl () | some x=>.inr (x:Int))
 | 0,i,n,v,hik,hn,hl,hv0=>by
  obtain ⟨n,rfl⟩:∃ m,n=m+1:=⟨n - 1,by omega⟩
  rw [bR,ai (by omega),List.drop_of_length_le (by omega)]
  rfl
 | k+1,i,n,v,hik,hn,hl,hv0=>by
  obtain ⟨n,rfl⟩:∃ m,n=m+1:=⟨n - 1,by omega⟩
  have hi:i<W.length:=by omega
  have hd:W.drop i=W[i]::W.drop (i+1):=List.drop_eq_getElem_cons hi
  have hr:=rO f W[i]
  have hp:=qx hv W[i]
  have orx:0≤prC f W[i]∧prC f W[i]≤4095→Go.bits .or .i64 (v:Int) (prC f W[i])=((v|||(prC f W[i]).toNat:Nat):Int):=fun hx=>by
   have:=Bc (a:=v) (b:=(prC f W[i]).toNat) (by omega) (by omega)
   rwa [aT hx.1] at this
  rw [bR,ak (by omega),al (by omega),cz hi,hd,tT _ _ h,ae,cj (i:=i) (by omega)]
  simp only [mq]
  by_cases h0:0≤dY f W[i]
  ·have hval:=hv _ (yh (by omega:¬ dY f W[i]<0)).1
   have ep:prC f W[i]=(gt f (dY f W[i])).2:=by rw [prC,if_pos h0]
   have hb:0≤prC f W[i]∧prC f W[i]≤4095:=by rw [ep];omega
   rw [ak h0,al (by omega),← ep,orx hb,if_pos hb]
   exact jU h hv b W hw k (i+1) n _ (by omega) (by omega) hl (oD hv0 (by omega))
  ·have ep:prC f W[i]=da W[i]:=by rw [prC,if_neg h0]
   rw [ai h0,mW (hw _ (List.getElem_mem hi)),ae]
   rcases A6 (w:=W[i]) with ⟨d1,d2,d3⟩ | ⟨d1,d2⟩
   ·have hb:0≤prC f W[i]∧prC f W[i]≤4095:=by rw [ep];exact ⟨d1,d2⟩
    rw [d3,Bool.not_true,cond_false,lv,ae,decide_eq_true ⟨d1,d2⟩,Bool.not_true,cond_false,← ep,orx hb,if_pos hb]
    exact jU h hv b W hw k (i+1) n _ (by omega) (by omega) hl (oD hv0 (by omega))
   ·rw [if_neg (by rw [ep];exact d1)]
    cases hd2:(db W[i]).2 with
    | false=>rw [Bool.not_false,cond_true]
    | true =>
     rw [Bool.not_true,cond_false,lv,ae,decide_eq_false (d2.resolve_left (by rw [hd2];simp)),Bool.not_false,cond_true]

theorem me {f:List (ByteArray×Int)} (h:f.length≤1099511627776) (hv:V12 f) (b:Int) (W:List ByteArray) (hw:∀ w∈W,w.size≤1000000000):∀ (k i n v:Nat),i+k=W.length→k<n→W.length≤1000000000→v≤8192*i →
  cr f b W n (v:Int) (i:Int)=some (match kf f (W.drop i) v with | none=>.inl () | some x=>.inr (x:Int))
 | 0,i,n,v,hik,hn,hl,hv0=>by
  obtain ⟨n,rfl⟩:∃ m,n=m+1:=⟨n - 1,by omega⟩
  rw [cr,ai (by omega),List.drop_of_length_le (by omega)]
  rfl
 | k+1,i,n,v,hik,hn,hl,hv0=>by
  obtain ⟨n,rfl⟩:∃ m,n=m+1:=⟨n - 1,by omega⟩
  have hi:i<W.length:=by omega
  have hd:W.drop i=W[i]::W.drop (i+1):=List.drop_eq_getElem_cons hi
  have hp:=qx hv W[i]
  rw [cr,ak (by omega),al (by omega),cz hi,hd,wl h (hw _ (List.getElem_mem hi)),ae,cj (i:=i) (by omega)]
  simp only [kf]
  by_cases h0:prC f W[i]<0
  ·rw [ak h0,if_pos h0]
  ·have he:=BG v (prC f W[i]).toNat
   have e:=tO (a:=v) (b:=(prC f W[i]).toNat) (by omega) (by omega)
   rw [aT (by omega)] at e
   rw [ai h0,if_neg h0,e,ae]
   exact me h hv b W hw k (i+1) n _ (by omega) (by omega) hl (by omega)

def bj (f:List (ByteArray×Int)) (b:Int) (s:ByteArray):Int×Bool :=
 if bG f b then (match mq f (aI s 124) 0 with
  | none=>(0,false)
  | some x=>if aU f b (x:Int) then ((x:Int),true) else (0,false)) else (0,false)

theorem ir (s:ByteArray) (c:UInt8):∀ w∈aI s c,w.size≤s.size:=fun w hw=>by
 obtain ⟨p,hp,rfl⟩:=List.mem_map.1 hw
 have key:∀ (l:List UInt8),∀ q∈aV c l,q.length≤l.length:=by
  intro l
  induction l with
  | nil=>intro q hq;simp [aV] at hq;subst hq;simp
  | cons x r ih =>
   intro q hq
   unfold aV at hq
   split at hq
   ·rcases List.mem_cons.1 hq with rfl | hq
    ·simp
    ·have:=ih q hq;rw [List.length_cons];omega
   ·split at hq
    ·rename_i e0;exact absurd e0 (fb _ _)
    ·rename_i p0 ps e0
     rcases List.mem_cons.1 hq with rfl | hq
     ·have:=ih p0 (by rw [e0];simp);simp only [List.length_cons];omega
     ·have:=ih q (by rw [e0];simp [hq]);rw [List.length_cons];omega
 rw [dQ,cB]
 exact key _ p hp

theorem vA {f:List (ByteArray×Int)} (h:cH f) (b:Int) {s:ByteArray} (hs:s.size≤100000000):fB f b s=some (bj f b s):=by
 rw [fB,jS h,ae,bj]
 by_cases hf:bG f b
 ·have hwl:=hH s 124
  have hws:=ir s 124
  have el:=jU h.1 hf.v12 b (aI s 124) (fun w hw=>by have:=hws w hw;omega) (aI s 124).length 0 FU 0 (by omega) (by rw [FU_eq];omega) (by omega) (by omega)
  have el':bR f b (aI s 124) FU 0 0=some (match mq f (aI s 124) 0 with | none=>.inl () | some x=>.inr (x:Int)):=el
  rw [decide_eq_true hf,Bool.not_true,cond_false,if_pos hf,show (ByteArray.mk #[124])=bl [124] from rfl,ma (by omega),ae]
  show bd (bR f b (aI s 124) FU 0 0) _=_
  rw [el',ae]
  cases hr:mq f (aI s 124) 0 with
  | none=>rfl
  | some x =>
   simp only [sm]
   rw [dW h,ae]
   by_cases hv:aU f b (x:Int)
   ·rw [decide_eq_true hv,Bool.not_true,cond_false,if_pos hv]
   ·rw [decide_eq_false hv,Bool.not_false,cond_true,if_neg hv]
 ·rw [decide_eq_false hf,Bool.not_false,cond_true,if_neg hf]

theorem jI {f:List (ByteArray×Int)} (h:cH f) {b:Int} (hf:bG f b) {s:ByteArray} (hs:s.size≤100000000):bH f b s=some (if (bj f b s).2 then (bj f b s).1 else -1):=by
 have hwl:=hH s 124
 have hws:=ir s 124
 have el:=me h.1 hf.v12 b (aI s 124) (fun w hw=>by have:=hws w hw;omega) (aI s 124).length 0 FU 0 (by omega) (by rw [FU_eq];omega) (by omega) (by omega)
 have el':cr f b (aI s 124) FU 0 0=some (match kf f (aI s 124) 0 with | none=>.inl () | some x=>.inr (x:Int)):=el
 have es:=kX (s:=s) (c:=124) (by omega)
 have es':cA s 124=some (aI s 124):=es
 rw [bH,es',ae,el',ae,bj,if_pos hf]
 rcases BD hf.v12 (aI s 124) 0 (by omega) with ⟨x,hx,e1,e2⟩ | ⟨e1,e2⟩
 ·rw [e1,e2]
  simp only [sm]
  rw [kQ h,ae]
  by_cases hv:aU f b (x:Int)
  ·rw [decide_eq_true hv,Bool.not_true,cond_false,if_pos hv];rfl
  ·rw [decide_eq_false hv,Bool.not_false,cond_true,if_neg hv];rfl
 ·rw [e1]
  rcases e2 with e2 | ⟨x,e2,hx⟩
  ·rw [e2];rfl
  ·rw [e2]
   simp only [sm]
   rw [kQ h,ae,decide_eq_false (fun hv=>by have:=hv.2.1;omega)]
   rfl

theorem jo (c:UInt8):∀ l:List UInt8,c ∉ l→aV c l=[l]
 | [],_=>rfl
 | x::r,h=>by
  have h1:x≠c:=fun e=>h (by rw [e];simp)
  have h2:c ∉ r:=fun e=>h (by simp [e])
  rw [jF h1,jo c r h2];rfl

theorem jD (c:UInt8) (b:List UInt8):∀ a:List UInt8,aV c (a++c::b)=aV c a++aV c b
 | []=>by rw [List.nil_append,kv];rfl
 | x::a=>by
  rw [List.cons_append]
  by_cases h:x=c
  ·subst h;rw [kv,kv,jD x b a];rfl
  ·rw [jF h,jF h,jD c b a]
   cases e:aV c a with
   | nil=>exact absurd e (fb c a)
   | cons p ps=>rfl

theorem ug {c:UInt8} {w:ByteArray} (h:c ∉ w.data.toList):aI w c=[w]:=by
 rw [aI,jo c _ h,List.map_singleton,fX]

theorem zD {s:ByteArray} (h:eL s) {c:UInt8} (hc:c∈s.data.toList):97≤c.toNat∧c.toNat≤122:=by
 obtain ⟨i,hi,rfl⟩:=List.mem_iff_getElem.1 hc
 have:=h.1 i (by rw [cB];exact hi)
 rw [iq,List.getD,List.getElem?_eq_getElem hi,Option.getD_some] at this
 omega

theorem tt {s:ByteArray} (h:eL s) {c:UInt8} (hc:c.toNat<97∨122<c.toNat):c ∉ s.data.toList:=fun hm=>by
 have:=zD h hm;omega

theorem tM {f:List (ByteArray×Int)} {b:Int} (hf:bG f b) {list:List ByteArray} {rest:Int} (hl:list.length≤1000) (hs:∀ s∈list,s.size≤100) (hr:0≤rest∧rest≤1000000):(kM f list rest).size≤1000000:=by
 obtain ⟨h1,h2⟩:=qb hl hs hr
 rw [kM]
 split
 ·rw [qY]
  split
  ·rw [dQ];simp
  ·rename_i hv
   have hx:=kW f 0
   obtain ⟨i,hi⟩:=Int.eq_ofNat_of_zero_le (by omega:0≤dT f 0)
   have hlt:i<f.length:=by omega
   have:=hf.small f[i] (List.getElem_mem hlt)
   rw [hi];rw [cz hlt];omega
 ·rw [kS,dQ]
  have:=vD [124] (by simp) ((gC list rest).map (·.data.toList)) (fun x hx=>by
   obtain ⟨y,hy,rfl⟩:=List.mem_map.1 hx
   rw [← cB];exact h2 y hy)
  rw [List.length_map] at this
  omega

theorem xn (f:List (ByteArray×Int)) (b a:Int):(ch f b a).size≤1000000:=by
 rw [ch]
 split
 ·rename_i hv
  have h1:=hv.2.1
  have hr:=sT f a.toNat
  refine tM hv.1 (by have:=kV f a.toNat;omega) (jm hv.1 (fun d hd=>lH hd)) (by omega)
 ·simp

theorem vz (f:List (ByteArray×Int)) (b a:Int):(eN f b a).size≤1000000:=by
 rw [eN]
 split
 ·rename_i hv
  have h1:=hv.2.1
  have hr:=jx a.toNat (aP (dy f a.toNat))
  have:=hv.1.len
  have:=kq f a.toNat
  exact tM hv.1 (by rw [List.length_map];omega) (jm hv.1 (fun d hd=>hF hd)) (by omega)
 ·simp

theorem qp {code:List Int} (hc:fV code) (hl:code.length≤9223372036854775807) {e:List (ByteArray×Int)} (he:iL e):∀ (k n:Nat) (acc:List ByteArray) (p:Int),k<n→k≤10→acc.length+k≤100→(∀ s∈acc,s.size≤7)→0≤p→p+3*k<900000 →
  ∃ r,bP e code n acc (k:Int) p=some r∧r.1.length≤acc.length+k∧(∀ s∈r.1,s.size≤7)∧p≤r.2∧r.2≤p+3*k
 | 0,n,acc,p,hn,hk,ha,hs,h0,hp=>by
  cases n with
  | zero=>omega
  | succ n=>exact ⟨(acc,p),by rw [bP,ai (by omega)],by simp,hs,by simp,by simp⟩
 | k+1,n,acc,p,hn,hk,ha,hs,h0,hp=>by
  cases n with
  | zero=>omega
  | succ n =>
   have go:∀ (x:ByteArray) (q:Int),x.size≤7→p≤q→q≤p+3→∃ r,bP e code n (acc++([x]:List ByteArray)) (k:Int) q=some r∧r.1.length≤acc.length+(k+1)∧(∀ s∈r.1,s.size≤7)∧p≤r.2∧r.2≤p+3*((k+1:Nat):Int):=fun x q hx h1 h2=>by
    obtain ⟨r,er,g,g2,g3,g4⟩:=qp hc hl he k n (acc++[x]) q (by omega) (by omega) (by rw [List.length_append,List.length_singleton];omega) (fun s hs'=>by
     rcases List.mem_append.1 hs' with h | h
     ·exact hs s h
     ·rw [List.mem_singleton.1 h];exact hx) (by omega) (by omega)
    exact ⟨r,er,by rw [List.length_append,List.length_singleton] at g;omega,g2,by omega,by omega⟩
   have w1:IntKind.wrap .i64 (p+1)=p+1:=w64 (by omega) (by omega)
   have w2:IntKind.wrap .i64 (p+1+1)=p+1+1:=w64 (by omega) (by omega)
   have w3:IntKind.wrap .i64 (p+1+1+1)=p+1+1+1:=w64 (by omega) (by omega)
   have wk:IntKind.wrap .i64 (((k+1:Nat):Int) - 1)=(k:Int):=by rw [w64 (by omega) (by omega)];omega
   rw [bP,ak (by omega)]
   simp only [w1,w2,w3,wk]
   by_cases hz:0<(e.length:Int)
   ·obtain ⟨x,ex,lx,ux⟩:=pick (n:=12) hc hl (p:=p) ⟨by omega,by omega⟩
    rw [ak hz,ex,ae]
    by_cases hx:0<x
    ·obtain ⟨y,ey,ly,uy⟩:=pick (n:=(e.length:Int)) hc hl (p:=p+1) ⟨by omega,by omega⟩
     have uy:=uy (by omega)
     rw [ak hx,ey,ae,al ⟨ly,uy⟩,al (by rw [List.length_singleton];omega)]
     exact go _ _ (he.2 _ (eD ⟨ly,uy⟩)).1 (by omega) (by omega)
    ·obtain ⟨y,ey,hy⟩:=vk hc hl (p:=p+1) ⟨by omega,by omega⟩ (by omega)
     rw [ai hx,ey,ae,al (by rw [List.length_singleton];omega)]
     exact go _ _ hy (by omega) (by omega)
   ·obtain ⟨y,ey,hy⟩:=vk hc hl (p:=p) ⟨by omega,by omega⟩ (by omega)
    rw [ai hz,ey,ae,al (by rw [List.length_singleton];omega)]
    exact go _ _ hy (by omega) (by omega)

theorem AG {code:List Int} (hc:fV code) (hl:code.length≤9223372036854775807) {e:List (ByteArray×Int)} (he:iL e) {p:Int} (hp:0≤p∧p<800000) :
  ∃ r,gB e code p=some r∧r.1.length≤4∧(∀ s∈r.1,s.size≤7)∧p≤r.2∧r.2≤p+20:=by
 obtain ⟨x,ex,lx,ux⟩:=pick (n:=4) hc hl (p:=p) ⟨by omega,by omega⟩
 have ux:=ux (by omega)
 obtain ⟨k,rfl⟩:=Int.eq_ofNat_of_zero_le lx
 obtain ⟨r,er,g,g2,g3,g4⟩:=qp hc hl he k FU [] (p+1) (by rw [FU_eq];omega) (by omega) (by rw [List.length_nil];omega) (by simp) (by omega) (by omega)
 rw [List.length_nil] at g
 refine ⟨(r.1,r.2),?_,by simp only;omega,g2,by simp only;omega,by simp only;omega⟩
 rw [gB,ex,ae,w64 (by omega) (by omega),er,ae]

theorem qU {code:List Int} {p:Int} (hc:fV code) (hl:code.length≤9223372036854775807) (hp:0≤p∧p<1000000) (xs:List ByteArray) (hx:xs≠[]) (hs:∀ x∈xs,x.size≤10):∃ x,bq xs code p=some x∧x.size≤10:=by
 obtain ⟨x,e,h⟩:=wV hc hl hp hx
 exact ⟨x,e,hs x h⟩

theorem AM {l:List ByteArray} (hl:l.length≤1000) (h:∀ x∈l,x.size≤100) (c:UInt8):(kS l [c]).size≤110*l.length:=by
 rw [kS,dQ]
 have:=vD [c] (by simp) (l.map (·.data.toList)) (fun x hx=>by
  obtain ⟨y,hy,rfl⟩:=List.mem_map.1 hx
  rw [← cB];exact h y hy)
 rwa [List.length_map] at this

theorem BA {code:List Int} (hc:fV code) (hl:code.length≤9223372036854775807) {f:List (ByteArray×Int)} (hf:iL f) (b:Int) {p:Int} (hp:0≤p∧p<700000) :
  ∃ r,fM f b code p=some r∧r.1.size≤1000∧p≤r.2∧r.2≤p+30:=by
 obtain ⟨⟨ns,q⟩,e1,n1,n2,n3,n4⟩:=AG hc hl hf (p:=p) ⟨by omega,by omega⟩
 simp only at n1 n2 n3 n4
 obtain ⟨x,ex,lx,ux⟩:=pick (n:=4) hc hl (p:=q) ⟨by omega,by omega⟩
 have w1:IntKind.wrap .i64 (q+1)=q+1:=w64 (by omega) (by omega)
 have w2:IntKind.wrap .i64 (q+1+1)=q+1+1:=w64 (by omega) (by omega)
 have w3:IntKind.wrap .i64 (q+1+1+1)=q+1+1+1:=w64 (by omega) (by omega)
 have e124:ByteArray.mk #[124]=bl [124]:=rfl
 obtain ⟨z,ez,hz⟩:=qU hc hl (p:=q+1) ⟨by omega,by omega⟩ [(ByteArray.mk #[49]),(ByteArray.mk #[56]),(ByteArray.mk #[51,50]),(ByteArray.mk #[48]),(ByteArray.mk #[52,48,57,53]),(ByteArray.mk #[52,48,57,54]),(ByteArray.mk #[48,49])] (by simp) (by decide)
 have jn:∀ l:List ByteArray,l.length≤9→(∀ s∈l,s.size≤10)→cD l (bl [124])=some (kS l [124])∧(kS l [124]).size≤1000:=fun l h1 h2=>by
  have h3:∀ x∈l,x.size≤100:=fun x hx=>by have:=h2 x hx;omega
  have:=AM (by omega) h3 124
  exact ⟨lY (by simp) (by omega) h3,by omega⟩
 have hns:∀ s∈ns,s.size≤10:=fun s hs=>by have:=n2 s hs;omega
 rw [fM,e1,ae]
 simp only [w1,w2,w3,e124]
 rw [ex,ae]
 by_cases hx:x=0
 ·have h10:∀ s∈ns++[z],s.size≤10:=fun s hs=>by
   rcases List.mem_append.1 hs with h | h
   ·exact hns s h
   ·rw [List.mem_singleton.1 h];exact hz
  rw [ak hx,ez,ae,al (by rw [List.length_singleton];omega),bN,decide_eq_false (by rw [List.length_append,List.length_singleton];omega),cond_false,(jn (ns++[z]) (by rw [List.length_append,List.length_singleton];omega) h10).1,ae]
  exact ⟨_,rfl,(jn (ns++[z]) (by rw [List.length_append,List.length_singleton];omega) h10).2,by simp only;omega,by simp only;omega⟩
 ·rw [ai hx]
  by_cases hn:(ns.length:Int)=0
  ·obtain ⟨y,ey,hy⟩:=qU hc hl (p:=q+1) ⟨by omega,by omega⟩ [(ByteArray.mk #[48]),(ByteArray.mk #[49]),ByteArray.empty] (by simp) (by decide)
   rw [ak hn,ey,ae,(jn [y] (by simp) (by simpa using hy)).1,ae]
   exact ⟨_,rfl,(jn [y] (by simp) (by simpa using hy)).2,by simp only;omega,by simp only;omega⟩
  ·rw [ai hn,(jn ns (by omega) hns).1,ae]
   exact ⟨_,rfl,(jn ns (by omega) hns).2,by simp only;omega,by simp only;omega⟩

theorem nE (s:ByteArray) (i j:Nat) (hj:j≤s.size):(s.extract i j).size≤j - i:=by
 rw [ByteArray.size_extract];omega

theorem Cl {code:List Int} (hc:fV code) (hl:code.length≤9223372036854775807) {s:ByteArray} (hs:s.size≤100000000) {p:Int} (hp:0≤p∧p<900000) :
  ∃ r,ja s code p=some r∧r.1.size≤s.size+10∧p≤r.2∧r.2≤p+3:=by
 have w1:IntKind.wrap .i64 (p+1)=p+1:=w64 (by omega) (by omega)
 have w2:IntKind.wrap .i64 (p+1+1)=p+1+1:=w64 (by omega) (by omega)
 have w3:IntKind.wrap .i64 (p+1+1+1)=p+1+1+1:=w64 (by omega) (by omega)
 have wz:IntKind.wrap .i64 ((s.size:Int)+1)=(s.size:Int)+1:=w64 (by omega) (by omega)
 obtain ⟨x,ex,lx,ux⟩:=pick (n:=(s.size:Int)+1) hc hl (p:=p) ⟨by omega,by omega⟩
 have ux:=ux (by omega)
 obtain ⟨i,rfl⟩:=Int.eq_ofNat_of_zero_le lx
 have wi:IntKind.wrap .i64 ((i:Int)+1)=((i+1:Nat):Int):=by rw [w64 (by omega) (by omega)];omega
 obtain ⟨y,ey,ly,uy⟩:=pick (n:=5) hc hl (p:=p+1) ⟨by omega,by omega⟩
 obtain ⟨z,ez,hz⟩:=qU hc hl (p:=p+1+1) ⟨by omega,by omega⟩ [(ByteArray.mk #[48]),(ByteArray.mk #[49]),(ByteArray.mk #[124]),(ByteArray.mk #[32]),(ByteArray.mk #[97]),(ByteArray.mk #[33]),(ByteArray.mk #[45]),(ByteArray.mk #[61]),(ByteArray.mk #[10])] (by simp) (by decide)
 obtain ⟨v,ev,hv⟩:=qU hc hl (p:=p+1+1) ⟨by omega,by omega⟩ [(ByteArray.mk #[48]),(ByteArray.mk #[124]),(ByteArray.mk #[32]),(ByteArray.mk #[97]),(ByteArray.mk #[10])] (by simp) (by decide)
 rw [ja,wz,ex,ae]
 simp only [w1,w2,w3,wi]
 rw [ey,ae]
 have e1:=nE s 0 i (by omega)
 have cut:∀ h:(i:Int)<(s.size:Int),∃ r:ByteArray×Int,(gd (0≤(0:Int)∧(0:Int)≤(i:Int)∧(i:Int)≤(s.size:Int)) <| bd (bq [(ByteArray.mk #[48]),(ByteArray.mk #[49]),(ByteArray.mk #[124]),(ByteArray.mk #[32]),(ByteArray.mk #[97]),(ByteArray.mk #[33]),(ByteArray.mk #[45]),(ByteArray.mk #[61]),(ByteArray.mk #[10])] code (p+1+1)) fun x6 =>
   gd ((s.extract (0:Int).toNat (i:Int).toNat).size+x6.size≤9223372036854775807) <|
   gd (0≤((i+1:Nat):Int)∧((i+1:Nat):Int)≤(s.size:Int)∧(s.size:Int)≤(s.size:Int)) <|
   nm (s.extract ((i+1:Nat):Int).toNat (s.size:Int).toNat) fun v7 =>
   gd (((s.extract (0:Int).toNat (i:Int).toNat)++x6).size+v7.size≤9223372036854775807) <|
   some (((s.extract (0:Int).toNat (i:Int).toNat)++x6)++v7,p+1+1+1))=some r∧r.1.size≤s.size+10∧p≤r.2∧r.2≤p+3:=fun h=>by
  have e2:=nE s (i+1) s.size (by omega)
  have e0:(0:Int).toNat=0:=rfl
  rw [al (by omega),ez,ae,bN,e0,Int.toNat_natCast,Int.toNat_natCast,Int.toNat_natCast,al (by omega),al (by omega),al (by rw [ByteArray.size_append];omega)]
  exact ⟨_,rfl,by simp only [ByteArray.size_append];omega,by simp only;omega,by simp only;omega⟩
 by_cases h0:y=0
 ·rw [ak h0]
  by_cases h:(i:Int)<(s.size:Int)
  ·rw [ak h];exact cut h
  ·rw [ai h];exact ⟨_,rfl,by simp only;omega,by simp only;omega,by simp only;omega⟩
 ·rw [ai h0]
  by_cases h1:y=1
  ·rw [ak h1]
   by_cases h:(i:Int)<(s.size:Int)
   ·rw [ak h];exact cut h
   ·rw [ai h];exact ⟨_,rfl,by simp only;omega,by simp only;omega,by simp only;omega⟩
  ·rw [ai h1]
   by_cases h2:y=2
   ·rw [ak h2,al (by omega)]
    exact ⟨_,rfl,by
     have e0:(0:Int).toNat=0:=rfl
     simp only [e0,Int.toNat_natCast];omega,by simp only;omega,by simp only;omega⟩
   ·rw [ai h2]
    by_cases h3:y=3
    ·rw [ak h3,ev,ae,al (by omega)]
     exact ⟨_,rfl,by simp only [ByteArray.size_append];omega,by simp only;omega,by simp only;omega⟩
    ·rw [ai h3]
     exact ⟨_,rfl,by simp only;omega,by simp only;omega,by simp only;omega⟩

theorem xu.len {l:List (ByteArray×Int)} (h:xu l):l.length≤12:=h.2

def dB (s:ByteArray):Int×Bool :=
 if s≠ByteArray.empty∧aH s 0=45 then (if da (s.extract 1 s.size)≤0 then (0,false) else (0 - da (s.extract 1 s.size),true)) else (if da s<0 then (0,false) else (da s,true))

theorem yw (s:ByteArray) : -1≤da s∧da s≤4096:=by
 rcases jd s with ⟨e,_⟩ | ⟨n,hn,_,e⟩ <;> rw [e] <;> omega

theorem nl {s:ByteArray} (hs:s.size≤1000000000):eY s=some (dB s):=by
 rw [eY,dB]
 have fin:∀ h:¬ (s≠ByteArray.empty∧aH s 0=45),(bd (cP s) fun x3=>bif decide (x3<0) then some ((0:Int),false) else some (x3,true))=some (if s≠ByteArray.empty∧aH s 0=45 then (if da (s.extract 1 s.size)≤0 then (0,false) else (0 - da (s.extract 1 s.size),true)) else (if da s<0 then (0,false) else (da s,true))):=fun h=>by
  rw [kY hs,ae,if_neg h]
  by_cases h1:da s<0
  ·rw [ak h1,if_pos h1]
  ·rw [ai h1,if_neg h1]
 by_cases h0:s=ByteArray.empty
 ·rw [decide_eq_true h0,Bool.not_true,cond_false]
  exact fin (fun h=>h.1 h0)
 ·have hpos:0<s.size:=by
   rcases Nat.eq_zero_or_pos s.size with h' | h'
   ·exfalso;apply h0
    have e0:s.data.toList=[]:=List.eq_nil_of_length_eq_zero (by rw [← cB];exact h')
    rw [← fX s,e0];rfl
   ·exact h'
  rw [decide_eq_false h0,Bool.not_false,cond_true,al (by omega)]
  have e0:(0:Int).toNat=0:=rfl
  have e1:(1:Int).toNat=1:=rfl
  rw [e0,e1,Int.toNat_natCast]
  by_cases hm:aH s 0=45
  ·have hr:=yw (s.extract 1 s.size)
   rw [ak hm,al (by omega),kY (by rw [ByteArray.size_extract];omega),ae,if_pos ⟨h0,hm⟩]
   by_cases h1:da (s.extract 1 s.size)<0
   ·rw [ak h1,if_pos (by omega)]
   ·by_cases h2:da (s.extract 1 s.size)=0
    ·rw [ai h1,ak h2,if_pos (by omega)]
    ·rw [ai h1,ai h2,if_neg (by omega),w64 (by omega) (by omega)]
  ·rw [ai hm]
   exact fin (fun h=>hm h.2)

theorem uj {n:Nat} (hn:n≤4096):da (bz (n:Int))=n:=by
 rcases jd (bz (n:Int)) with ⟨_,h⟩ | ⟨m,hm,e,er⟩
 ·exact absurd rfl (h n hn)
 ·rw [er]
  have e1:=lO (n:=(n:Int)) ⟨by omega,by omega⟩
  have e2:=lO (n:=(m:Int)) ⟨by omega,by omega⟩
  rw [e,e2] at e1
  exact congrArg Prod.fst e1

theorem oJ {n:Nat} (h:0<n):bz (0 - (n:Int))=bl (45::(bz (n:Int)).data.toList):=by
 rw [bz,bz,bL,ui (by omega)]
 rw [show (0:Int) - (0 - (n:Int))=n by omega]

theorem wI {n:Nat}:∃ c r,(bz (n:Int)).data.toList=c::r∧48≤c.toNat:=by
 rw [wc,bL]
 obtain ⟨c,r,e⟩:=List.exists_cons_of_ne_nil (kT n)
 exact ⟨c,r,e,(decDigits_digit n c (by rw [e];simp)).1⟩

theorem vK {v:Int} (h : -4096≤v∧v≤4096):dB (bz v)=(v,true):=by
 by_cases hv:v<0
 ·obtain ⟨n,hn⟩:=Int.eq_ofNat_of_zero_le (show 0≤0 - v by omega)
  have ev:v=0 - (n:Int):=by omega
  have ex:(bz v).extract 1 (bz v).size=bz (n:Int):=by
   rw [ev,oJ (by omega),kN,bL]
   rw [dQ]
   simp [fX]
   rw [cB,List.take_length,fX]
  have hh:bz v≠ByteArray.empty∧aH (bz v) 0=45:=by
   refine ⟨xF v,?_⟩
   rw [ev,oJ (by omega),iq,bL];rfl
  rw [dB,if_pos hh,ex,uj (by omega),if_neg (by omega)]
  rw [ev]
 ·obtain ⟨n,rfl⟩:=Int.eq_ofNat_of_zero_le (show 0≤v by omega)
  obtain ⟨c,r,e,hc⟩:=wI (n:=n)
  rw [dB,if_neg,uj (by omega),if_neg (by omega)]
  rintro ⟨_,hb⟩
  rw [iq,e] at hb
  simp at hb;omega

theorem vf {s:ByteArray} (h:(dB s).2=true):s=bz (dB s).1 ∧ -4096≤(dB s).1∧(dB s).1≤4096:=by
 by_cases hm:s≠ByteArray.empty∧aH s 0=45
 ·by_cases h1:da (s.extract 1 s.size)≤0
  ·rw [dB,if_pos hm,if_pos h1] at h;cases h
  ·have e:dB s=(0 - da (s.extract 1 s.size),true):=by rw [dB,if_pos hm,if_neg h1]
   rcases jd (s.extract 1 s.size) with ⟨e1,_⟩ | ⟨n,hn,e2,e1⟩
   ·omega
   ·rw [e]
    simp only []
    rw [e1]
    refine ⟨?_,by omega,by omega⟩
    rw [oJ (by omega),← e2]
    cases es:s.data.toList with
    | nil=>exact absurd (by rw [← fX s,es];rfl) hm.1
    | cons c r =>
     have hc:c=45:=by
      have:=hm.2
      rw [iq,es] at this
      apply UInt8.toNat_inj.1
      simp at this
      show c.toNat=45
      omega
     rw [kN,bL,cB,es,hc]
     conv=>lhs;rw [← fX s,es,hc]
     simp
 ·by_cases h1:da s<0
  ·rw [dB,if_neg hm,if_pos h1] at h;cases h
  ·have e:dB s=(da s,true):=by rw [dB,if_neg hm,if_neg h1]
   rcases jd s with ⟨e1,_⟩ | ⟨n,hn,e2,e1⟩
   ·omega
   ·rw [e]
    simp only []
    rw [e1]
    exact ⟨e2,by omega,by omega⟩

def eq3:List UInt8:=[32,61,32]

theorem BH {a b:List UInt8} (h:(32:UInt8) ∉ a):Lib.cut (a++(eq3++b)) eq3=(a,b,true):=by
 have hi:Lib.index (a++(eq3++b)) eq3=(a.length:Int):=by
  refine Lib.index_first (by simp) ?_ (fun j hj=>?_)
  ·rw [Lib.occAt,List.drop_left]
   simp [eq3,List.isPrefixOf]
  ·rw [Lib.occAt,List.drop_append_of_le_length (by omega),List.drop_eq_getElem_cons hj,List.cons_append]
   have hne:a[j]≠32:=fun e=>h (by rw [← e];exact List.getElem_mem hj)
   have:((32:UInt8) == a[j])=false:=by simpa using fun e=>hne e.symm
   simp only [eq3,List.isPrefixOf,this,Bool.false_and]
 rw [Lib.cut,hi,if_pos (by omega),Int.toNat_natCast,List.take_left]
 congr 2
 rw [← List.drop_drop,List.drop_left,List.drop_left]

theorem nx {l sep:List UInt8} (h:(Lib.cut l sep).2.2=true):l=(Lib.cut l sep).1++(sep++(Lib.cut l sep).2.1):=by
 rw [Lib.cut] at *
 by_cases h0:0≤Lib.index l sep
 ·rw [if_pos h0]
  simp only []
  rcases Lib.index_spec l sep with ⟨e,_⟩ | ⟨i,e,hi,ho,_⟩
  ·omega
  ·rw [e,Int.toNat_natCast]
   rw [Lib.occAt,List.isPrefixOf_iff_prefix] at ho
   obtain ⟨t,ht⟩:=ho
   have e2:l.drop (i+sep.length)=t:=by rw [← List.drop_drop,← ht,List.drop_left]
   rw [e2,ht,List.take_append_drop]
 ·rw [if_neg h0] at h;cases h

theorem qX {l:List UInt8} (h:(Lib.cut l eq3).2.2=false):Lib.cut l eq3=(l,[],false):=by
 rw [Lib.cut] at *
 split at h
 ·cases h
 ·rename_i h0;rw [if_neg h0]

abbrev eQ:=ByteArray×Bool×Int

def dH (w:ByteArray):Option eQ:=if (Lib.cut w.data.toList eq3).2.2 then (if (db (bl (Lib.cut w.data.toList eq3).2.1)).2 then some (bl (Lib.cut w.data.toList eq3).1,false,(db (bl (Lib.cut w.data.toList eq3).2.1)).1) else none) else some (bl (Lib.cut w.data.toList eq3).1,true,0)

def bK (w:ByteArray):Option eQ:=if (aI w 32).length=1 then some (w,true,0) else if (aI w 32).length=3∧gt (aI w 32) 1=bl [61] then (if (dB (gt (aI w 32) 2)).2 then some (gt (aI w 32) 0,false,(dB (gt (aI w 32) 2)).1) else none) else none

def uV (x:eQ):Prop:=eL x.1 ∧ -1000≤x.2.2∧x.2.2≤4095

theorem oz (c:UInt8):∀ l:List UInt8,Lib.join (aV c l) [c]=l
 | []=>by rw [aV,Lib.join_one]
 | x::r=>by
  have ih:=oz c r
  have two:∀ (p:List UInt8) (q:List UInt8) (t:List (List UInt8)),Lib.join (p::q::t) [c]=p++c::Lib.join (q::t) [c]:=fun p q t=>by
   rw [Lib.join_cons,Lib.join_cons,Lib.joinTail,Lib.joinTail];simp
  by_cases h:x=c
  ·subst h
   rw [kv]
   cases e:aV x r with
   | nil=>exact absurd e (fb _ _)
   | cons p ps=>rw [two,← e,ih];rfl
  ·rw [jF h]
   cases e:aV c r with
   | nil=>exact absurd e (fb _ _)
   | cons p ps =>
    rw [e] at ih
    cases ps with
    | nil =>
     rw [Lib.join_one] at ih
     rw [ih]
     exact Lib.join_one _ _
    | cons q t =>
     rw [two] at ih
     show Lib.join ((x::p)::q::t) [c]=_
     rw [two,List.cons_append,ih]

theorem oA (c:UInt8):∀ l:List UInt8,∀ p∈aV c l,c ∉ p
 | [],p,hp=>by simp [aV] at hp;subst hp;simp
 | x::r,p,hp=>by
  by_cases h:x=c
  ·subst h
   rw [kv] at hp
   rcases List.mem_cons.1 hp with rfl | hp
   ·simp
   ·exact oA x r p hp
  ·rw [jF h] at hp
   cases e:aV c r with
   | nil=>exact absurd e (fb _ _)
   | cons q t =>
    have ih:=oA c r
    rw [e] at hp ih
    rcases List.mem_cons.1 hp with rfl | hp
    ·intro hm
     rcases List.mem_cons.1 hm with hm | hm
     ·exact h hm.symm
     ·exact ih q (by simp) hm
    ·exact ih p (by simp [hp])

theorem AH {w:ByteArray} {c:UInt8} (h:(aI w c).length=1):c ∉ w.data.toList:=by
 rw [aI,List.length_map] at h
 have e:=oz c w.data.toList
 have hn:=oA c w.data.toList
 cases hs:aV c w.data.toList with
 | nil=>rw [hs] at h;cases h
 | cons p t =>
  rw [hs] at h e hn
  have:t=[]:=List.eq_nil_of_length_eq_zero (by rw [List.length_cons] at h;omega)
  subst this
  rw [Lib.join_one] at e
  rw [← e];exact hn p (by simp)

theorem yP {w:ByteArray} {c:UInt8} (h:(aI w c).length=3):∃ p q r,aI w c=[bl p,bl q,bl r]∧w.data.toList=p++c::(q++c::r)∧c ∉ p∧c ∉ q∧c ∉ r:=by
 rw [aI,List.length_map] at h
 have e:=oz c w.data.toList
 have hn:=oA c w.data.toList
 rw [aI]
 match hs:aV c w.data.toList,h with
 | [p,q,r],_ =>
  rw [hs] at e hn
  refine ⟨p,q,r,rfl,?_,hn p (by simp),hn q (by simp),hn r (by simp)⟩
  rw [← e]
  rw [Lib.join_cons,Lib.joinTail];simp

theorem BK {w:ByteArray} {x:eQ} (hx:bK w=some x) (hg:uV x):dH w=some x:=by
 rw [bK] at hx
 by_cases h1:(aI w 32).length=1
 ·rw [if_pos h1] at hx
  cases hx
  have hn:=AH h1
  have hc:(Lib.cut w.data.toList eq3).2.2=false:=by
   cases hc:(Lib.cut w.data.toList eq3).2.2 with
   | false=>rfl
   | true =>
    exfalso
    have:=nx hc
    apply hn
    rw [this];simp [eq3]
  have e:=qX hc
  rw [dH,e]
  simp only [Bool.false_eq_true,if_false]
  rw [fX]
 ·rw [if_neg h1] at hx
  by_cases h3:(aI w 32).length=3∧gt (aI w 32) 1=bl [61]
  ·rw [if_pos h3] at hx
   obtain ⟨p,q,r,ew,el,np,nq,nr⟩:=yP h3.1
   have g0:gt (aI w 32) 0=bl p:=by rw [ew];rfl
   have g1:gt (aI w 32) 1=bl q:=by rw [ew];rfl
   have g2:gt (aI w 32) 2=bl r:=by rw [ew];rfl
   have hq:q=[61]:=by have:=h3.2;rw [g1,tP] at this;exact this
   rw [g0,g2] at hx
   cases hs:(dB (bl r)).2 with
   | false=>rw [hs] at hx;cases hx
   | true =>
    rw [hs] at hx
    simp only [if_true,Option.some.injEq] at hx
    subst hx
    obtain ⟨e1,e2,e3⟩:=vf hs
    have hl:w.data.toList=p++(eq3++r):=by rw [el,hq];simp [eq3]
    have hd:db (bl r)=((dB (bl r)).1,true):=by
     have:=lO (n:=(dB (bl r)).1) ⟨by omega,by omega⟩
     rwa [← e1] at this
    rw [dH,hl,BH np]
    simp only [if_true]
    rw [hd]
    simp
  ·rw [if_neg h3] at hx;cases hx

theorem B2 {w:ByteArray} {x:eQ} (hx:dH w=some x) (hg:uV x):bK w=some x:=by
 rw [dH] at hx
 cases hc:(Lib.cut w.data.toList eq3).2.2 with
 | false =>
  rw [qX hc] at hx
  simp only [Bool.false_eq_true,if_false,Option.some.injEq] at hx
  rw [fX] at hx
  subst hx
  have hn:=tt hg.1 (c:=32) (.inl (by decide))
  rw [bK,ug hn,if_pos (by rfl)]
 | true =>
  rw [hc] at hx
  simp only [if_true] at hx
  have hl:=nx hc
  cases hd:(db (bl (Lib.cut w.data.toList eq3).2.1)).2 with
  | false=>rw [hd] at hx;cases hx
  | true =>
   rw [hd] at hx
   simp only [if_true,Option.some.injEq] at hx
   generalize (Lib.cut w.data.toList eq3).1=p at hl hx
   generalize (Lib.cut w.data.toList eq3).2.1=r at hl hx hd
   obtain ⟨e1,e2⟩:=qT hd
   subst hx
   have hr:=hg.2
   simp only at hr
   have np:(32:UInt8) ∉ p:=by
    have:=tt hg.1 (c:=32) (.inl (by decide))
    rwa [bL] at this
   have nr:(32:UInt8) ∉ r:=by
    intro hm
    have hm':(32:UInt8)∈(bl r).data.toList:=by rw [bL];exact hm
    rw [e1,bz,bL,Lib.itoa] at hm'
    split at hm'
    ·rcases List.mem_cons.1 hm' with h | h
     ·cases h
     ·have:=decDigits_digit _ _ h;have e32:(32:UInt8).toNat=32:=rfl;omega
    ·have:=decDigits_digit _ _ hm';have e32:(32:UInt8).toNat=32:=rfl;omega
   have ew:aI w 32=[bl p,bl [61],bl r]:=by
    have e3:w.data.toList=p++32::([61]++32::r):=by rw [hl];simp [eq3]
    rw [aI,e3,jD,jD,jo 32 p np,jo 32 r nr,jo 32 [61] (by decide)]
    rfl
   have hs:dB (bl r)=((db (bl r)).1,true):=by
    have:=vK (v:=(db (bl r)).1) ⟨by omega,by omega⟩
    rwa [← e1] at this
   have g0:gt [bl p,bl [61],bl r] 0=bl p:=rfl
   have g1:gt [bl p,bl [61],bl r] 1=bl [61]:=rfl
   have g2:gt [bl p,bl [61],bl r] 2=bl r:=rfl
   rw [bK,ew,if_neg (by simp),g0,g1,g2,if_pos ⟨by simp,rfl⟩,hs]
   simp

def eg (f:ByteArray→Option eQ):List ByteArray→Option (List eQ)
 | []=>some []
 | w::r=>match f w with
  | none=>none
  | some x=>(eg f r).map (x::·)

theorem lj {f:ByteArray→Option eQ}:∀ {l:List ByteArray} {r:List eQ},eg f l=some r→r.length=l.length∧(∀ x∈r,∃ w∈l,f w=some x)∧∀ w∈l,∃ x∈r,f w=some x
 | [],r,h=>by simp only [eg] at h;cases h;simp
 | w::l,r,h=>by
  simp only [eg] at h
  cases e:f w with
  | none=>rw [e] at h;cases h
  | some x =>
   rw [e] at h
   cases e2:eg f l with
   | none=>rw [e2] at h;cases h
   | some t =>
    rw [e2] at h
    simp only [Option.map_some,Option.some.injEq] at h
    subst h
    obtain ⟨h1,h2,h3⟩:=lj e2
    refine ⟨by simp [h1],fun y hy=>?_,fun y hy=>?_⟩
    ·rcases List.mem_cons.1 hy with rfl | hy
     ·exact ⟨w,by simp,e⟩
     ·obtain ⟨v,hv,ev⟩:=h2 y hy;exact ⟨v,by simp [hv],ev⟩
    ·rcases List.mem_cons.1 hy with rfl | hy
     ·exact ⟨x,by simp,e⟩
     ·obtain ⟨v,hv,ev⟩:=h3 y hy;exact ⟨v,by simp [hv],ev⟩

theorem zX (T:List ByteArray):eg dH T=eg bK T∨((∀ r,eg dH T=some r→∃ x∈r,¬ uV x)∧(∀ r,eg bK T=some r→∃ x∈r,¬ uV x)):=by
 classical
 by_cases h:∀ w∈T,dH w=bK w
 ·left
  induction T with
  | nil=>rfl
  | cons w r ih =>
   simp only [eg]
   rw [h w (by simp),ih (fun v hv=>h v (by simp [hv]))]
 ·right
  obtain ⟨w,hw⟩:=Classical.not_forall.1 h
  obtain ⟨hw,hne⟩:=Classical.not_imp.1 hw
  refine ⟨fun r hr=>?_,fun r hr=>?_⟩
  ·obtain ⟨x,hx,ex⟩:=(lj hr).2.2 w hw
   exact ⟨x,hx,fun hg=>hne (by rw [ex,B2 ex hg])⟩
  ·obtain ⟨x,hx,ex⟩:=(lj hr).2.2 w hw
   exact ⟨x,hx,fun hg=>hne (by rw [ex,BK ex hg])⟩

theorem vr (l:List UInt8):(Lib.hasSuffix l [10]=true→l=Lib.trimSuffix l [10]++[10])∧(Lib.hasSuffix l [10]=false→(10:UInt8) ∉ l∨∃ a b,l=a++10::b∧(10:UInt8) ∉ b∧b≠[]):=by
 constructor
 ·intro h
  have h2:=h
  rw [Lib.hasSuffix,List.isSuffixOf_iff_suffix] at h2
  obtain ⟨t,ht⟩:=h2
  have e:Lib.trimSuffix l [10]=t:=by
   rw [Lib.trimSuffix,if_pos h,← ht]
   simp
  rw [e,ht]
 ·intro h
  have key:∀ m:List UInt8,(10:UInt8) ∉ m∨∃ a b,m=a++10::b∧(10:UInt8) ∉ b:=by
   intro m
   induction m with
   | nil=>left;simp
   | cons x r ih =>
    rcases ih with ih | ⟨a,b,e,hb⟩
    ·by_cases hx:x=10
     ·right;exact ⟨[],r,by rw [hx];rfl,ih⟩
     ·left;intro hm
      rcases List.mem_cons.1 hm with hm | hm
      ·exact hx hm.symm
      ·exact ih hm
    ·right;exact ⟨x::a,b,by rw [e];rfl,hb⟩
  rcases key l with h' | ⟨a,b,e,hb⟩
  ·exact .inl h'
  ·right
   refine ⟨a,b,e,hb,fun hn=>?_⟩
   subst hn
   have:Lib.hasSuffix l [10]=true:=by rw [Lib.hasSuffix,List.isSuffixOf_iff_suffix,e];exact ⟨a,rfl⟩
   rw [h] at this;cases this

def aF (s:ByteArray):List ByteArray:=aI (bl (Lib.trimSuffix s.data.toList [10])) 10

def lK (s:ByteArray):Bool:=Lib.hasSuffix s.data.toList [10]

theorem Ae {s:ByteArray} (h:lK s=true):aI s 10=aF s++[ByteArray.empty]:=by
 have e:=(vr s.data.toList).1 h
 rw [aF,aI,aI,bL]
 conv=>lhs;rw [e]
 rw [jD,List.map_append]
 rfl

theorem Ai {s:ByteArray} (h:lK s=false):(aI s 10).length=1∨∃ a b,aI s 10=a++[b]∧a≠[]∧b≠ByteArray.empty:=by
 rcases (vr s.data.toList).2 h with h1 | ⟨a,b,e,hb,hne⟩
 ·left;rw [ug h1];rfl
 ·right
  refine ⟨(aV 10 a).map bl,bl b,?_,by simpa using fb 10 a,by rw [empty_bl,Ne,tP];exact hne⟩
  rw [aI,e,jD,jo 10 b hb,List.map_append];rfl

theorem qi (s:ByteArray):aF s≠[]:=by rw [aF,aI];simpa using fb _ _

theorem vO (s:ByteArray):(bl (Lib.trimSuffix s.data.toList [10])).size≤s.size:=by
 rw [dQ,cB,Lib.trimSuffix]
 split
 ·rw [List.length_take];omega
 ·omega

theorem nG (s:ByteArray):(aF s).length≤s.size+1∧∀ w∈aF s,w.size≤s.size:=by
 have h1:=vO s
 have h2:=hH (bl (Lib.trimSuffix s.data.toList [10])) 10
 have h3:=ir (bl (Lib.trimSuffix s.data.toList [10])) 10
 exact ⟨by rw [aF];omega,fun w hw=>by have:=h3 w hw;omega⟩

def bg (f:ByteArray→Option eQ) (s:ByteArray):ByteArray×List eQ×Bool :=
 if lK s then (match eg f (aF s).tail with
  | none=>(ByteArray.empty,[],false)
  | some r=>(gt (aF s) 0,r,true)) else (ByteArray.empty,[],false)

theorem vZ {f:ByteArray→Option eQ} {w:ByteArray} {r:List ByteArray}:eg f (w::r)=match f w with | none=>none | some x=>(eg f r).map (x::·):=rfl

theorem pq (L:List ByteArray) (hL:L.length≤1000000000) (hne:L≠[]) (hw:∀ w∈L,w.size≤1000000000):∀ (k i n:Nat) (acc:List eQ),i+k=L.tail.length→k<n→acc.length=i →
  bQ L n acc (i:Int)=some (match eg dH (L.tail.drop i) with | none=>.inl () | some r=>.inr (acc++r))
 | 0,i,n,acc,hik,hn,ha=>by
  obtain ⟨n,rfl⟩:∃ m,n=m+1:=⟨n - 1,by omega⟩
  have ht:=List.length_tail (l:=L)
  rw [bQ,bN,decide_eq_false (by simp only [Int.toNat_natCast];have e1:(1:Int).toNat=1:=rfl;omega),cond_false,List.drop_of_length_le (by omega)]
  simp [eg]
 | k+1,i,n,acc,hik,hn,ha=>by
  obtain ⟨n,rfl⟩:∃ m,n=m+1:=⟨n - 1,by omega⟩
  have ht:=List.length_tail (l:=L)
  have e1:(1:Int).toNat=1:=rfl
  have hi:i<L.tail.length:=by omega
  have hi':i+1<L.length:=by omega
  have hd:L.tail.drop i=L[i+1]::L.tail.drop (i+1):=by
   rw [List.drop_eq_getElem_cons hi,List.getElem_tail]
  have hws:=hw _ (List.getElem_mem hi')
  have hg:gt L (((1:Int).toNat+(i:Int).toNat:Nat):Int)=L[i+1]:=by
   rw [e1,Int.toNat_natCast,Nat.add_comm 1 i];exact cz hi'
  have ih:∀ acc':List eQ,acc'.length=i+1→_:=fun acc' h=>pq L hL hne hw k (i+1) n acc' (by omega) (by omega) h
  rw [bQ,bN,decide_eq_true (by rw [Int.toNat_natCast,e1];omega),cond_true,al (by rw [Int.toNat_natCast,Int.toNat_natCast,e1];omega),hg,ke,al (by omega),ae,hd,vZ]
  have e3:(ByteArray.mk #[32,61,32]).data.toList=eq3:=rfl
  rw [e3,cj (i:=i) (by omega),dH]
  generalize hc:Lib.cut L[i+1].data.toList eq3=c at *
  obtain ⟨p,q,b⟩:=c
  have hq:q.length≤1000000000:=by
   have:q.length≤L[i+1].data.toList.length:=by
    cases hb:b with
    | true =>
     have h0:(Lib.cut L[i+1].data.toList eq3).2.2=true:=by rw [hc];exact hb
     have:=congrArg List.length (nx h0)
     rw [hc] at this
     simp only [List.length_append] at this
     omega
    | false =>
     have h0:(Lib.cut L[i+1].data.toList eq3).2.2=false:=by rw [hc];exact hb
     have:=qX h0
     rw [hc] at this
     simp only [Prod.mk.injEq] at this
     rw [this.2.1];simp
   rw [← cB] at this
   omega
  simp only []
  cases b with
  | false =>
   rw [cond_false,al (by rw [List.length_singleton];omega),ih _ (by rw [List.length_append,List.length_singleton];omega)]
   simp only [Bool.false_eq_true,if_false,Bool.not_false]
   cases eg dH (L.tail.drop (i+1)) with
   | none=>rfl
   | some r=>simp only [Option.map_some,List.append_assoc,List.singleton_append];rfl
  | true =>
   rw [cond_true,show (⟨q.toArray⟩:ByteArray)=bl q from rfl,mW (by rw [dQ];exact hq),ae]
   simp only [if_true]
   cases hd2:(db (bl q)).2 with
   | false=>rw [Bool.not_false,cond_true];rfl
   | true =>
    rw [Bool.not_true,cond_false,al (by rw [List.length_singleton];omega),ih _ (by rw [List.length_append,List.length_singleton];omega)]
    simp only [if_true,Bool.not_true]
    cases eg dH (L.tail.drop (i+1)) with
    | none=>rfl
    | some r=>simp only [Option.map_some,List.append_assoc,List.singleton_append];rfl

theorem uL {s:ByteArray} (hs:s.size≤100000000):gS s=some (if (aF s).length≤13 then bg dH s else (ByteArray.empty,[],false)):=by
 obtain ⟨hl,hz⟩:=nG s
 have hne:=qi s
 have hlen:0<(aF s).length:=List.length_pos_iff.2 hne
 have e10:(ByteArray.mk #[10]).data.toList=[10]:=rfl
 have es:du (bl (Lib.trimSuffix s.data.toList [10])) (bl [10])=some (aF s):=by
  have:=vO s
  exact ma (by omega)
 rw [gS,gT,al (by omega),ae,e10]
 show bd (du (bl (Lib.trimSuffix s.data.toList [10])) (bl [10])) _=_
 rw [es,ae,bg]
 show (bif (!lK s) then _ else _)=_
 cases he:lK s with
 | false =>
  rw [Bool.not_false,cond_true]
  simp
 | true =>
  rw [Bool.not_true,cond_false]
  by_cases h13:13<((aF s).length:Int)
  ·rw [ak h13,if_neg (by omega)]
  ·have el:=pq (aF s) (by omega) hne (fun w hw=>by have:=hz w hw;omega) (aF s).tail.length 0 FU [] (by omega) (by rw [FU_eq,List.length_tail];omega) rfl
   have el':bQ (aF s) FU [] 0=some (match eg dH (aF s).tail with | none=>.inl () | some r=>.inr ([]++r)):=el
   rw [ai h13,if_pos (by omega),al (by omega)]
   show bd (bQ (aF s) FU [] 0) _=_
   rw [el',ae]
   simp only [if_true]
   cases eg dH (aF s).tail with
   | none=>rfl
   | some r =>
    simp only [sm,List.nil_append]
    rw [al (by omega)]

theorem vt {w:ByteArray} (hw:w.size≤100000000):∃ x,gL w=some x∧(bK w=if x.2.2.2 then some (x.1,x.2.1,x.2.2.1) else none):=by
 have es:cA w 32=some (aI w 32):=kX (s:=w) (c:=32) (by omega)
 have hz:=ir w 32
 rw [gL,es,ae,bK]
 by_cases h1:(aI w 32).length=1
 ·rw [ak (by omega),if_pos h1];exact ⟨_,rfl,rfl⟩
 ·rw [ai (by omega),if_neg h1]
  by_cases h3:(aI w 32).length=3
  ·have m2:gt (aI w 32) 2∈aI w 32:=eD (by omega)
   rw [decide_eq_true (by omega),Bool.not_true,cond_false,al (by omega),show (ByteArray.mk #[61])=bl [61] from rfl]
   by_cases h4:gt (aI w 32) 1=bl [61]
   ·rw [decide_eq_true h4,Bool.not_true,cond_false,al (by omega),nl (by have:=hz _ m2;omega),ae,al (by omega),if_pos ⟨h3,h4⟩]
    exact ⟨_,rfl,rfl⟩
   ·rw [decide_eq_false h4,Bool.not_false,cond_true,if_neg (fun h=>h4 h.2)]
    exact ⟨_,rfl,rfl⟩
  ·rw [decide_eq_false (by omega),Bool.not_false,cond_true,if_neg (fun h=>h3 h.1)]
   exact ⟨_,rfl,rfl⟩

theorem pz (L:List ByteArray) (e:ByteArray) (hL:L.length≤1000000000) (hne:L≠[]) (hw:∀ w∈L,w.size≤100000000):∀ (k i n:Nat) (acc:List eQ),i+k=L.tail.length→k<n→acc.length=i →
  bT (L++[e]) n acc ((i+1:Nat):Int)=some (match eg bK (L.tail.drop i) with | none=>.inl () | some r=>.inr (acc++r))
 | 0,i,n,acc,hik,hn,ha=>by
  obtain ⟨n,rfl⟩:∃ m,n=m+1:=⟨n - 1,by omega⟩
  have ht:=List.length_tail (l:=L)
  have hp:0<L.length:=List.length_pos_iff.2 hne
  have hl:(L++[e]).length=L.length+1:=by simp
  rw [bT,cj (i:=i+1) (by omega),ai (by rw [hl];omega),List.drop_of_length_le (by omega)]
  simp [eg]
 | k+1,i,n,acc,hik,hn,ha=>by
  obtain ⟨n,rfl⟩:∃ m,n=m+1:=⟨n - 1,by omega⟩
  have ht:=List.length_tail (l:=L)
  have hl:(L++[e]).length=L.length+1:=by simp
  have hi:i<L.tail.length:=by omega
  have hi':i+1<L.length:=by omega
  have hd:L.tail.drop i=L[i+1]::L.tail.drop (i+1):=by
   rw [List.drop_eq_getElem_cons hi,List.getElem_tail]
  have hg:gt (L++[e]) ((i+1:Nat):Int)=L[i+1]:=by
   rw [cz (by rw [hl];omega),List.getElem_append_left hi']
  obtain ⟨x,ex,hx⟩:=vt (hw _ (List.getElem_mem hi'))
  rw [bT,cj (i:=i+1) (by omega),ak (by rw [hl];omega),al (by rw [hl];omega),hg,ex,ae,hd,vZ,hx]
  cases hb:x.2.2.2 with
  | false=>rw [Bool.not_false,cond_true];rfl
  | true =>
   rw [Bool.not_true,cond_false,al (by rw [List.length_singleton];omega),pz L e hL hne hw k (i+1) n _ (by omega) (by omega) (by rw [List.length_append,List.length_singleton];omega)]
   simp only [if_true]
   cases eg bK (L.tail.drop (i+1)) with
   | none=>rfl
   | some r=>simp only [Option.map_some,List.append_assoc,List.singleton_append]

theorem uC {s:ByteArray} (hs:s.size≤100000000):gj s=some (bg bK s):=by
 obtain ⟨hl,hz⟩:=nG s
 have hne:=qi s
 have hlen:0<(aF s).length:=List.length_pos_iff.2 hne
 have hwl:=hH s 10
 have es:cA s 10=some (aI s 10):=kX (s:=s) (c:=10) (by omega)
 rw [gj,es,ae,bg]
 cases he:lK s with
 | true =>
  have hw:(aF s++[ByteArray.empty]).length=(aF s).length+1:=by simp
  have hg:gt (aF s++[ByteArray.empty]) (((aF s).length:Nat):Int)=ByteArray.empty:=by
   rw [cz (by rw [hw];omega)];simp
  have ew:IntKind.wrap .i64 (((aF s++[ByteArray.empty]).length:Int) - 1)=(((aF s).length:Nat):Int):=by
   rw [hw,w64 (by omega) (by omega)];omega
  have el:=pz (aF s) ByteArray.empty (by omega) hne (fun w hw=>by have:=hz w hw;omega) (aF s).tail.length 0 FU [] (by omega) (by rw [FU_eq,List.length_tail];omega) rfl
  have el':bT (aF s++[ByteArray.empty]) FU [] 1=some (match eg bK (aF s).tail with | none=>.inl () | some r=>.inr ([]++r)):=el
  have g0:gt (aF s++[ByteArray.empty]) (0:Int)=gt (aF s) (0:Int):=by
   have a1:=cz (l:=aF s++[ByteArray.empty]) (i:=0) (by rw [hw];omega)
   have a2:=cz (l:=aF s) (i:=0) hlen
   rw [List.getElem_append_left hlen] at a1
   exact a1.trans a2.symm
  rw [Ae he,ai (by rw [hw];omega),ew,al (by rw [hw];omega),bN,hg,decide_eq_true rfl,Bool.not_true,cond_false]
  show bd (bT (aF s++[ByteArray.empty]) FU [] 1) _=_
  rw [el',ae]
  simp only [if_true]
  cases eg bK (aF s).tail with
  | none=>rfl
  | some r =>
   simp only [sm,List.nil_append]
   rw [al (by rw [hw];omega),g0]
 | false =>
  rcases Ai he with h1 | ⟨a,b,e,ha,hb⟩
  ·rw [ak (by omega)];simp
  ·have hw:(a++[b]).length=a.length+1:=by simp
   have hp:0<a.length:=List.length_pos_iff.2 ha
   have hle:a.length≤s.size+1:=by rw [e,hw] at hwl;omega
   have hg:gt (a++[b]) ((a.length:Nat):Int)=b:=by
    rw [cz (by rw [hw];omega)];simp
   have ew:IntKind.wrap .i64 (((a++[b]).length:Int) - 1)=((a.length:Nat):Int):=by
    rw [hw,w64 (by omega) (by omega)];omega
   rw [e,ai (by rw [hw];omega),ew,al (by rw [hw];omega),bN,hg,decide_eq_false hb,Bool.not_false,cond_true]
   simp

theorem xG {f:ByteArray→Option eQ} (hf:∀ w x,w.size≤100000000→f w=some x→x.1.size≤100000000∧I64 x.2.2) {s:ByteArray} (hs:s.size≤100000000):ku (bg f s).2.1:=by
 rw [bg]
 split
 ·obtain ⟨hl,hz⟩:=nG s
  split
  ·exact ⟨by simp,by simp,by simp⟩
  ·rename_i r hr
   obtain ⟨h1,h2,_⟩:=lj hr
   have ht:=List.length_tail (l:=aF s)
   refine ⟨by simp only;omega,fun x hx=>?_,fun x hx=>?_⟩
   ·obtain ⟨w,hw,e⟩:=h2 x hx
    have:=(hf w x (by have:=hz w (List.mem_of_mem_tail hw);omega) e).1
    omega
   ·obtain ⟨w,hw,e⟩:=h2 x hx
    exact (hf w x (by have:=hz w (List.mem_of_mem_tail hw);omega) e).2
 ·exact ⟨by simp,by simp,by simp⟩

theorem Bh (w:ByteArray) (x:eQ) (hw:w.size≤100000000) (h:bK w=some x):x.1.size≤100000000∧I64 x.2.2:=by
 rw [bK] at h
 split at h
 ·cases h;exact ⟨hw,by simp only;omega,by simp only;omega⟩
 ·split at h
  ·rename_i h3
   split at h
   ·rename_i h4
    cases h
    have m0:gt (aI w 32) 0∈aI w 32:=eD (by omega)
    have:=ir w 32 _ m0
    obtain ⟨_,h5,h6⟩:=vf h4
    exact ⟨by simp only;omega,by simp only;omega,by simp only;omega⟩
   ·cases h
  ·cases h

theorem Bm (w:ByteArray) (x:eQ) (hw:w.size≤100000000) (h:dH w=some x):x.1.size≤100000000∧I64 x.2.2:=by
 have hp:(bl (Lib.cut w.data.toList eq3).1).size≤100000000:=by
  rw [dQ]
  cases hb:(Lib.cut w.data.toList eq3).2.2 with
  | true =>
   have:=congrArg List.length (nx hb)
   rw [← cB,List.length_append] at this
   omega
  | false=>rw [qX hb];simp only;rw [← cB];exact hw
 rw [dH] at h
 split at h
 ·split at h
  ·rename_i h4
   cases h
   exact ⟨hp,(qT h4).2⟩
  ·cases h
 ·cases h
  exact ⟨hp,by simp only;omega,by simp only;omega⟩

theorem Bt {R:Type} (bld:List eQ→R) (bad:R) (hb:∀ r,(∃ x∈r,¬ uV x)→bld r=bad) (hlong:∀ r:List eQ,12<r.length→bld r=bad) (hdr:ByteArray→Prop) [∀ w,Decidable (hdr w)] (s:ByteArray) :
  (if (if (aF s).length≤13 then bg dH s else (ByteArray.empty,[],false)).2.2=true∧hdr (if (aF s).length≤13 then bg dH s else (ByteArray.empty,[],false)).1 then bld (if (aF s).length≤13 then bg dH s else (ByteArray.empty,[],false)).2.1 else bad) =
  (if (bg bK s).2.2=true∧hdr (bg bK s).1 then bld (bg bK s).2.1 else bad):=by
 by_cases he:lK s=true
 ·have ht:=List.length_tail (l:=aF s)
  have es:bg bK s=match eg bK (aF s).tail with | none=>(ByteArray.empty,[],false) | some r=>(gt (aF s) 0,r,true):=by rw [bg,if_pos he]
  have ei:bg dH s=match eg dH (aF s).tail with | none=>(ByteArray.empty,[],false) | some r=>(gt (aF s) 0,r,true):=by rw [bg,if_pos he]
  have spec_bad:(∀ r,eg bK (aF s).tail=some r→bld r=bad)→(if (bg bK s).2.2=true∧hdr (bg bK s).1 then bld (bg bK s).2.1 else bad)=bad:=fun h=>by
   rw [es]
   cases hr:eg bK (aF s).tail with
   | none=>simp
   | some r=>simp only [];rw [h r hr];simp
  by_cases h13:(aF s).length≤13
  ·simp only [if_pos h13]
   rcases zX (aF s).tail with h | ⟨h1,h2⟩
   ·rw [ei,es,h]
   ·rw [spec_bad (fun r hr=>hb r (h2 r hr)),ei]
    cases hr:eg dH (aF s).tail with
    | none=>simp
    | some r=>simp only [];rw [hb r (h1 r hr)];simp
  ·simp only [if_neg h13]
   rw [spec_bad (fun r hr=>hlong r (by have:=(lj hr).1;omega))]
   simp
 ·have e1:∀ f,bg f s=(ByteArray.empty,[],false):=fun f=>by rw [bg,if_neg he]
  rw [e1,e1]
  simp

def flagSp:ByteArray:=ByteArray.mk #[102,108,97,103,32]

def fk (h:ByteArray):Int:=ix (fun w=>decide (h=flagSp++w)) boundWords

theorem words_small:∀ w∈boundWords,w.size≤6:=by
 intro w hw
 simp only [boundWords,List.mem_cons,List.not_mem_nil,or_false] at hw
 rcases hw with rfl | rfl | rfl | rfl <;> decide

theorem xm (h:ByteArray):gw h=some (fk h):=by
 have e:=oR boundWords (dm h) (fun w=>decide (h=flagSp++w)) ?_ ?_ FU (by rw [FU_eq];decide)
 ·rw [gw,eW,ae,e,ae,fk,ix]
  cases boundWords.findIdx? (fun w=>decide (h=flagSp++w)) <;> rfl
 ·intro n
  rw [dm,bN,ai (by decide)]
 ·intro n i hi
  have e4:boundWords.length=4:=rfl
  have hm:gt boundWords (i:Int)∈boundWords:=eD (by omega)
  have hz:=words_small _ hm
  have hf:(ByteArray.mk #[102,108,97,103,32]).size=5:=rfl
  rw [dm,bN,show ([(ByteArray.mk #[115,116,114,105,99,116]),(ByteArray.mk #[102,105,116]),(ByteArray.mk #[101,106,101,99,116]),(ByteArray.mk #[107,101,101,112])]:List ByteArray)=boundWords from rfl,bN,bN,ak (by omega),al (by omega),al (by omega),cj (i:=i) (by omega)]
  by_cases h1:h=flagSp++gt boundWords (i:Int)
  ·rw [decide_eq_true h1,if_pos rfl]
   rw [ak (show h=(ByteArray.mk #[102,108,97,103,32])++gt boundWords (i:Int) from h1)]
  ·rw [decide_eq_false h1,if_neg (by simp)]
   rw [ai (show ¬ h=(ByteArray.mk #[102,108,97,103,32])++gt boundWords (i:Int) from h1)]

theorem yN (w:ByteArray):fD boundWords w=some (ix (fun v=>decide (w=v)) boundWords):=by
 have e:=oR boundWords (cN boundWords w) (fun v=>decide (w=v)) ?_ ?_ FU (by rw [FU_eq];decide)
 ·rw [fD,e,ae,ix]
  cases boundWords.findIdx? (fun v=>decide (w=v)) <;> rfl
 ·intro n
  rw [cN,ai (by omega)]
 ·intro n i hi
  have e4:boundWords.length=4:=rfl
  rw [cN,ak (by omega),al (by omega),cj (i:=i) (by omega)]
  by_cases h1:w=gt boundWords (i:Int)
  ·rw [decide_eq_true h1,cond_true,if_pos rfl]
  ·rw [decide_eq_false h1,cond_false,if_neg (by simp)]

theorem zP (h:ByteArray):(Lib.hasPrefix h.data.toList flagSp.data.toList=true∧ix (fun v=>decide (bl (Lib.trimPrefix h.data.toList flagSp.data.toList)=v)) boundWords=fk h)∨(Lib.hasPrefix h.data.toList flagSp.data.toList=false∧fk h = -1):=by
 cases hp:Lib.hasPrefix h.data.toList flagSp.data.toList with
 | true =>
  left
  refine ⟨rfl,?_⟩
  have h2:=hp
  rw [Lib.hasPrefix,List.isPrefixOf_iff_prefix] at h2
  obtain ⟨t,ht⟩:=h2
  have e:Lib.trimPrefix h.data.toList flagSp.data.toList=t:=by
   rw [Lib.trimPrefix,if_pos hp,← ht,List.drop_left]
  rw [e,fk]
  congr 1
  funext w
  refine decide_eq_decide.2 ?_
  constructor
  ·intro hw
   rw [jc,← hw,bL,ht,fX]
  ·intro hw
   have h3:h.data.toList=flagSp.data.toList++w.data.toList:=by rw [hw,jc,bL]
   rw [h3] at ht
   have:=List.append_cancel_left ht
   rw [this,fX]
 | false =>
  right
  refine ⟨rfl,?_⟩
  rcases ll (fun w=>decide (h=flagSp++w)) boundWords with ⟨e,_⟩ | ⟨i,d,_,_,_,_,_,hd⟩
  ·exact e
  ·exfalso
   have hd:=of_decide_eq_true hd
   have h3:h.data.toList=flagSp.data.toList++d.data.toList:=by rw [hd,jc,bL]
   have:Lib.hasPrefix h.data.toList flagSp.data.toList=true:=by
    rw [Lib.hasPrefix,List.isPrefixOf_iff_prefix,h3];exact ⟨_,rfl⟩
   rw [hp] at this;cases this

theorem qz {f:ByteArray→Option eQ} {s:ByteArray} (h:(bg f s).2.2=true):(bg f s).1=gt (aF s) 0:=by
 rw [bg] at *
 split at h
 ·rename_i he
  rw [if_pos he]
  cases hm:eg f (aF s).tail with
  | none=>rw [hm] at h;cases h
  | some r=>rfl
 ·cases h

def aA (s:ByteArray):List (ByteArray×Int)×Int×Bool :=
 if (bg bK s).2.2=true∧0≤fk (bg bK s).1 then jr (bg bK s).2.1 (fk (gt (aF s) 0)) else ([],0,false)

theorem AL {r:List eQ} {b:Int} (h:∃ x∈r,¬ uV x):jr r b=([],0,false):=by
 rw [jr,if_neg]
 rintro ⟨h1,h2⟩
 obtain ⟨x,hx,hg⟩:=h
 have:=kA.of h1 h2
 obtain ⟨i,hi,rfl⟩:=List.mem_iff_getElem.1 hx
 have h3:=this.1 i hi
 rw [cz hi] at h3
 exact hg ⟨h3.1,by have:=h3.2.2.1.1;omega,h3.2.2.1.2⟩

theorem Ad {r:List eQ} {b:Int} (h:12<r.length):jr r b=([],0,false):=by
 rw [jr,if_neg]
 rintro ⟨h1,h2⟩
 have:=h2.len
 rw [dc] at this
 simp at this;omega

theorem oc {s:ByteArray} (hs:s.size≤100000000):fC s=some (aA s):=by
 rw [fC,uC hs,ae,aA]
 have hin:=xG Bh hs
 cases h1:(bg bK s).2.2 with
 | false=>rw [Bool.not_false,cond_true,if_neg (by simp)]
 | true =>
  have hh:=qz h1
  rw [Bool.not_true,cond_false,xm,ae]
  by_cases h2:0≤fk (bg bK s).1
  ·rw [ai (by omega),ae,vd hin,ae,if_pos ⟨rfl,h2⟩,hh]
  ·rw [ak (by omega),if_neg (fun h=>h2 h.2)]

theorem va {s:ByteArray} (hs:s.size≤100000000):gR s=some (aA s):=by
 have key:=Bt (fun r=>jr r (fk (gt (aF s) 0))) ([],0,false) (fun r h=>AL h) (fun r h=>Ad h) (fun w=>0≤fk w) s
 rw [gR,uL hs,ae,aA,← key]
 have hin:ku (if (aF s).length≤13 then bg dH s else (ByteArray.empty,[],false)).2.1:=by
  split
  ·exact xG Bm hs
  ·exact ⟨by simp,by simp,by simp⟩
 have hh:(if (aF s).length≤13 then bg dH s else (ByteArray.empty,[],false)).2.2=true→(if (aF s).length≤13 then bg dH s else (ByteArray.empty,[],false)).1=gt (aF s) 0:=by
  split
  ·exact qz
  ·intro h;cases h
 generalize (if (aF s).length≤13 then bg dH s else (ByteArray.empty,[],false))=q at hin hh
 rw [gU,ae]
 show bd (fD boundWords (bl (Lib.trimPrefix q.1.data.toList flagSp.data.toList))) (fun x4=>bif (!q.2.2) then _ else bif (!Lib.hasPrefix q.1.data.toList flagSp.data.toList) then _ else _)=_
 rw [yN,ae]
 cases h1:q.2.2 with
 | false=>rw [Bool.not_false,cond_true,if_neg (by simp)]
 | true =>
  rw [Bool.not_true,cond_false]
  rcases zP q.1 with ⟨e1,e2⟩ | ⟨e1,e2⟩
  ·rw [e1,Bool.not_true,cond_false,e2]
   by_cases h2:0≤fk q.1
   ·rw [ai (by omega),uZ hin,ae,if_pos ⟨rfl,h2⟩,hh h1]
   ·rw [ak (by omega),if_neg (fun h=>h2 h.2)]
  ·rw [e1,Bool.not_false,cond_true,if_neg (fun h=>by have:=h.2;omega)]

theorem vc {n:Int} {c:UInt8} (hc:c.toNat<45):c ∉ Lib.itoa n:=by
 intro hm
 rw [Lib.itoa] at hm
 split at hm
 ·rcases List.mem_cons.1 hm with rfl | h
  ·exact absurd hc (by decide)
  ·have:=decDigits_digit _ _ h;omega
 ·have:=decDigits_digit _ _ hm;omega

def vx (l:List (ByteArray×Int)):Prop:=l.length≤12∧∀ d∈l,eL d.1 ∧ -4096≤d.2∧d.2≤4096

theorem eO.smallD {l:List (ByteArray×Int)} {lo hi:Int} (h:eO l lo hi) (h1 : -4096≤lo) (h2:hi≤4096):vx l :=
 ⟨h.out.2.2,fun d hd=>by have:=h.out.1 d hd;exact ⟨this.1,by omega,by omega⟩⟩

def nlC (l:List UInt8):Nat:=(l.filter fun c=>decide (c=10)).length

theorem oF (a b:List UInt8):nlC (a++b)=nlC a+nlC b:=by rw [nlC,List.filter_append,List.length_append];rfl

theorem Ch {l:List UInt8} (h:(10:UInt8) ∉ l):nlC l=0:=by
 rw [nlC,List.length_eq_zero_iff,List.filter_eq_nil_iff]
 intro c hc e
 have:=of_decide_eq_true e
 exact h (this ▸ hc)

def qJ (a:Int) (c:UInt8):Int:=if c=10 then a+1 else a

theorem nl_fold:∀ (l:List UInt8) (a:Int),l.foldl qJ a=a+(nlC l:Nat)
 | [],a=>by simp [nlC]
 | c::l,a=>by
  rw [List.foldl_cons,nl_fold l,qJ]
  by_cases h:c=10
  ·rw [if_pos h,nlC,nlC,List.filter_cons_of_pos (p:=fun c=>decide (c=10)) (decide_eq_true h),List.length_cons];omega
  ·rw [if_neg h,nlC,nlC,List.filter_cons_of_neg (p:=fun c=>decide (c=10)) (by simp [h])]

theorem ww {s:ByteArray} (hs:s.size≤1000000000):ii s=some ((nlC s.data.toList:Nat):Int):=by
 have hz:=cB s
 have e:=nu s.data.toList (cE s) qJ (fun i a=>0≤a∧a≤i) ?_ ?_ FU (by rw [FU_eq];omega) 0 ⟨by omega,by omega⟩
 ·rw [ii,e.1,ae,nl_fold,Int.zero_add]
 ·intro n a
  rw [cE,ai (by omega)]
 ·intro n i a hi hm hI
  refine ⟨by rw [qJ];split <;> omega,?_⟩
  have eb:aH s (i:Int).toNat=((gt s.data.toList (i:Int)).toNat:Int):=by
   rw [Int.toNat_natCast,iq,cz hi,List.getD_eq_getElem?_getD,List.getElem?_eq_getElem hi,Option.getD_some]
  rw [cE,ak (by omega),al (by omega),eb,cj (by omega),qJ]
  by_cases h:gt s.data.toList (i:Int)=10
  ·rw [h,if_pos rfl,ak (by decide),w64 (by omega) (by omega)]
  ·rw [if_neg h,ai]
   intro h2
   exact h (UInt8.toNat_inj.1 (by rw [show (10:UInt8).toNat=10 from rfl];omega))

theorem pW (c:UInt8):∀ l:List UInt8,(aV c l).length=(l.filter fun x=>decide (x=c)).length+1
 | []=>rfl
 | x::r=>by
  have ih:=pW c r
  by_cases h:x=c
  ·rw [aV,if_pos h,List.length_cons,ih,List.filter_cons_of_pos (p:=fun x=>decide (x=c)) (decide_eq_true h),List.length_cons]
  ·rw [List.filter_cons_of_neg (p:=fun x=>decide (x=c)) (by simp [h]),← ih,aV,if_neg h]
   cases e:aV c r with
   | nil=>exact absurd e (fb c r)
   | cons p ps=>rfl

theorem Bq {s:ByteArray} (h:lK s=true):nlC s.data.toList=(aF s).length:=by
 have e:=(vr s.data.toList).1 h
 rw [aF,aI,bL,List.length_map,pW]
 conv=>lhs;rw [e,oF]
 rfl

theorem Ar {s:ByteArray} (h:(bg bK s).2.2=true):lK s=true∧(bg bK s).2.1.length+1=(aF s).length:=by
 cases he:lK s with
 | false=>rw [bg,if_neg (by simp [he])] at h;cases h
 | true =>
  refine ⟨rfl,?_⟩
  cases hm:eg bK (aF s).tail with
  | none=>rw [bg,if_pos he,hm] at h;cases h
  | some r =>
   have e:bg bK s=(gt (aF s) 0,r,true):=by rw [bg,if_pos he,hm]
   have hl:=(lj hm).1
   have hne:=List.length_pos_iff.2 (qi s)
   rw [List.length_tail] at hl
   rw [e]
   show r.length+1=_
   omega

theorem vx.inn {l:List (ByteArray×Int)} (h:vx l):cH l :=
 ⟨by have:=h.1;omega,fun d hd=>by have:=(h.2 d hd).1.2.2;omega,fun d hd=>by have:=(h.2 d hd).2;exact ⟨by omega,by omega⟩⟩

theorem iA {s:ByteArray} (h:(aA s).2.2=true):bG (aA s).1 (aA s).2.1∧nlC s.data.toList=(aA s).1.length+1∧0≤fk (bg bK s).1:=by
 by_cases h1:(bg bK s).2.2=true∧0≤fk (bg bK s).1
 ·have e:aA s=jr (bg bK s).2.1 (fk (gt (aF s) 0)):=if_pos h1
  rw [e] at h ⊢
  by_cases h2:((bg bK s).2.1.any (fun x=>x.2.1 && !decide (x.2.2=0))=false)∧bG (bC hU (bg bK s).2.1 []) (fk (gt (aF s) 0))
  ·have e2:jr (bg bK s).2.1 (fk (gt (aF s) 0))=(bC hU (bg bK s).2.1 [],fk (gt (aF s) 0),true):=if_pos h2
   obtain ⟨o1,o2⟩:=Ar h1.1
   rw [e2]
   refine ⟨h2.2,?_,h1.2⟩
   show _=(bC hU (bg bK s).2.1 []).length+1
   rw [Bq o1,dc,← o2]
   simp
  ·have e2:jr (bg bK s).2.1 (fk (gt (aF s) 0))=([],0,false):=if_neg h2
   rw [e2] at h;cases h
 ·have e:aA s=([],0,false):=if_neg h1
  rw [e] at h;cases h

def xp (s:ByteArray) (x:ByteArray×Bool×Int):ByteArray:=if x.2.1=true then (s++x.1)++(ByteArray.mk #[10]) else ((((s++x.1)++(ByteArray.mk #[32,61,32]))++bz x.2.2)++(ByteArray.mk #[10]))

theorem uW {l:List (ByteArray×Bool×Int)} (h:kx l):∃ r,gD l=some r∧r.size≤400:=by
 have hl:=h.1
 have e:=nu l (cu l) xp (fun i s=>s.size≤30*i) ?_ ?_ FU (by rw [FU_eq];omega) ByteArray.empty (by decide)
 ·exact ⟨_,by rw [gD,e.1,ae],by have:=e.2;omega⟩
 ·intro n s
  rw [cu,ai (by omega)]
 ·intro n i s hi hm hI
  obtain ⟨h1,h2⟩:=h.2 _ hm
  have hz:=iQ (n:=(gt l (i:Int)).2.2) ⟨by omega,by omega⟩
  have e3:(ByteArray.mk #[32,61,32]).size=3:=rfl
  have e1:(ByteArray.mk #[10]).size=1:=rfl
  rw [cu,ak (by omega),al (by omega),al (by omega),cj (by omega)]
  cases hb:(gt l (i:Int)).2.1 with
  | true =>
   have e:xp s (gt l (i:Int))=(s++(gt l (i:Int)).1)++(ByteArray.mk #[10]):=if_pos hb
   rw [e]
   refine ⟨?_,?_⟩
   ·simp only [ByteArray.size_append];omega
   ·rw [Bool.not_true,cond_false,al (by rw [ByteArray.size_append];omega)]
  | false =>
   have e:xp s (gt l (i:Int))=((((s++(gt l (i:Int)).1)++(ByteArray.mk #[32,61,32]))++bz (gt l (i:Int)).2.2)++(ByteArray.mk #[10])):=if_neg (by rw [hb];simp)
   rw [e]
   refine ⟨?_,?_⟩
   ·simp only [ByteArray.size_append];omega
   ·rw [Bool.not_false,cond_true,al (by rw [ByteArray.size_append];omega),yF ⟨by omega,by omega⟩,ae,
     al (by rw [ByteArray.size_append,ByteArray.size_append];omega),bN,al (by rw [ByteArray.size_append,ByteArray.size_append,ByteArray.size_append];omega)]

theorem wE {code:List Int} (hc:fV code) (hl:code.length≤9223372036854775807) {p:Int} (hp:0≤p∧p<600000) :
  ∃ r,hZ code p=some r∧r.1.size≤500∧p≤r.2∧r.2≤p+101:=by
 obtain ⟨y,ey,ly,uy⟩:=pick (n:=4) hc hl (p:=p) ⟨by omega,by omega⟩
 have uy:=uy (by omega)
 obtain ⟨f,ef,f1,f2,f3⟩:=Av hc hl 4095 (p:=p+1) ⟨by omega,by omega⟩
 obtain ⟨t,et,ht⟩:=uW f1
 have e4:boundWords.length=4:=rfl
 have hm:gt boundWords y∈boundWords:=eD (by omega)
 have hw:=words_small _ hm
 have e5:(ByteArray.mk #[102,108,97,103,32]).size=5:=rfl
 have e1:(ByteArray.mk #[10]).size=1:=rfl
 rw [hZ,eW,ae,ey,ae,show ([(ByteArray.mk #[115,116,114,105,99,116]),(ByteArray.mk #[102,105,116]),(ByteArray.mk #[101,106,101,99,116]),(ByteArray.mk #[107,101,101,112])]:List ByteArray)=boundWords from rfl,
  al (by omega),bN,al (by omega),al (by rw [ByteArray.size_append];omega),bN,w64 (by omega) (by omega),ef,ae,et,ae,al (by rw [ByteArray.size_append,ByteArray.size_append];omega)]
 exact ⟨_,rfl,by simp only [ByteArray.size_append];omega,by simp only;omega,by simp only;omega⟩

theorem rV {k:Nat}:∀ {l:List (ByteArray×Int)},(∀ d∈l,d.2.toNat<2 ^ k)→aP l<2 ^ k
 | [],_=>Nat.two_pow_pos k
 | d::l,h=>by
  rw [pi]
  exact Nat.or_lt_two_pow (h d (by simp)) (rV (fun e he=>h e (by simp [he])))

theorem xJ {l:List (ByteArray×Int)} {d:ByteArray×Int} (h:d∈l):d.2.toNat≤aP l :=
 rR (iK.2 fun i hi=>by rw [iR];exact List.any_eq_true.2 ⟨d,h,hi⟩)

theorem An (l:List (ByteArray×Int)):aZ (aP l)=aZ (greatest l 0).toNat:=by
 refine Nat.le_antisymm (jM (rV fun d hd=>?_)) ?_
 ·have h1:=sj 0 d hd
  have h2:=kb (greatest l 0).toNat
  have h3:d.2.toNat≤(greatest l 0).toNat:=by omega
  exact Nat.lt_of_le_of_lt h3 h2
 ·by_cases h:l=[]
  ·subst h;exact Nat.le_refl _
  ·obtain ⟨d,hd,e⟩:=kR h 0
   rw [e];exact vN (xJ hd)

def nC (f:List (ByteArray×Int)):Nat:=2 ^ aZ (aP f) - 1

theorem sy {f:List (ByteArray×Int)} (hv:V12 f):1≤2 ^ aZ (aP f)∧2 ^ aZ (aP f)≤4096∧aZ (aP f)≤12:=by
 have hb:=jM (k:=12) (eJ hv)
 exact ⟨Nat.one_le_two_pow,(Nat.pow_le_pow_right (by omega) hb:2 ^ aZ (aP f)≤2 ^ 12),hb⟩

theorem sr {f:List (ByteArray×Int)} (hv:V12 f):nC f<4096:=by
 have:=sy hv
 rw [nC];omega

theorem AF {f:List (ByteArray×Int)} (hv:V12 f) (hl:f.length≤1099511627776) (b:Int):gO f b=some ((nC f:Nat):Int):=by
 have hm:=eJ hv
 obtain ⟨h1,h2,hb⟩:=sy hv
 have e:IntKind.wrap .u64 ((aP f:Nat):Int)=((aP f:Nat):Int):=by rw [IntKind.wrap_u64];omega
 have e2:(1:Int)*2 ^ (((aZ (aP f):Nat):Int)).toNat=((2 ^ aZ (aP f):Nat):Int):=by rw [Int.toNat_natCast];simp
 rw [gO,kH b hv hl,ae,e,sJ (by omega),ae,al ⟨by omega,by simp [IntKind.bits];omega⟩,bN,e2,nC]
 generalize 2 ^ aZ (aP f)=q at *
 rw [w64 (a:=(q:Int)) (by omega) (by omega),w64 (by omega) (by omega)]
 congr 1;omega

theorem vX {f:List (ByteArray×Int)} (hv:V12 f) (hl:f.length≤1099511627776):jk f=some ((nC f:Nat):Int):=by
 obtain ⟨h1,h2,hb⟩:=sy hv
 rw [jk,qd hl (fun d hd=>by have:=hv d hd;omega),ae,← An,nC]
 generalize 2 ^ aZ (aP f)=q at *
 rw [w64 (by omega) (by omega)]
 congr 1;omega

def iX (f:List (ByteArray×Int)) (b:Int):Nat:=if b=3 then nC f else aP f

theorem qn {f:List (ByteArray×Int)} (hv:V12 f) (b:Int):iX f b<4096:=by
 rw [iX];split
 ·exact sr hv
 ·exact eJ hv

theorem uD {f:List (ByteArray×Int)} (hv:V12 f) (hl:f.length≤1099511627776) (b:Int):eT f b=some ((iX f b:Nat):Int):=by
 rw [eT,iX]
 by_cases hb:b=3
 ·rw [ak hb,AF hv hl,ae,if_pos hb]
 ·rw [ai hb,kH b hv hl,ae,if_neg hb]

theorem aU.whole {f:List (ByteArray×Int)} {b:Int} (hf:bG f b) (x:Nat):aU f b ((aM (iX f b) x:Nat):Int):=by
 have h1:=qn hf.v12 b
 have h2:=jx (iX f b) x
 refine ⟨hf,by omega,?_⟩
 rw [Int.toNat_natCast]
 by_cases hb:b=3
 ·exact .inl hb
 ·right
  rw [iX,if_neg hb,iK]
  intro i hi
  rw [dG] at hi
  simp at hi;exact hi.1

def oX (f:List (ByteArray×Int)) (b x:Int):Int:=if aU f b x then ((aM (iX f b) x.toNat:Nat):Int) else -1

theorem sK {f:List (ByteArray×Int)} (h:cH f) (b a:Int):dE f b a=some (oX f b a):=by
 rw [dE,dW h,ae,oX]
 by_cases hv:aU f b a
 ·have hm:=qn hv.1.v12 b
  have ha:=hv.2.1
  have e:=jt (a:=iX f b) (b:=a.toNat) (by omega) (by omega)
  rw [aT ha.1] at e
  rw [decide_eq_true hv,Bool.not_true,cond_false,uD hv.1.v12 h.1,ae,if_pos hv,e]
 ·rw [decide_eq_false hv,Bool.not_false,cond_true,if_neg hv]

theorem sU {f:List (ByteArray×Int)} (h:cH f) (b a:Int):fQ f b a=some (oX f b a):=by
 rw [fQ,kQ h,ae,oX]
 by_cases hv:aU f b a
 ·have ha:=hv.2.1
  rw [decide_eq_true hv,Bool.not_true,cond_false,if_pos hv,iX]
  by_cases hb:b=3
  ·have e:=fI (a:=nC f) (b:=a.toNat) (sr hv.1.v12) (by omega)
   rw [aT ha.1] at e
   rw [ak hb,vX hv.1.v12 h.1,ae,e,ae,if_pos hb]
  ·have e:=fI (a:=aP f) (b:=a.toNat) (eJ hv.1.v12) (by omega)
   rw [aT ha.1] at e
   rw [ai hb,jv hv.1.v12 h.1,ae,e,ae,if_neg hb]
 ·rw [decide_eq_false hv,Bool.not_false,cond_true,if_neg hv]

def gk (f:List (ByteArray×Int)) (b n:Int):Int×Int :=
 if n<0 then (((aM (iX f b) (0 - n - 1).toNat:Nat):Int),0)
 else if aM n.toNat (aP f)=0∨b=3 then (n,0)
 else if b=1 then (((n.toNat&&&aP f:Nat):Int),0)
 else if b=2 then (n,1) else (0,2)

theorem vH {f:List (ByteArray×Int)} (h:cH f) {b n:Int} (hf:bG f b) (hn : -4096≤n∧n≤4095):gI f b n=some (gk f b n):=by
 have hm:=eJ hf.v12
 rw [gI,jS h,ae,decide_eq_true hf,Bool.not_true,cond_false,lv,ae,decide_eq_true hn,Bool.not_true,cond_false,gk]
 by_cases h0:n<0
 ·obtain ⟨k,hk⟩:∃ k:Nat,(0:Int) - n - 1=(k:Int):=⟨(0 - n - 1).toNat,by omega⟩
  have hw:=qn hf.v12 b
  rw [ak h0,if_pos h0,uD hf.v12 h.1,ae,bN,w64 (a:=0 - n) (by omega) (by omega),w64 (a:=0 - n - 1) (by omega) (by omega),hk,jt (by omega) (by omega),Int.toNat_natCast]
 ·have h2:=mS (a:=n) (m:=aP f) ⟨by omega,by omega⟩ hm
  rw [ai h0,if_neg h0,kH b hf.v12 h.1,ae]
  by_cases h1:aM n.toNat (aP f)=0
  ·rw [ak (h2.2 ⟨by omega,h1⟩),if_pos (.inl h1)]
  ·rw [ai (fun h=>h1 (h2.1 h).2)]
   by_cases hb3:b=3
   ·rw [ak hb3,if_pos (.inr hb3)]
   ·rw [ai hb3,if_neg (by rintro (h | h);exact h1 h;exact hb3 h)]
    by_cases hb1:b=1
    ·have e:=wX (a:=n.toNat) (b:=aP f) (by omega) (by omega)
     rw [aT (by omega)] at e
     rw [ak hb1,if_pos hb1,ae,e]
    ·rw [ai hb1,if_neg hb1]
     by_cases hb2:b=2
     ·rw [ak hb2,if_pos hb2]
     ·rw [ai hb2,if_neg hb2]

theorem Ao {f:List (ByteArray×Int)} (h:cH f) {b n:Int} (hf:bG f b) (hn : -4096≤n∧n≤4095):jZ f b n=some (gk f b n):=by
 have hm:=eJ hf.v12
 have hb:=hf.2
 rw [jZ,gk]
 by_cases h0:n<0
 ·obtain ⟨k,hk⟩:∃ k:Nat,(0:Int) - n - 1=(k:Int):=⟨(0 - n - 1).toNat,by omega⟩
  rw [ak h0,if_pos h0,w64 (a:=0 - n) (by omega) (by omega),w64 (a:=0 - n - 1) (by omega) (by omega),hk,Int.toNat_natCast,iX]
  by_cases hb3:b=3
  ·rw [ak hb3,if_pos hb3,vX hf.v12 h.1,ae,fI (sr hf.v12) (by omega),ae]
  ·rw [ai hb3,if_neg hb3,jv hf.v12 h.1,ae,fI hm (by omega),ae]
 ·have e:=fI (a:=n.toNat) (b:=aP f) (by omega) hm
  rw [aT (by omega)] at e
  rw [ai h0,if_neg h0,jv hf.v12 h.1,ae,e,ae]
  by_cases h1:aM n.toNat (aP f)=0
  ·rw [ak (by omega),if_pos (.inl h1)]
  ·rw [ai (by omega)]
   by_cases hb0:b=0
   ·rw [ak hb0,if_neg (by rintro (h | h);exact h1 h;omega),if_neg (by omega),if_neg (by omega)]
   ·rw [ai hb0]
    by_cases hb1:b=1
    ·have e2:=lR (a:=n.toNat) (b:=aP f) (by omega) hm
     rw [aT (by omega)] at e2
     rw [ak hb1,if_neg (by rintro (h | h);exact h1 h;omega),if_pos hb1,ae,e2,ae]
    ·rw [ai hb1]
     by_cases hb2:b=2
     ·rw [ak hb2,if_neg (by rintro (h | h);exact h1 h;omega),if_neg hb1,if_pos hb2]
     ·rw [ai hb2,if_pos (.inr (by omega))]

theorem tk {f:List (ByteArray×Int)} {b n:Int} (hf:bG f b) (hn : -4096≤n∧n≤4095):((gk f b n).2=0→aU f b (gk f b n).1)∧(0≤(gk f b n).1∧(gk f b n).1≤4095):=by
 rw [gk]
 by_cases h0:n<0
 ·rw [if_pos h0]
  have h1:=aU.whole hf (0 - n - 1).toNat
  exact ⟨fun _=>h1,h1.2.1⟩
 ·rw [if_neg h0]
  by_cases h1:aM n.toNat (aP f)=0∨b=3
  ·rw [if_pos h1]
   exact ⟨fun _=>⟨hf,⟨by simp only;omega,by simp only;omega⟩,h1.symm⟩,by simp only;omega⟩
  ·rw [if_neg h1]
   by_cases hb1:b=1
   ·rw [if_pos hb1]
    have h2:aM (n.toNat&&&aP f) (((aP f:Nat):Int)).toNat=0:=by
     rw [Int.toNat_natCast,iK]
     intro i hi
     rw [Nat.testBit_and] at hi
     simp at hi;exact hi.2
    have h3:=aU.sub (aU.mask hf) h2
    exact ⟨fun _=>h3,h3.2.1⟩
   ·rw [if_neg hb1]
    by_cases hb2:b=2
    ·rw [if_pos hb2]
     exact ⟨fun h=>by simp at h,by simp only;omega⟩
    ·rw [if_neg hb2]
     exact ⟨fun h=>by simp at h,by simp⟩

def numberB:ByteArray:=ByteArray.mk #[110,117,109,98,101,114,32]

def wrongB:ByteArray:=ByteArray.mk #[119,114,111,110,103]

def whatB:ByteArray:=ByteArray.mk #[119,104,97,116]

def kK (f:List (ByteArray×Int)) (b n:Int):ByteArray :=
 if (gk f b n).2=0 then ch f b (gk f b n).1 else if (gk f b n).2=1 then numberB++bz (gk f b n).1 else wrongB

theorem wm {f:List (ByteArray×Int)} (h:cH f) {b n:Int} (hf:bG f b) (hn : -4096≤n∧n≤4095):hY f b n=some (kK f b n):=by
 obtain ⟨h1,h2⟩:=tk hf hn
 rw [hY,Ao h hf hn,ae,kK]
 by_cases h3:(gk f b n).2=0
 ·have hv:=h1 h3
  rw [ak h3,uv hf hv.2.1,ae,if_pos h3,ch,if_pos hv]
 ·rw [ai h3,if_neg h3]
  by_cases h4:(gk f b n).2=1
  ·have hz:=iQ (n:=(gk f b n).1) ⟨by omega,by omega⟩
   have e7:(ByteArray.mk #[110,117,109,98,101,114,32]).size=7:=rfl
   rw [ak h4,ji h2.1 (by omega),ae,al (by omega),if_pos h4]
   rfl
  ·rw [ai h4,if_neg h4]
   rfl

def lS (f:List (ByteArray×Int)) (b:Int) (w:ByteArray):ByteArray :=
 if (dB w).2=true ∧ -4096≤(dB w).1∧(dB w).1≤4095 then kK f b (dB w).1 else whatB

theorem BO (w:ByteArray):((db w).2=true∧(-4096≤(db w).1∧(db w).1≤4095)∧(dB w).2=true∧(dB w).1=(db w).1) ∨
  (¬ ((db w).2=true ∧ -4096≤(db w).1∧(db w).1≤4095)∧¬ ((dB w).2=true ∧ -4096≤(dB w).1∧(dB w).1≤4095)):=by
 by_cases h1:(db w).2=true ∧ -4096≤(db w).1∧(db w).1≤4095
 ·left
  obtain ⟨e,_⟩:=qT h1.1
  have hs:=vK (v:=(db w).1) ⟨by omega,by omega⟩
  rw [← e] at hs
  exact ⟨h1.1,h1.2,by rw [hs],by rw [hs]⟩
 ·right
  refine ⟨h1,fun h2=>h1 ?_⟩
  obtain ⟨e,_⟩:=vf h2.1
  have hd:=lO (n:=(dB w).1) ⟨by omega,by omega⟩
  rw [← e] at hd
  exact ⟨by rw [hd],by rw [hd];exact h2.2⟩

theorem wN {f:List (ByteArray×Int)} (h:cH f) {b:Int} (hf:bG f b) {w:ByteArray} (hw:w.size≤100000000):ik f b w=some (lS f b w):=by
 rw [ik,mW (by omega),ae,lS]
 rcases BO w with ⟨h1,h2,h3,h4⟩ | ⟨h1,h2⟩
 ·obtain ⟨g1,g2⟩:=tk hf h2
  rw [h1,Bool.not_true,cond_false,lv,ae,decide_eq_true h2,Bool.not_true,cond_false,vH h hf h2,ae,h4,if_pos ⟨h3,h2⟩,kK]
  by_cases h5:(gk f b (db w).1).2=0
  ·rw [ak h5,gu h,ae,if_pos h5]
  ·rw [ai h5,if_neg h5]
   by_cases h6:(gk f b (db w).1).2=1
   ·have hz:=iQ (n:=(gk f b (db w).1).1) ⟨by omega,by omega⟩
    have e7:(ByteArray.mk #[110,117,109,98,101,114,32]).size=7:=rfl
    rw [ak h6,rj ⟨by omega,by omega⟩,ae,al (by omega),if_pos h6]
    rfl
   ·rw [ai h6,if_neg h6]
    rfl
 ·rw [if_neg h2]
  cases h3:(db w).2 with
  | false=>rw [Bool.not_false,cond_true];rfl
  | true =>
   rw [Bool.not_true,cond_false,lv,ae,decide_eq_false (fun h4=>h1 ⟨h3,h4⟩),Bool.not_false,cond_true];rfl

def de (f:List (ByteArray×Int)) (b:Int):List ByteArray→Option (List Int)
 | []=>some []
 | w::r=>if (bj f b w).2=true then (de f b r).map ((bj f b w).1::·) else none

theorem lZ {f:List (ByteArray×Int)} {b:Int}:∀ {l:List ByteArray} {r:List Int},de f b l=some r→r.length=l.length
 | [],r,h=>by rw [de] at h;cases h;rfl
 | w::l,r,h=>by
  rw [de] at h
  by_cases hv:(bj f b w).2=true
  ·rw [if_pos hv] at h
   obtain ⟨q,hq,rfl⟩:=Option.map_eq_some_iff.1 h
   rw [List.length_cons,List.length_cons,lZ hq]
  ·rw [if_neg hv] at h;cases h

theorem oG {f:List (ByteArray×Int)} {b:Int} {s:ByteArray} (h:(bj f b s).2=true):aU f b (bj f b s).1:=by
 rw [bj] at *
 split
 ·rename_i hf
  rw [if_pos hf] at h
  split
  ·rename_i e;rw [e] at h;cases h
  ·rename_i x e
   rw [e] at h
   split
   ·rename_i hv;exact hv
   ·rename_i hv
    simp only at h
    rw [if_neg hv] at h;cases h
 ·rename_i hf;rw [if_neg hf] at h;cases h

theorem BN {f:List (ByteArray×Int)} (h:cH f) (b:Int) (W:List ByteArray) (hl:W.length≤1000000000) (hw:∀ w∈W,w.size≤100000000):∀ (k i n:Nat) (acc:List Int),i+k=W.length - 1→k<n→acc.length=i→1≤W.length →
  bV f b W n acc (i:Int)=some (match de f b (W.drop (i+1)) with | none=>.inl () | some r=>.inr (acc++r)):=by
 have e:((((W.length:Nat):Int).toNat - (1:Int).toNat:Nat):Int)=((W.length - 1:Nat):Int):=by rw [Int.toNat_natCast];rfl
 intro k
 induction k with
 | zero =>
  intro i n acc hk hn ha h1
  cases n with
  | zero=>omega
  | succ n =>
   rw [bV,bN,e,ai (by omega),List.drop_eq_nil_of_le (by omega),de]
   simp
 | succ k ih =>
  intro i n acc hk hn ha h1
  cases n with
  | zero=>omega
  | succ n =>
   have hi:i+1<W.length:=by omega
   have e2:(((1:Int).toNat+((i:Nat):Int).toNat:Nat):Int)=((i+1:Nat):Int):=by
    have:(1:Int).toNat=1:=rfl
    rw [Int.toNat_natCast,this];omega
   have hs:=hw _ (List.getElem_mem hi)
   rw [bV,bN,e,ak (by omega),al ⟨by omega,by omega⟩,e2,cz hi,vA h b hs,ae,List.drop_eq_getElem_cons hi,de,cj (by omega)]
   cases hv:(bj f b W[i+1]).2 with
   | false=>rw [Bool.not_false,cond_true,if_neg (by simp)]
   | true =>
    rw [Bool.not_true,cond_false,al (by simp;omega),if_pos rfl,ih (i+1) n _ (by omega) (by omega) (by simp [ha]) h1]
    cases de f b (W.drop (i+1+1)) <;> simp

theorem tQ (f:List (ByteArray×Int)) (b:Int) (W:List ByteArray):∀ (n:Nat) (acc:List Int) (i:Int),dw f b W n acc i=bV f b W n acc i
 | 0,_,_=>rfl
 | n+1,acc,i=>by
  rw [dw,bV]
  simp only [tQ f b W n]

def orC (f:List (ByteArray×Int)) (b a c:Int):Int:=if aU f b a∧aU f b c then ((a.toNat|||c.toNat:Nat):Int) else -1

def zC (f:List (ByteArray×Int)) (b a c:Int):Int:=if aU f b a∧aU f b c then ((a.toNat&&&c.toNat:Nat):Int) else -1

def wW (f:List (ByteArray×Int)) (b a c:Int):Int:=if aU f b a∧aU f b c then ((aM a.toNat c.toNat:Nat):Int) else -1

def jX (f:List (ByteArray×Int)) (b:Int) (w:ByteArray) (vs:List Int):ByteArray :=
 if w=(ByteArray.mk #[118,97,108,117,101]) then (if vs.length=1 then bz (gt vs 0) else whatB)
 else if w=(ByteArray.mk #[115,104,111,119]) then (if vs.length=1 then ch f b (gt vs 0) else whatB)
 else if w=(ByteArray.mk #[115,104,111,114,116]) then (if vs.length=1 then eN f b (gt vs 0) else whatB)
 else if w=(ByteArray.mk #[110,111,116]) then (if vs.length=1 then ch f b (oX f b (gt vs 0)) else whatB)
 else if w=(ByteArray.mk #[111,114]) then (if vs.length=2 then ch f b (orC f b (gt vs 0) (gt vs 1)) else whatB)
 else if w=(ByteArray.mk #[97,110,100]) then (if vs.length=2 then ch f b (zC f b (gt vs 0) (gt vs 1)) else whatB)
 else if w=(ByteArray.mk #[108,101,115,115]) then (if vs.length=2 then ch f b (wW f b (gt vs 0) (gt vs 1)) else whatB)
 else whatB

def makeB:ByteArray:=ByteArray.mk #[109,97,107,101]

def ki (f:List (ByteArray×Int)) (b:Int) (W:List ByteArray):ByteArray :=
 if gt W 0=makeB then (if W.length=2 then lS f b (gt W 1) else whatB)
 else match de f b W.tail with
  | none=>whatB
  | some vs=>jX f b (gt W 0) vs

def fc (f:List (ByteArray×Int)) (b:Int) (line:ByteArray):ByteArray:=ki f b (aI line 32)

theorem wv {f:List (ByteArray×Int)} (h:cH f) {b:Int} (hf:bG f b) {s:ByteArray} (hs:s.size≤100000000):fT f b s=some (fc f b s):=by
 have hwl:=hH s 32
 have hws:=ir s 32
 have hne:aI s 32≠[]:=by rw [aI];simpa using fb _ _
 rw [fT,show (ByteArray.mk #[32])=bl [32] from rfl,ma (by omega),ae,fc]
 show gd _ _=_
 rw [show ((aV 32 s.data.toList).map bl)=aI s 32 from rfl]
 generalize aI s 32=W at *
 have hlen:=List.length_pos_iff.2 hne
 have el:bV f b W FU [] 0=some (match de f b W.tail with | none=>.inl () | some r=>.inr r):=by
  have e:=BN h b W (by omega) (fun w hw=>by have:=hws w hw;omega) (W.length - 1) 0 FU [] (by omega) (by rw [FU_eq];omega) rfl (by omega)
  rw [List.drop_one] at e
  simpa using e
 rw [al ⟨by omega,by omega⟩,bN,ki]
 by_cases hm:gt W 0=makeB
 ·rw [ak (show gt W (0:Int)=(ByteArray.mk #[109,97,107,101]) from hm),if_pos hm]
  by_cases h2:W.length=2
  ·have hz:=hws _ (eD (l:=W) (q:=1) (by omega))
   rw [ak (by omega),al ⟨by omega,by omega⟩,wN h hf (by omega),ae,if_pos h2]
  ·rw [ai (by omega),al ⟨by omega,by omega,by omega,by omega⟩,tQ,el,ae,if_neg h2]
   cases de f b W.tail <;> rfl
 ·rw [ai (show ¬ gt W (0:Int)=(ByteArray.mk #[109,97,107,101]) from hm),if_neg hm,al ⟨by omega,by omega,by omega,by omega⟩,el,ae]
  cases hr:de f b W.tail with
  | none=>rfl
  | some vs =>
   have hvl:=lZ hr
   have h64:∀ x∈vs,0≤x∧x≤4095:=by
    have key:∀ (l:List ByteArray) (r:List Int),de f b l=some r→∀ x∈r,0≤x∧x≤4095:=by
     intro l
     induction l with
     | nil=>intro r h;rw [de] at h;cases h;simp
     | cons w l ih =>
      intro r h x hx
      rw [de] at h
      by_cases hv:(bj f b w).2=true
      ·rw [if_pos hv] at h
       obtain ⟨q,hq,rfl⟩:=Option.map_eq_some_iff.1 h
       rcases List.mem_cons.1 hx with rfl | hx
       ·exact (oG hv).2.1
       ·exact ih q hq x hx
      ·rw [if_neg hv] at h;cases h
    exact key _ _ hr
   simp only [sm]
   rw [bN,jX]
   have one:∀ (X:Int→Option ByteArray) (Y:Int→ByteArray),(vs.length=1→X (gt vs 0)=some (Y (gt vs 0))) →
     (bif decide ((vs.length:Int)=1) then gd (0≤(0:Int)∧(0:Int)<(vs.length:Int)) <| X (gt vs (0:Int)) else some (ByteArray.mk #[119,104,97,116]))=some (if vs.length=1 then Y (gt vs 0) else whatB):=by
    intro X Y hX
    by_cases h1:vs.length=1
    ·rw [ak (by omega),al ⟨by omega,by omega⟩,hX h1,if_pos h1]
    ·rw [ai (by omega),if_neg h1];rfl
   have two:∀ (X:Int→Int→Option ByteArray) (Y:Int→Int→ByteArray),(∀ x y,X x y=some (Y x y)) →
     (bif decide ((vs.length:Int)=2) then gd (0≤(0:Int)∧(0:Int)<(vs.length:Int)) <| gd (0≤(1:Int)∧(1:Int)<(vs.length:Int)) <| X (gt vs (0:Int)) (gt vs (1:Int)) else some (ByteArray.mk #[119,104,97,116]))=some (if vs.length=2 then Y (gt vs 0) (gt vs 1) else whatB):=by
    intro X Y hX
    by_cases h1:vs.length=2
    ·rw [ak (by omega),al ⟨by omega,by omega⟩,al ⟨by omega,by omega⟩,hX,if_pos h1]
    ·rw [ai (by omega),if_neg h1];rfl
   by_cases c1:gt W (0:Int)=(ByteArray.mk #[118,97,108,117,101])
   ·rw [ak c1,if_pos c1]
    refine one (fun x=>bd (di x) fun y=>some y) bz (fun h1=>?_)
    have h2:=h64 _ (eD (l:=vs) (q:=0) (by omega))
    show bd (di (gt vs 0)) _=_
    rw [rj ⟨by omega,by omega⟩,ae]
   rw [ai c1,if_neg c1,bN]
   by_cases c2:gt W (0:Int)=(ByteArray.mk #[115,104,111,119])
   ·rw [ak c2,if_pos c2]
    exact one (fun x=>bd (bt f b x) fun y=>some y) (ch f b) (fun h1=>by show bd (bt f b (gt vs 0)) _=_;rw [gu h,ae])
   rw [ai c2,if_neg c2,bN]
   by_cases c3:gt W (0:Int)=(ByteArray.mk #[115,104,111,114,116])
   ·rw [ak c3,if_pos c3]
    exact one (fun x=>bd (eh f b x) fun y=>some y) (eN f b) (fun h1=>by show bd (eh f b (gt vs 0)) _=_;rw [uY h,ae])
   rw [ai c3,if_neg c3]
   by_cases c4:gt W (0:Int)=(ByteArray.mk #[110,111,116])
   ·rw [ak c4,if_pos c4]
    exact one (fun x=>bd (dE f b x) fun y=>bd (bt f b y) fun z=>some z) (fun x=>ch f b (oX f b x)) (fun h1=>by show bd (dE f b (gt vs 0)) _=_;rw [sK h,ae,gu h,ae])
   rw [ai c4,if_neg c4]
   by_cases c5:gt W (0:Int)=(ByteArray.mk #[111,114])
   ·rw [ak c5,if_pos c5]
    exact two (fun x y=>bd (eP f b x y) fun y=>bd (bt f b y) fun z=>some z) (fun x y=>ch f b (orC f b x y)) (fun x y=>by show bd (eP f b x y) _=_;rw [wG h,ae,gu h,ae];rfl)
   rw [ai c5,if_neg c5]
   by_cases c6:gt W (0:Int)=(ByteArray.mk #[97,110,100])
   ·rw [ak c6,if_pos c6]
    exact two (fun x y=>bd (ea f b x y) fun y=>bd (bt f b y) fun z=>some z) (fun x y=>ch f b (zC f b x y)) (fun x y=>by show bd (ea f b x y) _=_;rw [uQ h,ae,gu h,ae];rfl)
   rw [ai c6,if_neg c6,bN]
   by_cases c7:gt W (0:Int)=(ByteArray.mk #[108,101,115,115])
   ·rw [ak c7,if_pos c7]
    exact two (fun x y=>bd (dJ f b x y) fun y=>bd (bt f b y) fun z=>some z) (fun x y=>ch f b (wW f b x y)) (fun x y=>by show bd (dJ f b x y) _=_;rw [um h,ae,gu h,ae];rfl)
   rw [ai c7,if_neg c7]
   rfl

theorem zn {f:List (ByteArray×Int)} {b:Int} {w:ByteArray} {v:Int}:jX f b w [v] =
  if w=(ByteArray.mk #[118,97,108,117,101]) then bz v
  else if w=(ByteArray.mk #[115,104,111,119]) then ch f b v
  else if w=(ByteArray.mk #[115,104,111,114,116]) then eN f b v
  else if w=(ByteArray.mk #[110,111,116]) then ch f b (oX f b v)
  else whatB:=by
 have h1:([v]:List Int).length=1:=rfl
 have h2:¬ ([v]:List Int).length=2:=by simp
 have g0:gt [v] (0:Int)=v:=rfl
 unfold jX
 simp only [if_pos h1,if_neg h2,ite_self,g0]

theorem zK {f:List (ByteArray×Int)} {b:Int} {w:ByteArray} {v u:Int}:jX f b w [v,u] =
  if w=(ByteArray.mk #[111,114]) then ch f b (orC f b v u)
  else if w=(ByteArray.mk #[97,110,100]) then ch f b (zC f b v u)
  else if w=(ByteArray.mk #[108,101,115,115]) then ch f b (wW f b v u)
  else whatB:=by
 have h1:¬ ([v,u]:List Int).length=1:=by simp
 have h2:([v,u]:List Int).length=2:=rfl
 have g0:gt [v,u] (0:Int)=v:=rfl
 have g1:gt [v,u] (1:Int)=u:=rfl
 unfold jX
 simp only [if_pos h2,if_neg h1,g0,g1]
 by_cases c1:w=(ByteArray.mk #[118,97,108,117,101])
 ·rw [if_pos c1];subst c1
  rw [if_neg (by decide),if_neg (by decide),if_neg (by decide)]
 rw [if_neg c1]
 by_cases c2:w=(ByteArray.mk #[115,104,111,119])
 ·rw [if_pos c2];subst c2
  rw [if_neg (by decide),if_neg (by decide),if_neg (by decide)]
 rw [if_neg c2]
 by_cases c3:w=(ByteArray.mk #[115,104,111,114,116])
 ·rw [if_pos c3];subst c3
  rw [if_neg (by decide),if_neg (by decide),if_neg (by decide)]
 rw [if_neg c3]
 by_cases c4:w=(ByteArray.mk #[110,111,116])
 ·rw [if_pos c4];subst c4
  rw [if_neg (by decide),if_neg (by decide),if_neg (by decide)]
 rw [if_neg c4]

theorem sc {f:List (ByteArray×Int)} {b:Int} {w:ByteArray} {vs:List Int} (h1:vs.length≠1) (h2:vs.length≠2):jX f b w vs=whatB:=by
 simp only [jX,if_neg h1,if_neg h2,ite_self]

theorem mH {f:List (ByteArray×Int)} {b:Int} {s:ByteArray}:((bj f b s).2=true∧0≤(if (bj f b s).2=true then (bj f b s).1 else -1)∧(if (bj f b s).2=true then (bj f b s).1 else -1)=(bj f b s).1∧aU f b (bj f b s).1)∨((bj f b s).2≠true∧¬ 0≤(if (bj f b s).2=true then (bj f b s).1 else -1)):=by
 by_cases h:(bj f b s).2=true
 ·left
  have:=oG h
  rw [if_pos h]
  exact ⟨h,this.2.1.1,rfl,this⟩
 ·right
  rw [if_neg h]
  exact ⟨h,by omega⟩

theorem kc {f:List (ByteArray×Int)} {b a:Int} (hv:aU f b a):dz f b a=some (ch f b a):=by
 rw [uv hv.1 hv.2.1,ch,if_pos hv]

theorem gt0 (a:ByteArray) (r:List ByteArray):gt (a::r) (0:Int)=a:=rfl

theorem gt1 (a x:ByteArray) (r:List ByteArray):gt (a::x::r) (1:Int)=x:=rfl

theorem gt2 (a x y:ByteArray) (r:List ByteArray):gt (a::x::y::r) (2:Int)=y:=rfl

theorem yx {f:List (ByteArray×Int)} (h:cH f) {b:Int} (hf:bG f b) {s:ByteArray} (hs:s.size≤100000000):iU f b s=some (fc f b s):=by
 have hwl:=hH s 32
 have hws:=ir s 32
 have hne:aI s 32≠[]:=by rw [aI];simpa using fb _ _
 have es:cA s 32=some (aI s 32):=kX (s:=s) (c:=32) (by omega)
 rw [iU,es,ae,fc]
 generalize aI s 32=W at *
 have hlen:=List.length_pos_iff.2 hne
 rw [w64 (a:=(W.length:Int) - 1) (by omega) (by omega),al ⟨by omega,by omega⟩,nl (by have:=hws _ (eD (l:=W) (q:=(W.length:Int) - 1) (by omega));omega),ae]
 have k1:∀ w∈W,w.size≤100000000:=fun w hw=>by have:=hws w hw;omega
 rcases W with _ | ⟨a,_ | ⟨x,_ | ⟨y,_ | ⟨z,r⟩⟩⟩⟩
 ·exact absurd rfl hne
 ·have e1:((([a]:List ByteArray).length:Nat):Int)=1:=rfl
  rw [e1,ai (by omega),ak (by omega),ki,gt0]
  by_cases hm:a=makeB
  ·rw [if_pos hm,if_neg (by simp)];rfl
  ·rw [if_neg hm,List.tail_cons,de]
   simp only []
   rw [sc (by simp) (by simp)];rfl
 ·have e1:((([a,x]:List ByteArray).length:Nat):Int)=2:=rfl
  have hx:=k1 x (by simp)
  rw [e1,show (2:Int) - 1=1 from rfl,ak rfl,al (by omega),gt0,gt1,bN,ki,gt0,gt1]
  by_cases hm:a=makeB
  ·rw [ak (show a=(ByteArray.mk #[109,97,107,101]) from hm),if_pos hm,if_pos (by rfl),lS]
   have rest:(bif decide ((2:Int)<2) then some (ByteArray.mk #[119,104,97,116]) else bif decide ((3:Int)<2) then some (ByteArray.mk #[119,104,97,116]) else gd (0≤(1:Int)∧(1:Int)<2) <| bd (bH f b x) fun x9=>bd (bH f b x) fun x10=>some (ByteArray.mk #[119,104,97,116]))=some whatB:=by
    rw [ai (by omega),ai (by omega),al (by omega),jI h hf (by omega),ae,ae];rfl
   by_cases h1:(dB x).2=true
   ·rw [h1,cond_true,gH,ae]
    by_cases h2 : -4096≤(dB x).1∧(dB x).1≤4095
    ·rw [decide_eq_true h2,cond_true,wm h hf h2,ae,if_pos ⟨rfl,h2⟩]
    ·rw [decide_eq_false h2,cond_false,if_neg (fun h3=>h2 h3.2)]
     exact rest
   ·have h1':(dB x).2=false:=by simpa using h1
    rw [h1',cond_false,if_neg (fun h3=>by cases h3.1)]
    exact rest
  ·rw [ai (show ¬ a=(ByteArray.mk #[109,97,107,101]) from hm),if_neg hm,ai (by omega),ai (by omega),al (by omega),jI h hf (by omega),ae,ae,bN,List.tail_cons,de,de]
   rcases mH (f:=f) (b:=b) (s:=x) with ⟨v1,v2,v3,v4⟩ | ⟨v1,v2⟩
   ·rw [if_pos v1,if_pos v1]
    simp only [Option.map_some]
    rw [if_pos v1] at v2
    rw [zn]
    by_cases c1:a=(ByteArray.mk #[118,97,108,117,101])
    ·rw [ak c1,if_pos c1,ak v2,ji v2 (by have:=v4.2.1;omega),ae]
    rw [ai c1,if_neg c1,bN]
    by_cases c2:a=(ByteArray.mk #[115,104,111,119])
    ·rw [ak c2,if_pos c2,ak v2,kc v4,ae]
    rw [ai c2,if_neg c2,bN]
    by_cases c3:a=(ByteArray.mk #[115,104,111,114,116])
    ·rw [ak c3,if_pos c3,ak v2,uT h,ae]
    rw [ai c3,if_neg c3]
    by_cases c4:a=(ByteArray.mk #[110,111,116])
    ·have hi:aU f b (oX f b (bj f b x).1):=by rw [oX,if_pos v4];exact aU.whole hf _
     rw [ak c4,if_pos c4,ak v2,sU h,ae,kc hi,ae]
    rw [ai c4,if_neg c4]
    rfl
   ·rw [if_neg v1] at v2
    rw [if_neg v1,if_neg v1]
    simp only [ai v2,bN,Bool.cond_self]
    rfl
 ·have e1:((([a,x,y]:List ByteArray).length:Nat):Int)=3:=rfl
  have hx:=k1 x (by simp)
  have hy:=k1 y (by simp)
  rw [e1,show (3:Int) - 1=2 from rfl,ai (by omega),ai (by omega),ai (by omega),al (by omega),gt1,gt2,jI h hf (by omega),ae,jI h hf (by omega),ae,ak rfl,al (by omega),gt0,ki,gt0]
  have what:∀ (c:Bool) (X:Option ByteArray),(∀ q,X=q→c=true→q=some whatB)→(bif c then X else some (ByteArray.mk #[119,104,97,116]))=some whatB:=fun c X hX=>by
   cases c with
   | true=>exact hX X rfl rfl
   | false=>rfl
  by_cases hm:a=makeB
  ·rw [if_pos hm,if_neg (show ¬ ([a,x,y]:List ByteArray).length=2 by simp)]
   subst hm
   rw [ai (by decide),ai (by decide),bN,ai (by decide)];rfl
  ·rw [if_neg hm,List.tail_cons,de,de,de]
   rcases mH (f:=f) (b:=b) (s:=x) with ⟨v1,v2,v3,v4⟩ | ⟨v1,v2⟩
   ·rcases mH (f:=f) (b:=b) (s:=y) with ⟨u1,u2,u3,u4⟩ | ⟨u1,u2⟩
    ·rw [if_pos v1] at v2
     rw [if_pos u1] at u2
     rw [if_pos v1,if_pos v1,if_pos u1,if_pos u1]
     simp only [Option.map_some]
     rw [zK]
     have hxr:=v4.2.1
     have hyr:=u4.2.1
     by_cases c5:a=(ByteArray.mk #[111,114])
     ·have e:=rZ (a:=(bj f b x).1.toNat) (b:=(bj f b y).1.toNat) (by omega) (by omega)
      rw [aT hxr.1,aT hyr.1] at e
      rw [ak c5,ak v2,ak u2,e,ae,kc (aU.or v4 u4),ae,orC,if_pos (show aU f b _∧aU f b _ from ⟨v4,u4⟩),if_pos c5]
     rw [ai c5,if_neg c5]
     by_cases c6:a=(ByteArray.mk #[97,110,100])
     ·have e:=lR (a:=(bj f b x).1.toNat) (b:=(bj f b y).1.toNat) (by omega) (by omega)
      rw [aT hxr.1,aT hyr.1] at e
      rw [ak c6,ak v2,ak u2,e,ae,kc (aU.sub v4 (uS _ _)),ae,zC,if_pos (show aU f b _∧aU f b _ from ⟨v4,u4⟩),if_pos c6]
     rw [ai c6,if_neg c6,bN]
     by_cases c7:a=(ByteArray.mk #[108,101,115,115])
     ·have e:=fI (a:=(bj f b x).1.toNat) (b:=(bj f b y).1.toNat) (by omega) (by omega)
      rw [aT hxr.1,aT hyr.1] at e
      have hs:aM (aM (bj f b x).1.toNat (bj f b y).1.toNat) (bj f b x).1.toNat=0:=by
       rw [iK];intro i hi
       rw [dG] at hi
       simp at hi;exact hi.1
      rw [ak c7,ak v2,ak u2,e,ae,kc (aU.sub v4 hs),ae,wW,if_pos (show aU f b _∧aU f b _ from ⟨v4,u4⟩),if_pos c7]
     rw [ai c7,if_neg c7]
     rfl
    ·rw [if_neg u1] at u2
     rw [if_pos v1] at v2
     rw [if_pos v1,if_pos v1,if_neg u1,if_neg u1]
     simp only [ai u2,ak v2,Option.map_none,bN,Bool.cond_self]
     rfl
   ·rw [if_neg v1] at v2
    rw [if_neg v1,if_neg v1]
    simp only [ai v2,bN,Bool.cond_self]
    rfl
 ·have e1:(3:Int)<(((a::x::y::z::r).length:Nat):Int):=by simp only [List.length_cons];omega
  rw [ai (by omega),ai (by omega),ak e1,ki,gt0]
  by_cases hm:a=makeB
  ·rw [if_pos hm,if_neg (by simp)];rfl
  ·rw [if_neg hm,List.tail_cons]
   cases hr:de f b (x::y::z::r) with
   | none=>rfl
   | some vs =>
    have hvl:=lZ hr
    simp only [List.length_cons] at hvl
    simp only []
    rw [sc (by omega) (by omega)];rfl

theorem qO {f:List (ByteArray×Int)} {b:Int}:∀ {l:List ByteArray} {r:List Int},de f b l=some r→∀ x∈r,0≤x∧x≤4095
 | [],r,h=>by rw [de] at h;cases h;simp
 | w::l,r,h=>by
  intro x hx
  rw [de] at h
  by_cases hv:(bj f b w).2=true
  ·rw [if_pos hv] at h
   obtain ⟨q,hq,rfl⟩:=Option.map_eq_some_iff.1 h
   rcases List.mem_cons.1 hx with rfl | hx
   ·exact (oG hv).2.1
   ·exact qO hq x hx
  ·rw [if_neg hv] at h;cases h

structure zI (f:List (ByteArray×Int)) (b:Int) (Q:ByteArray→Prop):Prop where
 what:Q whatB
 wrong:Q wrongB
 num:∀ n:Int,0≤n∧n≤4095→Q (bz n)
 number:∀ n:Int,0≤n∧n≤4095→Q (numberB++bz n)
 shown:∀ a,Q (ch f b a)
 short:∀ a,Q (eN f b a)

theorem xU {f:List (ByteArray×Int)} {b n:Int} {Q:ByteArray→Prop} (h:zI f b Q) (hf:bG f b) (hn : -4096≤n∧n≤4095):Q (kK f b n):=by
 obtain ⟨h1,h2⟩:=tk hf hn
 rw [kK]
 split
 ·exact h.shown _
 ·split
  ·exact h.number _ h2
  ·exact h.wrong

theorem AK {f:List (ByteArray×Int)} {b:Int} {Q:ByteArray→Prop} (h:zI f b Q) (w:ByteArray) {vs:List Int} (hv:∀ x∈vs,0≤x∧x≤4095):Q (jX f b w vs):=by
 have one:∀ x:ByteArray,(vs.length=1→Q x)→Q (if vs.length=1 then x else whatB):=fun x hx=>by
  by_cases h1:vs.length=1
  ·rw [if_pos h1];exact hx h1
  ·rw [if_neg h1];exact h.what
 have two:∀ x:ByteArray,Q x→Q (if vs.length=2 then x else whatB):=fun x hx=>by
  by_cases h1:vs.length=2
  ·rw [if_pos h1];exact hx
  ·rw [if_neg h1];exact h.what
 rw [jX]
 split
 ·exact one _ (fun h1=>h.num _ (hv _ (eD (by omega))))
 split
 ·exact one _ (fun _=>h.shown _)
 split
 ·exact one _ (fun _=>h.short _)
 split
 ·exact one _ (fun _=>h.shown _)
 split
 ·exact two _ (h.shown _)
 split
 ·exact two _ (h.shown _)
 split
 ·exact two _ (h.shown _)
 exact h.what

theorem xN {f:List (ByteArray×Int)} {b:Int} {Q:ByteArray→Prop} (h:zI f b Q) (hf:bG f b) (s:ByteArray):Q (fc f b s):=by
 rw [fc,ki]
 split
 ·split
  ·rw [lS]
   split
   ·rename_i h1;exact xU h hf h1.2
   ·exact h.what
  ·exact h.what
 ·split
  ·exact h.what
  ·rename_i vs e;exact AK h _ (qO e)

theorem qC {f:List (ByteArray×Int)} {b:Int} (hf:bG f b) (s:ByteArray):(fc f b s).size≤1000000:=by
 have e4:whatB.size=4:=rfl
 have e5:wrongB.size=5:=rfl
 have e7:numberB.size=7:=rfl
 refine xN (Q:=fun a=>a.size≤1000000) ⟨by omega,by omega,fun n hn=>?_,fun n hn=>?_,fun a=>xn f b a,fun a=>vz f b a⟩ hf s
 ·have:=iQ (n:=n) ⟨by omega,by omega⟩
  omega
 ·have:=iQ (n:=n) ⟨by omega,by omega⟩
  rw [ByteArray.size_append];omega

theorem B3 {c:UInt8} {sep:List UInt8} (hs:c ∉ sep) {l:List (List UInt8)} (h:∀ p∈l,c ∉ p):c ∉ Lib.join l sep:=by
 cases l with
 | nil=>simp [Lib.join]
 | cons x r =>
  rw [Lib.join_cons,Lib.joinTail]
  intro hm
  rcases List.mem_append.1 hm with hx | hx
  ·exact h x (by simp) hx
  ·obtain ⟨q,hq,hcq⟩:=List.mem_flatten.1 hx
   obtain ⟨p,hp,rfl⟩:=List.mem_map.1 hq
   rcases List.mem_append.1 hcq with hq | hq
   ·exact hs hq
   ·exact h p (by simp [hp]) hq

theorem zg {f:List (ByteArray×Int)} {b:Int} (hf:bG f b) {list:List ByteArray} (hl:∀ s∈list,eL s) (rest:Int):(10:UInt8) ∉ (kM f list rest).data.toList:=by
 have nm:∀ s:ByteArray,eL s→(10:UInt8) ∉ s.data.toList:=fun s hs=>tt hs (c:=10) (.inl (by decide))
 rw [kM]
 split
 ·rw [qY]
  have hr:=kW f 0
  split
  ·rw [bL];decide
  ·have hm:gt f (dT f 0)∈f:=eD ⟨by omega,hr.2⟩
   exact nm _ (hf.1.out.1 _ hm).1
 ·rw [kS,bL]
  refine B3 (by decide) (fun p hp=>?_)
  obtain ⟨q,hq,rfl⟩:=List.mem_map.1 hp
  rw [gC] at hq
  split at hq
  ·exact nm q (hl q hq)
  ·rcases List.mem_append.1 hq with hq | hq
   ·exact nm q (hl q hq)
   ·rw [List.mem_singleton] at hq
    subst hq
    rw [bz,bL]
    exact vc (by decide)

theorem BX {f:List (ByteArray×Int)} {b:Int} (hf:bG f b) (s:ByteArray):(10:UInt8) ∉ (fc f b s).data.toList:=by
 have ne:(10:UInt8) ∉ (ByteArray.empty).data.toList:=by decide
 refine xN (Q:=fun a=>(10:UInt8) ∉ a.data.toList) ⟨by decide,by decide,fun n hn=>?_,fun n hn=>?_,fun a=>?_,fun a=>?_⟩ hf s
 ·rw [bz,bL];exact vc (by decide)
 ·rw [jc,bL]
  intro hm
  rcases List.mem_append.1 hm with hm | hm
  ·exact absurd hm (by decide)
  ·rw [bz,bL] at hm;exact vc (by decide) hm
 ·rw [ch]
  split
  ·refine zg hf (fun s hs=>?_) _
   obtain ⟨d,hd,rfl⟩:=List.mem_map.1 hs
   exact (hf.1.out.1 d (lH hd)).1
  ·exact ne
 ·rw [eN]
  split
  ·refine zg hf (fun s hs=>?_) _
   obtain ⟨d,hd,rfl⟩:=List.mem_map.1 hs
   exact (hf.1.out.1 d (hF hd)).1
  ·exact ne

def dk (ok:Bool) (g:ByteArray→ByteArray) (xs:List ByteArray):List UInt8:=xs.flatMap fun x=>eZ ok (g x)

theorem la (ok:Bool) (g:ByteArray→ByteArray) (x:ByteArray) (r:List ByteArray):dk ok g (x::r)=eZ ok (g x)++dk ok g r:=by
 rw [dk,List.flatMap_cons];rfl

theorem ul {F:ByteArray→Option ByteArray} {g:ByteArray→ByteArray} (ok:Bool):∀ xs:List ByteArray,(ok=true→∀ x∈xs,F x=some (g x)∧(g x).size≤1000000000)→kC F ok xs=some (dk ok g xs)
 | [],_=>rfl
 | x::r,h=>by
  have ih:=ul (F:=F) (g:=g) ok r (fun hk y hy=>h hk y (by simp [hy]))
  rw [kC,ih,la]
  cases ok with
  | true =>
   obtain ⟨h1,h2⟩:=h rfl x (by simp)
   rw [cond_true,h1,ae,al h2,ae,ae]
  | false=>rw [cond_false,ae,ae];rfl

def eo (s:ByteArray) (lines:List ByteArray):ByteArray :=
 if 20<lines.length then ByteArray.empty else bl (dk (aA s).2.2 (fc (aA s).1 (aA s).2.1) lines)

theorem qw {s:ByteArray} {lines:List ByteArray} (hs:s.size≤100000000) (hl:∀ x∈lines,x.size≤100000000):gy s lines=some (eo s lines):=by
 rw [gy,eo]
 by_cases h20:20<lines.length
 ·rw [ak (by omega),if_pos h20]
 ·have e:kC (fun l=>fT (aA s).1 (aA s).2.1 l) (aA s).2.2 lines=some (dk (aA s).2.2 (fc (aA s).1 (aA s).2.1) lines):=by
   refine ul _ _ (fun hk x hx=>?_)
   have hf:=(iA hk).1
   have hd:cH (aA s).1:=(eO.smallD hf.1 (by decide) (by decide)).inn
   exact ⟨wv hd hf (hl x hx),by have:=qC hf x;omega⟩
  rw [ai (by omega),if_neg h20,va hs,ae,e,ae]
  rfl

theorem Cv (s a b:ByteArray):(s++a)++b=s++(a++b):=by
 apply ByteArray.ext
 simp

theorem qf (ok:Bool) (g:ByteArray→ByteArray):∀ (l:List ByteArray) (a:List UInt8),l.foldl (fun s x=>s++bl (eZ ok (g x))) (bl a)=bl (a++dk ok g l)
 | [],a=>by simp [dk]
 | x::l,a=>by
  rw [List.foldl_cons,kE,qf ok g l,la,tP]
  simp

theorem xh {s:ByteArray} {lines:List ByteArray} (hs:s.size≤100000000) (hl:∀ x∈lines,x.size≤100000000):fE s lines=some (eo s lines):=by
 rw [fE,eo]
 by_cases h20:20<lines.length
 ·rw [ak (by omega),if_pos h20]
 ·have e:=nu lines (cQ lines (aA s)) (fun s' x=>s'++bl (eZ (aA s).2.2 (fc (aA s).1 (aA s).2.1 x))) (fun i s'=>s'.size≤1000010*i) ?_ ?_ FU (by rw [FU_eq];omega) ByteArray.empty (by decide)
  ·rw [ai (by omega),if_neg h20,oc hs,ae,e.1,ae,empty_bl,qf,List.nil_append]
  ·intro n s'
   rw [cQ,ai (by omega)]
  ·intro n i s' hi hm hI
   have e1:(ByteArray.mk #[10]).size=1:=rfl
   have e6:(ByteArray.mk #[119,114,111,110,103,10]).size=6:=rfl
   rw [cQ,ak (by omega),cj (by omega)]
   cases hk:(aA s).2.2 with
   | true =>
    have hf:=(iA hk).1
    have hd:cH (aA s).1:=(eO.smallD hf.1 (by decide) (by decide)).inn
    have hz:=qC hf (gt lines (i:Int))
    refine ⟨?_,?_⟩
    ·have h3:(eZ true (fc (aA s).1 (aA s).2.1 (gt lines (i:Int)))).length=(fc (aA s).1 (aA s).2.1 (gt lines (i:Int))).size+1:=by
      rw [eZ,cond_true,List.length_append,← cB];rfl
     rw [ByteArray.size_append,dQ,h3];omega
    ·have h4:s'++bl (eZ true (fc (aA s).1 (aA s).2.1 (gt lines (i:Int))))=(s'++fc (aA s).1 (aA s).2.1 (gt lines (i:Int)))++(ByteArray.mk #[10]):=by
      rw [Cv,eZ,cond_true,← kE,fX];rfl
     rw [cond_true,al (by omega),yx hd hf (hl _ hm),ae,al (by omega),al (by rw [ByteArray.size_append];omega),h4]
   | false =>
    refine ⟨?_,?_⟩
    ·rw [ByteArray.size_append,dQ,eZ,cond_false]
     simp only [List.length_cons,List.length_nil]
     omega
    ·rw [cond_false,al (by omega)]
     rfl

theorem xf {ok:Bool} {g:ByteArray→ByteArray}:∀ {xs:List ByteArray},(ok=true→∀ x∈xs,(10:UInt8) ∉ (g x).data.toList)→nlC (dk ok g xs)=xs.length
 | [],_=>rfl
 | x::r,h=>by
  have ih:=xf (ok:=ok) (g:=g) (xs:=r) (fun hk y hy=>h hk y (by simp [hy]))
  have h1:nlC (eZ ok (g x))=1:=by
   cases ok with
   | true=>rw [eZ,cond_true,oF,Ch (h rfl x (by simp))];rfl
   | false=>rfl
  rw [la,oF,ih,h1,List.length_cons];omega

theorem yn (ok:Bool) (g:ByteArray→ByteArray) (xs:List ByteArray) (k:Nat):∃ t,dk ok g xs=dk ok g (xs.take k)++t :=
 ⟨dk ok g (xs.drop k),by rw [dk,dk,dk,← List.flatMap_append,List.take_append_drop]⟩

theorem zz (a t:List UInt8):(bl (a++t)).extract 0 a.length=bl a:=by
 apply ByteArray.ext
 simp [bl,ByteArray.data_extract]

theorem Ap {code:List Int} {p:Int} (hc:fV code) (hl:code.length≤9223372036854775807) (hp:0≤p∧p<1000000) {xs:List ByteArray} (hx:xs≠[]) (hs:∀ s∈xs,s.size≤10000) {α:Type} {f:ByteArray→Option α} {Q:α→Prop}
  (h:∀ x,x.size≤10000→∃ r,f x=some r∧Q r):∃ r,bd (bq xs code p) f=some r∧Q r:=by
 obtain ⟨x,e,hm⟩:=wV hc hl hp hx
 rw [e,ae]
 exact h x (hs x hm)

theorem tX {c:List Int} (hc:fV c) (hl:c.length≤9223372036854775807) (x3:ByteArray×Int) (x4:(List (ByteArray×Int))×Int×Bool) (hd:iL x4.1):∀ (k n:Nat) (p:Int) (acc:List ByteArray),k<n→k≤6→acc.length+k≤6→(∀ s∈acc,s.size≤10000)→0≤p→p+100*k<500000 →
  ∃ r,bM c x3 x4 n p acc (k:Int)=some r∧∀ s∈r,s.size≤10000:=by
 intro k
 induction k with
 | zero =>
  intro n p acc hn _ hk ha h1 h2
  cases n with
  | zero=>omega
  | succ n =>
   rw [bM,ai (by omega)]
   exact ⟨acc,rfl,ha⟩
 | succ k ih =>
  intro n p acc hn h6 hk ha h1 h2
  cases n with
  | zero=>omega
  | succ n =>
   obtain ⟨u,eu,u1,u2,u3⟩:=BA hc hl hd x4.2.1 (p:=p) ⟨by omega,by omega⟩
   obtain ⟨v,ev,v1,v2,v3⟩:=BA hc hl hd x4.2.1 (p:=u.2) ⟨by omega,by omega⟩
   have s5:(ByteArray.mk #[115,104,111,119,32]).size=5:=rfl
   have s6:(ByteArray.mk #[115,104,111,114,116,32]).size=6:=rfl
   have s4:(ByteArray.mk #[110,111,116,32]).size=4:=rfl
   have s3:(ByteArray.mk #[111,114,32]).size=3:=rfl
   have s1:(ByteArray.mk #[32]).size=1:=rfl
   have t4:(ByteArray.mk #[97,110,100,32]).size=4:=rfl
   have t5:(ByteArray.mk #[108,101,115,115,32]).size=5:=rfl
   have t6:(ByteArray.mk #[118,97,108,117,101,32]).size=6:=rfl
   have ek:IntKind.wrap .i64 (((k+1:Nat):Int) - 1)=(k:Int):=by rw [w64 (by omega) (by omega)];omega
   rw [bM,ak (by omega),eu,ae,ev,ae,al (by omega),al (by omega),al (by omega),al (by omega),al (by rw [ByteArray.size_append];omega),bN,
    al (by rw [ByteArray.size_append,ByteArray.size_append];omega),al (by omega),al (by rw [ByteArray.size_append];omega),bN,al (by rw [ByteArray.size_append,ByteArray.size_append];omega),
    al (by omega),al (by rw [ByteArray.size_append];omega),bN,al (by rw [ByteArray.size_append,ByteArray.size_append];omega),al (by omega),
    al (by rw [ByteArray.size_append];omega),bN,al (by rw [ByteArray.size_append,ByteArray.size_append];omega)]
   refine Ap hc hl ⟨by omega,by omega⟩ (by simp) (fun s hs=>?_) (fun x hx=>?_)
   ·simp only [List.mem_cons,List.not_mem_nil,or_false] at hs
    rcases hs with rfl | rfl | rfl | rfl | rfl | rfl | rfl | rfl | rfl | rfl | rfl | rfl | rfl | rfl | rfl <;> first | decide | (simp only [ByteArray.size_append];omega)
   ·rw [al (by simp;omega),w64 (a:=v.2+1) (by omega) (by omega),ek]
    refine ih n _ _ (by omega) (by omega) (by simp;omega) (fun s hs=>?_) (by omega) (by omega)
    rcases List.mem_append.1 hs with hs | hs
    ·exact ha s hs
    ·rw [List.mem_singleton] at hs;subst hs;exact hx

theorem uE (c:List Int) (x3 x6:ByteArray×Int) (x4:(List (ByteArray×Int))×Int×Bool):∀ (n:Nat) (p:Int) (acc:List ByteArray) (i:Int),cR c x4 x6 n p acc i=bM c x3 x4 n p acc i
 | 0,_,_,_=>rfl
 | n+1,p,acc,i=>by
  rw [cR,bM]
  simp only [uE c x3 x6 x4 n]

theorem uR (s:ByteArray):iL (aA s).1:=by
 cases hk:(aA s).2.2 with
 | true =>
  have hf:=(iA hk).1
  have hs:=eO.smallD hf.1 (by decide) (by decide)
  exact ⟨by have:=hs.1;omega,fun d hd=>by have:=hf.1.out.1 d hd;have:=this.1.2.2;exact ⟨by omega,by omega,by omega⟩⟩
 | false =>
  have e:(aA s).1=[]:=by
   rw [aA] at *
   split
   ·rename_i h
    rw [if_pos h] at hk
    rw [jr] at *
    split
    ·rename_i h2;rw [if_pos h2] at hk;cases hk
    ·rfl
   ·rfl
  rw [e]
  exact ⟨by simp,by simp⟩

theorem yL {code:List Int} (hc:fV code) (hl:code.length≤9223372036854775807):∃ r,fJ code=some r∧r.1.size≤100000∧∀ s∈r.2,s.size≤10000:=by
 obtain ⟨c,ec,hc',hl'⟩:=AS hc hl
 obtain ⟨t,et,t1,t2,t3⟩:=wE hc' hl' (p:=0) ⟨by omega,by omega⟩
 obtain ⟨y,ey,ly,uy⟩:=pick (n:=8) hc' hl' (p:=t.2) ⟨by omega,by omega⟩
 have hd:=uR t.1
 rw [fJ,ec,ae,et,ae,oc (by omega),ae,ey,ae]
 have nat6:∀ z:Int,z∈([4,6,2,0]:List Int)→∃ k:Nat,z=(k:Int)∧k≤6:=fun z hz=>by
  simp only [List.mem_cons,List.not_mem_nil,or_false] at hz
  exact ⟨z.toNat,by omega,by omega⟩
 by_cases h0:y=0
 ·obtain ⟨m,em,m1,m2,m3⟩:=Cl hc' hl' (s:=t.1) (by omega) (p:=t.2+1) ⟨by omega,by omega⟩
  obtain ⟨z,ez,mz⟩:=one hc' hl' (p:=m.2) ⟨by omega,by omega⟩ (xs:=([4,6,2,0]:List Int)) (by simp)
  obtain ⟨k,rfl,hk⟩:=nat6 z mz
  obtain ⟨r,er,hr⟩:=tX hc' hl' t (aA t.1) hd k FU (m.2+1) [] (Nat.lt_of_le_of_lt hk (by decide)) hk (by simpa using hk) (by simp) (by omega) (by omega)
  rw [ak h0,w64 (a:=t.2+1) (by omega) (by omega),em,ae,ez,ae,w64 (a:=m.2+1) (by omega) (by omega),uE c t,er,ae]
  exact ⟨_,rfl,by simp only;omega,hr⟩
 ·obtain ⟨z,ez,mz⟩:=one hc' hl' (p:=t.2+1) ⟨by omega,by omega⟩ (xs:=([4,6,2,0]:List Int)) (by simp)
  obtain ⟨k,rfl,hk⟩:=nat6 z mz
  obtain ⟨r,er,hr⟩:=tX hc' hl' t (aA t.1) hd k FU (t.2+1+1) [] (Nat.lt_of_le_of_lt hk (by decide)) hk (by simpa using hk) (by simp) (by omega) (by omega)
  rw [ai h0,w64 (a:=t.2+1) (by omega) (by omega),ez,ae,w64 (a:=t.2+1+1) (by omega) (by omega),er,ae]
  exact ⟨_,rfl,by simp only;omega,hr⟩

theorem uq {ok:Bool} {g:ByteArray→ByteArray}:∀ {xs:List ByteArray},(ok=true→∀ x∈xs,(g x).size≤1000000)→(dk ok g xs).length≤1000010*xs.length
 | [],_=>by simp [dk]
 | x::r,h=>by
  have ih:=uq (ok:=ok) (g:=g) (xs:=r) (fun hk y hy=>h hk y (by simp [hy]))
  have h1:(eZ ok (g x)).length≤1000010:=by
   cases ok with
   | true =>
    have:=h rfl x (by simp)
    rw [eZ,cond_true,List.length_append,← cB]
    simp only [List.length_cons,List.length_nil]
    omega
   | false=>rw [eZ,cond_false];simp
  rw [la,List.length_append,List.length_cons]
  omega

theorem sZ {s:ByteArray} {lines:List ByteArray} (hs:s.size≤100000000) (hl:∀ x∈lines,x.size≤100000000) (h20:¬ 20<lines.length):cq (s,lines) (eo s lines) FU 0=some (.inr ()):=by
 refine Cu (lines.length+1) (cq (s,lines) (eo s lines)) (.inr ()) ?_ ?_ FU (by rw [FU_eq];omega)
 ·intro n
  rw [cq,ai (by simp only;omega)]
 ·intro n i hi
  have et:¬ 20<(lines.take i).length:=by rw [List.length_take];omega
  obtain ⟨t,ht⟩:=yn (aA s).2.2 (fc (aA s).1 (aA s).2.1) lines i
  have e1:eo s lines=bl (dk (aA s).2.2 (fc (aA s).1 (aA s).2.1) (lines.take i)++t):=by rw [eo,if_neg h20,← ht]
  have e2:eo s (lines.take i)=bl (dk (aA s).2.2 (fc (aA s).1 (aA s).2.1) (lines.take i)):=by rw [eo,if_neg et]
  rw [cq,ak (by simp only;omega),al ⟨by omega,by omega,by simp only;omega,by omega⟩]
  simp only [sV]
  rw [qw hs (fun x hx=>hl x (List.mem_of_mem_take hx)),ae,e1,e2]
  generalize dk (aA s).2.2 (fc (aA s).1 (aA s).2.1) (lines.take i)=a
  have z1:(bl a).size=a.length:=dQ a
  have z2:(bl (a++t)).size=a.length+t.length:=by rw [dQ,List.length_append]
  have ex:(bl (a++t)).extract (0:Int).toNat (((bl a).size:Nat):Int).toNat=bl a:=by rw [Int.toNat_natCast,z1];exact zz a t
  rw [ai (by omega),al ⟨by omega,by omega,by omega⟩,bN,ex,decide_eq_true rfl,Bool.not_true,cond_false,cj (by omega)]

theorem wF (p1:List Int) (h:∀ n∈p1,0≤n∧n<256) (hl:p1.length≤9223372036854775807):iM p1=some true:=by
 rw [iM,kI]
 by_cases h0:1048576<(p1.length:Int)
 ·rw [if_pos h0]
 obtain ⟨⟨s,lines⟩,ed,hs,hls⟩:=yL h hl
 simp only at hs hls
 have hl':∀ x∈lines,x.size≤100000000:=fun x hx=>by have:=hls x hx;omega
 rw [if_neg h0,ed,ae]
 simp only []
 rw [qw (by omega) hl',ae,xh (by omega) hl',ae,decide_eq_true rfl,Bool.not_true,cond_false]
 by_cases he:eo s lines=ByteArray.empty
 ·rw [ak he,ae,decide_eq_true rfl]
 ·have h20:¬ 20<lines.length:=fun h2=>he (by rw [eo,if_pos h2])
  have er:eo s lines=bl (dk (aA s).2.2 (fc (aA s).1 (aA s).2.1) lines):=by rw [eo,if_neg h20]
  have hz:=uq (ok:=(aA s).2.2) (g:=fc (aA s).1 (aA s).2.1) (xs:=lines) (fun hk x hx=>qC (iA hk).1 x)
  have hn:=xf (ok:=(aA s).2.2) (g:=fc (aA s).1 (aA s).2.1) (xs:=lines) (fun hk x hx=>BX (iA hk).1 x)
  have hsz:(eo s lines).size≤1000000000:=by rw [er,dQ];omega
  rw [ai he,sZ (by omega) hl' h20,ae,tL,ww hsz,ae]
  rw [er,bL,hn,decide_eq_true rfl]

end Go.Eng
