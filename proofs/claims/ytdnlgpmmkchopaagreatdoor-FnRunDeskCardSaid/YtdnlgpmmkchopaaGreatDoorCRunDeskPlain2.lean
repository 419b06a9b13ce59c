/- What is proved: plain laws of the models, up to the law itself. Conditions: sizes and ranges of what is handed over, as each says. -/
import Derived.Test.YtdnlgpmmkchopaaGreatDoorCRunDeskPlain1
set_option linter.unusedVariables false
set_option linter.unusedSimpArgs false
open Go.IntKind renaming wrap → CB
open ByteArray renaming mk → CC
namespace Go.Eng
open Go

def eC (a b:Nat):Nat:=a+b - (a&&&b) % 4096

theorem uw {a b:Nat} (ha:a≤9007199254740992) (hb:b≤4096):dX (a:Int) (b:Int)=some ((eC a b:Nat):Int):=by
 obtain ⟨r,e,h0,h⟩:=zK a b ⟨by omega,by omega⟩ ⟨by omega,by omega⟩ a b
 have hx:a&&&b≤b:=Nat.and_le_right
 have hm:=Nat.mod_le (a&&&b) 4096
 rw [dX,eG,e,ac,ac,h rfl rfl]
 rw [w64 (a:=(a:Int)+(b:Int)) (by omega) (by omega),w64 (by omega) (by omega),eC]
 congr 1;omega

theorem Cp {a b:Nat} (ha:a<4096) (hb:b<4096):eC a b=a|||b:=by
 have hx:=oZ a b
 have hy:a&&&b≤a:=Nat.and_le_left
 rw [eC,Nat.mod_eq_of_lt (by omega)]
 omega

theorem By (a b:Nat):a≤eC a b∧eC a b≤a+b:=by
 have hx:a&&&b≤b:=Nat.and_le_right
 have hm:=Nat.mod_le (a&&&b) 4096
 rw [eC];omega

theorem BI {a:Nat} (ha:a<4096):4096≤eC a 4096:=by
 have hx:a&&&4096≤a:=Nat.and_le_left
 have hm:=Nat.mod_le (a&&&4096) 4096
 rw [eC];omega

def prC (f:List (ByteArray×Int)) (w:ByteArray):Int:=if 0≤dW f w then (gt f (dW f w)).2 else cZ w

theorem wL {f:List (ByteArray×Int)} (h:f.length≤1099511627776) {w:ByteArray} (hw:w.size≤1000000000):ij f w=some (prC f w):=by
 have hr:=rH f w
 rw [ij,lc _ _ h,ac,prC]
 by_cases h0:0≤dW f w
 ·rw [aj h0,ak (by omega),if_pos h0]
 ·rw [ah h0,kY hw,ac,if_neg h0]

theorem qG {f:List (ByteArray×Int)} (hv:V12 f) (w:ByteArray) : -1≤prC f w∧prC f w≤4096:=by
 rw [prC]
 by_cases h0:0≤dW f w
 ·have:=hv _ (xz (by omega:¬ dW f w<0)).1
  rw [if_pos h0];omega
 ·rw [if_neg h0]
  rcases jb w with ⟨e,_⟩ | ⟨n,hn,_,e⟩ <;> rw [e] <;> omega

def kd (f:List (ByteArray×Int)):List ByteArray→Nat→Option Nat
 | [],v=>some v
 | w::r,v=>if prC f w<0 then none else kd f r (eC v (prC f w).toNat)

def mh (f:List (ByteArray×Int)):List ByteArray→Nat→Option Nat
 | [],v=>some v
 | w::r,v=>if 0≤prC f w∧prC f w≤4095 then mh f r (v|||(prC f w).toNat) else none

theorem xt {f:List (ByteArray×Int)}:∀ (W:List ByteArray) (v x:Nat),kd f W v=some x→v≤x
 | [],v,x,h=>by simp only [kd] at h;cases h;exact Nat.le_refl _
 | w::r,v,x,h=>by
  simp only [kd] at h
  split at h
  ·cases h
  ·have:=xt r _ x h
   have:=By v (prC f w).toNat
   omega

theorem Bw {f:List (ByteArray×Int)} (hv:V12 f):∀ (W:List ByteArray) (v:Nat),v<4096 →
  (∃ x,x<4096∧mh f W v=some x∧kd f W v=some x)∨(mh f W v=none∧(kd f W v=none∨∃ x,kd f W v=some x∧4096≤x))
 | [],v,h=>.inl ⟨v,h,rfl,rfl⟩
 | w::r,v,h=>by
  have hr:=qG hv w
  simp only [mh,kd]
  by_cases h1:prC f w<0
  ·right;rw [if_neg (by omega),if_pos h1];exact ⟨rfl,.inl rfl⟩
  ·rw [if_neg h1]
   by_cases h2:prC f w≤4095
   ·rw [if_pos ⟨by omega,h2⟩,Cp h (by omega)]
    exact Bw hv r _ (pd h (by omega))
   ·right
    rw [if_neg (fun h=>h2 h.2)]
    refine ⟨rfl,?_⟩
    have e:(prC f w).toNat=4096:=by omega
    rw [e]
    cases hs:kd f r (eC v 4096) with
    | none=>exact .inl rfl
    | some x=>exact .inr ⟨x,rfl,Nat.le_trans (BI h) (xt r _ x hs)⟩

theorem Bi {w:ByteArray}:(0≤cZ w∧cZ w≤4095∧da w=(cZ w,true))∨(¬ (0≤cZ w∧cZ w≤4095)∧((da w).2=false∨¬ (0≤(da w).1∧(da w).1≤4095))):=by
 rcases jb w with ⟨e,h⟩ | ⟨n,hn,rfl,e⟩
 ·right
  refine ⟨by omega,?_⟩
  cases hd:(da w).2 with
  | false=>exact .inl rfl
  | true =>
   right
   intro hb
   have:=(qV hd).1
   have e1:(da w).1=(((da w).1.toNat:Nat):Int):=by omega
   rw [e1] at this
   exact h _ (by omega) this
 ·have ed:da (bw (n:Int))=((n:Int),true):=lR ⟨by omega,by omega⟩
  by_cases h2:n≤4095
  ·left;rw [e,ed];exact ⟨by omega,by omega,rfl⟩
  ·right;rw [e,ed];exact ⟨by omega,.inr (by simp only;omega)⟩

theorem jU {f:List (ByteArray×Int)} (h:f.length≤1099511627776) (hv:V12 f) (b:Int) (W:List ByteArray) (hw:∀ w∈W,w.size≤1000000000):∀ (k i n v:Nat),i+k=W.length→k<n→W.length≤1000000000→v<4096 →
  bO f b W n (v:Int) (i:Int)=some (match mh f (W.drop i) v with | none=>.inl () | some x=>.inr (x:Int))
 | 0,i,n,v,hik,hn,hl,hv0=>by
  obtain ⟨n,rfl⟩:∃ m,n=m+1:=⟨n - 1,by omega⟩
  rw [bO,ah (by omega),List.drop_of_length_le (by omega)]
  rfl
 | k+1,i,n,v,hik,hn,hl,hv0=>by
  obtain ⟨n,rfl⟩:∃ m,n=m+1:=⟨n - 1,by omega⟩
  have hi:i<W.length:=by omega
  have hd:W.drop i=W[i]::W.drop (i+1):=List.drop_eq_getElem_cons hi
  have hr:=rH f W[i]
  have hp:=qG hv W[i]
  have orx:0≤prC f W[i]∧prC f W[i]≤4095→Go.bits .or .i64 (v:Int) (prC f W[i])=((v|||(prC f W[i]).toNat:Nat):Int):=fun hx=>by
   have:=Be (a:=v) (b:=(prC f W[i]).toNat) (by omega) (by omega)
   rwa [aS hx.1] at this
  rw [bO,aj (by omega),ak (by omega),cy hi,hd,tz _ _ h,ac,ci (i:=i) (by omega)]
  simp only [mh]
  by_cases h0:0≤dW f W[i]
  ·have hval:=hv _ (xz (by omega:¬ dW f W[i]<0)).1
   have ep:prC f W[i]=(gt f (dW f W[i])).2:=by rw [prC,if_pos h0]
   have hb:0≤prC f W[i]∧prC f W[i]≤4095:=by rw [ep];omega
   rw [aj h0,ak (by omega),← ep,orx hb,if_pos hb]
   exact jU h hv b W hw k (i+1) n _ (by omega) (by omega) hl (pd hv0 (by omega))
  ·have ep:prC f W[i]=cZ W[i]:=by rw [prC,if_neg h0]
   rw [ah h0,mK (hw _ (List.getElem_mem hi)),ac]
   rcases Bi (w:=W[i]) with ⟨d1,d2,d3⟩ | ⟨d1,d2⟩
   ·have hb:0≤prC f W[i]∧prC f W[i]≤4095:=by rw [ep];exact ⟨d1,d2⟩
    rw [d3,Bool.not_true,cond_false,lr,ac,decide_eq_true ⟨d1,d2⟩,Bool.not_true,cond_false,← ep,orx hb,if_pos hb]
    exact jU h hv b W hw k (i+1) n _ (by omega) (by omega) hl (pd hv0 (by omega))
   ·rw [if_neg (by rw [ep];exact d1)]
    cases hd2:(da W[i]).2 with
    | false=>rw [Bool.not_false,cond_true]
    | true =>
     rw [Bool.not_true,cond_false,lr,ac,decide_eq_false (d2.resolve_left (by rw [hd2];simp)),Bool.not_false,cond_true]

theorem mf {f:List (ByteArray×Int)} (h:f.length≤1099511627776) (hv:V12 f) (b:Int) (W:List ByteArray) (hw:∀ w∈W,w.size≤1000000000):∀ (k i n v:Nat),i+k=W.length→k<n→W.length≤1000000000→v≤8192*i →
  cr f b W n (v:Int) (i:Int)=some (match kd f (W.drop i) v with | none=>.inl () | some x=>.inr (x:Int))
 | 0,i,n,v,hik,hn,hl,hv0=>by
  obtain ⟨n,rfl⟩:∃ m,n=m+1:=⟨n - 1,by omega⟩
  rw [cr,ah (by omega),List.drop_of_length_le (by omega)]
  rfl
 | k+1,i,n,v,hik,hn,hl,hv0=>by
  obtain ⟨n,rfl⟩:∃ m,n=m+1:=⟨n - 1,by omega⟩
  have hi:i<W.length:=by omega
  have hd:W.drop i=W[i]::W.drop (i+1):=List.drop_eq_getElem_cons hi
  have hp:=qG hv W[i]
  rw [cr,aj (by omega),ak (by omega),cy hi,hd,wL h (hw _ (List.getElem_mem hi)),ac,ci (i:=i) (by omega)]
  simp only [kd]
  by_cases h0:prC f W[i]<0
  ·rw [aj h0,if_pos h0]
  ·have he:=By v (prC f W[i]).toNat
   have e:=uw (a:=v) (b:=(prC f W[i]).toNat) (by omega) (by omega)
   rw [aS (by omega)] at e
   rw [ah h0,if_neg h0,e,ac]
   exact mf h hv b W hw k (i+1) n _ (by omega) (by omega) hl (by omega)

def bj (f:List (ByteArray×Int)) (b:Int) (s:ByteArray):Int×Bool :=
 if bF f b then (match mh f (aI s 124) 0 with
  | none=>(0,false)
  | some x=>if aT f b (x:Int) then ((x:Int),true) else (0,false)) else (0,false)

theorem im (s:ByteArray) (c:UInt8):∀ w∈aI s c,w.size≤s.size:=fun w hw=>by
 obtain ⟨p,hp,rfl⟩:=List.mem_map.1 hw
 have key:∀ (l:List UInt8),∀ q∈aU c l,q.length≤l.length:=by
  intro l
  induction l with
  | nil=>intro q hq;simp [aU] at hq;subst hq;simp
  | cons x r ih =>
   intro q hq
   unfold aU at hq
   split at hq
   ·rcases List.mem_cons.1 hq with rfl | hq
    ·simp
    ·have:=ih q hq;rw [List.length_cons];omega
   ·split at hq
    ·rename_i e0;exact absurd e0 (eZ _ _)
    ·rename_i p0 ps e0
     rcases List.mem_cons.1 hq with rfl | hq
     ·have:=ih p0 (by rw [e0];simp);simp only [List.length_cons];omega
     ·have:=ih q (by rw [e0];simp [hq]);rw [List.length_cons];omega
 rw [dN,cE]
 exact key _ p hp

theorem vp {f:List (ByteArray×Int)} (h:cB f) (b:Int) {s:ByteArray} (hs:s.size≤100000000):fC f b s=some (bj f b s):=by
 rw [fC,jL h,ac,bj]
 by_cases hf:bF f b
 ·have hwl:=gX s 124
  have hws:=im s 124
  have el:=jU h.1 hf.v12 b (aI s 124) (fun w hw=>by have:=hws w hw;omega) (aI s 124).length 0 FU 0 (by omega) (by rw [FU_eq];omega) (by omega) (by omega)
  have el':bO f b (aI s 124) FU 0 0=some (match mh f (aI s 124) 0 with | none=>.inl () | some x=>.inr (x:Int)):=el
  rw [decide_eq_true hf,Bool.not_true,cond_false,if_pos hf,show (CC #[124])=bl [124] from rfl,lU (by omega),ac]
  show bd (bO f b (aI s 124) FU 0 0) _=_
  rw [el',ac]
  cases hr:mh f (aI s 124) 0 with
  | none=>rfl
  | some x =>
   simp only [sm]
   rw [dS h,ac]
   by_cases hv:aT f b (x:Int)
   ·rw [decide_eq_true hv,Bool.not_true,cond_false,if_pos hv]
   ·rw [decide_eq_false hv,Bool.not_false,cond_true,if_neg hv]
 ·rw [decide_eq_false hf,Bool.not_false,cond_true,if_neg hf]

theorem jx {f:List (ByteArray×Int)} (h:cB f) {b:Int} (hf:bF f b) {s:ByteArray} (hs:s.size≤100000000):bG f b s=some (if (bj f b s).2 then (bj f b s).1 else -1):=by
 have hwl:=gX s 124
 have hws:=im s 124
 have el:=mf h.1 hf.v12 b (aI s 124) (fun w hw=>by have:=hws w hw;omega) (aI s 124).length 0 FU 0 (by omega) (by rw [FU_eq];omega) (by omega) (by omega)
 have el':cr f b (aI s 124) FU 0 0=some (match kd f (aI s 124) 0 with | none=>.inl () | some x=>.inr (x:Int)):=el
 have es:=kW (s:=s) (c:=124) (by omega)
 have es':cz s 124=some (aI s 124):=es
 rw [bG,es',ac,el',ac,bj,if_pos hf]
 rcases Bw hf.v12 (aI s 124) 0 (by omega) with ⟨x,hx,e1,e2⟩ | ⟨e1,e2⟩
 ·rw [e1,e2]
  simp only [sm]
  rw [lb h,ac]
  by_cases hv:aT f b (x:Int)
  ·rw [decide_eq_true hv,Bool.not_true,cond_false,if_pos hv];rfl
  ·rw [decide_eq_false hv,Bool.not_false,cond_true,if_neg hv];rfl
 ·rw [e1]
  rcases e2 with e2 | ⟨x,e2,hx⟩
  ·rw [e2];rfl
  ·rw [e2]
   simp only [sm]
   rw [lb h,ac,decide_eq_false (fun hv=>by have:=hv.2.1;omega)]
   rfl

theorem je (c:UInt8):∀ l:List UInt8,c ∉ l→aU c l=[l]
 | [],_=>rfl
 | x::r,h=>by
  have h1:x≠c:=fun e=>h (by rw [e];simp)
  have h2:c ∉ r:=fun e=>h (by simp [e])
  rw [jN h1,je c r h2];rfl

theorem jy (c:UInt8) (b:List UInt8):∀ a:List UInt8,aU c (a++c::b)=aU c a++aU c b
 | []=>by rw [List.nil_append,kB];rfl
 | x::a=>by
  rw [List.cons_append]
  by_cases h:x=c
  ·subst h;rw [kB,kB,jy x b a];rfl
  ·rw [jN h,jN h,jy c b a]
   cases e:aU c a with
   | nil=>exact absurd e (eZ c a)
   | cons p ps=>rfl

theorem tP {c:UInt8} {w:ByteArray} (h:c ∉ w.data.toList):aI w c=[w]:=by
 rw [aI,je c _ h,List.map_singleton,fT]

theorem zr {s:ByteArray} (h:eO s) {c:UInt8} (hc:c∈s.data.toList):97≤c.toNat∧c.toNat≤122:=by
 obtain ⟨i,hi,rfl⟩:=List.mem_iff_getElem.1 hc
 have:=h.1 i (by rw [cE];exact hi)
 rw [ip,List.getD,List.getElem?_eq_getElem hi,Option.getD_some] at this
 omega

theorem se {s:ByteArray} (h:eO s) {c:UInt8} (hc:c.toNat<97∨122<c.toNat):c ∉ s.data.toList:=fun hm=>by
 have:=zr h hm;omega

theorem tU {f:List (ByteArray×Int)} {b:Int} (hf:bF f b) {list:List ByteArray} {rest:Int} (hl:list.length≤1000) (hs:∀ s∈list,s.size≤100) (hr:0≤rest∧rest≤1000000):(kM f list rest).size≤1000000:=by
 obtain ⟨h1,h2⟩:=qN hl hs hr
 rw [kM]
 split
 ·rw [qW]
  split
  ·rw [dN];simp
  ·rename_i hv
   have hx:=kS f 0
   obtain ⟨i,hi⟩:=Int.eq_ofNat_of_zero_le (by omega:0≤dU f 0)
   have hlt:i<f.length:=by omega
   have:=hf.small f[i] (List.getElem_mem hlt)
   rw [hi];rw [cy hlt];omega
 ·rw [kO,dN]
  have:=vx [124] (by simp) ((gx list rest).map (·.data.toList)) (fun x hx=>by
   obtain ⟨y,hy,rfl⟩:=List.mem_map.1 hx
   rw [← cE];exact h2 y hy)
  rw [List.length_map] at this
  omega

theorem xN (f:List (ByteArray×Int)) (b a:Int):(cg f b a).size≤1000000:=by
 rw [cg]
 split
 ·rename_i hv
  have h1:=hv.2.1
  have hr:=sJ f a.toNat
  refine tU hv.1 (by have:=kP f a.toNat;omega) (jf hv.1 (fun d hd=>lH hd)) (by omega)
 ·simp

theorem vC (f:List (ByteArray×Int)) (b a:Int):(eK f b a).size≤1000000:=by
 rw [eK]
 split
 ·rename_i hv
  have h1:=hv.2.1
  have hr:=jw a.toNat (aO (dB f a.toNat))
  have:=hv.1.len
  have:=kj f a.toNat
  exact tU hv.1 (by rw [List.length_map];omega) (jf hv.1 (fun d hd=>gZ hd)) (by omega)
 ·simp

theorem pT {code:List Int} (hc:fW code) (hl:code.length≤9223372036854775807) {e:List (ByteArray×Int)} (he:iJ e):∀ (k n:Nat) (acc:List ByteArray) (p:Int),k<n→k≤10→acc.length+k≤100→(∀ s∈acc,s.size≤7)→0≤p→p+3*k<900000 →
  ∃ r,bN e code n acc (k:Int) p=some r∧r.1.length≤acc.length+k∧(∀ s∈r.1,s.size≤7)∧p≤r.2∧r.2≤p+3*k
 | 0,n,acc,p,hn,hk,ha,hs,h0,hp=>by
  cases n with
  | zero=>omega
  | succ n=>exact ⟨(acc,p),by rw [bN,ah (by omega)],by simp,hs,by simp,by simp⟩
 | k+1,n,acc,p,hn,hk,ha,hs,h0,hp=>by
  cases n with
  | zero=>omega
  | succ n =>
   have go:∀ (x:ByteArray) (q:Int),x.size≤7→p≤q→q≤p+3→∃ r,bN e code n (acc++([x]:List ByteArray)) (k:Int) q=some r∧r.1.length≤acc.length+(k+1)∧(∀ s∈r.1,s.size≤7)∧p≤r.2∧r.2≤p+3*((k+1:Nat):Int):=fun x q hx h1 h2=>by
    obtain ⟨r,er,g,g2,g3,g4⟩:=pT hc hl he k n (acc++[x]) q (by omega) (by omega) (by rw [List.length_append,List.length_singleton];omega) (fun s hs'=>by
     rcases List.mem_append.1 hs' with h | h
     ·exact hs s h
     ·rw [List.mem_singleton.1 h];exact hx) (by omega) (by omega)
    exact ⟨r,er,by rw [List.length_append,List.length_singleton] at g;omega,g2,by omega,by omega⟩
   have w1:CB .i64 (p+1)=p+1:=w64 (by omega) (by omega)
   have w2:CB .i64 (p+1+1)=p+1+1:=w64 (by omega) (by omega)
   have w3:CB .i64 (p+1+1+1)=p+1+1+1:=w64 (by omega) (by omega)
   have wk:CB .i64 (((k+1:Nat):Int) - 1)=(k:Int):=by rw [w64 (by omega) (by omega)];omega
   rw [bN,aj (by omega)]
   simp only [w1,w2,w3,wk]
   by_cases hz:0<(e.length:Int)
   ·obtain ⟨x,ex,lx,ux⟩:=pick (n:=12) hc hl (p:=p) ⟨by omega,by omega⟩
    rw [aj hz,ex,ac]
    by_cases hx:0<x
    ·obtain ⟨y,ey,ly,uy⟩:=pick (n:=(e.length:Int)) hc hl (p:=p+1) ⟨by omega,by omega⟩
     have uy:=uy (by omega)
     rw [aj hx,ey,ac,ak ⟨ly,uy⟩,ak (by rw [List.length_singleton];omega)]
     exact go _ _ (he.2 _ (eD ⟨ly,uy⟩)).1 (by omega) (by omega)
    ·obtain ⟨y,ey,hy⟩:=uT hc hl (p:=p+1) ⟨by omega,by omega⟩ (by omega)
     rw [ah hx,ey,ac,ak (by rw [List.length_singleton];omega)]
     exact go _ _ hy (by omega) (by omega)
   ·obtain ⟨y,ey,hy⟩:=uT hc hl (p:=p) ⟨by omega,by omega⟩ (by omega)
    rw [ah hz,ey,ac,ak (by rw [List.length_singleton];omega)]
    exact go _ _ hy (by omega) (by omega)

theorem AC {code:List Int} (hc:fW code) (hl:code.length≤9223372036854775807) {e:List (ByteArray×Int)} (he:iJ e) {p:Int} (hp:0≤p∧p<800000) :
  ∃ r,gJ e code p=some r∧r.1.length≤4∧(∀ s∈r.1,s.size≤7)∧p≤r.2∧r.2≤p+20:=by
 obtain ⟨x,ex,lx,ux⟩:=pick (n:=4) hc hl (p:=p) ⟨by omega,by omega⟩
 have ux:=ux (by omega)
 obtain ⟨k,rfl⟩:=Int.eq_ofNat_of_zero_le lx
 obtain ⟨r,er,g,g2,g3,g4⟩:=pT hc hl he k FU [] (p+1) (by rw [FU_eq];omega) (by omega) (by rw [List.length_nil];omega) (by simp) (by omega) (by omega)
 rw [List.length_nil] at g
 refine ⟨(r.1,r.2),?_,by simp only;omega,g2,by simp only;omega,by simp only;omega⟩
 rw [gJ,ex,ac,w64 (by omega) (by omega),er,ac]

theorem qR {code:List Int} {p:Int} (hc:fW code) (hl:code.length≤9223372036854775807) (hp:0≤p∧p<1000000) (xs:List ByteArray) (hx:xs≠[]) (hs:∀ x∈xs,x.size≤10):∃ x,bi xs code p=some x∧x.size≤10:=by
 obtain ⟨x,e,h⟩:=wU hc hl hp hx
 exact ⟨x,e,hs x h⟩

theorem Ai {l:List ByteArray} (hl:l.length≤1000) (h:∀ x∈l,x.size≤100) (c:UInt8):(kO l [c]).size≤110*l.length:=by
 rw [kO,dN]
 have:=vx [c] (by simp) (l.map (·.data.toList)) (fun x hx=>by
  obtain ⟨y,hy,rfl⟩:=List.mem_map.1 hx
  rw [← cE];exact h y hy)
 rwa [List.length_map] at this

theorem Bx {code:List Int} (hc:fW code) (hl:code.length≤9223372036854775807) {f:List (ByteArray×Int)} (hf:iJ f) (b:Int) {p:Int} (hp:0≤p∧p<700000) :
  ∃ r,fK f b code p=some r∧r.1.size≤1000∧p≤r.2∧r.2≤p+30:=by
 obtain ⟨⟨ns,q⟩,e1,n1,n2,n3,n4⟩:=AC hc hl hf (p:=p) ⟨by omega,by omega⟩
 simp only at n1 n2 n3 n4
 obtain ⟨x,ex,lx,ux⟩:=pick (n:=4) hc hl (p:=q) ⟨by omega,by omega⟩
 have w1:CB .i64 (q+1)=q+1:=w64 (by omega) (by omega)
 have w2:CB .i64 (q+1+1)=q+1+1:=w64 (by omega) (by omega)
 have w3:CB .i64 (q+1+1+1)=q+1+1+1:=w64 (by omega) (by omega)
 have e124:CC #[124]=bl [124]:=rfl
 obtain ⟨z,ez,hz⟩:=qR hc hl (p:=q+1) ⟨by omega,by omega⟩ [(CC #[49]),(CC #[56]),(CC #[51,50]),(CC #[48]),(CC #[52,48,57,53]),(CC #[52,48,57,54]),(CC #[48,49])] (by simp) (by decide)
 have jn:∀ l:List ByteArray,l.length≤9→(∀ s∈l,s.size≤10)→cD l (bl [124])=some (kO l [124])∧(kO l [124]).size≤1000:=fun l h1 h2=>by
  have h3:∀ x∈l,x.size≤100:=fun x hx=>by have:=h2 x hx;omega
  have:=Ai (by omega) h3 124
  exact ⟨lW (by simp) (by omega) h3,by omega⟩
 have hns:∀ s∈ns,s.size≤10:=fun s hs=>by have:=n2 s hs;omega
 rw [fK,e1,ac]
 simp only [w1,w2,w3,e124]
 rw [ex,ac]
 by_cases hx:x=0
 ·have h10:∀ s∈ns++[z],s.size≤10:=fun s hs=>by
   rcases List.mem_append.1 hs with h | h
   ·exact hns s h
   ·rw [List.mem_singleton.1 h];exact hz
  rw [aj hx,ez,ac,ak (by rw [List.length_singleton];omega),bM,decide_eq_false (by rw [List.length_append,List.length_singleton];omega),cond_false,(jn (ns++[z]) (by rw [List.length_append,List.length_singleton];omega) h10).1,ac]
  exact ⟨_,rfl,(jn (ns++[z]) (by rw [List.length_append,List.length_singleton];omega) h10).2,by simp only;omega,by simp only;omega⟩
 ·rw [ah hx]
  by_cases hn:(ns.length:Int)=0
  ·obtain ⟨y,ey,hy⟩:=qR hc hl (p:=q+1) ⟨by omega,by omega⟩ [(CC #[48]),(CC #[49]),ByteArray.empty] (by simp) (by decide)
   rw [aj hn,ey,ac,(jn [y] (by simp) (by simpa using hy)).1,ac]
   exact ⟨_,rfl,(jn [y] (by simp) (by simpa using hy)).2,by simp only;omega,by simp only;omega⟩
  ·rw [ah hn,(jn ns (by omega) hns).1,ac]
   exact ⟨_,rfl,(jn ns (by omega) hns).2,by simp only;omega,by simp only;omega⟩

theorem nj (s:ByteArray) (i j:Nat) (hj:j≤s.size):(s.extract i j).size≤j - i:=by
 rw [ByteArray.size_extract];omega

theorem Cb {code:List Int} (hc:fW code) (hl:code.length≤9223372036854775807) {s:ByteArray} (hs:s.size≤100000000) {p:Int} (hp:0≤p∧p<900000) :
  ∃ r,iU s code p=some r∧r.1.size≤s.size+10∧p≤r.2∧r.2≤p+3:=by
 have w1:CB .i64 (p+1)=p+1:=w64 (by omega) (by omega)
 have w2:CB .i64 (p+1+1)=p+1+1:=w64 (by omega) (by omega)
 have w3:CB .i64 (p+1+1+1)=p+1+1+1:=w64 (by omega) (by omega)
 have wz:CB .i64 ((s.size:Int)+1)=(s.size:Int)+1:=w64 (by omega) (by omega)
 obtain ⟨x,ex,lx,ux⟩:=pick (n:=(s.size:Int)+1) hc hl (p:=p) ⟨by omega,by omega⟩
 have ux:=ux (by omega)
 obtain ⟨i,rfl⟩:=Int.eq_ofNat_of_zero_le lx
 have wi:CB .i64 ((i:Int)+1)=((i+1:Nat):Int):=by rw [w64 (by omega) (by omega)];omega
 obtain ⟨y,ey,ly,uy⟩:=pick (n:=5) hc hl (p:=p+1) ⟨by omega,by omega⟩
 obtain ⟨z,ez,hz⟩:=qR hc hl (p:=p+1+1) ⟨by omega,by omega⟩ [(CC #[48]),(CC #[49]),(CC #[124]),(CC #[32]),(CC #[97]),(CC #[33]),(CC #[45]),(CC #[61]),(CC #[10])] (by simp) (by decide)
 obtain ⟨v,ev,hv⟩:=qR hc hl (p:=p+1+1) ⟨by omega,by omega⟩ [(CC #[48]),(CC #[124]),(CC #[32]),(CC #[97]),(CC #[10])] (by simp) (by decide)
 rw [iU,wz,ex,ac]
 simp only [w1,w2,w3,wi]
 rw [ey,ac]
 have e1:=nj s 0 i (by omega)
 have cut:∀ h:(i:Int)<(s.size:Int),∃ r:ByteArray×Int,(gd (0≤(0:Int)∧(0:Int)≤(i:Int)∧(i:Int)≤(s.size:Int)) <| bd (bi [(CC #[48]),(CC #[49]),(CC #[124]),(CC #[32]),(CC #[97]),(CC #[33]),(CC #[45]),(CC #[61]),(CC #[10])] code (p+1+1)) fun x6 =>
   gd ((s.extract (0:Int).toNat (i:Int).toNat).size+x6.size≤9223372036854775807) <|
   gd (0≤((i+1:Nat):Int)∧((i+1:Nat):Int)≤(s.size:Int)∧(s.size:Int)≤(s.size:Int)) <|
   nm (s.extract ((i+1:Nat):Int).toNat (s.size:Int).toNat) fun v7 =>
   gd (((s.extract (0:Int).toNat (i:Int).toNat)++x6).size+v7.size≤9223372036854775807) <|
   some (((s.extract (0:Int).toNat (i:Int).toNat)++x6)++v7,p+1+1+1))=some r∧r.1.size≤s.size+10∧p≤r.2∧r.2≤p+3:=fun h=>by
  have e2:=nj s (i+1) s.size (by omega)
  have e0:(0:Int).toNat=0:=rfl
  rw [ak (by omega),ez,ac,bM,e0,Int.toNat_natCast,Int.toNat_natCast,Int.toNat_natCast,ak (by omega),ak (by omega),ak (by rw [ByteArray.size_append];omega)]
  exact ⟨_,rfl,by simp only [ByteArray.size_append];omega,by simp only;omega,by simp only;omega⟩
 by_cases h0:y=0
 ·rw [aj h0]
  by_cases h:(i:Int)<(s.size:Int)
  ·rw [aj h];exact cut h
  ·rw [ah h];exact ⟨_,rfl,by simp only;omega,by simp only;omega,by simp only;omega⟩
 ·rw [ah h0]
  by_cases h1:y=1
  ·rw [aj h1]
   by_cases h:(i:Int)<(s.size:Int)
   ·rw [aj h];exact cut h
   ·rw [ah h];exact ⟨_,rfl,by simp only;omega,by simp only;omega,by simp only;omega⟩
  ·rw [ah h1]
   by_cases h2:y=2
   ·rw [aj h2,ak (by omega)]
    exact ⟨_,rfl,by
     have e0:(0:Int).toNat=0:=rfl
     simp only [e0,Int.toNat_natCast];omega,by simp only;omega,by simp only;omega⟩
   ·rw [ah h2]
    by_cases h3:y=3
    ·rw [aj h3,ev,ac,ak (by omega)]
     exact ⟨_,rfl,by simp only [ByteArray.size_append];omega,by simp only;omega,by simp only;omega⟩
    ·rw [ah h3]
     exact ⟨_,rfl,by simp only;omega,by simp only;omega,by simp only;omega⟩

theorem xm.len {l:List (ByteArray×Int)} (h:xm l):l.length≤12:=h.2

def dA (s:ByteArray):Int×Bool :=
 if s≠ByteArray.empty∧aG s 0=45 then (if cZ (s.extract 1 s.size)≤0 then (0,false) else (0 - cZ (s.extract 1 s.size),true)) else (if cZ s<0 then (0,false) else (cZ s,true))

theorem yz (s:ByteArray) : -1≤cZ s∧cZ s≤4096:=by
 rcases jb s with ⟨e,_⟩ | ⟨n,hn,_,e⟩ <;> rw [e] <;> omega

theorem nx {s:ByteArray} (hs:s.size≤1000000000):eT s=some (dA s):=by
 rw [eT,dA]
 have fin:∀ h:¬ (s≠ByteArray.empty∧aG s 0=45),(bd (cO s) fun x3=>bif decide (x3<0) then some ((0:Int),false) else some (x3,true))=some (if s≠ByteArray.empty∧aG s 0=45 then (if cZ (s.extract 1 s.size)≤0 then (0,false) else (0 - cZ (s.extract 1 s.size),true)) else (if cZ s<0 then (0,false) else (cZ s,true))):=fun h=>by
  rw [kY hs,ac,if_neg h]
  by_cases h1:cZ s<0
  ·rw [aj h1,if_pos h1]
  ·rw [ah h1,if_neg h1]
 by_cases h0:s=ByteArray.empty
 ·rw [decide_eq_true h0,Bool.not_true,cond_false]
  exact fin (fun h=>h.1 h0)
 ·have hpos:0<s.size:=by
   rcases Nat.eq_zero_or_pos s.size with h' | h'
   ·exfalso;apply h0
    have e0:s.data.toList=[]:=List.eq_nil_of_length_eq_zero (by rw [← cE];exact h')
    rw [← fT s,e0];rfl
   ·exact h'
  rw [decide_eq_false h0,Bool.not_false,cond_true,ak (by omega)]
  have e0:(0:Int).toNat=0:=rfl
  have e1:(1:Int).toNat=1:=rfl
  rw [e0,e1,Int.toNat_natCast]
  by_cases hm:aG s 0=45
  ·have hr:=yz (s.extract 1 s.size)
   rw [aj hm,ak (by omega),kY (by rw [ByteArray.size_extract];omega),ac,if_pos ⟨h0,hm⟩]
   by_cases h1:cZ (s.extract 1 s.size)<0
   ·rw [aj h1,if_pos (by omega)]
   ·by_cases h2:cZ (s.extract 1 s.size)=0
    ·rw [ah h1,aj h2,if_pos (by omega)]
    ·rw [ah h1,ah h2,if_neg (by omega),w64 (by omega) (by omega)]
  ·rw [ah hm]
   exact fin (fun h=>hm h.2)

theorem tK {n:Nat} (hn:n≤4096):cZ (bw (n:Int))=n:=by
 rcases jb (bw (n:Int)) with ⟨_,h⟩ | ⟨m,hm,e,er⟩
 ·exact absurd rfl (h n hn)
 ·rw [er]
  have e1:=lR (n:=(n:Int)) ⟨by omega,by omega⟩
  have e2:=lR (n:=(m:Int)) ⟨by omega,by omega⟩
  rw [e,e2] at e1
  exact congrArg Prod.fst e1

theorem oF {n:Nat} (h:0<n):bw (0 - (n:Int))=bl (45::(bw (n:Int)).data.toList):=by
 rw [bw,bw,bK,uF (by omega)]
 rw [show (0:Int) - (0 - (n:Int))=n by omega]

theorem wC {n:Nat}:∃ c r,(bw (n:Int)).data.toList=c::r∧48≤c.toNat:=by
 rw [vR,bK]
 obtain ⟨c,r,e⟩:=List.exists_cons_of_ne_nil (kZ n)
 exact ⟨c,r,e,(decDigits_digit n c (by rw [e];simp)).1⟩

theorem vY {v:Int} (h : -4096≤v∧v≤4096):dA (bw v)=(v,true):=by
 by_cases hv:v<0
 ·obtain ⟨n,hn⟩:=Int.eq_ofNat_of_zero_le (show 0≤0 - v by omega)
  have ev:v=0 - (n:Int):=by omega
  have ex:(bw v).extract 1 (bw v).size=bw (n:Int):=by
   rw [ev,oF (by omega),kQ,bK]
   rw [dN]
   simp [fT]
   rw [cE,List.take_length,fT]
  have hh:bw v≠ByteArray.empty∧aG (bw v) 0=45:=by
   refine ⟨xv v,?_⟩
   rw [ev,oF (by omega),ip,bK];rfl
  rw [dA,if_pos hh,ex,tK (by omega),if_neg (by omega)]
  rw [ev]
 ·obtain ⟨n,rfl⟩:=Int.eq_ofNat_of_zero_le (show 0≤v by omega)
  obtain ⟨c,r,e,hc⟩:=wC (n:=n)
  rw [dA,if_neg,tK (by omega),if_neg (by omega)]
  rintro ⟨_,hb⟩
  rw [ip,e] at hb
  simp at hb;omega

theorem uJ {s:ByteArray} (h:(dA s).2=true):s=bw (dA s).1 ∧ -4096≤(dA s).1∧(dA s).1≤4096:=by
 by_cases hm:s≠ByteArray.empty∧aG s 0=45
 ·by_cases h1:cZ (s.extract 1 s.size)≤0
  ·rw [dA,if_pos hm,if_pos h1] at h;cases h
  ·have e:dA s=(0 - cZ (s.extract 1 s.size),true):=by rw [dA,if_pos hm,if_neg h1]
   rcases jb (s.extract 1 s.size) with ⟨e1,_⟩ | ⟨n,hn,e2,e1⟩
   ·omega
   ·rw [e]
    simp only []
    rw [e1]
    refine ⟨?_,by omega,by omega⟩
    rw [oF (by omega),← e2]
    cases es:s.data.toList with
    | nil=>exact absurd (by rw [← fT s,es];rfl) hm.1
    | cons c r =>
     have hc:c=45:=by
      have:=hm.2
      rw [ip,es] at this
      apply UInt8.toNat_inj.1
      simp at this
      show c.toNat=45
      omega
     rw [kQ,bK,cE,es,hc]
     conv=>lhs;rw [← fT s,es,hc]
     simp
 ·by_cases h1:cZ s<0
  ·rw [dA,if_neg hm,if_pos h1] at h;cases h
  ·have e:dA s=(cZ s,true):=by rw [dA,if_neg hm,if_neg h1]
   rcases jb s with ⟨e1,_⟩ | ⟨n,hn,e2,e1⟩
   ·omega
   ·rw [e]
    simp only []
    rw [e1]
    exact ⟨e2,by omega,by omega⟩

def eq3:List UInt8:=[32,61,32]

theorem B4 {a b:List UInt8} (h:(32:UInt8) ∉ a):Lib.cut (a++(eq3++b)) eq3=(a,b,true):=by
 have hi:Lib.index (a++(eq3++b)) eq3=(a.length:Int):=by
  refine Lib.index_first (by simp) ?_ (fun j hj=>?_)
  ·rw [Lib.occAt,List.drop_left]
   simp [eq3,List.isPrefixOf]
  ·rw [Lib.occAt,List.drop_append_of_le_length (by omega),List.drop_eq_getElem_cons hj,List.cons_append]
   have hne:a[j]≠32:=fun e=>h (by rw [← e];exact List.getElem_mem hj)
   have:((32:UInt8) == a[j])=false:=by simpa using fun e=>hne e.symm
   simp only [eq3,List.isPrefixOf,this,Bool.false_and]
 rw [Lib.cut,hi,if_pos (by omega),Int.toNat_natCast,List.take_left]
 congr 2
 rw [← List.drop_drop,List.drop_left,List.drop_left]

theorem nu {l sep:List UInt8} (h:(Lib.cut l sep).2.2=true):l=(Lib.cut l sep).1++(sep++(Lib.cut l sep).2.1):=by
 rw [Lib.cut] at *
 by_cases h0:0≤Lib.index l sep
 ·rw [if_pos h0]
  simp only []
  rcases Lib.index_spec l sep with ⟨e,_⟩ | ⟨i,e,hi,ho,_⟩
  ·omega
  ·rw [e,Int.toNat_natCast]
   rw [Lib.occAt,List.isPrefixOf_iff_prefix] at ho
   obtain ⟨t,ht⟩:=ho
   have e2:l.drop (i+sep.length)=t:=by rw [← List.drop_drop,← ht,List.drop_left]
   rw [e2,ht,List.take_append_drop]
 ·rw [if_neg h0] at h;cases h

theorem qP {l:List UInt8} (h:(Lib.cut l eq3).2.2=false):Lib.cut l eq3=(l,[],false):=by
 rw [Lib.cut] at *
 split at h
 ·cases h
 ·rename_i h0;rw [if_neg h0]

abbrev eN:=ByteArray×Bool×Int

def dG (w:ByteArray):Option eN:=if (Lib.cut w.data.toList eq3).2.2 then (if (da (bl (Lib.cut w.data.toList eq3).2.1)).2 then some (bl (Lib.cut w.data.toList eq3).1,false,(da (bl (Lib.cut w.data.toList eq3).2.1)).1) else none) else some (bl (Lib.cut w.data.toList eq3).1,true,0)

def bJ (w:ByteArray):Option eN:=if (aI w 32).length=1 then some (w,true,0) else if (aI w 32).length=3∧gt (aI w 32) 1=bl [61] then (if (dA (gt (aI w 32) 2)).2 then some (gt (aI w 32) 0,false,(dA (gt (aI w 32) 2)).1) else none) else none

def vh (x:eN):Prop:=eO x.1 ∧ -1000≤x.2.2∧x.2.2≤4095

theorem oH (c:UInt8):∀ l:List UInt8,Lib.join (aU c l) [c]=l
 | []=>by rw [aU,Lib.join_one]
 | x::r=>by
  have ih:=oH c r
  have two:∀ (p:List UInt8) (q:List UInt8) (t:List (List UInt8)),Lib.join (p::q::t) [c]=p++c::Lib.join (q::t) [c]:=fun p q t=>by
   rw [Lib.join_cons,Lib.join_cons,Lib.joinTail,Lib.joinTail];simp
  by_cases h:x=c
  ·subst h
   rw [kB]
   cases e:aU x r with
   | nil=>exact absurd e (eZ _ _)
   | cons p ps=>rw [two,← e,ih];rfl
  ·rw [jN h]
   cases e:aU c r with
   | nil=>exact absurd e (eZ _ _)
   | cons p ps =>
    rw [e] at ih
    cases ps with
    | nil =>
     rw [Lib.join_one] at ih
     rw [ih]
     exact Lib.join_one _ _
    | cons q t =>
     rw [two] at ih
     show Lib.join ((x::p)::q::t) [c]=_
     rw [two,List.cons_append,ih]

theorem oX (c:UInt8):∀ l:List UInt8,∀ p∈aU c l,c ∉ p
 | [],p,hp=>by simp [aU] at hp;subst hp;simp
 | x::r,p,hp=>by
  by_cases h:x=c
  ·subst h
   rw [kB] at hp
   rcases List.mem_cons.1 hp with rfl | hp
   ·simp
   ·exact oX x r p hp
  ·rw [jN h] at hp
   cases e:aU c r with
   | nil=>exact absurd e (eZ _ _)
   | cons q t =>
    have ih:=oX c r
    rw [e] at hp ih
    rcases List.mem_cons.1 hp with rfl | hp
    ·intro hm
     rcases List.mem_cons.1 hm with hm | hm
     ·exact h hm.symm
     ·exact ih q (by simp) hm
    ·exact ih p (by simp [hp])

theorem Ao {w:ByteArray} {c:UInt8} (h:(aI w c).length=1):c ∉ w.data.toList:=by
 rw [aI,List.length_map] at h
 have e:=oH c w.data.toList
 have hn:=oX c w.data.toList
 cases hs:aU c w.data.toList with
 | nil=>rw [hs] at h;cases h
 | cons p t =>
  rw [hs] at h e hn
  have:t=[]:=List.eq_nil_of_length_eq_zero (by rw [List.length_cons] at h;omega)
  subst this
  rw [Lib.join_one] at e
  rw [← e];exact hn p (by simp)

theorem yQ {w:ByteArray} {c:UInt8} (h:(aI w c).length=3):∃ p q r,aI w c=[bl p,bl q,bl r]∧w.data.toList=p++c::(q++c::r)∧c ∉ p∧c ∉ q∧c ∉ r:=by
 rw [aI,List.length_map] at h
 have e:=oH c w.data.toList
 have hn:=oX c w.data.toList
 rw [aI]
 match hs:aU c w.data.toList,h with
 | [p,q,r],_ =>
  rw [hs] at e hn
  refine ⟨p,q,r,rfl,?_,hn p (by simp),hn q (by simp),hn r (by simp)⟩
  rw [← e]
  rw [Lib.join_cons,Lib.joinTail];simp

theorem BQ {w:ByteArray} {x:eN} (hx:bJ w=some x) (hg:vh x):dG w=some x:=by
 rw [bJ] at hx
 by_cases h1:(aI w 32).length=1
 ·rw [if_pos h1] at hx
  cases hx
  have hn:=Ao h1
  have hc:(Lib.cut w.data.toList eq3).2.2=false:=by
   cases hc:(Lib.cut w.data.toList eq3).2.2 with
   | false=>rfl
   | true =>
    exfalso
    have:=nu hc
    apply hn
    rw [this];simp [eq3]
  have e:=qP hc
  rw [dG,e]
  simp only [Bool.false_eq_true,if_false]
  rw [fT]
 ·rw [if_neg h1] at hx
  by_cases h3:(aI w 32).length=3∧gt (aI w 32) 1=bl [61]
  ·rw [if_pos h3] at hx
   obtain ⟨p,q,r,ew,el,np,nq,nr⟩:=yQ h3.1
   have g0:gt (aI w 32) 0=bl p:=by rw [ew];rfl
   have g1:gt (aI w 32) 1=bl q:=by rw [ew];rfl
   have g2:gt (aI w 32) 2=bl r:=by rw [ew];rfl
   have hq:q=[61]:=by have:=h3.2;rw [g1,uC] at this;exact this
   rw [g0,g2] at hx
   cases hs:(dA (bl r)).2 with
   | false=>rw [hs] at hx;cases hx
   | true =>
    rw [hs] at hx
    simp only [if_true,Option.some.injEq] at hx
    subst hx
    obtain ⟨e1,e2,e3⟩:=uJ hs
    have hl:w.data.toList=p++(eq3++r):=by rw [el,hq];simp [eq3]
    have hd:da (bl r)=((dA (bl r)).1,true):=by
     have:=lR (n:=(dA (bl r)).1) ⟨by omega,by omega⟩
     rwa [← e1] at this
    rw [dG,hl,B4 np]
    simp only [if_true]
    rw [hd]
    simp
  ·rw [if_neg h3] at hx;cases hx

theorem BW {w:ByteArray} {x:eN} (hx:dG w=some x) (hg:vh x):bJ w=some x:=by
 rw [dG] at hx
 cases hc:(Lib.cut w.data.toList eq3).2.2 with
 | false =>
  rw [qP hc] at hx
  simp only [Bool.false_eq_true,if_false,Option.some.injEq] at hx
  rw [fT] at hx
  subst hx
  have hn:=se hg.1 (c:=32) (.inl (by decide))
  rw [bJ,tP hn,if_pos (by rfl)]
 | true =>
  rw [hc] at hx
  simp only [if_true] at hx
  have hl:=nu hc
  cases hd:(da (bl (Lib.cut w.data.toList eq3).2.1)).2 with
  | false=>rw [hd] at hx;cases hx
  | true =>
   rw [hd] at hx
   simp only [if_true,Option.some.injEq] at hx
   generalize (Lib.cut w.data.toList eq3).1=p at hl hx
   generalize (Lib.cut w.data.toList eq3).2.1=r at hl hx hd
   obtain ⟨e1,e2⟩:=qV hd
   subst hx
   have hr:=hg.2
   simp only at hr
   have np:(32:UInt8) ∉ p:=by
    have:=se hg.1 (c:=32) (.inl (by decide))
    rwa [bK] at this
   have nr:(32:UInt8) ∉ r:=by
    intro hm
    have hm':(32:UInt8)∈(bl r).data.toList:=by rw [bK];exact hm
    rw [e1,bw,bK,Lib.itoa] at hm'
    split at hm'
    ·rcases List.mem_cons.1 hm' with h | h
     ·cases h
     ·have:=decDigits_digit _ _ h;have e32:(32:UInt8).toNat=32:=rfl;omega
    ·have:=decDigits_digit _ _ hm';have e32:(32:UInt8).toNat=32:=rfl;omega
   have ew:aI w 32=[bl p,bl [61],bl r]:=by
    have e3:w.data.toList=p++32::([61]++32::r):=by rw [hl];simp [eq3]
    rw [aI,e3,jy,jy,je 32 p np,je 32 r nr,je 32 [61] (by decide)]
    rfl
   have hs:dA (bl r)=((da (bl r)).1,true):=by
    have:=vY (v:=(da (bl r)).1) ⟨by omega,by omega⟩
    rwa [← e1] at this
   have g0:gt [bl p,bl [61],bl r] 0=bl p:=rfl
   have g1:gt [bl p,bl [61],bl r] 1=bl [61]:=rfl
   have g2:gt [bl p,bl [61],bl r] 2=bl r:=rfl
   rw [bJ,ew,if_neg (by simp),g0,g1,g2,if_pos ⟨by simp,rfl⟩,hs]
   simp

def ea (f:ByteArray→Option eN):List ByteArray→Option (List eN)
 | []=>some []
 | w::r=>match f w with
  | none=>none
  | some x=>(ea f r).map (x::·)

theorem lv {f:ByteArray→Option eN}:∀ {l:List ByteArray} {r:List eN},ea f l=some r→r.length=l.length∧(∀ x∈r,∃ w∈l,f w=some x)∧∀ w∈l,∃ x∈r,f w=some x
 | [],r,h=>by simp only [ea] at h;cases h;simp
 | w::l,r,h=>by
  simp only [ea] at h
  cases e:f w with
  | none=>rw [e] at h;cases h
  | some x =>
   rw [e] at h
   cases e2:ea f l with
   | none=>rw [e2] at h;cases h
   | some t =>
    rw [e2] at h
    simp only [Option.map_some,Option.some.injEq] at h
    subst h
    obtain ⟨h1,h2,h3⟩:=lv e2
    refine ⟨by simp [h1],fun y hy=>?_,fun y hy=>?_⟩
    ·rcases List.mem_cons.1 hy with rfl | hy
     ·exact ⟨w,by simp,e⟩
     ·obtain ⟨v,hv,ev⟩:=h2 y hy;exact ⟨v,by simp [hv],ev⟩
    ·rcases List.mem_cons.1 hy with rfl | hy
     ·exact ⟨x,by simp,e⟩
     ·obtain ⟨v,hv,ev⟩:=h3 y hy;exact ⟨v,by simp [hv],ev⟩

theorem zB (T:List ByteArray):ea dG T=ea bJ T∨((∀ r,ea dG T=some r→∃ x∈r,¬ vh x)∧(∀ r,ea bJ T=some r→∃ x∈r,¬ vh x)):=by
 classical
 by_cases h:∀ w∈T,dG w=bJ w
 ·left
  induction T with
  | nil=>rfl
  | cons w r ih =>
   simp only [ea]
   rw [h w (by simp),ih (fun v hv=>h v (by simp [hv]))]
 ·right
  obtain ⟨w,hw⟩:=Classical.not_forall.1 h
  obtain ⟨hw,hne⟩:=Classical.not_imp.1 hw
  refine ⟨fun r hr=>?_,fun r hr=>?_⟩
  ·obtain ⟨x,hx,ex⟩:=(lv hr).2.2 w hw
   exact ⟨x,hx,fun hg=>hne (by rw [ex,BW ex hg])⟩
  ·obtain ⟨x,hx,ex⟩:=(lv hr).2.2 w hw
   exact ⟨x,hx,fun hg=>hne (by rw [ex,BQ ex hg])⟩

theorem va (l:List UInt8):(Lib.hasSuffix l [10]=true→l=Lib.trimSuffix l [10]++[10])∧(Lib.hasSuffix l [10]=false→(10:UInt8) ∉ l∨∃ a b,l=a++10::b∧(10:UInt8) ∉ b∧b≠[]):=by
 constructor
 ·intro h
  have h2:=h
  rw [Lib.hasSuffix,List.isSuffixOf_iff_suffix] at h2
  obtain ⟨t,ht⟩:=h2
  have e:Lib.trimSuffix l [10]=t:=by
   rw [Lib.trimSuffix,if_pos h,← ht]
   simp
  rw [e,ht]
 ·intro h
  have key:∀ m:List UInt8,(10:UInt8) ∉ m∨∃ a b,m=a++10::b∧(10:UInt8) ∉ b:=by
   intro m
   induction m with
   | nil=>left;simp
   | cons x r ih =>
    rcases ih with ih | ⟨a,b,e,hb⟩
    ·by_cases hx:x=10
     ·right;exact ⟨[],r,by rw [hx];rfl,ih⟩
     ·left;intro hm
      rcases List.mem_cons.1 hm with hm | hm
      ·exact hx hm.symm
      ·exact ih hm
    ·right;exact ⟨x::a,b,by rw [e];rfl,hb⟩
  rcases key l with h' | ⟨a,b,e,hb⟩
  ·exact .inl h'
  ·right
   refine ⟨a,b,e,hb,fun hn=>?_⟩
   subst hn
   have:Lib.hasSuffix l [10]=true:=by rw [Lib.hasSuffix,List.isSuffixOf_iff_suffix,e];exact ⟨a,rfl⟩
   rw [h] at this;cases this

def aE (s:ByteArray):List ByteArray:=aI (bl (Lib.trimSuffix s.data.toList [10])) 10

def lB (s:ByteArray):Bool:=Lib.hasSuffix s.data.toList [10]

theorem zL {s:ByteArray} (h:lB s=true):aI s 10=aE s++[ByteArray.empty]:=by
 have e:=(va s.data.toList).1 h
 rw [aE,aI,aI,bK]
 conv=>lhs;rw [e]
 rw [jy,List.map_append]
 rfl

theorem Am {s:ByteArray} (h:lB s=false):(aI s 10).length=1∨∃ a b,aI s 10=a++[b]∧a≠[]∧b≠ByteArray.empty:=by
 rcases (va s.data.toList).2 h with h1 | ⟨a,b,e,hb,hne⟩
 ·left;rw [tP h1];rfl
 ·right
  refine ⟨(aU 10 a).map bl,bl b,?_,by simpa using eZ 10 a,by rw [empty_bl,Ne,uC];exact hne⟩
  rw [aI,e,jy,je 10 b hb,List.map_append];rfl

theorem qf (s:ByteArray):aE s≠[]:=by rw [aE,aI];simpa using eZ _ _

theorem vL (s:ByteArray):(bl (Lib.trimSuffix s.data.toList [10])).size≤s.size:=by
 rw [dN,cE,Lib.trimSuffix]
 split
 ·rw [List.length_take];omega
 ·omega

theorem nH (s:ByteArray):(aE s).length≤s.size+1∧∀ w∈aE s,w.size≤s.size:=by
 have h1:=vL s
 have h2:=gX (bl (Lib.trimSuffix s.data.toList [10])) 10
 have h3:=im (bl (Lib.trimSuffix s.data.toList [10])) 10
 exact ⟨by rw [aE];omega,fun w hw=>by have:=h3 w hw;omega⟩

def aZ (f:ByteArray→Option eN) (s:ByteArray):ByteArray×List eN×Bool :=
 if lB s then (match ea f (aE s).tail with
  | none=>(ByteArray.empty,[],false)
  | some r=>(gt (aE s) 0,r,true)) else (ByteArray.empty,[],false)

theorem vZ {f:ByteArray→Option eN} {w:ByteArray} {r:List ByteArray}:ea f (w::r)=match f w with | none=>none | some x=>(ea f r).map (x::·):=rfl

theorem pi (L:List ByteArray) (hL:L.length≤1000000000) (hne:L≠[]) (hw:∀ w∈L,w.size≤1000000000):∀ (k i n:Nat) (acc:List eN),i+k=L.tail.length→k<n→acc.length=i →
  bP L n acc (i:Int)=some (match ea dG (L.tail.drop i) with | none=>.inl () | some r=>.inr (acc++r))
 | 0,i,n,acc,hik,hn,ha=>by
  obtain ⟨n,rfl⟩:∃ m,n=m+1:=⟨n - 1,by omega⟩
  have ht:=List.length_tail (l:=L)
  rw [bP,bM,decide_eq_false (by simp only [Int.toNat_natCast];have e1:(1:Int).toNat=1:=rfl;omega),cond_false,List.drop_of_length_le (by omega)]
  simp [ea]
 | k+1,i,n,acc,hik,hn,ha=>by
  obtain ⟨n,rfl⟩:∃ m,n=m+1:=⟨n - 1,by omega⟩
  have ht:=List.length_tail (l:=L)
  have e1:(1:Int).toNat=1:=rfl
  have hi:i<L.tail.length:=by omega
  have hi':i+1<L.length:=by omega
  have hd:L.tail.drop i=L[i+1]::L.tail.drop (i+1):=by
   rw [List.drop_eq_getElem_cons hi,List.getElem_tail]
  have hws:=hw _ (List.getElem_mem hi')
  have hg:gt L (((1:Int).toNat+(i:Int).toNat:Nat):Int)=L[i+1]:=by
   rw [e1,Int.toNat_natCast,Nat.add_comm 1 i];exact cy hi'
  have ih:∀ acc':List eN,acc'.length=i+1→_:=fun acc' h=>pi L hL hne hw k (i+1) n acc' (by omega) (by omega) h
  rw [bP,bM,decide_eq_true (by rw [Int.toNat_natCast,e1];omega),cond_true,ak (by rw [Int.toNat_natCast,Int.toNat_natCast,e1];omega),hg,kb,ak (by omega),ac,hd,vZ]
  have e3:(CC #[32,61,32]).data.toList=eq3:=rfl
  rw [e3,ci (i:=i) (by omega),dG]
  generalize hc:Lib.cut L[i+1].data.toList eq3=c at *
  obtain ⟨p,q,b⟩:=c
  have hq:q.length≤1000000000:=by
   have:q.length≤L[i+1].data.toList.length:=by
    cases hb:b with
    | true =>
     have h0:(Lib.cut L[i+1].data.toList eq3).2.2=true:=by rw [hc];exact hb
     have:=congrArg List.length (nu h0)
     rw [hc] at this
     simp only [List.length_append] at this
     omega
    | false =>
     have h0:(Lib.cut L[i+1].data.toList eq3).2.2=false:=by rw [hc];exact hb
     have:=qP h0
     rw [hc] at this
     simp only [Prod.mk.injEq] at this
     rw [this.2.1];simp
   rw [← cE] at this
   omega
  simp only []
  cases b with
  | false =>
   rw [cond_false,ak (by rw [List.length_singleton];omega),ih _ (by rw [List.length_append,List.length_singleton];omega)]
   simp only [Bool.false_eq_true,if_false,Bool.not_false]
   cases ea dG (L.tail.drop (i+1)) with
   | none=>rfl
   | some r=>simp only [Option.map_some,List.append_assoc,List.singleton_append];rfl
  | true =>
   rw [cond_true,show (⟨q.toArray⟩:ByteArray)=bl q from rfl,mK (by rw [dN];exact hq),ac]
   simp only [if_true]
   cases hd2:(da (bl q)).2 with
   | false=>rw [Bool.not_false,cond_true];rfl
   | true =>
    rw [Bool.not_true,cond_false,ak (by rw [List.length_singleton];omega),ih _ (by rw [List.length_append,List.length_singleton];omega)]
    simp only [if_true,Bool.not_true]
    cases ea dG (L.tail.drop (i+1)) with
    | none=>rfl
    | some r=>simp only [Option.map_some,List.append_assoc,List.singleton_append];rfl

theorem vF {s:ByteArray} (hs:s.size≤100000000):gy s=some (if (aE s).length≤13 then aZ dG s else (ByteArray.empty,[],false)):=by
 obtain ⟨hl,hz⟩:=nH s
 have hne:=qf s
 have hlen:0<(aE s).length:=List.length_pos_iff.2 hne
 have e10:(CC #[10]).data.toList=[10]:=rfl
 have es:dt (bl (Lib.trimSuffix s.data.toList [10])) (bl [10])=some (aE s):=by
  have:=vL s
  exact lU (by omega)
 rw [gy,gS,ak (by omega),ac,e10]
 show bd (dt (bl (Lib.trimSuffix s.data.toList [10])) (bl [10])) _=_
 rw [es,ac,aZ]
 show (bif (!lB s) then _ else _)=_
 cases he:lB s with
 | false =>
  rw [Bool.not_false,cond_true]
  simp
 | true =>
  rw [Bool.not_true,cond_false]
  by_cases h13:13<((aE s).length:Int)
  ·rw [aj h13,if_neg (by omega)]
  ·have el:=pi (aE s) (by omega) hne (fun w hw=>by have:=hz w hw;omega) (aE s).tail.length 0 FU [] (by omega) (by rw [FU_eq,List.length_tail];omega) rfl
   have el':bP (aE s) FU [] 0=some (match ea dG (aE s).tail with | none=>.inl () | some r=>.inr ([]++r)):=el
   rw [ah h13,if_pos (by omega),ak (by omega)]
   show bd (bP (aE s) FU [] 0) _=_
   rw [el',ac]
   simp only [if_true]
   cases ea dG (aE s).tail with
   | none=>rfl
   | some r =>
    simp only [sm,List.nil_append]
    rw [ak (by omega)]

theorem vm {w:ByteArray} (hw:w.size≤100000000):∃ x,gE w=some x∧(bJ w=if x.2.2.2 then some (x.1,x.2.1,x.2.2.1) else none):=by
 have es:cz w 32=some (aI w 32):=kW (s:=w) (c:=32) (by omega)
 have hz:=im w 32
 rw [gE,es,ac,bJ]
 by_cases h1:(aI w 32).length=1
 ·rw [aj (by omega),if_pos h1];exact ⟨_,rfl,rfl⟩
 ·rw [ah (by omega),if_neg h1]
  by_cases h3:(aI w 32).length=3
  ·have m2:gt (aI w 32) 2∈aI w 32:=eD (by omega)
   rw [decide_eq_true (by omega),Bool.not_true,cond_false,ak (by omega),show (CC #[61])=bl [61] from rfl]
   by_cases h4:gt (aI w 32) 1=bl [61]
   ·rw [decide_eq_true h4,Bool.not_true,cond_false,ak (by omega),nx (by have:=hz _ m2;omega),ac,ak (by omega),if_pos ⟨h3,h4⟩]
    exact ⟨_,rfl,rfl⟩
   ·rw [decide_eq_false h4,Bool.not_false,cond_true,if_neg (fun h=>h4 h.2)]
    exact ⟨_,rfl,rfl⟩
  ·rw [decide_eq_false (by omega),Bool.not_false,cond_true,if_neg (fun h=>h3 h.1)]
   exact ⟨_,rfl,rfl⟩

theorem ph (L:List ByteArray) (e:ByteArray) (hL:L.length≤1000000000) (hne:L≠[]) (hw:∀ w∈L,w.size≤100000000):∀ (k i n:Nat) (acc:List eN),i+k=L.tail.length→k<n→acc.length=i →
  bT (L++[e]) n acc ((i+1:Nat):Int)=some (match ea bJ (L.tail.drop i) with | none=>.inl () | some r=>.inr (acc++r))
 | 0,i,n,acc,hik,hn,ha=>by
  obtain ⟨n,rfl⟩:∃ m,n=m+1:=⟨n - 1,by omega⟩
  have ht:=List.length_tail (l:=L)
  have hp:0<L.length:=List.length_pos_iff.2 hne
  have hl:(L++[e]).length=L.length+1:=by simp
  rw [bT,ci (i:=i+1) (by omega),ah (by rw [hl];omega),List.drop_of_length_le (by omega)]
  simp [ea]
 | k+1,i,n,acc,hik,hn,ha=>by
  obtain ⟨n,rfl⟩:∃ m,n=m+1:=⟨n - 1,by omega⟩
  have ht:=List.length_tail (l:=L)
  have hl:(L++[e]).length=L.length+1:=by simp
  have hi:i<L.tail.length:=by omega
  have hi':i+1<L.length:=by omega
  have hd:L.tail.drop i=L[i+1]::L.tail.drop (i+1):=by
   rw [List.drop_eq_getElem_cons hi,List.getElem_tail]
  have hg:gt (L++[e]) ((i+1:Nat):Int)=L[i+1]:=by
   rw [cy (by rw [hl];omega),List.getElem_append_left hi']
  obtain ⟨x,ex,hx⟩:=vm (hw _ (List.getElem_mem hi'))
  rw [bT,ci (i:=i+1) (by omega),aj (by rw [hl];omega),ak (by rw [hl];omega),hg,ex,ac,hd,vZ,hx]
  cases hb:x.2.2.2 with
  | false=>rw [Bool.not_false,cond_true];rfl
  | true =>
   rw [Bool.not_true,cond_false,ak (by rw [List.length_singleton];omega),ph L e hL hne hw k (i+1) n _ (by omega) (by omega) (by rw [List.length_append,List.length_singleton];omega)]
   simp only [if_true]
   cases ea bJ (L.tail.drop (i+1)) with
   | none=>rfl
   | some r=>simp only [Option.map_some,List.append_assoc,List.singleton_append]

theorem tE {s:ByteArray} (hs:s.size≤100000000):gg s=some (aZ bJ s):=by
 obtain ⟨hl,hz⟩:=nH s
 have hne:=qf s
 have hlen:0<(aE s).length:=List.length_pos_iff.2 hne
 have hwl:=gX s 10
 have es:cz s 10=some (aI s 10):=kW (s:=s) (c:=10) (by omega)
 rw [gg,es,ac,aZ]
 cases he:lB s with
 | true =>
  have hw:(aE s++[ByteArray.empty]).length=(aE s).length+1:=by simp
  have hg:gt (aE s++[ByteArray.empty]) (((aE s).length:Nat):Int)=ByteArray.empty:=by
   rw [cy (by rw [hw];omega)];simp
  have ew:CB .i64 (((aE s++[ByteArray.empty]).length:Int) - 1)=(((aE s).length:Nat):Int):=by
   rw [hw,w64 (by omega) (by omega)];omega
  have el:=ph (aE s) ByteArray.empty (by omega) hne (fun w hw=>by have:=hz w hw;omega) (aE s).tail.length 0 FU [] (by omega) (by rw [FU_eq,List.length_tail];omega) rfl
  have el':bT (aE s++[ByteArray.empty]) FU [] 1=some (match ea bJ (aE s).tail with | none=>.inl () | some r=>.inr ([]++r)):=el
  have g0:gt (aE s++[ByteArray.empty]) (0:Int)=gt (aE s) (0:Int):=by
   have a1:=cy (l:=aE s++[ByteArray.empty]) (i:=0) (by rw [hw];omega)
   have a2:=cy (l:=aE s) (i:=0) hlen
   rw [List.getElem_append_left hlen] at a1
   exact a1.trans a2.symm
  rw [zL he,ah (by rw [hw];omega),ew,ak (by rw [hw];omega),bM,hg,decide_eq_true rfl,Bool.not_true,cond_false]
  show bd (bT (aE s++[ByteArray.empty]) FU [] 1) _=_
  rw [el',ac]
  simp only [if_true]
  cases ea bJ (aE s).tail with
  | none=>rfl
  | some r =>
   simp only [sm,List.nil_append]
   rw [ak (by rw [hw];omega),g0]
 | false =>
  rcases Am he with h1 | ⟨a,b,e,ha,hb⟩
  ·rw [aj (by omega)];simp
  ·have hw:(a++[b]).length=a.length+1:=by simp
   have hp:0<a.length:=List.length_pos_iff.2 ha
   have hle:a.length≤s.size+1:=by rw [e,hw] at hwl;omega
   have hg:gt (a++[b]) ((a.length:Nat):Int)=b:=by
    rw [cy (by rw [hw];omega)];simp
   have ew:CB .i64 (((a++[b]).length:Int) - 1)=((a.length:Nat):Int):=by
    rw [hw,w64 (by omega) (by omega)];omega
   rw [e,ah (by rw [hw];omega),ew,ak (by rw [hw];omega),bM,hg,decide_eq_false hb,Bool.not_false,cond_true]
   simp

theorem xW {f:ByteArray→Option eN} (hf:∀ w x,w.size≤100000000→f w=some x→x.1.size≤100000000∧I64 x.2.2) {s:ByteArray} (hs:s.size≤100000000):kI (aZ f s).2.1:=by
 rw [aZ]
 split
 ·obtain ⟨hl,hz⟩:=nH s
  split
  ·exact ⟨by simp,by simp,by simp⟩
  ·rename_i r hr
   obtain ⟨h1,h2,_⟩:=lv hr
   have ht:=List.length_tail (l:=aE s)
   refine ⟨by simp only;omega,fun x hx=>?_,fun x hx=>?_⟩
   ·obtain ⟨w,hw,e⟩:=h2 x hx
    have:=(hf w x (by have:=hz w (List.mem_of_mem_tail hw);omega) e).1
    omega
   ·obtain ⟨w,hw,e⟩:=h2 x hx
    exact (hf w x (by have:=hz w (List.mem_of_mem_tail hw);omega) e).2
 ·exact ⟨by simp,by simp,by simp⟩

theorem Bm (w:ByteArray) (x:eN) (hw:w.size≤100000000) (h:bJ w=some x):x.1.size≤100000000∧I64 x.2.2:=by
 rw [bJ] at h
 split at h
 ·cases h;exact ⟨hw,by simp only;omega,by simp only;omega⟩
 ·split at h
  ·rename_i h3
   split at h
   ·rename_i h4
    cases h
    have m0:gt (aI w 32) 0∈aI w 32:=eD (by omega)
    have:=im w 32 _ m0
    obtain ⟨_,h5,h6⟩:=uJ h4
    exact ⟨by simp only;omega,by simp only;omega,by simp only;omega⟩
   ·cases h
  ·cases h

theorem A3 (w:ByteArray) (x:eN) (hw:w.size≤100000000) (h:dG w=some x):x.1.size≤100000000∧I64 x.2.2:=by
 have hp:(bl (Lib.cut w.data.toList eq3).1).size≤100000000:=by
  rw [dN]
  cases hb:(Lib.cut w.data.toList eq3).2.2 with
  | true =>
   have:=congrArg List.length (nu hb)
   rw [← cE,List.length_append] at this
   omega
  | false=>rw [qP hb];simp only;rw [← cE];exact hw
 rw [dG] at h
 split at h
 ·split at h
  ·rename_i h4
   cases h
   exact ⟨hp,(qV h4).2⟩
  ·cases h
 ·cases h
  exact ⟨hp,by simp only;omega,by simp only;omega⟩

theorem A0 {R:Type} (bld:List eN→R) (bad:R) (hb:∀ r,(∃ x∈r,¬ vh x)→bld r=bad) (hlong:∀ r:List eN,12<r.length→bld r=bad) (hdr:ByteArray→Prop) [∀ w,Decidable (hdr w)] (s:ByteArray) :
  (if (if (aE s).length≤13 then aZ dG s else (ByteArray.empty,[],false)).2.2=true∧hdr (if (aE s).length≤13 then aZ dG s else (ByteArray.empty,[],false)).1 then bld (if (aE s).length≤13 then aZ dG s else (ByteArray.empty,[],false)).2.1 else bad) =
  (if (aZ bJ s).2.2=true∧hdr (aZ bJ s).1 then bld (aZ bJ s).2.1 else bad):=by
 by_cases he:lB s=true
 ·have ht:=List.length_tail (l:=aE s)
  have es:aZ bJ s=match ea bJ (aE s).tail with | none=>(ByteArray.empty,[],false) | some r=>(gt (aE s) 0,r,true):=by rw [aZ,if_pos he]
  have ei:aZ dG s=match ea dG (aE s).tail with | none=>(ByteArray.empty,[],false) | some r=>(gt (aE s) 0,r,true):=by rw [aZ,if_pos he]
  have spec_bad:(∀ r,ea bJ (aE s).tail=some r→bld r=bad)→(if (aZ bJ s).2.2=true∧hdr (aZ bJ s).1 then bld (aZ bJ s).2.1 else bad)=bad:=fun h=>by
   rw [es]
   cases hr:ea bJ (aE s).tail with
   | none=>simp
   | some r=>simp only [];rw [h r hr];simp
  by_cases h13:(aE s).length≤13
  ·simp only [if_pos h13]
   rcases zB (aE s).tail with h | ⟨h1,h2⟩
   ·rw [ei,es,h]
   ·rw [spec_bad (fun r hr=>hb r (h2 r hr)),ei]
    cases hr:ea dG (aE s).tail with
    | none=>simp
    | some r=>simp only [];rw [hb r (h1 r hr)];simp
  ·simp only [if_neg h13]
   rw [spec_bad (fun r hr=>hlong r (by have:=(lv hr).1;omega))]
   simp
 ·have e1:∀ f,aZ f s=(ByteArray.empty,[],false):=fun f=>by rw [aZ,if_neg he]
  rw [e1,e1]
  simp

def flagSp:ByteArray:=CC #[102,108,97,103,32]

def fi (h:ByteArray):Int:=ix (fun w=>decide (h=flagSp++w)) boundWords

theorem words_small:∀ w∈boundWords,w.size≤6:=by
 intro w hw
 simp only [boundWords,List.mem_cons,List.not_mem_nil,or_false] at hw
 rcases hw with rfl | rfl | rfl | rfl <;> decide

theorem yp (h:ByteArray):gp h=some (fi h):=by
 have e:=oI boundWords (dl h) (fun w=>decide (h=flagSp++w)) ?_ ?_ FU (by rw [FU_eq];decide)
 ·rw [gp,eU,ac,e,ac,fi,ix]
  cases boundWords.findIdx? (fun w=>decide (h=flagSp++w)) <;> rfl
 ·intro n
  rw [dl,bM,ah (by decide)]
 ·intro n i hi
  have e4:boundWords.length=4:=rfl
  have hm:gt boundWords (i:Int)∈boundWords:=eD (by omega)
  have hz:=words_small _ hm
  have hf:(CC #[102,108,97,103,32]).size=5:=rfl
  rw [dl,bM,show ([(CC #[115,116,114,105,99,116]),(CC #[102,105,116]),(CC #[101,106,101,99,116]),(CC #[107,101,101,112])]:List ByteArray)=boundWords from rfl,bM,bM,aj (by omega),ak (by omega),ak (by omega),ci (i:=i) (by omega)]
  by_cases h1:h=flagSp++gt boundWords (i:Int)
  ·rw [decide_eq_true h1,if_pos rfl]
   rw [aj (show h=(CC #[102,108,97,103,32])++gt boundWords (i:Int) from h1)]
  ·rw [decide_eq_false h1,if_neg (by simp)]
   rw [ah (show ¬ h=(CC #[102,108,97,103,32])++gt boundWords (i:Int) from h1)]

theorem yE (w:ByteArray):fD boundWords w=some (ix (fun v=>decide (w=v)) boundWords):=by
 have e:=oI boundWords (cM boundWords w) (fun v=>decide (w=v)) ?_ ?_ FU (by rw [FU_eq];decide)
 ·rw [fD,e,ac,ix]
  cases boundWords.findIdx? (fun v=>decide (w=v)) <;> rfl
 ·intro n
  rw [cM,ah (by omega)]
 ·intro n i hi
  have e4:boundWords.length=4:=rfl
  rw [cM,aj (by omega),ak (by omega),ci (i:=i) (by omega)]
  by_cases h1:w=gt boundWords (i:Int)
  ·rw [decide_eq_true h1,cond_true,if_pos rfl]
  ·rw [decide_eq_false h1,cond_false,if_neg (by simp)]

theorem zF (h:ByteArray):(Lib.hasPrefix h.data.toList flagSp.data.toList=true∧ix (fun v=>decide (bl (Lib.trimPrefix h.data.toList flagSp.data.toList)=v)) boundWords=fi h)∨(Lib.hasPrefix h.data.toList flagSp.data.toList=false∧fi h = -1):=by
 cases hp:Lib.hasPrefix h.data.toList flagSp.data.toList with
 | true =>
  left
  refine ⟨rfl,?_⟩
  have h2:=hp
  rw [Lib.hasPrefix,List.isPrefixOf_iff_prefix] at h2
  obtain ⟨t,ht⟩:=h2
  have e:Lib.trimPrefix h.data.toList flagSp.data.toList=t:=by
   rw [Lib.trimPrefix,if_pos hp,← ht,List.drop_left]
  rw [e,fi]
  congr 1
  funext w
  refine decide_eq_decide.2 ?_
  constructor
  ·intro hw
   rw [ja,← hw,bK,ht,fT]
  ·intro hw
   have h3:h.data.toList=flagSp.data.toList++w.data.toList:=by rw [hw,ja,bK]
   rw [h3] at ht
   have:=List.append_cancel_left ht
   rw [this,fT]
 | false =>
  right
  refine ⟨rfl,?_⟩
  rcases ln (fun w=>decide (h=flagSp++w)) boundWords with ⟨e,_⟩ | ⟨i,d,_,_,_,_,_,hd⟩
  ·exact e
  ·exfalso
   have hd:=of_decide_eq_true hd
   have h3:h.data.toList=flagSp.data.toList++d.data.toList:=by rw [hd,ja,bK]
   have:Lib.hasPrefix h.data.toList flagSp.data.toList=true:=by
    rw [Lib.hasPrefix,List.isPrefixOf_iff_prefix,h3];exact ⟨_,rfl⟩
   rw [hp] at this;cases this

theorem qi {f:ByteArray→Option eN} {s:ByteArray} (h:(aZ f s).2.2=true):(aZ f s).1=gt (aE s) 0:=by
 rw [aZ] at *
 split at h
 ·rename_i he
  rw [if_pos he]
  cases hm:ea f (aE s).tail with
  | none=>rw [hm] at h;cases h
  | some r=>rfl
 ·cases h

def az (s:ByteArray):List (ByteArray×Int)×Int×Bool :=
 if (aZ bJ s).2.2=true∧0≤fi (aZ bJ s).1 then jp (aZ bJ s).2.1 (fi (gt (aE s) 0)) else ([],0,false)

theorem Az {r:List eN} {b:Int} (h:∃ x∈r,¬ vh x):jp r b=([],0,false):=by
 rw [jp,if_neg]
 rintro ⟨h1,h2⟩
 obtain ⟨x,hx,hg⟩:=h
 have:=kE.of h1 h2
 obtain ⟨i,hi,rfl⟩:=List.mem_iff_getElem.1 hx
 have h3:=this.1 i hi
 rw [cy hi] at h3
 exact hg ⟨h3.1,by have:=h3.2.2.1.1;omega,h3.2.2.1.2⟩

theorem zH {r:List eN} {b:Int} (h:12<r.length):jp r b=([],0,false):=by
 rw [jp,if_neg]
 rintro ⟨h1,h2⟩
 have:=h2.len
 rw [db] at this
 simp at this;omega

theorem ou {s:ByteArray} (hs:s.size≤100000000):fv s=some (az s):=by
 rw [fv,tE hs,ac,az]
 have hin:=xW Bm hs
 cases h1:(aZ bJ s).2.2 with
 | false=>rw [Bool.not_false,cond_true,if_neg (by simp)]
 | true =>
  have hh:=qi h1
  rw [Bool.not_true,cond_false,yp,ac]
  by_cases h2:0≤fi (aZ bJ s).1
  ·rw [ah (by omega),ac,vg hin,ac,if_pos ⟨rfl,h2⟩,hh]
  ·rw [aj (by omega),if_neg (fun h=>h2 h.2)]

theorem vf {s:ByteArray} (hs:s.size≤100000000):gO s=some (az s):=by
 have key:=A0 (fun r=>jp r (fi (gt (aE s) 0))) ([],0,false) (fun r h=>Az h) (fun r h=>zH h) (fun w=>0≤fi w) s
 rw [gO,vF hs,ac,az,← key]
 have hin:kI (if (aE s).length≤13 then aZ dG s else (ByteArray.empty,[],false)).2.1:=by
  split
  ·exact xW A3 hs
  ·exact ⟨by simp,by simp,by simp⟩
 have hh:(if (aE s).length≤13 then aZ dG s else (ByteArray.empty,[],false)).2.2=true→(if (aE s).length≤13 then aZ dG s else (ByteArray.empty,[],false)).1=gt (aE s) 0:=by
  split
  ·exact qi
  ·intro h;cases h
 generalize (if (aE s).length≤13 then aZ dG s else (ByteArray.empty,[],false))=q at hin hh
 rw [gT,ac]
 show bd (fD boundWords (bl (Lib.trimPrefix q.1.data.toList flagSp.data.toList))) (fun x4=>bif (!q.2.2) then _ else bif (!Lib.hasPrefix q.1.data.toList flagSp.data.toList) then _ else _)=_
 rw [yE,ac]
 cases h1:q.2.2 with
 | false=>rw [Bool.not_false,cond_true,if_neg (by simp)]
 | true =>
  rw [Bool.not_true,cond_false]
  rcases zF q.1 with ⟨e1,e2⟩ | ⟨e1,e2⟩
  ·rw [e1,Bool.not_true,cond_false,e2]
   by_cases h2:0≤fi q.1
   ·rw [ah (by omega),vn hin,ac,if_pos ⟨rfl,h2⟩,hh h1]
   ·rw [aj (by omega),if_neg (fun h=>h2 h.2)]
  ·rw [e1,Bool.not_false,cond_true,if_neg (fun h=>by have:=h.2;omega)]

theorem uY {n:Int} {c:UInt8} (hc:c.toNat<45):c ∉ Lib.itoa n:=by
 intro hm
 rw [Lib.itoa] at hm
 split at hm
 ·rcases List.mem_cons.1 hm with rfl | h
  ·exact absurd hc (by decide)
  ·have:=decDigits_digit _ _ h;omega
 ·have:=decDigits_digit _ _ hm;omega

def uP (l:List (ByteArray×Int)):Prop:=l.length≤12∧∀ d∈l,eO d.1 ∧ -4096≤d.2∧d.2≤4096

theorem eM.smallD {l:List (ByteArray×Int)} {lo hi:Int} (h:eM l lo hi) (h1 : -4096≤lo) (h2:hi≤4096):uP l :=
 ⟨h.out.2.2,fun d hd=>by have:=h.out.1 d hd;exact ⟨this.1,by omega,by omega⟩⟩

def nlC (l:List UInt8):Nat:=(l.filter fun c=>decide (c=10)).length

theorem pf (a b:List UInt8):nlC (a++b)=nlC a+nlC b:=by rw [nlC,List.filter_append,List.length_append];rfl

theorem Cf {l:List UInt8} (h:(10:UInt8) ∉ l):nlC l=0:=by
 rw [nlC,List.length_eq_zero_iff,List.filter_eq_nil_iff]
 intro c hc e
 have:=of_decide_eq_true e
 exact h (this ▸ hc)

def qB (a:Int) (c:UInt8):Int:=if c=10 then a+1 else a

theorem nl_fold:∀ (l:List UInt8) (a:Int),l.foldl qB a=a+(nlC l:Nat)
 | [],a=>by simp [nlC]
 | c::l,a=>by
  rw [List.foldl_cons,nl_fold l,qB]
  by_cases h:c=10
  ·rw [if_pos h,nlC,nlC,List.filter_cons_of_pos (p:=fun c=>decide (c=10)) (decide_eq_true h),List.length_cons];omega
  ·rw [if_neg h,nlC,nlC,List.filter_cons_of_neg (p:=fun c=>decide (c=10)) (by simp [h])]

theorem wH {s:ByteArray} (hs:s.size≤1000000000):hF s=some ((nlC s.data.toList:Nat):Int):=by
 have hz:=cE s
 have e:=nB s.data.toList (cC s) qB (fun i a=>0≤a∧a≤i) ?_ ?_ FU (by rw [FU_eq];omega) 0 ⟨by omega,by omega⟩
 ·rw [hF,e.1,ac,nl_fold,Int.zero_add]
 ·intro n a
  rw [cC,ah (by omega)]
 ·intro n i a hi hm hI
  refine ⟨by rw [qB];split <;> omega,?_⟩
  have eb:aG s (i:Int).toNat=((gt s.data.toList (i:Int)).toNat:Int):=by
   rw [Int.toNat_natCast,ip,cy hi,List.getD_eq_getElem?_getD,List.getElem?_eq_getElem hi,Option.getD_some]
  rw [cC,aj (by omega),ak (by omega),eb,ci (by omega),qB]
  by_cases h:gt s.data.toList (i:Int)=10
  ·rw [h,if_pos rfl,aj (by decide),w64 (by omega) (by omega)]
  ·rw [if_neg h,ah]
   intro h2
   exact h (UInt8.toNat_inj.1 (by rw [show (10:UInt8).toNat=10 from rfl];omega))

theorem qC (c:UInt8):∀ l:List UInt8,(aU c l).length=(l.filter fun x=>decide (x=c)).length+1
 | []=>rfl
 | x::r=>by
  have ih:=qC c r
  by_cases h:x=c
  ·rw [aU,if_pos h,List.length_cons,ih,List.filter_cons_of_pos (p:=fun x=>decide (x=c)) (decide_eq_true h),List.length_cons]
  ·rw [List.filter_cons_of_neg (p:=fun x=>decide (x=c)) (by simp [h]),← ih,aU,if_neg h]
   cases e:aU c r with
   | nil=>exact absurd e (eZ c r)
   | cons p ps=>rfl

theorem A9 {s:ByteArray} (h:lB s=true):nlC s.data.toList=(aE s).length:=by
 have e:=(va s.data.toList).1 h
 rw [aE,aI,bK,List.length_map,qC]
 conv=>lhs;rw [e,pf]
 rfl

theorem AH {s:ByteArray} (h:(aZ bJ s).2.2=true):lB s=true∧(aZ bJ s).2.1.length+1=(aE s).length:=by
 cases he:lB s with
 | false=>rw [aZ,if_neg (by simp [he])] at h;cases h
 | true =>
  refine ⟨rfl,?_⟩
  cases hm:ea bJ (aE s).tail with
  | none=>rw [aZ,if_pos he,hm] at h;cases h
  | some r =>
   have e:aZ bJ s=(gt (aE s) 0,r,true):=by rw [aZ,if_pos he,hm]
   have hl:=(lv hm).1
   have hne:=List.length_pos_iff.2 (qf s)
   rw [List.length_tail] at hl
   rw [e]
   show r.length+1=_
   omega

theorem uP.inn {l:List (ByteArray×Int)} (h:uP l):cB l :=
 ⟨by have:=h.1;omega,fun d hd=>by have:=(h.2 d hd).1.2.2;omega,fun d hd=>by have:=(h.2 d hd).2;exact ⟨by omega,by omega⟩⟩

theorem iy {s:ByteArray} (h:(az s).2.2=true):bF (az s).1 (az s).2.1∧nlC s.data.toList=(az s).1.length+1∧0≤fi (aZ bJ s).1:=by
 by_cases h1:(aZ bJ s).2.2=true∧0≤fi (aZ bJ s).1
 ·have e:az s=jp (aZ bJ s).2.1 (fi (gt (aE s) 0)):=if_pos h1
  rw [e] at h ⊢
  by_cases h2:((aZ bJ s).2.1.any (fun x=>x.2.1 && !decide (x.2.2=0))=false)∧bF (bB hH (aZ bJ s).2.1 []) (fi (gt (aE s) 0))
  ·have e2:jp (aZ bJ s).2.1 (fi (gt (aE s) 0))=(bB hH (aZ bJ s).2.1 [],fi (gt (aE s) 0),true):=if_pos h2
   obtain ⟨o1,o2⟩:=AH h1.1
   rw [e2]
   refine ⟨h2.2,?_,h1.2⟩
   show _=(bB hH (aZ bJ s).2.1 []).length+1
   rw [A9 o1,db,← o2]
   simp
  ·have e2:jp (aZ bJ s).2.1 (fi (gt (aE s) 0))=([],0,false):=if_neg h2
   rw [e2] at h;cases h
 ·have e:az s=([],0,false):=if_neg h1
  rw [e] at h;cases h

def xE (s:ByteArray) (x:ByteArray×Bool×Int):ByteArray:=if x.2.1=true then (s++x.1)++(CC #[10]) else ((((s++x.1)++(CC #[32,61,32]))++bw x.2.2)++(CC #[10]))

theorem ve {l:List (ByteArray×Bool×Int)} (h:kr l):∃ r,gF l=some r∧r.size≤400:=by
 have hl:=h.1
 have e:=nB l (cp l) xE (fun i s=>s.size≤30*i) ?_ ?_ FU (by rw [FU_eq];omega) ByteArray.empty (by decide)
 ·exact ⟨_,by rw [gF,e.1,ac],by have:=e.2;omega⟩
 ·intro n s
  rw [cp,ah (by omega)]
 ·intro n i s hi hm hI
  obtain ⟨h1,h2⟩:=h.2 _ hm
  have hz:=iM (n:=(gt l (i:Int)).2.2) ⟨by omega,by omega⟩
  have e3:(CC #[32,61,32]).size=3:=rfl
  have e1:(CC #[10]).size=1:=rfl
  rw [cp,aj (by omega),ak (by omega),ak (by omega),ci (by omega)]
  cases hb:(gt l (i:Int)).2.1 with
  | true =>
   have e:xE s (gt l (i:Int))=(s++(gt l (i:Int)).1)++(CC #[10]):=if_pos hb
   rw [e]
   refine ⟨?_,?_⟩
   ·simp only [ByteArray.size_append];omega
   ·rw [Bool.not_true,cond_false,ak (by rw [ByteArray.size_append];omega)]
  | false =>
   have e:xE s (gt l (i:Int))=((((s++(gt l (i:Int)).1)++(CC #[32,61,32]))++bw (gt l (i:Int)).2.2)++(CC #[10])):=if_neg (by rw [hb];simp)
   rw [e]
   refine ⟨?_,?_⟩
   ·simp only [ByteArray.size_append];omega
   ·rw [Bool.not_false,cond_true,ak (by rw [ByteArray.size_append];omega),yC ⟨by omega,by omega⟩,ac,
     ak (by rw [ByteArray.size_append,ByteArray.size_append];omega),bM,ak (by rw [ByteArray.size_append,ByteArray.size_append,ByteArray.size_append];omega)]

theorem wq {code:List Int} (hc:fW code) (hl:code.length≤9223372036854775807) {p:Int} (hp:0≤p∧p<600000) :
  ∃ r,hY code p=some r∧r.1.size≤500∧p≤r.2∧r.2≤p+101:=by
 obtain ⟨y,ey,ly,uy⟩:=pick (n:=4) hc hl (p:=p) ⟨by omega,by omega⟩
 have uy:=uy (by omega)
 obtain ⟨f,ef,f1,f2,f3⟩:=AT hc hl 4095 (p:=p+1) ⟨by omega,by omega⟩
 obtain ⟨t,et,ht⟩:=ve f1
 have e4:boundWords.length=4:=rfl
 have hm:gt boundWords y∈boundWords:=eD (by omega)
 have hw:=words_small _ hm
 have e5:(CC #[102,108,97,103,32]).size=5:=rfl
 have e1:(CC #[10]).size=1:=rfl
 rw [hY,eU,ac,ey,ac,show ([(CC #[115,116,114,105,99,116]),(CC #[102,105,116]),(CC #[101,106,101,99,116]),(CC #[107,101,101,112])]:List ByteArray)=boundWords from rfl,
  ak (by omega),bM,ak (by omega),ak (by rw [ByteArray.size_append];omega),bM,w64 (by omega) (by omega),ef,ac,et,ac,ak (by rw [ByteArray.size_append,ByteArray.size_append];omega)]
 exact ⟨_,rfl,by simp only [ByteArray.size_append];omega,by simp only;omega,by simp only;omega⟩

theorem sc {k:Nat}:∀ {l:List (ByteArray×Int)},(∀ d∈l,d.2.toNat<2 ^ k)→aO l<2 ^ k
 | [],_=>Nat.two_pow_pos k
 | d::l,h=>by
  rw [oK]
  exact Nat.or_lt_two_pow (h d (by simp)) (sc (fun e he=>h e (by simp [he])))

theorem yd {l:List (ByteArray×Int)} {d:ByteArray×Int} (h:d∈l):d.2.toNat≤aO l :=
 rO (iL.2 fun i hi=>by rw [iX];exact List.any_eq_true.2 ⟨d,h,hi⟩)

theorem AU (l:List (ByteArray×Int)):aX (aO l)=aX (greatest l 0).toNat:=by
 refine Nat.le_antisymm (jF (sc fun d hd=>?_)) ?_
 ·have h1:=rL 0 d hd
  have h2:=ka (greatest l 0).toNat
  have h3:d.2.toNat≤(greatest l 0).toNat:=by omega
  exact Nat.lt_of_le_of_lt h3 h2
 ·by_cases h:l=[]
  ·subst h;exact Nat.le_refl _
  ·obtain ⟨d,hd,e⟩:=kV h 0
   rw [e];exact vH (yd hd)

def nh (f:List (ByteArray×Int)):Nat:=2 ^ aX (aO f) - 1

theorem sM {f:List (ByteArray×Int)} (hv:V12 f):1≤2 ^ aX (aO f)∧2 ^ aX (aO f)≤4096∧aX (aO f)≤12:=by
 have hb:=jF (k:=12) (eL hv)
 exact ⟨Nat.one_le_two_pow,(Nat.pow_le_pow_right (by omega) hb:2 ^ aX (aO f)≤2 ^ 12),hb⟩

theorem sI {f:List (ByteArray×Int)} (hv:V12 f):nh f<4096:=by
 have:=sM hv
 rw [nh];omega

theorem Au {f:List (ByteArray×Int)} (hv:V12 f) (hl:f.length≤1099511627776) (b:Int):gQ f b=some ((nh f:Nat):Int):=by
 have hm:=eL hv
 obtain ⟨h1,h2,hb⟩:=sM hv
 have e:CB .u64 ((aO f:Nat):Int)=((aO f:Nat):Int):=by rw [IntKind.wrap_u64];omega
 have e2:(1:Int)*2 ^ (((aX (aO f):Nat):Int)).toNat=((2 ^ aX (aO f):Nat):Int):=by rw [Int.toNat_natCast];simp
 rw [gQ,ku b hv hl,ac,e,tj (by omega),ac,ak ⟨by omega,by simp [IntKind.bits];omega⟩,bM,e2,nh]
 generalize 2 ^ aX (aO f)=q at *
 rw [w64 (a:=(q:Int)) (by omega) (by omega),w64 (by omega) (by omega)]
 congr 1;omega

theorem vG {f:List (ByteArray×Int)} (hv:V12 f) (hl:f.length≤1099511627776):jg f=some ((nh f:Nat):Int):=by
 obtain ⟨h1,h2,hb⟩:=sM hv
 rw [jg,pZ hl (fun d hd=>by have:=hv d hd;omega),ac,← AU,nh]
 generalize 2 ^ aX (aO f)=q at *
 rw [w64 (by omega) (by omega)]
 congr 1;omega

def iV (f:List (ByteArray×Int)) (b:Int):Nat:=if b=3 then nh f else aO f

theorem qM {f:List (ByteArray×Int)} (hv:V12 f) (b:Int):iV f b<4096:=by
 rw [iV];split
 ·exact sI hv
 ·exact eL hv

theorem tW {f:List (ByteArray×Int)} (hv:V12 f) (hl:f.length≤1099511627776) (b:Int):eW f b=some ((iV f b:Nat):Int):=by
 rw [eW,iV]
 by_cases hb:b=3
 ·rw [aj hb,Au hv hl,ac,if_pos hb]
 ·rw [ah hb,ku b hv hl,ac,if_neg hb]

theorem aT.whole {f:List (ByteArray×Int)} {b:Int} (hf:bF f b) (x:Nat):aT f b ((aL (iV f b) x:Nat):Int):=by
 have h1:=qM hf.v12 b
 have h2:=jw (iV f b) x
 refine ⟨hf,by omega,?_⟩
 rw [Int.toNat_natCast]
 by_cases hb:b=3
 ·exact .inl hb
 ·right
  rw [iV,if_neg hb,iL]
  intro i hi
  rw [dE] at hi
  simp at hi;exact hi.1

def oJ (f:List (ByteArray×Int)) (b x:Int):Int:=if aT f b x then ((aL (iV f b) x.toNat:Nat):Int) else -1

theorem sD {f:List (ByteArray×Int)} (h:cB f) (b a:Int):du f b a=some (oJ f b a):=by
 rw [du,dS h,ac,oJ]
 by_cases hv:aT f b a
 ·have hm:=qM hv.1.v12 b
  have ha:=hv.2.1
  have e:=jv (a:=iV f b) (b:=a.toNat) (by omega) (by omega)
  rw [aS ha.1] at e
  rw [decide_eq_true hv,Bool.not_true,cond_false,tW hv.1.v12 h.1,ac,if_pos hv,e]
 ·rw [decide_eq_false hv,Bool.not_false,cond_true,if_neg hv]

theorem sT {f:List (ByteArray×Int)} (h:cB f) (b a:Int):fM f b a=some (oJ f b a):=by
 rw [fM,lb h,ac,oJ]
 by_cases hv:aT f b a
 ·have ha:=hv.2.1
  rw [decide_eq_true hv,Bool.not_true,cond_false,if_pos hv,iV]
  by_cases hb:b=3
  ·have e:=fL (a:=nh f) (b:=a.toNat) (sI hv.1.v12) (by omega)
   rw [aS ha.1] at e
   rw [aj hb,vG hv.1.v12 h.1,ac,e,ac,if_pos hb]
  ·have e:=fL (a:=aO f) (b:=a.toNat) (eL hv.1.v12) (by omega)
   rw [aS ha.1] at e
   rw [ah hb,ju hv.1.v12 h.1,ac,e,ac,if_neg hb]
 ·rw [decide_eq_false hv,Bool.not_false,cond_true,if_neg hv]

def gi (f:List (ByteArray×Int)) (b n:Int):Int×Int :=
 if n<0 then (((aL (iV f b) (0 - n - 1).toNat:Nat):Int),0)
 else if aL n.toNat (aO f)=0∨b=3 then (n,0)
 else if b=1 then (((n.toNat&&&aO f:Nat):Int),0)
 else if b=2 then (n,1) else (0,2)

theorem vq {f:List (ByteArray×Int)} (h:cB f) {b n:Int} (hf:bF f b) (hn : -4096≤n∧n≤4095):gC f b n=some (gi f b n):=by
 have hm:=eL hf.v12
 rw [gC,jL h,ac,decide_eq_true hf,Bool.not_true,cond_false,lr,ac,decide_eq_true hn,Bool.not_true,cond_false,gi]
 by_cases h0:n<0
 ·obtain ⟨k,hk⟩:∃ k:Nat,(0:Int) - n - 1=(k:Int):=⟨(0 - n - 1).toNat,by omega⟩
  have hw:=qM hf.v12 b
  rw [aj h0,if_pos h0,tW hf.v12 h.1,ac,bM,w64 (a:=0 - n) (by omega) (by omega),w64 (a:=0 - n - 1) (by omega) (by omega),hk,jv (by omega) (by omega),Int.toNat_natCast]
 ·have h2:=mT (a:=n) (m:=aO f) ⟨by omega,by omega⟩ hm
  rw [ah h0,if_neg h0,ku b hf.v12 h.1,ac]
  by_cases h1:aL n.toNat (aO f)=0
  ·rw [aj (h2.2 ⟨by omega,h1⟩),if_pos (.inl h1)]
  ·rw [ah (fun h=>h1 (h2.1 h).2)]
   by_cases hb3:b=3
   ·rw [aj hb3,if_pos (.inr hb3)]
   ·rw [ah hb3,if_neg (by rintro (h | h);exact h1 h;exact hb3 h)]
    by_cases hb1:b=1
    ·have e:=wW (a:=n.toNat) (b:=aO f) (by omega) (by omega)
     rw [aS (by omega)] at e
     rw [aj hb1,if_pos hb1,ac,e]
    ·rw [ah hb1,if_neg hb1]
     by_cases hb2:b=2
     ·rw [aj hb2,if_pos hb2]
     ·rw [ah hb2,if_neg hb2]

theorem AS {f:List (ByteArray×Int)} (h:cB f) {b n:Int} (hf:bF f b) (hn : -4096≤n∧n≤4095):jX f b n=some (gi f b n):=by
 have hm:=eL hf.v12
 have hb:=hf.2
 rw [jX,gi]
 by_cases h0:n<0
 ·obtain ⟨k,hk⟩:∃ k:Nat,(0:Int) - n - 1=(k:Int):=⟨(0 - n - 1).toNat,by omega⟩
  rw [aj h0,if_pos h0,w64 (a:=0 - n) (by omega) (by omega),w64 (a:=0 - n - 1) (by omega) (by omega),hk,Int.toNat_natCast,iV]
  by_cases hb3:b=3
  ·rw [aj hb3,if_pos hb3,vG hf.v12 h.1,ac,fL (sI hf.v12) (by omega),ac]
  ·rw [ah hb3,if_neg hb3,ju hf.v12 h.1,ac,fL hm (by omega),ac]
 ·have e:=fL (a:=n.toNat) (b:=aO f) (by omega) hm
  rw [aS (by omega)] at e
  rw [ah h0,if_neg h0,ju hf.v12 h.1,ac,e,ac]
  by_cases h1:aL n.toNat (aO f)=0
  ·rw [aj (by omega),if_pos (.inl h1)]
  ·rw [ah (by omega)]
   by_cases hb0:b=0
   ·rw [aj hb0,if_neg (by rintro (h | h);exact h1 h;omega),if_neg (by omega),if_neg (by omega)]
   ·rw [ah hb0]
    by_cases hb1:b=1
    ·have e2:=lQ (a:=n.toNat) (b:=aO f) (by omega) hm
     rw [aS (by omega)] at e2
     rw [aj hb1,if_neg (by rintro (h | h);exact h1 h;omega),if_pos hb1,ac,e2,ac]
    ·rw [ah hb1]
     by_cases hb2:b=2
     ·rw [aj hb2,if_neg (by rintro (h | h);exact h1 h;omega),if_neg hb1,if_pos hb2]
     ·rw [ah hb2,if_pos (.inr (by omega))]

theorem tf {f:List (ByteArray×Int)} {b n:Int} (hf:bF f b) (hn : -4096≤n∧n≤4095):((gi f b n).2=0→aT f b (gi f b n).1)∧(0≤(gi f b n).1∧(gi f b n).1≤4095):=by
 rw [gi]
 by_cases h0:n<0
 ·rw [if_pos h0]
  have h1:=aT.whole hf (0 - n - 1).toNat
  exact ⟨fun _=>h1,h1.2.1⟩
 ·rw [if_neg h0]
  by_cases h1:aL n.toNat (aO f)=0∨b=3
  ·rw [if_pos h1]
   exact ⟨fun _=>⟨hf,⟨by simp only;omega,by simp only;omega⟩,h1.symm⟩,by simp only;omega⟩
  ·rw [if_neg h1]
   by_cases hb1:b=1
   ·rw [if_pos hb1]
    have h2:aL (n.toNat&&&aO f) (((aO f:Nat):Int)).toNat=0:=by
     rw [Int.toNat_natCast,iL]
     intro i hi
     rw [Nat.testBit_and] at hi
     simp at hi;exact hi.2
    have h3:=aT.sub (aT.mask hf) h2
    exact ⟨fun _=>h3,h3.2.1⟩
   ·rw [if_neg hb1]
    by_cases hb2:b=2
    ·rw [if_pos hb2]
     exact ⟨fun h=>by simp at h,by simp only;omega⟩
    ·rw [if_neg hb2]
     exact ⟨fun h=>by simp at h,by simp⟩

def numberB:ByteArray:=CC #[110,117,109,98,101,114,32]

def wrongB:ByteArray:=CC #[119,114,111,110,103]

def whatB:ByteArray:=CC #[119,104,97,116]

def kG (f:List (ByteArray×Int)) (b n:Int):ByteArray :=
 if (gi f b n).2=0 then cg f b (gi f b n).1 else if (gi f b n).2=1 then numberB++bw (gi f b n).1 else wrongB

theorem wv {f:List (ByteArray×Int)} (h:cB f) {b n:Int} (hf:bF f b) (hn : -4096≤n∧n≤4095):hJ f b n=some (kG f b n):=by
 obtain ⟨h1,h2⟩:=tf hf hn
 rw [hJ,AS h hf hn,ac,kG]
 by_cases h3:(gi f b n).2=0
 ·have hv:=h1 h3
  rw [aj h3,ut hf hv.2.1,ac,if_pos h3,cg,if_pos hv]
 ·rw [ah h3,if_neg h3]
  by_cases h4:(gi f b n).2=1
  ·have hz:=iM (n:=(gi f b n).1) ⟨by omega,by omega⟩
   have e7:(CC #[110,117,109,98,101,114,32]).size=7:=rfl
   rw [aj h4,jl h2.1 (by omega),ac,ak (by omega),if_pos h4]
   rfl
  ·rw [ah h4,if_neg h4]
   rfl

def lJ (f:List (ByteArray×Int)) (b:Int) (w:ByteArray):ByteArray :=
 if (dA w).2=true ∧ -4096≤(dA w).1∧(dA w).1≤4095 then kG f b (dA w).1 else whatB

theorem BK (w:ByteArray):((da w).2=true∧(-4096≤(da w).1∧(da w).1≤4095)∧(dA w).2=true∧(dA w).1=(da w).1) ∨
  (¬ ((da w).2=true ∧ -4096≤(da w).1∧(da w).1≤4095)∧¬ ((dA w).2=true ∧ -4096≤(dA w).1∧(dA w).1≤4095)):=by
 by_cases h1:(da w).2=true ∧ -4096≤(da w).1∧(da w).1≤4095
 ·left
  obtain ⟨e,_⟩:=qV h1.1
  have hs:=vY (v:=(da w).1) ⟨by omega,by omega⟩
  rw [← e] at hs
  exact ⟨h1.1,h1.2,by rw [hs],by rw [hs]⟩
 ·right
  refine ⟨h1,fun h2=>h1 ?_⟩
  obtain ⟨e,_⟩:=uJ h2.1
  have hd:=lR (n:=(dA w).1) ⟨by omega,by omega⟩
  rw [← e] at hd
  exact ⟨by rw [hd],by rw [hd];exact h2.2⟩

theorem wJ {f:List (ByteArray×Int)} (h:cB f) {b:Int} (hf:bF f b) {w:ByteArray} (hw:w.size≤100000000):hZ f b w=some (lJ f b w):=by
 rw [hZ,mK (by omega),ac,lJ]
 rcases BK w with ⟨h1,h2,h3,h4⟩ | ⟨h1,h2⟩
 ·obtain ⟨g1,g2⟩:=tf hf h2
  rw [h1,Bool.not_true,cond_false,lr,ac,decide_eq_true h2,Bool.not_true,cond_false,vq h hf h2,ac,h4,if_pos ⟨h3,h2⟩,kG]
  by_cases h5:(gi f b (da w).1).2=0
  ·rw [aj h5,gu h,ac,if_pos h5]
  ·rw [ah h5,if_neg h5]
   by_cases h6:(gi f b (da w).1).2=1
   ·have hz:=iM (n:=(gi f b (da w).1).1) ⟨by omega,by omega⟩
    have e7:(CC #[110,117,109,98,101,114,32]).size=7:=rfl
    rw [aj h6,qQ ⟨by omega,by omega⟩,ac,ak (by omega),if_pos h6]
    rfl
   ·rw [ah h6,if_neg h6]
    rfl
 ·rw [if_neg h2]
  cases h3:(da w).2 with
  | false=>rw [Bool.not_false,cond_true];rfl
  | true =>
   rw [Bool.not_true,cond_false,lr,ac,decide_eq_false (fun h4=>h1 ⟨h3,h4⟩),Bool.not_false,cond_true];rfl

def dc (f:List (ByteArray×Int)) (b:Int):List ByteArray→Option (List Int)
 | []=>some []
 | w::r=>if (bj f b w).2=true then (dc f b r).map ((bj f b w).1::·) else none

theorem lT {f:List (ByteArray×Int)} {b:Int}:∀ {l:List ByteArray} {r:List Int},dc f b l=some r→r.length=l.length
 | [],r,h=>by rw [dc] at h;cases h;rfl
 | w::l,r,h=>by
  rw [dc] at h
  by_cases hv:(bj f b w).2=true
  ·rw [if_pos hv] at h
   obtain ⟨q,hq,rfl⟩:=Option.map_eq_some_iff.1 h
   rw [List.length_cons,List.length_cons,lT hq]
  ·rw [if_neg hv] at h;cases h

theorem oR {f:List (ByteArray×Int)} {b:Int} {s:ByteArray} (h:(bj f b s).2=true):aT f b (bj f b s).1:=by
 rw [bj] at *
 split
 ·rename_i hf
  rw [if_pos hf] at h
  split
  ·rename_i e;rw [e] at h;cases h
  ·rename_i x e
   rw [e] at h
   split
   ·rename_i hv;exact hv
   ·rename_i hv
    simp only at h
    rw [if_neg hv] at h;cases h
 ·rename_i hf;rw [if_neg hf] at h;cases h

theorem BV {f:List (ByteArray×Int)} (h:cB f) (b:Int) (W:List ByteArray) (hl:W.length≤1000000000) (hw:∀ w∈W,w.size≤100000000):∀ (k i n:Nat) (acc:List Int),i+k=W.length - 1→k<n→acc.length=i→1≤W.length →
  bU f b W n acc (i:Int)=some (match dc f b (W.drop (i+1)) with | none=>.inl () | some r=>.inr (acc++r)):=by
 have e:((((W.length:Nat):Int).toNat - (1:Int).toNat:Nat):Int)=((W.length - 1:Nat):Int):=by rw [Int.toNat_natCast];rfl
 intro k
 induction k with
 | zero =>
  intro i n acc hk hn ha h1
  cases n with
  | zero=>omega
  | succ n =>
   rw [bU,bM,e,ah (by omega),List.drop_eq_nil_of_le (by omega),dc]
   simp
 | succ k ih =>
  intro i n acc hk hn ha h1
  cases n with
  | zero=>omega
  | succ n =>
   have hi:i+1<W.length:=by omega
   have e2:(((1:Int).toNat+((i:Nat):Int).toNat:Nat):Int)=((i+1:Nat):Int):=by
    have:(1:Int).toNat=1:=rfl
    rw [Int.toNat_natCast,this];omega
   have hs:=hw _ (List.getElem_mem hi)
   rw [bU,bM,e,aj (by omega),ak ⟨by omega,by omega⟩,e2,cy hi,vp h b hs,ac,List.drop_eq_getElem_cons hi,dc,ci (by omega)]
   cases hv:(bj f b W[i+1]).2 with
   | false=>rw [Bool.not_false,cond_true,if_neg (by simp)]
   | true =>
    rw [Bool.not_true,cond_false,ak (by simp;omega),if_pos rfl,ih (i+1) n _ (by omega) (by omega) (by simp [ha]) h1]
    cases dc f b (W.drop (i+1+1)) <;> simp

theorem un (f:List (ByteArray×Int)) (b:Int) (W:List ByteArray):∀ (n:Nat) (acc:List Int) (i:Int),dy f b W n acc i=bU f b W n acc i
 | 0,_,_=>rfl
 | n+1,acc,i=>by
  rw [dy,bU]
  simp only [un f b W n]

def orC (f:List (ByteArray×Int)) (b a c:Int):Int:=if aT f b a∧aT f b c then ((a.toNat|||c.toNat:Nat):Int) else -1

def zo (f:List (ByteArray×Int)) (b a c:Int):Int:=if aT f b a∧aT f b c then ((a.toNat&&&c.toNat:Nat):Int) else -1

def wQ (f:List (ByteArray×Int)) (b a c:Int):Int:=if aT f b a∧aT f b c then ((aL a.toNat c.toNat:Nat):Int) else -1

def jZ (f:List (ByteArray×Int)) (b:Int) (w:ByteArray) (vs:List Int):ByteArray :=
 if w=(CC #[118,97,108,117,101]) then (if vs.length=1 then bw (gt vs 0) else whatB)
 else if w=(CC #[115,104,111,119]) then (if vs.length=1 then cg f b (gt vs 0) else whatB)
 else if w=(CC #[115,104,111,114,116]) then (if vs.length=1 then eK f b (gt vs 0) else whatB)
 else if w=(CC #[110,111,116]) then (if vs.length=1 then cg f b (oJ f b (gt vs 0)) else whatB)
 else if w=(CC #[111,114]) then (if vs.length=2 then cg f b (orC f b (gt vs 0) (gt vs 1)) else whatB)
 else if w=(CC #[97,110,100]) then (if vs.length=2 then cg f b (zo f b (gt vs 0) (gt vs 1)) else whatB)
 else if w=(CC #[108,101,115,115]) then (if vs.length=2 then cg f b (wQ f b (gt vs 0) (gt vs 1)) else whatB)
 else whatB

def makeB:ByteArray:=CC #[109,97,107,101]

def kp (f:List (ByteArray×Int)) (b:Int) (W:List ByteArray):ByteArray :=
 if gt W 0=makeB then (if W.length=2 then lJ f b (gt W 1) else whatB)
 else match dc f b W.tail with
  | none=>whatB
  | some vs=>jZ f b (gt W 0) vs

def fe (f:List (ByteArray×Int)) (b:Int) (line:ByteArray):ByteArray:=kp f b (aI line 32)

theorem wt {f:List (ByteArray×Int)} (h:cB f) {b:Int} (hf:bF f b) {s:ByteArray} (hs:s.size≤100000000):fU f b s=some (fe f b s):=by
 have hwl:=gX s 32
 have hws:=im s 32
 have hne:aI s 32≠[]:=by rw [aI];simpa using eZ _ _
 rw [fU,show (CC #[32])=bl [32] from rfl,lU (by omega),ac,fe]
 show gd _ _=_
 rw [show ((aU 32 s.data.toList).map bl)=aI s 32 from rfl]
 generalize aI s 32=W at *
 have hlen:=List.length_pos_iff.2 hne
 have el:bU f b W FU [] 0=some (match dc f b W.tail with | none=>.inl () | some r=>.inr r):=by
  have e:=BV h b W (by omega) (fun w hw=>by have:=hws w hw;omega) (W.length - 1) 0 FU [] (by omega) (by rw [FU_eq];omega) rfl (by omega)
  rw [List.drop_one] at e
  simpa using e
 rw [ak ⟨by omega,by omega⟩,bM,kp]
 by_cases hm:gt W 0=makeB
 ·rw [aj (show gt W (0:Int)=(CC #[109,97,107,101]) from hm),if_pos hm]
  by_cases h2:W.length=2
  ·have hz:=hws _ (eD (l:=W) (q:=1) (by omega))
   rw [aj (by omega),ak ⟨by omega,by omega⟩,wJ h hf (by omega),ac,if_pos h2]
  ·rw [ah (by omega),ak ⟨by omega,by omega,by omega,by omega⟩,un,el,ac,if_neg h2]
   cases dc f b W.tail <;> rfl
 ·rw [ah (show ¬ gt W (0:Int)=(CC #[109,97,107,101]) from hm),if_neg hm,ak ⟨by omega,by omega,by omega,by omega⟩,el,ac]
  cases hr:dc f b W.tail with
  | none=>rfl
  | some vs =>
   have hvl:=lT hr
   have h64:∀ x∈vs,0≤x∧x≤4095:=by
    have key:∀ (l:List ByteArray) (r:List Int),dc f b l=some r→∀ x∈r,0≤x∧x≤4095:=by
     intro l
     induction l with
     | nil=>intro r h;rw [dc] at h;cases h;simp
     | cons w l ih =>
      intro r h x hx
      rw [dc] at h
      by_cases hv:(bj f b w).2=true
      ·rw [if_pos hv] at h
       obtain ⟨q,hq,rfl⟩:=Option.map_eq_some_iff.1 h
       rcases List.mem_cons.1 hx with rfl | hx
       ·exact (oR hv).2.1
       ·exact ih q hq x hx
      ·rw [if_neg hv] at h;cases h
    exact key _ _ hr
   simp only [sm]
   rw [bM,jZ]
   have one:∀ (X:Int→Option ByteArray) (Y:Int→ByteArray),(vs.length=1→X (gt vs 0)=some (Y (gt vs 0))) →
     (bif decide ((vs.length:Int)=1) then gd (0≤(0:Int)∧(0:Int)<(vs.length:Int)) <| X (gt vs (0:Int)) else some (CC #[119,104,97,116]))=some (if vs.length=1 then Y (gt vs 0) else whatB):=by
    intro X Y hX
    by_cases h1:vs.length=1
    ·rw [aj (by omega),ak ⟨by omega,by omega⟩,hX h1,if_pos h1]
    ·rw [ah (by omega),if_neg h1];rfl
   have two:∀ (X:Int→Int→Option ByteArray) (Y:Int→Int→ByteArray),(∀ x y,X x y=some (Y x y)) →
     (bif decide ((vs.length:Int)=2) then gd (0≤(0:Int)∧(0:Int)<(vs.length:Int)) <| gd (0≤(1:Int)∧(1:Int)<(vs.length:Int)) <| X (gt vs (0:Int)) (gt vs (1:Int)) else some (CC #[119,104,97,116]))=some (if vs.length=2 then Y (gt vs 0) (gt vs 1) else whatB):=by
    intro X Y hX
    by_cases h1:vs.length=2
    ·rw [aj (by omega),ak ⟨by omega,by omega⟩,ak ⟨by omega,by omega⟩,hX,if_pos h1]
    ·rw [ah (by omega),if_neg h1];rfl
   by_cases c1:gt W (0:Int)=(CC #[118,97,108,117,101])
   ·rw [aj c1,if_pos c1]
    refine one (fun x=>bd (df x) fun y=>some y) bw (fun h1=>?_)
    have h2:=h64 _ (eD (l:=vs) (q:=0) (by omega))
    show bd (df (gt vs 0)) _=_
    rw [qQ ⟨by omega,by omega⟩,ac]
   rw [ah c1,if_neg c1,bM]
   by_cases c2:gt W (0:Int)=(CC #[115,104,111,119])
   ·rw [aj c2,if_pos c2]
    exact one (fun x=>bd (br f b x) fun y=>some y) (cg f b) (fun h1=>by show bd (br f b (gt vs 0)) _=_;rw [gu h,ac])
   rw [ah c2,if_neg c2,bM]
   by_cases c3:gt W (0:Int)=(CC #[115,104,111,114,116])
   ·rw [aj c3,if_pos c3]
    exact one (fun x=>bd (eh f b x) fun y=>some y) (eK f b) (fun h1=>by show bd (eh f b (gt vs 0)) _=_;rw [uO h,ac])
   rw [ah c3,if_neg c3]
   by_cases c4:gt W (0:Int)=(CC #[110,111,116])
   ·rw [aj c4,if_pos c4]
    exact one (fun x=>bd (du f b x) fun y=>bd (br f b y) fun z=>some z) (fun x=>cg f b (oJ f b x)) (fun h1=>by show bd (du f b (gt vs 0)) _=_;rw [sD h,ac,gu h,ac])
   rw [ah c4,if_neg c4]
   by_cases c5:gt W (0:Int)=(CC #[111,114])
   ·rw [aj c5,if_pos c5]
    exact two (fun x y=>bd (eQ f b x y) fun y=>bd (br f b y) fun z=>some z) (fun x y=>cg f b (orC f b x y)) (fun x y=>by show bd (eQ f b x y) _=_;rw [wB h,ac,gu h,ac];rfl)
   rw [ah c5,if_neg c5]
   by_cases c6:gt W (0:Int)=(CC #[97,110,100])
   ·rw [aj c6,if_pos c6]
    exact two (fun x y=>bd (eg f b x y) fun y=>bd (br f b y) fun z=>some z) (fun x y=>cg f b (zo f b x y)) (fun x y=>by show bd (eg f b x y) _=_;rw [vy h,ac,gu h,ac];rfl)
   rw [ah c6,if_neg c6,bM]
   by_cases c7:gt W (0:Int)=(CC #[108,101,115,115])
   ·rw [aj c7,if_pos c7]
    exact two (fun x y=>bd (dI f b x y) fun y=>bd (br f b y) fun z=>some z) (fun x y=>cg f b (wQ f b x y)) (fun x y=>by show bd (dI f b x y) _=_;rw [tN h,ac,gu h,ac];rfl)
   rw [ah c7,if_neg c7]
   rfl

theorem zz {f:List (ByteArray×Int)} {b:Int} {w:ByteArray} {v:Int}:jZ f b w [v] =
  if w=(CC #[118,97,108,117,101]) then bw v
  else if w=(CC #[115,104,111,119]) then cg f b v
  else if w=(CC #[115,104,111,114,116]) then eK f b v
  else if w=(CC #[110,111,116]) then cg f b (oJ f b v)
  else whatB:=by
 have h1:([v]:List Int).length=1:=rfl
 have h2:¬ ([v]:List Int).length=2:=by simp
 have g0:gt [v] (0:Int)=v:=rfl
 unfold jZ
 simp only [if_pos h1,if_neg h2,ite_self,g0]

theorem zG {f:List (ByteArray×Int)} {b:Int} {w:ByteArray} {v u:Int}:jZ f b w [v,u] =
  if w=(CC #[111,114]) then cg f b (orC f b v u)
  else if w=(CC #[97,110,100]) then cg f b (zo f b v u)
  else if w=(CC #[108,101,115,115]) then cg f b (wQ f b v u)
  else whatB:=by
 have h1:¬ ([v,u]:List Int).length=1:=by simp
 have h2:([v,u]:List Int).length=2:=rfl
 have g0:gt [v,u] (0:Int)=v:=rfl
 have g1:gt [v,u] (1:Int)=u:=rfl
 unfold jZ
 simp only [if_pos h2,if_neg h1,g0,g1]
 by_cases c1:w=(CC #[118,97,108,117,101])
 ·rw [if_pos c1];subst c1
  rw [if_neg (by decide),if_neg (by decide),if_neg (by decide)]
 rw [if_neg c1]
 by_cases c2:w=(CC #[115,104,111,119])
 ·rw [if_pos c2];subst c2
  rw [if_neg (by decide),if_neg (by decide),if_neg (by decide)]
 rw [if_neg c2]
 by_cases c3:w=(CC #[115,104,111,114,116])
 ·rw [if_pos c3];subst c3
  rw [if_neg (by decide),if_neg (by decide),if_neg (by decide)]
 rw [if_neg c3]
 by_cases c4:w=(CC #[110,111,116])
 ·rw [if_pos c4];subst c4
  rw [if_neg (by decide),if_neg (by decide),if_neg (by decide)]
 rw [if_neg c4]

theorem rW {f:List (ByteArray×Int)} {b:Int} {w:ByteArray} {vs:List Int} (h1:vs.length≠1) (h2:vs.length≠2):jZ f b w vs=whatB:=by
 simp only [jZ,if_neg h1,if_neg h2,ite_self]

theorem mZ {f:List (ByteArray×Int)} {b:Int} {s:ByteArray}:((bj f b s).2=true∧0≤(if (bj f b s).2=true then (bj f b s).1 else -1)∧(if (bj f b s).2=true then (bj f b s).1 else -1)=(bj f b s).1∧aT f b (bj f b s).1)∨((bj f b s).2≠true∧¬ 0≤(if (bj f b s).2=true then (bj f b s).1 else -1)):=by
 by_cases h:(bj f b s).2=true
 ·left
  have:=oR h
  rw [if_pos h]
  exact ⟨h,this.2.1.1,rfl,this⟩
 ·right
  rw [if_neg h]
  exact ⟨h,by omega⟩

theorem jV {f:List (ByteArray×Int)} {b a:Int} (hv:aT f b a):dC f b a=some (cg f b a):=by
 rw [ut hv.1 hv.2.1,cg,if_pos hv]

theorem gt0 (a:ByteArray) (r:List ByteArray):gt (a::r) (0:Int)=a:=rfl

theorem gt1 (a x:ByteArray) (r:List ByteArray):gt (a::x::r) (1:Int)=x:=rfl

theorem gt2 (a x y:ByteArray) (r:List ByteArray):gt (a::x::y::r) (2:Int)=y:=rfl

theorem yJ {f:List (ByteArray×Int)} (h:cB f) {b:Int} (hf:bF f b) {s:ByteArray} (hs:s.size≤100000000):iW f b s=some (fe f b s):=by
 have hwl:=gX s 32
 have hws:=im s 32
 have hne:aI s 32≠[]:=by rw [aI];simpa using eZ _ _
 have es:cz s 32=some (aI s 32):=kW (s:=s) (c:=32) (by omega)
 rw [iW,es,ac,fe]
 generalize aI s 32=W at *
 have hlen:=List.length_pos_iff.2 hne
 rw [w64 (a:=(W.length:Int) - 1) (by omega) (by omega),ak ⟨by omega,by omega⟩,nx (by have:=hws _ (eD (l:=W) (q:=(W.length:Int) - 1) (by omega));omega),ac]
 have k1:∀ w∈W,w.size≤100000000:=fun w hw=>by have:=hws w hw;omega
 rcases W with _ | ⟨a,_ | ⟨x,_ | ⟨y,_ | ⟨z,r⟩⟩⟩⟩
 ·exact absurd rfl hne
 ·have e1:((([a]:List ByteArray).length:Nat):Int)=1:=rfl
  rw [e1,ah (by omega),aj (by omega),kp,gt0]
  by_cases hm:a=makeB
  ·rw [if_pos hm,if_neg (by simp)];rfl
  ·rw [if_neg hm,List.tail_cons,dc]
   simp only []
   rw [rW (by simp) (by simp)];rfl
 ·have e1:((([a,x]:List ByteArray).length:Nat):Int)=2:=rfl
  have hx:=k1 x (by simp)
  rw [e1,show (2:Int) - 1=1 from rfl,aj rfl,ak (by omega),gt0,gt1,bM,kp,gt0,gt1]
  by_cases hm:a=makeB
  ·rw [aj (show a=(CC #[109,97,107,101]) from hm),if_pos hm,if_pos (by rfl),lJ]
   have rest:(bif decide ((2:Int)<2) then some (CC #[119,104,97,116]) else bif decide ((3:Int)<2) then some (CC #[119,104,97,116]) else gd (0≤(1:Int)∧(1:Int)<2) <| bd (bG f b x) fun x9=>bd (bG f b x) fun x10=>some (CC #[119,104,97,116]))=some whatB:=by
    rw [ah (by omega),ah (by omega),ak (by omega),jx h hf (by omega),ac,ac];rfl
   by_cases h1:(dA x).2=true
   ·rw [h1,cond_true,gM,ac]
    by_cases h2 : -4096≤(dA x).1∧(dA x).1≤4095
    ·rw [decide_eq_true h2,cond_true,wv h hf h2,ac,if_pos ⟨rfl,h2⟩]
    ·rw [decide_eq_false h2,cond_false,if_neg (fun h3=>h2 h3.2)]
     exact rest
   ·have h1':(dA x).2=false:=by simpa using h1
    rw [h1',cond_false,if_neg (fun h3=>by cases h3.1)]
    exact rest
  ·rw [ah (show ¬ a=(CC #[109,97,107,101]) from hm),if_neg hm,ah (by omega),ah (by omega),ak (by omega),jx h hf (by omega),ac,ac,bM,List.tail_cons,dc,dc]
   rcases mZ (f:=f) (b:=b) (s:=x) with ⟨v1,v2,v3,v4⟩ | ⟨v1,v2⟩
   ·rw [if_pos v1,if_pos v1]
    simp only [Option.map_some]
    rw [if_pos v1] at v2
    rw [zz]
    by_cases c1:a=(CC #[118,97,108,117,101])
    ·rw [aj c1,if_pos c1,aj v2,jl v2 (by have:=v4.2.1;omega),ac]
    rw [ah c1,if_neg c1,bM]
    by_cases c2:a=(CC #[115,104,111,119])
    ·rw [aj c2,if_pos c2,aj v2,jV v4,ac]
    rw [ah c2,if_neg c2,bM]
    by_cases c3:a=(CC #[115,104,111,114,116])
    ·rw [aj c3,if_pos c3,aj v2,uG h,ac]
    rw [ah c3,if_neg c3]
    by_cases c4:a=(CC #[110,111,116])
    ·have hi:aT f b (oJ f b (bj f b x).1):=by rw [oJ,if_pos v4];exact aT.whole hf _
     rw [aj c4,if_pos c4,aj v2,sT h,ac,jV hi,ac]
    rw [ah c4,if_neg c4]
    rfl
   ·rw [if_neg v1] at v2
    rw [if_neg v1,if_neg v1]
    simp only [ah v2,bM,Bool.cond_self]
    rfl
 ·have e1:((([a,x,y]:List ByteArray).length:Nat):Int)=3:=rfl
  have hx:=k1 x (by simp)
  have hy:=k1 y (by simp)
  rw [e1,show (3:Int) - 1=2 from rfl,ah (by omega),ah (by omega),ah (by omega),ak (by omega),gt1,gt2,jx h hf (by omega),ac,jx h hf (by omega),ac,aj rfl,ak (by omega),gt0,kp,gt0]
  have what:∀ (c:Bool) (X:Option ByteArray),(∀ q,X=q→c=true→q=some whatB)→(bif c then X else some (CC #[119,104,97,116]))=some whatB:=fun c X hX=>by
   cases c with
   | true=>exact hX X rfl rfl
   | false=>rfl
  by_cases hm:a=makeB
  ·rw [if_pos hm,if_neg (show ¬ ([a,x,y]:List ByteArray).length=2 by simp)]
   subst hm
   rw [ah (by decide),ah (by decide),bM,ah (by decide)];rfl
  ·rw [if_neg hm,List.tail_cons,dc,dc,dc]
   rcases mZ (f:=f) (b:=b) (s:=x) with ⟨v1,v2,v3,v4⟩ | ⟨v1,v2⟩
   ·rcases mZ (f:=f) (b:=b) (s:=y) with ⟨u1,u2,u3,u4⟩ | ⟨u1,u2⟩
    ·rw [if_pos v1] at v2
     rw [if_pos u1] at u2
     rw [if_pos v1,if_pos v1,if_pos u1,if_pos u1]
     simp only [Option.map_some]
     rw [zG]
     have hxr:=v4.2.1
     have hyr:=u4.2.1
     by_cases c5:a=(CC #[111,114])
     ·have e:=rQ (a:=(bj f b x).1.toNat) (b:=(bj f b y).1.toNat) (by omega) (by omega)
      rw [aS hxr.1,aS hyr.1] at e
      rw [aj c5,aj v2,aj u2,e,ac,jV (aT.or v4 u4),ac,orC,if_pos (show aT f b _∧aT f b _ from ⟨v4,u4⟩),if_pos c5]
     rw [ah c5,if_neg c5]
     by_cases c6:a=(CC #[97,110,100])
     ·have e:=lQ (a:=(bj f b x).1.toNat) (b:=(bj f b y).1.toNat) (by omega) (by omega)
      rw [aS hxr.1,aS hyr.1] at e
      rw [aj c6,aj v2,aj u2,e,ac,jV (aT.sub v4 (uR _ _)),ac,zo,if_pos (show aT f b _∧aT f b _ from ⟨v4,u4⟩),if_pos c6]
     rw [ah c6,if_neg c6,bM]
     by_cases c7:a=(CC #[108,101,115,115])
     ·have e:=fL (a:=(bj f b x).1.toNat) (b:=(bj f b y).1.toNat) (by omega) (by omega)
      rw [aS hxr.1,aS hyr.1] at e
      have hs:aL (aL (bj f b x).1.toNat (bj f b y).1.toNat) (bj f b x).1.toNat=0:=by
       rw [iL];intro i hi
       rw [dE] at hi
       simp at hi;exact hi.1
      rw [aj c7,aj v2,aj u2,e,ac,jV (aT.sub v4 hs),ac,wQ,if_pos (show aT f b _∧aT f b _ from ⟨v4,u4⟩),if_pos c7]
     rw [ah c7,if_neg c7]
     rfl
    ·rw [if_neg u1] at u2
     rw [if_pos v1] at v2
     rw [if_pos v1,if_pos v1,if_neg u1,if_neg u1]
     simp only [ah u2,aj v2,Option.map_none,bM,Bool.cond_self]
     rfl
   ·rw [if_neg v1] at v2
    rw [if_neg v1,if_neg v1]
    simp only [ah v2,bM,Bool.cond_self]
    rfl
 ·have e1:(3:Int)<(((a::x::y::z::r).length:Nat):Int):=by simp only [List.length_cons];omega
  rw [ah (by omega),ah (by omega),aj e1,kp,gt0]
  by_cases hm:a=makeB
  ·rw [if_pos hm,if_neg (by simp)];rfl
  ·rw [if_neg hm,List.tail_cons]
   cases hr:dc f b (x::y::z::r) with
   | none=>rfl
   | some vs =>
    have hvl:=lT hr
    simp only [List.length_cons] at hvl
    simp only []
    rw [rW (by omega) (by omega)];rfl

theorem qn {f:List (ByteArray×Int)} {b:Int}:∀ {l:List ByteArray} {r:List Int},dc f b l=some r→∀ x∈r,0≤x∧x≤4095
 | [],r,h=>by rw [dc] at h;cases h;simp
 | w::l,r,h=>by
  intro x hx
  rw [dc] at h
  by_cases hv:(bj f b w).2=true
  ·rw [if_pos hv] at h
   obtain ⟨q,hq,rfl⟩:=Option.map_eq_some_iff.1 h
   rcases List.mem_cons.1 hx with rfl | hx
   ·exact (oR hv).2.1
   ·exact qn hq x hx
  ·rw [if_neg hv] at h;cases h

structure zx (f:List (ByteArray×Int)) (b:Int) (Q:ByteArray→Prop):Prop where
 what:Q whatB
 wrong:Q wrongB
 num:∀ n:Int,0≤n∧n≤4095→Q (bw n)
 number:∀ n:Int,0≤n∧n≤4095→Q (numberB++bw n)
 shown:∀ a,Q (cg f b a)
 short:∀ a,Q (eK f b a)

theorem xg {f:List (ByteArray×Int)} {b n:Int} {Q:ByteArray→Prop} (h:zx f b Q) (hf:bF f b) (hn : -4096≤n∧n≤4095):Q (kG f b n):=by
 obtain ⟨h1,h2⟩:=tf hf hn
 rw [kG]
 split
 ·exact h.shown _
 ·split
  ·exact h.number _ h2
  ·exact h.wrong

theorem Ag {f:List (ByteArray×Int)} {b:Int} {Q:ByteArray→Prop} (h:zx f b Q) (w:ByteArray) {vs:List Int} (hv:∀ x∈vs,0≤x∧x≤4095):Q (jZ f b w vs):=by
 have one:∀ x:ByteArray,(vs.length=1→Q x)→Q (if vs.length=1 then x else whatB):=fun x hx=>by
  by_cases h1:vs.length=1
  ·rw [if_pos h1];exact hx h1
  ·rw [if_neg h1];exact h.what
 have two:∀ x:ByteArray,Q x→Q (if vs.length=2 then x else whatB):=fun x hx=>by
  by_cases h1:vs.length=2
  ·rw [if_pos h1];exact hx
  ·rw [if_neg h1];exact h.what
 rw [jZ]
 split
 ·exact one _ (fun h1=>h.num _ (hv _ (eD (by omega))))
 split
 ·exact one _ (fun _=>h.shown _)
 split
 ·exact one _ (fun _=>h.short _)
 split
 ·exact one _ (fun _=>h.shown _)
 split
 ·exact two _ (h.shown _)
 split
 ·exact two _ (h.shown _)
 split
 ·exact two _ (h.shown _)
 exact h.what

theorem xR {f:List (ByteArray×Int)} {b:Int} {Q:ByteArray→Prop} (h:zx f b Q) (hf:bF f b) (s:ByteArray):Q (fe f b s):=by
 rw [fe,kp]
 split
 ·split
  ·rw [lJ]
   split
   ·rename_i h1;exact xg h hf h1.2
   ·exact h.what
  ·exact h.what
 ·split
  ·exact h.what
  ·rename_i vs e;exact Ag h _ (qn e)

theorem pR {f:List (ByteArray×Int)} {b:Int} (hf:bF f b) (s:ByteArray):(fe f b s).size≤1000000:=by
 have e4:whatB.size=4:=rfl
 have e5:wrongB.size=5:=rfl
 have e7:numberB.size=7:=rfl
 refine xR (Q:=fun a=>a.size≤1000000) ⟨by omega,by omega,fun n hn=>?_,fun n hn=>?_,fun a=>xN f b a,fun a=>vC f b a⟩ hf s
 ·have:=iM (n:=n) ⟨by omega,by omega⟩
  omega
 ·have:=iM (n:=n) ⟨by omega,by omega⟩
  rw [ByteArray.size_append];omega

theorem BT {c:UInt8} {sep:List UInt8} (hs:c ∉ sep) {l:List (List UInt8)} (h:∀ p∈l,c ∉ p):c ∉ Lib.join l sep:=by
 cases l with
 | nil=>simp [Lib.join]
 | cons x r =>
  rw [Lib.join_cons,Lib.joinTail]
  intro hm
  rcases List.mem_append.1 hm with hx | hx
  ·exact h x (by simp) hx
  ·obtain ⟨q,hq,hcq⟩:=List.mem_flatten.1 hx
   obtain ⟨p,hp,rfl⟩:=List.mem_map.1 hq
   rcases List.mem_append.1 hcq with hq | hq
   ·exact hs hq
   ·exact h p (by simp [hp]) hq

theorem yY {f:List (ByteArray×Int)} {b:Int} (hf:bF f b) {list:List ByteArray} (hl:∀ s∈list,eO s) (rest:Int):(10:UInt8) ∉ (kM f list rest).data.toList:=by
 have nm:∀ s:ByteArray,eO s→(10:UInt8) ∉ s.data.toList:=fun s hs=>se hs (c:=10) (.inl (by decide))
 rw [kM]
 split
 ·rw [qW]
  have hr:=kS f 0
  split
  ·rw [bK];decide
  ·have hm:gt f (dU f 0)∈f:=eD ⟨by omega,hr.2⟩
   exact nm _ (hf.1.out.1 _ hm).1
 ·rw [kO,bK]
  refine BT (by decide) (fun p hp=>?_)
  obtain ⟨q,hq,rfl⟩:=List.mem_map.1 hp
  rw [gx] at hq
  split at hq
  ·exact nm q (hl q hq)
  ·rcases List.mem_append.1 hq with hq | hq
   ·exact nm q (hl q hq)
   ·rw [List.mem_singleton] at hq
    subst hq
    rw [bw,bK]
    exact uY (by decide)

theorem BD {f:List (ByteArray×Int)} {b:Int} (hf:bF f b) (s:ByteArray):(10:UInt8) ∉ (fe f b s).data.toList:=by
 have ne:(10:UInt8) ∉ (ByteArray.empty).data.toList:=by decide
 refine xR (Q:=fun a=>(10:UInt8) ∉ a.data.toList) ⟨by decide,by decide,fun n hn=>?_,fun n hn=>?_,fun a=>?_,fun a=>?_⟩ hf s
 ·rw [bw,bK];exact uY (by decide)
 ·rw [ja,bK]
  intro hm
  rcases List.mem_append.1 hm with hm | hm
  ·exact absurd hm (by decide)
  ·rw [bw,bK] at hm;exact uY (by decide) hm
 ·rw [cg]
  split
  ·refine yY hf (fun s hs=>?_) _
   obtain ⟨d,hd,rfl⟩:=List.mem_map.1 hs
   exact (hf.1.out.1 d (lH hd)).1
  ·exact ne
 ·rw [eK]
  split
  ·refine yY hf (fun s hs=>?_) _
   obtain ⟨d,hd,rfl⟩:=List.mem_map.1 hs
   exact (hf.1.out.1 d (gZ hd)).1
  ·exact ne

def di (ok:Bool) (g:ByteArray→ByteArray) (xs:List ByteArray):List UInt8:=xs.flatMap fun x=>eV ok (g x)

theorem kL (ok:Bool) (g:ByteArray→ByteArray) (x:ByteArray) (r:List ByteArray):di ok g (x::r)=eV ok (g x)++di ok g r:=by
 rw [di,List.flatMap_cons];rfl

theorem tD {F:ByteArray→Option ByteArray} {g:ByteArray→ByteArray} (ok:Bool):∀ xs:List ByteArray,(ok=true→∀ x∈xs,F x=some (g x)∧(g x).size≤1000000000)→kq F ok xs=some (di ok g xs)
 | [],_=>rfl
 | x::r,h=>by
  have ih:=tD (F:=F) (g:=g) ok r (fun hk y hy=>h hk y (by simp [hy]))
  rw [kq,ih,kL]
  cases ok with
  | true =>
   obtain ⟨h1,h2⟩:=h rfl x (by simp)
   rw [cond_true,h1,ac,ak h2,ac,ac]
  | false=>rw [cond_false,ac,ac];rfl

def ej (s:ByteArray) (lines:List ByteArray):ByteArray :=
 if 20<lines.length then ByteArray.empty else bl (di (az s).2.2 (fe (az s).1 (az s).2.1) lines)

theorem pV {s:ByteArray} {lines:List ByteArray} (hs:s.size≤100000000) (hl:∀ x∈lines,x.size≤100000000):gv s lines=some (ej s lines):=by
 rw [gv,ej]
 by_cases h20:20<lines.length
 ·rw [aj (by omega),if_pos h20]
 ·have e:kq (fun l=>fU (az s).1 (az s).2.1 l) (az s).2.2 lines=some (di (az s).2.2 (fe (az s).1 (az s).2.1) lines):=by
   refine tD _ _ (fun hk x hx=>?_)
   have hf:=(iy hk).1
   have hd:cB (az s).1:=(eM.smallD hf.1 (by decide) (by decide)).inn
   exact ⟨wt hd hf (hl x hx),by have:=pR hf x;omega⟩
  rw [ah (by omega),if_neg h20,vf hs,ac,e,ac]
  rfl

theorem Ct (s a b:ByteArray):(s++a)++b=s++(a++b):=by
 apply ByteArray.ext
 simp

theorem qm (ok:Bool) (g:ByteArray→ByteArray):∀ (l:List ByteArray) (a:List UInt8),l.foldl (fun s x=>s++bl (eV ok (g x))) (bl a)=bl (a++di ok g l)
 | [],a=>by simp [di]
 | x::l,a=>by
  rw [List.foldl_cons,kx,qm ok g l,kL,uC]
  simp

theorem xT {s:ByteArray} {lines:List ByteArray} (hs:s.size≤100000000) (hl:∀ x∈lines,x.size≤100000000):fB s lines=some (ej s lines):=by
 rw [fB,ej]
 by_cases h20:20<lines.length
 ·rw [aj (by omega),if_pos h20]
 ·have e:=nB lines (cN lines (az s)) (fun s' x=>s'++bl (eV (az s).2.2 (fe (az s).1 (az s).2.1 x))) (fun i s'=>s'.size≤1000010*i) ?_ ?_ FU (by rw [FU_eq];omega) ByteArray.empty (by decide)
  ·rw [ah (by omega),if_neg h20,ou hs,ac,e.1,ac,empty_bl,qm,List.nil_append]
  ·intro n s'
   rw [cN,ah (by omega)]
  ·intro n i s' hi hm hI
   have e1:(CC #[10]).size=1:=rfl
   have e6:(CC #[119,114,111,110,103,10]).size=6:=rfl
   rw [cN,aj (by omega),ci (by omega)]
   cases hk:(az s).2.2 with
   | true =>
    have hf:=(iy hk).1
    have hd:cB (az s).1:=(eM.smallD hf.1 (by decide) (by decide)).inn
    have hz:=pR hf (gt lines (i:Int))
    refine ⟨?_,?_⟩
    ·have h3:(eV true (fe (az s).1 (az s).2.1 (gt lines (i:Int)))).length=(fe (az s).1 (az s).2.1 (gt lines (i:Int))).size+1:=by
      rw [eV,cond_true,List.length_append,← cE];rfl
     rw [ByteArray.size_append,dN,h3];omega
    ·have h4:s'++bl (eV true (fe (az s).1 (az s).2.1 (gt lines (i:Int))))=(s'++fe (az s).1 (az s).2.1 (gt lines (i:Int)))++(CC #[10]):=by
      rw [Ct,eV,cond_true,← kx,fT];rfl
     rw [cond_true,ak (by omega),yJ hd hf (hl _ hm),ac,ak (by omega),ak (by rw [ByteArray.size_append];omega),h4]
   | false =>
    refine ⟨?_,?_⟩
    ·rw [ByteArray.size_append,dN,eV,cond_false]
     simp only [List.length_cons,List.length_nil]
     omega
    ·rw [cond_false,ak (by omega)]
     rfl

theorem ye {ok:Bool} {g:ByteArray→ByteArray}:∀ {xs:List ByteArray},(ok=true→∀ x∈xs,(10:UInt8) ∉ (g x).data.toList)→nlC (di ok g xs)=xs.length
 | [],_=>rfl
 | x::r,h=>by
  have ih:=ye (ok:=ok) (g:=g) (xs:=r) (fun hk y hy=>h hk y (by simp [hy]))
  have h1:nlC (eV ok (g x))=1:=by
   cases ok with
   | true=>rw [eV,cond_true,pf,Cf (h rfl x (by simp))];rfl
   | false=>rfl
  rw [kL,pf,ih,h1,List.length_cons];omega

theorem xK (ok:Bool) (g:ByteArray→ByteArray) (xs:List ByteArray) (k:Nat):∃ t,di ok g xs=di ok g (xs.take k)++t :=
 ⟨di ok g (xs.drop k),by rw [di,di,di,← List.flatMap_append,List.take_append_drop]⟩

theorem zv (a t:List UInt8):(bl (a++t)).extract 0 a.length=bl a:=by
 apply ByteArray.ext
 simp [bl,ByteArray.data_extract]

theorem AL {code:List Int} {p:Int} (hc:fW code) (hl:code.length≤9223372036854775807) (hp:0≤p∧p<1000000) {xs:List ByteArray} (hx:xs≠[]) (hs:∀ s∈xs,s.size≤10000) {α:Type} {f:ByteArray→Option α} {Q:α→Prop}
  (h:∀ x,x.size≤10000→∃ r,f x=some r∧Q r):∃ r,bd (bi xs code p) f=some r∧Q r:=by
 obtain ⟨x,e,hm⟩:=wU hc hl hp hx
 rw [e,ac]
 exact h x (hs x hm)

theorem tQ {c:List Int} (hc:fW c) (hl:c.length≤9223372036854775807) (x3:ByteArray×Int) (x4:(List (ByteArray×Int))×Int×Bool) (hd:iJ x4.1):∀ (k n:Nat) (p:Int) (acc:List ByteArray),k<n→k≤6→acc.length+k≤6→(∀ s∈acc,s.size≤10000)→0≤p→p+100*k<500000 →
  ∃ r,bL c x3 x4 n p acc (k:Int)=some r∧∀ s∈r,s.size≤10000:=by
 intro k
 induction k with
 | zero =>
  intro n p acc hn _ hk ha h1 h2
  cases n with
  | zero=>omega
  | succ n =>
   rw [bL,ah (by omega)]
   exact ⟨acc,rfl,ha⟩
 | succ k ih =>
  intro n p acc hn h6 hk ha h1 h2
  cases n with
  | zero=>omega
  | succ n =>
   obtain ⟨u,eu,u1,u2,u3⟩:=Bx hc hl hd x4.2.1 (p:=p) ⟨by omega,by omega⟩
   obtain ⟨v,ev,v1,v2,v3⟩:=Bx hc hl hd x4.2.1 (p:=u.2) ⟨by omega,by omega⟩
   have s5:(CC #[115,104,111,119,32]).size=5:=rfl
   have s6:(CC #[115,104,111,114,116,32]).size=6:=rfl
   have s4:(CC #[110,111,116,32]).size=4:=rfl
   have s3:(CC #[111,114,32]).size=3:=rfl
   have s1:(CC #[32]).size=1:=rfl
   have t4:(CC #[97,110,100,32]).size=4:=rfl
   have t5:(CC #[108,101,115,115,32]).size=5:=rfl
   have t6:(CC #[118,97,108,117,101,32]).size=6:=rfl
   have ek:CB .i64 (((k+1:Nat):Int) - 1)=(k:Int):=by rw [w64 (by omega) (by omega)];omega
   rw [bL,aj (by omega),eu,ac,ev,ac,ak (by omega),ak (by omega),ak (by omega),ak (by omega),ak (by rw [ByteArray.size_append];omega),bM,
    ak (by rw [ByteArray.size_append,ByteArray.size_append];omega),ak (by omega),ak (by rw [ByteArray.size_append];omega),bM,ak (by rw [ByteArray.size_append,ByteArray.size_append];omega),
    ak (by omega),ak (by rw [ByteArray.size_append];omega),bM,ak (by rw [ByteArray.size_append,ByteArray.size_append];omega),ak (by omega),
    ak (by rw [ByteArray.size_append];omega),bM,ak (by rw [ByteArray.size_append,ByteArray.size_append];omega)]
   refine AL hc hl ⟨by omega,by omega⟩ (by simp) (fun s hs=>?_) (fun x hx=>?_)
   ·simp only [List.mem_cons,List.not_mem_nil,or_false] at hs
    rcases hs with rfl | rfl | rfl | rfl | rfl | rfl | rfl | rfl | rfl | rfl | rfl | rfl | rfl | rfl | rfl <;> first | decide | (simp only [ByteArray.size_append];omega)
   ·rw [ak (by simp;omega),w64 (a:=v.2+1) (by omega) (by omega),ek]
    refine ih n _ _ (by omega) (by omega) (by simp;omega) (fun s hs=>?_) (by omega) (by omega)
    rcases List.mem_append.1 hs with hs | hs
    ·exact ha s hs
    ·rw [List.mem_singleton] at hs;subst hs;exact hx

theorem tx (c:List Int) (x3 x6:ByteArray×Int) (x4:(List (ByteArray×Int))×Int×Bool):∀ (n:Nat) (p:Int) (acc:List ByteArray) (i:Int),cQ c x4 x6 n p acc i=bL c x3 x4 n p acc i
 | 0,_,_,_=>rfl
 | n+1,p,acc,i=>by
  rw [cQ,bL]
  simp only [tx c x3 x6 x4 n]

theorem vB (s:ByteArray):iJ (az s).1:=by
 cases hk:(az s).2.2 with
 | true =>
  have hf:=(iy hk).1
  have hs:=eM.smallD hf.1 (by decide) (by decide)
  exact ⟨by have:=hs.1;omega,fun d hd=>by have:=hf.1.out.1 d hd;have:=this.1.2.2;exact ⟨by omega,by omega,by omega⟩⟩
 | false =>
  have e:(az s).1=[]:=by
   rw [az] at *
   split
   ·rename_i h
    rw [if_pos h] at hk
    rw [jp] at *
    split
    ·rename_i h2;rw [if_pos h2] at hk;cases hk
    ·rfl
   ·rfl
  rw [e]
  exact ⟨by simp,by simp⟩

theorem yN {code:List Int} (hc:fW code) (hl:code.length≤9223372036854775807):∃ r,fP code=some r∧r.1.size≤100000∧∀ s∈r.2,s.size≤10000:=by
 obtain ⟨c,ec,hc',hl'⟩:=Al hc hl
 obtain ⟨t,et,t1,t2,t3⟩:=wq hc' hl' (p:=0) ⟨by omega,by omega⟩
 obtain ⟨y,ey,ly,uy⟩:=pick (n:=8) hc' hl' (p:=t.2) ⟨by omega,by omega⟩
 have hd:=vB t.1
 rw [fP,ec,ac,et,ac,ou (by omega),ac,ey,ac]
 have nat6:∀ z:Int,z∈([4,6,2,0]:List Int)→∃ k:Nat,z=(k:Int)∧k≤6:=fun z hz=>by
  simp only [List.mem_cons,List.not_mem_nil,or_false] at hz
  exact ⟨z.toNat,by omega,by omega⟩
 by_cases h0:y=0
 ·obtain ⟨m,em,m1,m2,m3⟩:=Cb hc' hl' (s:=t.1) (by omega) (p:=t.2+1) ⟨by omega,by omega⟩
  obtain ⟨z,ez,mz⟩:=one hc' hl' (p:=m.2) ⟨by omega,by omega⟩ (xs:=([4,6,2,0]:List Int)) (by simp)
  obtain ⟨k,rfl,hk⟩:=nat6 z mz
  obtain ⟨r,er,hr⟩:=tQ hc' hl' t (az t.1) hd k FU (m.2+1) [] (Nat.lt_of_le_of_lt hk (by decide)) hk (by simpa using hk) (by simp) (by omega) (by omega)
  rw [aj h0,w64 (a:=t.2+1) (by omega) (by omega),em,ac,ez,ac,w64 (a:=m.2+1) (by omega) (by omega),tx c t,er,ac]
  exact ⟨_,rfl,by simp only;omega,hr⟩
 ·obtain ⟨z,ez,mz⟩:=one hc' hl' (p:=t.2+1) ⟨by omega,by omega⟩ (xs:=([4,6,2,0]:List Int)) (by simp)
  obtain ⟨k,rfl,hk⟩:=nat6 z mz
  obtain ⟨r,er,hr⟩:=tQ hc' hl' t (az t.1) hd k FU (t.2+1+1) [] (Nat.lt_of_le_of_lt hk (by decide)) hk (by simpa using hk) (by simp) (by omega) (by omega)
  rw [ah h0,w64 (a:=t.2+1) (by omega) (by omega),ez,ac,w64 (a:=t.2+1+1) (by omega) (by omega),er,ac]
  exact ⟨_,rfl,by simp only;omega,hr⟩

theorem tG {ok:Bool} {g:ByteArray→ByteArray}:∀ {xs:List ByteArray},(ok=true→∀ x∈xs,(g x).size≤1000000)→(di ok g xs).length≤1000010*xs.length
 | [],_=>by simp [di]
 | x::r,h=>by
  have ih:=tG (ok:=ok) (g:=g) (xs:=r) (fun hk y hy=>h hk y (by simp [hy]))
  have h1:(eV ok (g x)).length≤1000010:=by
   cases ok with
   | true =>
    have:=h rfl x (by simp)
    rw [eV,cond_true,List.length_append,← cE]
    simp only [List.length_cons,List.length_nil]
    omega
   | false=>rw [eV,cond_false];simp
  rw [kL,List.length_append,List.length_cons]
  omega

theorem su {s:ByteArray} {lines:List ByteArray} (hs:s.size≤100000000) (hl:∀ x∈lines,x.size≤100000000) (h20:¬ 20<lines.length):cq (s,lines) (ej s lines) FU 0=some (.inr ()):=by
 refine Cq (lines.length+1) (cq (s,lines) (ej s lines)) (.inr ()) ?_ ?_ FU (by rw [FU_eq];omega)
 ·intro n
  rw [cq,ah (by simp only;omega)]
 ·intro n i hi
  have et:¬ 20<(lines.take i).length:=by rw [List.length_take];omega
  obtain ⟨t,ht⟩:=xK (az s).2.2 (fe (az s).1 (az s).2.1) lines i
  have e1:ej s lines=bl (di (az s).2.2 (fe (az s).1 (az s).2.1) (lines.take i)++t):=by rw [ej,if_neg h20,← ht]
  have e2:ej s (lines.take i)=bl (di (az s).2.2 (fe (az s).1 (az s).2.1) (lines.take i)):=by rw [ej,if_neg et]
  rw [cq,aj (by simp only;omega),ak ⟨by omega,by omega,by simp only;omega,by omega⟩]
  simp only [tg]
  rw [pV hs (fun x hx=>hl x (List.mem_of_mem_take hx)),ac,e1,e2]
  generalize di (az s).2.2 (fe (az s).1 (az s).2.1) (lines.take i)=a
  have z1:(bl a).size=a.length:=dN a
  have z2:(bl (a++t)).size=a.length+t.length:=by rw [dN,List.length_append]
  have ex:(bl (a++t)).extract (0:Int).toNat (((bl a).size:Nat):Int).toNat=bl a:=by rw [Int.toNat_natCast,z1];exact zv a t
  rw [ah (by omega),ak ⟨by omega,by omega,by omega⟩,bM,ex,decide_eq_true rfl,Bool.not_true,cond_false,ci (by omega)]

theorem wx (p1:List Int) (h:∀ n∈p1,0≤n∧n<256) (hl:p1.length≤9223372036854775807):iH p1=some true:=by
 rw [iH,kC]
 by_cases h0:1048576<(p1.length:Int)
 ·rw [if_pos h0]
 obtain ⟨⟨s,lines⟩,ed,hs,hls⟩:=yN h hl
 simp only at hs hls
 have hl':∀ x∈lines,x.size≤100000000:=fun x hx=>by have:=hls x hx;omega
 rw [if_neg h0,ed,ac]
 simp only []
 rw [pV (by omega) hl',ac,xT (by omega) hl',ac,decide_eq_true rfl,Bool.not_true,cond_false]
 by_cases he:ej s lines=ByteArray.empty
 ·rw [aj he,ac,decide_eq_true rfl]
 ·have h20:¬ 20<lines.length:=fun h2=>he (by rw [ej,if_pos h2])
  have er:ej s lines=bl (di (az s).2.2 (fe (az s).1 (az s).2.1) lines):=by rw [ej,if_neg h20]
  have hz:=tG (ok:=(az s).2.2) (g:=fe (az s).1 (az s).2.1) (xs:=lines) (fun hk x hx=>pR (iy hk).1 x)
  have hn:=ye (ok:=(az s).2.2) (g:=fe (az s).1 (az s).2.1) (xs:=lines) (fun hk x hx=>BD (iy hk).1 x)
  have hsz:(ej s lines).size≤1000000000:=by rw [er,dN];omega
  rw [ah he,su (by omega) hl' h20,ac,um,wH hsz,ac]
  rw [er,bK,hn,decide_eq_true rfl]

end Go.Eng
