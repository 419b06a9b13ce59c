/- What is proved: plain laws of the models, up to the law itself. Conditions: sizes and ranges of what is handed over, as each says. -/
import Derived.Test.YtdnlgpmmkchopaaGreatDoorCRunDeskModels
set_option linter.unusedVariables false
set_option linter.unusedSimpArgs false
namespace Go.Eng
open Go

theorem w64 {a:Int} (h1 : -9223372036854775808≤a) (h2:a≤9223372036854775807):IntKind.wrap .i64 a=a:=by
 rw [IntKind.wrap_i64];omega

def I64 (a:Int):Prop := -9223372036854775808≤a∧a≤9223372036854775807

theorem Bo (a:Int):I64 (IntKind.wrap .i64 a):=by
 unfold I64;rw [IntKind.wrap_i64];omega

theorem cj {i:Nat} (h:i<4611686018427387904):IntKind.wrap .i64 ((i:Int)+1)=((i+1:Nat):Int):=by
 rw [w64 (by omega) (by omega)];omega

theorem al {α:Type} {p:Prop} [Decidable p] (h:p) (x:Option α):gd p x=x:=by unfold gd;rw [if_pos h]

theorem ae {α β:Type} (a:α) (f:α→Option β):bd (some a) f=f a:=rfl

theorem bN {α β:Type} (a:α) (f:α→Option β):nm a f=f a:=rfl

theorem yl {α β γ:Type} (a:α) (f:α→γ) (g:β→γ):sm (.inl a) f g=f a:=rfl

theorem tL {α β γ:Type} (b:β) (f:α→γ) (g:β→γ):sm (.inr b) f g=g b:=rfl

def Wp {α:Type} (x:Option α) (Q:α→Prop):Prop:=∃ r,x=some r∧Q r

theorem dP {α:Type} {a:α} {Q:α→Prop}:Wp (some a) Q↔Q a:=⟨fun ⟨r,h,q⟩=>by cases h;exact q,fun h=>⟨a,rfl,h⟩⟩

theorem Ct {α:Type} {x:Option α} {r:α}:Wp x (fun a=>a=r)↔x=some r:=⟨fun ⟨a,h,e⟩=>by rw [h,e],fun h=>⟨r,h,rfl⟩⟩

theorem Wp.eq {α:Type} {x:Option α} {r:α} (h:Wp x (fun a=>a=r)):x=some r:=Ct.1 h

theorem Wp.of {α:Type} {x:Option α} {r:α} {Q:α→Prop} (h:x=some r) (q:Q r):Wp x Q:=⟨r,h,q⟩

theorem qV {σ ρ:Type} (L:Nat→σ→Option ρ) (I:σ→Prop) (μ:σ→Nat) (Q:ρ→Prop)
  (hs:∀ n s,I s→(∀ s',I s'→μ s'<μ s→Wp (L n s') Q)→Wp (L (n+1) s) Q):∀ n s,I s→μ s<n→Wp (L n s) Q
 | 0,s,_,h=>absurd h (Nat.not_lt_zero _)
 | n+1,s,hi,h=>hs n s hi fun s' hi' hm=>qV L I μ Q hs n s' hi' (by omega)

theorem jA {α σ ρ:Type} [Inhabited α] (l:List α) (L:Nat→Int→σ→Option ρ) (I:Nat→σ→Prop) (Q:ρ→Prop)
  (h0:∀ n s,I l.length s→Wp (L (n+1) (l.length:Int) s) Q)
  (hs:∀ n i s d,i<l.length→gt l (i:Int)=d→l.drop i=d::l.drop (i+1)→d∈l→I i s→(∀ s',I (i+1) s'→Wp (L n ((i+1:Nat):Int) s') Q)→Wp (L (n+1) (i:Int) s) Q)
  (N:Nat) (hl:l.length<N) (s:σ) (h:I 0 s):Wp (L N 0 s) Q:=by
 have key:∀ (k i n:Nat) (s:σ),i+k=l.length→k<n→I i s→Wp (L n (i:Int) s) Q:=by
  intro k
  induction k with
  | zero =>
   intro i n s hk hn hi
   cases n with
   | zero=>omega
   | succ n =>
    have e:i=l.length:=by omega
    subst e
    exact h0 n s hi
  | succ k ih =>
   intro i n s hk hn hi
   cases n with
   | zero=>omega
   | succ n =>
    have hlt:i<l.length:=by omega
    have e1:gt l (i:Int)=l[i]:=by
     unfold gt
     rw [Int.toNat_natCast,List.getD_eq_getElem?_getD,List.getElem?_eq_getElem hlt,Option.getD_some]
    have e2:l.drop i=l[i]::l.drop (i+1):=List.drop_eq_getElem_cons hlt
    exact hs n i s l[i] hlt e1 e2 (List.getElem_mem hlt) hi fun s' hs'=>ih (i+1) n s' (by omega) (by omega) hs'
 exact key l.length 0 N s (by omega) hl h

theorem cz {α:Type} [Inhabited α] {l:List α} {i:Nat} (h:i<l.length):gt l (i:Int)=l[i]:=by
 unfold gt
 rw [Int.toNat_natCast,List.getD_eq_getElem?_getD,List.getElem?_eq_getElem h,Option.getD_some]

theorem eD {α:Type} [Inhabited α] {l:List α} {q:Int} (h:0≤q∧q<(l.length:Int)):gt l q∈l:=by
 obtain ⟨i,rfl⟩:=Int.eq_ofNat_of_zero_le h.1
 have hi:i<l.length:=by omega
 have e:gt l (i:Int)=l[i]:=cz hi
 rw [e];exact List.getElem_mem hi

theorem sV {α:Type} (l:List α) (i:Nat):sub l 0 (i:Int)=l.take i:=by simp [sub]

def ix {α:Type} (p:α→Bool) (l:List α):Int:=match l.findIdx? p with | some i=>(i:Int) | none => -1

theorem ll {α:Type} [Inhabited α] (p:α→Bool) (l:List α) :
  (ix p l = -1∧l.find? p=none∧∀ d∈l,p d=false) ∨
  ∃ (i:Nat) (d:α),ix p l=i∧i<l.length∧gt l (i:Int)=d∧l.find? p=some d∧d∈l∧p d=true:=by
 unfold ix
 cases h:l.findIdx? p with
 | none =>
  left
  rw [List.findIdx?_eq_none_iff] at h
  exact ⟨rfl,List.find?_eq_none.2 (fun d hd=>by simp [h d hd]),h⟩
 | some i =>
  right
  rw [List.findIdx?_eq_some_iff_getElem] at h
  obtain ⟨hi,h1,h2⟩:=h
  refine ⟨i,l[i],rfl,hi,cz hi,?_,List.getElem_mem hi,h1⟩
  rw [List.find?_eq_some_iff_getElem]
  exact ⟨h1,i,hi,rfl,fun j hj=>by simpa using h2 j hj⟩

theorem tc {α:Type} (p:α→Bool) (l:List α) : -1≤ix p l∧ix p l<(l.length:Int):=by
 unfold ix
 cases h:l.findIdx? p with
 | none=>simp only;omega
 | some i =>
  rw [List.findIdx?_eq_some_iff_getElem] at h
  obtain ⟨hi,_⟩:=h
  simp only;omega

theorem sN (a:Nat) (ha:a<9223372036854775808):(BitVec.ofInt 64 (a:Int)).toNat=a:=by
 rw [BitVec.ofInt_natCast,BitVec.toNat_ofNat];exact Nat.mod_eq_of_lt (by omega)

theorem wX {a b:Nat} (ha:a<9223372036854775808) (hb:b<9223372036854775808):Go.bits .and .i64 (a:Int) (b:Int)=((a&&&b:Nat):Int):=by
 have hx:a&&&b≤a:=Nat.and_le_left
 show IntKind.i64.wrap ((BitVec.ofInt 64 (a:Int)&&&BitVec.ofInt 64 (b:Int)).toNat:Int)=_
 rw [BitVec.toNat_and,sN a ha,sN b hb,w64 (by omega) (by omega)]

theorem Bc {a b:Nat} (ha:a<9223372036854775808) (hb:b<9223372036854775808):Go.bits .or .i64 (a:Int) (b:Int)=((a|||b:Nat):Int):=by
 have hx:a|||b<2 ^ 63:=Nat.or_lt_two_pow (by omega) (by omega)
 show IntKind.i64.wrap ((BitVec.ofInt 64 (a:Int)|||BitVec.ofInt 64 (b:Int)).toNat:Int)=_
 rw [BitVec.toNat_or,sN a ha,sN b hb,w64 (by omega) (by omega)]

theorem Cr {a b:Nat} (ha:a<9223372036854775808) (hb:b<9223372036854775808):Go.bits .xor .i64 (a:Int) (b:Int)=((a ^^^ b:Nat):Int):=by
 have hx:a ^^^ b<2 ^ 63:=Nat.xor_lt_two_pow (by omega) (by omega)
 show IntKind.i64.wrap ((BitVec.ofInt 64 (a:Int) ^^^ BitVec.ofInt 64 (b:Int)).toNat:Int)=_
 rw [BitVec.toNat_xor,sN a ha,sN b hb,w64 (by omega) (by omega)]

def aM (a b:Nat):Nat:=a - (a&&&b)

theorem pd (a b:Nat):(a|||b)+(a&&&b)=a+b:=by
 induction a using Nat.strongRecOn generalizing b with
 | _ a ih =>
  by_cases h0:a=0
  ·subst h0;simp
  ·have h1:=ih (a / 2) (by omega) (b / 2)
   have o1:(a|||b) / 2=(a / 2)|||(b / 2):=Nat.or_div_two ..
   have n1:(a&&&b) / 2=(a / 2)&&&(b / 2):=Nat.and_div_two ..
   have o2:(a|||b) % 2=if a % 2=1∨b % 2=1 then 1 else 0:=by
    have:=Nat.or_mod_two_pow (a:=a) (b:=b) (n:=1)
    simp only [Nat.pow_one] at this
    rw [this]
    rcases Nat.mod_two_eq_zero_or_one a with ha | ha <;> rcases Nat.mod_two_eq_zero_or_one b with hb | hb <;> simp [ha,hb]
   have n2:(a&&&b) % 2=if a % 2=1∧b % 2=1 then 1 else 0:=by
    have:=Nat.and_mod_two_pow (a:=a) (b:=b) (n:=1)
    simp only [Nat.pow_one] at this
    rw [this]
    rcases Nat.mod_two_eq_zero_or_one a with ha | ha <;> rcases Nat.mod_two_eq_zero_or_one b with hb | hb <;> simp [ha,hb]
   rw [← o1,← n1] at h1
   clear o1 n1 ih
   split at o2 <;> split at n2 <;> omega

theorem dG (a b i:Nat):(aM a b).testBit i=(a.testBit i && !b.testBit i):=by
 have h:aM a b=a ^^^ (a&&&b):=by
  have hle:a&&&b≤a:=Nat.and_le_left
  have h1:=pd (a ^^^ (a&&&b)) (a&&&b)
  have h2:(a ^^^ (a&&&b))|||(a&&&b)=a:=by
   apply Nat.eq_of_testBit_eq;intro i
   simp only [Nat.testBit_or,Nat.testBit_xor,Nat.testBit_and]
   cases a.testBit i <;> cases b.testBit i <;> rfl
  have h3:(a ^^^ (a&&&b))&&&(a&&&b)=0:=by
   apply Nat.eq_of_testBit_eq;intro i
   simp only [Nat.testBit_xor,Nat.testBit_and,Nat.zero_testBit]
   cases a.testBit i <;> cases b.testBit i <;> rfl
  rw [h2,h3] at h1
  unfold aM;omega
 rw [h]
 simp only [Nat.testBit_xor,Nat.testBit_and]
 cases a.testBit i <;> cases b.testBit i <;> rfl

theorem jx (a b:Nat):aM a b≤a:=Nat.sub_le ..

theorem jt {a b:Nat} (ha:a<9223372036854775808) (hb:b<9223372036854775808):Go.bits .andNot .i64 (a:Int) (b:Int)=((aM a b:Nat):Int):=by
 have hx:aM a b≤a:=jx ..
 show IntKind.i64.wrap ((BitVec.ofInt 64 (a:Int)&&&~~~ BitVec.ofInt 64 (b:Int)).toNat:Int)=_
 have e:(BitVec.ofInt 64 (a:Int)&&&~~~ BitVec.ofInt 64 (b:Int)).toNat=aM a b:=by
  apply Nat.eq_of_testBit_eq;intro i
  have hA:BitVec.ofInt 64 (a:Int)=BitVec.ofNat 64 a:=by simp [BitVec.ofInt_natCast]
  have hB:BitVec.ofInt 64 (b:Int)=BitVec.ofNat 64 b:=by simp [BitVec.ofInt_natCast]
  rw [hA,hB,dG]
  by_cases h64:i<64
  ·rw [BitVec.testBit_toNat,BitVec.getLsbD_and,BitVec.getLsbD_not,BitVec.getLsbD_ofNat,BitVec.getLsbD_ofNat]
   simp [h64]
  ·have h1:a.testBit i=false:=Nat.testBit_lt_two_pow (Nat.lt_of_lt_of_le (by omega:a<2 ^ 63) (Nat.pow_le_pow_right (by omega) (by omega)))
   rw [h1,Bool.false_and,BitVec.testBit_toNat]
   exact BitVec.getLsbD_of_ge _ _ (by omega)
 rw [e,w64 (by omega) (by omega)]

theorem ak {α:Type} {p:Prop} [Decidable p] (h:p) (x y:α):(bif decide p then x else y)=x:=by rw [decide_eq_true h];rfl

theorem ai {α:Type} {p:Prop} [Decidable p] (h:¬ p) (x y:α):(bif decide p then x else y)=y:=by rw [decide_eq_false h];rfl

theorem kI {α:Type} {p:Prop} [Decidable p] (x y:α):(bif decide p then x else y)=if p then x else y:=by
 by_cases h:p <;> simp [h]

theorem oR {α:Type} [Inhabited α] (l:List α) (L:Nat→Int→Option (Int ⊕ Unit)) (p:α→Bool)
  (hend:∀ n,L (n+1) (l.length:Int)=some (.inr ()))
  (hstep:∀ n i,i<l.length→L (n+1) (i:Int)=if p (gt l (i:Int)) then some (.inl (i:Int)) else L n ((i+1:Nat):Int))
  (N:Nat) (hl:l.length<N):L N 0=some (match l.findIdx? p with | some i=>.inl (i:Int) | none=>.inr ()):=by
 refine (jA l (fun n i (_:Unit)=>L n i) (fun i _=>∀ d∈l.take i,p d=false)
  (fun r=>r=(match l.findIdx? p with | some i=>.inl (i:Int) | none=>.inr ())) ?_ ?_ N hl () (by simp)).eq
 ·intro n _ hI
  rw [List.take_length] at hI
  rw [hend]
  refine dP.2 ?_
  rw [List.findIdx?_eq_none_iff.2 hI]
 ·intro n i _ d hi hg hd hm hI ih
  rw [hstep n i hi,hg]
  by_cases h:p d=true
  ·rw [if_pos h]
   refine dP.2 ?_
   have:l.findIdx? p=some i:=by
    rw [List.findIdx?_eq_some_iff_getElem]
    refine ⟨hi,by rw [← cz hi,hg];exact h,fun j hj=>?_⟩
    simpa using hI l[j] (List.mem_take_iff_getElem.2 ⟨j,by omega,rfl⟩)
   rw [this]
  ·rw [if_neg h]
   refine ih () ?_
   intro e he
   rw [List.take_succ_eq_append_getElem hi,List.mem_append] at he
   rcases he with he | he
   ·exact hI e he
   ·rw [← cz hi,hg] at he
    simp at he;subst he;simpa using h

theorem Bb {α ρ:Type} [Inhabited α] (l:List α) (L:Nat→Int→Option ρ) (P:Nat→Prop) (x y:ρ)
  (hend:∀ n,L (n+1) (l.length:Int)=some y)
  (hstep:∀ n i,i<l.length→(P i∧L (n+1) (i:Int)=some x)∨(¬ P i∧L (n+1) (i:Int)=L n ((i+1:Nat):Int)))
  (N:Nat) (hl:l.length<N):((∃ i,i<l.length∧P i)∧L N 0=some x)∨((∀ i,i<l.length→¬ P i)∧L N 0=some y):=by
 have h:=jA l (fun n i (_:Unit)=>L n i) (fun i _=>∀ j,j<i→¬ P j)
  (fun r=>((∃ i,i<l.length∧P i)∧r=x)∨((∀ i,i<l.length→¬ P i)∧r=y)) ?_ ?_ N hl () (by intro j hj;omega)
 ·obtain ⟨r,e,h⟩:=h
  have e:L N 0=some r:=e
  rw [e]
  rcases h with ⟨h1,rfl⟩ | ⟨h1,rfl⟩
  ·exact .inl ⟨h1,rfl⟩
  ·exact .inr ⟨h1,rfl⟩
 ·intro n _ hI
  rw [hend]
  exact dP.2 (.inr ⟨hI,rfl⟩)
 ·intro n i _ d hi hg hd hm hI ih
  rcases hstep n i hi with ⟨h1,h2⟩ | ⟨h1,h2⟩
  ·rw [h2];exact dP.2 (.inl ⟨⟨i,hi,h1⟩,rfl⟩)
  ·rw [h2]
   refine ih () fun j hj=>?_
   by_cases e:j=i
   ·subst e;exact h1
   ·exact hI j (by omega)

theorem yb {α β:Type} [Inhabited α] (l:List α) (L:Nat→List β→Int→Option (List β)) (g:α→List β) (c:Nat) (hc:∀ d∈l,(g d).length≤c)
  (hend:∀ n acc,L (n+1) acc (l.length:Int)=some acc)
  (hstep:∀ n i acc,i<l.length→gt l (i:Int)∈l→acc.length≤c*i→L (n+1) acc (i:Int)=L n (acc++g (gt l (i:Int))) ((i+1:Nat):Int))
  (N:Nat) (hl:l.length<N):L N [] 0=some (l.flatMap g):=by
 refine (jA l (fun n i acc=>L n acc i) (fun i acc=>acc.length≤c*i∧acc++(l.drop i).flatMap g=l.flatMap g)
  (fun r=>r=l.flatMap g) ?_ ?_ N hl [] ⟨by simp,by simp⟩).eq
 ·intro n acc hI
  rw [hend]
  refine dP.2 ?_
  have:=hI.2
  rw [List.drop_length] at this
  simpa using this
 ·intro n i acc d hi hg hd hm hI ih
  rw [hstep n i acc hi (by rw [hg];exact hm) hI.1,hg]
  refine ih _ ⟨?_,?_⟩
  ·have:=hc d hm
   rw [List.length_append,Nat.mul_succ];have:=hI.1;omega
  ·have:=hI.2
   rw [hd,List.flatMap_cons,← List.append_assoc] at this
   exact this

theorem nu {α σ:Type} [Inhabited α] (l:List α) (L:Nat→σ→Int→Option σ) (g:σ→α→σ) (I:Nat→σ→Prop)
  (hend:∀ n s,L (n+1) s (l.length:Int)=some s)
  (hstep:∀ n i s,i<l.length→gt l (i:Int)∈l→I i s→I (i+1) (g s (gt l (i:Int)))∧L (n+1) s (i:Int)=L n (g s (gt l (i:Int))) ((i+1:Nat):Int))
  (N:Nat) (hl:l.length<N) (s:σ) (h0:I 0 s):L N s 0=some (l.foldl g s)∧I l.length (l.foldl g s):=by
 have h:=jA l (fun n i s=>L n s i) (fun i t=>I i t∧(l.drop i).foldl g t=l.foldl g s)
  (fun r=>r=l.foldl g s∧I l.length r) ?_ ?_ N hl s ⟨h0,by simp⟩
 ·obtain ⟨r,e,rfl,h2⟩:=h
  exact ⟨e,h2⟩
 ·intro n t hI
  rw [hend]
  refine dP.2 ?_
  have:=hI.2
  rw [List.drop_length] at this
  exact ⟨this,hI.1⟩
 ·intro n i t d hi hg hd hm hI ih
  have hs:=hstep n i t hi (by rw [hg];exact hm) hI.1
  rw [hg] at hs
  rw [hs.2]
  refine ih _ ⟨hs.1,?_⟩
  have:=hI.2
  rw [hd,List.foldl_cons] at this
  exact this

theorem oT {α β:Type} (p:α→Prop) [DecidablePred p] (f:α→β) (l:List α):l.flatMap (fun d=>if p d then [f d] else [])=(l.filter (fun d=>decide (p d))).map f:=by
 induction l with
 | nil=>rfl
 | cons d l ih =>
  rw [List.flatMap_cons,ih]
  by_cases h:p d <;> simp [h]

theorem sk {α β:Type} (f:α→β) (l:List α):l.flatMap (fun d=>[f d])=l.map f:=by
 induction l with
 | nil=>rfl
 | cons d l ih=>rw [List.flatMap_cons,ih];rfl

theorem yd {n i:Nat} (h:i<n):gt (List.range n) (i:Int)=i:=by
 rw [cz (by simpa using h),List.getElem_range]

theorem yW {a b:Bool} (h:a=true↔b=true):a=b:=by
 cases a <;> cases b <;> simp_all

theorem Cq {α β σ:Type} [Inhabited α] (l:List α) (L:Nat→σ→Int→Option (β ⊕ σ)) (bad:α→Bool) (b:β) (g:σ→α→σ) (I:Nat→σ→Prop)
  (hend:∀ n s,I l.length s→L (n+1) s (l.length:Int)=some (.inr s))
  (hstep:∀ n i s,i<l.length→gt l (i:Int)∈l→I i s→(bad (gt l (i:Int))=true∧L (n+1) s (i:Int)=some (.inl b)) ∨
   (bad (gt l (i:Int))=false∧I (i+1) (g s (gt l (i:Int)))∧L (n+1) s (i:Int)=L n (g s (gt l (i:Int))) ((i+1:Nat):Int)))
  (N:Nat) (hl:l.length<N) (s:σ) (h0:I 0 s):(l.any bad=true∧L N s 0=some (.inl b))∨(l.any bad=false∧I l.length (l.foldl g s)∧L N s 0=some (.inr (l.foldl g s))):=by
 have h:=jA l (fun n i s=>L n s i) (fun i t=>I i t∧(l.drop i).foldl g t=l.foldl g s∧l.any bad=(l.drop i).any bad)
  (fun r=>(l.any bad=true∧r=.inl b)∨(l.any bad=false∧I l.length (l.foldl g s)∧r=.inr (l.foldl g s))) ?_ ?_ N hl s ⟨h0,by simp,by simp⟩
 ·obtain ⟨r,e,h⟩:=h
  have e:L N s 0=some r:=e
  rw [e]
  rcases h with ⟨h1,rfl⟩ | ⟨h1,h2,rfl⟩
  ·exact .inl ⟨h1,rfl⟩
  ·exact .inr ⟨h1,h2,rfl⟩
 ·intro n t hI
  rw [hend n t hI.1]
  refine dP.2 (.inr ?_)
  have h2:=hI.2.1
  have h3:=hI.2.2
  rw [List.drop_length] at h2 h3
  simp only [List.foldl_nil] at h2
  rw [← h2]
  exact ⟨h3,hI.1,rfl⟩
 ·intro n i t d hi hg hd hm hI ih
  have hs:=hstep n i t hi (by rw [hg];exact hm) hI.1
  rw [hg] at hs
  have h2:=hI.2.1
  have h3:=hI.2.2
  rw [hd,List.foldl_cons] at h2
  rw [hd,List.any_cons] at h3
  rcases hs with ⟨hb,e⟩ | ⟨hb,hi',e⟩
  ·rw [e]
   exact dP.2 (.inl ⟨by rw [h3,hb];rfl,rfl⟩)
  ·rw [e]
   exact ih _ ⟨hi',h2,by rw [h3,hb,Bool.false_or]⟩

theorem Ci {ρ:Type} (m:Nat) (L:Nat→Int→Option ρ) (P:Nat→Prop) (x y:ρ)
  (hend:∀ n,L (n+1) (m:Int)=some y)
  (hstep:∀ n i,i<m→(P i∧L (n+1) (i:Int)=some x)∨(¬ P i∧L (n+1) (i:Int)=L n ((i+1:Nat):Int)))
  (N:Nat) (hl:m<N):((∃ i,i<m∧P i)∧L N 0=some x)∨((∀ i,i<m→¬ P i)∧L N 0=some y):=by
 have h:=Bb (List.range m) L P x y (by simpa using hend) (by simpa using hstep) N (by simpa using hl)
 simpa using h

theorem Cu {ρ:Type} (m:Nat) (L:Nat→Int→Option ρ) (y:ρ)
  (hend:∀ n,L (n+1) (m:Int)=some y)
  (hstep:∀ n i,i<m→L (n+1) (i:Int)=L n ((i+1:Nat):Int))
  (N:Nat) (hl:m<N):L N 0=some y:=by
 rcases Ci m L (fun _=>False) y y hend (fun n i hi=>.inr ⟨id,hstep n i hi⟩) N hl with ⟨_,h⟩ | ⟨_,h⟩ <;> exact h

theorem Co {α:Type} [Inhabited α] (l:List α) (L:Nat→Int→Option (Int ⊕ Unit)) (p:α→Bool)
  (hend:∀ n,L (n+1) (l.length:Int)=some (.inr ()))
  (hstep:∀ n i,i<l.length→L (n+1) (i:Int)=if p (gt l (i:Int)) then some (.inl (i:Int)) else L n ((i+1:Nat):Int))
  (N:Nat) (hl:l.length<N):(bd (L N 0) fun x=>sm x (fun a=>some a) (fun _=>some (-1)))=some (ix p l):=by
 rw [oR l L p hend hstep N hl,ae,ix]
 cases l.findIdx? p <;> rfl

theorem FU_eq:FU=4611686018427387904:=rfl

def dY (l:List (ByteArray×Int)) (s:ByteArray):Int:=ix (fun d=>decide (d.1=s)) l

def dT (l:List (ByteArray×Int)) (n:Int):Int:=ix (fun d=>decide (d.2=n)) l

theorem ld (l:List (ByteArray×Int)) (s:ByteArray) (hl:l.length≤1099511627776):eF l s=some (dY l s):=by
 rw [eF,oR l (dq l s) (fun d=>decide (d.1=s)) ?_ ?_ FU (by rw [FU_eq];omega),ae,dY,ix]
 ·cases l.findIdx? (fun d=>decide (d.1=s)) <;> rfl
 ·intro n;rw [dq,ai (by omega)]
 ·intro n i hi
  rw [dq,ak (by omega),al (by omega),cj (by omega),kI]
  simp

theorem tT (l:List (ByteArray×Int)) (s:ByteArray) (hl:l.length≤1099511627776):iF l s=some (dY l s):=by
 rw [iF,df,oR l (aX l s) (fun d=>decide (d.1=s)) ?_ ?_ FU (by rw [FU_eq];omega),ae,dY,ix]
 ·cases l.findIdx? (fun d=>decide (d.1=s)) <;> rfl
 ·intro n;rw [aX,ai (by omega)]
 ·intro n i hi
  rw [aX,ak (by omega),al (by omega),cj (by omega),iN,ae,kI]
  simp

theorem mG (l:List (ByteArray×Int)) (s:Int) (hl:l.length≤1099511627776):fw l s=some (dT l s):=by
 rw [fw,oR l (dl l s) (fun d=>decide (d.2=s)) ?_ ?_ FU (by rw [FU_eq];omega),ae,dT,ix]
 ·cases l.findIdx? (fun d=>decide (d.2=s)) <;> rfl
 ·intro n;rw [dl,ai (by omega)]
 ·intro n i hi
  rw [dl,ak (by omega),al (by omega),cj (by omega),kI]
  simp

theorem rS (l:List (ByteArray×Int)) (s:Int) (hl:l.length≤1099511627776):gb l s=some (dT l s):=by
 rw [gb,cZ,oR l (aW l s) (fun d=>decide (d.2=s)) ?_ ?_ FU (by rw [FU_eq];omega),ae,dT,ix]
 ·cases l.findIdx? (fun d=>decide (d.2=s)) <;> rfl
 ·intro n;rw [aW,ai (by omega)]
 ·intro n i hi
  rw [aW,ak (by omega),al (by omega),cj (by omega),iy,ae,kI]
  simp

def eL (s:ByteArray):Prop:=(∀ i,i<s.size→97≤aH s i∧aH s i≤122)∧1≤s.size∧s.size≤6

instance (s:ByteArray):Decidable (eL s):=inferInstanceAs (Decidable (_∧_))

theorem gH (a b c:Int):cU a b c=some (decide (b≤a∧a≤c)):=by
 rw [cU,kI]
 by_cases h1:b≤a <;> by_cases h2:a≤c <;> simp [h1,h2]

theorem lv (a b c:Int):gp a b c=some (decide (b≤a∧a≤c)):=gH a b c

theorem vq (s:ByteArray) (hs:s.size≤1099511627776):Wp (cc s FU 0) (fun r=>(r=.inl ()∧∃ i,i<s.size∧¬ (97≤aH s i∧aH s i≤122))∨(r=.inr ()∧∀ i,i<s.size→97≤aH s i∧aH s i≤122)):=by
 refine qV (cc s) (fun v=>∃ i:Nat,v=i∧i≤s.size∧∀ j,j<i→97≤aH s j∧aH s j≤122) (fun v=>s.size - v.toNat) _ ?_ FU 0 ⟨0,rfl,by omega,by intro j hj;omega⟩ (by rw [FU_eq];omega)
 rintro n _ ⟨i,rfl,hi,hI⟩ ih
 rw [cc]
 by_cases h:i<s.size
 ·rw [ak (by omega),al (by omega),cj (by omega),Int.toNat_natCast]
  by_cases h1:aH s i<97
  ·rw [ak h1];exact dP.2 (.inl ⟨rfl,i,h,by omega⟩)
  ·rw [ai h1]
   by_cases h2:122<aH s i
   ·rw [ak h2];exact dP.2 (.inl ⟨rfl,i,h,by omega⟩)
   ·rw [ai h2]
    refine ih _ ⟨i+1,rfl,h,fun j hj=>?_⟩ (by omega)
    by_cases e:j=i
    ·subst e;omega
    ·exact hI j (by omega)
 ·rw [ai (by omega)]
  exact dP.2 (.inr ⟨rfl,fun j hj=>hI j (by omega)⟩)

theorem jG {s:ByteArray} (hs:s.size≤1099511627776):ee s=some (decide (eL s)):=by
 obtain ⟨r,e,h⟩:=vq s hs
 rw [ee,e,ae]
 rcases h with ⟨rfl,i,hi,h⟩ | ⟨rfl,h⟩
 ·have:¬ eL s:=fun hn=>h (hn.1 i hi)
  rw [decide_eq_false this];rfl
 ·rw [tL,gH,ae]
  have:eL s↔((1:Int)≤(s.size:Int)∧(s.size:Int)≤6):=⟨fun hn=>by have:=hn.2;omega,fun hh=>⟨h,by omega⟩⟩
  rw [decide_eq_decide.2 this]

theorem ny (p:ByteArray):∀ (n:Nat) (v:Int),dt p n v=cc p n v
 | 0,v=>rfl
 | n+1,v=>by rw [dt,cc,ny p n]

theorem uX {s:ByteArray} (hs:s.size≤1099511627776):gz s=some (decide (eL s)):=by
 rw [← jG hs,gz,ee,ny];rfl

def cH (l:List (ByteArray×Int)):Prop:=l.length≤1099511627776∧(∀ d∈l,d.1.size≤1099511627776)∧∀ d∈l,I64 d.2

def eO (l:List (ByteArray×Int)) (lo hi:Int):Prop:=(∀ i,i<l.length→eL (gt l (i:Int)).1∧(lo≤(gt l (i:Int)).2∧(gt l (i:Int)).2≤hi)∧¬ 0≤dY (l.take i) (gt l (i:Int)).1)∧l.length≤12

instance (l:List (ByteArray×Int)) (lo hi:Int):Decidable (eO l lo hi):=inferInstanceAs (Decidable (_∧_))

theorem nU {l:List (ByteArray×Int)} (h:cH l) (lo hi:Int):fl l lo hi=some (decide (eO l lo hi)):=by
 obtain ⟨hl,hs,-⟩:=h
 have h:=Bb l (cd l lo hi) (fun i=>¬ (eL (gt l (i:Int)).1∧(lo≤(gt l (i:Int)).2∧(gt l (i:Int)).2≤hi)∧¬ 0≤dY (l.take i) (gt l (i:Int)).1)) (.inl ()) (.inr ()) ?_ ?_ FU (by rw [FU_eq];omega)
 ·rw [fl]
  rcases h with ⟨⟨i,h1,h2⟩,e⟩ | ⟨h1,e⟩
  ·rw [e,ae,yl]
   have:¬ eO l lo hi:=fun h=>h2 (h.1 i h1)
   rw [decide_eq_false this]
  ·rw [e,ae,tL]
   have:eO l lo hi↔(l.length:Int)≤12:=⟨fun h=>by have:=h.2;omega,fun h=>⟨fun i hi=>Decidable.not_not.1 (h1 i hi),by omega⟩⟩
   rw [decide_eq_decide.2 this]
 ·intro n;rw [cd,ai (by omega)]
 ·intro n i hi'
  have hm:gt l (i:Int)∈l:=eD (by omega)
  rw [cd,ak (by omega),al (by omega),jG (hs _ hm),ae,gH,ae,al (by omega),sV,ld _ _ (by rw [List.length_take];omega),ae,cj (by omega)]
  by_cases h1:eL (gt l (i:Int)).1 <;> simp only [h1,decide_true,decide_false,Bool.not_true,Bool.not_false,cond_true,cond_false,true_and,false_and,not_false_eq_true,not_true_eq_false,or_false,and_self]
  by_cases h2:lo≤(gt l (i:Int)).2∧(gt l (i:Int)).2≤hi <;> simp only [h2,decide_true,decide_false,Bool.not_true,Bool.not_false,cond_true,cond_false,true_and,false_and,not_false_eq_true,not_true_eq_false,or_false,and_self]
  by_cases h3:0≤dY (l.take i) (gt l (i:Int)).1 <;> simp only [h3,decide_true,decide_false,Bool.not_true,Bool.not_false,cond_true,cond_false,true_and,false_and,not_false_eq_true,not_true_eq_false,or_false,and_self,false_or]

theorem vJ {l:List (ByteArray×Int)} (h:cH l) (lo hi:Int):gE l lo hi=some (decide (eO l lo hi)):=by
 have e:∀ (n:Nat) (i:Nat),i≤l.length→dr l lo hi n (i:Int)=cd l lo hi n (i:Int):=by
  intro n
  induction n with
  | zero=>intro i _;rfl
  | succ n ih =>
   intro i hi'
   rw [dr,cd]
   by_cases hlt:i<l.length
   ·have hm:gt l (i:Int)∈l:=eD (by omega)
    have hl:=h.1
    rw [ak (by omega),ak (by omega),cj (by omega),ih (i+1) hlt,uX (h.2.1 _ hm),jG (h.2.1 _ hm),sV,
     tT _ _ (by rw [List.length_take];omega),ld _ _ (by rw [List.length_take];omega)]
    rfl
   ·rw [ai (by omega),ai (by omega)]
 rw [← nU h,gE,fl,show (0:Int)=((0:Nat):Int) from rfl,e FU 0 (by omega)]

def bG (l:List (ByteArray×Int)) (b:Int):Prop:=eO l 0 4095∧0≤b∧b≤3

instance (l:List (ByteArray×Int)) (b:Int):Decidable (bG l b):=inferInstanceAs (Decidable (_∧_))

theorem nV {l:List (ByteArray×Int)} (h:cH l) (b:Int):fA l b=some (decide (bG l b)):=by
 rw [fA,nU h,ae,gH,ae]
 by_cases h1:eO l 0 4095
 ·rw [decide_eq_true h1,cond_true];congr 1;exact decide_eq_decide.2 ⟨fun h=>⟨h1,h⟩,fun h=>h.2⟩
 ·rw [decide_eq_false h1,cond_false,decide_eq_false (fun h=>h1 h.1)]

theorem jS {l:List (ByteArray×Int)} (h:cH l) (b:Int):dx l b=some (decide (bG l b)):=by
 rw [dx,vJ h,ae,lv,ae]
 by_cases h1:eO l 0 4095
 ·rw [decide_eq_true h1,cond_true];congr 1;exact decide_eq_decide.2 ⟨fun h=>⟨h1,h⟩,fun h=>h.2⟩
 ·rw [decide_eq_false h1,cond_false,decide_eq_false (fun h=>h1 h.1)]

def xu (l:List (ByteArray×Int)):Prop:=eO l (-1000) 1000

instance (l:List (ByteArray×Int)):Decidable (xu l):=inferInstanceAs (Decidable (eO _ _ _))

theorem eO.out {l:List (ByteArray×Int)} {lo hi:Int} (h:eO l lo hi):(∀ d∈l,eL d.1∧lo≤d.2∧d.2≤hi)∧(l.map (·.1)).Nodup∧l.length≤12:=by
 refine ⟨fun d hd=>?_,?_,h.2⟩
 ·obtain ⟨i,hi',rfl⟩:=List.mem_iff_getElem.1 hd
  have:=h.1 i hi'
  rw [cz hi'] at this
  exact ⟨this.1,this.2.1⟩
 ·rw [List.Nodup,List.pairwise_iff_getElem]
  intro i j hi' hj hij e
  simp only [List.length_map] at hi' hj
  have:=(h.1 j hj).2.2
  rw [cz hj] at this
  apply this
  simp only [List.getElem_map] at e
  unfold dY
  rcases ll (fun d=>decide (d.1=l[j].1)) (l.take j) with ⟨_,_,h3⟩ | ⟨k,d,h1,_⟩
  ·have:=h3 l[i] (List.mem_take_iff_getElem.2 ⟨i,by omega,rfl⟩)
   simp [e] at this
  ·rw [h1];omega

theorem eO.of {l:List (ByteArray×Int)} {lo hi:Int} (h:(∀ d∈l,eL d.1∧lo≤d.2∧d.2≤hi)∧(l.map (·.1)).Nodup∧l.length≤12):eO l lo hi:=by
 refine ⟨fun i hi'=>?_,h.2.2⟩
 have hm:=h.1 _ (List.getElem_mem hi')
 rw [cz hi']
 refine ⟨hm.1,hm.2,?_⟩
 unfold dY
 rcases ll (fun d=>decide (d.1=l[i].1)) (l.take i) with ⟨h1,_⟩ | ⟨k,d,h1,h2,h3,h4,h5,h6⟩
 ·rw [h1];omega
 ·exfalso
  obtain ⟨j,hj,rfl⟩:=List.mem_take_iff_getElem.1 h5
  have hnd:=h.2.1
  rw [List.Nodup,List.pairwise_iff_getElem] at hnd
  have:=hnd j i (by simp;omega) (by simp;omega) (by omega)
  simp only [List.getElem_map] at this
  exact this (by simpa using h6)

theorem nN {k:Nat} (h:k≤11):(2 ^ k:Nat)≤2048:=by
 calc 2 ^ k≤2 ^ 11:=Nat.pow_le_pow_right (by omega) h
  _=2048:=rfl

theorem pc (a p:Nat):Int.tdiv (a:Int) (p:Int)=((a / p:Nat):Int):=by simp [Int.ofNat_tdiv]

theorem oE (a p:Nat):Int.tmod (a:Int) (p:Int)=((a % p:Nat):Int):=by rw [Int.tmod_eq_emod_of_nonneg (by omega)];simp

theorem oM {a p:Int} (ha:I64 a) (hp:1≤p):I64 (Int.tdiv a p):=by
 unfold I64 at *
 by_cases h:0≤a
 ·rw [Int.tdiv_eq_ediv_of_nonneg h]
  have h1:=Int.ediv_nonneg h (by omega:0≤p)
  have h2:=Int.ediv_le_self p h
  omega
 ·have e:Int.tdiv a p = -Int.tdiv (-a) p:=by rw [Int.neg_tdiv,Int.neg_neg]
  have h0:0 ≤ -a:=by omega
  rw [e,Int.tdiv_eq_ediv_of_nonneg h0]
  have h1:=Int.ediv_nonneg h0 (by omega:0≤p)
  have h2:=Int.ediv_le_self p h0
  omega

theorem mT {a b v:Nat} (k:Nat) (hv:v=(a&&&b) % 2 ^ k):(a&&&b) % 2 ^ (k+1)=v+2 ^ k*(if a / 2 ^ k % 2=1∧b / 2 ^ k % 2=1 then 1 else 0):=by
 rw [Nat.mod_pow_succ,hv]
 have h:(a&&&b) / 2 ^ k % 2=if a / 2 ^ k % 2=1∧b / 2 ^ k % 2=1 then 1 else 0:=by
  have e:=Nat.testBit_and a b k
  rw [Nat.testBit_eq_decide_div_mod_eq,Nat.testBit_eq_decide_div_mod_eq,Nat.testBit_eq_decide_div_mod_eq] at e
  rcases Nat.mod_two_eq_zero_or_one (a / 2 ^ k) with ha | ha <;> rcases Nat.mod_two_eq_zero_or_one (b / 2 ^ k) with hb | hb <;> rcases Nat.mod_two_eq_zero_or_one ((a&&&b) / 2 ^ k) with hc | hc <;> simp_all
 rw [h]

theorem AZ (p q:Int) (hp:I64 p) (hq:I64 q) (a b:Nat) (hab:(p=a∧q=b∧a<4096∧b<4096)∨True) :
  Wp (bF p q FU 0 1) (fun r=>(0≤r∧r<4096)∧(p=a→q=b→a<4096→b<4096→r=((a&&&b:Nat):Int))):=by
 refine qV (fun n (s:Int×Int)=>bF p q n s.1 s.2)
  (fun s=>∃ (v k:Nat),s=((v:Int),((2 ^ k:Nat):Int))∧k≤12∧v<2 ^ k∧(p=a→q=b→v=(a&&&b) % 2 ^ k)) (fun s=>4096 - s.2.toNat) _ ?_ FU (0,1) ⟨0,0,rfl,by omega,by simp,fun _ _=>by simp [Nat.mod_one]⟩ (by rw [FU_eq];omega)
 rintro n _ ⟨v,k,rfl,hk,hv,hm⟩ ih
 show Wp (bF p q (n+1) (v:Int) ((2 ^ k:Nat):Int)) _
 rw [bF]
 by_cases h:k=12
 ·subst h
  rw [ai (by decide)]
  refine dP.2 ⟨⟨by omega,by omega⟩,fun h1 h2 h3 h4=>?_⟩
  have h5:a&&&b≤a:=Nat.and_le_left
  rw [hm h1 h2,Nat.mod_eq_of_lt (by omega:(a&&&b)<2 ^ 12)]
 ·have hpl:=nN (k:=k) (by omega)
  have hp0:0<(2 ^ k:Nat):=Nat.pos_of_ne_zero (by simp)
  have ps:(2 ^ (k+1):Nat)=2 ^ k*2:=Nat.pow_succ ..
  have t1:=oM (p:=((2 ^ k:Nat):Int)) hp (by omega)
  have t2:=oM (p:=((2 ^ k:Nat):Int)) hq (by omega)
  have step:∀ (w:Nat),(w=v+2 ^ k∧(p=a→q=b→a / 2 ^ k % 2=1∧b / 2 ^ k % 2=1))∨(w=v∧(p=a→q=b→¬ (a / 2 ^ k % 2=1∧b / 2 ^ k % 2=1))) →
    Wp (bF p q n (w:Int) ((2 ^ (k+1):Nat):Int)) (fun r=>(0≤r∧r<4096)∧(p=a→q=b→a<4096→b<4096→r=((a&&&b:Nat):Int))):=by
   intro w hw
   refine ih ((w:Int),((2 ^ (k+1):Nat):Int)) ⟨w,k+1,rfl,by omega,by omega,fun h1 h2=>?_⟩ (by simp only [Int.toNat_natCast];omega)
   rw [mT k (hm h1 h2)]
   rcases hw with ⟨rfl,h3⟩ | ⟨rfl,h3⟩
   ·rw [if_pos (h3 h1 h2)];omega
   ·rw [if_neg (h3 h1 h2)];omega
  rw [ak (by omega),al ⟨by omega,w64 t1.1 t1.2⟩,al (by omega),al ⟨by omega,w64 t2.1 t2.2⟩,
   w64 (a:=((2 ^ k:Nat):Int)*2) (by omega) (by omega),w64 (a:=(v:Int)+((2 ^ k:Nat):Int)) (by omega) (by omega),
   show ((2 ^ k:Nat):Int)*2=((2 ^ (k+1):Nat):Int) by omega,show (v:Int)+((2 ^ k:Nat):Int)=((v+2 ^ k:Nat):Int) by omega]
  have f1:p=a→(Int.tmod (Int.tdiv p ((2 ^ k:Nat):Int)) 2=1↔a / 2 ^ k % 2=1):=by
   rintro rfl;rw [pc,show (2:Int)=((2:Nat):Int) from rfl,oE];omega
  have f2:q=b→(Int.tmod (Int.tdiv q ((2 ^ k:Nat):Int)) 2=1↔b / 2 ^ k % 2=1):=by
   rintro rfl;rw [pc,show (2:Int)=((2:Nat):Int) from rfl,oE];omega
  by_cases c1:Int.tmod (Int.tdiv p ((2 ^ k:Nat):Int)) 2=1
  ·rw [ak c1]
   by_cases c2:Int.tmod (Int.tdiv q ((2 ^ k:Nat):Int)) 2=1
   ·rw [ak c2]
    exact step _ (.inl ⟨rfl,fun h1 h2=>⟨(f1 h1).1 c1,(f2 h2).1 c2⟩⟩)
   ·rw [ai c2]
    exact step _ (.inr ⟨rfl,fun h1 h2 h=>c2 ((f2 h2).2 h.2)⟩)
  ·rw [ai c1]
   exact step _ (.inr ⟨rfl,fun h1 h2 h=>c1 ((f1 h1).2 h.1)⟩)

theorem lR {a b:Nat} (ha:a<4096) (hb:b<4096):eH (a:Int) (b:Int)=some ((a&&&b:Nat):Int):=by
 obtain ⟨r,e,_,h⟩:=AZ a b ⟨by omega,by omega⟩ ⟨by omega,by omega⟩ a b (.inr trivial)
 rw [eH,e,ae,h rfl rfl ha hb]

theorem oD {a b:Nat} (ha:a<4096) (hb:b<4096):a|||b<4096:=Nat.or_lt_two_pow (n:=12) ha hb

theorem fI {a b:Nat} (ha:a<4096) (hb:b<4096):cI (a:Int) (b:Int)=some ((aM a b:Nat):Int):=by
 have hx:a&&&b≤a:=Nat.and_le_left
 rw [cI,lR ha hb,ae,w64 (by omega) (by omega),aM]
 congr 1;omega

theorem rZ {a b:Nat} (ha:a<4096) (hb:b<4096):dX (a:Int) (b:Int)=some ((a|||b:Nat):Int):=by
 have hx:=pd a b
 have hy:a&&&b≤a:=Nat.and_le_left
 rw [dX,lR ha hb,ae]
 rw [w64 (a:=(a:Int)+(b:Int)) (by omega) (by omega),w64 (by omega) (by omega)]
 congr 1;omega

def V12 (l:List (ByteArray×Int)):Prop:=∀ d∈l,0≤d.2∧d.2<4096

def aP (l:List (ByteArray×Int)):Nat:=l.foldl (fun m d=>m|||d.2.toNat) 0

theorem bG.v12 {l:List (ByteArray×Int)} {b:Int} (h:bG l b):V12 l:=fun d hd=>by
 have:=(h.1.out.1 d hd).2;omega

theorem bG.len {l:List (ByteArray×Int)} {b:Int} (h:bG l b):l.length≤12:=h.1.2

theorem mask_fold_lt:∀ (l:List (ByteArray×Int)) (m:Nat),V12 l→m<4096→l.foldl (fun m d=>m|||d.2.toNat) m<4096
 | [],m,_,h=>h
 | d::l,m,hv,h=>by
  have hd:=hv d (by simp)
  exact mask_fold_lt l (m|||d.2.toNat) (fun x hx=>hv x (by simp [hx])) (oD h (by omega))

theorem eJ {l:List (ByteArray×Int)} (hv:V12 l):aP l<4096:=mask_fold_lt l 0 hv (by omega)

theorem mj (i:Nat):∀ (l:List (ByteArray×Int)) (m:Nat),(l.foldl (fun m d=>m|||d.2.toNat) m).testBit i=(m.testBit i || l.any fun d=>d.2.toNat.testBit i)
 | [],m=>by simp
 | d::l,m=>by rw [List.foldl_cons,mj i l,Nat.testBit_or,List.any_cons,Bool.or_assoc]

theorem iR (l:List (ByteArray×Int)) (i:Nat):(aP l).testBit i=l.any fun d=>d.2.toNat.testBit i:=by
 rw [aP,mj];simp

theorem nmask_nil:aP []=0:=rfl

theorem pi (d:ByteArray×Int) (l:List (ByteArray×Int)):aP (d::l)=d.2.toNat|||aP l:=by
 apply Nat.eq_of_testBit_eq;intro i
 rw [Nat.testBit_or,iR,iR,List.any_cons]

theorem vW (l:List (ByteArray×Int)):∀ m:Nat,l.foldl (fun (s:Int) d=>((s.toNat|||d.2.toNat:Nat):Int)) (m:Int)=((l.foldl (fun m d=>m|||d.2.toNat) m:Nat):Int):=by
 induction l with
 | nil=>intro m;rfl
 | cons d l ih=>intro m;rw [List.foldl_cons,List.foldl_cons,Int.toNat_natCast,ih]

theorem jv {l:List (ByteArray×Int)} (hv:V12 l) (hl:l.length≤1099511627776):dg l=some ((aP l:Nat):Int):=by
 have h:=(nu l (eB l) (fun (s:Int) d=>((s.toNat|||d.2.toNat:Nat):Int)) (fun _ s=>0≤s∧s<4096) ?_ ?_ FU (by rw [FU_eq];omega) 0 (by omega)).1
 ·rw [dg,h,ae,aP,show (0:Int)=((0:Nat):Int) from rfl,vW]
 ·intro n s;rw [eB,ai (by omega)]
 ·intro n i s hi hm hI
  have hd:=hv _ hm
  obtain ⟨a,rfl⟩:=Int.eq_ofNat_of_zero_le hI.1
  obtain ⟨v,hv2⟩:=Int.eq_ofNat_of_zero_le hd.1
  have h1:=oD (a:=a) (b:=v) (by omega) (by omega)
  rw [eB,ak (by omega),al (by omega),hv2,rZ (by omega) (by omega),ae,cj (by omega)]
  refine ⟨?_,rfl⟩
  simp only [Int.toNat_natCast];omega

theorem kH {l:List (ByteArray×Int)} (b:Int) (hv:V12 l) (hl:l.length≤1099511627776):cK l b=some ((aP l:Nat):Int):=by
 have h:=(nu l (cM l) (fun (s:Int) d=>((s.toNat|||d.2.toNat:Nat):Int)) (fun _ s=>0≤s∧s<4096) ?_ ?_ FU (by rw [FU_eq];omega) 0 (by omega)).1
 ·rw [cK,h,ae,aP,show (0:Int)=((0:Nat):Int) from rfl,vW]
 ·intro n s;rw [cM,ai (by omega)]
 ·intro n i s hi hm hI
  have hd:=hv _ hm
  obtain ⟨a,rfl⟩:=Int.eq_ofNat_of_zero_le hI.1
  obtain ⟨v,hv2⟩:=Int.eq_ofNat_of_zero_le hd.1
  have h1:=oD (a:=a) (b:=v) (by omega) (by omega)
  rw [cM,ak (by omega),al (by omega),hv2,Bc (by omega) (by omega),cj (by omega)]
  refine ⟨?_,rfl⟩
  simp only [Int.toNat_natCast];omega

def pop (n:Nat):Nat:=(List.range 12).countP (fun i=>n.testBit i)

theorem A5 {v:Nat} (h:v<4096):pop v=v % 2+pop (v / 2):=by
 have e1:∀ i,(v / 2).testBit i=v.testBit (i+1):=fun i=>by rw [Nat.testBit_succ]
 have e2:v.testBit 12=false:=Nat.testBit_lt_two_pow h
 have e3:v.testBit 0=decide (v % 2=1):=Nat.testBit_zero v
 unfold pop
 simp only [e1,List.range_succ,List.range_zero,List.nil_append,List.countP_append,List.countP_cons,List.countP_nil,e2,e3,Nat.zero_add]
 rcases Nat.mod_two_eq_zero_or_one v with h2 | h2 <;> simp [h2] <;> omega

theorem pop_zero:pop 0=0:=by decide

def chk (f:Nat→Bool):Nat→Bool
 | 0=>true
 | n+1=>f n && chk f n

theorem qZ {f:Nat→Bool}:∀ {n:Nat},chk f n=true→∀ i,i<n→f i=true
 | 0,_,i,hi=>by omega
 | n+1,h,i,hi=>by
  rw [chk,Bool.and_eq_true] at h
  by_cases e:i=n
  ·subst e;exact h.1
  ·exact qZ h.2 i (by omega)

theorem ql {a b:Nat} (ha:a<18446744073709551616) (hb:b<18446744073709551616):Go.bits .and .u64 (a:Int) (b:Int)=((a&&&b:Nat):Int):=by
 have hx:a&&&b≤a:=Nat.and_le_left
 have bv:∀ c:Nat,c<18446744073709551616→(BitVec.ofInt 64 (c:Int)).toNat=c:=fun c hc=>by
  rw [BitVec.ofInt_natCast,BitVec.toNat_ofNat];exact Nat.mod_eq_of_lt (by omega)
 show IntKind.u64.wrap ((BitVec.ofInt 64 (a:Int)&&&BitVec.ofInt 64 (b:Int)).toNat:Int)=_
 rw [BitVec.toNat_and,bv a ha,bv b hb,IntKind.wrap_u64];omega

theorem qR {a:Int} (h1:0≤a) (h2:a≤18446744073709551615):IntKind.wrap .u64 a=a:=by
 rw [IntKind.wrap_u64];omega

def Ck (n:Nat):Nat :=
 let v3:=((n / 2)&&&6148914691236517205)+(n&&&6148914691236517205)
 let v5:=((v3 / 4)&&&3689348814741910323)+(v3&&&3689348814741910323)
 let v6:=(v5 / 16+v5)&&&1085102592571150095
 let v8:=v6+v6 / 256+(v6+v6 / 256) / 65536
 (v8+v8 / 4294967296)&&&127

def popr:Nat→Nat→Nat
 | 0,_=>0
 | k+1,n=>n % 2+popr k (n / 2)

theorem pop_popr:∀ (k n:Nat),k≤12→n<2 ^ k→pop n=popr k n
 | 0,n,_,h=>by
  have:n=0:=by omega
  subst this;exact pop_zero
 | k+1,n,hk,h=>by
  have h2:(2 ^ (k+1):Nat)≤4096:=Nat.pow_le_pow_right (n:=2) (by omega) hk
  rw [A5 (by omega),popr,pop_popr k (n / 2) (by omega) (by rw [Nat.pow_succ] at h;omega)]

set_option maxRecDepth 100000 in
theorem swar_chk:chk (fun n=>Nat.beq (Ck n) (popr 12 n)) 4096=true:=by decide +kernel

theorem vj {n:Nat} (h:n<4096):eG (n:Int)=some ((pop n:Nat):Int):=by
 have hs:=Nat.eq_of_beq_eq_true (qZ swar_chk n h)
 rw [pop_popr 12 n (by omega) h,← hs,eG,fh]
 have d:∀ (a k:Nat),(a:Int) / 2 ^ (((k:Nat):Int)).toNat=((a / 2 ^ k:Nat):Int):=fun a k=>by rw [Int.toNat_natCast];simp
 have hg:∀ k:Nat,k≤64→(0:Int)≤((k:Nat):Int)∧((k:Nat):Int)≤(IntKind.bits .u64:Int):=fun k hk=>⟨by omega,by simp [IntKind.bits];omega⟩
 have d1:∀ a:Nat,(a:Int) / 2 ^ (1:Int).toNat=((a / 2:Nat):Int):=fun a=>d a 1
 have h1:0≤(1:Int)∧(1:Int)≤(IntKind.bits .u64:Int):=hg 1 (by omega)
 have d2:∀ a:Nat,(a:Int) / 2 ^ (2:Int).toNat=((a / 4:Nat):Int):=fun a=>d a 2
 have h2:0≤(2:Int)∧(2:Int)≤(IntKind.bits .u64:Int):=hg 2 (by omega)
 have d4:∀ a:Nat,(a:Int) / 2 ^ (4:Int).toNat=((a / 16:Nat):Int):=fun a=>d a 4
 have h4:0≤(4:Int)∧(4:Int)≤(IntKind.bits .u64:Int):=hg 4 (by omega)
 have d8:∀ a:Nat,(a:Int) / 2 ^ (8:Int).toNat=((a / 256:Nat):Int):=fun a=>d a 8
 have h8:0≤(8:Int)∧(8:Int)≤(IntKind.bits .u64:Int):=hg 8 (by omega)
 have d16:∀ a:Nat,(a:Int) / 2 ^ (16:Int).toNat=((a / 65536:Nat):Int):=fun a=>d a 16
 have h16:0≤(16:Int)∧(16:Int)≤(IntKind.bits .u64:Int):=hg 16 (by omega)
 have d32:∀ a:Nat,(a:Int) / 2 ^ (32:Int).toNat=((a / 4294967296:Nat):Int):=fun a=>d a 32
 have h32:0≤(32:Int)∧(32:Int)≤(IntKind.bits .u64:Int):=hg 32 (by omega)
 have c1:(6148914691236517205:Int)=((6148914691236517205:Nat):Int):=rfl
 have c2:(3689348814741910323:Int)=((3689348814741910323:Nat):Int):=rfl
 have c3:(1085102592571150095:Int)=((1085102592571150095:Nat):Int):=rfl
 have e3:IntKind.wrap .u64 (Go.bits .and .u64 ((n:Int) / 2 ^ (1:Int).toNat) 6148914691236517205+Go.bits .and .u64 (n:Int) 6148914691236517205)=((((n / 2)&&&6148914691236517205)+(n&&&6148914691236517205):Nat):Int)∧((n / 2)&&&6148914691236517205)+(n&&&6148914691236517205)<8192:=by
  have b1:(n / 2)&&&6148914691236517205≤n / 2:=Nat.and_le_left
  have b2:n&&&6148914691236517205≤n:=Nat.and_le_left
  rw [d1,c1,ql (by omega) (by omega),ql (by omega) (by omega),qR (by omega) (by omega)]
  exact ⟨by simp,by omega⟩
 unfold Ck
 simp only [bN,al h1,al h2,al h4,al h8,al h16,al h32,ae]
 rw [e3.1]
 obtain ⟨-,hv3⟩:=e3
 generalize ((n / 2)&&&6148914691236517205)+(n&&&6148914691236517205)=v3 at *
 have e5:IntKind.wrap .u64 (Go.bits .and .u64 ((v3:Int) / 2 ^ (2:Int).toNat) 3689348814741910323+Go.bits .and .u64 (v3:Int) 3689348814741910323)=((((v3 / 4)&&&3689348814741910323)+(v3&&&3689348814741910323):Nat):Int)∧((v3 / 4)&&&3689348814741910323)+(v3&&&3689348814741910323)<16384:=by
  have b1:(v3 / 4)&&&3689348814741910323≤v3 / 4:=Nat.and_le_left
  have b2:v3&&&3689348814741910323≤v3:=Nat.and_le_left
  rw [d2,c2,ql (by omega) (by omega),ql (by omega) (by omega),qR (by omega) (by omega)]
  exact ⟨by simp,by omega⟩
 rw [e5.1]
 obtain ⟨-,hv5⟩:=e5
 generalize ((v3 / 4)&&&3689348814741910323)+(v3&&&3689348814741910323)=v5 at *
 have e6:Go.bits .and .u64 (IntKind.wrap .u64 ((v5:Int) / 2 ^ (4:Int).toNat+(v5:Int))) 1085102592571150095=(((v5 / 16+v5)&&&1085102592571150095:Nat):Int)∧(v5 / 16+v5)&&&1085102592571150095<32768:=by
  have b1:(v5 / 16+v5)&&&1085102592571150095≤v5 / 16+v5:=Nat.and_le_left
  rw [d4,qR (by omega) (by omega),c3,show ((v5 / 16:Nat):Int)+(v5:Int)=((v5 / 16+v5:Nat):Int) by simp,ql (by omega) (by omega)]
  exact ⟨rfl,by omega⟩
 rw [e6.1]
 obtain ⟨-,hv6⟩:=e6
 generalize (v5 / 16+v5)&&&1085102592571150095=v6 at *
 have e7:IntKind.wrap .u64 ((v6:Int)+(v6:Int) / 2 ^ (8:Int).toNat)=((v6+v6 / 256:Nat):Int):=by
  rw [d8,qR (by omega) (by omega)];simp
 rw [e7]
 have e8:IntKind.wrap .u64 (((v6+v6 / 256:Nat):Int)+((v6+v6 / 256:Nat):Int) / 2 ^ (16:Int).toNat)=((v6+v6 / 256+(v6+v6 / 256) / 65536:Nat):Int):=by
  rw [d16,qR (by omega) (by omega)];simp
 rw [e8]
 have hv8:v6+v6 / 256+(v6+v6 / 256) / 65536<65536:=by omega
 generalize v6+v6 / 256+(v6+v6 / 256) / 65536=v8 at *
 rw [d32,qR (by omega) (by omega),w64 (by omega) (by omega),show (v8:Int)+((v8 / 4294967296:Nat):Int)=((v8+v8 / 4294967296:Nat):Int) by simp,show (127:Int)=((127:Nat):Int) from rfl,wX (by omega) (by omega)]

theorem iK {a b:Nat}:aM a b=0↔∀ i,a.testBit i=true→b.testBit i=true:=by
 constructor
 ·intro h i hi
  have:=dG a b i
  rw [h,Nat.zero_testBit,hi] at this
  simpa using this
 ·intro h
  apply Nat.eq_of_testBit_eq;intro i
  rw [dG,Nat.zero_testBit]
  cases hi:a.testBit i
  ·rfl
  ·rw [h i hi];rfl

theorem uO {a b:Nat}:aM a b=0↔a&&&b=a:=by
 have:a&&&b≤a:=Nat.and_le_left
 unfold aM;omega

theorem rR {a b:Nat} (h:aM a b=0):a≤b:=by
 have h1:=uO.1 h
 have h2:a&&&b≤b:=Nat.and_le_right
 omega

theorem A1 (a b m:Nat):aM (a|||b) m=aM a m|||aM b m:=by
 apply Nat.eq_of_testBit_eq;intro i
 simp only [dG,Nat.testBit_or]
 cases a.testBit i <;> cases b.testBit i <;> cases m.testBit i <;> rfl

theorem yJ {a:Int} (ha:I64 a):(BitVec.ofInt 64 a).toNat=(a % 18446744073709551616).toNat:=by
 rw [BitVec.toNat_ofInt];rfl

theorem mS {a:Int} {m:Nat} (ha:I64 a) (hm:m<4096):Go.bits .andNot .i64 a (m:Int)=0↔0≤a∧aM a.toNat m=0:=by
 by_cases h0:0≤a
 ·obtain ⟨n,rfl⟩:=Int.eq_ofNat_of_zero_le h0
  have:=ha.2
  rw [jt (by omega) (by omega),Int.toNat_natCast]
  omega
 ·constructor
  ·intro h
   exfalso
   have e:Go.bits .andNot .i64 a (m:Int)=IntKind.wrap .i64 (((BitVec.ofInt 64 a&&&~~~ BitVec.ofInt 64 (m:Int)).toNat:Nat):Int):=rfl
   rw [e,IntKind.wrap_i64] at h
   have hlt:=(BitVec.ofInt 64 a&&&~~~ BitVec.ofInt 64 (m:Int)).isLt
   have hz:(BitVec.ofInt 64 a&&&~~~ BitVec.ofInt 64 (m:Int)).toNat=0:=by omega
   have hb:=congrArg (fun n=>n.testBit 63) hz
   simp only [BitVec.testBit_toNat,BitVec.getLsbD_and,BitVec.getLsbD_not,Nat.zero_testBit] at hb
   have hM:(BitVec.ofInt 64 (m:Int)).getLsbD 63=false:=by
    rw [← BitVec.testBit_toNat,sN m (by omega)]
    exact Nat.testBit_lt_two_pow (Nat.lt_of_lt_of_le (by omega:m<2 ^ 12) (Nat.pow_le_pow_right (by omega) (by omega)))
   have hA:(BitVec.ofInt 64 a).getLsbD 63=true:=by
    rw [← BitVec.testBit_toNat,yJ ha,Nat.testBit_eq_decide_div_mod_eq]
    have:=ha.1
    have h1:(a % 18446744073709551616).toNat / 2 ^ 63=1:=by omega
    rw [h1];rfl
   rw [hM,hA] at hb
   simp at hb
  ·intro h;exact absurd h.1 h0

def aU (f:List (ByteArray×Int)) (b n:Int):Prop:=bG f b∧(0≤n∧n≤4095)∧(b=3∨aM n.toNat (aP f)=0)

instance (f:List (ByteArray×Int)) (b n:Int):Decidable (aU f b n):=inferInstanceAs (Decidable (_∧_))

theorem dW {f:List (ByteArray×Int)} (h:cH f) (b n:Int):bY f b n=some (decide (aU f b n)):=by
 rw [bY,jS h,ae]
 by_cases hf:bG f b
 ·rw [decide_eq_true hf,cond_true,lv,ae]
  by_cases hn:0≤n∧n≤4095
  ·rw [decide_eq_true hn,cond_true]
   by_cases hb:b=3
   ·rw [ak hb,decide_eq_true (show aU f b n from ⟨hf,hn,.inl hb⟩)]
   ·rw [ai hb,kH b hf.v12 h.1,ae]
    have h2:=mS (a:=n) (m:=aP f) ⟨by omega,by omega⟩ (eJ hf.v12)
    congr 1
    refine decide_eq_decide.2 (h2.trans ⟨fun h=>⟨hf,hn,.inr h.2⟩,fun h=>⟨hn.1,?_⟩⟩)
    rcases h.2.2 with h | h
    ·exact absurd h hb
    ·exact h
  ·rw [decide_eq_false hn,cond_false,decide_eq_false (fun h=>hn h.2.1)]
 ·rw [decide_eq_false hf,cond_false,decide_eq_false (fun h=>hf h.1)]

theorem kQ {f:List (ByteArray×Int)} (h:cH f) (b n:Int):ft f b n=some (decide (aU f b n)):=by
 rw [ft,nV h,ae]
 by_cases hf:bG f b
 ·rw [decide_eq_true hf,cond_true,gH,ae]
  by_cases hn:0≤n∧n≤4095
  ·rw [decide_eq_true hn,cond_true]
   by_cases hb:b=3
   ·rw [ak hb,decide_eq_true (show aU f b n from ⟨hf,hn,.inl hb⟩)]
   ·have hm:=eJ hf.v12
    rw [ai hb,jv hf.v12 h.1,ae]
    have hn':n=((n.toNat:Nat):Int):=by omega
    rw [hn',fI (by omega) hm,ae,← hn']
    congr 1
    refine decide_eq_decide.2 ⟨fun h=>⟨hf,hn,.inr (by omega)⟩,fun h=>?_⟩
    rcases h.2.2 with h | h
    ·exact absurd h hb
    ·omega
  ·rw [decide_eq_false hn,cond_false,decide_eq_false (fun h=>hn h.2.1)]
 ·rw [decide_eq_false hf,cond_false,decide_eq_false (fun h=>hf h.1)]

def Cj (l:List (Int×Int)):Prop:=l.length≤1099511627776∧∀ d∈l,I64 d.1∧I64 d.2

def parts (m:Nat):List Int:=((List.range (m+1)).filter (fun n=>decide (aM n m=0))).map Int.ofNat

def fV (l:List Int):Prop:=∀ n∈l,0≤n∧n<256

theorem mo {a b:Int} (ha:0≤a) (hb:0<b):0≤Int.tmod a b∧Int.tmod a b<b:=by
 rw [Int.tmod_eq_emod_of_nonneg ha]
 exact ⟨Int.emod_nonneg _ (by omega),Int.emod_lt_of_pos _ hb⟩

theorem tx {a b:Int} (ha:0≤a) (hb:0<b):0≤Int.tdiv a b∧Int.tdiv a b≤a:=by
 rw [Int.tdiv_eq_ediv_of_nonneg ha]
 exact ⟨Int.ediv_nonneg ha (by omega),Int.ediv_le_self _ ha⟩

theorem pick {n:Int} {code:List Int} {p:Int} (hc:fV code) (hl:code.length≤9223372036854775807) (hp:0≤p∧p<1000000) :
  ∃ x,aJ n code p=some x∧0≤x∧(1≤n→x<n):=by
 unfold aJ
 by_cases h1:n<1
 ·exact ⟨0,by rw [decide_eq_true h1,cond_true],by omega,fun h=>by omega⟩
 rw [decide_eq_false h1,cond_false]
 by_cases h2:(code.length:Int)=0
 ·exact ⟨0,by rw [decide_eq_true h2,cond_true],by omega,fun h=>by omega⟩
 rw [decide_eq_false h2,cond_false]
 have e1:IntKind.wrap .i64 (IntKind.wrap .i64 (p+1) - 1)=p:=by
  rw [w64 (a:=p+1) (by omega) (by omega),w64 (by omega) (by omega)];omega
 have hL:0<(code.length:Int):=by omega
 simp only [e1,bN]
 by_cases h3:p<(code.length:Int)
 ·have hb:=hc _ (eD ⟨hp.1,h3⟩)
  rw [decide_eq_true h3,cond_true,al ⟨hp.1,h3⟩,al (by omega),w64 (by omega) (by omega)]
  have:=mo (a:=gt code p) (b:=n) hb.1 (by omega)
  exact ⟨_,rfl,this.1,fun _=>this.2⟩
 rw [decide_eq_false h3,cond_false,al (by omega)]
 have t1:=mo hp.1 hL
 rw [al t1,w64 (a:=p*7) (by omega) (by omega),w64 (a:=p*7+3) (by omega) (by omega)]
 have t2:=mo (a:=p*7+3) (by omega) hL
 rw [al t2]
 have b1:=hc _ (eD t1)
 have b2:=hc _ (eD t2)
 generalize gt code (Int.tmod p (code.length:Int))=u at *
 generalize gt code (Int.tmod (p*7+3) (code.length:Int))=v at *
 have t3:=tx hp.1 hL
 generalize Int.tdiv p (code.length:Int)=q at *
 rw [al ⟨by omega,w64 (by omega) (by omega)⟩]
 rw [w64 (a:=u) (by omega) (by omega),w64 (a:=u*131) (by omega) (by omega),w64 (a:=v) (by omega) (by omega),w64 (a:=v*1117) (by omega) (by omega),w64 (a:=u*131+v*1117) (by omega) (by omega),
  w64 (a:=p*29) (by omega) (by omega),w64 (a:=u*131+v*1117+p*29) (by omega) (by omega),w64 (a:=q*53) (by omega) (by omega),w64 (a:=u*131+v*1117+p*29+q*53) (by omega) (by omega)]
 have hz:0≤u*131+v*1117+p*29+q*53∧u*131+v*1117+p*29+q*53<1000000000:=by omega
 generalize u*131+v*1117+p*29+q*53=z at *
 have t4:=tx (a:=z) (b:=64) hz.1 (by omega)
 rw [al ⟨by omega,w64 (by omega) (by omega)⟩,al (by omega)]
 have hx:∃ y:Nat,Go.bits .xor .i64 z (Int.tdiv z 64)=(y:Int):=by
  obtain ⟨a,ha⟩:=Int.eq_ofNat_of_zero_le hz.1
  obtain ⟨b,hb⟩:=Int.eq_ofNat_of_zero_le t4.1
  refine ⟨a ^^^ b,?_⟩
  rw [hb,ha]
  exact Cr (by omega) (by omega)
 obtain ⟨y,hy⟩:=hx
 rw [hy]
 have:=mo (a:=(y:Int)) (b:=n) (by omega) (by omega)
 exact ⟨_,rfl,this.1,fun _=>this.2⟩

theorem one {code:List Int} {p:Int} (hc:fV code) (hl:code.length≤9223372036854775807) (hp:0≤p∧p<1000000) {xs:List Int} (hx:xs≠[]):∃ x,cv xs code p=some x∧x∈xs:=by
 have h1:1≤(xs.length:Int):=by
  have:=List.length_pos_iff.2 hx
  omega
 obtain ⟨x,e,h0,h2⟩:=pick (n:=(xs.length:Int)) hc hl hp
 refine ⟨gt xs x,?_,eD ⟨h0,h2 h1⟩⟩
 rw [cv,e,ae,al ⟨h0,h2 h1⟩]

theorem wV {code:List Int} {p:Int} (hc:fV code) (hl:code.length≤9223372036854775807) (hp:0≤p∧p<1000000) {xs:List ByteArray} (hx:xs≠[]):∃ x,bq xs code p=some x∧x∈xs:=by
 have h1:1≤(xs.length:Int):=by
  have:=List.length_pos_iff.2 hx
  omega
 obtain ⟨x,e,h0,h2⟩:=pick (n:=(xs.length:Int)) hc hl hp
 refine ⟨gt xs x,?_,eD ⟨h0,h2 h1⟩⟩
 rw [bq,e,ae,al ⟨h0,h2 h1⟩]

theorem BC {code:List Int} {p:Int} (hc:fV code) (hl:code.length≤9223372036854775807) (hp:0≤p∧p<1000000):∃ x,iB code p=some x∧x.size≤7:=by
 unfold iB
 obtain ⟨x,e,h⟩:=wV hc hl hp (xs:=[(ByteArray.mk #[97]),(ByteArray.mk #[98]),(ByteArray.mk #[99]),(ByteArray.mk #[100]),(ByteArray.mk #[101]),(ByteArray.mk #[97,98]),(ByteArray.mk #[114,101,100]),(ByteArray.mk #[98,108,117,101]),(ByteArray.mk #[111,110]),(ByteArray.mk #[111,102,102]),(ByteArray.mk #[97,108,108]),(ByteArray.mk #[102])]) (by simp)
 refine ⟨x,by rw [e];rfl,?_⟩
 simp only [List.mem_cons,List.not_mem_nil,or_false] at h
 rcases h with rfl | rfl | rfl | rfl | rfl | rfl | rfl | rfl | rfl | rfl | rfl | rfl <;> decide

theorem vk {code:List Int} {p:Int} (hc:fV code) (hl:code.length≤9223372036854775807) (hp:0≤p∧p<1000000) (hp':p<999999):∃ x,fp code p=some x∧x.size≤7:=by
 unfold fp
 obtain ⟨x,e,h0,h2⟩:=pick (n:=16) hc hl hp
 rw [e,ae,w64 (by omega) (by omega)]
 by_cases h:x=0
 ·rw [decide_eq_true h,cond_true]
  obtain ⟨y,e2,h3⟩:=wV hc hl (p:=p+1) ⟨by omega,by omega⟩ (xs:=[ByteArray.empty,(ByteArray.mk #[65]),(ByteArray.mk #[116,111,111,108,111,110,103]),(ByteArray.mk #[97,49]),(ByteArray.mk #[97,32,98]),(ByteArray.mk #[97,98,99,100,101,102])]) (by simp)
  refine ⟨y,by rw [e2];rfl,?_⟩
  simp only [List.mem_cons,List.not_mem_nil,or_false] at h3
  rcases h3 with rfl | rfl | rfl | rfl | rfl | rfl <;> decide
 ·rw [decide_eq_false h,cond_false]
  obtain ⟨y,e2,h3⟩:=BC hc hl (p:=p+1) ⟨by omega,by omega⟩
  exact ⟨y,by rw [e2];rfl,h3⟩

def iL (l:List (ByteArray×Int)):Prop:=l.length≤26∧∀ d∈l,d.1.size≤7 ∧ -5000≤d.2∧d.2≤5000

theorem iL.snoc {l:List (ByteArray×Int)} {d:ByteArray×Int} (h:∀ d∈l,d.1.size≤7 ∧ -5000≤d.2∧d.2≤5000) (hd:d.1.size≤7 ∧ -5000≤d.2∧d.2≤5000):∀ e∈l++[d],e.1.size≤7 ∧ -5000≤e.2∧e.2≤5000:=by
 intro e he
 rcases List.mem_append.1 he with he | he
 ·exact h e he
 ·simp at he;subst he;exact hd

theorem nO {code:List Int} (hc:fV code) (hl:code.length≤9223372036854775807) (high:Int):∀ (k n:Nat) (v5:List (ByteArray×Int)) (v7:Int),k<n→k≤12→0≤v7→v7+5*k<900000→v5.length+k≤12→(∀ d∈v5,d.1.size≤7 ∧ -5000≤d.2∧d.2≤5000) →
  ∃ r,aQ high code n v5 (k:Int) v7=some r∧(∀ d∈r.1,d.1.size≤7 ∧ -5000≤d.2∧d.2≤5000)∧r.1.length≤12∧v7≤r.2∧r.2≤v7+5*k
 | 0,n,v5,v7,hn,hk,h0,h1,h2,hg=>by
  cases n with
  | zero=>omega
  | succ n=>exact ⟨(v5,v7),by rw [aQ,decide_eq_false (by omega),cond_false],hg,by simpa using h2,by simp,by simp⟩
 | k+1,n,v5,v7,hn,hk,h0,h1,h2,hg=>by
  cases n with
  | zero=>omega
  | succ n =>
   rw [aQ,decide_eq_true (by omega),cond_true]
   rw [w64 (a:=v7+1) (by omega) (by omega),w64 (a:=v7+1+1) (by omega) (by omega),w64 (a:=v7+1+1+1) (by omega) (by omega),w64 (a:=v7+1+1+1+1) (by omega) (by omega),w64 (a:=v7+1+1+1+1+1) (by omega) (by omega),
    w64 (a:=((k+1:Nat):Int) - 1) (by omega) (by omega)]
   obtain ⟨x8,e8,s8⟩:=BC hc hl (p:=v7) ⟨by omega,by omega⟩
   obtain ⟨x9,e9,l9,u9⟩:=pick (n:=12) hc hl (p:=v7+1) ⟨by omega,by omega⟩
   obtain ⟨x10,e10,m10⟩:=one hc hl (p:=v7+1+1) ⟨by omega,by omega⟩ (xs:=([1,2,3,4,5,0,8,x9,(-1),7,1000,16]:List Int)) (by simp)
   obtain ⟨x11,e11,l11,u11⟩:=pick (n:=64) hc hl (p:=v7+1+1+1) ⟨by omega,by omega⟩
   obtain ⟨x12,e12,m12⟩:=one hc hl (p:=v7+1+1+1+1) ⟨by omega,by omega⟩ (xs:=([1,2,4,8,3,16,0,6,7,x11,2048,5,1,2,4]:List Int)) (by simp)
   have r12:0≤x12∧x12<4096:=by
    have:=u11 (by omega)
    simp only [List.mem_cons,List.not_mem_nil,or_false] at m12
    omega
   have r10 : -1≤x10∧x10≤1000:=by
    have:=u9 (by omega)
    simp only [List.mem_cons,List.not_mem_nil,or_false] at m10
    omega
   have e13:=ld v5 x8 (by omega)
   rw [e8,ae,e9,ae,e10,ae,e11,ae,e12,ae,e13,ae,ae,show ((k+1:Nat):Int) - 1=(k:Int) by omega]
   have keep:∀ q,0≤q→q≤v7+5→v7≤q→∃ r,aQ high code n v5 (k:Int) q=some r∧(∀ d∈r.1,d.1.size≤7 ∧ -5000≤d.2∧d.2≤5000)∧r.1.length≤12∧v7≤r.2∧r.2≤v7+5*((k+1:Nat):Int):=by
    intro q q0 q1 q2
    obtain ⟨r,er,g1,g2,g3,g4⟩:=nO hc hl high k n v5 q (by omega) (by omega) q0 (by omega) (by omega) hg
    exact ⟨r,er,g1,by omega,by omega,by omega⟩
   have put:∀ x q,(-5000≤x∧x≤5000)→0≤q→q≤v7+5→v7≤q→∃ r,(gd (v5.length+[(x8,x)].length≤1099511627776) <| aQ high code n (v5++[(x8,x)]) (k:Int) q)=some r∧(∀ d∈r.1,d.1.size≤7 ∧ -5000≤d.2∧d.2≤5000)∧r.1.length≤12∧v7≤r.2∧r.2≤v7+5*((k+1:Nat):Int):=by
    intro x q hx q0 q1 q2
    rw [al (by rw [List.length_singleton];omega)]
    obtain ⟨r,er,g1,g2,g3,g4⟩:=nO hc hl high k n (v5++[(x8,x)]) q (by omega) (by omega) q0 (by omega) (by simp;omega) (iL.snoc hg ⟨s8,hx⟩)
    exact ⟨r,er,g1,by omega,by omega,by omega⟩
   by_cases hh:high=4095
   ·rw [decide_eq_true hh,cond_true]
    by_cases h:dY v5 x8<0
    ·rw [decide_eq_true h,cond_true,decide_eq_true r12.1,cond_true]
     exact put _ _ ⟨by omega,by omega⟩ (by omega) (by omega) (by omega)
    ·rw [decide_eq_false h,cond_false]
     exact keep _ (by omega) (by omega) (by omega)
   ·rw [decide_eq_false hh,cond_false]
    by_cases h:dY v5 x8<0
    ·rw [decide_eq_true h,cond_true,Bool.not_false,cond_true]
     cases decide (0≤x10) <;> exact put _ _ ⟨by omega,by omega⟩ (by omega) (by omega) (by omega)
    ·rw [decide_eq_false h,cond_false]
     exact keep _ (by omega) (by omega) (by omega)

theorem Bj {code:List Int} (hc:fV code) (hl:code.length≤9223372036854775807) (high:Int) {p:Int} (hp:0≤p∧p<800000) :
  ∃ r,il high code p=some r∧(∀ d∈r.1,d.1.size≤7 ∧ -5000≤d.2∧d.2≤5000)∧r.1.length≤12∧p≤r.2∧r.2≤p+61:=by
 obtain ⟨x,e,hx⟩:=one hc hl (p:=p) ⟨by omega,by omega⟩ (xs:=([4,3,5,2,6,1,0,12]:List Int)) (by simp)
 have hr:∃ k:Nat,x=(k:Int)∧k≤12:=by
  simp only [List.mem_cons,List.not_mem_nil,or_false] at hx
  exact ⟨x.toNat,by omega,by omega⟩
 obtain ⟨k,rfl,hk⟩:=hr
 obtain ⟨r,er,g1,g2,g3,g4⟩:=nO hc hl high k FU [] (p+1) (Nat.lt_of_le_of_lt hk (by decide)) hk (by omega) (by omega) (by rw [List.length_nil];omega) (by intro d hd;cases hd)
 refine ⟨(r.1,r.2),?_,g1,g2,by show p≤r.2;omega,by show r.2≤p+61;omega⟩
 rw [il,e,ae,w64 (by omega) (by omega),er,ae]

theorem tZ (l:List (ByteArray×Int)) (hl:l.length≤1000000):∀ (j n:Nat) (acc:List (ByteArray×Int)),j≤12→j<n→acc.length+j≤12→(∀ d∈acc,d∈l) →
  ∃ r,bD l n acc ((2 ^ (12 - j):Nat):Int)=some r∧r.length≤12∧∀ d∈r,d∈l
 | 0,n,acc,hj,hn,ha,hm=>by
  cases n with
  | zero=>omega
  | succ n=>exact ⟨acc,by rw [bD,decide_eq_false (by decide),cond_false],by omega,hm⟩
 | j+1,n,acc,hj,hn,ha,hm=>by
  cases n with
  | zero=>omega
  | succ n =>
   generalize hk:12 - (j+1)=k at *
   have hk1:12 - j=k+1:=by omega
   have hp:(2 ^ k:Nat)≤2048:=by
    have:k≤11:=by omega
    calc 2 ^ k≤2 ^ 11:=Nat.pow_le_pow_right (by omega) this
     _=2048:=rfl
   have ps:(2 ^ (k+1):Nat)=2 ^ k*2:=Nat.pow_succ ..
   have ih:=tZ l hl j n
   rw [hk1,ps] at ih
   obtain ⟨x,ex,lx,ux⟩:∃ x,fw l ((2 ^ k:Nat):Int)=some x ∧ -1≤x∧x<(l.length:Int):=⟨_,mG l _ (by omega),tc _ _⟩
   generalize hp':2 ^ k=p at *
   rw [bD,decide_eq_true (by omega),cond_true,ex,ae,w64 (by omega) (by omega),show (p:Int)*2=((p*2:Nat):Int) by omega]
   by_cases h:0≤x
   ·rw [decide_eq_true h,cond_true,al ⟨h,ux⟩,al (by rw [List.length_singleton];omega)]
    refine ih _ (by omega) (by omega) (by rw [List.length_append,List.length_singleton];omega) fun d hd=>?_
    rcases List.mem_append.1 hd with hd | hd
    ·exact hm d hd
    ·simp at hd;subst hd;exact eD ⟨h,ux⟩
   ·rw [decide_eq_false h,cond_false]
    exact ih _ (by omega) (by omega) (by omega) hm

theorem Cz (l:List (ByteArray×Int)) (hl:l.length≤1000000):∃ r,fm l=some r∧r.length≤12∧∀ d∈r,d∈l:=by
 obtain ⟨r,er,h1,h2⟩:=tZ l hl 12 FU [] (by omega) (by decide) (by simp) (by intro d hd;cases hd)
 refine ⟨r,?_,h1,h2⟩
 have er':bD l FU [] 1=some r:=er
 rw [fm,er',ae]

def BF (d:Int×Int):Prop:=(-60000≤d.1∧d.1≤60000) ∧ -60000≤d.2∧d.2≤60000

def mN (l:List (Int×Int)):Prop:=∀ d∈l,BF d

theorem mN.snoc {l:List (Int×Int)} {x:Int×Int} (h:mN l) (hx:BF x):mN (l++[x]):=by
 intro d hd
 rcases List.mem_append.1 hd with hd | hd
 ·exact h d hd
 ·simp at hd;subst hd;exact hx

theorem AS {code:List Int} (hc:fV code) (hl:code.length≤9223372036854775807):∃ c,gG code=some c∧fV c∧c.length≤9223372036854775807:=by
 rw [gG]
 by_cases h:2000<(code.length:Int)
 ·rw [decide_eq_true h,cond_true,al ⟨by omega,by omega,by omega,by omega⟩]
  refine ⟨_,rfl,fun n hn=>?_,?_⟩
  ·simp only [sub] at hn
   exact hc n (List.mem_of_mem_drop (List.mem_of_mem_take hn))
  ·simp only [sub,List.length_take,List.length_drop];omega
 ·rw [decide_eq_false h,cond_false]
  exact ⟨_,rfl,hc,hl⟩

theorem iL.inn {l:List (ByteArray×Int)} (h:iL l):cH l :=
 ⟨by have:=h.1;omega,fun d hd=>by have:=(h.2 d hd).1;omega,fun d hd=>by have:=(h.2 d hd).2;exact ⟨by omega,by omega⟩⟩

theorem mN.inn {l:List (Int×Int)} (h:mN l) (hl:l.length≤1000):Cj l :=
 ⟨by omega,fun d hd=>⟨⟨by have:=(h d hd).1;omega,by have:=(h d hd).1;omega⟩,⟨by have:=(h d hd).2;omega,by have:=(h d hd).2;omega⟩⟩⟩

theorem um {f:List (ByteArray×Int)} (h:cH f) (b a c:Int):dJ f b a c=some (if aU f b a∧aU f b c then ((aM a.toNat c.toNat:Nat):Int) else -1):=by
 rw [dJ,eI,dW h,ae]
 by_cases ha:aU f b a
 ·rw [decide_eq_true ha,Bool.not_true,cond_false,dW h,ae]
  by_cases hc:aU f b c
  ·have h1:=ha.2.1
   have h2:=hc.2.1
   rw [decide_eq_true hc,Bool.not_true,cond_false,gV,ae,ae,if_pos ⟨ha,hc⟩,← jt (by omega) (by omega)]
   congr 2 <;> omega
  ·rw [decide_eq_false hc,Bool.not_false,cond_true,ae,if_neg (fun h=>hc h.2)]
 ·rw [decide_eq_false ha,Bool.not_false,cond_true,ae,if_neg (fun h=>ha h.1)]

def aZ (n:Nat):Nat:=if n=0 then 0 else Nat.log2 n+1

theorem kb (n:Nat):n<2 ^ aZ n:=by
 unfold aZ
 split
 ·omega
 ·exact Nat.lt_log2_self

theorem lL {n:Nat} (h:n≠0):2 ^ (aZ n - 1)≤n:=by
 unfold aZ
 rw [if_neg h]
 exact Nat.log2_self_le h

theorem yV {n b:Nat} (h1:n<2 ^ b) (h2:b=0∨2 ^ (b - 1)≤n):aZ n=b:=by
 by_cases h:n=0
 ·subst h
  rcases h2 with rfl | h2
  ·rfl
  ·have:=Nat.pos_of_ne_zero (show (2:Nat) ^ (b - 1)≠0 by simp)
   omega
 ·have g1:=kb n
  have g2:=lL h
  have hb:b≠0:=by rintro rfl;simp at h1;omega
  have hc:aZ n≠0:=by intro e;rw [e] at g1;simp at g1;omega
  rcases h2 with h2 | h2
  ·omega
  ·have a1:b - 1<aZ n:=by
    by_cases hh:b - 1<aZ n
    ·exact hh
    ·have:(2:Nat) ^ aZ n≤2 ^ (b - 1):=Nat.pow_le_pow_right (by omega) (by omega)
     omega
   have a2:aZ n - 1<b:=by
    by_cases hh:aZ n - 1<b
    ·exact hh
    ·have:(2:Nat) ^ b≤2 ^ (aZ n - 1):=Nat.pow_le_pow_right (by omega) (by omega)
     omega
   omega

theorem oO (n k:Nat) (h:2 ^ k≤n):aZ n=k+aZ (n / 2 ^ k):=by
 have hp:0<(2:Nat) ^ k:=Nat.pos_of_ne_zero (by simp)
 have h0:n / 2 ^ k≠0:=by
  have:=Nat.div_pos h hp
  omega
 have g1:=kb (n / 2 ^ k)
 have g2:=lL h0
 refine yV ?_ (.inr ?_)
 ·rw [Nat.pow_add,Nat.mul_comm]
  exact (Nat.div_lt_iff_lt_mul hp).1 g1
 ·have hb:aZ (n / 2 ^ k)≠0:=by intro e;rw [e] at g1;simp at g1;omega
  have:k+aZ (n / 2 ^ k) - 1=(aZ (n / 2 ^ k) - 1)+k:=by omega
  rw [this,Nat.pow_add]
  exact (Nat.le_div_iff_mul_le hp).1 g2

theorem jM {n k:Nat} (h:n<2 ^ k):aZ n≤k:=by
 by_cases h0:n=0
 ·subst h0;simp [aZ]
 ·have g2:=lL h0
  by_cases hh:aZ n≤k
  ·exact hh
  ·have:(2:Nat) ^ k≤2 ^ (aZ n - 1):=Nat.pow_le_pow_right (by omega) (by omega)
   omega

theorem len_tab:chk (fun n=>decide (aH lstr_c9535661 n=((aZ n:Nat):Int))) 256=true:=by decide +kernel

theorem len_size:lstr_c9535661.size=256:=by decide +kernel

theorem sJ {n:Nat} (hn:n<9223372036854775808):eK (n:Int)=some ((aZ n:Nat):Int):=by
 have hg:∀ k:Nat,k≤64→(0:Int)≤((k:Nat):Int)∧((k:Nat):Int)≤(IntKind.bits .u64:Int):=fun k hk=>⟨by omega,by simp [IntKind.bits];omega⟩
 have h8:0≤(8:Int)∧(8:Int)≤(IntKind.bits .u64:Int):=hg 8 (by omega)
 have h16:0≤(16:Int)∧(16:Int)≤(IntKind.bits .u64:Int):=hg 16 (by omega)
 have h32:0≤(32:Int)∧(32:Int)≤(IntKind.bits .u64:Int):=hg 32 (by omega)
 have d:∀ (a k:Nat),(a:Int) / 2 ^ (((k:Nat):Int)).toNat=((a / 2 ^ k:Nat):Int):=fun a k=>by rw [Int.toNat_natCast];simp
 have d8:∀ a:Nat,(a:Int) / 2 ^ (8:Int).toNat=((a / 256:Nat):Int):=fun a=>d a 8
 have d16:∀ a:Nat,(a:Int) / 2 ^ (16:Int).toNat=((a / 65536:Nat):Int):=fun a=>d a 16
 have d32:∀ a:Nat,(a:Int) / 2 ^ (32:Int).toNat=((a / 4294967296:Nat):Int):=fun a=>d a 32
 have u8:∀ m:Nat,m<256→IntKind.wrap .u8 (m:Int)=m:=fun m hm=>by rw [IntKind.wrap_u8];omega
 have tb:∀ m:Nat,m<256→aH lstr_c9535661 m=((aZ m:Nat):Int):=fun m hm=>by simpa using qZ len_tab m hm
 have gs:∀ m:Nat,m<256→(0≤(m:Int)∧(m:Int)<(lstr_c9535661.size:Int)):=fun m hm=>by rw [len_size];omega
 have s8:∀ m,256≤m→aZ m=8+aZ (m / 256):=fun m h=>oO m 8 h
 have s16:∀ m,65536≤m→aZ m=16+aZ (m / 65536):=fun m h=>oO m 16 h
 have s32:∀ m,4294967296≤m→aZ m=32+aZ (m / 4294967296):=fun m h=>oO m 32 h
 have hb8:∀ m,m<256→aZ m≤8:=fun m h=>jM h
 rw [eK,iz]
 simp only [bN,al h8,al h16,al h32]
 by_cases c1:4294967296≤n
 ·rw [ak (by omega),d32,s32 n c1]
  have hm:n / 4294967296<2147483648:=by omega
  generalize n / 4294967296=m at *
  by_cases c2:65536≤m
  ·rw [ak (by omega),d16,s16 m c2]
   have hk:m / 65536<32768:=by omega
   generalize m / 65536=k at *
   by_cases c3:256≤k
   ·have hk':k / 256<256:=by omega
    rw [ak (by omega),d8,s8 k c3,u8 _ hk',al (gs _ hk'),Int.toNat_natCast,tb _ hk',ae]
    have:=hb8 _ hk'
    simp only [IntKind.wrap_i64]
    refine congrArg some ?_;omega
   ·have hk':k<256:=by omega
    rw [ai (by omega),u8 _ hk',al (gs _ hk'),Int.toNat_natCast,tb _ hk',ae]
    have:=hb8 _ hk'
    simp only [IntKind.wrap_i64]
    refine congrArg some ?_;omega
  ·rw [ai (by omega)]
   by_cases c3:256≤m
   ·have hk':m / 256<256:=by omega
    rw [ak (by omega),d8,s8 m c3,u8 _ hk',al (gs _ hk'),Int.toNat_natCast,tb _ hk',ae]
    have:=hb8 _ hk'
    simp only [IntKind.wrap_i64]
    refine congrArg some ?_;omega
   ·have hk':m<256:=by omega
    rw [ai (by omega),u8 _ hk',al (gs _ hk'),Int.toNat_natCast,tb _ hk',ae]
    have:=hb8 _ hk'
    simp only [IntKind.wrap_i64]
    refine congrArg some ?_;omega
 ·rw [ai (by omega)]
  by_cases c2:65536≤n
  ·rw [ak (by omega),d16,s16 n c2]
   have hk:n / 65536<65536:=by omega
   generalize n / 65536=k at *
   by_cases c3:256≤k
   ·have hk':k / 256<256:=by omega
    rw [ak (by omega),d8,s8 k c3,u8 _ hk',al (gs _ hk'),Int.toNat_natCast,tb _ hk',ae]
    have:=hb8 _ hk'
    simp only [IntKind.wrap_i64]
    refine congrArg some ?_;omega
   ·have hk':k<256:=by omega
    rw [ai (by omega),u8 _ hk',al (gs _ hk'),Int.toNat_natCast,tb _ hk',ae]
    have:=hb8 _ hk'
    simp only [IntKind.wrap_i64]
    refine congrArg some ?_;omega
  ·rw [ai (by omega)]
   by_cases c3:256≤n
   ·have hk':n / 256<256:=by omega
    rw [ak (by omega),d8,s8 n c3,u8 _ hk',al (gs _ hk'),Int.toNat_natCast,tb _ hk',ae]
    have:=hb8 _ hk'
    simp only [IntKind.wrap_i64]
    refine congrArg some ?_;omega
   ·have hk':n<256:=by omega
    rw [ai (by omega),u8 _ hk',al (gs _ hk'),Int.toNat_natCast,tb _ hk',ae]
    have:=hb8 _ hk'
    simp only [IntKind.wrap_i64]
    refine congrArg some ?_;omega

def greatest:List (ByteArray×Int)→Int→Int
 | [],z=>z
 | d::l,_=>l.foldl (fun m e=>if m<e.2 then e.2 else m) d.2

theorem nF (l:List (ByteArray×Int)):∀ m:Int,(l.foldl (fun m e=>if m<e.2 then e.2 else m) m=m∨∃ d∈l,l.foldl (fun m e=>if m<e.2 then e.2 else m) m=d.2)∧m≤l.foldl (fun m e=>if m<e.2 then e.2 else m) m∧∀ d∈l,d.2≤l.foldl (fun m e=>if m<e.2 then e.2 else m) m:=by
 induction l with
 | nil=>intro m;exact ⟨.inl rfl,Int.le_refl _,by simp⟩
 | cons d l ih =>
  intro m
  rw [List.foldl_cons]
  obtain ⟨h1,h2,h3⟩:=ih (if m<d.2 then d.2 else m)
  have hm:m≤(if m<d.2 then d.2 else m)∧d.2≤(if m<d.2 then d.2 else m):=by split <;> omega
  refine ⟨?_,by omega,fun e he=>?_⟩
  ·rcases h1 with h1 | ⟨e,he,h1⟩
   ·rw [h1]
    split
    ·exact .inr ⟨d,by simp,rfl⟩
    ·exact .inl rfl
   ·exact .inr ⟨e,by simp [he],h1⟩
  ·rcases List.mem_cons.1 he with rfl | he
   ·omega
   ·exact h3 e he

theorem kR {l:List (ByteArray×Int)} (h:l≠[]) (z:Int):∃ d∈l,greatest l z=d.2:=by
 cases l with
 | nil=>exact absurd rfl h
 | cons d l =>
  rcases (nF l d.2).1 with h | ⟨e,he,h⟩
  ·exact ⟨d,by simp,h⟩
  ·exact ⟨e,by simp [he],h⟩

theorem sj {l:List (ByteArray×Int)} (z:Int):∀ d∈l,d.2≤greatest l z:=by
 cases l with
 | nil=>simp
 | cons e l =>
  intro d hd
  have h:=nF l e.2
  rcases List.mem_cons.1 hd with rfl | hd
  ·exact h.2.1
  ·exact h.2.2 d hd

theorem wj (l:List (ByteArray×Int)) (z:Int) (hl:l.length≤1099511627776):ib l z=some (greatest l z):=by
 have h:=jA l (fun n i s=>bW l n s i) (fun i s=>if i=0 then s=z else (l.drop i).foldl (fun m e=>if m<e.2 then e.2 else m) s=greatest l z) (fun r=>r=greatest l z) ?_ ?_ FU (by rw [FU_eq];omega) z (by simp)
 ·rw [ib,show bW l FU z 0=_ from h.eq,ae]
 ·intro n s hs
  rw [bW,ai (by omega)]
  refine dP.2 ?_
  by_cases h:l.length=0
  ·rw [if_pos h] at hs
   have:l=[]:=List.length_eq_zero_iff.1 h
   rw [this,hs];rfl
  ·rw [if_neg h,List.drop_length] at hs
   exact hs
 ·intro n i s d hi hg hd hm hI ih
  rw [bW,ak (by omega),al (by omega),cj (by omega),hg]
  by_cases h:i=0
  ·subst h
   rw [ak (by omega)]
   refine ih _ ?_
   rw [if_neg (by omega)]
   rw [List.drop_zero] at hd
   conv=>rhs;rw [hd]
   rfl
  ·rw [if_neg h,hd,List.foldl_cons] at hI
   rw [ai (by omega)]
   by_cases h2:s<d.2
   ·rw [ak h2]
    refine ih _ ?_
    rw [if_neg (by omega)]
    rwa [if_pos h2] at hI
   ·rw [ai h2]
    refine ih _ ?_
    rw [if_neg (by omega)]
    rwa [if_neg h2] at hI

def ku (l:List (ByteArray×Bool×Int)):Prop:=l.length≤1099511627776∧(∀ d∈l,d.1.size≤1099511627776)∧∀ d∈l,I64 d.2.2

def bC (next:List (ByteArray×Int)→Int) (items:List (ByteArray×Bool×Int)) (acc:List (ByteArray×Int)):List (ByteArray×Int) :=
 items.foldl (fun acc x=>acc++[(x.1,if x.2.1 then next acc else x.2.2)]) acc

theorem dc (next:List (ByteArray×Int)→Int) (items:List (ByteArray×Bool×Int)):∀ acc,(bC next items acc).length=acc.length+items.length:=by
 induction items with
 | nil=>intro acc;simp [bC]
 | cons x items ih=>intro acc;rw [bC,List.foldl_cons,← bC,ih];simp;omega

theorem pl (next:List (ByteArray×Int)→Int) (items more:List (ByteArray×Bool×Int)) (acc):bC next (items++more) acc=bC next more (bC next items acc):=by
 simp [bC,List.foldl_append]

theorem wL (next:List (ByteArray×Int)→Int) (items:List (ByteArray×Bool×Int)):∀ acc,∃ r,bC next items acc=acc++r:=by
 induction items with
 | nil=>intro acc;exact ⟨[],by simp [bC]⟩
 | cons x items ih =>
  intro acc
  rw [bC,List.foldl_cons,← bC]
  obtain ⟨r,hr⟩:=ih (acc++[(x.1,if x.2.1 then next acc else x.2.2)])
  exact ⟨_,by rw [hr,List.append_assoc]⟩

theorem sg (next:List (ByteArray×Int)→Int) (items:List (ByteArray×Bool×Int)) (k:Nat) (h:k≤items.length):(bC next items []).take k=bC next (items.take k) []:=by
 conv=>lhs;rw [← List.take_append_drop k items,pl]
 obtain ⟨r,hr⟩:=wL next (items.drop k) (bC next (items.take k) [])
 rw [hr,List.take_append_of_le_length (by rw [dc];simp;omega),List.take_of_length_le (by rw [dc];simp;omega)]

theorem zG (next:List (ByteArray×Int)→Int) (items:List (ByteArray×Bool×Int)) (k:Nat) (h:k<items.length) :
  (bC next items [])[k]'(by rw [dc];simpa using h)=(items[k].1,if items[k].2.1 then next (bC next (items.take k) []) else items[k].2.2):=by
 have h1:=sg next items (k+1) h
 have hl:k<(bC next items []).length:=by rw [dc];simpa using h
 rw [List.take_succ_eq_append_getElem h,pl,List.take_succ_eq_append_getElem hl,sg next items k (by omega)] at h1
 have e:bC next [items[k]] (bC next (items.take k) [])=bC next (items.take k) []++[(items[k].1,if items[k].2.1 then next (bC next (items.take k) []) else items[k].2.2)]:=rfl
 rw [e] at h1
 have:=List.append_cancel_left h1
 simpa using this

theorem tI {next:List (ByteArray×Int)→Int} (hn:∀ acc,(∀ d∈acc,I64 d.2)→I64 (next acc)):∀ (items:List (ByteArray×Bool×Int)) (acc:List (ByteArray×Int)),(∀ d∈items,I64 d.2.2)→(∀ d∈acc,I64 d.2)→∀ d∈bC next items acc,I64 d.2
 | [],acc,_,h=>h
 | x::items,acc,hi,h=>by
  rw [bC,List.foldl_cons,← bC]
  refine tI hn items _ (fun d hd=>hi d (by simp [hd])) fun d hd=>?_
  rcases List.mem_append.1 hd with hd | hd
  ·exact h d hd
  ·simp at hd;subst hd
   simp only
   split
   ·exact hn acc h
   ·exact hi x (by simp)

theorem mI (next:List (ByteArray×Int)→Int):∀ (items:List (ByteArray×Bool×Int)) (acc:List (ByteArray×Int)),(bC next items acc).map (·.1)=acc.map (·.1)++items.map (·.1)
 | [],acc=>by simp [bC]
 | x::items,acc=>by
  rw [bC,List.foldl_cons,← bC,mI next items]
  simp

theorem vP {next:List (ByteArray×Int)→Int} (hn:∀ acc,(∀ d∈acc,I64 d.2)→I64 (next acc)) {items:List (ByteArray×Bool×Int)} (h:ku items):cH (bC next items []):=by
 refine ⟨by rw [dc];have:=h.1;simpa using this,fun d hd=>?_,tI hn items [] h.2.2 (by simp)⟩
 have h1:d.1∈(bC next items []).map (·.1):=List.mem_map.2 ⟨d,hd,rfl⟩
 rw [mI] at h1
 simp only [List.map_nil,List.nil_append,List.mem_map] at h1
 obtain ⟨x,hx,e⟩:=h1
 rw [← e];exact h.2.1 x hx

def hU (l:List (ByteArray×Int)):Int:=IntKind.wrap .i64 ((2 ^ aZ (greatest l 0).toNat:Nat):Int)

theorem qI (l:List (ByteArray×Int)) (_:∀ d∈l,I64 d.2):I64 (hU l):=Bo _

theorem xV {l:List (ByteArray×Int)} (h:∀ d∈l,I64 d.2):I64 (greatest l 0):=by
 by_cases hl:l=[]
 ·subst hl;unfold I64;simp [greatest]
 ·obtain ⟨d,hd,e⟩:=kR hl 0
  rw [e];exact h d hd

theorem th {l:List (ByteArray×Int)} (hl:l.length≤1099511627776) (h:∀ d∈l,I64 d.2):fP l=some (hU l):=by
 have hg:=xV h
 have e:IntKind.wrap .u64 (if greatest l 0>0 then greatest l 0 else 0)=(((greatest l 0).toNat:Nat):Int):=by
  have:=hg.2
  rw [IntKind.wrap_u64];split <;> omega
 have hlt:(greatest l 0).toNat<9223372036854775808:=by have:=hg.2;omega
 have hb:aZ (greatest l 0).toNat≤63:=jM (k:=63) hlt
 rw [fP,wj l 0 hl,ae,e,sJ hlt,ae,al ⟨by omega,by simp [IntKind.bits];omega⟩,hU,Int.toNat_natCast]
 congr 2
 simp

theorem zN {items:List (ByteArray×Bool×Int)} (h:ku items):dD items=some (if items.any (fun x=>x.2.1 && !decide (x.2.2=0)) then ([],false) else (bC hU items [],true)):=by
 have hx:=Cq items (fun n s i=>bw items n s i) (fun x=>x.2.1 && !decide (x.2.2=0)) () (fun acc x=>acc++[(x.1,if x.2.1 then hU acc else x.2.2)]) (fun i s=>s.length=i∧∀ d∈s,I64 d.2) ?_ ?_ FU (by have:=h.1;rw [FU_eq];omega) [] ⟨rfl,by simp⟩
 ·rw [dD]
  rcases hx with ⟨h1,e⟩ | ⟨h1,-,e⟩
  ·rw [e,h1];rfl
  ·rw [e,h1];rfl
 ·intro n s _;rw [bw,ai (by omega)]
 ·intro n i s hi hm hI
  have hl:=h.1
  have hv:=h.2.2 _ hm
  rw [bw,ak (by omega),al (by omega),cj (by omega)]
  have put:∀ v,I64 v→(∀ d∈s++[((gt items (i:Int)).1,v)],I64 d.2):=fun v hv d hd=>by
   rcases List.mem_append.1 hd with hd | hd
   ·exact hI.2 d hd
   ·simp at hd;subst hd;exact hv
  cases ha:(gt items (i:Int)).2.1 with
  | true =>
   rw [cond_true]
   by_cases h0:(gt items (i:Int)).2.2=0
   ·right
    rw [decide_eq_true h0,Bool.not_true,cond_false,th (by have:=hI.1;omega) hI.2,ae,al (by have:=hI.1;simp;omega)]
    exact ⟨rfl,⟨by simp [hI.1],put _ (qI _ hI.2)⟩,rfl⟩
   ·left
    rw [decide_eq_false h0,Bool.not_false,cond_true]
    exact ⟨rfl,rfl⟩
  | false =>
   right
   rw [cond_false,al (by have:=hI.1;simp;omega)]
   exact ⟨rfl,⟨by simp [hI.1],put _ hv⟩,rfl⟩

theorem wA {l:List (ByteArray×Int)} (hl:l.length≤1099511627776):ie l=some l:=by
 rw [ie,eU,al hl,ae,gh,ae]

theorem rQ {l:List (ByteArray×Int)} (h:cH l) (b:Int) (ok:Bool):iY l b ok=some (if ok=true∧bG l b then (l,b,true) else ([],0,false)):=by
 rw [iY,wA h.1,ae,jS h,ae]
 cases ok with
 | false=>simp
 | true =>
  by_cases hf:bG l b
  ·simp [hf]
  ·simp [hf]

def jr (items:List (ByteArray×Bool×Int)) (b:Int):(List (ByteArray×Int))×Int×Bool :=
 if (items.any (fun x=>x.2.1 && !decide (x.2.2=0))=false)∧bG (bC hU items []) b then (bC hU items [],b,true) else ([],0,false)

theorem uZ {items:List (ByteArray×Bool×Int)} (h:ku items) (b:Int):gQ items b=some (jr items b):=by
 rw [gQ,jr]
 by_cases hl:12<(items.length:Int)
 ·rw [ak hl,if_neg]
  intro hh
  have:=hh.2.len
  rw [dc] at this
  simp at this;omega
 ·rw [ai hl,zN h,ae]
  cases ha:items.any (fun x=>x.2.1 && !decide (x.2.2=0)) with
  | true =>
   simp only [if_true]
   rw [rQ ⟨by simp,by simp,by simp⟩,ae]
   simp
  | false =>
   simp only [Bool.false_eq_true,if_false]
   rw [rQ (vP qI h),ae]
   by_cases hf:bG (bC hU items []) b
   ·simp [hf]
   ·simp [hf]

def kA (l:List (ByteArray×Bool×Int)) (lo hi:Int):Prop:=(∀ i,i<l.length→eL (gt l (i:Int)).1∧((gt l (i:Int)).2.1=true→(gt l (i:Int)).2.2=0)∧(lo≤(gt l (i:Int)).2.2∧(gt l (i:Int)).2.2≤hi)∧∀ k,k<i→¬ (gt l (k:Int)).1=(gt l (i:Int)).1)∧l.length≤12

theorem wS (l:List (ByteArray×Bool×Int)) (lo hi:Int) (i:Nat) (hi':i<l.length) (hl:l.length≤1099511627776) :
  ((∃ k,k<i∧(gt l (k:Int)).1=(gt l (i:Int)).1)∧bc l lo hi (i:Int) FU 0=some (.inl ()))∨((∀ k,k<i→¬ (gt l (k:Int)).1=(gt l (i:Int)).1)∧bc l lo hi (i:Int) FU 0=some (.inr ())):=by
 refine Ci i (bc l lo hi (i:Int)) _ _ _ ?_ ?_ FU (by rw [FU_eq];omega)
 ·intro n;rw [bc,ai (by omega)]
 ·intro n k hk
  rw [bc,ak (by omega),al (by omega),al (by omega),cj (by omega)]
  by_cases h:(gt l (k:Int)).1=(gt l (i:Int)).1
  ·rw [ak h];exact .inl ⟨h,rfl⟩
  ·rw [ai h];exact .inr ⟨h,rfl⟩

theorem nd (l:List (ByteArray×Bool×Int)) (lo hi v:Int):∀ (n:Nat) (k:Int),cG l lo hi v n k=bc l lo hi v n k
 | 0,k=>rfl
 | n+1,k=>by rw [cG,bc,nd l lo hi v n]

open Classical in
theorem uF {l:List (ByteArray×Bool×Int)} (h:ku l) (lo hi:Int):gf l lo hi=some (decide (kA l lo hi)):=by
 obtain ⟨hl,hs,-⟩:=h
 have h:=Bb l (bB l lo hi) (fun i=>¬ (eL (gt l (i:Int)).1∧((gt l (i:Int)).2.1=true→(gt l (i:Int)).2.2=0)∧(lo≤(gt l (i:Int)).2.2∧(gt l (i:Int)).2.2≤hi)∧∀ k,k<i→¬ (gt l (k:Int)).1=(gt l (i:Int)).1)) (.inl ()) (.inr ()) ?_ ?_ FU (by rw [FU_eq];omega)
 ·rw [gf]
  rcases h with ⟨⟨i,h1,h2⟩,e⟩ | ⟨h1,e⟩
  ·rw [e,ae,yl]
   have:¬ kA l lo hi:=fun h=>h2 (h.1 i h1)
   rw [decide_eq_false this]
  ·rw [e,ae,tL]
   have:kA l lo hi↔(l.length:Int)≤12:=⟨fun h=>by have:=h.2;omega,fun h=>⟨fun i hi=>Decidable.not_not.1 (h1 i hi),by omega⟩⟩
   congr 1
   by_cases hc:(l.length:Int)≤12
   ·rw [decide_eq_true hc,decide_eq_true (this.2 hc)]
   ·rw [decide_eq_false hc,decide_eq_false (fun h=>hc (this.1 h))]
 ·intro n;rw [bB,ai (by omega)]
 ·intro n i hi'
  have hm:gt l (i:Int)∈l:=eD (by omega)
  rw [bB,ak (by omega),al (by omega),jG (hs _ hm),ae,gH,ae,ae,cj (by omega),
   show cG l lo hi (i:Int) FU 0=_ from nd l lo hi (i:Int) FU 0]
  by_cases h1:eL (gt l (i:Int)).1
  ·rw [decide_eq_true h1,Bool.not_true,cond_false]
   have rest:(¬ ((lo≤(gt l (i:Int)).2.2∧(gt l (i:Int)).2.2≤hi)∧∀ k,k<i→¬ (gt l (k:Int)).1=(gt l (i:Int)).1) ∧
     (bif (!decide (lo≤(gt l (i:Int)).2.2∧(gt l (i:Int)).2.2≤hi)) then some (Sum.inl ()) else bd (bc l lo hi (i:Int) FU 0) fun x8=>sm x8 (fun x9=>some (Sum.inl ())) (fun x10=>bB l lo hi n ((i+1:Nat):Int)))=some (.inl ())) ∨
     (((lo≤(gt l (i:Int)).2.2∧(gt l (i:Int)).2.2≤hi)∧∀ k,k<i→¬ (gt l (k:Int)).1=(gt l (i:Int)).1) ∧
     (bif (!decide (lo≤(gt l (i:Int)).2.2∧(gt l (i:Int)).2.2≤hi)) then some (Sum.inl ()) else bd (bc l lo hi (i:Int) FU 0) fun x8=>sm x8 (fun x9=>some (Sum.inl ())) (fun x10=>bB l lo hi n ((i+1:Nat):Int)))=bB l lo hi n ((i+1:Nat):Int)):=by
    by_cases h3:lo≤(gt l (i:Int)).2.2∧(gt l (i:Int)).2.2≤hi
    ·rw [decide_eq_true h3,Bool.not_true,cond_false]
     rcases wS l lo hi i hi' hl with ⟨⟨k,g1,g2⟩,e⟩ | ⟨g1,e⟩
     ·rw [e];exact .inl ⟨fun hh=>hh.2 k g1 g2,rfl⟩
     ·rw [e];exact .inr ⟨⟨h3,g1⟩,rfl⟩
    ·rw [decide_eq_false h3,Bool.not_false,cond_true];exact .inl ⟨fun hh=>h3 hh.1,rfl⟩
   cases h2:(gt l (i:Int)).2.1 with
   | true =>
    rw [cond_true]
    by_cases h4:(gt l (i:Int)).2.2=0
    ·rw [decide_eq_true h4,Bool.not_true,cond_false]
     rcases rest with ⟨g1,e⟩ | ⟨g1,e⟩
     ·exact .inl ⟨fun hh=>g1 hh.2.2,e⟩
     ·exact .inr ⟨fun hh=>hh ⟨h1,fun _=>h4,g1⟩,e⟩
    ·rw [decide_eq_false h4,Bool.not_false,cond_true]
     exact .inl ⟨fun hh=>h4 (hh.2.1 rfl),rfl⟩
   | false =>
    rw [cond_false]
    rcases rest with ⟨g1,e⟩ | ⟨g1,e⟩
    ·exact .inl ⟨fun hh=>g1 hh.2.2,e⟩
    ·exact .inr ⟨fun hh=>hh ⟨h1,fun hh=>(by cases hh),g1⟩,e⟩
  ·rw [decide_eq_false h1,Bool.not_false,cond_true];exact .inl ⟨fun hh=>h1 hh.1,rfl⟩

theorem vN {a b:Nat} (h:a≤b):aZ a≤aZ b:=jM (Nat.lt_of_le_of_lt h (kb b))

theorem pV {k v:Nat}:2 ^ k≤v↔k<aZ v:=by
 constructor
 ·intro h
  have h1:=Nat.lt_of_le_of_lt h (kb v)
  exact (Nat.pow_lt_pow_iff_right (by omega:1<2)).1 h1
 ·intro h
  have h0:v≠0:=by rintro rfl;simp [aZ] at h
  have:=lL h0
  exact Nat.le_trans (Nat.pow_le_pow_right (by omega) (by omega)) this

theorem AN {k:Nat} (h:k≤61):(2 ^ k:Nat)≤2305843009213693952:=by
 calc 2 ^ k≤2 ^ 61:=Nat.pow_le_pow_right (by omega) h
  _=2305843009213693952:=rfl

theorem zv (l:List (ByteArray×Int)) (i:Nat) (hi:i<l.length) (hv:(gt l (i:Int)).2<1099511627776) (k:Nat) (hk:k≤40) :
  dp l (i:Int) FU ((2 ^ k:Nat):Int)=some ((2 ^ (max k (aZ (gt l (i:Int)).2.toNat)):Nat):Int):=by
 have hb:aZ (gt l (i:Int)).2.toNat≤40:=jM (by omega)
 refine (qV (fun n s=>dp l (i:Int) n s) (fun s=>∃ j:Nat,s=((2 ^ j:Nat):Int)∧j≤40∧max j (aZ (gt l (i:Int)).2.toNat)=max k (aZ (gt l (i:Int)).2.toNat)) (fun s=>2305843009213693952 - s.toNat) (fun r=>r=((2 ^ (max k (aZ (gt l (i:Int)).2.toNat)):Nat):Int)) ?_ FU _ ⟨k,rfl,hk,rfl⟩ (by rw [FU_eq];omega)).eq
 rintro n _ ⟨j,rfl,hj,hm⟩ ih
 have hp:=AN (k:=j+1) (by omega)
 have hp0:0<(2 ^ j:Nat):=Nat.pos_of_ne_zero (by simp)
 have ps:(2 ^ (j+1):Nat)=2 ^ j*2:=Nat.pow_succ ..
 rw [dp,al (by omega)]
 have hiff:=pV (k:=j) (v:=(gt l (i:Int)).2.toNat)
 by_cases h:((2 ^ j:Nat):Int)≤(gt l (i:Int)).2
 ·rw [ak h,w64 (by omega) (by omega),show ((2 ^ j:Nat):Int)*2=((2 ^ (j+1):Nat):Int) by omega]
  have:=hiff.1 (by omega)
  exact ih _ ⟨j+1,rfl,by omega,by omega⟩ (by simp only [Int.toNat_natCast];omega)
 ·rw [ai h]
  refine dP.2 ?_
  have:¬ j<aZ (gt l (i:Int)).2.toNat:=fun hh=>by have:=hiff.2 hh;omega
  rw [show j=max k (aZ (gt l (i:Int)).2.toNat) by omega]

theorem vF (l:List (ByteArray×Int)):∀ k,(l.foldl (fun k d=>max k (aZ d.2.toNat)) k=k∨∃ d∈l,l.foldl (fun k d=>max k (aZ d.2.toNat)) k=aZ d.2.toNat)∧k≤l.foldl (fun k d=>max k (aZ d.2.toNat)) k∧∀ d∈l,aZ d.2.toNat≤l.foldl (fun k d=>max k (aZ d.2.toNat)) k:=by
 induction l with
 | nil=>intro k;exact ⟨.inl rfl,Nat.le_refl _,by simp⟩
 | cons d l ih =>
  intro k
  rw [List.foldl_cons]
  obtain ⟨h1,h2,h3⟩:=ih (max k (aZ d.2.toNat))
  refine ⟨?_,by omega,fun e he=>?_⟩
  ·rcases h1 with h1 | ⟨e,he,h1⟩
   ·rw [h1]
    by_cases hh:aZ d.2.toNat≤k
    ·exact .inl (by omega)
    ·exact .inr ⟨d,by simp,by omega⟩
   ·exact .inr ⟨e,by simp [he],h1⟩
  ·rcases List.mem_cons.1 he with rfl | he
   ·omega
   ·exact h3 e he

theorem pO (l:List (ByteArray×Int)):l.foldl (fun k d=>max k (aZ d.2.toNat)) 0=aZ (greatest l 0).toNat:=by
 by_cases hl:l=[]
 ·subst hl;rfl
 ·obtain ⟨d,hd,e⟩:=kR hl 0
  obtain ⟨h1,h2,h3⟩:=vF l 0
  have h4:=h3 d hd
  rw [e]
  rcases h1 with h1 | ⟨f,hf,h1⟩
  ·rw [h1] at h4 ⊢;omega
  ·have h5:=sj (l:=l) 0 f hf
   rw [e] at h5
   have:=vN (show f.2.toNat≤d.2.toNat by omega)
   omega

theorem qd {l:List (ByteArray×Int)} (hl:l.length≤1099511627776) (hv:∀ d∈l,d.2<1099511627776):gv l=some ((2 ^ aZ (greatest l 0).toNat:Nat):Int):=by
 have h:=jA l (fun n i s=>cO l n s i) (fun i s=>∃ k:Nat,s=((2 ^ k:Nat):Int)∧k≤40∧(l.drop i).foldl (fun k d=>max k (aZ d.2.toNat)) k=l.foldl (fun k d=>max k (aZ d.2.toNat)) 0)
  (fun r=>r=((2 ^ l.foldl (fun k d=>max k (aZ d.2.toNat)) 0:Nat):Int)) ?_ ?_ FU (by rw [FU_eq];omega) 1 ⟨0,rfl,by omega,by simp⟩
 ·rw [gv,show cO l FU 1 0=_ from h.eq,ae,pO]
 ·rintro n _ ⟨k,rfl,hk,hf⟩
  rw [cO,ai (by omega)]
  rw [List.drop_length] at hf
  exact dP.2 (by rw [← hf];rfl)
 ·rintro n i _ d hi hg hd hm ⟨k,rfl,hk,hf⟩ ih
  have hv':=hv _ hm
  have hb:aZ d.2.toNat≤40:=jM (by omega)
  rw [cO,ak (by omega),zv l i hi (by rw [hg];exact hv') k hk,ae,cj (by omega),hg]
  refine ih _ ⟨max k (aZ d.2.toNat),rfl,by omega,?_⟩
  rw [hd,List.foldl_cons] at hf
  exact hf

theorem kA.of {items:List (ByteArray×Bool×Int)} {b:Int} (h1:items.any (fun x=>x.2.1 && !decide (x.2.2=0))=false) (h2:bG (bC hU items []) b):kA items 0 4095:=by
 have hlen:items.length≤12:=by have:=h2.len;rw [dc] at this;simpa using this
 refine ⟨fun i hi=>?_,hlen⟩
 have hd:=h2.1.1 i (by rw [dc];simpa using hi)
 have hi2:i<(bC hU items []).length:=by rw [dc];simpa using hi
 rw [cz hi2,zG hU items i hi] at hd
 rw [cz hi]
 have hm:=List.getElem_mem hi
 rw [List.any_eq_false] at h1
 have h3:=h1 _ hm
 refine ⟨hd.1,fun ha=>?_,?_,fun k hk e=>?_⟩
 ·rw [ha] at h3;simpa using h3
 ·cases ha:items[i].2.1 with
  | true=>rw [ha] at h3;simp at h3;omega
  | false=>have:=hd.2.1;rw [ha] at this;simpa using this
 ·have hnd:=h2.1.out.2.1
  rw [mI] at hnd
  simp only [List.map_nil,List.nil_append] at hnd
  rw [List.Nodup,List.pairwise_iff_getElem] at hnd
  have:=hnd k i (by simp;omega) (by simpa using hi) hk
  simp only [List.getElem_map] at this
  rw [cz (by omega)] at e
  exact this e

theorem vd {items:List (ByteArray×Bool×Int)} (h:ku items) (b:Int):gP items b=some (jr items b):=by
 classical
 rw [gP,uF h,ae,jr]
 by_cases ho:kA items 0 4095
 ·rw [decide_eq_true ho,Bool.not_true,cond_false]
  have hx:=nu items (ca items b) (fun acc x=>acc++[(x.1,if x.2.1 then hU acc else x.2.2)]) (fun i s=>s.length=i∧∀ d∈s,0≤d.2∧d.2<((2 ^ (13+i):Nat):Int)) ?_ ?_ FU (by have:=h.1;rw [FU_eq];omega) [] ⟨rfl,by simp⟩
  ·rw [show ca items b FU [] 0=_ from hx.1,ae,← bC,nV (vP qI h),ae]
   have hnb:items.any (fun x=>x.2.1 && !decide (x.2.2=0))=false:=by
    rw [List.any_eq_false]
    intro x hx
    obtain ⟨i,hi,rfl⟩:=List.mem_iff_getElem.1 hx
    have:=(ho.1 i hi).2.1
    rw [cz hi] at this
    cases ha:items[i].2.1 with
    | true=>simp [this ha]
    | false=>simp
   by_cases hf:bG (bC hU items []) b
   ·rw [decide_eq_true hf,Bool.not_true,cond_false,if_pos ⟨hnb,hf⟩]
   ·rw [decide_eq_false hf,Bool.not_false,cond_true,if_neg (fun h=>hf h.2)]
  ·intro n s;rw [ca,ai (by omega)]
  ·intro n i s hi hm hI
   have hl:=ho.2
   have hpw:∀ j,j≤26→(2 ^ j:Nat)≤67108864:=fun j hj=>by
    calc 2 ^ j≤2 ^ 26:=Nat.pow_le_pow_right (by omega) hj
     _=67108864:=rfl
   have hpm:(2 ^ (13+i):Nat)≤2 ^ (13+(i+1)):=Nat.pow_le_pow_right (by omega) (by omega)
   have hp1:=hpw (13+i) (by omega)
   have hp2:=hpw (13+(i+1)) (by omega)
   have hlow:(8192:Nat)≤2 ^ (13+i):=by
    calc (8192:Nat)=2 ^ 13:=rfl
     _≤2 ^ (13+i):=Nat.pow_le_pow_right (by omega) (by omega)
   have put:∀ v,0≤v∧v<((2 ^ (13+(i+1)):Nat):Int)→∀ d∈s++[((gt items (i:Int)).1,v)],0≤d.2∧d.2<((2 ^ (13+(i+1)):Nat):Int):=fun v hv d hd=>by
    rcases List.mem_append.1 hd with hd | hd
    ·have:=hI.2 d hd;omega
    ·simp at hd;subst hd;exact hv
   rw [ca,ak (by omega),al (by omega),cj (by omega)]
   have hit:=ho.1 i hi
   cases ha:(gt items (i:Int)).2.1 with
   | true =>
    have hg:(greatest s 0).toNat<2 ^ (13+i):=by
     by_cases hs:s=[]
     ·subst hs;simp [greatest];omega
     ·obtain ⟨d,hd,e⟩:=kR hs 0
      have:=hI.2 d hd
      rw [e];omega
    have hbl:=jM hg
    have hpb:(2 ^ aZ (greatest s 0).toNat:Nat)≤2 ^ (13+i):=Nat.pow_le_pow_right (by omega) hbl
    have hlt:(2 ^ (13+i):Nat)<2 ^ (13+(i+1)):=Nat.pow_lt_pow_right (by omega) (by omega)
    have en:=qd (l:=s) (by have:=hI.1;omega) (fun d hd=>by have:=hI.2 d hd;omega)
    have e2:hU s=IntKind.wrap .i64 ((2 ^ aZ (greatest s 0).toNat:Nat):Int):=rfl
    generalize 2 ^ aZ (greatest s 0).toNat=q at *
    rw [w64 (by omega) (by omega)] at e2
    rw [cond_true,en,ae,al (by have:=hI.1;simp;omega),← e2]
    exact ⟨⟨by simp [hI.1],put _ ⟨by rw [e2];omega,by rw [e2];omega⟩⟩,rfl⟩
   | false =>
    rw [cond_false,al (by have:=hI.1;simp;omega)]
    exact ⟨⟨by simp [hI.1],put (gt items (i:Int)).2.2 ⟨hit.2.2.1.1,by have:=hit.2.2.1.2;omega⟩⟩,rfl⟩
 ·rw [decide_eq_false ho,Bool.not_false,cond_true,if_neg]
  rintro ⟨h1,h2⟩
  exact ho (kA.of h1 h2)

theorem Cc {j:Nat} (h:j<12):pop (2 ^ j)=1:=by
 have:∀ j,j<12→pop (2 ^ j)=1:=by decide
 exact this j h

def kx (l:List (ByteArray×Bool×Int)):Prop:=l.length≤12∧∀ d∈l,d.1.size≤7 ∧ -5000≤d.2.2∧d.2.2≤5000

theorem kx.inn {l:List (ByteArray×Bool×Int)} (h:kx l):ku l :=
 ⟨by have:=h.1;omega,fun d hd=>by have:=(h.2 d hd).1;omega,fun d hd=>by have:=(h.2 d hd).2;exact ⟨by omega,by omega⟩⟩

theorem xv {code:List Int} (hc:fV code) (hl:code.length≤9223372036854775807) (x:(List (ByteArray×Int))×Int) (hx:∀ d∈x.1,d.1.size≤7 ∧ -5000≤d.2∧d.2≤5000) (hxl:x.1.length≤12) (p:Int) (hp:0≤p∧p<900000) :
  ∃ r,bZ code x FU [] 0 p=some r∧kx r.1∧p≤r.2∧r.2≤p+12:=by
 have h:=jA x.1 (fun n i (s:List (ByteArray×Bool×Int)×Int)=>bZ code x n s.1 i s.2)
  (fun i s=>s.1.length=i∧(∀ d∈s.1,d.1.size≤7 ∧ -5000≤d.2.2∧d.2.2≤5000)∧s.2=p+i)
  (fun r=>kx r.1∧p≤r.2∧r.2≤p+12) ?_ ?_ FU (by rw [FU_eq];omega) ([],p) ⟨rfl,by simp,by simp⟩
 ·exact h
 ·rintro n ⟨v,q⟩ ⟨h1,h2,h3⟩
  rw [bZ,ai (by omega)]
  simp only at h1 h2 h3
  exact dP.2 ⟨⟨by simp only;omega,h2⟩,by simp only;omega,by simp only;omega⟩
 ·rintro n i ⟨v,q⟩ d hi hg hd hm ⟨h1,h2,h3⟩ ih
  simp only at h1 h2 h3
  obtain ⟨y,ey,ly,uy⟩:=pick (n:=2) hc hl (p:=q) ⟨by omega,by omega⟩
  have hb:=hx d hm
  rw [bZ,ak (by omega),al (by omega),ey,ae,cj (by omega),w64 (a:=q+1) (by omega) (by omega),hg]
  by_cases h:y=0
  ·rw [ak h,al (by simp;omega)]
   refine ih (_,_) ⟨by simp [h1],fun e he=>?_,by simp only;omega⟩
   rcases List.mem_append.1 he with he | he
   ·exact h2 e he
   ·simp at he;subst he;exact ⟨hb.1,by simp,by simp⟩
  ·rw [ai h,al (by simp;omega)]
   refine ih (_,_) ⟨by simp [h1],fun e he=>?_,by simp only;omega⟩
   rcases List.mem_append.1 he with he | he
   ·exact h2 e he
   ·simp at he;subst he;exact ⟨hb.1,hb.2⟩

theorem Av {code:List Int} (hc:fV code) (hl:code.length≤9223372036854775807) (high:Int) {p:Int} (hp:0≤p∧p<700000) :
  ∃ r,gN high code p=some r∧kx r.1∧p≤r.2∧r.2≤p+100:=by
 obtain ⟨d,ed,d1,d2,d3,d4⟩:=Bj hc hl high (p:=p) ⟨by omega,by omega⟩
 obtain ⟨x,ex,x1,x2,x3⟩:=xv hc hl d d1 d2 d.2 ⟨by omega,by omega⟩
 rw [gN,ed,ae,ex,ae]
 by_cases h:0<(x.1.length:Int)
 ·obtain ⟨y,ey,ly,uy⟩:=pick (n:=16) hc hl (p:=x.2) ⟨by omega,by omega⟩
  rw [ak h,ey,ae,w64 (a:=x.2+1) (by omega) (by omega),w64 (a:=x.2+1+1) (by omega) (by omega),w64 (a:=x.2+1+1+1) (by omega) (by omega),w64 (a:=x.2+1+1+1+1) (by omega) (by omega),w64 (a:=x.2+1+1+1+1+1) (by omega) (by omega),w64 (a:=x.2+1+1+1+1+1+1) (by omega) (by omega)]
  by_cases h0:y=0
  ·obtain ⟨k,ek,lk,uk⟩:=pick (n:=(x.1.length:Int)) hc hl (p:=x.2+1) ⟨by omega,by omega⟩
   obtain ⟨nm1,en,sn⟩:=vk hc hl (p:=x.2+1+1) ⟨by omega,by omega⟩ (by omega)
   obtain ⟨z,ez,lz,uz⟩:=pick (n:=2) hc hl (p:=x.2+1+1+1+1) ⟨by omega,by omega⟩
   obtain ⟨w,ew,mw⟩:=one hc hl (p:=x.2+1+1+1+1+1) ⟨by omega,by omega⟩ (xs:=([5,(-1),4096,1001]:List Int)) (by simp)
   have uk:=uk (by omega)
   rw [ak h0,ek,ae,en,ae,ez,ae,ew,ae,al ⟨lk,uk⟩]
   refine ⟨_,rfl,⟨by simp only [List.length_set];exact x1.1,fun e he=>?_⟩,by simp only;omega,by simp only;omega⟩
   rcases List.mem_or_eq_of_mem_set he with he | rfl
   ·exact x1.2 e he
   ·simp only [List.mem_cons,List.not_mem_nil,or_false] at mw
    exact ⟨sn,by simp only;omega,by simp only;omega⟩
  ·rw [ai h0]
   exact ⟨_,rfl,x1,by simp only;omega,by simp only;omega⟩
 ·rw [ai h]
  exact ⟨_,rfl,x1,by simp only;omega,by simp only;omega⟩

def gc (x:ByteArray×Int):List (ByteArray×Int)→List (ByteArray×Int)
 | []=>[x]
 | y::r=>if x.2<y.2 then y::gc x r else x::y::r

theorem lG (x:ByteArray×Int):∀ r,(gc x r).Perm (x::r)
 | []=>List.Perm.refl _
 | y::r=>by
  rw [gc]
  split
  ·exact ((lG x r).cons y).trans (List.Perm.swap ..)
  ·exact List.Perm.refl _

theorem pk (x:ByteArray×Int):∀ r,r.Pairwise (fun a b=>b.2≤a.2)→(gc x r).Pairwise (fun a b=>b.2≤a.2)
 | [],_=>by simp [gc]
 | y::r,h=>by
  rw [gc]
  obtain ⟨h1,h2⟩:=List.pairwise_cons.1 h
  split
  ·rename_i hlt
   refine List.pairwise_cons.2 ⟨fun e he=>?_,pk x r h2⟩
   rcases List.mem_cons.1 ((lG x r).mem_iff.1 he) with rfl | he
   ·omega
   ·exact h1 e he
  ·rename_i hlt
   refine List.pairwise_cons.2 ⟨fun e he=>?_,h⟩
   rcases List.mem_cons.1 he with rfl | he
   ·omega
   ·have:=h1 e he;omega

def ut (l:List (ByteArray×Int)) (r:List (ByteArray×Int)):List (ByteArray×Int):=l.foldl (fun r x=>gc x r) r

def nA (l:List (ByteArray×Int)):List (ByteArray×Int):=(ut l []).reverse

theorem isortR_perm:∀ (l r:List (ByteArray×Int)),(ut l r).Perm (l++r)
 | [],r=>List.Perm.refl _
 | x::l,r=>by
  have h:=isortR_perm l (gc x r)
  refine h.trans ?_
  refine ((lG x r).append_left l).trans ?_
  exact List.perm_middle

theorem isortR_sorted:∀ (l r:List (ByteArray×Int)),r.Pairwise (fun a b=>b.2≤a.2)→(ut l r).Pairwise (fun a b=>b.2≤a.2)
 | [],r,h=>h
 | x::l,r,h=>isortR_sorted l (gc x r) (pk x r h)

theorem tY (l:List (ByteArray×Int)):(nA l).Perm l:=by
 have h:=isortR_perm l []
 rw [List.append_nil] at h
 exact (List.reverse_perm _).trans h

theorem mK (l:List (ByteArray×Int)):(nA l).length=l.length:=(tY l).length_eq

theorem yk (l:List (ByteArray×Int)):(nA l).Pairwise (fun a b=>a.2≤b.2):=by
 rw [nA,List.pairwise_reverse]
 exact isortR_sorted l [] List.Pairwise.nil

theorem B9 (A T:List (ByteArray×Int)) (x y:ByteArray×Int):((A++y::x::T).set (0+(A.length+1)) y).set (0+A.length) x=A++x::y::T:=by
 rw [Nat.zero_add,Nat.zero_add,List.set_append,if_neg (by omega),show A.length+1 - A.length=1 by omega,List.set_append,if_neg (by omega),Nat.sub_self]
 rfl

theorem Cm (M:Nat) (L2:Nat→Int→List (ByteArray×Int)→Option (List (ByteArray×Int)))
  (h0:∀ n v,L2 (n+1) 0 v=some v)
  (hs:∀ n (j:Nat) v,j+1<v.length→v.length≤M→L2 (n+1) ((j+1:Nat):Int) v=if (gt v ((j+1:Nat):Int)).2<(gt v (j:Int)).2 then L2 n (j:Int) ((v.set (0+(j+1)) (gt v (j:Int))).set (0+j) (gt v ((j+1:Nat):Int))) else some v)
  (x:ByteArray×Int) (T:List (ByteArray×Int)):∀ (R2 R1:List (ByteArray×Int)) (n:Nat),R2.length<n→R2.length+R1.length+T.length+1≤M →
  L2 n (R2.length:Int) (R2.reverse++x::(R1.reverse++T))=some ((R1++gc x R2).reverse++T)
 | [],R1,n,hn,hM=>by
  cases n with
  | zero=>simp at hn
  | succ n=>rw [show (([]:List (ByteArray×Int)).length:Int)=0 from rfl,h0];simp [gc]
 | y::R2,R1,n,hn,hM=>by
  cases n with
  | zero=>simp at hn
  | succ n =>
   have e1:(y::R2).reverse++x::(R1.reverse++T)=R2.reverse++y::x::(R1.reverse++T):=by simp
   have g1:gt (R2.reverse++y::x::(R1.reverse++T)) (R2.length:Int)=y:=by
    rw [cz (by simp),List.getElem_append_right (by simp)];simp
   have g2:gt (R2.reverse++y::x::(R1.reverse++T)) ((R2.length+1:Nat):Int)=x:=by
    rw [cz (by simp),List.getElem_append_right (by simp)];simp
   rw [e1,show ((y::R2).length:Int)=((R2.length+1:Nat):Int) by simp,hs n R2.length _ (by simp) (by simp at hM ⊢;omega),g1,g2,gc]
   by_cases h:x.2<y.2
   ·rw [if_pos h,if_pos h]
    have:=B9 R2.reverse (R1.reverse++T) x y
    rw [List.length_reverse] at this
    rw [this]
    have ih:=Cm M L2 h0 hs x T R2 (R1++[y]) n (by simp at hn;omega) (by simp at hM ⊢;omega)
    simp only [List.reverse_append,List.reverse_cons,List.reverse_nil,List.nil_append,List.cons_append,List.append_assoc] at ih ⊢
    exact ih
   ·rw [if_neg h,if_neg h]
    simp

theorem AA (L1:Nat→Int→List (ByteArray×Int)→Option (List (ByteArray×Int))) (m:Nat)
  (hend:∀ n v,v.length=m→L1 (n+1) (m:Int) v=some v)
  (hstep:∀ n (i:Nat) (R:List (ByteArray×Int)) (x:ByteArray×Int) (T:List (ByteArray×Int)),i<m→R.length=i→(R.reverse++x::T).length=m→L1 (n+1) (i:Int) (R.reverse++x::T)=L1 n ((i+1:Nat):Int) ((gc x R).reverse++T)) :
  ∀ (l R:List (ByteArray×Int)) (n:Nat),l.length<n→R.length+l.length=m→L1 n (R.length:Int) (R.reverse++l)=some (ut l R).reverse
 | [],R,n,hn,hm=>by
  cases n with
  | zero=>simp at hn
  | succ n =>
   simp at hm
   rw [hm,List.append_nil,hend _ _ (by simpa using hm)];rfl
 | x::l,R,n,hn,hm=>by
  cases n with
  | zero=>simp at hn
  | succ n =>
   have hl:(gc x R).length=R.length+1:=by rw [(lG x R).length_eq];rfl
   simp at hm hn
   rw [hstep n R.length R x l (by omega) rfl (by simp;omega),← hl,AA L1 m hend hstep l (gc x R) n (by omega) (by omega)]
   rfl

theorem yC (a b:Int):iS a b=some (if a<b then -1 else if b<a then 1 else 0):=by
 rw [iS,jg,ae,jg,ae]
 simp only [decide_true,Bool.not_true,cond_false]
 by_cases h1:a<b
 ·rw [ak h1,if_pos h1]
 ·rw [ai h1,if_neg h1]
  by_cases h2:b<a
  ·rw [ak h2,if_pos h2]
  ·rw [ai h2,if_neg h2]

theorem BL (a b:Int):(if a<b then (-1:Int) else if b<a then 1 else 0)<0↔a<b:=by
 by_cases h1:a<b
 ·simp [h1]
 ·by_cases h2:b<a <;> simp [h1,h2]

theorem vh (p2:Int) (v4:Int) (x:ByteArray×Int) (T R:List (ByteArray×Int)) (hl:R.length+1+T.length≤1000000) :
  aD 0 p2 v4 FU (R.length:Int) (R.reverse++x::T)=some ((gc x R).reverse++T):=by
 have h:=Cm 1000000 (aD 0 p2 v4) ?_ ?_ x T R [] FU (by rw [FU_eq];omega) (by simp;omega)
 ·simpa using h
 ·intro n v;rw [aD,ai (by omega)]
 ·intro n j v hj hM
  rw [aD,ak (by omega),al (by omega),w64 (a:=((j+1:Nat):Int) - 1) (by omega) (by omega),show ((j+1:Nat):Int) - 1=(j:Int) by omega,al (by omega),
   fU,yC,ae,ae,kI,Int.toNat_natCast,Int.toNat_natCast]
  simp only [BL]

theorem yM {l:List (ByteArray×Int)} (hl:l.length≤12):bS l=some (nA l):=by
 have e:IntKind.wrap .u64 (l.length:Int)=(l.length:Int):=qR (by omega) (by omega)
 have hs:bi 0 (l.length:Int) l=some (nA l):=by
  rw [bi,w64 (a:=(0:Int)+1) (by omega) (by omega)]
  cases l with
  | nil =>
   rw [show FU=4611686018427387903+1 from rfl,aB,ai (by simp),ae];rfl
  | cons y t =>
   have h:=AA (aB 0 ((y::t).length:Int)) (y::t).length ?_ ?_ t [y] FU (by rw [FU_eq];simp at hl;omega) (by simp;omega)
   ·rw [show aB 0 ((y::t).length:Int) FU (0+1) (y::t)=_ from h,ae];rfl
   ·intro n v hv;rw [aB,ai (by omega)]
   ·intro n i R x T hi hR hlen
    simp only [List.length_append,List.length_reverse,List.length_cons] at hlen hl
    rw [aB,ak (by simp at hi ⊢;omega),← hR,vh _ _ x T R (by omega),ae,hR,cj (by simp at hi;omega)]
 have hb:aZ l.length≤64:=jM (k:=64) (by omega)
 rw [bS,e,sJ (by omega),ae,bX,show FU=4611686018427387903+1 from rfl,br,
  w64 (by omega) (by omega),ak (by omega),hs,ae,al (mK l),ae,ae,al (mK l)]

def cg (l:List (ByteArray×Int)):List (ByteArray×Int):=(List.range 12).filterMap (fun k=>l.find? (fun d=>decide (d.2=((2 ^ k:Nat):Int))))

theorem fR {l:List (ByteArray×Int)} {d:ByteArray×Int}:d∈cg l↔∃ k,k<12∧l.find? (fun d=>decide (d.2=((2 ^ k:Nat):Int)))=some d:=by
 unfold cg
 rw [List.mem_filterMap]
 constructor
 ·rintro ⟨k,hk,h⟩;exact ⟨k,List.mem_range.1 hk,h⟩
 ·rintro ⟨k,hk,h⟩;exact ⟨k,List.mem_range.2 hk,h⟩

theorem qo {l:List (ByteArray×Int)} {d:ByteArray×Int} (h:d∈cg l):d∈l∧∃ k,k<12∧d.2=((2 ^ k:Nat):Int)∧l.find? (fun d=>decide (d.2=((2 ^ k:Nat):Int)))=some d:=by
 obtain ⟨k,hk,h⟩:=fR.1 h
 exact ⟨List.mem_of_find?_eq_some h,k,hk,by simpa using List.find?_some h,h⟩

theorem BU {a b:Nat} (h:((2 ^ a:Nat):Int)=((2 ^ b:Nat):Int)):a=b:=by
 have:(2 ^ a:Nat)=2 ^ b:=by omega
 rcases Nat.lt_trichotomy a b with h1 | h1 | h1
 ·have:=Nat.pow_lt_pow_right (a:=2) (by omega) h1;omega
 ·exact h1
 ·have:=Nat.pow_lt_pow_right (a:=2) (by omega) h1;omega

theorem tD (l:List (ByteArray×Int)):(cg l).Pairwise (fun a b=>a.2<b.2):=by
 unfold cg
 rw [List.pairwise_filterMap]
 refine List.Pairwise.imp ?_ (List.pairwise_lt_range (n:=12))
 intro a b hab x hx y hy
 have h1:x.2=((2 ^ a:Nat):Int):=by simpa using List.find?_some hx
 have h2:y.2=((2 ^ b:Nat):Int):=by simpa using List.find?_some hy
 have:(2 ^ a:Nat)<2 ^ b:=Nat.pow_lt_pow_right (by omega) hab
 rw [h1,h2];omega

theorem lg (l:List (ByteArray×Int)):(cg l).length≤12:=by
 unfold cg
 have:=List.length_filterMap_le (fun k=>l.find? (fun d=>decide (d.2=((2 ^ k:Nat):Int)))) (List.range 12)
 simpa using this

theorem sorted_unique:∀ (a b:List (ByteArray×Int)),a.Pairwise (fun x y=>x.2<y.2)→b.Pairwise (fun x y=>x.2<y.2)→(∀ d,d∈a↔d∈b)→a=b
 | [],[],_,_,_=>rfl
 | [],y::b,_,_,h=>by have:=(h y).2 (by simp);cases this
 | x::a,[],_,_,h=>by have:=(h x).1 (by simp);cases this
 | x::a,y::b,h1,h2,h=>by
  obtain ⟨g1,g2⟩:=List.pairwise_cons.1 h1
  obtain ⟨g3,g4⟩:=List.pairwise_cons.1 h2
  have hxy:x=y:=by
   rcases List.mem_cons.1 ((h x).1 (by simp)) with e | hx
   ·exact e
   ·rcases List.mem_cons.1 ((h y).2 (by simp)) with e | hy
    ·exact e.symm
    ·have:=g3 x hx;have:=g1 y hy;omega
  subst hxy
  congr 1
  refine sorted_unique a b g2 g4 fun d=>?_
  constructor
  ·intro hd
   rcases List.mem_cons.1 ((h d).1 (by simp [hd])) with rfl | h'
   ·have:=g1 d hd;omega
   ·exact h'
  ·intro hd
   rcases List.mem_cons.1 ((h d).2 (by simp [hd])) with rfl | h'
   ·have:=g3 d hd;omega
   ·exact h'

theorem xS {l:List (ByteArray×Int)} (hl:l.length≤1099511627776):fm l=some (cg l):=by
 have h:=qV (fun n (s:List (ByteArray×Int)×Int)=>bD l n s.1 s.2) (fun s=>∃ k:Nat,k≤12∧s.2=((2 ^ k:Nat):Int)∧s.1=(List.range k).filterMap (fun k=>l.find? (fun d=>decide (d.2=((2 ^ k:Nat):Int))))) (fun s=>5000 - s.2.toNat) (fun r=>r=cg l) ?_ FU ([],1) ⟨0,by omega,rfl,rfl⟩ (by rw [FU_eq];omega)
 ·rw [fm,show bD l FU [] 1=_ from h.eq,ae]
 ·rintro n ⟨v,b⟩ ⟨k,hk,h1,h2⟩ ih
  simp only at h1 h2
  subst h1;subst h2
  show Wp (bD l (n+1) ((List.range k).filterMap (fun k=>l.find? (fun d=>decide (d.2=((2 ^ k:Nat):Int))))) ((2 ^ k:Nat):Int)) _
  rw [bD]
  by_cases h:k=12
  ·subst h
   rw [ai (show ¬ ((2 ^ 12:Nat):Int)≤4095 by decide)]
   exact dP.2 rfl
  ·have hpl:=nN (k:=k) (by omega)
   have hp0:0<(2 ^ k:Nat):=Nat.pos_of_ne_zero (by simp)
   have ps:(2 ^ (k+1):Nat)=2 ^ k*2:=Nat.pow_succ ..
   have hlen:((List.range k).filterMap (fun k=>l.find? (fun d=>decide (d.2=((2 ^ k:Nat):Int))))).length≤k:=by
    have:=List.length_filterMap_le (fun k=>l.find? (fun d=>decide (d.2=((2 ^ k:Nat):Int)))) (List.range k)
    simpa using this
   rw [ak (by omega),mG l _ hl,ae,w64 (by omega) (by omega),show ((2 ^ k:Nat):Int)*2=((2 ^ (k+1):Nat):Int) by omega]
   have hr:(List.range (k+1)).filterMap (fun k=>l.find? (fun d=>decide (d.2=((2 ^ k:Nat):Int))))=(List.range k).filterMap (fun k=>l.find? (fun d=>decide (d.2=((2 ^ k:Nat):Int))))++(match l.find? (fun d=>decide (d.2=((2 ^ k:Nat):Int))) with | some d=>[d] | none=>[]):=by
    rw [List.range_succ,List.filterMap_append]
    congr 1
    simp only [List.filterMap_cons,List.filterMap_nil]
    cases l.find? (fun d=>decide (d.2=((2 ^ k:Nat):Int))) <;> rfl
   rcases ll (fun d=>decide (d.2=((2 ^ k:Nat):Int))) l with ⟨g1,g2,_⟩ | ⟨i,d,g1,g2,g3,g4,_⟩
   ·have g1:dT l ((2 ^ k:Nat):Int) = -1:=g1
    rw [g1,ai (by omega)]
    exact ih (_,_) ⟨k+1,by omega,rfl,by simp only;rw [hr,g2,List.append_nil]⟩ (by simp only [Int.toNat_natCast];omega)
   ·have g1:dT l ((2 ^ k:Nat):Int)=i:=g1
    rw [g1,ak (by omega),al (by omega),al (by rw [List.length_singleton];omega),g3]
    exact ih (_,_) ⟨k+1,by omega,rfl,by simp only;rw [hr,g4]⟩ (by simp only [Int.toNat_natCast];omega)

theorem pop_one_chk:chk (fun n=>!decide (popr 12 n=1) || (List.range 12).any (fun k=>decide (n=2 ^ k))) 4096=true:=by decide +kernel

theorem zb {n:Nat} (h:n<4096):pop n=1↔∃ k,k<12∧n=2 ^ k:=by
 constructor
 ·intro hp
  rw [pop_popr 12 n (by omega) h] at hp
  have:=qZ pop_one_chk n h
  rw [hp] at this
  simp only [decide_true,Bool.not_true,Bool.false_or,List.any_eq_true,List.mem_range,decide_eq_true_eq] at this
  exact this
 ·rintro ⟨k,hk,rfl⟩;exact Cc hk

theorem yR {n:Int} (h:0≤n∧n<4096):iW n=some (decide (pop n.toNat=1)):=by
 have e:IntKind.wrap .u64 n=((n.toNat:Nat):Int):=by rw [qR (by omega) (by omega)];omega
 rw [iW,e,vj (by omega),ae]
 congr 1
 exact decide_eq_decide.2 (by omega)

def bJ (l:List (ByteArray×Int)):List (ByteArray×Int):=l.foldl (fun acc d=>if pop d.2.toNat=1∧dT acc d.2<0 then acc++[d] else acc) []

theorem uf {l:List (ByteArray×Int)} {n:Int}:dT l n<0↔∀ d∈l,¬ d.2=n:=by
 unfold dT
 rcases ll (fun d=>decide (d.2=n)) l with ⟨h1,_,h3⟩ | ⟨i,d,h1,h2,h3,h4,h5,h6⟩
 ·rw [h1];exact ⟨fun _ d hd=>by simpa using h3 d hd,fun _=>by omega⟩
 ·rw [h1];exact ⟨fun h=>by omega,fun h=>absurd (by simpa using h6) (h d h5)⟩

theorem rn (l:List (ByteArray×Int)) (d:ByteArray×Int):bJ (l++[d])=if pop d.2.toNat=1∧dT (bJ l) d.2<0 then bJ l++[d] else bJ l:=by
 unfold bJ
 rw [List.foldl_append]
 rfl

theorem rp (l:List (ByteArray×Int)) (hv:V12 l):(∀ d,d∈bJ l↔d∈cg l)∧((bJ l).map (·.2)).Nodup:=by
 have key:∀ (n:Nat) (l:List (ByteArray×Int)),l.length=n→V12 l→(∀ d,d∈bJ l↔d∈cg l)∧((bJ l).map (·.2)).Nodup:=by
  intro n
  induction n with
  | zero =>
   intro l hl _
   have:l=[]:=List.length_eq_zero_iff.1 hl
   subst this
   refine ⟨fun d=>?_,by simp [bJ]⟩
   rw [fR];simp [bJ]
  | succ n ih =>
   intro l hl hv
   obtain ⟨l',d,rfl⟩:∃ l' d,l=l'++[d]:=by
    have:l≠[]:=by rintro rfl;simp at hl
    exact ⟨l.dropLast,l.getLast this,(List.dropLast_concat_getLast this).symm⟩
   simp at hl
   obtain ⟨h1,h2⟩:=ih l' hl (fun e he=>hv e (by simp [he]))
   have hd:=hv d (by simp)
   have hfind:∀ k,(l'++[d]).find? (fun d=>decide (d.2=((2 ^ k:Nat):Int)))=(l'.find? (fun d=>decide (d.2=((2 ^ k:Nat):Int)))).or (if d.2=((2 ^ k:Nat):Int) then some d else none):=by
    intro k
    rw [List.find?_append]
    congr 1
    by_cases e:d.2=((2 ^ k:Nat):Int) <;> simp [e]
   rw [rn]
   by_cases hc:pop d.2.toNat=1∧dT (bJ l') d.2<0
   ·rw [if_pos hc]
    obtain ⟨hp,hn⟩:=hc
    rw [uf] at hn
    obtain ⟨k,hk,ek⟩:=(zb (by omega)).1 hp
    have ed:d.2=((2 ^ k:Nat):Int):=by omega
    have hnone:l'.find? (fun d=>decide (d.2=((2 ^ k:Nat):Int)))=none:=by
     cases hf:l'.find? (fun d=>decide (d.2=((2 ^ k:Nat):Int))) with
     | none=>rfl
     | some e =>
      exfalso
      have:e∈bJ l':=(h1 e).2 (fR.2 ⟨k,hk,hf⟩)
      have h3:e.2=((2 ^ k:Nat):Int):=by simpa using List.find?_some hf
      exact hn e this (by rw [h3,ed])
    refine ⟨fun e=>?_,?_⟩
    ·rw [List.mem_append,h1 e,fR,fR]
     constructor
     ·rintro (⟨j,hj,hf⟩ | he)
      ·exact ⟨j,hj,by rw [hfind,hf];rfl⟩
      ·simp at he;subst he
       exact ⟨k,hk,by rw [hfind,hnone,if_pos ed];rfl⟩
     ·rintro ⟨j,hj,hf⟩
      rw [hfind] at hf
      cases hg:l'.find? (fun d=>decide (d.2=((2 ^ j:Nat):Int))) with
      | some x=>rw [hg] at hf;left;exact ⟨j,hj,by rw [hg];exact hf⟩
      | none =>
       rw [hg] at hf
       split at hf
       ·right;simp at hf;simp [hf]
       ·cases hf
    ·rw [List.map_append,List.nodup_append]
     refine ⟨h2,by simp,fun x hx y hy=>?_⟩
     simp at hy;subst hy
     obtain ⟨e,he,rfl⟩:=List.mem_map.1 hx
     exact hn e he
   ·rw [if_neg hc]
    refine ⟨fun e=>?_,h2⟩
    rw [h1 e,fR,fR]
    constructor
    ·rintro ⟨j,hj,hf⟩
     exact ⟨j,hj,by rw [hfind,hf];rfl⟩
    ·rintro ⟨j,hj,hf⟩
     refine ⟨j,hj,?_⟩
     rw [hfind] at hf
     cases hg:l'.find? (fun d=>decide (d.2=((2 ^ j:Nat):Int))) with
     | some x=>rw [hg] at hf;exact hf
     | none =>
      exfalso
      rw [hg] at hf
      split at hf
      ·rename_i e
       apply hc
       refine ⟨(zb (by omega)).2 ⟨j,hj,by omega⟩,?_⟩
       rw [uf]
       intro x hx ex
       obtain ⟨i,hi,hfi⟩:=fR.1 ((h1 x).1 hx)
       have h3:x.2=((2 ^ i:Nat):Int):=by simpa using List.find?_some hfi
       have hij:i=j:=BU (by rw [← h3,ex,e])
       subst hij
       rw [hg] at hfi;cases hfi
      ·cases hf
 exact key l.length l rfl hv

theorem qe {l:List (ByteArray×Int)} (hv:V12 l):nA (bJ l)=cg l:=by
 obtain ⟨h1,h2⟩:=rp l hv
 have hp:=tY (bJ l)
 refine sorted_unique _ _ ?_ (tD l) fun d=>by rw [hp.mem_iff];exact h1 d
 have hn:((nA (bJ l)).map (·.2)).Nodup:=(hp.map _).nodup_iff.2 h2
 rw [List.Nodup,List.pairwise_map] at hn
 refine (yk (bJ l)).imp₂ ?_ hn
 intro a b h3 h4
 omega

theorem xl {l:List (ByteArray×Int)} (b:Int) (hv:V12 l) (hl:l.length≤12):dR l b=some (cg l):=by
 have h:=nu l (bA l) (fun acc d=>if pop d.2.toNat=1∧dT acc d.2<0 then acc++[d] else acc) (fun i s=>s.length≤i) ?_ ?_ FU (by rw [FU_eq];omega) [] (by simp)
 ·have e:bA l FU [] 0=some (bJ l):=h.1
  have hlen:(bJ l).length≤12:=Nat.le_trans h.2 hl
  rw [dR,e,ae,yM hlen,ae,al (mK _),qe hv]
 ·intro n s;rw [bA,ai (by omega)]
 ·intro n i s hi hm hI
  have hd:=hv _ hm
  rw [bA,ak (by omega),al (by omega),yR hd,ae,rS s _ (by omega),ae,al (by simp;omega),cj (by omega),kI]
  by_cases h1:pop (gt l (i:Int)).2.toNat=1
  ·rw [if_pos h1]
   by_cases h2:dT s (gt l (i:Int)).2<0
   ·rw [ak h2,if_pos ⟨h1,h2⟩];exact ⟨by simp;omega,rfl⟩
   ·rw [ai h2,if_neg (fun h=>h2 h.2)];exact ⟨by omega,rfl⟩
  ·rw [if_neg h1,if_neg (fun h=>h1 h.1)];exact ⟨by omega,rfl⟩

theorem aT {n:Int} (h:0≤n):((n.toNat:Nat):Int)=n:=Int.toNat_of_nonneg h

theorem wG {f:List (ByteArray×Int)} (h:cH f) (b a c:Int):eP f b a c=some (if aU f b a∧aU f b c then ((a.toNat|||c.toNat:Nat):Int) else -1):=by
 rw [eP,fH,dW h,ae,dW h,ae,iw,ae]
 by_cases ha:aU f b a
 ·by_cases hc:aU f b c
  ·have h1:=ha.2.1
   have h2:=hc.2.1
   rw [decide_eq_true ha,decide_eq_true hc,if_pos ⟨ha,hc⟩,← Bc (by omega) (by omega),aT h1.1,aT h2.1]
   rfl
  ·rw [decide_eq_true ha,decide_eq_false hc,if_neg (fun h=>hc h.2)];rfl
 ·rw [decide_eq_false ha,if_neg (fun h=>ha h.1)];rfl

theorem uQ {f:List (ByteArray×Int)} (h:cH f) (b a c:Int):ea f b a c=some (if aU f b a∧aU f b c then ((a.toNat&&&c.toNat:Nat):Int) else -1):=by
 rw [ea,fe,dW h,ae,dW h,ae,ij,ae]
 by_cases ha:aU f b a
 ·by_cases hc:aU f b c
  ·have h1:=ha.2.1
   have h2:=hc.2.1
   rw [decide_eq_true ha,decide_eq_true hc,if_pos ⟨ha,hc⟩,← wX (by omega) (by omega),aT h1.1,aT h2.1]
   rfl
  ·rw [decide_eq_true ha,decide_eq_false hc,if_neg (fun h=>hc h.2)];rfl
 ·rw [decide_eq_false ha,if_neg (fun h=>ha h.1)];rfl

def jL (f:List (ByteArray×Int)) (a:Nat):List (ByteArray×Int):=(cg f).filter (fun d=>!decide (a&&&d.2.toNat=0))

def ip (f:List (ByteArray×Int)) (a:Nat):List ByteArray:=(jL f a).map (·.1)

def qW (f:List (ByteArray×Int)) (a:Nat):Nat:=aM a (aP (cg f))

theorem mR {f:List (ByteArray×Int)} (hv:V12 f):V12 (cg f):=fun d hd=>hv d (qo hd).1

theorem yz {f:List (ByteArray×Int)} (hv:V12 f) (a:Nat):V12 (jL f a):=fun d hd=>mR hv d (List.mem_filter.1 hd).1

theorem nW (f:List (ByteArray×Int)) (a:Nat):(jL f a).length≤12:=Nat.le_trans (List.length_filter_le _ _) (lg f)

theorem zw (l:List (ByteArray×Int)):∀ a,l.foldl (fun r d=>aM r d.2.toNat) a=aM a (aP l):=by
 induction l with
 | nil=>intro a;simp [aM,nmask_nil]
 | cons d l ih =>
  intro a
  rw [List.foldl_cons,ih,pi]
  apply Nat.eq_of_testBit_eq;intro i
  simp only [dG,Nat.testBit_or]
  cases a.testBit i <;> cases d.2.toNat.testBit i <;> cases (aP l).testBit i <;> rfl

theorem wq {a b:Nat}:a&&&b=0↔∀ i,¬ (a.testBit i=true∧b.testBit i=true):=by
 constructor
 ·intro h i hi
  have:=Nat.testBit_and a b i
  rw [h,hi.1,hi.2,Nat.zero_testBit] at this
  cases this
 ·intro h
  apply Nat.eq_of_testBit_eq;intro i
  rw [Nat.testBit_and,Nat.zero_testBit]
  have:=h i
  cases ha:a.testBit i <;> cases hb:b.testBit i <;> simp_all

theorem xM (f:List (ByteArray×Int)) (a:Nat):aM a (aP (jL f a))=qW f a:=by
 unfold qW
 apply Nat.eq_of_testBit_eq;intro i
 rw [dG,dG]
 cases ha:a.testBit i with
 | false=>rfl
 | true =>
  rw [Bool.true_and,Bool.true_and]
  congr 1
  rw [iR,iR,jL]
  apply yW
  rw [List.any_eq_true,List.any_eq_true]
  constructor
  ·rintro ⟨d,hd,h⟩;exact ⟨d,(List.mem_filter.1 hd).1,h⟩
  ·rintro ⟨d,hd,h⟩
   refine ⟨d,List.mem_filter.2 ⟨hd,?_⟩,h⟩
   rw [Bool.not_eq_true',decide_eq_false_iff_not,wq]
   intro hh
   exact hh i ⟨ha,h⟩

theorem vI {l:List (ByteArray×Int)} (hl:l.length≤1000000):dO l=some (l.map (·.1)):=by
 have h:=yb l (cm l) (fun d=>[d.1]) 1 (by simp) ?_ ?_ FU (by rw [FU_eq];omega)
 ·rw [dO,h,ae,fF,ae,sk]
 ·intro n acc;rw [cm,ai (by omega)]
 ·intro n i acc hi hm ha
  rw [cm,ak (by omega),al (by omega),kd,ae,al (by rw [List.length_singleton];omega),cj (by omega)]

theorem qH {l:List (ByteArray×Int)} (hl:l.length≤1000000):fG l=some (l.map (·.1)):=by
 have h:=yb l (dn l) (fun d=>[d.1]) 1 (by simp) ?_ ?_ FU (by rw [FU_eq];omega)
 ·rw [fG,h,ae,sk]
 ·intro n acc;rw [dn,ai (by omega)]
 ·intro n i acc hi hm ha
  rw [dn,ak (by omega),al (by omega),al (by rw [List.length_singleton];omega),cj (by omega)]

theorem wP {l:List (ByteArray×Int)} (hl:l.length≤1000000) (hv:V12 l) {a:Nat} (ha:a<4096):cL l (a:Int)=some ((l.filter (fun d=>!decide (a&&&d.2.toNat=0))).map (·.1)):=by
 have h:=yb l (aS l (a:Int)) (fun d=>if ¬ a&&&d.2.toNat=0 then [d.1] else []) 1 (fun d _=>by by_cases h:a&&&d.2.toNat=0 <;> simp [h]) ?_ ?_ FU (by rw [FU_eq];omega)
 ·rw [cL,h,ae,fF,ae,oT]
  simp
 ·intro n acc;rw [aS,ai (by omega)]
 ·intro n i acc hi hm hacc
  have hd:=hv _ hm
  have e:=wX (a:=a) (b:=(gt l (i:Int)).2.toNat) (by omega) (by omega)
  rw [aT hd.1] at e
  rw [aS,ak (by omega),al (by omega),ff,ae,e,cj (by omega)]
  by_cases h:a&&&(gt l (i:Int)).2.toNat=0
  ·rw [decide_eq_true (by omega),Bool.not_true,cond_false,if_neg (by omega),List.append_nil]
  ·rw [decide_eq_false (by omega),Bool.not_false,cond_true,al (by rw [List.length_singleton];omega),if_pos h]

theorem xc {f:List (ByteArray×Int)} (hv:V12 f) (hl:f.length≤12) (b:Int) {a:Nat} (ha:a<4096):fi f b (a:Int)=some (ip f a,((qW f a:Nat):Int)):=by
 have hs:=mR hv
 have hsl:=lg f
 have h:=nu (cg f) (bU (ip f a) (cg f)) (fun (r:Int) d=>((aM r.toNat d.2.toNat:Nat):Int)) (fun _ r=>0≤r∧r<4096) ?_ ?_ FU (by rw [FU_eq];omega) (a:Int) (by omega)
 ·have e:∀ (l:List (ByteArray×Int)) (n:Nat),l.foldl (fun (r:Int) d=>((aM r.toNat d.2.toNat:Nat):Int)) (n:Int)=((l.foldl (fun r d=>aM r d.2.toNat) n:Nat):Int):=by
   intro l
   induction l with
   | nil=>intro n;rfl
   | cons d l ih=>intro n;rw [List.foldl_cons,List.foldl_cons,Int.toNat_natCast,ih]
  rw [fi,xl b hv hl,ae,wP (by omega) hs ha,ae,ae]
  show bd (bU (ip f a) (cg f) FU (a:Int) 0) _=_
  rw [h.1,ae,e,zw];rfl
 ·intro n s;rw [bU,ai (by omega)]
 ·intro n i s hi hm hI
  have hd:=hs _ hm
  have e:=jt (a:=s.toNat) (b:=(gt (cg f) (i:Int)).2.toNat) (by omega) (by omega)
  rw [aT hd.1,aT hI.1] at e
  have hle:=jx s.toNat (gt (cg f) (i:Int)).2.toNat
  rw [bU,ak (by omega),al (by omega),e,cj (by omega)]
  exact ⟨by omega,rfl⟩

theorem yT {f:List (ByteArray×Int)} (hv:V12 f) (hl:f.length≤1099511627776) {a:Nat} (ha:a<4096):iZ f (a:Int)=some (jL f a):=by
 have hs:=mR hv
 have hsl:=lg f
 have h:=yb (cg f) (cY (a:Int) (cg f)) (fun d=>if ¬ a&&&d.2.toNat=0 then [d] else []) 1 (fun d _=>by by_cases h:a&&&d.2.toNat=0 <;> simp [h]) ?_ ?_ FU (by rw [FU_eq];omega)
 ·rw [iZ,xS hl,ae,h,ae,oT,jL]
  simp
 ·intro n acc;rw [cY,ai (by omega)]
 ·intro n i acc hi hm hacc
  have hd:=hs _ hm
  have e:=lR (a:=(gt (cg f) (i:Int)).2.toNat) (b:=a) (by omega) ha
  rw [aT hd.1,Nat.and_comm] at e
  rw [cY,ak (by omega),al (by omega),e,ae,cj (by omega)]
  by_cases h:a&&&(gt (cg f) (i:Int)).2.toNat=0
  ·rw [ai (by omega),if_neg (by omega),List.append_nil]
  ·rw [ak (by omega),al (by rw [List.length_singleton];omega),if_pos h]

theorem rO (f:List (ByteArray×Int)) (s:ByteArray) : -1≤dY f s∧dY f s<(f.length:Int):=tc _ _

theorem aU.mask {f:List (ByteArray×Int)} {b:Int} (hf:bG f b):aU f b ((aP f:Nat):Int):=by
 have:=eJ hf.v12
 exact ⟨hf,by omega,.inr (by simp [aM])⟩

theorem aU.or {f:List (ByteArray×Int)} {b x y:Int} (hx:aU f b x) (hy:aU f b y):aU f b ((x.toNat|||y.toNat:Nat):Int):=by
 have h1:=hx.2.1
 have h2:=hy.2.1
 have:=oD (a:=x.toNat) (b:=y.toNat) (by omega) (by omega)
 refine ⟨hx.1,by omega,?_⟩
 rw [Int.toNat_natCast]
 rcases hx.2.2 with h | h
 ·exact .inl h
 ·rcases hy.2.2 with h' | h'
  ·exact .inl h'
  ·right;rw [A1,h,h'];rfl

theorem aU.sub {f:List (ByteArray×Int)} {b x:Int} {n:Nat} (hx:aU f b x) (h:aM n x.toNat=0):aU f b (n:Int):=by
 have h1:=hx.2.1
 have:=rR h
 refine ⟨hx.1,by omega,?_⟩
 rw [Int.toNat_natCast]
 rcases hx.2.2 with h' | h'
 ·exact .inl h'
 ·right
  rw [iK] at *
  exact fun i hi=>h' i (h i hi)

theorem uS (a b:Nat):aM (a&&&b) a=0:=by
 rw [iK];intro i hi
 rw [Nat.testBit_and] at hi
 simp at hi;exact hi.1

theorem kV (f:List (ByteArray×Int)) (a:Nat):(ip f a).length≤12:=by
 rw [ip,List.length_map];exact nW f a

theorem B0 {α:Type} [Inhabited α] (l:List α) (del:α→Bool) (L:Nat→Int→Int→List α→Option (Int×List α)) (hsz:l.length≤1000000000)
  (hend:∀ n (i:Nat) v,v.length=l.length→L (n+1) (i:Int) (l.length:Int) v=some ((i:Int),v))
  (hstep:∀ n (i j:Nat) v,i≤j→j<l.length→v.length=l.length→gt v (j:Int)∈l→L (n+1) (i:Int) (j:Int) v=bif del (gt v (j:Int)) then L n (i:Int) ((j+1:Nat):Int) v else L n ((i+1:Nat):Int) ((j+1:Nat):Int) (v.set (0+i) (gt v (j:Int))))
  (N:Nat) (i j:Nat) (v:List α) (hN:l.length<N) (hij:i≤j) (hj:j≤l.length) (hv:v.length=l.length) (hd:v.drop j=l.drop j) (ht:v.take i=(l.take j).filter (fun d=>!del d)) :
  ∃ w,L N (i:Int) (j:Int) v=some (((l.filter (fun d=>!del d)).length:Int),w)∧w.length=l.length∧w.take (l.filter (fun d=>!del d)).length=l.filter (fun d=>!del d):=by
 have key:∀ (k i j n:Nat) (v:List α),j+k=l.length→k<n→i≤j→v.length=l.length→v.drop j=l.drop j→v.take i=(l.take j).filter (fun d=>!del d) →
   ∃ w,L n (i:Int) (j:Int) v=some (((l.filter (fun d=>!del d)).length:Int),w)∧w.length=l.length∧w.take (l.filter (fun d=>!del d)).length=l.filter (fun d=>!del d):=by
  intro k
  induction k with
  | zero =>
   intro i j n v hk hn hij hv hd ht
   cases n with
   | zero=>omega
   | succ n =>
    have hjl:j=l.length:=by omega
    subst hjl
    rw [List.take_length] at ht
    have hi:i=(l.filter (fun d=>!del d)).length:=by rw [← ht,List.length_take];omega
    exact ⟨v,by rw [hend n i v hv,← hi],hv,by rw [← hi];exact ht⟩
  | succ k ih =>
   intro i j n v hk hn hij hv hd ht
   cases n with
   | zero=>omega
   | succ n =>
    have hj1:j<l.length:=by omega
    have hj2:j<v.length:=by omega
    have hg:gt v (j:Int)=l[j]:=by
     rw [cz hj2]
     have h1:=congrArg (fun z=>z[0]?) hd
     simp only [List.getElem?_drop,Nat.add_zero,List.getElem?_eq_getElem hj1,List.getElem?_eq_getElem hj2,Option.some.injEq] at h1
     exact h1
    have hd':v.drop (j+1)=l.drop (j+1):=by
     rw [← List.drop_drop (i:=1) (j:=j),hd,List.drop_drop]
    have e1:l.take (j+1)=l.take j++[l[j]]:=by rw [List.take_append_getElem]
    rw [hstep n i j v hij hj1 hv (by rw [hg];exact List.getElem_mem hj1),hg]
    cases hdel:del l[j] with
    | true =>
     rw [cond_true]
     refine ih i (j+1) n v (by omega) (by omega) (by omega) hv hd' ?_
     rw [e1,List.filter_append,ht]
     simp [hdel]
    | false =>
     rw [cond_false]
     refine ih (i+1) (j+1) n _ (by omega) (by omega) (by omega) (by rw [List.length_set];exact hv) ?_ ?_
     ·rw [Nat.zero_add,List.drop_set_of_lt (by omega)];exact hd'
     ·have hi':i<v.length:=by omega
      rw [Nat.zero_add,List.take_set,← List.take_append_getElem hi',e1,List.filter_append,List.set_append,← ht]
      have hlt:(v.take i).length=i:=by rw [List.length_take];omega
      rw [if_neg (by omega),hlt,Nat.sub_self,List.set_cons_zero]
      simp [hdel]
 exact key (l.length - j) i j N v (by omega) (by omega) hij hv hd ht

theorem A3 {α:Type} (w:List α) (i:Nat) (b:Int) (z:α) (h:i≤w.length):sub (clr w (i:Int) b z) (0:Int) (i:Int)=w.take i:=by
 have h1:(w.take (0+i)).length=i:=by rw [List.length_take];omega
 unfold sub clr
 rw [Int.toNat_natCast,Int.toNat_zero,List.drop_zero,Nat.sub_zero,List.append_assoc,List.take_append_of_le_length (by omega),Nat.zero_add,List.take_take,Nat.min_self]

def dK (f:List (ByteArray×Int)) (a:Nat):List (ByteArray×Int):=f.filter (fun d=>decide (0<d.2) && decide (aM d.2.toNat a=0))

theorem ot (s:ByteArray) {n:Int} (h:0≤n∧n<4096) {a:Nat} (ha:a<4096):cV s n (a:Int)=some (!(decide (0<n) && decide (aM n.toNat a=0))):=by
 have e:=jt (a:=n.toNat) (b:=a) (by omega) (by omega)
 rw [aT h.1] at e
 rw [cV,e]
 by_cases h0:n=0
 ·rw [ak h0,decide_eq_false (by omega)];rfl
 ·rw [ai h0,decide_eq_true (p:=0<n) (by omega),Bool.true_and]
  refine congrArg some (congrArg not (decide_eq_decide.2 ?_))
  omega

theorem xb {f:List (ByteArray×Int)} (hv:V12 f) (hl:f.length≤12) (b:Int) {a:Nat} (ha:a<4096):fj f b (a:Int)=some (dK f a):=by
 have hix:bO f (a:Int)=some (ix (fun d=>!(decide (0<d.2) && decide (aM d.2.toNat a=0))) f):=by
  rw [bO]
  refine Co f (aL f (a:Int)) _ ?_ ?_ FU (by rw [FU_eq];omega)
  ·intro n;rw [aL,ai (by omega)]
  ·intro n i hi
   rw [aL,ak (by omega),al (by omega),ot _ (hv _ (eD (by omega))) ha,ae,cj (by omega)]
   cases (!(decide (0<(gt f (i:Int)).2) && decide (aM (gt f (i:Int)).2.toNat a=0))) <;> rfl
 rw [fj,eU,al (by omega),ae,cp,hix,ae]
 have hfil:f.filter (fun d=>!!(decide (0<d.2) && decide (aM d.2.toNat a=0)))=dK f a:=by unfold dK;simp only [Bool.not_not]
 unfold ix
 cases h:f.findIdx? (fun d=>!(decide (0<d.2) && decide (aM d.2.toNat a=0))) with
 | none =>
  rw [List.findIdx?_eq_none_iff] at h
  simp only []
  rw [ak trivial,ae]
  refine congrArg some ?_
  rw [dK,eq_comm,List.filter_eq_self]
  intro d hd
  simpa using h d hd
 | some i =>
  rw [List.findIdx?_eq_some_iff_getElem] at h
  obtain ⟨hi,h1,h2⟩:=h
  simp only []
  have hpre:∀ d∈f.take i,(decide (0<d.2) && decide (aM d.2.toNat a=0))=true:=fun d hd=>by
   obtain ⟨j,hj,rfl⟩:=List.mem_iff_getElem.1 hd
   rw [List.length_take] at hj
   have:=h2 j (by omega)
   simp only [Bool.not_eq_true,Bool.not_eq_false',List.getElem_take] at this ⊢
   simpa using this
  obtain ⟨w,e,hw,hwt⟩:=B0 f (fun d=>!(decide (0<d.2) && decide (aM d.2.toNat a=0))) (aG (a:Int)) (by omega) (fun n i v hv'=>by
    rw [aG,hv',ai (by omega)])
   (fun n i j v hij hj hvl hm=>by
    rw [aG,hvl,ak (by omega),al (by omega),ot _ (hv _ hm) ha,ae,cj (i:=j) (by omega)]
    cases (!(decide (0<(gt v (j:Int)).2) && decide (aM (gt v (j:Int)).2.toNat a=0))) with
    | true=>rfl
    | false=>rw [Bool.not_false,cond_true,cond_false,al (by omega),cj (i:=i) (by omega),Int.toNat_natCast])
   FU i (i+1) f (by rw [FU_eq];omega) (by omega) (by omega) rfl rfl (by
    rw [← List.take_append_getElem hi,List.filter_append]
    have e1:(f.take i).filter (fun d=>!!(decide (0<d.2) && decide (aM d.2.toNat a=0)))=f.take i:=by
     rw [List.filter_eq_self];intro d hd;rw [Bool.not_not];exact hpre d hd
    rw [e1]
    have e2:[f[i]].filter (fun d=>!!(decide (0<d.2) && decide (aM d.2.toNat a=0)))=[]:=by
     rw [List.filter_cons_of_neg]
     ·rfl
     ·intro hc;rw [Bool.not_not] at hc;rw [hc] at h1;cases h1
    rw [e2,List.append_nil])
  have hle:(dK f a).length≤f.length:=List.length_filter_le _ _
  rw [hfil] at e hwt
  rw [ai (by omega),cj (i:=i) (by omega),e,ae]
  simp only []
  rw [al (by rw [hw];omega),al (by rw [hw];omega),A3 _ _ _ _ (by omega),hwt,ae]

theorem ye {f:List (ByteArray×Int)} (hv:V12 f) (hl:f.length≤12) {a:Nat} (ha:a<4096):iD f (a:Int)=some (dK f a):=by
 have e:=yb f (cy f (a:Int)) (fun d=>if (decide (0<d.2) && decide (aM d.2.toNat a=0))=true then [d] else []) 1 (fun d _=>by cases (decide (0<d.2) && decide (aM d.2.toNat a=0)) <;> simp) ?_ ?_ FU (by rw [FU_eq];omega)
 ·rw [iD,e,ae,oT (fun d:ByteArray×Int=>(decide (0<d.2) && decide (aM d.2.toNat a=0))=true) (fun d=>d)]
  simp [dK]
 ·intro n acc;rw [cy,ai (by omega)]
 ·intro n i acc hi hm hacc
  have hd:=hv _ hm
  have el:=fI (a:=(gt f (i:Int)).2.toNat) (b:=a) (by omega) ha
  rw [aT hd.1] at el
  rw [cy,ak (by omega),al (by omega),el,ae,cj (by omega)]
  by_cases h0:0<(gt f (i:Int)).2
  ·rw [ak h0,decide_eq_true h0,Bool.true_and]
   by_cases h1:aM (gt f (i:Int)).2.toNat a=0
   ·rw [ak (by omega),al (by rw [List.length_singleton];omega),decide_eq_true h1,if_pos rfl]
   ·rw [ai (by omega),decide_eq_false h1,if_neg (by simp),List.append_nil]
  ·rw [ai h0,decide_eq_false h0,Bool.false_and,if_neg (by simp),List.append_nil]

theorem kW (l:List (ByteArray×Int)) (n:Int) : -1≤dT l n∧dT l n<(l.length:Int):=tc _ _

theorem yh {l:List (ByteArray×Int)} {s:ByteArray} (h:¬ dY l s<0):gt l (dY l s)∈l∧(gt l (dY l s)).1=s:=by
 unfold dY at *
 rcases ll (fun d:ByteArray×Int=>decide (d.1=s)) l with ⟨h1,_⟩ | ⟨i,d,h1,h2,h3,h4,h5,h6⟩
 ·omega
 ·rw [h1,h3];exact ⟨h5,of_decide_eq_true h6⟩

theorem yB {n:Int} (h0:0≤n) (h1:n≤1000000000):eX n=some []:=by
 have e0:IntKind.wrap .i64 ((0:Int) - 0)=0:=w64 (a:=(0:Int) - 0) (by omega) (by omega)
 rw [eX,ai (by omega),bN,e0,w64 (a:=n - 0) (by omega) (by omega)]
 by_cases hn:0<n - 0
 ·rw [decide_eq_true hn,cond_true,al ⟨rfl,rfl,rfl⟩,al (by omega),al (by rw [List.length_replicate,List.length_nil];omega),al (by rw [List.length_replicate];omega)]
  rfl
 ·rw [decide_eq_false hn,cond_false]

theorem BJ {a b:List (ByteArray×Int)} (ha:a.length≤1000000) (hb:b.length≤1000000):dV a b=some (a++b):=by
 have e1:IntKind.wrap .i64 ((0:Int)+(a.length:Int))=(a.length:Int):=by rw [w64 (by omega) (by omega)];omega
 rw [dV,e1,ai (by omega),bN,w64 (a:=(a.length:Int)+(b.length:Int)) (by omega) (by omega),ai (by omega),yB (by omega) (by omega),ae,al (by rw [List.length_nil];omega),al (by rw [List.nil_append];omega),List.nil_append]

def iO (f:List (ByteArray×Int)→Nat→Option (List (ByteArray×Int))):List (ByteArray×Int)→Nat→Option (List (ByteArray×Int))
 | [],_=>none
 | d::l,a=>match f l (aM a d.2.toNat) with
  | some r=>some (d::r)
  | none=>iO f l a

def fewC:Nat→List (ByteArray×Int)→Nat→Option (List (ByteArray×Int))
 | 0,_,a=>if a=0 then some [] else none
 | n+1,l,a=>iO (fewC n) l a

def nK (x:Option (List (ByteArray×Int))):List (ByteArray×Int)×Bool:=match x with
 | some r=>(r,true)
 | none=>([],false)

theorem fewC_out:∀ (n:Nat) (l:List (ByteArray×Int)) (a:Nat) (r:List (ByteArray×Int)),fewC n l a=some r→r.length=n∧∀ d∈r,d∈l
 | 0,l,a,r,h=>by
  rw [fewC] at h
  split at h
  ·cases h;exact ⟨rfl,by simp⟩
  ·cases h
 | n+1,l,a,r,h=>by
  rw [fewC] at h
  have key:∀ (l:List (ByteArray×Int)),iO (fewC n) l a=some r→r.length=n+1∧∀ d∈r,d∈l:=by
   intro l
   induction l with
   | nil=>intro h;cases h
   | cons d l ih =>
    intro h
    rw [iO] at h
    split at h
    ·rename_i r' hr
     cases h
     obtain ⟨g1,g2⟩:=fewC_out n l _ r' hr
     refine ⟨by rw [List.length_cons,g1],fun x hx=>?_⟩
     rcases List.mem_cons.1 hx with rfl | hx
     ·exact List.mem_cons_self ..
     ·exact List.mem_cons_of_mem _ (g2 x hx)
    ·obtain ⟨g1,g2⟩:=ih h
     exact ⟨g1,fun x hx=>List.mem_cons_of_mem _ (g2 x hx)⟩
  exact key l h

theorem A4 {α:Type} (l:List α) (i:Nat):sub l (i:Int) (l.length:Int)=l.drop i:=by
 unfold sub
 rw [Int.toNat_natCast,Int.toNat_natCast,List.take_of_length_le (by rw [List.length_drop];omega)]

theorem xr {a b:Nat} (h:a<4096):aM a b<4096:=Nat.lt_of_le_of_lt (jx a b) h

theorem impl_fewest:∀ (n k:Nat) (l:List (ByteArray×Int)) (a:Nat),n<k→n≤1000→V12 l→l.length≤1000→a<4096→m_impl_fewest k l (n:Int) (a:Int)=some (nK (fewC n l a))
 | 0,k,l,a,hk,hn,hv,hl,ha=>by
  cases k with
  | zero=>omega
  | succ k =>
   rw [m_impl_fewest,ak (by rfl),fewC]
   by_cases h:a=0
   ·rw [if_pos h,decide_eq_true (by omega)];rfl
   ·rw [if_neg h,decide_eq_false (by omega)];rfl
 | n+1,k,l,a,hk,hn,hv,hl,ha=>by
  cases k with
  | zero=>omega
  | succ k =>
   have hloop:cW (m_impl_fewest k) l ((n+1:Nat):Int) (a:Int) FU 0=some (match iO (fewC n) l a with | some r=>.inl r | none=>.inr ()):=by
    refine Wp.eq (jA l (fun m i (_:Unit)=>cW (m_impl_fewest k) l ((n+1:Nat):Int) (a:Int) m i) (fun i _=>iO (fewC n) (l.drop i) a=iO (fewC n) l a) (fun r=>r=(match iO (fewC n) l a with | some r=>.inl r | none=>.inr ())) ?_ ?_ FU (by rw [FU_eq];omega) () rfl)
    ·intro m _ hI
     rw [List.drop_length,iO] at hI
     rw [cW,ai (by omega),← hI]
     exact ⟨_,rfl,rfl⟩
    ·intro m i _ d hi hg hdr hm hI ih
     have hd:=hv d hm
     have e1:=jt (a:=a) (b:=d.2.toNat) (by omega) (by omega)
     rw [aT hd.1] at e1
     have ihn:=impl_fewest n k (l.drop (i+1)) (aM a d.2.toNat) (by omega) (by omega) (fun x hx=>hv x (List.mem_of_mem_drop hx)) (by rw [List.length_drop];omega) (xr ha)
     rw [hdr,iO] at hI
     rw [cW,ak (by omega),al (by omega),cj (i:=i) (by omega),al (by omega),hg,e1,A4,w64 (a:=((n+1:Nat):Int) - 1) (by omega) (by omega),show ((n+1:Nat):Int) - 1=(n:Int) by omega,ihn,ae]
     cases hf:fewC n (l.drop (i+1)) (aM a d.2.toNat) with
     | none =>
      rw [hf] at hI
      simp only [nK,cond_false]
      exact ih () hI
     | some r =>
      rw [hf] at hI
      have hrl:=(fewC_out n _ _ r hf).1
      simp only [nK,cond_true]
      rw [BJ (by simp) (by omega),ae,← hI]
      exact ⟨_,rfl,rfl⟩
   rw [m_impl_fewest,ai (by omega),hloop,ae,fewC]
   cases iO (fewC n) l a <;> rfl

theorem spec_fewest:∀ (n k:Nat) (l:List (ByteArray×Int)) (b a:Nat),n<k→n≤1000→V12 l→l.length≤1000→b≤l.length→a<4096→m_spec_fewest k l (b:Int) (n:Int) (a:Int)=some (nK (fewC n (l.drop b) a))
 | 0,k,l,b,a,hk,hn,hv,hl,hb,ha=>by
  cases k with
  | zero=>omega
  | succ k =>
   rw [m_spec_fewest,ak (by rfl),fewC]
   by_cases h:a=0
   ·rw [if_pos h,decide_eq_true (by omega)];rfl
   ·rw [if_neg h,decide_eq_false (by omega)];rfl
 | n+1,k,l,b,a,hk,hn,hv,hl,hb,ha=>by
  cases k with
  | zero=>omega
  | succ k =>
   have hbl:(l.drop b).length=l.length - b:=List.length_drop ..
   have hloop:cX (m_spec_fewest k) l ((n+1:Nat):Int) (a:Int) FU (b:Int)=some (match iO (fewC n) (l.drop b) a with | some r=>.inl r | none=>.inr ()):=by
    have h:=jA (l.drop b) (fun m i (_:Unit)=>cX (m_spec_fewest k) l ((n+1:Nat):Int) (a:Int) m ((b:Int)+i)) (fun i _=>iO (fewC n) ((l.drop b).drop i) a=iO (fewC n) (l.drop b) a) (fun r=>r=(match iO (fewC n) (l.drop b) a with | some r=>.inl r | none=>.inr ())) ?_ ?_ FU (by rw [FU_eq];omega) () rfl
    ·have h:=h.eq
     simp only [Int.add_zero] at h
     exact h
    ·intro m _ hI
     rw [List.drop_length,iO] at hI
     rw [cX,ai (by omega),← hI]
     exact ⟨_,rfl,rfl⟩
    ·intro m i _ d hi hg hdr hm hI ih
     have hml:=List.mem_of_mem_drop hm
     have hd:=hv d hml
     have hbi:b+i<l.length:=by omega
     have hg2:gt l ((b:Int)+(i:Int))=d:=by
      rw [show ((b:Int)+(i:Int))=((b+i:Nat):Int) by omega,cz hbi,← hg,cz hi,List.getElem_drop]
     have e1:=fI (a:=a) (b:=d.2.toNat) ha (by omega)
     rw [aT hd.1] at e1
     have ihn:=spec_fewest n k l (b+i+1) (aM a d.2.toNat) (by omega) (by omega) hv hl (by omega) (xr ha)
     have hdd:(l.drop b).drop (i+1)=l.drop (b+i+1):=by rw [List.drop_drop];congr 1
     rw [hdr,iO,hdd] at hI
     rw [cX,ak (by omega),al (by omega),hg2,e1,ae,w64 (a:=(b:Int)+(i:Int)+1) (by omega) (by omega),show (b:Int)+(i:Int)+1=((b+i+1:Nat):Int) by omega,w64 (a:=((n+1:Nat):Int) - 1) (by omega) (by omega),show ((n+1:Nat):Int) - 1=(n:Int) by omega,ihn,ae]
     cases hf:fewC n (l.drop (b+i+1)) (aM a d.2.toNat) with
     | none =>
      rw [hf] at hI
      simp only [nK,cond_false]
      have:=ih () (by rw [hdd];exact hI)
      rw [show (b:Int)+((i+1:Nat):Int)=((b+i+1:Nat):Int) by omega] at this
      exact this
     | some r =>
      rw [hf] at hI
      have hrl:=(fewC_out n _ _ r hf).1
      rw [show nK (some r)=(r,true) from rfl,cond_true,al (by rw [List.length_singleton];show 1+r.length≤_;omega),← hI]
      exact ⟨_,rfl,rfl⟩
   rw [m_spec_fewest,ai (by omega),hloop,ae,fewC]
   cases iO (fewC n) (l.drop b) a <;> rfl

theorem few_all:∀ (l:List (ByteArray×Int)) (a:Nat),aM a (aP l)=0→∃ r,fewC l.length l a=some r
 | [],a,h=>by
  have:a=0:=by rw [nmask_nil] at h;simpa [aM] using h
  subst this;exact ⟨[],rfl⟩
 | d::l,a,h=>by
  have h1:aM (aM a d.2.toNat) (aP l)=0:=by
   rw [pi] at h
   rw [iK] at h ⊢
   intro i hi
   rw [dG,Bool.and_eq_true,Bool.not_eq_true'] at hi
   have:=h i hi.1
   rw [Nat.testBit_or,hi.2,Bool.false_or] at this
   exact this
  obtain ⟨r,hr⟩:=few_all l _ h1
  refine ⟨d::r,?_⟩
  rw [List.length_cons,fewC,iO,hr]

def iT (l:List (ByteArray×Int)):List (ByteArray×Int):=((List.range (l.length+1)).findSome? (fun n=>fewC n l (aP l))).getD []

theorem pg (l:List (ByteArray×Int)):∃ r,(List.range (l.length+1)).findSome? (fun n=>fewC n l (aP l))=some r:=by
 cases h:(List.range (l.length+1)).findSome? (fun n=>fewC n l (aP l)) with
 | some r=>exact ⟨r,rfl⟩
 | none =>
  rw [List.findSome?_eq_none_iff] at h
  have:=h l.length (List.mem_range.2 (by omega))
  obtain ⟨r,hr⟩:=few_all l (aP l) (by simp [aM])
  rw [hr] at this;cases this

theorem zZ {f:List (ByteArray×Int)} (hv:V12 f) (hl:f.length≤12) (b:Int) {a:Nat} (ha:a<4096):gi f b (a:Int)=some (iT (dK f a)):=by
 have hfl:(dK f a).length≤12:=Nat.le_trans (List.length_filter_le _ _) hl
 have hfv:V12 (dK f a):=fun d hd=>hv d (List.mem_filter.1 hd).1
 generalize hL:dK f a=L at hfl hfv
 obtain ⟨r0,hr0⟩:=pg L
 have hloop:cC L FU 0=some (iT L):=by
  refine Wp.eq (jA (List.range (L.length+1)) (fun m i (_:Unit)=>cC L m i) (fun i _=>((List.range (L.length+1)).drop i).findSome? (fun n=>fewC n L (aP L))=some r0) (fun r=>r=iT L) ?_ ?_ FU (by rw [FU_eq,List.length_range];omega) () hr0)
  ·intro m _ hI
   rw [List.drop_length] at hI
   cases hI
  ·intro m i _ d hi hg hdr hm hI ih
   rw [List.length_range] at hi
   rw [yd hi] at hg
   subst hg
   rw [hdr,List.findSome?_cons] at hI
   rw [cC,eS,kH 0 hfv (by omega),ae,ae,impl_fewest i FU L (aP L) (by rw [FU_eq];omega) (by omega) hfv (by omega) (eJ hfv),ae]
   cases hf:fewC i L (aP L) with
   | none =>
    rw [hf] at hI
    simp only [nK,cond_false]
    rw [cj (i:=i) (by omega)]
    exact ih () hI
   | some r =>
    rw [hf] at hI
    cases hI
    simp only [nK,cond_true]
    exact ⟨_,rfl,by rw [iT,hr0];rfl⟩
 rw [gi,xb hv hl b ha,ae,hL,hloop,ae]

theorem zW {f:List (ByteArray×Int)} (hv:V12 f) (hl:f.length≤12) {a:Nat} (ha:a<4096):ju f (a:Int)=some (iT (dK f a)):=by
 have hfl:(dK f a).length≤12:=Nat.le_trans (List.length_filter_le _ _) hl
 have hfv:V12 (dK f a):=fun d hd=>hv d (List.mem_filter.1 hd).1
 generalize hL:dK f a=L at hfl hfv
 obtain ⟨r0,hr0⟩:=pg L
 have hloop:dM L ((aP L:Nat):Int) FU 0=some (.inl (iT L)):=by
  refine Wp.eq (jA (List.range (L.length+1)) (fun m i (_:Unit)=>dM L ((aP L:Nat):Int) m i) (fun i _=>((List.range (L.length+1)).drop i).findSome? (fun n=>fewC n L (aP L))=some r0) (fun r=>r=.inl (iT L)) ?_ ?_ FU (by rw [FU_eq,List.length_range];omega) () hr0)
  ·intro m _ hI
   rw [List.drop_length] at hI
   cases hI
  ·intro m i _ d hi hg hdr hm hI ih
   rw [List.length_range] at hi
   rw [yd hi] at hg
   subst hg
   have hsf:=spec_fewest i FU L 0 (aP L) (by rw [FU_eq];omega) (by omega) hfv (by omega) (by omega) (eJ hfv)
   rw [List.drop_zero,show ((0:Nat):Int)=0 from rfl] at hsf
   rw [hdr,List.findSome?_cons] at hI
   rw [dM,ak (by omega),hsf,ae]
   cases hf:fewC i L (aP L) with
   | none =>
    rw [hf] at hI
    simp only [nK,cond_false]
    rw [cj (i:=i) (by omega)]
    exact ih () hI
   | some r =>
    rw [hf] at hI
    cases hI
    simp only [nK,cond_true]
    exact ⟨_,rfl,by rw [iT,hr0];rfl⟩
 rw [ju,ye hv hl ha,ae,hL,jv hfv (by omega),ae,hloop,ae,yl]

theorem uu {l:List (ByteArray×Int)}:(iT l).length≤l.length∧(∀ d∈iT l,d∈l):=by
 obtain ⟨r,hr⟩:=pg l
 unfold iT
 rw [hr]
 obtain ⟨n,hn,he⟩:=List.exists_of_findSome?_eq_some hr
 have:=fewC_out n l _ r he
 have hn:=List.mem_range.1 hn
 exact ⟨by simp only [Option.getD_some];omega,this.2⟩

def bl (l:List UInt8):ByteArray:=⟨l.toArray⟩

theorem fX (s:ByteArray):bl s.data.toList=s:=by
 obtain ⟨⟨l⟩⟩:=s;rfl

theorem bL (l:List UInt8):(bl l).data.toList=l:=rfl

theorem kE (a b:List UInt8):bl a++bl b=bl (a++b):=by
 apply ByteArray.ext
 simp [bl]

theorem dQ (l:List UInt8):(bl l).size=l.length:=by simp [bl,ByteArray.size]

theorem tP {a b:List UInt8}:bl a=bl b↔a=b:=by
 constructor
 ·intro h
  have:=congrArg (fun s:ByteArray=>s.data.toList) h
  simpa [bl] using this
 ·rintro rfl;rfl

theorem cB (s:ByteArray):s.size=s.data.toList.length:=by rw [Array.length_toList];rfl

theorem jc (a b:ByteArray):a++b=bl (a.data.toList++b.data.toList):=by
 rw [← kE,fX,fX]

theorem empty_bl:ByteArray.empty=bl []:=rfl

theorem iq (s:ByteArray) (i:Nat):aH s i=((s.data.toList.getD i 0).toNat:Int):=rfl

def bz (n:Int):ByteArray:=bl (Lib.itoa n)

theorem rj {n:Int} (h:I64 n):di n=some (bz n):=by
 rw [di,al ⟨h.1,h.2⟩];rfl

theorem digit_extract:∀ k,k<10→(ByteArray.mk #[48,49,50,51,52,53,54,55,56,57]).extract k (k+1)=bl [UInt8.ofNat (48+k)]:=by
 intro k hk
 apply ByteArray.ext
 have:k=0∨k=1∨k=2∨k=3∨k=4∨k=5∨k=6∨k=7∨k=8∨k=9:=by omega
 rcases this with rfl | rfl | rfl | rfl | rfl | rfl | rfl | rfl | rfl | rfl <;> rfl

theorem decDigits_length_le:∀ (d u:Nat),u<10 ^ (d+1)→(Lib.decDigits u).length≤d+1
 | 0,u,h=>by rw [Lib.decDigits_one (by simpa using h)];simp
 | d+1,u,h=>by
  by_cases h1:u<10
  ·rw [Lib.decDigits_one h1];simp
  ·rw [Lib.decDigits,dif_neg h1,List.length_append,List.length_singleton]
   have:=decDigits_length_le d (u / 10) (by rw [Nat.pow_succ] at h;omega)
   omega

theorem number_eq:∀ (fu n:Nat),n<fu→n≤1000000→m_spec_number fu (n:Int)=some (bl (Lib.decDigits n))
 | 0,n,h,_=>absurd h (Nat.not_lt_zero _)
 | fu+1,n,h,hn=>by
  rw [m_spec_number]
  by_cases h1:n<10
  ·have e:IntKind.wrap .i64 ((n:Int)+1)=((n+1:Nat):Int):=cj (by omega)
   have hs:((ByteArray.mk #[48,49,50,51,52,53,54,55,56,57]).size:Int)=10:=rfl
   rw [ak (by omega),e,hs,al ⟨by omega,by omega,by omega⟩,bN,Int.toNat_natCast,Int.toNat_natCast,digit_extract n h1,Lib.decDigits_one h1]
  ·have ed:Int.tdiv (n:Int) 10=((n / 10:Nat):Int):=by
    rw [Int.tdiv_eq_ediv_of_nonneg (by omega)];omega
   have em:Int.tmod (n:Int) 10=((n % 10:Nat):Int):=by
    rw [Int.tmod_eq_emod_of_nonneg (by omega)];omega
   have l1:=decDigits_length_le 6 (n / 10) (by omega)
   have l2:=decDigits_length_le 6 (n % 10) (by omega)
   rw [ai (by omega),ed,em,al ⟨by decide,w64 (by omega) (by omega)⟩,number_eq fu (n / 10) (by omega) (by omega),ae,al (by decide),number_eq fu (n % 10) (by omega) (by omega),ae,
    al (by rw [dQ,dQ];omega),kE]
   conv=>rhs;rw [Lib.decDigits,dif_neg h1]
   rw [Lib.decDigits_one (i:=n % 10) (by omega)]

theorem ji {n:Int} (h0:0≤n) (h1:n≤1000000):m_spec_number FU n=some (bz n):=by
 obtain ⟨k,rfl⟩:=Int.eq_ofNat_of_zero_le h0
 rw [number_eq FU k (by rw [FU_eq];omega) (by omega),bz,Lib.itoa,if_neg (by omega),Int.toNat_natCast]

theorem yD {n:Int} (h : -1000000≤n∧n≤1000000):(Lib.itoa n).length≤8:=by
 unfold Lib.itoa
 split
 ·have:=decDigits_length_le 6 n.natAbs (by omega)
  rw [List.length_cons];omega
 ·have:=decDigits_length_le 6 n.toNat (by omega)
  omega

theorem iQ {n:Int} (h : -1000000≤n∧n≤1000000):(bz n).size≤8:=by
 rw [bz,dQ];exact yD h

theorem ui {n:Int} (h:n<0):Lib.itoa n=45::Lib.itoa (0 - n):=by
 unfold Lib.itoa
 rw [if_pos h,if_neg (by omega)]
 congr 2;omega

theorem yF {n:Int} (h : -1000000≤n∧n≤1000000):gg n=some (bz n):=by
 rw [gg]
 by_cases h0:n<0
 ·have hl:=iQ (n:=0 - n) ⟨by omega,by omega⟩
  have hs:(ByteArray.mk #[45]).size=1:=rfl
  rw [ak h0,w64 (by omega) (by omega),ji (by omega) (by omega),ae,al (by omega)]
  congr 1
  rw [show (ByteArray.mk #[45])=bl [45] from rfl,bz,kE,bz,ui h0]
  rfl
 ·rw [ai h0,ji (by omega) h.2,ae]

theorem decDigits_digit:∀ (u:Nat) (c:UInt8),c∈Lib.decDigits u→48≤c.toNat∧c.toNat≤57:=by
 intro u
 induction u using Nat.strongRecOn with
 | _ u ih =>
  intro c hc
  have one:∀ k,k<10→48≤(UInt8.ofNat (48+k)).toNat∧(UInt8.ofNat (48+k)).toNat≤57:=fun k hk=>by
   rw [UInt8.toNat_ofNat'];omega
  by_cases h1:u<10
  ·rw [Lib.decDigits_one h1,List.mem_singleton] at hc
   subst hc;exact one u h1
  ·rw [Lib.decDigits,dif_neg h1,List.mem_append,List.mem_singleton] at hc
   rcases hc with hc | rfl
   ·exact ih (u / 10) (by omega) c hc
   ·exact one _ (by omega)

theorem kT (u:Nat):Lib.decDigits u≠[]:=by
 by_cases h1:u<10
 ·rw [Lib.decDigits_one h1];simp
 ·rw [Lib.decDigits,dif_neg h1];simp

theorem AB (n:Int):∃ c r,Lib.itoa n=c::r∧c.toNat≤57:=by
 unfold Lib.itoa
 split
 ·exact ⟨45,_,rfl,by decide⟩
 ·obtain ⟨c,r,e⟩:=List.exists_cons_of_ne_nil (kT n.toNat)
  exact ⟨c,r,e,(decDigits_digit _ c (by rw [e];simp)).2⟩

theorem xF (n:Int):bz n≠ByteArray.empty:=by
 obtain ⟨c,r,e,_⟩:=AB n
 rw [bz,e,empty_bl,Ne,tP]
 simp

def gC (list:List ByteArray) (rest:Int):List ByteArray:=if rest=0 then list else list++[bz rest]

def qY (f:List (ByteArray×Int)):ByteArray:=if dT f 0<0 then bl [48] else (gt f (dT f 0)).1

def kS (l:List ByteArray) (sep:List UInt8):ByteArray:=bl (Lib.join (l.map (·.data.toList)) sep)

def kM (f:List (ByteArray×Int)) (list:List ByteArray) (rest:Int):ByteArray:=if gC list rest=[] then qY f else kS (gC list rest) [124]

theorem Ay (l:List (List UInt8)) (x sep:List UInt8):Lib.join (l++[x]) sep=if l=[] then x else Lib.join l sep++sep++x:=by
 cases l with
 | nil=>rw [if_pos rfl,List.nil_append,Lib.join_one]
 | cons a l =>
  rw [if_neg (by simp),List.cons_append,Lib.join_cons,Lib.join_cons]
  simp [Lib.joinTail,List.append_assoc]

theorem se (sep:List UInt8) (hs:sep.length≤10):∀ r:List (List UInt8),(∀ x∈r,x.length≤100)→(Lib.joinTail sep r).length≤110*r.length
 | [],_=>by simp [Lib.joinTail]
 | x::r,h=>by
  have h1:=se sep hs r (fun y hy=>h y (by simp [hy]))
  have h2:=h x (by simp)
  unfold Lib.joinTail at h1 ⊢
  rw [List.map_cons,List.flatten_cons,List.length_append,List.length_append,List.length_cons]
  omega

theorem vD (sep:List UInt8) (hs:sep.length≤10) (l:List (List UInt8)) (h:∀ x∈l,x.length≤100):(Lib.join l sep).length≤110*l.length:=by
 cases l with
 | nil=>simp [Lib.join_nil]
 | cons x r =>
  have h1:=se sep hs r (fun y hy=>h y (by simp [hy]))
  have h2:=h x (by simp)
  rw [Lib.join_cons,List.length_append,List.length_cons]
  omega

theorem qv {l:List ByteArray} {sep:List UInt8} (hs:sep.length≤10) (hl:l.length≤1000000) (h:∀ x∈l,x.size≤100):gr l (bl sep)=some (kS l sep):=by
 have hb:=vD sep hs (l.map (·.data.toList)) (fun x hx=>by
  obtain ⟨y,hy,rfl⟩:=List.mem_map.1 hx
  rw [← cB];exact h y hy)
 rw [List.length_map] at hb
 rw [gr,al (by omega),bL,al (by omega)]
 rfl

theorem lY {l:List ByteArray} {sep:List UInt8} (hs:sep.length≤10) (hl:l.length≤1000000) (h:∀ x∈l,x.size≤100):cD l (bl sep)=some (kS l sep):=by
 have e:=jA l (fun n i s=>ck l (bl sep) n s i) (fun i s=>s=bl (Lib.join ((l.take i).map (·.data.toList)) sep)∧s.size≤200*i) (fun r=>r=kS l sep) ?_ ?_ FU (by rw [FU_eq];omega) ByteArray.empty ⟨by simp [Lib.join_nil,empty_bl],by decide⟩
 ·have e:Wp (ck l (bl sep) FU ByteArray.empty 0) (fun r=>r=kS l sep):=e
  rw [cD,e.eq,ae]
 ·intro n s hI
  rw [ck,ai (by omega),hI.1,List.take_length]
  exact ⟨_,rfl,rfl⟩
 ·intro n i s d hi hg hdr hm hI hnext
  have hd:=h d hm
  have hse:(bl sep).size≤10:=by rw [dQ];exact hs
  have ht:l.take (i+1)=l.take i++[d]:=by
   rw [List.take_succ_eq_append_getElem hi,← cz hi,hg]
  have hn:bl (Lib.join ((l.take (i+1)).map (·.data.toList)) sep)=if i=0 then s++d else (s++bl sep)++d:=by
   rw [ht,List.map_append,List.map_cons,List.map_nil,Ay]
   by_cases h0:i=0
   ·subst h0
    rw [if_pos (by simp),if_pos rfl,hI.1,jc,bL]
    simp [Lib.join_nil]
   ·rw [if_neg (by intro e;have:=congrArg List.length e;rw [List.length_map,List.length_take,List.length_nil] at this;omega),if_neg h0,hI.1,kE,jc,bL]
  rw [ck,ak (by omega),hg]
  by_cases h0:i=0
  ·rw [if_pos h0] at hn
   rw [ai (by omega),al (by omega),al (by omega),cj (i:=i) (by omega)]
   exact hnext _ ⟨hn.symm,by rw [ByteArray.size_append];omega⟩
  ·rw [if_neg h0] at hn
   have g1:s.size+(bl sep).size≤9223372036854775807:=by omega
   have g3:(s++bl sep).size+d.size≤9223372036854775807:=by rw [ByteArray.size_append];omega
   rw [ak (by omega),al g1,al (by omega),al g3,cj (i:=i) (by omega)]
   exact hnext _ ⟨hn.symm,by rw [ByteArray.size_append,ByteArray.size_append];omega⟩

theorem wK {f:List (ByteArray×Int)} (hl:f.length≤1000000):fY f=some (qY f):=by
 have hr:=kW f 0
 rw [fY,mG _ _ (by omega),ae,qY]
 by_cases h0:dT f 0<0
 ·rw [ai (by omega),if_pos h0];rfl
 ·rw [ak (by omega),al (by omega),if_neg h0]

theorem qb {list:List ByteArray} {rest:Int} (hl:list.length≤1000) (hs:∀ s∈list,s.size≤100) (hr:0≤rest∧rest≤1000000):(gC list rest).length≤1001∧∀ s∈gC list rest,s.size≤100:=by
 have:=iQ (n:=rest) ⟨by omega,by omega⟩
 unfold gC
 split
 ·exact ⟨by omega,hs⟩
 ·refine ⟨by rw [List.length_append,List.length_singleton];omega,fun s hx=>?_⟩
  rcases List.mem_append.1 hx with hx | hx
  ·exact hs s hx
  ·rw [List.mem_singleton.1 hx];omega

theorem po {f:List (ByteArray×Int)} {list:List ByteArray} {rest:Int} (hf:f.length≤1000000) (hl:list.length≤1000) (hs:∀ s∈list,s.size≤100) (hr:0≤rest∧rest≤1000000):eM f list rest=some (kM f list rest):=by
 have hp:=qb hl hs hr
 rw [eM,kM]
 by_cases h0:rest=0
 ·have ep:gC list rest=list:=by rw [gC,if_pos h0]
  rw [ep] at hp ⊢
  rw [ai (by omega)]
  by_cases h1:list=[]
  ·rw [ak (by rw [h1];rfl),wK hf,ae,if_pos h1]
  ·have:list.length≠0:=fun e=>h1 (List.eq_nil_of_length_eq_zero e)
   rw [ai (by omega),if_neg h1,show (ByteArray.mk #[124])=bl [124] from rfl,lY (by decide) (by omega) hp.2,ae]
 ·have ep:gC list rest=list++[bz rest]:=by rw [gC,if_neg h0]
  rw [ep] at hp ⊢
  rw [ak (by omega),al (by simp;omega),ji (by omega) (by omega),ae,al (by simp;omega),bN,List.nil_append,ai (by rw [List.length_append,List.length_singleton];omega),if_neg (by simp),show (ByteArray.mk #[124])=bl [124] from rfl,lY (by decide) (by omega) hp.2,ae]

theorem vQ {f:List (ByteArray×Int)} (b:Int) {list:List ByteArray} {rest:Int} (hf:f.length≤1000000) (hl:list.length≤1000) (hs:∀ s∈list,s.size≤100) (hr:0≤rest∧rest≤1000000):fq f b list rest=some (kM f list rest):=by
 have hp:=qb hl hs hr
 have hv:=kW f 0
 rw [fq,iP,al (by omega),ae,kM]
 by_cases h0:rest=0
 ·have ep:gC list rest=list:=by rw [gC,if_pos h0]
  rw [ep] at hp ⊢
  rw [decide_eq_true h0,Bool.not_true,cond_false]
  by_cases h1:list=[]
  ·rw [ai (by rw [h1];simp),rS _ _ (by omega),ae,if_pos h1,qY]
   by_cases h2:dT f 0<0
   ·rw [ai (by omega),if_pos h2];rfl
   ·rw [ak (by omega),al (by omega),if_neg h2]
  ·have:list.length≠0:=fun e=>h1 (List.eq_nil_of_length_eq_zero e)
   rw [ak (by omega),if_neg h1,show (ByteArray.mk #[124])=bl [124] from rfl,qv (by decide) (by omega) hp.2,ae]
 ·have ep:gC list rest=list++[bz rest]:=by rw [gC,if_neg h0]
  rw [ep] at hp ⊢
  rw [decide_eq_false h0,Bool.not_false,cond_true,rj ⟨by omega,by omega⟩,ae,al (by simp;omega),bN,ak (by rw [List.length_append,List.length_singleton];omega),if_neg (by simp),show (ByteArray.mk #[124])=bl [124] from rfl,qv (by decide) (by omega) hp.2,ae]

theorem bG.small {f:List (ByteArray×Int)} {b:Int} (h:bG f b):∀ d∈f,d.1.size≤100:=fun d hd=>by
 have:=(h.1.out.1 d hd).1.2.2
 omega

theorem jm {f g:List (ByteArray×Int)} {b:Int} (h:bG f b) (hg:∀ d∈g,d∈f):∀ s∈g.map (·.1),s.size≤100:=fun s hs=>by
 obtain ⟨d,hd,rfl⟩:=List.mem_map.1 hs
 exact h.small d (hg d hd)

theorem lH {f:List (ByteArray×Int)} {a:Nat} {d:ByteArray×Int} (h:d∈jL f a):d∈f:=(qo (List.mem_filter.1 h).1).1

def ch (f:List (ByteArray×Int)) (b a:Int):ByteArray:=if aU f b a then kM f (ip f a.toNat) ((qW f a.toNat:Nat):Int) else ByteArray.empty

theorem sT (f:List (ByteArray×Int)) (a:Nat):qW f a≤a:=jx _ _

theorem gu {f:List (ByteArray×Int)} (h:cH f) (b a:Int):bt f b a=some (ch f b a):=by
 rw [bt,dW h,ae,ch]
 by_cases hv:aU f b a
 ·have hf:=hv.1
  have ha:=hv.2.1
  have hr:=sT f a.toNat
  have hn:=kV f a.toNat
  have hns:∀ s∈ip f a.toNat,s.size≤100:=jm hf (fun d hd=>lH hd)
  have e:=xc hf.v12 hf.len b (a:=a.toNat) (by omega)
  rw [aT ha.1] at e
  rw [decide_eq_true hv,Bool.not_true,cond_false,e,ae,if_pos hv]
  simp only []
  rw [vQ b (by have:=hf.len;omega) (by omega) hns ⟨by omega,by omega⟩,ae]
 ·rw [decide_eq_false hv,Bool.not_false,cond_true,if_neg hv]

theorem uv {f:List (ByteArray×Int)} {b a:Int} (hf:bG f b) (ha:0≤a∧a≤4095):dz f b a=some (kM f (ip f a.toNat) ((qW f a.toNat:Nat):Int)):=by
 have hr:=sT f a.toNat
 have hn:=kV f a.toNat
 have hi:=nW f a.toNat
 have hv:=yz hf.v12 a.toNat
 have e:=yT hf.v12 (by have:=hf.len;omega) (a:=a.toNat) (by omega)
 have e2:=fI (a:=a.toNat) (b:=aP (jL f a.toNat)) (by omega) (eJ hv)
 rw [aT ha.1] at e e2
 rw [dz,e,ae,qH (by omega),ae,jv hv (by omega),ae,e2,ae,xM]
 have hns:∀ s∈ip f a.toNat,s.size≤100:=jm hf (fun d hd=>lH hd)
 show bd (eM f (ip f a.toNat) _) _=_
 rw [po (by have:=hf.len;omega) (by omega) hns ⟨by omega,by omega⟩,ae]

def dy (f:List (ByteArray×Int)) (a:Nat):List (ByteArray×Int):=iT (dK f a)

theorem hF {f:List (ByteArray×Int)} {a:Nat} {d:ByteArray×Int} (h:d∈dy f a):d∈f:=(List.mem_filter.1 (uu.2 d h)).1

theorem kq (f:List (ByteArray×Int)) (a:Nat):(dy f a).length≤f.length :=
 Nat.le_trans uu.1 (List.length_filter_le _ _)

def eN (f:List (ByteArray×Int)) (b a:Int):ByteArray:=if aU f b a then kM f ((dy f a.toNat).map (·.1)) ((aM a.toNat (aP (dy f a.toNat)):Nat):Int) else ByteArray.empty

theorem uY {f:List (ByteArray×Int)} (h:cH f) (b a:Int):eh f b a=some (eN f b a):=by
 rw [eh,dW h,ae,eN]
 by_cases hv:aU f b a
 ·have hf:=hv.1
  have ha:=hv.2.1
  have hl:=hf.len
  have hsl:=kq f a.toNat
  have hsv:V12 (dy f a.toNat):=fun d hd=>hf.v12 d (hF hd)
  have hlt:=eJ hsv
  have hle:=jx a.toNat (aP (dy f a.toNat))
  have e:=zZ hf.v12 hf.len b (a:=a.toNat) (by omega)
  rw [aT ha.1] at e
  have e2:=jt (a:=a.toNat) (b:=aP (dy f a.toNat)) (by omega) (by omega)
  rw [aT ha.1] at e2
  rw [decide_eq_true hv,Bool.not_true,cond_false,e,ae,if_pos hv]
  show bd (dO (dy f a.toNat)) _=_
  rw [vI (by omega),ae]
  show bd (eS (dy f a.toNat)) _=_
  rw [eS,kH 0 hsv (by omega),ae,ae,e2,
   vQ b (by omega) (by rw [List.length_map];omega) (jm hf (fun d hd=>hF hd)) ⟨by omega,by omega⟩,ae]
 ·rw [decide_eq_false hv,Bool.not_false,cond_true,if_neg hv]

theorem uT {f:List (ByteArray×Int)} (h:cH f) (b a:Int):gJ f b a=some (eN f b a):=by
 rw [gJ,kQ h,ae,eN]
 by_cases hv:aU f b a
 ·have hf:=hv.1
  have ha:=hv.2.1
  have hl:=hf.len
  have hsl:=kq f a.toNat
  have hsv:V12 (dy f a.toNat):=fun d hd=>hf.v12 d (hF hd)
  have hlt:=eJ hsv
  have hle:=jx a.toNat (aP (dy f a.toNat))
  have e:=zW hf.v12 hf.len (a:=a.toNat) (by omega)
  have e2:=fI (a:=a.toNat) (b:=aP (dy f a.toNat)) (by omega) hlt
  rw [aT ha.1] at e e2
  rw [decide_eq_true hv,Bool.not_true,cond_false,e,ae,if_pos hv]
  show bd (fG (dy f a.toNat)) _=_
  rw [qH (by omega),ae]
  show bd (dg (dy f a.toNat)) _=_
  rw [jv hsv (by omega),ae,e2,ae,po (by omega) (by rw [List.length_map];omega) (jm hf (fun d hd=>hF hd)) ⟨by omega,by omega⟩,ae]
 ·rw [decide_eq_false hv,Bool.not_false,cond_true,if_neg hv]

def aV (c:UInt8):List UInt8→List (List UInt8)
 | []=>[[]]
 | x::r=>if x=c then []::aV c r else match aV c r with
  | []=>[[x]]
  | p::ps=>(x::p)::ps

theorem fb (c:UInt8):∀ l,aV c l≠[]
 | []=>by simp [aV]
 | x::r=>by
  unfold aV
  split
  ·simp
  ·split <;> simp

theorem pm (c:UInt8):Lib.index [] [c] = -1:=rfl

theorem vC (x c:UInt8) (r:List UInt8):Lib.index (x::r) [c]=if x=c then 0 else if Lib.index r [c] = -1 then -1 else Lib.index r [c]+1:=by
 rw [Lib.index]
 by_cases h:x=c
 ·subst h;simp [List.isPrefixOf]
 ·have:(c == x)=false:=by simpa using fun e=>h e.symm
  simp only [List.isPrefixOf,this,Bool.false_and,if_neg h,Bool.false_eq_true,if_false]
  by_cases h2:Lib.index r [c] = -1
  ·simp [h2]
  ·rw [if_neg (by simpa using h2),if_neg h2]

theorem qK (c:UInt8):∀ l:List UInt8,(Lib.index l [c] = -1→aV c l=[l])∧∀ i:Nat,Lib.index l [c]=i→aV c l=l.take i::aV c (l.drop (i+1))
 | []=>⟨fun _=>rfl,fun i h=>by rw [pm] at h;omega⟩
 | x::r=>by
  obtain ⟨h1,h2⟩:=qK c r
  have hge:=Lib.index_ge r [c]
  rw [vC]
  by_cases hx:x=c
  ·refine ⟨fun h=>?_,fun i h=>?_⟩
   ·rw [if_pos hx] at h;omega
   ·rw [if_pos hx] at h
    have:i=0:=by omega
    subst this
    rw [aV,if_pos hx];simp
  ·refine ⟨fun h=>?_,fun i h=>?_⟩
   ·rw [if_neg hx] at h
    by_cases h3:Lib.index r [c] = -1
    ·rw [aV,if_neg hx,h1 h3]
    ·rw [if_neg h3] at h;omega
   ·rw [if_neg hx] at h
    by_cases h3:Lib.index r [c] = -1
    ·rw [if_pos h3] at h;omega
    ·rw [if_neg h3] at h
     obtain ⟨j,rfl⟩:∃ j,i=j+1:=⟨i - 1,by omega⟩
     rw [aV,if_neg hx,h2 j (by omega)]
     simp

theorem zV (c:UInt8):∀ (n:Nat) (l:List UInt8),l.length≤n→Lib.splitK [c] 0 (Lib.count l [c]) l=aV c l:=by
 intro n
 induction n with
 | zero =>
  intro l hl
  have:l=[]:=List.eq_nil_of_length_eq_zero (by omega)
  subst this
  rw [Lib.count_miss (pm c)];rfl
 | succ n ih =>
  intro l hl
  obtain ⟨h1,h2⟩:=qK c l
  rcases Lib.index_spec l [c] with ⟨h,_⟩ | ⟨i,h,hi,ho,_⟩
  ·rw [Lib.count_miss h,h1 h];rfl
  ·have hroom:=Lib.index_room l [c] (by omega)
   have hlen:([c]:List UInt8).length=1:=rfl
   rw [h,hlen] at hroom
   rw [Lib.count_hit (by simp) h,h2 i h,Nat.add_comm,Lib.splitK,if_neg (by intro e;rw [h] at e;have:=eq_of_beq e;omega),h,hlen]
   simp only [Int.toNat_natCast,Nat.add_zero]
   rw [ih (l.drop (i+1)) (by rw [List.length_drop];omega)]

theorem yH (l:List ByteArray):(l.map (·.data.toList)).map bl=l:=by
 rw [List.map_map]
 conv=>rhs;rw [← List.map_id l]
 exact List.map_congr_left fun s _=>fX s

theorem ma {s:ByteArray} {c:UInt8} (hs:s.size<4294967281):du s (bl [c])=some ((aV c s.data.toList).map bl):=by
 rw [du,al hs,al (by rw [dQ];exact Nat.le_refl 1)]
 congr 1
 rw [← yH (Lib.splitB _ _ _ _),Lib.splitB_data]
 congr 1
 exact zV c _ s.data.toList (Nat.le_refl _)

theorem px (c:UInt8):∀ l:List UInt8,(aV c l).length≤l.length+1
 | []=>by simp [aV]
 | x::r=>by
  have ih:=px c r
  unfold aV
  split
  ·simp;omega
  ·split
   ·simp
   ·rename_i p ps e
    rw [e] at ih
    simp at ih ⊢;omega

def oK (p:List UInt8):List (List UInt8)→List (List UInt8)
 | []=>[p]
 | q::qs=>(p++q)::qs

theorem kv (c:UInt8) (r:List UInt8):aV c (c::r)=[]::aV c r:=by rw [aV,if_pos rfl]

theorem jF {c x:UInt8} (h:x≠c) (r:List UInt8):aV c (x::r)=oK [x] (aV c r):=by
 rw [aV,if_neg h]
 cases aV c r <;> rfl

theorem AJ (p q:List UInt8) (l:List (List UInt8)):oK p (oK q l)=oK (p++q) l:=by
 cases l <;> simp [oK]

theorem yq {l:List (List UInt8)} (h:l≠[]):oK [] l=l:=by
 cases l with
 | nil=>exact absurd rfl h
 | cons a l=>rfl

theorem kN (s:ByteArray) (a b:Nat):s.extract a b=bl ((s.data.toList.drop a).take (b - a)):=by
 apply ByteArray.ext
 apply Array.toList_inj.1
 simp [bl,List.extract_eq_take_drop]

theorem AU {s:ByteArray} {i:Nat} (hi:i<s.data.toList.length) (c:UInt8):aH s i=(c.toNat:Int)↔s.data.toList[i]=c:=by
 rw [iq,List.getD_eq_getElem?_getD,List.getElem?_eq_getElem hi,Option.getD_some]
 constructor
 ·intro h;exact UInt8.toNat_inj.1 (by omega)
 ·intro h;rw [h]

theorem kX {s:ByteArray} {c:UInt8} (hs:s.size≤1000000000):cA s (c.toNat:Int)=some ((aV c s.data.toList).map bl):=by
 have hsz:=cB s
 obtain ⟨l,hl⟩:∃ l,l=s.data.toList:=⟨_,rfl⟩
 have hs':=hs
 rw [hsz,← hl] at hs'
 have key:∀ (k i n:Nat) (V:List (List UInt8)) (fr:Nat),i+k=l.length→k<n→V.length≤i→fr≤i→aV c l=V++oK ((l.drop fr).take (i - fr)) (aV c (l.drop i)) →
   ∃ (V':List (List UInt8)) (fr':Nat),cw s (c.toNat:Int) n (V.map bl) (fr:Int) (i:Int)=some (V'.map bl,(fr':Int))∧fr'≤l.length∧V'.length≤l.length∧aV c l=V'++[l.drop fr']:=by
  intro k
  induction k with
  | zero =>
   intro i n V fr hik hn hV hfr hI
   obtain ⟨n,rfl⟩:∃ m,n=m+1:=⟨n - 1,by omega⟩
   have e:i=l.length:=by omega
   subst e
   refine ⟨V,fr,by rw [cw,hsz,← hl,ai (by omega)],hfr,hV,?_⟩
   rw [hI,List.drop_length,aV,List.take_of_length_le (by rw [List.length_drop];omega)]
   simp [oK]
  | succ k ih =>
   intro i n V fr hik hn hV hfr hI
   obtain ⟨n,rfl⟩:∃ m,n=m+1:=⟨n - 1,by omega⟩
   have hi:i<l.length:=by omega
   have hd:l.drop i=l[i]::l.drop (i+1):=List.drop_eq_getElem_cons hi
   have hb:=AU (s:=s) (i:=i) (by rw [← hl];exact hi) c
   have ht:(l.drop fr).take (i+1 - fr)=(l.drop fr).take (i - fr)++[l[i]]:=by
    rw [show i+1 - fr=(i - fr)+1 by omega,List.take_succ_eq_append_getElem (by rw [List.length_drop];omega),List.getElem_drop]
    congr 3;omega
   rw [cw,hsz,← hl,ak (by omega),al (by omega),Int.toNat_natCast]
   by_cases hc:aH s i=(c.toNat:Int)
   ·have hc':l[i]=c:=by
     have:=hb.1 hc
     simpa [hl] using this
    rw [ak hc,al (by omega),al (by rw [List.length_map,List.length_singleton];omega),cj (i:=i) (by omega),Int.toNat_natCast,kN,← hl]
    have:=ih (i+1) n (V++[(l.drop fr).take (i - fr)]) (i+1) (by omega) (by omega) (by rw [List.length_append,List.length_singleton];omega) (Nat.le_refl _) (by
     rw [hI,hd,hc',kv,Nat.sub_self,List.take_zero,yq (fb _ _)]
     simp [oK])
    rwa [List.map_append,List.map_cons,List.map_nil] at this
   ·have hc':l[i]≠c:=fun e=>hc (hb.2 (by simpa [hl] using e))
    rw [ai hc,cj (i:=i) (by omega)]
    exact ih (i+1) n V fr (by omega) (by omega) (by omega) (by omega) (by rw [hI,hd,jF hc',AJ,ht])
 obtain ⟨V,fr,e,h1,h2,h3⟩:=key l.length 0 FU [] 0 (by omega) (by rw [FU_eq];rw [hsz,← hl] at hs;omega) (by simp) (Nat.le_refl _) (by rw [List.drop_zero,List.take_zero,yq (fb _ _)];rfl)
 have e':cw s (c.toNat:Int) FU [] 0 0=some (V.map bl,(fr:Int)):=e
 rw [hsz,← hl] at hs
 rw [cA,e',ae]
 simp only []
 rw [hsz,← hl,al (by omega),al (by rw [List.length_map,List.length_singleton];omega),Int.toNat_natCast,Int.toNat_natCast,kN,← hl,List.take_of_length_le (by rw [List.length_drop];omega),h3,List.map_append,List.map_cons,List.map_nil]

def aI (s:ByteArray) (c:UInt8):List ByteArray:=(aV c s.data.toList).map bl

theorem hH (s:ByteArray) (c:UInt8):(aI s c).length≤s.size+1:=by
 rw [aI,List.length_map,cB];exact px c _

def rd:Nat→List UInt8→Option Nat
 | acc,[]=>some acc
 | acc,c::r=>if c.toNat<48∨57<c.toNat∨4095<acc then none else rd (10*acc+(c.toNat - 48)) r

theorem rd_snoc:∀ (l:List UInt8) (c:UInt8) (acc:Nat),rd acc (l++[c])=(rd acc l).bind fun a=>if c.toNat<48∨57<c.toNat∨4095<a then none else some (10*a+(c.toNat - 48))
 | [],c,acc=>by
  simp only [List.nil_append,rd,Option.bind_some]
 | x::l,c,acc=>by
  simp only [List.cons_append,rd]
  by_cases h:x.toNat<48∨57<x.toNat∨4095<acc
  ·rw [if_pos h,if_pos h,Option.bind_none]
  ·rw [if_neg h,if_neg h];exact rd_snoc l c _

theorem nT {k:Nat} (h:k<10):(UInt8.ofNat (48+k)).toNat=48+k:=by
 rw [UInt8.toNat_ofNat'];omega

theorem rd_dec:∀ u:Nat,u≤40959→rd 0 (Lib.decDigits u)=some u:=by
 intro u
 induction u using Nat.strongRecOn with
 | ind u ih =>
  intro h
  by_cases h1:u<10
  ·rw [Lib.decDigits_one h1]
   simp only [rd]
   rw [nT h1,if_neg (by omega)]
   congr 1;omega
  ·rw [Lib.decDigits,dif_neg h1,rd_snoc,ih (u / 10) (by omega) (by omega),Option.bind_some,nT (by omega),if_neg (by omega)]
   congr 1;omega

def da (s:ByteArray):Int:=match rd 0 s.data.toList with
 | some n=>if s≠ByteArray.empty∧n≤4096∧bz n=s then (n:Int) else -1
 | none => -1

theorem wc (n:Nat):bz (n:Int)=bl (Lib.decDigits n):=by
 rw [bz,Lib.itoa,if_neg (by omega),Int.toNat_natCast]

theorem jd (s:ByteArray):(da s = -1∧∀ n:Nat,n≤4096→s≠bz n)∨(∃ n:Nat,n≤4096∧s=bz n∧da s=n):=by
 by_cases h:∃ n:Nat,n≤4096∧s=bz n
 ·obtain ⟨n,hn,rfl⟩:=h
  right
  refine ⟨n,hn,rfl,?_⟩
  have e:rd 0 (bz (n:Int)).data.toList=some n:=by rw [wc,bL,rd_dec n (by omega)]
  rw [da,e]
  simp only []
  rw [if_pos ⟨xF _,hn,trivial⟩]
 ·left
  refine ⟨?_,fun n hn e=>h ⟨n,hn,e⟩⟩
  rw [da]
  cases e:rd 0 s.data.toList with
  | none=>rfl
  | some n =>
   simp only []
   rw [if_neg (fun hh=>h ⟨n,hh.2.1,hh.2.2.symm⟩)]

theorem Ce (c:UInt8) (h1:48≤c.toNat):IntKind.wrap .u8 ((c.toNat:Int) - 48)=((c.toNat - 48:Nat):Int):=by
 have:=c.toNat_lt
 rw [IntKind.wrap_u8];omega

theorem pu (s:ByteArray) (hs:s.size≤1000000000):∀ (k i n acc:Nat),s.size=i+k→k<n→acc≤50000 →
  ci s n (acc:Int) (i:Int)=some (match rd acc (s.data.toList.drop i) with | some x=>.inr (x:Int) | none=>.inl ())
 | 0,i,n,acc,hk,hn,ha=>by
  obtain ⟨n,rfl⟩:∃ m,n=m+1:=⟨n - 1,by omega⟩
  have:=cB s
  rw [ci,ai (by omega),List.drop_of_length_le (by omega)]
  rfl
 | k+1,i,n,acc,hk,hn,ha=>by
  obtain ⟨n,rfl⟩:∃ m,n=m+1:=⟨n - 1,by omega⟩
  have hz:=cB s
  have hi:i<s.data.toList.length:=by omega
  have hd:s.data.toList.drop i=s.data.toList[i]::s.data.toList.drop (i+1):=List.drop_eq_getElem_cons hi
  have hb:aH s ((i:Int).toNat)=((s.data.toList[i]).toNat:Int):=by
   rw [Int.toNat_natCast,iq,List.getD,List.getElem?_eq_getElem hi];rfl
  rw [ci,ak (by omega),al (by omega),hb,hd]
  simp only [rd]
  generalize s.data.toList[i]=c
  by_cases c1:c.toNat<48
  ·rw [ak (by omega),if_pos (.inl c1)]
  ·by_cases c2:57<c.toNat
   ·rw [ai (by omega),ak (by omega),if_pos (.inr (.inl c2))]
   ·by_cases c3:4095<acc
    ·rw [ai (by omega),ai (by omega),ak (by omega),if_pos (.inr (.inr c3))]
    ·rw [ai (by omega),ai (by omega),ai (by omega),if_neg (by omega),Ce c (by omega),bN]
     have e1:IntKind.wrap .i64 (((c.toNat - 48:Nat):Int))=((c.toNat - 48:Nat):Int):=w64 (by omega) (by omega)
     have e2:IntKind.wrap .i64 (10*(acc:Int))=((10*acc:Nat):Int):=by rw [w64 (by omega) (by omega)];omega
     have e3:IntKind.wrap .i64 (((10*acc:Nat):Int)+((c.toNat - 48:Nat):Int))=((10*acc+(c.toNat - 48):Nat):Int):=by rw [w64 (by omega) (by omega)];omega
     rw [e1,e2,e3,cj (i:=i) (by omega)]
     exact pu s hs k (i+1) n _ (by omega) (by omega) (by omega)

theorem kY {s:ByteArray} (hs:s.size≤1000000000):cP s=some (da s):=by
 have e:=pu s hs s.size 0 FU 0 (by omega) (by rw [FU_eq];omega) (by omega)
 have e':ci s FU 0 0=some (match rd 0 s.data.toList with | some x=>.inr (x:Int) | none=>.inl ()):=e
 rw [cP,e',ae,da]
 cases hr:rd 0 s.data.toList with
 | none=>rfl
 | some x =>
  simp only [sm]
  by_cases h1:s=ByteArray.empty
  ·rw [ak h1,if_neg (fun h=>h.1 h1)]
  ·by_cases h2:x≤4096
   ·rw [ai h1,ai (by omega),ji (by omega) (by omega),ae]
    by_cases h3:bz (x:Int)=s
    ·rw [decide_eq_true h3,Bool.not_true,cond_false,if_pos ⟨h1,h2,h3⟩]
    ·rw [decide_eq_false h3,Bool.not_false,cond_true,if_neg (fun h=>h3 h.2.2)]
   ·rw [ai h1,ak (by omega),if_neg (fun h=>h2 h.2.1)]

theorem parse_snoc:∀ (l:List UInt8) (c:UInt8) (acc a:Nat),Lib.parseUint10 acc l=.ok a→Lib.parseUint10 acc (l++[c])=Lib.parseUint10 a [c]
 | [],c,acc,a,h=>by
  simp only [Lib.parseUint10] at h
  cases h;rfl
 | x::l,c,acc,a,h=>by
  rw [Lib.parseUint10] at h
  rw [List.cons_append,Lib.parseUint10]
  split at h
  ·rename_i h1
   rw [if_pos h1]
   split at h
   ·cases h
   ·rename_i h2
    rw [if_neg h2]
    split at h
    ·cases h
    ·rename_i h3
     rw [if_neg h3]
     exact parse_snoc l c _ a h
  ·cases h

theorem parse_dec:∀ u:Nat,u<18446744073709551616→Lib.parseUint10 0 (Lib.decDigits u)=.ok u:=by
 intro u
 induction u using Nat.strongRecOn with
 | ind u ih =>
  intro h
  have one:∀ k a:Nat,k<10→a*10+k=u→Lib.parseUint10 a [UInt8.ofNat (48+k)]=.ok u:=fun k a hk e=>by
   rw [Lib.parseUint10,nT hk,if_pos (by omega),if_neg (by omega),if_neg (by omega),Lib.parseUint10]
   congr 1;omega
  by_cases h1:u<10
  ·rw [Lib.decDigits_one h1];exact one u 0 h1 (by omega)
  ·rw [Lib.decDigits,dif_neg h1,parse_snoc _ _ _ _ (ih (u / 10) (by omega) (by omega))]
   exact one _ _ (by omega) (by omega)

theorem qy {u:Nat} (h:u<18446744073709551616):Lib.parseMag (Lib.decDigits u)=.ok u:=by
 rw [Lib.parseMag,if_neg (kT u),parse_dec u h]

theorem xL {n:Int} (h:I64 n):Lib.atoiAll (Lib.itoa n)=.ok n:=by
 have h1:=h.1
 have h2:=h.2
 rw [Lib.itoa]
 by_cases hn:n<0
 ·rw [if_pos hn]
  have e:Lib.parseMag (Lib.decDigits n.natAbs)=.ok n.natAbs:=qy (by omega)
  simp only [Lib.atoiAll]
  rw [if_pos (by decide),e]
  simp only []
  rw [if_neg (by simp),if_neg (by omega)]
  simp only [show (45:UInt8).toNat=45 from rfl,if_true]
  congr 1;omega
 ·rw [if_neg hn]
  have e:Lib.parseMag (Lib.decDigits n.toNat)=.ok n.toNat:=qy (by omega)
  obtain ⟨c,r,ec⟩:=List.exists_cons_of_ne_nil (kT n.toNat)
  have hc:=decDigits_digit n.toNat c (by rw [ec];simp)
  rw [ec] at e ⊢
  simp only [Lib.atoiAll]
  rw [if_neg (by omega),e]
  simp only []
  rw [if_neg (by omega),if_neg (by omega),if_neg (by omega)]
  congr 1;omega

def db (s:ByteArray):Int×Bool:=match Lib.atoiAll s.data.toList with
 | .ok v=>(v,decide (bz v=s))
 | .range=>(Lib.atoiSat s.data.toList,false)
 | _=>(0,false)

theorem lO {n:Int} (h:I64 n):db (bz n)=(n,true):=by
 rw [db,show (bz n).data.toList=Lib.itoa n from bL _,xL h]
 simp

theorem qT {s:ByteArray} (h:(db s).2=true):s=bz (db s).1∧I64 (db s).1:=by
 rw [db] at *
 rcases e:Lib.atoiAll s.data.toList with v | _ | _
 ·rw [e] at h;exact ⟨(of_decide_eq_true h).symm,Lib.atoiAll_bounds e⟩
 ·rw [e] at h;cases h
 ·rw [e] at h;cases h

theorem mW {s:ByteArray} (hs:s.size≤1000000000):fv s=some (db s):=by
 rw [fv,jQ,al (by omega),ae,kw,db]
 rcases e:Lib.atoiAll s.data.toList with v | _ | _
 ·simp only [cond_true]
  rw [rj (Lib.atoiAll_bounds e),ae]
 ·rfl
 ·rfl

theorem Ac (p q:Int) (hp:I64 p) (hq:I64 q) (a b:Nat) :
  Wp (bF p q FU 0 1) (fun r=>(0≤r∧r<4096)∧(p=a→q=b→r=(((a&&&b) % 4096:Nat):Int))):=by
 refine qV (fun n (s:Int×Int)=>bF p q n s.1 s.2)
  (fun s=>∃ (v k:Nat),s=((v:Int),((2 ^ k:Nat):Int))∧k≤12∧v<2 ^ k∧(p=a→q=b→v=(a&&&b) % 2 ^ k)) (fun s=>4096 - s.2.toNat) _ ?_ FU (0,1) ⟨0,0,rfl,by omega,by simp,fun _ _=>by simp [Nat.mod_one]⟩ (by rw [FU_eq];omega)
 rintro n _ ⟨v,k,rfl,hk,hv,hm⟩ ih
 show Wp (bF p q (n+1) (v:Int) ((2 ^ k:Nat):Int)) _
 rw [bF]
 by_cases h:k=12
 ·subst h
  rw [ai (by decide)]
  refine dP.2 ⟨⟨by omega,by omega⟩,fun h1 h2=>?_⟩
  rw [hm h1 h2]
 ·have hpl:=nN (k:=k) (by omega)
  have hp0:0<(2 ^ k:Nat):=Nat.pos_of_ne_zero (by simp)
  have ps:(2 ^ (k+1):Nat)=2 ^ k*2:=Nat.pow_succ ..
  have t1:=oM (p:=((2 ^ k:Nat):Int)) hp (by omega)
  have t2:=oM (p:=((2 ^ k:Nat):Int)) hq (by omega)
  have step:∀ (w:Nat),(w=v+2 ^ k∧(p=a→q=b→a / 2 ^ k % 2=1∧b / 2 ^ k % 2=1))∨(w=v∧(p=a→q=b→¬ (a / 2 ^ k % 2=1∧b / 2 ^ k % 2=1))) →
    Wp (bF p q n (w:Int) ((2 ^ (k+1):Nat):Int)) (fun r=>(0≤r∧r<4096)∧(p=a→q=b→r=(((a&&&b) % 4096:Nat):Int))):=by
   intro w hw
   refine ih ((w:Int),((2 ^ (k+1):Nat):Int)) ⟨w,k+1,rfl,by omega,by omega,fun h1 h2=>?_⟩ (by simp only [Int.toNat_natCast];omega)
   rw [mT k (hm h1 h2)]
   rcases hw with ⟨rfl,h3⟩ | ⟨rfl,h3⟩
   ·rw [if_pos (h3 h1 h2)];omega
   ·rw [if_neg (h3 h1 h2)];omega
  rw [ak (by omega),al ⟨by omega,w64 t1.1 t1.2⟩,al (by omega),al ⟨by omega,w64 t2.1 t2.2⟩,
   w64 (a:=((2 ^ k:Nat):Int)*2) (by omega) (by omega),w64 (a:=(v:Int)+((2 ^ k:Nat):Int)) (by omega) (by omega),
   show ((2 ^ k:Nat):Int)*2=((2 ^ (k+1):Nat):Int) by omega,show (v:Int)+((2 ^ k:Nat):Int)=((v+2 ^ k:Nat):Int) by omega]
  have f1:p=a→(Int.tmod (Int.tdiv p ((2 ^ k:Nat):Int)) 2=1↔a / 2 ^ k % 2=1):=by
   rintro rfl;rw [pc,show (2:Int)=((2:Nat):Int) from rfl,oE];omega
  have f2:q=b→(Int.tmod (Int.tdiv q ((2 ^ k:Nat):Int)) 2=1↔b / 2 ^ k % 2=1):=by
   rintro rfl;rw [pc,show (2:Int)=((2:Nat):Int) from rfl,oE];omega
  by_cases c1:Int.tmod (Int.tdiv p ((2 ^ k:Nat):Int)) 2=1
  ·rw [ak c1]
   by_cases c2:Int.tmod (Int.tdiv q ((2 ^ k:Nat):Int)) 2=1
   ·rw [ak c2]
    exact step _ (.inl ⟨rfl,fun h1 h2=>⟨(f1 h1).1 c1,(f2 h2).1 c2⟩⟩)
   ·rw [ai c2]
    exact step _ (.inr ⟨rfl,fun h1 h2 h=>c2 ((f2 h2).2 h.2)⟩)
  ·rw [ai c1]
   exact step _ (.inr ⟨rfl,fun h1 h2 h=>c1 ((f1 h1).2 h.1)⟩)

end Go.Eng
