/- What is proved: plain laws of the models, up to the law itself. Conditions: sizes and ranges of what is handed over, as each says. -/
import Derived.Test.YtdnlgpmmkchopaaGreatDoorCExactRunDeskModels
set_option linter.unusedVariables false
set_option linter.unusedSimpArgs false
namespace Go.Eng
open Go

theorem w64 {a:Int} (h1 : -9223372036854775808≤a) (h2:a≤9223372036854775807):IntKind.wrap .i64 a=a:=by
 rw [IntKind.wrap_i64];omega

def I64 (a:Int):Prop := -9223372036854775808≤a∧a≤9223372036854775807

theorem zY (a:Int):I64 (IntKind.wrap .i64 a):=by
 unfold I64;rw [IntKind.wrap_i64];omega

theorem bY {i:Nat} (h:i<4611686018427387904):IntKind.wrap .i64 ((i:Int)+1)=((i+1:Nat):Int):=by
 rw [w64 (by omega) (by omega)];omega

theorem al {α:Type} {p:Prop} [Decidable p] (h:p) (x:Option α):gd p x=x:=by unfold gd;rw [if_pos h]

theorem ae {α β:Type} (a:α) (f:α→Option β):bd (some a) f=f a:=rfl

theorem cj {α β:Type} (a:α) (f:α→Option β):nm a f=f a:=rfl

theorem wE {α β γ:Type} (a:α) (f:α→γ) (g:β→γ):sm (.inl a) f g=f a:=rfl

theorem wN {α β γ:Type} (b:β) (f:α→γ) (g:β→γ):sm (.inr b) f g=g b:=rfl

def Wp {α:Type} (x:Option α) (Q:α→Prop):Prop:=∃ r,x=some r∧Q r

theorem df {α:Type} {a:α} {Q:α→Prop}:Wp (some a) Q↔Q a:=⟨fun ⟨r,h,q⟩=>by cases h;exact q,fun h=>⟨a,rfl,h⟩⟩

theorem A6 {α:Type} {x:Option α} {r:α}:Wp x (fun a=>a=r)↔x=some r:=⟨fun ⟨a,h,e⟩=>by rw [h,e],fun h=>⟨r,h,rfl⟩⟩

theorem Wp.eq {α:Type} {x:Option α} {r:α} (h:Wp x (fun a=>a=r)):x=some r:=A6.1 h

theorem Wp.of {α:Type} {x:Option α} {r:α} {Q:α→Prop} (h:x=some r) (q:Q r):Wp x Q:=⟨r,h,q⟩

theorem pT {σ ρ:Type} (L:Nat→σ→Option ρ) (I:σ→Prop) (μ:σ→Nat) (Q:ρ→Prop)
  (hs:∀ n s,I s→(∀ s',I s'→μ s'<μ s→Wp (L n s') Q)→Wp (L (n+1) s) Q):∀ n s,I s→μ s<n→Wp (L n s) Q
 | 0,s,_,h=>absurd h (Nat.not_lt_zero _)
 | n+1,s,hi,h=>hs n s hi fun s' hi' hm=>pT L I μ Q hs n s' hi' (by omega)

theorem iE {α σ ρ:Type} [Inhabited α] (l:List α) (L:Nat→Int→σ→Option ρ) (I:Nat→σ→Prop) (Q:ρ→Prop)
  (h0:∀ n s,I l.length s→Wp (L (n+1) (l.length:Int) s) Q)
  (hs:∀ n i s d,i<l.length→gt l (i:Int)=d→l.drop i=d::l.drop (i+1)→d∈l→I i s→(∀ s',I (i+1) s'→Wp (L n ((i+1:Nat):Int) s') Q)→Wp (L (n+1) (i:Int) s) Q)
  (N:Nat) (hl:l.length<N) (s:σ) (h:I 0 s):Wp (L N 0 s) Q:=by
 have key:∀ (k i n:Nat) (s:σ),i+k=l.length→k<n→I i s→Wp (L n (i:Int) s) Q:=by
  intro k
  induction k with
  | zero =>
   intro i n s hk hn hi
   cases n with
   | zero=>omega
   | succ n =>
    have e:i=l.length:=by omega
    subst e
    exact h0 n s hi
  | succ k ih =>
   intro i n s hk hn hi
   cases n with
   | zero=>omega
   | succ n =>
    have hlt:i<l.length:=by omega
    have e1:gt l (i:Int)=l[i]:=by
     unfold gt
     rw [Int.toNat_natCast,List.getD_eq_getElem?_getD,List.getElem?_eq_getElem hlt,Option.getD_some]
    have e2:l.drop i=l[i]::l.drop (i+1):=List.drop_eq_getElem_cons hlt
    exact hs n i s l[i] hlt e1 e2 (List.getElem_mem hlt) hi fun s' hs'=>ih (i+1) n s' (by omega) (by omega) hs'
 exact key l.length 0 N s (by omega) hl h

theorem bT {α:Type} [Inhabited α] {l:List α} {i:Nat} (h:i<l.length):gt l (i:Int)=l[i]:=by
 unfold gt
 rw [Int.toNat_natCast,List.getD_eq_getElem?_getD,List.getElem?_eq_getElem h,Option.getD_some]

theorem fD {α:Type} [Inhabited α] {l:List α} {q:Int} (h:0≤q∧q<(l.length:Int)):gt l q∈l:=by
 obtain ⟨i,rfl⟩:=Int.eq_ofNat_of_zero_le h.1
 have hi:i<l.length:=by omega
 have e:gt l (i:Int)=l[i]:=bT hi
 rw [e];exact List.getElem_mem hi

theorem vF {α:Type} (l:List α) (i:Nat):sub l 0 (i:Int)=l.take i:=by simp [sub]

def ix {α:Type} (p:α→Bool) (l:List α):Int:=match l.findIdx? p with | some i=>(i:Int) | none => -1

theorem kE {α:Type} [Inhabited α] (p:α→Bool) (l:List α) :
  (ix p l = -1∧l.find? p=none∧∀ d∈l,p d=false) ∨
  ∃ (i:Nat) (d:α),ix p l=i∧i<l.length∧gt l (i:Int)=d∧l.find? p=some d∧d∈l∧p d=true:=by
 unfold ix
 cases h:l.findIdx? p with
 | none =>
  left
  rw [List.findIdx?_eq_none_iff] at h
  exact ⟨rfl,List.find?_eq_none.2 (fun d hd=>by simp [h d hd]),h⟩
 | some i =>
  right
  rw [List.findIdx?_eq_some_iff_getElem] at h
  obtain ⟨hi,h1,h2⟩:=h
  refine ⟨i,l[i],rfl,hi,bT hi,?_,List.getElem_mem hi,h1⟩
  rw [List.find?_eq_some_iff_getElem]
  exact ⟨h1,i,hi,rfl,fun j hj=>by simpa using h2 j hj⟩

theorem rD {α:Type} (p:α→Bool) (l:List α) : -1≤ix p l∧ix p l<(l.length:Int):=by
 unfold ix
 cases h:l.findIdx? p with
 | none=>simp only;omega
 | some i =>
  rw [List.findIdx?_eq_some_iff_getElem] at h
  obtain ⟨hi,_⟩:=h
  simp only;omega

theorem ru (a:Nat) (ha:a<9223372036854775808):(BitVec.ofInt 64 (a:Int)).toNat=a:=by
 rw [BitVec.ofInt_natCast,BitVec.toNat_ofNat];exact Nat.mod_eq_of_lt (by omega)

theorem vu {a b:Nat} (ha:a<9223372036854775808) (hb:b<9223372036854775808):Go.bits .and .i64 (a:Int) (b:Int)=((a&&&b:Nat):Int):=by
 have hx:a&&&b≤a:=Nat.and_le_left
 show IntKind.i64.wrap ((BitVec.ofInt 64 (a:Int)&&&BitVec.ofInt 64 (b:Int)).toNat:Int)=_
 rw [BitVec.toNat_and,ru a ha,ru b hb,w64 (by omega) (by omega)]

theorem zF {a b:Nat} (ha:a<9223372036854775808) (hb:b<9223372036854775808):Go.bits .or .i64 (a:Int) (b:Int)=((a|||b:Nat):Int):=by
 have hx:a|||b<2 ^ 63:=Nat.or_lt_two_pow (by omega) (by omega)
 show IntKind.i64.wrap ((BitVec.ofInt 64 (a:Int)|||BitVec.ofInt 64 (b:Int)).toNat:Int)=_
 rw [BitVec.toNat_or,ru a ha,ru b hb,w64 (by omega) (by omega)]

theorem A2 {a b:Nat} (ha:a<9223372036854775808) (hb:b<9223372036854775808):Go.bits .xor .i64 (a:Int) (b:Int)=((a ^^^ b:Nat):Int):=by
 have hx:a ^^^ b<2 ^ 63:=Nat.xor_lt_two_pow (by omega) (by omega)
 show IntKind.i64.wrap ((BitVec.ofInt 64 (a:Int) ^^^ BitVec.ofInt 64 (b:Int)).toNat:Int)=_
 rw [BitVec.toNat_xor,ru a ha,ru b hb,w64 (by omega) (by omega)]

def aJ (a b:Nat):Nat:=a - (a&&&b)

theorem nC (a b:Nat):(a|||b)+(a&&&b)=a+b:=by
 induction a using Nat.strongRecOn generalizing b with
 | _ a ih =>
  by_cases h0:a=0
  ·subst h0;simp
  ·have h1:=ih (a / 2) (by omega) (b / 2)
   have o1:(a|||b) / 2=(a / 2)|||(b / 2):=Nat.or_div_two ..
   have n1:(a&&&b) / 2=(a / 2)&&&(b / 2):=Nat.and_div_two ..
   have o2:(a|||b) % 2=if a % 2=1∨b % 2=1 then 1 else 0:=by
    have:=Nat.or_mod_two_pow (a:=a) (b:=b) (n:=1)
    simp only [Nat.pow_one] at this
    rw [this]
    rcases Nat.mod_two_eq_zero_or_one a with ha | ha <;> rcases Nat.mod_two_eq_zero_or_one b with hb | hb <;> simp [ha,hb]
   have n2:(a&&&b) % 2=if a % 2=1∧b % 2=1 then 1 else 0:=by
    have:=Nat.and_mod_two_pow (a:=a) (b:=b) (n:=1)
    simp only [Nat.pow_one] at this
    rw [this]
    rcases Nat.mod_two_eq_zero_or_one a with ha | ha <;> rcases Nat.mod_two_eq_zero_or_one b with hb | hb <;> simp [ha,hb]
   rw [← o1,← n1] at h1
   clear o1 n1 ih
   split at o2 <;> split at n2 <;> omega

theorem dr (a b i:Nat):(aJ a b).testBit i=(a.testBit i && !b.testBit i):=by
 have h:aJ a b=a ^^^ (a&&&b):=by
  have hle:a&&&b≤a:=Nat.and_le_left
  have h1:=nC (a ^^^ (a&&&b)) (a&&&b)
  have h2:(a ^^^ (a&&&b))|||(a&&&b)=a:=by
   apply Nat.eq_of_testBit_eq;intro i
   simp only [Nat.testBit_or,Nat.testBit_xor,Nat.testBit_and]
   cases a.testBit i <;> cases b.testBit i <;> rfl
  have h3:(a ^^^ (a&&&b))&&&(a&&&b)=0:=by
   apply Nat.eq_of_testBit_eq;intro i
   simp only [Nat.testBit_xor,Nat.testBit_and,Nat.zero_testBit]
   cases a.testBit i <;> cases b.testBit i <;> rfl
  rw [h2,h3] at h1
  unfold aJ;omega
 rw [h]
 simp only [Nat.testBit_xor,Nat.testBit_and]
 cases a.testBit i <;> cases b.testBit i <;> rfl

theorem iL (a b:Nat):aJ a b≤a:=Nat.sub_le ..

theorem iN {a b:Nat} (ha:a<9223372036854775808) (hb:b<9223372036854775808):Go.bits .andNot .i64 (a:Int) (b:Int)=((aJ a b:Nat):Int):=by
 have hx:aJ a b≤a:=iL ..
 show IntKind.i64.wrap ((BitVec.ofInt 64 (a:Int)&&&~~~ BitVec.ofInt 64 (b:Int)).toNat:Int)=_
 have e:(BitVec.ofInt 64 (a:Int)&&&~~~ BitVec.ofInt 64 (b:Int)).toNat=aJ a b:=by
  apply Nat.eq_of_testBit_eq;intro i
  have hA:BitVec.ofInt 64 (a:Int)=BitVec.ofNat 64 a:=by simp [BitVec.ofInt_natCast]
  have hB:BitVec.ofInt 64 (b:Int)=BitVec.ofNat 64 b:=by simp [BitVec.ofInt_natCast]
  rw [hA,hB,dr]
  by_cases h64:i<64
  ·rw [BitVec.testBit_toNat,BitVec.getLsbD_and,BitVec.getLsbD_not,BitVec.getLsbD_ofNat,BitVec.getLsbD_ofNat]
   simp [h64]
  ·have h1:a.testBit i=false:=Nat.testBit_lt_two_pow (Nat.lt_of_lt_of_le (by omega:a<2 ^ 63) (Nat.pow_le_pow_right (by omega) (by omega)))
   rw [h1,Bool.false_and,BitVec.testBit_toNat]
   exact BitVec.getLsbD_of_ge _ _ (by omega)
 rw [e,w64 (by omega) (by omega)]

theorem ai {α:Type} {p:Prop} [Decidable p] (h:p) (x y:α):(bif decide p then x else y)=x:=by rw [decide_eq_true h];rfl

theorem ah {α:Type} {p:Prop} [Decidable p] (h:¬ p) (x y:α):(bif decide p then x else y)=y:=by rw [decide_eq_false h];rfl

theorem ku {α:Type} {p:Prop} [Decidable p] (x y:α):(bif decide p then x else y)=if p then x else y:=by
 by_cases h:p <;> simp [h]

theorem nN {α:Type} [Inhabited α] (l:List α) (L:Nat→Int→Option (Int ⊕ Unit)) (p:α→Bool)
  (hend:∀ n,L (n+1) (l.length:Int)=some (.inr ()))
  (hstep:∀ n i,i<l.length→L (n+1) (i:Int)=if p (gt l (i:Int)) then some (.inl (i:Int)) else L n ((i+1:Nat):Int))
  (N:Nat) (hl:l.length<N):L N 0=some (match l.findIdx? p with | some i=>.inl (i:Int) | none=>.inr ()):=by
 refine (iE l (fun n i (_:Unit)=>L n i) (fun i _=>∀ d∈l.take i,p d=false)
  (fun r=>r=(match l.findIdx? p with | some i=>.inl (i:Int) | none=>.inr ())) ?_ ?_ N hl () (by simp)).eq
 ·intro n _ hI
  rw [List.take_length] at hI
  rw [hend]
  refine df.2 ?_
  rw [List.findIdx?_eq_none_iff.2 hI]
 ·intro n i _ d hi hg hd hm hI ih
  rw [hstep n i hi,hg]
  by_cases h:p d=true
  ·rw [if_pos h]
   refine df.2 ?_
   have:l.findIdx? p=some i:=by
    rw [List.findIdx?_eq_some_iff_getElem]
    refine ⟨hi,by rw [← bT hi,hg];exact h,fun j hj=>?_⟩
    simpa using hI l[j] (List.mem_take_iff_getElem.2 ⟨j,by omega,rfl⟩)
   rw [this]
  ·rw [if_neg h]
   refine ih () ?_
   intro e he
   rw [List.take_succ_eq_append_getElem hi,List.mem_append] at he
   rcases he with he | he
   ·exact hI e he
   ·rw [← bT hi,hg] at he
    simp at he;subst he;simpa using h

theorem xR {α ρ:Type} [Inhabited α] (l:List α) (L:Nat→Int→Option ρ) (P:Nat→Prop) (x y:ρ)
  (hend:∀ n,L (n+1) (l.length:Int)=some y)
  (hstep:∀ n i,i<l.length→(P i∧L (n+1) (i:Int)=some x)∨(¬ P i∧L (n+1) (i:Int)=L n ((i+1:Nat):Int)))
  (N:Nat) (hl:l.length<N):((∃ i,i<l.length∧P i)∧L N 0=some x)∨((∀ i,i<l.length→¬ P i)∧L N 0=some y):=by
 have h:=iE l (fun n i (_:Unit)=>L n i) (fun i _=>∀ j,j<i→¬ P j)
  (fun r=>((∃ i,i<l.length∧P i)∧r=x)∨((∀ i,i<l.length→¬ P i)∧r=y)) ?_ ?_ N hl () (by intro j hj;omega)
 ·obtain ⟨r,e,h⟩:=h
  have e:L N 0=some r:=e
  rw [e]
  rcases h with ⟨h1,rfl⟩ | ⟨h1,rfl⟩
  ·exact .inl ⟨h1,rfl⟩
  ·exact .inr ⟨h1,rfl⟩
 ·intro n _ hI
  rw [hend]
  exact df.2 (.inr ⟨hI,rfl⟩)
 ·intro n i _ d hi hg hd hm hI ih
  rcases hstep n i hi with ⟨h1,h2⟩ | ⟨h1,h2⟩
  ·rw [h2];exact df.2 (.inl ⟨⟨i,hi,h1⟩,rfl⟩)
  ·rw [h2]
   refine ih () fun j hj=>?_
   by_cases e:j=i
   ·subst e;exact h1
   ·exact hI j (by omega)

theorem vK {α β:Type} [Inhabited α] (l:List α) (L:Nat→List β→Int→Option (List β)) (g:α→List β) (c:Nat) (hc:∀ d∈l,(g d).length≤c)
  (hend:∀ n acc,L (n+1) acc (l.length:Int)=some acc)
  (hstep:∀ n i acc,i<l.length→gt l (i:Int)∈l→acc.length≤c*i→L (n+1) acc (i:Int)=L n (acc++g (gt l (i:Int))) ((i+1:Nat):Int))
  (N:Nat) (hl:l.length<N):L N [] 0=some (l.flatMap g):=by
 refine (iE l (fun n i acc=>L n acc i) (fun i acc=>acc.length≤c*i∧acc++(l.drop i).flatMap g=l.flatMap g)
  (fun r=>r=l.flatMap g) ?_ ?_ N hl [] ⟨by simp,by simp⟩).eq
 ·intro n acc hI
  rw [hend]
  refine df.2 ?_
  have:=hI.2
  rw [List.drop_length] at this
  simpa using this
 ·intro n i acc d hi hg hd hm hI ih
  rw [hstep n i acc hi (by rw [hg];exact hm) hI.1,hg]
  refine ih _ ⟨?_,?_⟩
  ·have:=hc d hm
   rw [List.length_append,Nat.mul_succ];have:=hI.1;omega
  ·have:=hI.2
   rw [hd,List.flatMap_cons,← List.append_assoc] at this
   exact this

theorem qb {α σ:Type} [Inhabited α] (l:List α) (L:Nat→σ→Int→Option σ) (g:σ→α→σ) (I:Nat→σ→Prop)
  (hend:∀ n s,L (n+1) s (l.length:Int)=some s)
  (hstep:∀ n i s,i<l.length→gt l (i:Int)∈l→I i s→I (i+1) (g s (gt l (i:Int)))∧L (n+1) s (i:Int)=L n (g s (gt l (i:Int))) ((i+1:Nat):Int))
  (N:Nat) (hl:l.length<N) (s:σ) (h0:I 0 s):L N s 0=some (l.foldl g s)∧I l.length (l.foldl g s):=by
 have h:=iE l (fun n i s=>L n s i) (fun i t=>I i t∧(l.drop i).foldl g t=l.foldl g s)
  (fun r=>r=l.foldl g s∧I l.length r) ?_ ?_ N hl s ⟨h0,by simp⟩
 ·obtain ⟨r,e,rfl,h2⟩:=h
  exact ⟨e,h2⟩
 ·intro n t hI
  rw [hend]
  refine df.2 ?_
  have:=hI.2
  rw [List.drop_length] at this
  exact ⟨this,hI.1⟩
 ·intro n i t d hi hg hd hm hI ih
  have hs:=hstep n i t hi (by rw [hg];exact hm) hI.1
  rw [hg] at hs
  rw [hs.2]
  refine ih _ ⟨hs.1,?_⟩
  have:=hI.2
  rw [hd,List.foldl_cons] at this
  exact this

theorem nK {α β:Type} (p:α→Prop) [DecidablePred p] (f:α→β) (l:List α):l.flatMap (fun d=>if p d then [f d] else [])=(l.filter (fun d=>decide (p d))).map f:=by
 induction l with
 | nil=>rfl
 | cons d l ih =>
  rw [List.flatMap_cons,ih]
  by_cases h:p d <;> simp [h]

theorem qO {α β:Type} (f:α→β) (l:List α):l.flatMap (fun d=>[f d])=l.map f:=by
 induction l with
 | nil=>rfl
 | cons d l ih=>rw [List.flatMap_cons,ih];rfl

theorem wW {n i:Nat} (h:i<n):gt (List.range n) (i:Int)=i:=by
 rw [bT (by simpa using h),List.getElem_range]

theorem xm {a b:Bool} (h:a=true↔b=true):a=b:=by
 cases a <;> cases b <;> simp_all

theorem A1 {α β σ:Type} [Inhabited α] (l:List α) (L:Nat→σ→Int→Option (β ⊕ σ)) (bad:α→Bool) (b:β) (g:σ→α→σ) (I:Nat→σ→Prop)
  (hend:∀ n s,I l.length s→L (n+1) s (l.length:Int)=some (.inr s))
  (hstep:∀ n i s,i<l.length→gt l (i:Int)∈l→I i s→(bad (gt l (i:Int))=true∧L (n+1) s (i:Int)=some (.inl b)) ∨
   (bad (gt l (i:Int))=false∧I (i+1) (g s (gt l (i:Int)))∧L (n+1) s (i:Int)=L n (g s (gt l (i:Int))) ((i+1:Nat):Int)))
  (N:Nat) (hl:l.length<N) (s:σ) (h0:I 0 s):(l.any bad=true∧L N s 0=some (.inl b))∨(l.any bad=false∧I l.length (l.foldl g s)∧L N s 0=some (.inr (l.foldl g s))):=by
 have h:=iE l (fun n i s=>L n s i) (fun i t=>I i t∧(l.drop i).foldl g t=l.foldl g s∧l.any bad=(l.drop i).any bad)
  (fun r=>(l.any bad=true∧r=.inl b)∨(l.any bad=false∧I l.length (l.foldl g s)∧r=.inr (l.foldl g s))) ?_ ?_ N hl s ⟨h0,by simp,by simp⟩
 ·obtain ⟨r,e,h⟩:=h
  have e:L N s 0=some r:=e
  rw [e]
  rcases h with ⟨h1,rfl⟩ | ⟨h1,h2,rfl⟩
  ·exact .inl ⟨h1,rfl⟩
  ·exact .inr ⟨h1,h2,rfl⟩
 ·intro n t hI
  rw [hend n t hI.1]
  refine df.2 (.inr ?_)
  have h2:=hI.2.1
  have h3:=hI.2.2
  rw [List.drop_length] at h2 h3
  simp only [List.foldl_nil] at h2
  rw [← h2]
  exact ⟨h3,hI.1,rfl⟩
 ·intro n i t d hi hg hd hm hI ih
  have hs:=hstep n i t hi (by rw [hg];exact hm) hI.1
  rw [hg] at hs
  have h2:=hI.2.1
  have h3:=hI.2.2
  rw [hd,List.foldl_cons] at h2
  rw [hd,List.any_cons] at h3
  rcases hs with ⟨hb,e⟩ | ⟨hb,hi',e⟩
  ·rw [e]
   exact df.2 (.inl ⟨by rw [h3,hb];rfl,rfl⟩)
  ·rw [e]
   exact ih _ ⟨hi',h2,by rw [h3,hb,Bool.false_or]⟩

theorem A5 {α:Type} [Inhabited α] (l:List α) (L:Nat→List α→Int→Option (List α))
  (hend:∀ n s,L (n+1) s (l.length:Int)=some s)
  (hstep:∀ n i s,i<l.length→s.length=l.length→L (n+1) s (i:Int)=L n (s.set (0+i) (gt l (i:Int))) ((i+1:Nat):Int))
  (N:Nat) (hl:l.length<N) (s:List α) (h0:s.length=l.length):L N s 0=some l:=by
 refine (iE l (fun n i s=>L n s i) (fun i t=>t.length=l.length∧t.take i=l.take i) (fun r=>r=l) ?_ ?_ N hl s ⟨h0,by simp⟩).eq
 ·intro n t hI
  rw [hend]
  refine df.2 ?_
  have h2:=hI.2
  rw [List.take_length,← hI.1,List.take_length] at h2
  exact h2
 ·intro n i t d hi hg hd hm hI ih
  rw [hstep n i t hi hI.1,hg]
  refine ih _ ⟨by rw [List.length_set];exact hI.1,?_⟩
  have hi':i<t.length:=by rw [hI.1];exact hi
  rw [Nat.zero_add,List.take_set,List.take_succ_eq_append_getElem hi,List.take_succ_eq_append_getElem hi',hI.2,List.set_append]
  have:(l.take i).length=i:=by rw [List.length_take];omega
  rw [if_neg (by omega),this,Nat.sub_self,List.set_cons_zero,← bT hi,hg]

theorem eqW {α:Type} [Inhabited α] [DecidableEq α] (a b:List α) (L:Nat→Int→Option (Unit ⊕ Unit)) (hlen:a.length=b.length)
  (hend:∀ n,L (n+1) (a.length:Int)=some (.inr ()))
  (hstep:∀ n i,i<a.length→L (n+1) (i:Int)=if gt a (i:Int)=gt b (i:Int) then L n ((i+1:Nat):Int) else some (.inl ()))
  (N:Nat) (hl:a.length<N):L N 0=some (if a=b then .inr () else .inl ()):=by
 have h:=xR a L (fun i=>¬ gt a (i:Int)=gt b (i:Int)) (.inl ()) (.inr ()) hend (fun n i hi=>?_) N hl
 ·rcases h with ⟨⟨i,h1,h2⟩,e⟩ | ⟨h1,e⟩
  ·rw [e,if_neg (fun e=>h2 (by rw [e]))]
  ·rw [e,if_pos]
   refine List.ext_getElem hlen fun i h2 h3=>?_
   have:=Decidable.not_not.1 (h1 i h2)
   rwa [bT h2,bT h3] at this
 ·rw [hstep n i hi]
  by_cases h:gt a (i:Int)=gt b (i:Int)
  ·rw [if_pos h];exact .inr ⟨fun h'=>h' h,rfl⟩
  ·rw [if_neg h];exact .inl ⟨h,rfl⟩

theorem Ba {ρ:Type} (m:Nat) (L:Nat→Int→Option ρ) (P:Nat→Prop) (x y:ρ)
  (hend:∀ n,L (n+1) (m:Int)=some y)
  (hstep:∀ n i,i<m→(P i∧L (n+1) (i:Int)=some x)∨(¬ P i∧L (n+1) (i:Int)=L n ((i+1:Nat):Int)))
  (N:Nat) (hl:m<N):((∃ i,i<m∧P i)∧L N 0=some x)∨((∀ i,i<m→¬ P i)∧L N 0=some y):=by
 have h:=xR (List.range m) L P x y (by simpa using hend) (by simpa using hstep) N (by simpa using hl)
 simpa using h

theorem AU {α:Type} [Inhabited α] (l:List α) (L:Nat→Int→Option (Int ⊕ Unit)) (p:α→Bool)
  (hend:∀ n,L (n+1) (l.length:Int)=some (.inr ()))
  (hstep:∀ n i,i<l.length→L (n+1) (i:Int)=if p (gt l (i:Int)) then some (.inl (i:Int)) else L n ((i+1:Nat):Int))
  (N:Nat) (hl:l.length<N):(bd (L N 0) fun x=>sm x (fun a=>some a) (fun _=>some (-1)))=some (ix p l):=by
 rw [nN l L p hend hstep N hl,ae,ix]
 cases l.findIdx? p <;> rfl

theorem FU_eq:FU=4611686018427387904:=rfl

def dY (l:List (ByteArray×Int)) (s:ByteArray):Int:=ix (fun d=>decide (d.1=s)) l

def dS (l:List (ByteArray×Int)) (n:Int):Int:=ix (fun d=>decide (d.2=n)) l

theorem lI (l:List (ByteArray×Int)) (s:ByteArray) (hl:l.length≤1099511627776):fP l s=some (dY l s):=by
 rw [fP,nN l (cY l s) (fun d=>decide (d.1=s)) ?_ ?_ FU (by rw [FU_eq];omega),ae,dY,ix]
 ·cases l.findIdx? (fun d=>decide (d.1=s)) <;> rfl
 ·intro n;rw [cY,ah (by omega)]
 ·intro n i hi
  rw [cY,ai (by omega),al (by omega),bY (by omega),ku]
  simp

theorem sS (l:List (ByteArray×Int)) (s:ByteArray) (hl:l.length≤1099511627776):gQ l s=some (dY l s):=by
 rw [gQ,cP,nN l (aS l s) (fun d=>decide (d.1=s)) ?_ ?_ FU (by rw [FU_eq];omega),ae,dY,ix]
 ·cases l.findIdx? (fun d=>decide (d.1=s)) <;> rfl
 ·intro n;rw [aS,ah (by omega)]
 ·intro n i hi
  rw [aS,ai (by omega),al (by omega),bY (by omega),hU,ae,ku]
  simp

theorem lP (l:List (ByteArray×Int)) (s:Int) (hl:l.length≤1099511627776):eJ l s=some (dS l s):=by
 rw [eJ,nN l (cV l s) (fun d=>decide (d.2=s)) ?_ ?_ FU (by rw [FU_eq];omega),ae,dS,ix]
 ·cases l.findIdx? (fun d=>decide (d.2=s)) <;> rfl
 ·intro n;rw [cV,ah (by omega)]
 ·intro n i hi
  rw [cV,ai (by omega),al (by omega),bY (by omega),ku]
  simp

theorem qJ (l:List (ByteArray×Int)) (s:Int) (hl:l.length≤1099511627776):fw l s=some (dS l s):=by
 rw [fw,cK,nN l (aQ l s) (fun d=>decide (d.2=s)) ?_ ?_ FU (by rw [FU_eq];omega),ae,dS,ix]
 ·cases l.findIdx? (fun d=>decide (d.2=s)) <;> rfl
 ·intro n;rw [aQ,ah (by omega)]
 ·intro n i hi
  rw [aQ,ai (by omega),al (by omega),bY (by omega),gO,ae,ku]
  simp

def fe (s:ByteArray):Prop:=(∀ i,i<s.size→97≤aD s i∧aD s i≤122)∧1≤s.size∧s.size≤6

instance (s:ByteArray):Decidable (fe s):=inferInstanceAs (Decidable (_∧_))

theorem fS (a b c:Int):cE a b c=some (decide (b≤a∧a≤c)):=by
 rw [cE,ku]
 by_cases h1:b≤a <;> by_cases h2:a≤c <;> simp [h1,h2]

theorem kv (a b c:Int):fI a b c=some (decide (b≤a∧a≤c)):=fS a b c

theorem tB (s:ByteArray) (hs:s.size≤1099511627776):Wp (bO s FU 0) (fun r=>(r=.inl ()∧∃ i,i<s.size∧¬ (97≤aD s i∧aD s i≤122))∨(r=.inr ()∧∀ i,i<s.size→97≤aD s i∧aD s i≤122)):=by
 refine pT (bO s) (fun v=>∃ i:Nat,v=i∧i≤s.size∧∀ j,j<i→97≤aD s j∧aD s j≤122) (fun v=>s.size - v.toNat) _ ?_ FU 0 ⟨0,rfl,by omega,by intro j hj;omega⟩ (by rw [FU_eq];omega)
 rintro n _ ⟨i,rfl,hi,hI⟩ ih
 rw [bO]
 by_cases h:i<s.size
 ·rw [ai (by omega),al (by omega),bY (by omega),Int.toNat_natCast]
  by_cases h1:aD s i<97
  ·rw [ai h1];exact df.2 (.inl ⟨rfl,i,h,by omega⟩)
  ·rw [ah h1]
   by_cases h2:122<aD s i
   ·rw [ai h2];exact df.2 (.inl ⟨rfl,i,h,by omega⟩)
   ·rw [ah h2]
    refine ih _ ⟨i+1,rfl,h,fun j hj=>?_⟩ (by omega)
    by_cases e:j=i
    ·subst e;omega
    ·exact hI j (by omega)
 ·rw [ah (by omega)]
  exact df.2 (.inr ⟨rfl,fun j hj=>hI j (by omega)⟩)

theorem iP {s:ByteArray} (hs:s.size≤1099511627776):dK s=some (decide (fe s)):=by
 obtain ⟨r,e,h⟩:=tB s hs
 rw [dK,e,ae]
 rcases h with ⟨rfl,i,hi,h⟩ | ⟨rfl,h⟩
 ·have:¬ fe s:=fun hn=>h (hn.1 i hi)
  rw [decide_eq_false this];rfl
 ·rw [wN,fS,ae]
  have:fe s↔((1:Int)≤(s.size:Int)∧(s.size:Int)≤6):=⟨fun hn=>by have:=hn.2;omega,fun hh=>⟨h,by omega⟩⟩
  rw [decide_eq_decide.2 this]

theorem mw (p:ByteArray):∀ (n:Nat) (v:Int),dc p n v=bO p n v
 | 0,v=>rfl
 | n+1,v=>by rw [dc,bO,mw p n]

theorem tK {s:ByteArray} (hs:s.size≤1099511627776):fW s=some (decide (fe s)):=by
 rw [← iP hs,fW,dK,mw];rfl

def cp (l:List (ByteArray×Int)):Prop:=l.length≤1099511627776∧(∀ d∈l,d.1.size≤1099511627776)∧∀ d∈l,I64 d.2

def ez (l:List (ByteArray×Int)) (lo hi:Int):Prop:=(∀ i,i<l.length→fe (gt l (i:Int)).1∧(lo≤(gt l (i:Int)).2∧(gt l (i:Int)).2≤hi)∧¬ 0≤dY (l.take i) (gt l (i:Int)).1)∧l.length≤12

instance (l:List (ByteArray×Int)) (lo hi:Int):Decidable (ez l lo hi):=inferInstanceAs (Decidable (_∧_))

theorem mS {l:List (ByteArray×Int)} (h:cp l) (lo hi:Int):eN l lo hi=some (decide (ez l lo hi)):=by
 obtain ⟨hl,hs,-⟩:=h
 have h:=xR l (bP l lo hi) (fun i=>¬ (fe (gt l (i:Int)).1∧(lo≤(gt l (i:Int)).2∧(gt l (i:Int)).2≤hi)∧¬ 0≤dY (l.take i) (gt l (i:Int)).1)) (.inl ()) (.inr ()) ?_ ?_ FU (by rw [FU_eq];omega)
 ·rw [eN]
  rcases h with ⟨⟨i,h1,h2⟩,e⟩ | ⟨h1,e⟩
  ·rw [e,ae,wE]
   have:¬ ez l lo hi:=fun h=>h2 (h.1 i h1)
   rw [decide_eq_false this]
  ·rw [e,ae,wN]
   have:ez l lo hi↔(l.length:Int)≤12:=⟨fun h=>by have:=h.2;omega,fun h=>⟨fun i hi=>Decidable.not_not.1 (h1 i hi),by omega⟩⟩
   rw [decide_eq_decide.2 this]
 ·intro n;rw [bP,ah (by omega)]
 ·intro n i hi'
  have hm:gt l (i:Int)∈l:=fD (by omega)
  rw [bP,ai (by omega),al (by omega),iP (hs _ hm),ae,fS,ae,al (by omega),vF,lI _ _ (by rw [List.length_take];omega),ae,bY (by omega)]
  by_cases h1:fe (gt l (i:Int)).1 <;> simp only [h1,decide_true,decide_false,Bool.not_true,Bool.not_false,cond_true,cond_false,true_and,false_and,not_false_eq_true,not_true_eq_false,or_false,and_self]
  by_cases h2:lo≤(gt l (i:Int)).2∧(gt l (i:Int)).2≤hi <;> simp only [h2,decide_true,decide_false,Bool.not_true,Bool.not_false,cond_true,cond_false,true_and,false_and,not_false_eq_true,not_true_eq_false,or_false,and_self]
  by_cases h3:0≤dY (l.take i) (gt l (i:Int)).1 <;> simp only [h3,decide_true,decide_false,Bool.not_true,Bool.not_false,cond_true,cond_false,true_and,false_and,not_false_eq_true,not_true_eq_false,or_false,and_self,false_or]

theorem uf {l:List (ByteArray×Int)} (h:cp l) (lo hi:Int):gi l lo hi=some (decide (ez l lo hi)):=by
 have e:∀ (n:Nat) (i:Nat),i≤l.length→db l lo hi n (i:Int)=bP l lo hi n (i:Int):=by
  intro n
  induction n with
  | zero=>intro i _;rfl
  | succ n ih =>
   intro i hi'
   rw [db,bP]
   by_cases hlt:i<l.length
   ·have hm:gt l (i:Int)∈l:=fD (by omega)
    have hl:=h.1
    rw [ai (by omega),ai (by omega),bY (by omega),ih (i+1) hlt,tK (h.2.1 _ hm),iP (h.2.1 _ hm),vF,
     sS _ _ (by rw [List.length_take];omega),lI _ _ (by rw [List.length_take];omega)]
    rfl
   ·rw [ah (by omega),ah (by omega)]
 rw [← mS h,gi,eN,show (0:Int)=((0:Nat):Int) from rfl,e FU 0 (by omega)]

def bC (l:List (ByteArray×Int)) (b:Int):Prop:=ez l 0 4095∧0≤b∧b≤3

instance (l:List (ByteArray×Int)) (b:Int):Decidable (bC l b):=inferInstanceAs (Decidable (_∧_))

theorem nn {l:List (ByteArray×Int)} (h:cp l) (b:Int):eQ l b=some (decide (bC l b)):=by
 rw [eQ,mS h,ae,fS,ae]
 by_cases h1:ez l 0 4095
 ·rw [decide_eq_true h1,cond_true];congr 1;exact decide_eq_decide.2 ⟨fun h=>⟨h1,h⟩,fun h=>h.2⟩
 ·rw [decide_eq_false h1,cond_false,decide_eq_false (fun h=>h1 h.1)]

theorem ja {l:List (ByteArray×Int)} (h:cp l) (b:Int):dq l b=some (decide (bC l b)):=by
 rw [dq,uf h,ae,kv,ae]
 by_cases h1:ez l 0 4095
 ·rw [decide_eq_true h1,cond_true];congr 1;exact decide_eq_decide.2 ⟨fun h=>⟨h1,h⟩,fun h=>h.2⟩
 ·rw [decide_eq_false h1,cond_false,decide_eq_false (fun h=>h1 h.1)]

def wD (l:List (ByteArray×Int)):Prop:=ez l (-1000) 1000

instance (l:List (ByteArray×Int)):Decidable (wD l):=inferInstanceAs (Decidable (ez _ _ _))

theorem ez.out {l:List (ByteArray×Int)} {lo hi:Int} (h:ez l lo hi):(∀ d∈l,fe d.1∧lo≤d.2∧d.2≤hi)∧(l.map (·.1)).Nodup∧l.length≤12:=by
 refine ⟨fun d hd=>?_,?_,h.2⟩
 ·obtain ⟨i,hi',rfl⟩:=List.mem_iff_getElem.1 hd
  have:=h.1 i hi'
  rw [bT hi'] at this
  exact ⟨this.1,this.2.1⟩
 ·rw [List.Nodup,List.pairwise_iff_getElem]
  intro i j hi' hj hij e
  simp only [List.length_map] at hi' hj
  have:=(h.1 j hj).2.2
  rw [bT hj] at this
  apply this
  simp only [List.getElem_map] at e
  unfold dY
  rcases kE (fun d=>decide (d.1=l[j].1)) (l.take j) with ⟨_,_,h3⟩ | ⟨k,d,h1,_⟩
  ·have:=h3 l[i] (List.mem_take_iff_getElem.2 ⟨i,by omega,rfl⟩)
   simp [e] at this
  ·rw [h1];omega

theorem ez.of {l:List (ByteArray×Int)} {lo hi:Int} (h:(∀ d∈l,fe d.1∧lo≤d.2∧d.2≤hi)∧(l.map (·.1)).Nodup∧l.length≤12):ez l lo hi:=by
 refine ⟨fun i hi'=>?_,h.2.2⟩
 have hm:=h.1 _ (List.getElem_mem hi')
 rw [bT hi']
 refine ⟨hm.1,hm.2,?_⟩
 unfold dY
 rcases kE (fun d=>decide (d.1=l[i].1)) (l.take i) with ⟨h1,_⟩ | ⟨k,d,h1,h2,h3,h4,h5,h6⟩
 ·rw [h1];omega
 ·exfalso
  obtain ⟨j,hj,rfl⟩:=List.mem_take_iff_getElem.1 h5
  have hnd:=h.2.1
  rw [List.Nodup,List.pairwise_iff_getElem] at hnd
  have:=hnd j i (by simp;omega) (by simp;omega) (by omega)
  simp only [List.getElem_map] at this
  exact this (by simpa using h6)

theorem mJ {k:Nat} (h:k≤11):(2 ^ k:Nat)≤2048:=by
 calc 2 ^ k≤2 ^ 11:=Nat.pow_le_pow_right (by omega) h
  _=2048:=rfl

theorem nT (a p:Nat):Int.tdiv (a:Int) (p:Int)=((a / p:Nat):Int):=by simp [Int.ofNat_tdiv]

theorem nG (a p:Nat):Int.tmod (a:Int) (p:Int)=((a % p:Nat):Int):=by rw [Int.tmod_eq_emod_of_nonneg (by omega)];simp

theorem nt {a p:Int} (ha:I64 a) (hp:1≤p):I64 (Int.tdiv a p):=by
 unfold I64 at *
 by_cases h:0≤a
 ·rw [Int.tdiv_eq_ediv_of_nonneg h]
  have h1:=Int.ediv_nonneg h (by omega:0≤p)
  have h2:=Int.ediv_le_self p h
  omega
 ·have e:Int.tdiv a p = -Int.tdiv (-a) p:=by rw [Int.neg_tdiv,Int.neg_neg]
  have h0:0 ≤ -a:=by omega
  rw [e,Int.tdiv_eq_ediv_of_nonneg h0]
  have h1:=Int.ediv_nonneg h0 (by omega:0≤p)
  have h2:=Int.ediv_le_self p h0
  omega

theorem mg {a b v:Nat} (k:Nat) (hv:v=(a&&&b) % 2 ^ k):(a&&&b) % 2 ^ (k+1)=v+2 ^ k*(if a / 2 ^ k % 2=1∧b / 2 ^ k % 2=1 then 1 else 0):=by
 rw [Nat.mod_pow_succ,hv]
 have h:(a&&&b) / 2 ^ k % 2=if a / 2 ^ k % 2=1∧b / 2 ^ k % 2=1 then 1 else 0:=by
  have e:=Nat.testBit_and a b k
  rw [Nat.testBit_eq_decide_div_mod_eq,Nat.testBit_eq_decide_div_mod_eq,Nat.testBit_eq_decide_div_mod_eq] at e
  rcases Nat.mod_two_eq_zero_or_one (a / 2 ^ k) with ha | ha <;> rcases Nat.mod_two_eq_zero_or_one (b / 2 ^ k) with hb | hb <;> rcases Nat.mod_two_eq_zero_or_one ((a&&&b) / 2 ^ k) with hc | hc <;> simp_all
 rw [h]

theorem yT (p q:Int) (hp:I64 p) (hq:I64 q) (a b:Nat) (hab:(p=a∧q=b∧a<4096∧b<4096)∨True) :
  Wp (bu p q FU 0 1) (fun r=>(0≤r∧r<4096)∧(p=a→q=b→a<4096→b<4096→r=((a&&&b:Nat):Int))):=by
 refine pT (fun n (s:Int×Int)=>bu p q n s.1 s.2)
  (fun s=>∃ (v k:Nat),s=((v:Int),((2 ^ k:Nat):Int))∧k≤12∧v<2 ^ k∧(p=a→q=b→v=(a&&&b) % 2 ^ k)) (fun s=>4096 - s.2.toNat) _ ?_ FU (0,1) ⟨0,0,rfl,by omega,by simp,fun _ _=>by simp [Nat.mod_one]⟩ (by rw [FU_eq];omega)
 rintro n _ ⟨v,k,rfl,hk,hv,hm⟩ ih
 show Wp (bu p q (n+1) (v:Int) ((2 ^ k:Nat):Int)) _
 rw [bu]
 by_cases h:k=12
 ·subst h
  rw [ah (by decide)]
  refine df.2 ⟨⟨by omega,by omega⟩,fun h1 h2 h3 h4=>?_⟩
  have h5:a&&&b≤a:=Nat.and_le_left
  rw [hm h1 h2,Nat.mod_eq_of_lt (by omega:(a&&&b)<2 ^ 12)]
 ·have hpl:=mJ (k:=k) (by omega)
  have hp0:0<(2 ^ k:Nat):=Nat.pos_of_ne_zero (by simp)
  have ps:(2 ^ (k+1):Nat)=2 ^ k*2:=Nat.pow_succ ..
  have t1:=nt (p:=((2 ^ k:Nat):Int)) hp (by omega)
  have t2:=nt (p:=((2 ^ k:Nat):Int)) hq (by omega)
  have step:∀ (w:Nat),(w=v+2 ^ k∧(p=a→q=b→a / 2 ^ k % 2=1∧b / 2 ^ k % 2=1))∨(w=v∧(p=a→q=b→¬ (a / 2 ^ k % 2=1∧b / 2 ^ k % 2=1))) →
    Wp (bu p q n (w:Int) ((2 ^ (k+1):Nat):Int)) (fun r=>(0≤r∧r<4096)∧(p=a→q=b→a<4096→b<4096→r=((a&&&b:Nat):Int))):=by
   intro w hw
   refine ih ((w:Int),((2 ^ (k+1):Nat):Int)) ⟨w,k+1,rfl,by omega,by omega,fun h1 h2=>?_⟩ (by simp only [Int.toNat_natCast];omega)
   rw [mg k (hm h1 h2)]
   rcases hw with ⟨rfl,h3⟩ | ⟨rfl,h3⟩
   ·rw [if_pos (h3 h1 h2)];omega
   ·rw [if_neg (h3 h1 h2)];omega
  rw [ai (by omega),al ⟨by omega,w64 t1.1 t1.2⟩,al (by omega),al ⟨by omega,w64 t2.1 t2.2⟩,
   w64 (a:=((2 ^ k:Nat):Int)*2) (by omega) (by omega),w64 (a:=(v:Int)+((2 ^ k:Nat):Int)) (by omega) (by omega),
   show ((2 ^ k:Nat):Int)*2=((2 ^ (k+1):Nat):Int) by omega,show (v:Int)+((2 ^ k:Nat):Int)=((v+2 ^ k:Nat):Int) by omega]
  have f1:p=a→(Int.tmod (Int.tdiv p ((2 ^ k:Nat):Int)) 2=1↔a / 2 ^ k % 2=1):=by
   rintro rfl;rw [nT,show (2:Int)=((2:Nat):Int) from rfl,nG];omega
  have f2:q=b→(Int.tmod (Int.tdiv q ((2 ^ k:Nat):Int)) 2=1↔b / 2 ^ k % 2=1):=by
   rintro rfl;rw [nT,show (2:Int)=((2:Nat):Int) from rfl,nG];omega
  by_cases c1:Int.tmod (Int.tdiv p ((2 ^ k:Nat):Int)) 2=1
  ·rw [ai c1]
   by_cases c2:Int.tmod (Int.tdiv q ((2 ^ k:Nat):Int)) 2=1
   ·rw [ai c2]
    exact step _ (.inl ⟨rfl,fun h1 h2=>⟨(f1 h1).1 c1,(f2 h2).1 c2⟩⟩)
   ·rw [ah c2]
    exact step _ (.inr ⟨rfl,fun h1 h2 h=>c2 ((f2 h2).2 h.2)⟩)
  ·rw [ah c1]
   exact step _ (.inr ⟨rfl,fun h1 h2 h=>c1 ((f1 h1).2 h.1)⟩)

theorem kT {a b:Nat} (ha:a<4096) (hb:b<4096):dT (a:Int) (b:Int)=some ((a&&&b:Nat):Int):=by
 obtain ⟨r,e,_,h⟩:=yT a b ⟨by omega,by omega⟩ ⟨by omega,by omega⟩ a b (.inr trivial)
 rw [dT,e,ae,h rfl rfl ha hb]

theorem nY {a b:Nat} (ha:a<4096) (hb:b<4096):a|||b<4096:=Nat.or_lt_two_pow (n:=12) ha hb

theorem fh {a b:Nat} (ha:a<4096) (hb:b<4096):cq (a:Int) (b:Int)=some ((aJ a b:Nat):Int):=by
 have hx:a&&&b≤a:=Nat.and_le_left
 rw [cq,kT ha hb,ae,w64 (by omega) (by omega),aJ]
 congr 1;omega

theorem qM {a b:Nat} (ha:a<4096) (hb:b<4096):dI (a:Int) (b:Int)=some ((a|||b:Nat):Int):=by
 have hx:=nC a b
 have hy:a&&&b≤a:=Nat.and_le_left
 rw [dI,kT ha hb,ae]
 rw [w64 (a:=(a:Int)+(b:Int)) (by omega) (by omega),w64 (by omega) (by omega)]
 congr 1;omega

def V12 (l:List (ByteArray×Int)):Prop:=∀ d∈l,0≤d.2∧d.2<4096

def aK (l:List (ByteArray×Int)):Nat:=l.foldl (fun m d=>m|||d.2.toNat) 0

theorem bC.v12 {l:List (ByteArray×Int)} {b:Int} (h:bC l b):V12 l:=fun d hd=>by
 have:=(h.1.out.1 d hd).2;omega

theorem bC.len {l:List (ByteArray×Int)} {b:Int} (h:bC l b):l.length≤12:=h.1.2

theorem mask_fold_lt:∀ (l:List (ByteArray×Int)) (m:Nat),V12 l→m<4096→l.foldl (fun m d=>m|||d.2.toNat) m<4096
 | [],m,_,h=>h
 | d::l,m,hv,h=>by
  have hd:=hv d (by simp)
  exact mask_fold_lt l (m|||d.2.toNat) (fun x hx=>hv x (by simp [hx])) (nY h (by omega))

theorem eb {l:List (ByteArray×Int)} (hv:V12 l):aK l<4096:=mask_fold_lt l 0 hv (by omega)

theorem lh (i:Nat):∀ (l:List (ByteArray×Int)) (m:Nat),(l.foldl (fun m d=>m|||d.2.toNat) m).testBit i=(m.testBit i || l.any fun d=>d.2.toNat.testBit i)
 | [],m=>by simp
 | d::l,m=>by rw [List.foldl_cons,lh i l,Nat.testBit_or,List.any_cons,Bool.or_assoc]

theorem hY (l:List (ByteArray×Int)) (i:Nat):(aK l).testBit i=l.any fun d=>d.2.toNat.testBit i:=by
 rw [aK,lh];simp

theorem nmask_nil:aK []=0:=rfl

theorem nV (d:ByteArray×Int) (l:List (ByteArray×Int)):aK (d::l)=d.2.toNat|||aK l:=by
 apply Nat.eq_of_testBit_eq;intro i
 rw [Nat.testBit_or,hY,hY,List.any_cons]

theorem uG (l:List (ByteArray×Int)):∀ m:Nat,l.foldl (fun (s:Int) d=>((s.toNat|||d.2.toNat:Nat):Int)) (m:Int)=((l.foldl (fun m d=>m|||d.2.toNat) m:Nat):Int):=by
 induction l with
 | nil=>intro m;rfl
 | cons d l ih=>intro m;rw [List.foldl_cons,List.foldl_cons,Int.toNat_natCast,ih]

theorem iH {l:List (ByteArray×Int)} (hv:V12 l) (hl:l.length≤1099511627776):cQ l=some ((aK l:Nat):Int):=by
 have h:=(qb l (dQ l) (fun (s:Int) d=>((s.toNat|||d.2.toNat:Nat):Int)) (fun _ s=>0≤s∧s<4096) ?_ ?_ FU (by rw [FU_eq];omega) 0 (by omega)).1
 ·rw [cQ,h,ae,aK,show (0:Int)=((0:Nat):Int) from rfl,uG]
 ·intro n s;rw [dQ,ah (by omega)]
 ·intro n i s hi hm hI
  have hd:=hv _ hm
  obtain ⟨a,rfl⟩:=Int.eq_ofNat_of_zero_le hI.1
  obtain ⟨v,hv2⟩:=Int.eq_ofNat_of_zero_le hd.1
  have h1:=nY (a:=a) (b:=v) (by omega) (by omega)
  rw [dQ,ai (by omega),al (by omega),hv2,qM (by omega) (by omega),ae,bY (by omega)]
  refine ⟨?_,rfl⟩
  simp only [Int.toNat_natCast];omega

theorem jP {l:List (ByteArray×Int)} (b:Int) (hv:V12 l) (hl:l.length≤1099511627776):cr l b=some ((aK l:Nat):Int):=by
 have h:=(qb l (cA l) (fun (s:Int) d=>((s.toNat|||d.2.toNat:Nat):Int)) (fun _ s=>0≤s∧s<4096) ?_ ?_ FU (by rw [FU_eq];omega) 0 (by omega)).1
 ·rw [cr,h,ae,aK,show (0:Int)=((0:Nat):Int) from rfl,uG]
 ·intro n s;rw [cA,ah (by omega)]
 ·intro n i s hi hm hI
  have hd:=hv _ hm
  obtain ⟨a,rfl⟩:=Int.eq_ofNat_of_zero_le hI.1
  obtain ⟨v,hv2⟩:=Int.eq_ofNat_of_zero_le hd.1
  have h1:=nY (a:=a) (b:=v) (by omega) (by omega)
  rw [cA,ai (by omega),al (by omega),hv2,zF (by omega) (by omega),bY (by omega)]
  refine ⟨?_,rfl⟩
  simp only [Int.toNat_natCast];omega

def pop (n:Nat):Nat:=(List.range 12).countP (fun i=>n.testBit i)

theorem zJ {v:Nat} (h:v<4096):pop v=v % 2+pop (v / 2):=by
 have e1:∀ i,(v / 2).testBit i=v.testBit (i+1):=fun i=>by rw [Nat.testBit_succ]
 have e2:v.testBit 12=false:=Nat.testBit_lt_two_pow h
 have e3:v.testBit 0=decide (v % 2=1):=Nat.testBit_zero v
 unfold pop
 simp only [e1,List.range_succ,List.range_zero,List.nil_append,List.countP_append,List.countP_cons,List.countP_nil,e2,e3,Nat.zero_add]
 rcases Nat.mod_two_eq_zero_or_one v with h2 | h2 <;> simp [h2] <;> omega

theorem pop_zero:pop 0=0:=by decide

def chk (f:Nat→Bool):Nat→Bool
 | 0=>true
 | n+1=>f n && chk f n

theorem qe {f:Nat→Bool}:∀ {n:Nat},chk f n=true→∀ i,i<n→f i=true
 | 0,_,i,hi=>by omega
 | n+1,h,i,hi=>by
  rw [chk,Bool.and_eq_true] at h
  by_cases e:i=n
  ·subst e;exact h.1
  ·exact qe h.2 i (by omega)

theorem pE {a b:Nat} (ha:a<18446744073709551616) (hb:b<18446744073709551616):Go.bits .and .u64 (a:Int) (b:Int)=((a&&&b:Nat):Int):=by
 have hx:a&&&b≤a:=Nat.and_le_left
 have bv:∀ c:Nat,c<18446744073709551616→(BitVec.ofInt 64 (c:Int)).toNat=c:=fun c hc=>by
  rw [BitVec.ofInt_natCast,BitVec.toNat_ofNat];exact Nat.mod_eq_of_lt (by omega)
 show IntKind.u64.wrap ((BitVec.ofInt 64 (a:Int)&&&BitVec.ofInt 64 (b:Int)).toNat:Int)=_
 rw [BitVec.toNat_and,bv a ha,bv b hb,IntKind.wrap_u64];omega

theorem pN {a:Int} (h1:0≤a) (h2:a≤18446744073709551615):IntKind.wrap .u64 a=a:=by
 rw [IntKind.wrap_u64];omega

def A0 (n:Nat):Nat :=
 let v3:=((n / 2)&&&6148914691236517205)+(n&&&6148914691236517205)
 let v5:=((v3 / 4)&&&3689348814741910323)+(v3&&&3689348814741910323)
 let v6:=(v5 / 16+v5)&&&1085102592571150095
 let v8:=v6+v6 / 256+(v6+v6 / 256) / 65536
 (v8+v8 / 4294967296)&&&127

def popr:Nat→Nat→Nat
 | 0,_=>0
 | k+1,n=>n % 2+popr k (n / 2)

theorem pop_popr:∀ (k n:Nat),k≤12→n<2 ^ k→pop n=popr k n
 | 0,n,_,h=>by
  have:n=0:=by omega
  subst this;exact pop_zero
 | k+1,n,hk,h=>by
  have h2:(2 ^ (k+1):Nat)≤4096:=Nat.pow_le_pow_right (n:=2) (by omega) hk
  rw [zJ (by omega),popr,pop_popr k (n / 2) (by omega) (by rw [Nat.pow_succ] at h;omega)]

set_option maxRecDepth 100000 in
theorem swar_chk:chk (fun n=>Nat.beq (A0 n) (popr 12 n)) 4096=true:=by decide +kernel

theorem ui {n:Nat} (h:n<4096):dR (n:Int)=some ((pop n:Nat):Int):=by
 have hs:=Nat.eq_of_beq_eq_true (qe swar_chk n h)
 rw [pop_popr 12 n (by omega) h,← hs,dR,eo]
 have d:∀ (a k:Nat),(a:Int) / 2 ^ (((k:Nat):Int)).toNat=((a / 2 ^ k:Nat):Int):=fun a k=>by rw [Int.toNat_natCast];simp
 have hg:∀ k:Nat,k≤64→(0:Int)≤((k:Nat):Int)∧((k:Nat):Int)≤(IntKind.bits .u64:Int):=fun k hk=>⟨by omega,by simp [IntKind.bits];omega⟩
 have d1:∀ a:Nat,(a:Int) / 2 ^ (1:Int).toNat=((a / 2:Nat):Int):=fun a=>d a 1
 have h1:0≤(1:Int)∧(1:Int)≤(IntKind.bits .u64:Int):=hg 1 (by omega)
 have d2:∀ a:Nat,(a:Int) / 2 ^ (2:Int).toNat=((a / 4:Nat):Int):=fun a=>d a 2
 have h2:0≤(2:Int)∧(2:Int)≤(IntKind.bits .u64:Int):=hg 2 (by omega)
 have d4:∀ a:Nat,(a:Int) / 2 ^ (4:Int).toNat=((a / 16:Nat):Int):=fun a=>d a 4
 have h4:0≤(4:Int)∧(4:Int)≤(IntKind.bits .u64:Int):=hg 4 (by omega)
 have d8:∀ a:Nat,(a:Int) / 2 ^ (8:Int).toNat=((a / 256:Nat):Int):=fun a=>d a 8
 have h8:0≤(8:Int)∧(8:Int)≤(IntKind.bits .u64:Int):=hg 8 (by omega)
 have d16:∀ a:Nat,(a:Int) / 2 ^ (16:Int).toNat=((a / 65536:Nat):Int):=fun a=>d a 16
 have h16:0≤(16:Int)∧(16:Int)≤(IntKind.bits .u64:Int):=hg 16 (by omega)
 have d32:∀ a:Nat,(a:Int) / 2 ^ (32:Int).toNat=((a / 4294967296:Nat):Int):=fun a=>d a 32
 have h32:0≤(32:Int)∧(32:Int)≤(IntKind.bits .u64:Int):=hg 32 (by omega)
 have c1:(6148914691236517205:Int)=((6148914691236517205:Nat):Int):=rfl
 have c2:(3689348814741910323:Int)=((3689348814741910323:Nat):Int):=rfl
 have c3:(1085102592571150095:Int)=((1085102592571150095:Nat):Int):=rfl
 have e3:IntKind.wrap .u64 (Go.bits .and .u64 ((n:Int) / 2 ^ (1:Int).toNat) 6148914691236517205+Go.bits .and .u64 (n:Int) 6148914691236517205)=((((n / 2)&&&6148914691236517205)+(n&&&6148914691236517205):Nat):Int)∧((n / 2)&&&6148914691236517205)+(n&&&6148914691236517205)<8192:=by
  have b1:(n / 2)&&&6148914691236517205≤n / 2:=Nat.and_le_left
  have b2:n&&&6148914691236517205≤n:=Nat.and_le_left
  rw [d1,c1,pE (by omega) (by omega),pE (by omega) (by omega),pN (by omega) (by omega)]
  exact ⟨by simp,by omega⟩
 unfold A0
 simp only [cj,al h1,al h2,al h4,al h8,al h16,al h32,ae]
 rw [e3.1]
 obtain ⟨-,hv3⟩:=e3
 generalize ((n / 2)&&&6148914691236517205)+(n&&&6148914691236517205)=v3 at *
 have e5:IntKind.wrap .u64 (Go.bits .and .u64 ((v3:Int) / 2 ^ (2:Int).toNat) 3689348814741910323+Go.bits .and .u64 (v3:Int) 3689348814741910323)=((((v3 / 4)&&&3689348814741910323)+(v3&&&3689348814741910323):Nat):Int)∧((v3 / 4)&&&3689348814741910323)+(v3&&&3689348814741910323)<16384:=by
  have b1:(v3 / 4)&&&3689348814741910323≤v3 / 4:=Nat.and_le_left
  have b2:v3&&&3689348814741910323≤v3:=Nat.and_le_left
  rw [d2,c2,pE (by omega) (by omega),pE (by omega) (by omega),pN (by omega) (by omega)]
  exact ⟨by simp,by omega⟩
 rw [e5.1]
 obtain ⟨-,hv5⟩:=e5
 generalize ((v3 / 4)&&&3689348814741910323)+(v3&&&3689348814741910323)=v5 at *
 have e6:Go.bits .and .u64 (IntKind.wrap .u64 ((v5:Int) / 2 ^ (4:Int).toNat+(v5:Int))) 1085102592571150095=(((v5 / 16+v5)&&&1085102592571150095:Nat):Int)∧(v5 / 16+v5)&&&1085102592571150095<32768:=by
  have b1:(v5 / 16+v5)&&&1085102592571150095≤v5 / 16+v5:=Nat.and_le_left
  rw [d4,pN (by omega) (by omega),c3,show ((v5 / 16:Nat):Int)+(v5:Int)=((v5 / 16+v5:Nat):Int) by simp,pE (by omega) (by omega)]
  exact ⟨rfl,by omega⟩
 rw [e6.1]
 obtain ⟨-,hv6⟩:=e6
 generalize (v5 / 16+v5)&&&1085102592571150095=v6 at *
 have e7:IntKind.wrap .u64 ((v6:Int)+(v6:Int) / 2 ^ (8:Int).toNat)=((v6+v6 / 256:Nat):Int):=by
  rw [d8,pN (by omega) (by omega)];simp
 rw [e7]
 have e8:IntKind.wrap .u64 (((v6+v6 / 256:Nat):Int)+((v6+v6 / 256:Nat):Int) / 2 ^ (16:Int).toNat)=((v6+v6 / 256+(v6+v6 / 256) / 65536:Nat):Int):=by
  rw [d16,pN (by omega) (by omega)];simp
 rw [e8]
 have hv8:v6+v6 / 256+(v6+v6 / 256) / 65536<65536:=by omega
 generalize v6+v6 / 256+(v6+v6 / 256) / 65536=v8 at *
 rw [d32,pN (by omega) (by omega),w64 (by omega) (by omega),show (v8:Int)+((v8 / 4294967296:Nat):Int)=((v8+v8 / 4294967296:Nat):Int) by simp,show (127:Int)=((127:Nat):Int) from rfl,vu (by omega) (by omega)]

theorem hF {a b:Nat}:aJ a b=0↔∀ i,a.testBit i=true→b.testBit i=true:=by
 constructor
 ·intro h i hi
  have:=dr a b i
  rw [h,Nat.zero_testBit,hi] at this
  simpa using this
 ·intro h
  apply Nat.eq_of_testBit_eq;intro i
  rw [dr,Nat.zero_testBit]
  cases hi:a.testBit i
  ·rfl
  ·rw [h i hi];rfl

theorem tH {a b:Nat}:aJ a b=0↔a&&&b=a:=by
 have:a&&&b≤a:=Nat.and_le_left
 unfold aJ;omega

theorem qE {a b:Nat} (h:aJ a b=0):a≤b:=by
 have h1:=tH.1 h
 have h2:a&&&b≤b:=Nat.and_le_right
 omega

theorem zR (a b m:Nat):aJ (a|||b) m=aJ a m|||aJ b m:=by
 apply Nat.eq_of_testBit_eq;intro i
 simp only [dr,Nat.testBit_or]
 cases a.testBit i <;> cases b.testBit i <;> cases m.testBit i <;> rfl

theorem xq {a:Int} (ha:I64 a):(BitVec.ofInt 64 a).toNat=(a % 18446744073709551616).toNat:=by
 rw [BitVec.toNat_ofInt];rfl

theorem lU {a:Int} {m:Nat} (ha:I64 a) (hm:m<4096):Go.bits .andNot .i64 a (m:Int)=0↔0≤a∧aJ a.toNat m=0:=by
 by_cases h0:0≤a
 ·obtain ⟨n,rfl⟩:=Int.eq_ofNat_of_zero_le h0
  have:=ha.2
  rw [iN (by omega) (by omega),Int.toNat_natCast]
  omega
 ·constructor
  ·intro h
   exfalso
   have e:Go.bits .andNot .i64 a (m:Int)=IntKind.wrap .i64 (((BitVec.ofInt 64 a&&&~~~ BitVec.ofInt 64 (m:Int)).toNat:Nat):Int):=rfl
   rw [e,IntKind.wrap_i64] at h
   have hlt:=(BitVec.ofInt 64 a&&&~~~ BitVec.ofInt 64 (m:Int)).isLt
   have hz:(BitVec.ofInt 64 a&&&~~~ BitVec.ofInt 64 (m:Int)).toNat=0:=by omega
   have hb:=congrArg (fun n=>n.testBit 63) hz
   simp only [BitVec.testBit_toNat,BitVec.getLsbD_and,BitVec.getLsbD_not,Nat.zero_testBit] at hb
   have hM:(BitVec.ofInt 64 (m:Int)).getLsbD 63=false:=by
    rw [← BitVec.testBit_toNat,ru m (by omega)]
    exact Nat.testBit_lt_two_pow (Nat.lt_of_lt_of_le (by omega:m<2 ^ 12) (Nat.pow_le_pow_right (by omega) (by omega)))
   have hA:(BitVec.ofInt 64 a).getLsbD 63=true:=by
    rw [← BitVec.testBit_toNat,xq ha,Nat.testBit_eq_decide_div_mod_eq]
    have:=ha.1
    have h1:(a % 18446744073709551616).toNat / 2 ^ 63=1:=by omega
    rw [h1];rfl
   rw [hM,hA] at hb
   simp at hb
  ·intro h;exact absurd h.1 h0

def aM (f:List (ByteArray×Int)) (b n:Int):Prop:=bC f b∧(0≤n∧n≤4095)∧(b=3∨aJ n.toNat (aK f)=0)

instance (f:List (ByteArray×Int)) (b n:Int):Decidable (aM f b n):=inferInstanceAs (Decidable (_∧_))

theorem dF {f:List (ByteArray×Int)} (h:cp f) (b n:Int):bN f b n=some (decide (aM f b n)):=by
 rw [bN,ja h,ae]
 by_cases hf:bC f b
 ·rw [decide_eq_true hf,cond_true,kv,ae]
  by_cases hn:0≤n∧n≤4095
  ·rw [decide_eq_true hn,cond_true]
   by_cases hb:b=3
   ·rw [ai hb,decide_eq_true (show aM f b n from ⟨hf,hn,.inl hb⟩)]
   ·rw [ah hb,jP b hf.v12 h.1,ae]
    have h2:=lU (a:=n) (m:=aK f) ⟨by omega,by omega⟩ (eb hf.v12)
    congr 1
    refine decide_eq_decide.2 (h2.trans ⟨fun h=>⟨hf,hn,.inr h.2⟩,fun h=>⟨hn.1,?_⟩⟩)
    rcases h.2.2 with h | h
    ·exact absurd h hb
    ·exact h
  ·rw [decide_eq_false hn,cond_false,decide_eq_false (fun h=>hn h.2.1)]
 ·rw [decide_eq_false hf,cond_false,decide_eq_false (fun h=>hf h.1)]

theorem jV {f:List (ByteArray×Int)} (h:cp f) (b n:Int):eF f b n=some (decide (aM f b n)):=by
 rw [eF,nn h,ae]
 by_cases hf:bC f b
 ·rw [decide_eq_true hf,cond_true,fS,ae]
  by_cases hn:0≤n∧n≤4095
  ·rw [decide_eq_true hn,cond_true]
   by_cases hb:b=3
   ·rw [ai hb,decide_eq_true (show aM f b n from ⟨hf,hn,.inl hb⟩)]
   ·have hm:=eb hf.v12
    rw [ah hb,iH hf.v12 h.1,ae]
    have hn':n=((n.toNat:Nat):Int):=by omega
    rw [hn',fh (by omega) hm,ae,← hn']
    congr 1
    refine decide_eq_decide.2 ⟨fun h=>⟨hf,hn,.inr (by omega)⟩,fun h=>?_⟩
    rcases h.2.2 with h | h
    ·exact absurd h hb
    ·omega
  ·rw [decide_eq_false hn,cond_false,decide_eq_false (fun h=>hn h.2.1)]
 ·rw [decide_eq_false hf,cond_false,decide_eq_false (fun h=>hf h.1)]

def AY (l:List (Int×Int)):Prop:=l.length≤1099511627776∧∀ d∈l,I64 d.1∧I64 d.2

def parts (m:Nat):List Int:=((List.range (m+1)).filter (fun n=>decide (aJ n m=0))).map Int.ofNat

def Al (l:List Int):Prop:=∀ n∈l,0≤n∧n<256

theorem lq {a b:Int} (ha:0≤a) (hb:0<b):0≤Int.tmod a b∧Int.tmod a b<b:=by
 rw [Int.tmod_eq_emod_of_nonneg ha]
 exact ⟨Int.emod_nonneg _ (by omega),Int.emod_lt_of_pos _ hb⟩

theorem rW {a b:Int} (ha:0≤a) (hb:0<b):0≤Int.tdiv a b∧Int.tdiv a b≤a:=by
 rw [Int.tdiv_eq_ediv_of_nonneg ha]
 exact ⟨Int.ediv_nonneg ha (by omega),Int.ediv_le_self _ ha⟩

theorem pick {n:Int} {code:List Int} {p:Int} (hc:Al code) (hl:code.length≤9223372036854775807) (hp:0≤p∧p<1000000) :
  ∃ x,iM n code p=some x∧0≤x∧(1≤n→x<n):=by
 unfold iM
 by_cases h1:n<1
 ·exact ⟨0,by rw [decide_eq_true h1,cond_true],by omega,fun h=>by omega⟩
 rw [decide_eq_false h1,cond_false]
 by_cases h2:(code.length:Int)=0
 ·exact ⟨0,by rw [decide_eq_true h2,cond_true],by omega,fun h=>by omega⟩
 rw [decide_eq_false h2,cond_false]
 have e1:IntKind.wrap .i64 (IntKind.wrap .i64 (p+1) - 1)=p:=by
  rw [w64 (a:=p+1) (by omega) (by omega),w64 (by omega) (by omega)];omega
 have hL:0<(code.length:Int):=by omega
 simp only [e1,cj]
 by_cases h3:p<(code.length:Int)
 ·have hb:=hc _ (fD ⟨hp.1,h3⟩)
  rw [decide_eq_true h3,cond_true,al ⟨hp.1,h3⟩,al (by omega),w64 (by omega) (by omega)]
  have:=lq (a:=gt code p) (b:=n) hb.1 (by omega)
  exact ⟨_,rfl,this.1,fun _=>this.2⟩
 rw [decide_eq_false h3,cond_false,al (by omega)]
 have t1:=lq hp.1 hL
 rw [al t1,w64 (a:=p*7) (by omega) (by omega),w64 (a:=p*7+3) (by omega) (by omega)]
 have t2:=lq (a:=p*7+3) (by omega) hL
 rw [al t2]
 have b1:=hc _ (fD t1)
 have b2:=hc _ (fD t2)
 generalize gt code (Int.tmod p (code.length:Int))=u at *
 generalize gt code (Int.tmod (p*7+3) (code.length:Int))=v at *
 have t3:=rW hp.1 hL
 generalize Int.tdiv p (code.length:Int)=q at *
 rw [al ⟨by omega,w64 (by omega) (by omega)⟩]
 rw [w64 (a:=u) (by omega) (by omega),w64 (a:=u*131) (by omega) (by omega),w64 (a:=v) (by omega) (by omega),w64 (a:=v*1117) (by omega) (by omega),w64 (a:=u*131+v*1117) (by omega) (by omega),
  w64 (a:=p*29) (by omega) (by omega),w64 (a:=u*131+v*1117+p*29) (by omega) (by omega),w64 (a:=q*53) (by omega) (by omega),w64 (a:=u*131+v*1117+p*29+q*53) (by omega) (by omega)]
 have hz:0≤u*131+v*1117+p*29+q*53∧u*131+v*1117+p*29+q*53<1000000000:=by omega
 generalize u*131+v*1117+p*29+q*53=z at *
 have t4:=rW (a:=z) (b:=64) hz.1 (by omega)
 rw [al ⟨by omega,w64 (by omega) (by omega)⟩,al (by omega)]
 have hx:∃ y:Nat,Go.bits .xor .i64 z (Int.tdiv z 64)=(y:Int):=by
  obtain ⟨a,ha⟩:=Int.eq_ofNat_of_zero_le hz.1
  obtain ⟨b,hb⟩:=Int.eq_ofNat_of_zero_le t4.1
  refine ⟨a ^^^ b,?_⟩
  rw [hb,ha]
  exact A2 (by omega) (by omega)
 obtain ⟨y,hy⟩:=hx
 rw [hy]
 have:=lq (a:=(y:Int)) (b:=n) (by omega) (by omega)
 exact ⟨_,rfl,this.1,fun _=>this.2⟩

theorem one {code:List Int} {p:Int} (hc:Al code) (hl:code.length≤9223372036854775807) (hp:0≤p∧p<1000000) {xs:List Int} (hx:xs≠[]):∃ x,lc xs code p=some x∧x∈xs:=by
 have h1:1≤(xs.length:Int):=by
  have:=List.length_pos_iff.2 hx
  omega
 obtain ⟨x,e,h0,h2⟩:=pick (n:=(xs.length:Int)) hc hl hp
 refine ⟨gt xs x,?_,fD ⟨h0,h2 h1⟩⟩
 rw [lc,e,ae,al ⟨h0,h2 h1⟩]

def wx (l:List (ByteArray×Int)):Prop:=l.length≤26∧∀ d∈l,d.1.size≤7 ∧ -5000≤d.2∧d.2≤5000

theorem sN (l:List (ByteArray×Int)) (hl:l.length≤1000000):∀ (j n:Nat) (acc:List (ByteArray×Int)),j≤12→j<n→acc.length+j≤12→(∀ d∈acc,d∈l) →
  ∃ r,bt l n acc ((2 ^ (12 - j):Nat):Int)=some r∧r.length≤12∧∀ d∈r,d∈l
 | 0,n,acc,hj,hn,ha,hm=>by
  cases n with
  | zero=>omega
  | succ n=>exact ⟨acc,by rw [bt,decide_eq_false (by decide),cond_false],by omega,hm⟩
 | j+1,n,acc,hj,hn,ha,hm=>by
  cases n with
  | zero=>omega
  | succ n =>
   generalize hk:12 - (j+1)=k at *
   have hk1:12 - j=k+1:=by omega
   have hp:(2 ^ k:Nat)≤2048:=by
    have:k≤11:=by omega
    calc 2 ^ k≤2 ^ 11:=Nat.pow_le_pow_right (by omega) this
     _=2048:=rfl
   have ps:(2 ^ (k+1):Nat)=2 ^ k*2:=Nat.pow_succ ..
   have ih:=sN l hl j n
   rw [hk1,ps] at ih
   obtain ⟨x,ex,lx,ux⟩:∃ x,eJ l ((2 ^ k:Nat):Int)=some x ∧ -1≤x∧x<(l.length:Int):=⟨_,lP l _ (by omega),rD _ _⟩
   generalize hp':2 ^ k=p at *
   rw [bt,decide_eq_true (by omega),cond_true,ex,ae,w64 (by omega) (by omega),show (p:Int)*2=((p*2:Nat):Int) by omega]
   by_cases h:0≤x
   ·rw [decide_eq_true h,cond_true,al ⟨h,ux⟩,al (by rw [List.length_singleton];omega)]
    refine ih _ (by omega) (by omega) (by rw [List.length_append,List.length_singleton];omega) fun d hd=>?_
    rcases List.mem_append.1 hd with hd | hd
    ·exact hm d hd
    ·simp at hd;subst hd;exact fD ⟨h,ux⟩
   ·rw [decide_eq_false h,cond_false]
    exact ih _ (by omega) (by omega) (by omega) hm

theorem Bd (l:List (ByteArray×Int)) (hl:l.length≤1000000):∃ r,eP l=some r∧r.length≤12∧∀ d∈r,d∈l:=by
 obtain ⟨r,er,h1,h2⟩:=sN l hl 12 FU [] (by omega) (by decide) (by simp) (by intro d hd;cases hd)
 refine ⟨r,?_,h1,h2⟩
 have er':bt l FU [] 1=some r:=er
 rw [eP,er',ae]

def A4 (d:Int×Int):Prop:=(-60000≤d.1∧d.1≤60000) ∧ -60000≤d.2∧d.2≤60000

def vN (l:List (Int×Int)):Prop:=∀ d∈l,A4 d

theorem wx.inn {l:List (ByteArray×Int)} (h:wx l):cp l :=
 ⟨by have:=h.1;omega,fun d hd=>by have:=(h.2 d hd).1;omega,fun d hd=>by have:=(h.2 d hd).2;exact ⟨by omega,by omega⟩⟩

theorem vN.inn {l:List (Int×Int)} (h:vN l) (hl:l.length≤1000):AY l :=
 ⟨by omega,fun d hd=>⟨⟨by have:=(h d hd).1;omega,by have:=(h d hd).1;omega⟩,⟨by have:=(h d hd).2;omega,by have:=(h d hd).2;omega⟩⟩⟩

theorem sT {f:List (ByteArray×Int)} (h:cp f) (b a c:Int):dy f b a c=some (if aM f b a∧aM f b c then ((aJ a.toNat c.toNat:Nat):Int) else -1):=by
 rw [dy,ea,dF h,ae]
 by_cases ha:aM f b a
 ·rw [decide_eq_true ha,Bool.not_true,cond_false,dF h,ae]
  by_cases hc:aM f b c
  ·have h1:=ha.2.1
   have h2:=hc.2.1
   rw [decide_eq_true hc,Bool.not_true,cond_false,gk,ae,ae,if_pos ⟨ha,hc⟩,← iN (by omega) (by omega)]
   congr 2 <;> omega
  ·rw [decide_eq_false hc,Bool.not_false,cond_true,ae,if_neg (fun h=>hc h.2)]
 ·rw [decide_eq_false ha,Bool.not_false,cond_true,ae,if_neg (fun h=>ha h.1)]

def aT (n:Nat):Nat:=if n=0 then 0 else Nat.log2 n+1

theorem jo (n:Nat):n<2 ^ aT n:=by
 unfold aT
 split
 ·omega
 ·exact Nat.lt_log2_self

theorem kL {n:Nat} (h:n≠0):2 ^ (aT n - 1)≤n:=by
 unfold aT
 rw [if_neg h]
 exact Nat.log2_self_le h

theorem xv {n b:Nat} (h1:n<2 ^ b) (h2:b=0∨2 ^ (b - 1)≤n):aT n=b:=by
 by_cases h:n=0
 ·subst h
  rcases h2 with rfl | h2
  ·rfl
  ·have:=Nat.pos_of_ne_zero (show (2:Nat) ^ (b - 1)≠0 by simp)
   omega
 ·have g1:=jo n
  have g2:=kL h
  have hb:b≠0:=by rintro rfl;simp at h1;omega
  have hc:aT n≠0:=by intro e;rw [e] at g1;simp at g1;omega
  rcases h2 with h2 | h2
  ·omega
  ·have a1:b - 1<aT n:=by
    by_cases hh:b - 1<aT n
    ·exact hh
    ·have:(2:Nat) ^ aT n≤2 ^ (b - 1):=Nat.pow_le_pow_right (by omega) (by omega)
     omega
   have a2:aT n - 1<b:=by
    by_cases hh:aT n - 1<b
    ·exact hh
    ·have:(2:Nat) ^ b≤2 ^ (aT n - 1):=Nat.pow_le_pow_right (by omega) (by omega)
     omega
   omega

theorem nE (n k:Nat) (h:2 ^ k≤n):aT n=k+aT (n / 2 ^ k):=by
 have hp:0<(2:Nat) ^ k:=Nat.pos_of_ne_zero (by simp)
 have h0:n / 2 ^ k≠0:=by
  have:=Nat.div_pos h hp
  omega
 have g1:=jo (n / 2 ^ k)
 have g2:=kL h0
 refine xv ?_ (.inr ?_)
 ·rw [Nat.pow_add,Nat.mul_comm]
  exact (Nat.div_lt_iff_lt_mul hp).1 g1
 ·have hb:aT (n / 2 ^ k)≠0:=by intro e;rw [e] at g1;simp at g1;omega
  have:k+aT (n / 2 ^ k) - 1=(aT (n / 2 ^ k) - 1)+k:=by omega
  rw [this,Nat.pow_add]
  exact (Nat.le_div_iff_mul_le hp).1 g2

theorem iO {n k:Nat} (h:n<2 ^ k):aT n≤k:=by
 by_cases h0:n=0
 ·subst h0;simp [aT]
 ·have g2:=kL h0
  by_cases hh:aT n≤k
  ·exact hh
  ·have:(2:Nat) ^ k≤2 ^ (aT n - 1):=Nat.pow_le_pow_right (by omega) (by omega)
   omega

theorem len_tab:chk (fun n=>decide (aD lstr_c9535661 n=((aT n:Nat):Int))) 256=true:=by decide +kernel

theorem len_size:lstr_c9535661.size=256:=by decide +kernel

theorem ry {n:Nat} (hn:n<9223372036854775808):dX (n:Int)=some ((aT n:Nat):Int):=by
 have hg:∀ k:Nat,k≤64→(0:Int)≤((k:Nat):Int)∧((k:Nat):Int)≤(IntKind.bits .u64:Int):=fun k hk=>⟨by omega,by simp [IntKind.bits];omega⟩
 have h8:0≤(8:Int)∧(8:Int)≤(IntKind.bits .u64:Int):=hg 8 (by omega)
 have h16:0≤(16:Int)∧(16:Int)≤(IntKind.bits .u64:Int):=hg 16 (by omega)
 have h32:0≤(32:Int)∧(32:Int)≤(IntKind.bits .u64:Int):=hg 32 (by omega)
 have d:∀ (a k:Nat),(a:Int) / 2 ^ (((k:Nat):Int)).toNat=((a / 2 ^ k:Nat):Int):=fun a k=>by rw [Int.toNat_natCast];simp
 have d8:∀ a:Nat,(a:Int) / 2 ^ (8:Int).toNat=((a / 256:Nat):Int):=fun a=>d a 8
 have d16:∀ a:Nat,(a:Int) / 2 ^ (16:Int).toNat=((a / 65536:Nat):Int):=fun a=>d a 16
 have d32:∀ a:Nat,(a:Int) / 2 ^ (32:Int).toNat=((a / 4294967296:Nat):Int):=fun a=>d a 32
 have u8:∀ m:Nat,m<256→IntKind.wrap .u8 (m:Int)=m:=fun m hm=>by rw [IntKind.wrap_u8];omega
 have tb:∀ m:Nat,m<256→aD lstr_c9535661 m=((aT m:Nat):Int):=fun m hm=>by simpa using qe len_tab m hm
 have gs:∀ m:Nat,m<256→(0≤(m:Int)∧(m:Int)<(lstr_c9535661.size:Int)):=fun m hm=>by rw [len_size];omega
 have s8:∀ m,256≤m→aT m=8+aT (m / 256):=fun m h=>nE m 8 h
 have s16:∀ m,65536≤m→aT m=16+aT (m / 65536):=fun m h=>nE m 16 h
 have s32:∀ m,4294967296≤m→aT m=32+aT (m / 4294967296):=fun m h=>nE m 32 h
 have hb8:∀ m,m<256→aT m≤8:=fun m h=>iO h
 rw [dX,gL]
 simp only [cj,al h8,al h16,al h32]
 by_cases c1:4294967296≤n
 ·rw [ai (by omega),d32,s32 n c1]
  have hm:n / 4294967296<2147483648:=by omega
  generalize n / 4294967296=m at *
  by_cases c2:65536≤m
  ·rw [ai (by omega),d16,s16 m c2]
   have hk:m / 65536<32768:=by omega
   generalize m / 65536=k at *
   by_cases c3:256≤k
   ·have hk':k / 256<256:=by omega
    rw [ai (by omega),d8,s8 k c3,u8 _ hk',al (gs _ hk'),Int.toNat_natCast,tb _ hk',ae]
    have:=hb8 _ hk'
    simp only [IntKind.wrap_i64]
    refine congrArg some ?_;omega
   ·have hk':k<256:=by omega
    rw [ah (by omega),u8 _ hk',al (gs _ hk'),Int.toNat_natCast,tb _ hk',ae]
    have:=hb8 _ hk'
    simp only [IntKind.wrap_i64]
    refine congrArg some ?_;omega
  ·rw [ah (by omega)]
   by_cases c3:256≤m
   ·have hk':m / 256<256:=by omega
    rw [ai (by omega),d8,s8 m c3,u8 _ hk',al (gs _ hk'),Int.toNat_natCast,tb _ hk',ae]
    have:=hb8 _ hk'
    simp only [IntKind.wrap_i64]
    refine congrArg some ?_;omega
   ·have hk':m<256:=by omega
    rw [ah (by omega),u8 _ hk',al (gs _ hk'),Int.toNat_natCast,tb _ hk',ae]
    have:=hb8 _ hk'
    simp only [IntKind.wrap_i64]
    refine congrArg some ?_;omega
 ·rw [ah (by omega)]
  by_cases c2:65536≤n
  ·rw [ai (by omega),d16,s16 n c2]
   have hk:n / 65536<65536:=by omega
   generalize n / 65536=k at *
   by_cases c3:256≤k
   ·have hk':k / 256<256:=by omega
    rw [ai (by omega),d8,s8 k c3,u8 _ hk',al (gs _ hk'),Int.toNat_natCast,tb _ hk',ae]
    have:=hb8 _ hk'
    simp only [IntKind.wrap_i64]
    refine congrArg some ?_;omega
   ·have hk':k<256:=by omega
    rw [ah (by omega),u8 _ hk',al (gs _ hk'),Int.toNat_natCast,tb _ hk',ae]
    have:=hb8 _ hk'
    simp only [IntKind.wrap_i64]
    refine congrArg some ?_;omega
  ·rw [ah (by omega)]
   by_cases c3:256≤n
   ·have hk':n / 256<256:=by omega
    rw [ai (by omega),d8,s8 n c3,u8 _ hk',al (gs _ hk'),Int.toNat_natCast,tb _ hk',ae]
    have:=hb8 _ hk'
    simp only [IntKind.wrap_i64]
    refine congrArg some ?_;omega
   ·have hk':n<256:=by omega
    rw [ah (by omega),u8 _ hk',al (gs _ hk'),Int.toNat_natCast,tb _ hk',ae]
    have:=hb8 _ hk'
    simp only [IntKind.wrap_i64]
    refine congrArg some ?_;omega

def greatest:List (ByteArray×Int)→Int→Int
 | [],z=>z
 | d::l,_=>l.foldl (fun m e=>if m<e.2 then e.2 else m) d.2

theorem mv (l:List (ByteArray×Int)):∀ m:Int,(l.foldl (fun m e=>if m<e.2 then e.2 else m) m=m∨∃ d∈l,l.foldl (fun m e=>if m<e.2 then e.2 else m) m=d.2)∧m≤l.foldl (fun m e=>if m<e.2 then e.2 else m) m∧∀ d∈l,d.2≤l.foldl (fun m e=>if m<e.2 then e.2 else m) m:=by
 induction l with
 | nil=>intro m;exact ⟨.inl rfl,Int.le_refl _,by simp⟩
 | cons d l ih =>
  intro m
  rw [List.foldl_cons]
  obtain ⟨h1,h2,h3⟩:=ih (if m<d.2 then d.2 else m)
  have hm:m≤(if m<d.2 then d.2 else m)∧d.2≤(if m<d.2 then d.2 else m):=by split <;> omega
  refine ⟨?_,by omega,fun e he=>?_⟩
  ·rcases h1 with h1 | ⟨e,he,h1⟩
   ·rw [h1]
    split
    ·exact .inr ⟨d,by simp,rfl⟩
    ·exact .inl rfl
   ·exact .inr ⟨e,by simp [he],h1⟩
  ·rcases List.mem_cons.1 he with rfl | he
   ·omega
   ·exact h3 e he

theorem kd {l:List (ByteArray×Int)} (h:l≠[]) (z:Int):∃ d∈l,greatest l z=d.2:=by
 cases l with
 | nil=>exact absurd rfl h
 | cons d l =>
  rcases (mv l d.2).1 with h | ⟨e,he,h⟩
  ·exact ⟨d,by simp,h⟩
  ·exact ⟨e,by simp [he],h⟩

theorem qK {l:List (ByteArray×Int)} (z:Int):∀ d∈l,d.2≤greatest l z:=by
 cases l with
 | nil=>simp
 | cons e l =>
  intro d hd
  have h:=mv l e.2
  rcases List.mem_cons.1 hd with rfl | hd
  ·exact h.2.1
  ·exact h.2.2 d hd

theorem vg (l:List (ByteArray×Int)) (z:Int) (hl:l.length≤1099511627776):gz l z=some (greatest l z):=by
 have h:=iE l (fun n i s=>bL l n s i) (fun i s=>if i=0 then s=z else (l.drop i).foldl (fun m e=>if m<e.2 then e.2 else m) s=greatest l z) (fun r=>r=greatest l z) ?_ ?_ FU (by rw [FU_eq];omega) z (by simp)
 ·rw [gz,show bL l FU z 0=_ from h.eq,ae]
 ·intro n s hs
  rw [bL,ah (by omega)]
  refine df.2 ?_
  by_cases h:l.length=0
  ·rw [if_pos h] at hs
   have:l=[]:=List.length_eq_zero_iff.1 h
   rw [this,hs];rfl
  ·rw [if_neg h,List.drop_length] at hs
   exact hs
 ·intro n i s d hi hg hd hm hI ih
  rw [bL,ai (by omega),al (by omega),bY (by omega),hg]
  by_cases h:i=0
  ·subst h
   rw [ai (by omega)]
   refine ih _ ?_
   rw [if_neg (by omega)]
   rw [List.drop_zero] at hd
   conv=>rhs;rw [hd]
   rfl
  ·rw [if_neg h,hd,List.foldl_cons] at hI
   rw [ah (by omega)]
   by_cases h2:s<d.2
   ·rw [ai h2]
    refine ih _ ?_
    rw [if_neg (by omega)]
    rwa [if_pos h2] at hI
   ·rw [ah h2]
    refine ih _ ?_
    rw [if_neg (by omega)]
    rwa [if_neg h2] at hI

def jM (l:List (ByteArray×Bool×Int)):Prop:=l.length≤1099511627776∧(∀ d∈l,d.1.size≤1099511627776)∧∀ d∈l,I64 d.2.2

def br (next:List (ByteArray×Int)→Int) (items:List (ByteArray×Bool×Int)) (acc:List (ByteArray×Int)):List (ByteArray×Int) :=
 items.foldl (fun acc x=>acc++[(x.1,if x.2.1 then next acc else x.2.2)]) acc

theorem cN (next:List (ByteArray×Int)→Int) (items:List (ByteArray×Bool×Int)):∀ acc,(br next items acc).length=acc.length+items.length:=by
 induction items with
 | nil=>intro acc;simp [br]
 | cons x items ih=>intro acc;rw [br,List.foldl_cons,← br,ih];simp;omega

theorem oh (next:List (ByteArray×Int)→Int) (items more:List (ByteArray×Bool×Int)) (acc):br next (items++more) acc=br next more (br next items acc):=by
 simp [br,List.foldl_append]

theorem vj (next:List (ByteArray×Int)→Int) (items:List (ByteArray×Bool×Int)):∀ acc,∃ r,br next items acc=acc++r:=by
 induction items with
 | nil=>intro acc;exact ⟨[],by simp [br]⟩
 | cons x items ih =>
  intro acc
  rw [br,List.foldl_cons,← br]
  obtain ⟨r,hr⟩:=ih (acc++[(x.1,if x.2.1 then next acc else x.2.2)])
  exact ⟨_,by rw [hr,List.append_assoc]⟩

theorem qS (next:List (ByteArray×Int)→Int) (items:List (ByteArray×Bool×Int)) (k:Nat) (h:k≤items.length):(br next items []).take k=br next (items.take k) []:=by
 conv=>lhs;rw [← List.take_append_drop k items,oh]
 obtain ⟨r,hr⟩:=vj next (items.drop k) (br next (items.take k) [])
 rw [hr,List.take_append_of_le_length (by rw [cN];simp;omega),List.take_of_length_le (by rw [cN];simp;omega)]

theorem yx (next:List (ByteArray×Int)→Int) (items:List (ByteArray×Bool×Int)) (k:Nat) (h:k<items.length) :
  (br next items [])[k]'(by rw [cN];simpa using h)=(items[k].1,if items[k].2.1 then next (br next (items.take k) []) else items[k].2.2):=by
 have h1:=qS next items (k+1) h
 have hl:k<(br next items []).length:=by rw [cN];simpa using h
 rw [List.take_succ_eq_append_getElem h,oh,List.take_succ_eq_append_getElem hl,qS next items k (by omega)] at h1
 have e:br next [items[k]] (br next (items.take k) [])=br next (items.take k) []++[(items[k].1,if items[k].2.1 then next (br next (items.take k) []) else items[k].2.2)]:=rfl
 rw [e] at h1
 have:=List.append_cancel_left h1
 simpa using this

theorem rV {next:List (ByteArray×Int)→Int} (hn:∀ acc,(∀ d∈acc,I64 d.2)→I64 (next acc)):∀ (items:List (ByteArray×Bool×Int)) (acc:List (ByteArray×Int)),(∀ d∈items,I64 d.2.2)→(∀ d∈acc,I64 d.2)→∀ d∈br next items acc,I64 d.2
 | [],acc,_,h=>h
 | x::items,acc,hi,h=>by
  rw [br,List.foldl_cons,← br]
  refine rV hn items _ (fun d hd=>hi d (by simp [hd])) fun d hd=>?_
  rcases List.mem_append.1 hd with hd | hd
  ·exact h d hd
  ·simp at hd;subst hd
   simp only
   split
   ·exact hn acc h
   ·exact hi x (by simp)

theorem lY (next:List (ByteArray×Int)→Int):∀ (items:List (ByteArray×Bool×Int)) (acc:List (ByteArray×Int)),(br next items acc).map (·.1)=acc.map (·.1)++items.map (·.1)
 | [],acc=>by simp [br]
 | x::items,acc=>by
  rw [br,List.foldl_cons,← br,lY next items]
  simp

theorem uq {next:List (ByteArray×Int)→Int} (hn:∀ acc,(∀ d∈acc,I64 d.2)→I64 (next acc)) {items:List (ByteArray×Bool×Int)} (h:jM items):cp (br next items []):=by
 refine ⟨by rw [cN];have:=h.1;simpa using this,fun d hd=>?_,rV hn items [] h.2.2 (by simp)⟩
 have h1:d.1∈(br next items []).map (·.1):=List.mem_map.2 ⟨d,hd,rfl⟩
 rw [lY] at h1
 simp only [List.map_nil,List.nil_append,List.mem_map] at h1
 obtain ⟨x,hx,e⟩:=h1
 rw [← e];exact h.2.1 x hx

def gx (l:List (ByteArray×Int)):Int:=IntKind.wrap .i64 ((2 ^ aT (greatest l 0).toNat:Nat):Int)

theorem pL (l:List (ByteArray×Int)) (_:∀ d∈l,I64 d.2):I64 (gx l):=zY _

theorem wS {l:List (ByteArray×Int)} (h:∀ d∈l,I64 d.2):I64 (greatest l 0):=by
 by_cases hl:l=[]
 ·subst hl;unfold I64;simp [greatest]
 ·obtain ⟨d,hd,e⟩:=kd hl 0
  rw [e];exact h d hd

theorem rc {l:List (ByteArray×Int)} (hl:l.length≤1099511627776) (h:∀ d∈l,I64 d.2):fc l=some (gx l):=by
 have hg:=wS h
 have e:IntKind.wrap .u64 (if greatest l 0>0 then greatest l 0 else 0)=(((greatest l 0).toNat:Nat):Int):=by
  have:=hg.2
  rw [IntKind.wrap_u64];split <;> omega
 have hlt:(greatest l 0).toNat<9223372036854775808:=by have:=hg.2;omega
 have hb:aT (greatest l 0).toNat≤63:=iO (k:=63) hlt
 rw [fc,vg l 0 hl,ae,e,ry hlt,ae,al ⟨by omega,by simp [IntKind.bits];omega⟩,gx,Int.toNat_natCast]
 congr 2
 simp

theorem yA {items:List (ByteArray×Bool×Int)} (h:jM items):dn items=some (if items.any (fun x=>x.2.1 && !decide (x.2.2=0)) then ([],false) else (br gx items [],true)):=by
 have hx:=A1 items (fun n s i=>bi items n s i) (fun x=>x.2.1 && !decide (x.2.2=0)) () (fun acc x=>acc++[(x.1,if x.2.1 then gx acc else x.2.2)]) (fun i s=>s.length=i∧∀ d∈s,I64 d.2) ?_ ?_ FU (by have:=h.1;rw [FU_eq];omega) [] ⟨rfl,by simp⟩
 ·rw [dn]
  rcases hx with ⟨h1,e⟩ | ⟨h1,-,e⟩
  ·rw [e,h1];rfl
  ·rw [e,h1];rfl
 ·intro n s _;rw [bi,ah (by omega)]
 ·intro n i s hi hm hI
  have hl:=h.1
  have hv:=h.2.2 _ hm
  rw [bi,ai (by omega),al (by omega),bY (by omega)]
  have put:∀ v,I64 v→(∀ d∈s++[((gt items (i:Int)).1,v)],I64 d.2):=fun v hv d hd=>by
   rcases List.mem_append.1 hd with hd | hd
   ·exact hI.2 d hd
   ·simp at hd;subst hd;exact hv
  cases ha:(gt items (i:Int)).2.1 with
  | true =>
   rw [cond_true]
   by_cases h0:(gt items (i:Int)).2.2=0
   ·right
    rw [decide_eq_true h0,Bool.not_true,cond_false,rc (by have:=hI.1;omega) hI.2,ae,al (by have:=hI.1;simp;omega)]
    exact ⟨rfl,⟨by simp [hI.1],put _ (pL _ hI.2)⟩,rfl⟩
   ·left
    rw [decide_eq_false h0,Bool.not_false,cond_true]
    exact ⟨rfl,rfl⟩
  | false =>
   right
   rw [cond_false,al (by have:=hI.1;simp;omega)]
   exact ⟨rfl,⟨by simp [hI.1],put _ hv⟩,rfl⟩

theorem vq {l:List (ByteArray×Int)} (hl:l.length≤1099511627776):gC l=some l:=by
 rw [gC,eg,al hl,ae,fE,ae]

theorem qU {l:List (ByteArray×Int)} (h:cp l) (b:Int) (ok:Bool):ij l b ok=some (if ok=true∧bC l b then (l,b,true) else ([],0,false)):=by
 rw [ij,vq h.1,ae,ja h,ae]
 cases ok with
 | false=>simp
 | true =>
  by_cases hf:bC l b
  ·simp [hf]
  ·simp [hf]

def iV (items:List (ByteArray×Bool×Int)) (b:Int):(List (ByteArray×Int))×Int×Bool :=
 if (items.any (fun x=>x.2.1 && !decide (x.2.2=0))=false)∧bC (br gx items []) b then (br gx items [],b,true) else ([],0,false)

theorem uk {items:List (ByteArray×Bool×Int)} (h:jM items) (b:Int):ga items b=some (iV items b):=by
 rw [ga,iV]
 by_cases hl:12<(items.length:Int)
 ·rw [ai hl,if_neg]
  intro hh
  have:=hh.2.len
  rw [cN] at this
  simp at this;omega
 ·rw [ah hl,yA h,ae]
  cases ha:items.any (fun x=>x.2.1 && !decide (x.2.2=0)) with
  | true =>
   simp only [if_true]
   rw [qU ⟨by simp,by simp,by simp⟩,ae]
   simp
  | false =>
   simp only [Bool.false_eq_true,if_false]
   rw [qU (uq pL h),ae]
   by_cases hf:bC (br gx items []) b
   ·simp [hf]
   ·simp [hf]

def jN (l:List (ByteArray×Bool×Int)) (lo hi:Int):Prop:=(∀ i,i<l.length→fe (gt l (i:Int)).1∧((gt l (i:Int)).2.1=true→(gt l (i:Int)).2.2=0)∧(lo≤(gt l (i:Int)).2.2∧(gt l (i:Int)).2.2≤hi)∧∀ k,k<i→¬ (gt l (k:Int)).1=(gt l (i:Int)).1)∧l.length≤12

theorem vc (l:List (ByteArray×Bool×Int)) (lo hi:Int) (i:Nat) (hi':i<l.length) (hl:l.length≤1099511627776) :
  ((∃ k,k<i∧(gt l (k:Int)).1=(gt l (i:Int)).1)∧aU l lo hi (i:Int) FU 0=some (.inl ()))∨((∀ k,k<i→¬ (gt l (k:Int)).1=(gt l (i:Int)).1)∧aU l lo hi (i:Int) FU 0=some (.inr ())):=by
 refine Ba i (aU l lo hi (i:Int)) _ _ _ ?_ ?_ FU (by rw [FU_eq];omega)
 ·intro n;rw [aU,ah (by omega)]
 ·intro n k hk
  rw [aU,ai (by omega),al (by omega),al (by omega),bY (by omega)]
  by_cases h:(gt l (k:Int)).1=(gt l (i:Int)).1
  ·rw [ai h];exact .inl ⟨h,rfl⟩
  ·rw [ah h];exact .inr ⟨h,rfl⟩

theorem lF (l:List (ByteArray×Bool×Int)) (lo hi v:Int):∀ (n:Nat) (k:Int),cn l lo hi v n k=aU l lo hi v n k
 | 0,k=>rfl
 | n+1,k=>by rw [cn,aU,lF l lo hi v n]

open Classical in
theorem sG {l:List (ByteArray×Bool×Int)} (h:jM l) (lo hi:Int):fA l lo hi=some (decide (jN l lo hi)):=by
 obtain ⟨hl,hs,-⟩:=h
 have h:=xR l (bq l lo hi) (fun i=>¬ (fe (gt l (i:Int)).1∧((gt l (i:Int)).2.1=true→(gt l (i:Int)).2.2=0)∧(lo≤(gt l (i:Int)).2.2∧(gt l (i:Int)).2.2≤hi)∧∀ k,k<i→¬ (gt l (k:Int)).1=(gt l (i:Int)).1)) (.inl ()) (.inr ()) ?_ ?_ FU (by rw [FU_eq];omega)
 ·rw [fA]
  rcases h with ⟨⟨i,h1,h2⟩,e⟩ | ⟨h1,e⟩
  ·rw [e,ae,wE]
   have:¬ jN l lo hi:=fun h=>h2 (h.1 i h1)
   rw [decide_eq_false this]
  ·rw [e,ae,wN]
   have:jN l lo hi↔(l.length:Int)≤12:=⟨fun h=>by have:=h.2;omega,fun h=>⟨fun i hi=>Decidable.not_not.1 (h1 i hi),by omega⟩⟩
   congr 1
   by_cases hc:(l.length:Int)≤12
   ·rw [decide_eq_true hc,decide_eq_true (this.2 hc)]
   ·rw [decide_eq_false hc,decide_eq_false (fun h=>hc (this.1 h))]
 ·intro n;rw [bq,ah (by omega)]
 ·intro n i hi'
  have hm:gt l (i:Int)∈l:=fD (by omega)
  rw [bq,ai (by omega),al (by omega),iP (hs _ hm),ae,fS,ae,ae,bY (by omega),
   show cn l lo hi (i:Int) FU 0=_ from lF l lo hi (i:Int) FU 0]
  by_cases h1:fe (gt l (i:Int)).1
  ·rw [decide_eq_true h1,Bool.not_true,cond_false]
   have rest:(¬ ((lo≤(gt l (i:Int)).2.2∧(gt l (i:Int)).2.2≤hi)∧∀ k,k<i→¬ (gt l (k:Int)).1=(gt l (i:Int)).1) ∧
     (bif (!decide (lo≤(gt l (i:Int)).2.2∧(gt l (i:Int)).2.2≤hi)) then some (Sum.inl ()) else bd (aU l lo hi (i:Int) FU 0) fun x8=>sm x8 (fun x9=>some (Sum.inl ())) (fun x10=>bq l lo hi n ((i+1:Nat):Int)))=some (.inl ())) ∨
     (((lo≤(gt l (i:Int)).2.2∧(gt l (i:Int)).2.2≤hi)∧∀ k,k<i→¬ (gt l (k:Int)).1=(gt l (i:Int)).1) ∧
     (bif (!decide (lo≤(gt l (i:Int)).2.2∧(gt l (i:Int)).2.2≤hi)) then some (Sum.inl ()) else bd (aU l lo hi (i:Int) FU 0) fun x8=>sm x8 (fun x9=>some (Sum.inl ())) (fun x10=>bq l lo hi n ((i+1:Nat):Int)))=bq l lo hi n ((i+1:Nat):Int)):=by
    by_cases h3:lo≤(gt l (i:Int)).2.2∧(gt l (i:Int)).2.2≤hi
    ·rw [decide_eq_true h3,Bool.not_true,cond_false]
     rcases vc l lo hi i hi' hl with ⟨⟨k,g1,g2⟩,e⟩ | ⟨g1,e⟩
     ·rw [e];exact .inl ⟨fun hh=>hh.2 k g1 g2,rfl⟩
     ·rw [e];exact .inr ⟨⟨h3,g1⟩,rfl⟩
    ·rw [decide_eq_false h3,Bool.not_false,cond_true];exact .inl ⟨fun hh=>h3 hh.1,rfl⟩
   cases h2:(gt l (i:Int)).2.1 with
   | true =>
    rw [cond_true]
    by_cases h4:(gt l (i:Int)).2.2=0
    ·rw [decide_eq_true h4,Bool.not_true,cond_false]
     rcases rest with ⟨g1,e⟩ | ⟨g1,e⟩
     ·exact .inl ⟨fun hh=>g1 hh.2.2,e⟩
     ·exact .inr ⟨fun hh=>hh ⟨h1,fun _=>h4,g1⟩,e⟩
    ·rw [decide_eq_false h4,Bool.not_false,cond_true]
     exact .inl ⟨fun hh=>h4 (hh.2.1 rfl),rfl⟩
   | false =>
    rw [cond_false]
    rcases rest with ⟨g1,e⟩ | ⟨g1,e⟩
    ·exact .inl ⟨fun hh=>g1 hh.2.2,e⟩
    ·exact .inr ⟨fun hh=>hh ⟨h1,fun hh=>(by cases hh),g1⟩,e⟩
  ·rw [decide_eq_false h1,Bool.not_false,cond_true];exact .inl ⟨fun hh=>h1 hh.1,rfl⟩

theorem uI {a b:Nat} (h:a≤b):aT a≤aT b:=iO (Nat.lt_of_le_of_lt h (jo b))

theorem pF {k v:Nat}:2 ^ k≤v↔k<aT v:=by
 constructor
 ·intro h
  have h1:=Nat.lt_of_le_of_lt h (jo v)
  exact (Nat.pow_lt_pow_iff_right (by omega:1<2)).1 h1
 ·intro h
  have h0:v≠0:=by rintro rfl;simp [aT] at h
  have:=kL h0
  exact Nat.le_trans (Nat.pow_le_pow_right (by omega) (by omega)) this

theorem zi {k:Nat} (h:k≤61):(2 ^ k:Nat)≤2305843009213693952:=by
 calc 2 ^ k≤2 ^ 61:=Nat.pow_le_pow_right (by omega) h
  _=2305843009213693952:=rfl

theorem ye (l:List (ByteArray×Int)) (i:Nat) (hi:i<l.length) (hv:(gt l (i:Int)).2<1099511627776) (k:Nat) (hk:k≤40) :
  cX l (i:Int) FU ((2 ^ k:Nat):Int)=some ((2 ^ (max k (aT (gt l (i:Int)).2.toNat)):Nat):Int):=by
 have hb:aT (gt l (i:Int)).2.toNat≤40:=iO (by omega)
 refine (pT (fun n s=>cX l (i:Int) n s) (fun s=>∃ j:Nat,s=((2 ^ j:Nat):Int)∧j≤40∧max j (aT (gt l (i:Int)).2.toNat)=max k (aT (gt l (i:Int)).2.toNat)) (fun s=>2305843009213693952 - s.toNat) (fun r=>r=((2 ^ (max k (aT (gt l (i:Int)).2.toNat)):Nat):Int)) ?_ FU _ ⟨k,rfl,hk,rfl⟩ (by rw [FU_eq];omega)).eq
 rintro n _ ⟨j,rfl,hj,hm⟩ ih
 have hp:=zi (k:=j+1) (by omega)
 have hp0:0<(2 ^ j:Nat):=Nat.pos_of_ne_zero (by simp)
 have ps:(2 ^ (j+1):Nat)=2 ^ j*2:=Nat.pow_succ ..
 rw [cX,al (by omega)]
 have hiff:=pF (k:=j) (v:=(gt l (i:Int)).2.toNat)
 by_cases h:((2 ^ j:Nat):Int)≤(gt l (i:Int)).2
 ·rw [ai h,w64 (by omega) (by omega),show ((2 ^ j:Nat):Int)*2=((2 ^ (j+1):Nat):Int) by omega]
  have:=hiff.1 (by omega)
  exact ih _ ⟨j+1,rfl,by omega,by omega⟩ (by simp only [Int.toNat_natCast];omega)
 ·rw [ah h]
  refine df.2 ?_
  have:¬ j<aT (gt l (i:Int)).2.toNat:=fun hh=>by have:=hiff.2 hh;omega
  rw [show j=max k (aT (gt l (i:Int)).2.toNat) by omega]

theorem ul (l:List (ByteArray×Int)):∀ k,(l.foldl (fun k d=>max k (aT d.2.toNat)) k=k∨∃ d∈l,l.foldl (fun k d=>max k (aT d.2.toNat)) k=aT d.2.toNat)∧k≤l.foldl (fun k d=>max k (aT d.2.toNat)) k∧∀ d∈l,aT d.2.toNat≤l.foldl (fun k d=>max k (aT d.2.toNat)) k:=by
 induction l with
 | nil=>intro k;exact ⟨.inl rfl,Nat.le_refl _,by simp⟩
 | cons d l ih =>
  intro k
  rw [List.foldl_cons]
  obtain ⟨h1,h2,h3⟩:=ih (max k (aT d.2.toNat))
  refine ⟨?_,by omega,fun e he=>?_⟩
  ·rcases h1 with h1 | ⟨e,he,h1⟩
   ·rw [h1]
    by_cases hh:aT d.2.toNat≤k
    ·exact .inl (by omega)
    ·exact .inr ⟨d,by simp,by omega⟩
   ·exact .inr ⟨e,by simp [he],h1⟩
  ·rcases List.mem_cons.1 he with rfl | he
   ·omega
   ·exact h3 e he

theorem oD (l:List (ByteArray×Int)):l.foldl (fun k d=>max k (aT d.2.toNat)) 0=aT (greatest l 0).toNat:=by
 by_cases hl:l=[]
 ·subst hl;rfl
 ·obtain ⟨d,hd,e⟩:=kd hl 0
  obtain ⟨h1,h2,h3⟩:=ul l 0
  have h4:=h3 d hd
  rw [e]
  rcases h1 with h1 | ⟨f,hf,h1⟩
  ·rw [h1] at h4 ⊢;omega
  ·have h5:=qK (l:=l) 0 f hf
   rw [e] at h5
   have:=uI (show f.2.toNat≤d.2.toNat by omega)
   omega

theorem pM {l:List (ByteArray×Int)} (hl:l.length≤1099511627776) (hv:∀ d∈l,d.2<1099511627776):fN l=some ((2 ^ aT (greatest l 0).toNat:Nat):Int):=by
 have h:=iE l (fun n i s=>cD l n s i) (fun i s=>∃ k:Nat,s=((2 ^ k:Nat):Int)∧k≤40∧(l.drop i).foldl (fun k d=>max k (aT d.2.toNat)) k=l.foldl (fun k d=>max k (aT d.2.toNat)) 0)
  (fun r=>r=((2 ^ l.foldl (fun k d=>max k (aT d.2.toNat)) 0:Nat):Int)) ?_ ?_ FU (by rw [FU_eq];omega) 1 ⟨0,rfl,by omega,by simp⟩
 ·rw [fN,show cD l FU 1 0=_ from h.eq,ae,oD]
 ·rintro n _ ⟨k,rfl,hk,hf⟩
  rw [cD,ah (by omega)]
  rw [List.drop_length] at hf
  exact df.2 (by rw [← hf];rfl)
 ·rintro n i _ d hi hg hd hm ⟨k,rfl,hk,hf⟩ ih
  have hv':=hv _ hm
  have hb:aT d.2.toNat≤40:=iO (by omega)
  rw [cD,ai (by omega),ye l i hi (by rw [hg];exact hv') k hk,ae,bY (by omega),hg]
  refine ih _ ⟨max k (aT d.2.toNat),rfl,by omega,?_⟩
  rw [hd,List.foldl_cons] at hf
  exact hf

theorem jN.of {items:List (ByteArray×Bool×Int)} {b:Int} (h1:items.any (fun x=>x.2.1 && !decide (x.2.2=0))=false) (h2:bC (br gx items []) b):jN items 0 4095:=by
 have hlen:items.length≤12:=by have:=h2.len;rw [cN] at this;simpa using this
 refine ⟨fun i hi=>?_,hlen⟩
 have hd:=h2.1.1 i (by rw [cN];simpa using hi)
 have hi2:i<(br gx items []).length:=by rw [cN];simpa using hi
 rw [bT hi2,yx gx items i hi] at hd
 rw [bT hi]
 have hm:=List.getElem_mem hi
 rw [List.any_eq_false] at h1
 have h3:=h1 _ hm
 refine ⟨hd.1,fun ha=>?_,?_,fun k hk e=>?_⟩
 ·rw [ha] at h3;simpa using h3
 ·cases ha:items[i].2.1 with
  | true=>rw [ha] at h3;simp at h3;omega
  | false=>have:=hd.2.1;rw [ha] at this;simpa using this
 ·have hnd:=h2.1.out.2.1
  rw [lY] at hnd
  simp only [List.map_nil,List.nil_append] at hnd
  rw [List.Nodup,List.pairwise_iff_getElem] at hnd
  have:=hnd k i (by simp;omega) (by simpa using hi) hk
  simp only [List.getElem_map] at this
  rw [bT (by omega)] at e
  exact this e

theorem tE {items:List (ByteArray×Bool×Int)} (h:jM items) (b:Int):gg items b=some (iV items b):=by
 classical
 rw [gg,sG h,ae,iV]
 by_cases ho:jN items 0 4095
 ·rw [decide_eq_true ho,Bool.not_true,cond_false]
  have hx:=qb items (bQ items b) (fun acc x=>acc++[(x.1,if x.2.1 then gx acc else x.2.2)]) (fun i s=>s.length=i∧∀ d∈s,0≤d.2∧d.2<((2 ^ (13+i):Nat):Int)) ?_ ?_ FU (by have:=h.1;rw [FU_eq];omega) [] ⟨rfl,by simp⟩
  ·rw [show bQ items b FU [] 0=_ from hx.1,ae,← br,nn (uq pL h),ae]
   have hnb:items.any (fun x=>x.2.1 && !decide (x.2.2=0))=false:=by
    rw [List.any_eq_false]
    intro x hx
    obtain ⟨i,hi,rfl⟩:=List.mem_iff_getElem.1 hx
    have:=(ho.1 i hi).2.1
    rw [bT hi] at this
    cases ha:items[i].2.1 with
    | true=>simp [this ha]
    | false=>simp
   by_cases hf:bC (br gx items []) b
   ·rw [decide_eq_true hf,Bool.not_true,cond_false,if_pos ⟨hnb,hf⟩]
   ·rw [decide_eq_false hf,Bool.not_false,cond_true,if_neg (fun h=>hf h.2)]
  ·intro n s;rw [bQ,ah (by omega)]
  ·intro n i s hi hm hI
   have hl:=ho.2
   have hpw:∀ j,j≤26→(2 ^ j:Nat)≤67108864:=fun j hj=>by
    calc 2 ^ j≤2 ^ 26:=Nat.pow_le_pow_right (by omega) hj
     _=67108864:=rfl
   have hpm:(2 ^ (13+i):Nat)≤2 ^ (13+(i+1)):=Nat.pow_le_pow_right (by omega) (by omega)
   have hp1:=hpw (13+i) (by omega)
   have hp2:=hpw (13+(i+1)) (by omega)
   have hlow:(8192:Nat)≤2 ^ (13+i):=by
    calc (8192:Nat)=2 ^ 13:=rfl
     _≤2 ^ (13+i):=Nat.pow_le_pow_right (by omega) (by omega)
   have put:∀ v,0≤v∧v<((2 ^ (13+(i+1)):Nat):Int)→∀ d∈s++[((gt items (i:Int)).1,v)],0≤d.2∧d.2<((2 ^ (13+(i+1)):Nat):Int):=fun v hv d hd=>by
    rcases List.mem_append.1 hd with hd | hd
    ·have:=hI.2 d hd;omega
    ·simp at hd;subst hd;exact hv
   rw [bQ,ai (by omega),al (by omega),bY (by omega)]
   have hit:=ho.1 i hi
   cases ha:(gt items (i:Int)).2.1 with
   | true =>
    have hg:(greatest s 0).toNat<2 ^ (13+i):=by
     by_cases hs:s=[]
     ·subst hs;simp [greatest];omega
     ·obtain ⟨d,hd,e⟩:=kd hs 0
      have:=hI.2 d hd
      rw [e];omega
    have hbl:=iO hg
    have hpb:(2 ^ aT (greatest s 0).toNat:Nat)≤2 ^ (13+i):=Nat.pow_le_pow_right (by omega) hbl
    have hlt:(2 ^ (13+i):Nat)<2 ^ (13+(i+1)):=Nat.pow_lt_pow_right (by omega) (by omega)
    have en:=pM (l:=s) (by have:=hI.1;omega) (fun d hd=>by have:=hI.2 d hd;omega)
    have e2:gx s=IntKind.wrap .i64 ((2 ^ aT (greatest s 0).toNat:Nat):Int):=rfl
    generalize 2 ^ aT (greatest s 0).toNat=q at *
    rw [w64 (by omega) (by omega)] at e2
    rw [cond_true,en,ae,al (by have:=hI.1;simp;omega),← e2]
    exact ⟨⟨by simp [hI.1],put _ ⟨by rw [e2];omega,by rw [e2];omega⟩⟩,rfl⟩
   | false =>
    rw [cond_false,al (by have:=hI.1;simp;omega)]
    exact ⟨⟨by simp [hI.1],put (gt items (i:Int)).2.2 ⟨hit.2.2.1.1,by have:=hit.2.2.1.2;omega⟩⟩,rfl⟩
 ·rw [decide_eq_false ho,Bool.not_false,cond_true,if_neg]
  rintro ⟨h1,h2⟩
  exact ho (jN.of h1 h2)

theorem Ax {j:Nat} (h:j<12):pop (2 ^ j)=1:=by
 have:∀ j,j<12→pop (2 ^ j)=1:=by decide
 exact this j h

def uo (l:List (ByteArray×Bool×Int)):Prop:=l.length≤12∧∀ d∈l,d.1.size≤7 ∧ -5000≤d.2.2∧d.2.2≤5000

theorem uo.inn {l:List (ByteArray×Bool×Int)} (h:uo l):jM l :=
 ⟨by have:=h.1;omega,fun d hd=>by have:=(h.2 d hd).1;omega,fun d hd=>by have:=(h.2 d hd).2;exact ⟨by omega,by omega⟩⟩

def fB (x:ByteArray×Int):List (ByteArray×Int)→List (ByteArray×Int)
 | []=>[x]
 | y::r=>if x.2<y.2 then y::fB x r else x::y::r

theorem kI (x:ByteArray×Int):∀ r,(fB x r).Perm (x::r)
 | []=>List.Perm.refl _
 | y::r=>by
  rw [fB]
  split
  ·exact ((kI x r).cons y).trans (List.Perm.swap ..)
  ·exact List.Perm.refl _

theorem oq (x:ByteArray×Int):∀ r,r.Pairwise (fun a b=>b.2≤a.2)→(fB x r).Pairwise (fun a b=>b.2≤a.2)
 | [],_=>by simp [fB]
 | y::r,h=>by
  rw [fB]
  obtain ⟨h1,h2⟩:=List.pairwise_cons.1 h
  split
  ·rename_i hlt
   refine List.pairwise_cons.2 ⟨fun e he=>?_,oq x r h2⟩
   rcases List.mem_cons.1 ((kI x r).mem_iff.1 he) with rfl | he
   ·omega
   ·exact h1 e he
  ·rename_i hlt
   refine List.pairwise_cons.2 ⟨fun e he=>?_,h⟩
   rcases List.mem_cons.1 he with rfl | he
   ·omega
   ·have:=h1 e he;omega

def ss (l:List (ByteArray×Int)) (r:List (ByteArray×Int)):List (ByteArray×Int):=l.foldl (fun r x=>fB x r) r

def mC (l:List (ByteArray×Int)):List (ByteArray×Int):=(ss l []).reverse

theorem isortR_perm:∀ (l r:List (ByteArray×Int)),(ss l r).Perm (l++r)
 | [],r=>List.Perm.refl _
 | x::l,r=>by
  have h:=isortR_perm l (fB x r)
  refine h.trans ?_
  refine ((kI x r).append_left l).trans ?_
  exact List.perm_middle

theorem isortR_sorted:∀ (l r:List (ByteArray×Int)),r.Pairwise (fun a b=>b.2≤a.2)→(ss l r).Pairwise (fun a b=>b.2≤a.2)
 | [],r,h=>h
 | x::l,r,h=>isortR_sorted l (fB x r) (oq x r h)

theorem sO (l:List (ByteArray×Int)):(mC l).Perm l:=by
 have h:=isortR_perm l []
 rw [List.append_nil] at h
 exact (List.reverse_perm _).trans h

theorem lS (l:List (ByteArray×Int)):(mC l).length=l.length:=(sO l).length_eq

theorem wG (l:List (ByteArray×Int)):(mC l).Pairwise (fun a b=>a.2≤b.2):=by
 rw [mC,List.pairwise_reverse]
 exact isortR_sorted l [] List.Pairwise.nil

theorem Au (A T:List (ByteArray×Int)) (x y:ByteArray×Int):((A++y::x::T).set (0+(A.length+1)) y).set (0+A.length) x=A++x::y::T:=by
 rw [Nat.zero_add,Nat.zero_add,List.set_append,if_neg (by omega),show A.length+1 - A.length=1 by omega,List.set_append,if_neg (by omega),Nat.sub_self]
 rfl

theorem AQ (M:Nat) (L2:Nat→Int→List (ByteArray×Int)→Option (List (ByteArray×Int)))
  (h0:∀ n v,L2 (n+1) 0 v=some v)
  (hs:∀ n (j:Nat) v,j+1<v.length→v.length≤M→L2 (n+1) ((j+1:Nat):Int) v=if (gt v ((j+1:Nat):Int)).2<(gt v (j:Int)).2 then L2 n (j:Int) ((v.set (0+(j+1)) (gt v (j:Int))).set (0+j) (gt v ((j+1:Nat):Int))) else some v)
  (x:ByteArray×Int) (T:List (ByteArray×Int)):∀ (R2 R1:List (ByteArray×Int)) (n:Nat),R2.length<n→R2.length+R1.length+T.length+1≤M →
  L2 n (R2.length:Int) (R2.reverse++x::(R1.reverse++T))=some ((R1++fB x R2).reverse++T)
 | [],R1,n,hn,hM=>by
  cases n with
  | zero=>simp at hn
  | succ n=>rw [show (([]:List (ByteArray×Int)).length:Int)=0 from rfl,h0];simp [fB]
 | y::R2,R1,n,hn,hM=>by
  cases n with
  | zero=>simp at hn
  | succ n =>
   have e1:(y::R2).reverse++x::(R1.reverse++T)=R2.reverse++y::x::(R1.reverse++T):=by simp
   have g1:gt (R2.reverse++y::x::(R1.reverse++T)) (R2.length:Int)=y:=by
    rw [bT (by simp),List.getElem_append_right (by simp)];simp
   have g2:gt (R2.reverse++y::x::(R1.reverse++T)) ((R2.length+1:Nat):Int)=x:=by
    rw [bT (by simp),List.getElem_append_right (by simp)];simp
   rw [e1,show ((y::R2).length:Int)=((R2.length+1:Nat):Int) by simp,hs n R2.length _ (by simp) (by simp at hM ⊢;omega),g1,g2,fB]
   by_cases h:x.2<y.2
   ·rw [if_pos h,if_pos h]
    have:=Au R2.reverse (R1.reverse++T) x y
    rw [List.length_reverse] at this
    rw [this]
    have ih:=AQ M L2 h0 hs x T R2 (R1++[y]) n (by simp at hn;omega) (by simp at hM ⊢;omega)
    simp only [List.reverse_append,List.reverse_cons,List.reverse_nil,List.nil_append,List.cons_append,List.append_assoc] at ih ⊢
    exact ih
   ·rw [if_neg h,if_neg h]
    simp

theorem zz (L1:Nat→Int→List (ByteArray×Int)→Option (List (ByteArray×Int))) (m:Nat)
  (hend:∀ n v,v.length=m→L1 (n+1) (m:Int) v=some v)
  (hstep:∀ n (i:Nat) (R:List (ByteArray×Int)) (x:ByteArray×Int) (T:List (ByteArray×Int)),i<m→R.length=i→(R.reverse++x::T).length=m→L1 (n+1) (i:Int) (R.reverse++x::T)=L1 n ((i+1:Nat):Int) ((fB x R).reverse++T)) :
  ∀ (l R:List (ByteArray×Int)) (n:Nat),l.length<n→R.length+l.length=m→L1 n (R.length:Int) (R.reverse++l)=some (ss l R).reverse
 | [],R,n,hn,hm=>by
  cases n with
  | zero=>simp at hn
  | succ n =>
   simp at hm
   rw [hm,List.append_nil,hend _ _ (by simpa using hm)];rfl
 | x::l,R,n,hn,hm=>by
  cases n with
  | zero=>simp at hn
  | succ n =>
   have hl:(fB x R).length=R.length+1:=by rw [(kI x R).length_eq];rfl
   simp at hm hn
   rw [hstep n R.length R x l (by omega) rfl (by simp;omega),← hl,zz L1 m hend hstep l (fB x R) n (by omega) (by omega)]
   rfl

theorem xo (a b:Int):ii a b=some (if a<b then -1 else if b<a then 1 else 0):=by
 rw [ii,im,ae,im,ae]
 simp only [decide_true,Bool.not_true,cond_false]
 by_cases h1:a<b
 ·rw [ai h1,if_pos h1]
 ·rw [ah h1,if_neg h1]
  by_cases h2:b<a
  ·rw [ai h2,if_pos h2]
  ·rw [ah h2,if_neg h2]

theorem AD (a b:Int):(if a<b then (-1:Int) else if b<a then 1 else 0)<0↔a<b:=by
 by_cases h1:a<b
 ·simp [h1]
 ·by_cases h2:b<a <;> simp [h1,h2]

theorem tZ (p2:Int) (v4:Int) (x:ByteArray×Int) (T R:List (ByteArray×Int)) (hl:R.length+1+T.length≤1000000) :
  az 0 p2 v4 FU (R.length:Int) (R.reverse++x::T)=some ((fB x R).reverse++T):=by
 have h:=AQ 1000000 (az 0 p2 v4) ?_ ?_ x T R [] FU (by rw [FU_eq];omega) (by simp;omega)
 ·simpa using h
 ·intro n v;rw [az,ah (by omega)]
 ·intro n j v hj hM
  rw [az,ai (by omega),al (by omega),w64 (a:=((j+1:Nat):Int) - 1) (by omega) (by omega),show ((j+1:Nat):Int) - 1=(j:Int) by omega,al (by omega),
   fk,xo,ae,ae,ku,Int.toNat_natCast,Int.toNat_natCast]
  simp only [AD]

theorem xa {l:List (ByteArray×Int)} (hl:l.length≤12):bH l=some (mC l):=by
 have e:IntKind.wrap .u64 (l.length:Int)=(l.length:Int):=pN (by omega) (by omega)
 have hs:aW 0 (l.length:Int) l=some (mC l):=by
  rw [aW,w64 (a:=(0:Int)+1) (by omega) (by omega)]
  cases l with
  | nil =>
   rw [show FU=4611686018427387903+1 from rfl,ax,ah (by simp),ae];rfl
  | cons y t =>
   have h:=zz (ax 0 ((y::t).length:Int)) (y::t).length ?_ ?_ t [y] FU (by rw [FU_eq];simp at hl;omega) (by simp;omega)
   ·rw [show ax 0 ((y::t).length:Int) FU (0+1) (y::t)=_ from h,ae];rfl
   ·intro n v hv;rw [ax,ah (by omega)]
   ·intro n i R x T hi hR hlen
    simp only [List.length_append,List.length_reverse,List.length_cons] at hlen hl
    rw [ax,ai (by simp at hi ⊢;omega),← hR,tZ _ _ x T R (by omega),ae,hR,bY (by simp at hi;omega)]
 have hb:aT l.length≤64:=iO (k:=64) (by omega)
 rw [bH,e,ry (by omega),ae,bM,show FU=4611686018427387903+1 from rfl,bg,
  w64 (by omega) (by omega),ai (by omega),hs,ae,al (lS l),ae,ae,al (lS l)]

def bS (l:List (ByteArray×Int)):List (ByteArray×Int):=(List.range 12).filterMap (fun k=>l.find? (fun d=>decide (d.2=((2 ^ k:Nat):Int))))

theorem eZ {l:List (ByteArray×Int)} {d:ByteArray×Int}:d∈bS l↔∃ k,k<12∧l.find? (fun d=>decide (d.2=((2 ^ k:Nat):Int)))=some d:=by
 unfold bS
 rw [List.mem_filterMap]
 constructor
 ·rintro ⟨k,hk,h⟩;exact ⟨k,List.mem_range.1 hk,h⟩
 ·rintro ⟨k,hk,h⟩;exact ⟨k,List.mem_range.2 hk,h⟩

theorem pg {l:List (ByteArray×Int)} {d:ByteArray×Int} (h:d∈bS l):d∈l∧∃ k,k<12∧d.2=((2 ^ k:Nat):Int)∧l.find? (fun d=>decide (d.2=((2 ^ k:Nat):Int)))=some d:=by
 obtain ⟨k,hk,h⟩:=eZ.1 h
 exact ⟨List.mem_of_find?_eq_some h,k,hk,by simpa using List.find?_some h,h⟩

theorem AA {a b:Nat} (h:((2 ^ a:Nat):Int)=((2 ^ b:Nat):Int)):a=b:=by
 have:(2 ^ a:Nat)=2 ^ b:=by omega
 rcases Nat.lt_trichotomy a b with h1 | h1 | h1
 ·have:=Nat.pow_lt_pow_right (a:=2) (by omega) h1;omega
 ·exact h1
 ·have:=Nat.pow_lt_pow_right (a:=2) (by omega) h1;omega

theorem sK (l:List (ByteArray×Int)):(bS l).Pairwise (fun a b=>a.2<b.2):=by
 unfold bS
 rw [List.pairwise_filterMap]
 refine List.Pairwise.imp ?_ (List.pairwise_lt_range (n:=12))
 intro a b hab x hx y hy
 have h1:x.2=((2 ^ a:Nat):Int):=by simpa using List.find?_some hx
 have h2:y.2=((2 ^ b:Nat):Int):=by simpa using List.find?_some hy
 have:(2 ^ a:Nat)<2 ^ b:=Nat.pow_lt_pow_right (by omega) hab
 rw [h1,h2];omega

theorem ka (l:List (ByteArray×Int)):(bS l).length≤12:=by
 unfold bS
 have:=List.length_filterMap_le (fun k=>l.find? (fun d=>decide (d.2=((2 ^ k:Nat):Int)))) (List.range 12)
 simpa using this

theorem sorted_unique:∀ (a b:List (ByteArray×Int)),a.Pairwise (fun x y=>x.2<y.2)→b.Pairwise (fun x y=>x.2<y.2)→(∀ d,d∈a↔d∈b)→a=b
 | [],[],_,_,_=>rfl
 | [],y::b,_,_,h=>by have:=(h y).2 (by simp);cases this
 | x::a,[],_,_,h=>by have:=(h x).1 (by simp);cases this
 | x::a,y::b,h1,h2,h=>by
  obtain ⟨g1,g2⟩:=List.pairwise_cons.1 h1
  obtain ⟨g3,g4⟩:=List.pairwise_cons.1 h2
  have hxy:x=y:=by
   rcases List.mem_cons.1 ((h x).1 (by simp)) with e | hx
   ·exact e
   ·rcases List.mem_cons.1 ((h y).2 (by simp)) with e | hy
    ·exact e.symm
    ·have:=g3 x hx;have:=g1 y hy;omega
  subst hxy
  congr 1
  refine sorted_unique a b g2 g4 fun d=>?_
  constructor
  ·intro hd
   rcases List.mem_cons.1 ((h d).1 (by simp [hd])) with rfl | h'
   ·have:=g1 d hd;omega
   ·exact h'
  ·intro hd
   rcases List.mem_cons.1 ((h d).2 (by simp [hd])) with rfl | h'
   ·have:=g3 d hd;omega
   ·exact h'

theorem vM {l:List (ByteArray×Int)} (hl:l.length≤1099511627776):eP l=some (bS l):=by
 have h:=pT (fun n (s:List (ByteArray×Int)×Int)=>bt l n s.1 s.2) (fun s=>∃ k:Nat,k≤12∧s.2=((2 ^ k:Nat):Int)∧s.1=(List.range k).filterMap (fun k=>l.find? (fun d=>decide (d.2=((2 ^ k:Nat):Int))))) (fun s=>5000 - s.2.toNat) (fun r=>r=bS l) ?_ FU ([],1) ⟨0,by omega,rfl,rfl⟩ (by rw [FU_eq];omega)
 ·rw [eP,show bt l FU [] 1=_ from h.eq,ae]
 ·rintro n ⟨v,b⟩ ⟨k,hk,h1,h2⟩ ih
  simp only at h1 h2
  subst h1;subst h2
  show Wp (bt l (n+1) ((List.range k).filterMap (fun k=>l.find? (fun d=>decide (d.2=((2 ^ k:Nat):Int))))) ((2 ^ k:Nat):Int)) _
  rw [bt]
  by_cases h:k=12
  ·subst h
   rw [ah (show ¬ ((2 ^ 12:Nat):Int)≤4095 by decide)]
   exact df.2 rfl
  ·have hpl:=mJ (k:=k) (by omega)
   have hp0:0<(2 ^ k:Nat):=Nat.pos_of_ne_zero (by simp)
   have ps:(2 ^ (k+1):Nat)=2 ^ k*2:=Nat.pow_succ ..
   have hlen:((List.range k).filterMap (fun k=>l.find? (fun d=>decide (d.2=((2 ^ k:Nat):Int))))).length≤k:=by
    have:=List.length_filterMap_le (fun k=>l.find? (fun d=>decide (d.2=((2 ^ k:Nat):Int)))) (List.range k)
    simpa using this
   rw [ai (by omega),lP l _ hl,ae,w64 (by omega) (by omega),show ((2 ^ k:Nat):Int)*2=((2 ^ (k+1):Nat):Int) by omega]
   have hr:(List.range (k+1)).filterMap (fun k=>l.find? (fun d=>decide (d.2=((2 ^ k:Nat):Int))))=(List.range k).filterMap (fun k=>l.find? (fun d=>decide (d.2=((2 ^ k:Nat):Int))))++(match l.find? (fun d=>decide (d.2=((2 ^ k:Nat):Int))) with | some d=>[d] | none=>[]):=by
    rw [List.range_succ,List.filterMap_append]
    congr 1
    simp only [List.filterMap_cons,List.filterMap_nil]
    cases l.find? (fun d=>decide (d.2=((2 ^ k:Nat):Int))) <;> rfl
   rcases kE (fun d=>decide (d.2=((2 ^ k:Nat):Int))) l with ⟨g1,g2,_⟩ | ⟨i,d,g1,g2,g3,g4,_⟩
   ·have g1:dS l ((2 ^ k:Nat):Int) = -1:=g1
    rw [g1,ah (by omega)]
    exact ih (_,_) ⟨k+1,by omega,rfl,by simp only;rw [hr,g2,List.append_nil]⟩ (by simp only [Int.toNat_natCast];omega)
   ·have g1:dS l ((2 ^ k:Nat):Int)=i:=g1
    rw [g1,ai (by omega),al (by omega),al (by rw [List.length_singleton];omega),g3]
    exact ih (_,_) ⟨k+1,by omega,rfl,by simp only;rw [hr,g4]⟩ (by simp only [Int.toNat_natCast];omega)

theorem pop_one_chk:chk (fun n=>!decide (popr 12 n=1) || (List.range 12).any (fun k=>decide (n=2 ^ k))) 4096=true:=by decide +kernel

theorem xI {n:Nat} (h:n<4096):pop n=1↔∃ k,k<12∧n=2 ^ k:=by
 constructor
 ·intro hp
  rw [pop_popr 12 n (by omega) h] at hp
  have:=qe pop_one_chk n h
  rw [hp] at this
  simp only [decide_true,Bool.not_true,Bool.false_or,List.any_eq_true,List.mem_range,decide_eq_true_eq] at this
  exact this
 ·rintro ⟨k,hk,rfl⟩;exact Ax hk

theorem xu {n:Int} (h:0≤n∧n<4096):ik n=some (decide (pop n.toNat=1)):=by
 have e:IntKind.wrap .u64 n=((n.toNat:Nat):Int):=by rw [pN (by omega) (by omega)];omega
 rw [ik,e,ui (by omega),ae]
 congr 1
 exact decide_eq_decide.2 (by omega)

def bw (l:List (ByteArray×Int)):List (ByteArray×Int):=l.foldl (fun acc d=>if pop d.2.toNat=1∧dS acc d.2<0 then acc++[d] else acc) []

theorem sW {l:List (ByteArray×Int)} {n:Int}:dS l n<0↔∀ d∈l,¬ d.2=n:=by
 unfold dS
 rcases kE (fun d=>decide (d.2=n)) l with ⟨h1,_,h3⟩ | ⟨i,d,h1,h2,h3,h4,h5,h6⟩
 ·rw [h1];exact ⟨fun _ d hd=>by simpa using h3 d hd,fun _=>by omega⟩
 ·rw [h1];exact ⟨fun h=>by omega,fun h=>absurd (by simpa using h6) (h d h5)⟩

theorem qm (l:List (ByteArray×Int)) (d:ByteArray×Int):bw (l++[d])=if pop d.2.toNat=1∧dS (bw l) d.2<0 then bw l++[d] else bw l:=by
 unfold bw
 rw [List.foldl_append]
 rfl

theorem qu (l:List (ByteArray×Int)) (hv:V12 l):(∀ d,d∈bw l↔d∈bS l)∧((bw l).map (·.2)).Nodup:=by
 have key:∀ (n:Nat) (l:List (ByteArray×Int)),l.length=n→V12 l→(∀ d,d∈bw l↔d∈bS l)∧((bw l).map (·.2)).Nodup:=by
  intro n
  induction n with
  | zero =>
   intro l hl _
   have:l=[]:=List.length_eq_zero_iff.1 hl
   subst this
   refine ⟨fun d=>?_,by simp [bw]⟩
   rw [eZ];simp [bw]
  | succ n ih =>
   intro l hl hv
   obtain ⟨l',d,rfl⟩:∃ l' d,l=l'++[d]:=by
    have:l≠[]:=by rintro rfl;simp at hl
    exact ⟨l.dropLast,l.getLast this,(List.dropLast_concat_getLast this).symm⟩
   simp at hl
   obtain ⟨h1,h2⟩:=ih l' hl (fun e he=>hv e (by simp [he]))
   have hd:=hv d (by simp)
   have hfind:∀ k,(l'++[d]).find? (fun d=>decide (d.2=((2 ^ k:Nat):Int)))=(l'.find? (fun d=>decide (d.2=((2 ^ k:Nat):Int)))).or (if d.2=((2 ^ k:Nat):Int) then some d else none):=by
    intro k
    rw [List.find?_append]
    congr 1
    by_cases e:d.2=((2 ^ k:Nat):Int) <;> simp [e]
   rw [qm]
   by_cases hc:pop d.2.toNat=1∧dS (bw l') d.2<0
   ·rw [if_pos hc]
    obtain ⟨hp,hn⟩:=hc
    rw [sW] at hn
    obtain ⟨k,hk,ek⟩:=(xI (by omega)).1 hp
    have ed:d.2=((2 ^ k:Nat):Int):=by omega
    have hnone:l'.find? (fun d=>decide (d.2=((2 ^ k:Nat):Int)))=none:=by
     cases hf:l'.find? (fun d=>decide (d.2=((2 ^ k:Nat):Int))) with
     | none=>rfl
     | some e =>
      exfalso
      have:e∈bw l':=(h1 e).2 (eZ.2 ⟨k,hk,hf⟩)
      have h3:e.2=((2 ^ k:Nat):Int):=by simpa using List.find?_some hf
      exact hn e this (by rw [h3,ed])
    refine ⟨fun e=>?_,?_⟩
    ·rw [List.mem_append,h1 e,eZ,eZ]
     constructor
     ·rintro (⟨j,hj,hf⟩ | he)
      ·exact ⟨j,hj,by rw [hfind,hf];rfl⟩
      ·simp at he;subst he
       exact ⟨k,hk,by rw [hfind,hnone,if_pos ed];rfl⟩
     ·rintro ⟨j,hj,hf⟩
      rw [hfind] at hf
      cases hg:l'.find? (fun d=>decide (d.2=((2 ^ j:Nat):Int))) with
      | some x=>rw [hg] at hf;left;exact ⟨j,hj,by rw [hg];exact hf⟩
      | none =>
       rw [hg] at hf
       split at hf
       ·right;simp at hf;simp [hf]
       ·cases hf
    ·rw [List.map_append,List.nodup_append]
     refine ⟨h2,by simp,fun x hx y hy=>?_⟩
     simp at hy;subst hy
     obtain ⟨e,he,rfl⟩:=List.mem_map.1 hx
     exact hn e he
   ·rw [if_neg hc]
    refine ⟨fun e=>?_,h2⟩
    rw [h1 e,eZ,eZ]
    constructor
    ·rintro ⟨j,hj,hf⟩
     exact ⟨j,hj,by rw [hfind,hf];rfl⟩
    ·rintro ⟨j,hj,hf⟩
     refine ⟨j,hj,?_⟩
     rw [hfind] at hf
     cases hg:l'.find? (fun d=>decide (d.2=((2 ^ j:Nat):Int))) with
     | some x=>rw [hg] at hf;exact hf
     | none =>
      exfalso
      rw [hg] at hf
      split at hf
      ·rename_i e
       apply hc
       refine ⟨(xI (by omega)).2 ⟨j,hj,by omega⟩,?_⟩
       rw [sW]
       intro x hx ex
       obtain ⟨i,hi,hfi⟩:=eZ.1 ((h1 x).1 hx)
       have h3:x.2=((2 ^ i:Nat):Int):=by simpa using List.find?_some hfi
       have hij:i=j:=AA (by rw [← h3,ex,e])
       subst hij
       rw [hg] at hfi;cases hfi
      ·cases hf
 exact key l.length l rfl hv

theorem oZ {l:List (ByteArray×Int)} (hv:V12 l):mC (bw l)=bS l:=by
 obtain ⟨h1,h2⟩:=qu l hv
 have hp:=sO (bw l)
 refine sorted_unique _ _ ?_ (sK l) fun d=>by rw [hp.mem_iff];exact h1 d
 have hn:((mC (bw l)).map (·.2)).Nodup:=(hp.map _).nodup_iff.2 h2
 rw [List.Nodup,List.pairwise_map] at hn
 refine (wG (bw l)).imp₂ ?_ hn
 intro a b h3 h4
 omega

theorem wl {l:List (ByteArray×Int)} (b:Int) (hv:V12 l) (hl:l.length≤12):dC l b=some (bS l):=by
 have h:=qb l (bn l) (fun acc d=>if pop d.2.toNat=1∧dS acc d.2<0 then acc++[d] else acc) (fun i s=>s.length≤i) ?_ ?_ FU (by rw [FU_eq];omega) [] (by simp)
 ·have e:bn l FU [] 0=some (bw l):=h.1
  have hlen:(bw l).length≤12:=Nat.le_trans h.2 hl
  rw [dC,e,ae,xa hlen,ae,al (lS _),oZ hv]
 ·intro n s;rw [bn,ah (by omega)]
 ·intro n i s hi hm hI
  have hd:=hv _ hm
  rw [bn,ai (by omega),al (by omega),xu hd,ae,qJ s _ (by omega),ae,al (by simp;omega),bY (by omega),ku]
  by_cases h1:pop (gt l (i:Int)).2.toNat=1
  ·rw [if_pos h1]
   by_cases h2:dS s (gt l (i:Int)).2<0
   ·rw [ai h2,if_pos ⟨h1,h2⟩];exact ⟨by simp;omega,rfl⟩
   ·rw [ah h2,if_neg (fun h=>h2 h.2)];exact ⟨by omega,rfl⟩
  ·rw [if_neg h1,if_neg (fun h=>h1 h.1)];exact ⟨by omega,rfl⟩

theorem aO {n:Int} (h:0≤n):((n.toNat:Nat):Int)=n:=Int.toNat_of_nonneg h

theorem vf {f:List (ByteArray×Int)} (h:cp f) (b a c:Int):dU f b a c=some (if aM f b a∧aM f b c then ((a.toNat|||c.toNat:Nat):Int) else -1):=by
 rw [dU,eW,dF h,ae,dF h,ae,gK,ae]
 by_cases ha:aM f b a
 ·by_cases hc:aM f b c
  ·have h1:=ha.2.1
   have h2:=hc.2.1
   rw [decide_eq_true ha,decide_eq_true hc,if_pos ⟨ha,hc⟩,← zF (by omega) (by omega),aO h1.1,aO h2.1]
   rfl
  ·rw [decide_eq_true ha,decide_eq_false hc,if_neg (fun h=>hc h.2)];rfl
 ·rw [decide_eq_false ha,if_neg (fun h=>ha h.1)];rfl

theorem uj {f:List (ByteArray×Int)} (h:cp f) (b a c:Int):dL f b a c=some (if aM f b a∧aM f b c then ((a.toNat&&&c.toNat:Nat):Int) else -1):=by
 rw [dL,eu,dF h,ae,dF h,ae,gB,ae]
 by_cases ha:aM f b a
 ·by_cases hc:aM f b c
  ·have h1:=ha.2.1
   have h2:=hc.2.1
   rw [decide_eq_true ha,decide_eq_true hc,if_pos ⟨ha,hc⟩,← vu (by omega) (by omega),aO h1.1,aO h2.1]
   rfl
  ·rw [decide_eq_true ha,decide_eq_false hc,if_neg (fun h=>hc h.2)];rfl
 ·rw [decide_eq_false ha,if_neg (fun h=>ha h.1)];rfl

def jb (f:List (ByteArray×Int)) (a:Nat):List (ByteArray×Int):=(bS f).filter (fun d=>!decide (a&&&d.2.toNat=0))

def gH (f:List (ByteArray×Int)) (a:Nat):List ByteArray:=(jb f a).map (·.1)

def pQ (f:List (ByteArray×Int)) (a:Nat):Nat:=aJ a (aK (bS f))

theorem lL {f:List (ByteArray×Int)} (hv:V12 f):V12 (bS f):=fun d hd=>hv d (pg hd).1

theorem xl {f:List (ByteArray×Int)} (hv:V12 f) (a:Nat):V12 (jb f a):=fun d hd=>lL hv d (List.mem_filter.1 hd).1

theorem mZ (f:List (ByteArray×Int)) (a:Nat):(jb f a).length≤12:=Nat.le_trans (List.length_filter_le _ _) (ka f)

theorem xV (l:List (ByteArray×Int)):∀ a,l.foldl (fun r d=>aJ r d.2.toNat) a=aJ a (aK l):=by
 induction l with
 | nil=>intro a;simp [aJ,nmask_nil]
 | cons d l ih =>
  intro a
  rw [List.foldl_cons,ih,nV]
  apply Nat.eq_of_testBit_eq;intro i
  simp only [dr,Nat.testBit_or]
  cases a.testBit i <;> cases d.2.toNat.testBit i <;> cases (aK l).testBit i <;> rfl

theorem vm {a b:Nat}:a&&&b=0↔∀ i,¬ (a.testBit i=true∧b.testBit i=true):=by
 constructor
 ·intro h i hi
  have:=Nat.testBit_and a b i
  rw [h,hi.1,hi.2,Nat.zero_testBit] at this
  cases this
 ·intro h
  apply Nat.eq_of_testBit_eq;intro i
  rw [Nat.testBit_and,Nat.zero_testBit]
  have:=h i
  cases ha:a.testBit i <;> cases hb:b.testBit i <;> simp_all

theorem vY (f:List (ByteArray×Int)) (a:Nat):aJ a (aK (jb f a))=pQ f a:=by
 unfold pQ
 apply Nat.eq_of_testBit_eq;intro i
 rw [dr,dr]
 cases ha:a.testBit i with
 | false=>rfl
 | true =>
  rw [Bool.true_and,Bool.true_and]
  congr 1
  rw [hY,hY,jb]
  apply xm
  rw [List.any_eq_true,List.any_eq_true]
  constructor
  ·rintro ⟨d,hd,h⟩;exact ⟨d,(List.mem_filter.1 hd).1,h⟩
  ·rintro ⟨d,hd,h⟩
   refine ⟨d,List.mem_filter.2 ⟨hd,?_⟩,h⟩
   rw [Bool.not_eq_true',decide_eq_false_iff_not,vm]
   intro hh
   exact hh i ⟨ha,h⟩

theorem tm {l:List (ByteArray×Int)} (hl:l.length≤1000000):dD l=some (l.map (·.1)):=by
 have h:=vK l (bX l) (fun d=>[d.1]) 1 (by simp) ?_ ?_ FU (by rw [FU_eq];omega)
 ·rw [dD,h,ae,eS,ae,qO]
 ·intro n acc;rw [bX,ah (by omega)]
 ·intro n i acc hi hm ha
  rw [bX,ai (by omega),al (by omega),jt,ae,al (by rw [List.length_singleton];omega),bY (by omega)]

theorem oV {l:List (ByteArray×Int)} (hl:l.length≤1000000):eT l=some (l.map (·.1)):=by
 have h:=vK l (cZ l) (fun d=>[d.1]) 1 (by simp) ?_ ?_ FU (by rw [FU_eq];omega)
 ·rw [eT,h,ae,qO]
 ·intro n acc;rw [cZ,ah (by omega)]
 ·intro n i acc hi hm ha
  rw [cZ,ai (by omega),al (by omega),al (by rw [List.length_singleton];omega),bY (by omega)]

theorem uZ {l:List (ByteArray×Int)} (hl:l.length≤1000000) (hv:V12 l) {a:Nat} (ha:a<4096):cu l (a:Int)=some ((l.filter (fun d=>!decide (a&&&d.2.toNat=0))).map (·.1)):=by
 have h:=vK l (aL l (a:Int)) (fun d=>if ¬ a&&&d.2.toNat=0 then [d.1] else []) 1 (fun d _=>by by_cases h:a&&&d.2.toNat=0 <;> simp [h]) ?_ ?_ FU (by rw [FU_eq];omega)
 ·rw [cu,h,ae,eS,ae,nK]
  simp
 ·intro n acc;rw [aL,ah (by omega)]
 ·intro n i acc hi hm hacc
  have hd:=hv _ hm
  have e:=vu (a:=a) (b:=(gt l (i:Int)).2.toNat) (by omega) (by omega)
  rw [aO hd.1] at e
  rw [aL,ai (by omega),al (by omega),ey,ae,e,bY (by omega)]
  by_cases h:a&&&(gt l (i:Int)).2.toNat=0
  ·rw [decide_eq_true (by omega),Bool.not_true,cond_false,if_neg (by omega),List.append_nil]
  ·rw [decide_eq_false (by omega),Bool.not_false,cond_true,al (by rw [List.length_singleton];omega),if_pos h]

theorem vB {f:List (ByteArray×Int)} (hv:V12 f) (hl:f.length≤12) (b:Int) {a:Nat} (ha:a<4096):eD f b (a:Int)=some (gH f a,((pQ f a:Nat):Int)):=by
 have hs:=lL hv
 have hsl:=ka f
 have h:=qb (bS f) (bI (gH f a) (bS f)) (fun (r:Int) d=>((aJ r.toNat d.2.toNat:Nat):Int)) (fun _ r=>0≤r∧r<4096) ?_ ?_ FU (by rw [FU_eq];omega) (a:Int) (by omega)
 ·have e:∀ (l:List (ByteArray×Int)) (n:Nat),l.foldl (fun (r:Int) d=>((aJ r.toNat d.2.toNat:Nat):Int)) (n:Int)=((l.foldl (fun r d=>aJ r d.2.toNat) n:Nat):Int):=by
   intro l
   induction l with
   | nil=>intro n;rfl
   | cons d l ih=>intro n;rw [List.foldl_cons,List.foldl_cons,Int.toNat_natCast,ih]
  rw [eD,wl b hv hl,ae,uZ (by omega) hs ha,ae,ae]
  show bd (bI (gH f a) (bS f) FU (a:Int) 0) _=_
  rw [h.1,ae,e,xV];rfl
 ·intro n s;rw [bI,ah (by omega)]
 ·intro n i s hi hm hI
  have hd:=hs _ hm
  have e:=iN (a:=s.toNat) (b:=(gt (bS f) (i:Int)).2.toNat) (by omega) (by omega)
  rw [aO hd.1,aO hI.1] at e
  have hle:=iL s.toNat (gt (bS f) (i:Int)).2.toNat
  rw [bI,ai (by omega),al (by omega),e,bY (by omega)]
  exact ⟨by omega,rfl⟩

theorem xf {f:List (ByteArray×Int)} (hv:V12 f) (hl:f.length≤1099511627776) {a:Nat} (ha:a<4096):il f (a:Int)=some (jb f a):=by
 have hs:=lL hv
 have hsl:=ka f
 have h:=vK (bS f) (cI (a:Int) (bS f)) (fun d=>if ¬ a&&&d.2.toNat=0 then [d] else []) 1 (fun d _=>by by_cases h:a&&&d.2.toNat=0 <;> simp [h]) ?_ ?_ FU (by rw [FU_eq];omega)
 ·rw [il,vM hl,ae,h,ae,nK,jb]
  simp
 ·intro n acc;rw [cI,ah (by omega)]
 ·intro n i acc hi hm hacc
  have hd:=hs _ hm
  have e:=kT (a:=(gt (bS f) (i:Int)).2.toNat) (b:=a) (by omega) ha
  rw [aO hd.1,Nat.and_comm] at e
  rw [cI,ai (by omega),al (by omega),e,ae,bY (by omega)]
  by_cases h:a&&&(gt (bS f) (i:Int)).2.toNat=0
  ·rw [ah (by omega),if_neg (by omega),List.append_nil]
  ·rw [ai (by omega),al (by rw [List.length_singleton];omega),if_pos h]

theorem qN (f:List (ByteArray×Int)) (s:ByteArray) : -1≤dY f s∧dY f s<(f.length:Int):=rD _ _

theorem aM.mask {f:List (ByteArray×Int)} {b:Int} (hf:bC f b):aM f b ((aK f:Nat):Int):=by
 have:=eb hf.v12
 exact ⟨hf,by omega,.inr (by simp [aJ])⟩

theorem aM.or {f:List (ByteArray×Int)} {b x y:Int} (hx:aM f b x) (hy:aM f b y):aM f b ((x.toNat|||y.toNat:Nat):Int):=by
 have h1:=hx.2.1
 have h2:=hy.2.1
 have:=nY (a:=x.toNat) (b:=y.toNat) (by omega) (by omega)
 refine ⟨hx.1,by omega,?_⟩
 rw [Int.toNat_natCast]
 rcases hx.2.2 with h | h
 ·exact .inl h
 ·rcases hy.2.2 with h' | h'
  ·exact .inl h'
  ·right;rw [zR,h,h'];rfl

theorem aM.sub {f:List (ByteArray×Int)} {b x:Int} {n:Nat} (hx:aM f b x) (h:aJ n x.toNat=0):aM f b (n:Int):=by
 have h1:=hx.2.1
 have:=qE h
 refine ⟨hx.1,by omega,?_⟩
 rw [Int.toNat_natCast]
 rcases hx.2.2 with h' | h'
 ·exact .inl h'
 ·right
  rw [hF] at *
  exact fun i hi=>h' i (h i hi)

theorem ud (a b:Nat):aJ (a&&&b) a=0:=by
 rw [hF];intro i hi
 rw [Nat.testBit_and] at hi
 simp at hi;exact hi.1

theorem kj (f:List (ByteArray×Int)) (a:Nat):(gH f a).length≤12:=by
 rw [gH,List.length_map];exact mZ f a

theorem tJ {a b:List ByteArray} (ha:a.length≤1099511627776):eI a b=some (decide (a=b)):=by
 rw [eI]
 by_cases hl:a.length=b.length
 ·rw [decide_eq_true (by omega),Bool.not_true,cond_false,eqW a b (cy a b) hl ?_ ?_ FU (by rw [FU_eq];omega),ae]
  ·by_cases h:a=b
   ·rw [if_pos h,decide_eq_true h];rfl
   ·rw [if_neg h,decide_eq_false h];rfl
  ·intro n;rw [cy,ah (by omega)]
  ·intro n i hi
   rw [cy,ai (by omega),al (by omega),al (by omega),bY (by omega)]
   by_cases h:gt a (i:Int)=gt b (i:Int) <;> simp [h]
 ·rw [decide_eq_false (by omega),Bool.not_false,cond_true,decide_eq_false]
  intro h;exact hl (by rw [h])

theorem oN {a:List ByteArray} (ha:a.length≤1000000000):eI a a=some true:=by
 rw [tJ (by omega),decide_eq_true rfl]

theorem AB {α:Type} [Inhabited α] (l:List α) (del:α→Bool) (L:Nat→Int→Int→List α→Option (Int×List α)) (hsz:l.length≤1000000000)
  (hend:∀ n (i:Nat) v,v.length=l.length→L (n+1) (i:Int) (l.length:Int) v=some ((i:Int),v))
  (hstep:∀ n (i j:Nat) v,i≤j→j<l.length→v.length=l.length→gt v (j:Int)∈l→L (n+1) (i:Int) (j:Int) v=bif del (gt v (j:Int)) then L n (i:Int) ((j+1:Nat):Int) v else L n ((i+1:Nat):Int) ((j+1:Nat):Int) (v.set (0+i) (gt v (j:Int))))
  (N:Nat) (i j:Nat) (v:List α) (hN:l.length<N) (hij:i≤j) (hj:j≤l.length) (hv:v.length=l.length) (hd:v.drop j=l.drop j) (ht:v.take i=(l.take j).filter (fun d=>!del d)) :
  ∃ w,L N (i:Int) (j:Int) v=some (((l.filter (fun d=>!del d)).length:Int),w)∧w.length=l.length∧w.take (l.filter (fun d=>!del d)).length=l.filter (fun d=>!del d):=by
 have key:∀ (k i j n:Nat) (v:List α),j+k=l.length→k<n→i≤j→v.length=l.length→v.drop j=l.drop j→v.take i=(l.take j).filter (fun d=>!del d) →
   ∃ w,L n (i:Int) (j:Int) v=some (((l.filter (fun d=>!del d)).length:Int),w)∧w.length=l.length∧w.take (l.filter (fun d=>!del d)).length=l.filter (fun d=>!del d):=by
  intro k
  induction k with
  | zero =>
   intro i j n v hk hn hij hv hd ht
   cases n with
   | zero=>omega
   | succ n =>
    have hjl:j=l.length:=by omega
    subst hjl
    rw [List.take_length] at ht
    have hi:i=(l.filter (fun d=>!del d)).length:=by rw [← ht,List.length_take];omega
    exact ⟨v,by rw [hend n i v hv,← hi],hv,by rw [← hi];exact ht⟩
  | succ k ih =>
   intro i j n v hk hn hij hv hd ht
   cases n with
   | zero=>omega
   | succ n =>
    have hj1:j<l.length:=by omega
    have hj2:j<v.length:=by omega
    have hg:gt v (j:Int)=l[j]:=by
     rw [bT hj2]
     have h1:=congrArg (fun z=>z[0]?) hd
     simp only [List.getElem?_drop,Nat.add_zero,List.getElem?_eq_getElem hj1,List.getElem?_eq_getElem hj2,Option.some.injEq] at h1
     exact h1
    have hd':v.drop (j+1)=l.drop (j+1):=by
     rw [← List.drop_drop (i:=1) (j:=j),hd,List.drop_drop]
    have e1:l.take (j+1)=l.take j++[l[j]]:=by rw [List.take_append_getElem]
    rw [hstep n i j v hij hj1 hv (by rw [hg];exact List.getElem_mem hj1),hg]
    cases hdel:del l[j] with
    | true =>
     rw [cond_true]
     refine ih i (j+1) n v (by omega) (by omega) (by omega) hv hd' ?_
     rw [e1,List.filter_append,ht]
     simp [hdel]
    | false =>
     rw [cond_false]
     refine ih (i+1) (j+1) n _ (by omega) (by omega) (by omega) (by rw [List.length_set];exact hv) ?_ ?_
     ·rw [Nat.zero_add,List.drop_set_of_lt (by omega)];exact hd'
     ·have hi':i<v.length:=by omega
      rw [Nat.zero_add,List.take_set,← List.take_append_getElem hi',e1,List.filter_append,List.set_append,← ht]
      have hlt:(v.take i).length=i:=by rw [List.length_take];omega
      rw [if_neg (by omega),hlt,Nat.sub_self,List.set_cons_zero]
      simp [hdel]
 exact key (l.length - j) i j N v (by omega) (by omega) hij hv hd ht

theorem zE {α:Type} (w:List α) (i:Nat) (b:Int) (z:α) (h:i≤w.length):sub (clr w (i:Int) b z) (0:Int) (i:Int)=w.take i:=by
 have h1:(w.take (0+i)).length=i:=by rw [List.length_take];omega
 unfold sub clr
 rw [Int.toNat_natCast,Int.toNat_zero,List.drop_zero,Nat.sub_zero,List.append_assoc,List.take_append_of_le_length (by omega),Nat.zero_add,List.take_take,Nat.min_self]

def dx (f:List (ByteArray×Int)) (a:Nat):List (ByteArray×Int):=f.filter (fun d=>decide (0<d.2) && decide (aJ d.2.toNat a=0))

theorem nf (s:ByteArray) {n:Int} (h:0≤n∧n<4096) {a:Nat} (ha:a<4096):cG s n (a:Int)=some (!(decide (0<n) && decide (aJ n.toNat a=0))):=by
 have e:=iN (a:=n.toNat) (b:=a) (by omega) (by omega)
 rw [aO h.1] at e
 rw [cG,e]
 by_cases h0:n=0
 ·rw [ai h0,decide_eq_false (by omega)];rfl
 ·rw [ah h0,decide_eq_true (p:=0<n) (by omega),Bool.true_and]
  refine congrArg some (congrArg not (decide_eq_decide.2 ?_))
  omega

theorem wh {f:List (ByteArray×Int)} (hv:V12 f) (hl:f.length≤12) (b:Int) {a:Nat} (ha:a<4096):eA f b (a:Int)=some (dx f a):=by
 have hix:bF f (a:Int)=some (ix (fun d=>!(decide (0<d.2) && decide (aJ d.2.toNat a=0))) f):=by
  rw [bF]
  refine AU f (aG f (a:Int)) _ ?_ ?_ FU (by rw [FU_eq];omega)
  ·intro n;rw [aG,ah (by omega)]
  ·intro n i hi
   rw [aG,ai (by omega),al (by omega),nf _ (hv _ (fD (by omega))) ha,ae,bY (by omega)]
   cases (!(decide (0<(gt f (i:Int)).2) && decide (aJ (gt f (i:Int)).2.toNat a=0))) <;> rfl
 rw [eA,eg,al (by omega),ae,ca,hix,ae]
 have hfil:f.filter (fun d=>!!(decide (0<d.2) && decide (aJ d.2.toNat a=0)))=dx f a:=by unfold dx;simp only [Bool.not_not]
 unfold ix
 cases h:f.findIdx? (fun d=>!(decide (0<d.2) && decide (aJ d.2.toNat a=0))) with
 | none =>
  rw [List.findIdx?_eq_none_iff] at h
  simp only []
  rw [ai trivial,ae]
  refine congrArg some ?_
  rw [dx,eq_comm,List.filter_eq_self]
  intro d hd
  simpa using h d hd
 | some i =>
  rw [List.findIdx?_eq_some_iff_getElem] at h
  obtain ⟨hi,h1,h2⟩:=h
  simp only []
  have hpre:∀ d∈f.take i,(decide (0<d.2) && decide (aJ d.2.toNat a=0))=true:=fun d hd=>by
   obtain ⟨j,hj,rfl⟩:=List.mem_iff_getElem.1 hd
   rw [List.length_take] at hj
   have:=h2 j (by omega)
   simp only [Bool.not_eq_true,Bool.not_eq_false',List.getElem_take] at this ⊢
   simpa using this
  obtain ⟨w,e,hw,hwt⟩:=AB f (fun d=>!(decide (0<d.2) && decide (aJ d.2.toNat a=0))) (aB (a:Int)) (by omega) (fun n i v hv'=>by
    rw [aB,hv',ah (by omega)])
   (fun n i j v hij hj hvl hm=>by
    rw [aB,hvl,ai (by omega),al (by omega),nf _ (hv _ hm) ha,ae,bY (i:=j) (by omega)]
    cases (!(decide (0<(gt v (j:Int)).2) && decide (aJ (gt v (j:Int)).2.toNat a=0))) with
    | true=>rfl
    | false=>rw [Bool.not_false,cond_true,cond_false,al (by omega),bY (i:=i) (by omega),Int.toNat_natCast])
   FU i (i+1) f (by rw [FU_eq];omega) (by omega) (by omega) rfl rfl (by
    rw [← List.take_append_getElem hi,List.filter_append]
    have e1:(f.take i).filter (fun d=>!!(decide (0<d.2) && decide (aJ d.2.toNat a=0)))=f.take i:=by
     rw [List.filter_eq_self];intro d hd;rw [Bool.not_not];exact hpre d hd
    rw [e1]
    have e2:[f[i]].filter (fun d=>!!(decide (0<d.2) && decide (aJ d.2.toNat a=0)))=[]:=by
     rw [List.filter_cons_of_neg]
     ·rfl
     ·intro hc;rw [Bool.not_not] at hc;rw [hc] at h1;cases h1
    rw [e2,List.append_nil])
  have hle:(dx f a).length≤f.length:=List.length_filter_le _ _
  rw [hfil] at e hwt
  rw [ah (by omega),bY (i:=i) (by omega),e,ae]
  simp only []
  rw [al (by rw [hw];omega),al (by rw [hw];omega),zE _ _ _ _ (by omega),hwt,ae]

theorem vW {f:List (ByteArray×Int)} (hv:V12 f) (hl:f.length≤12) {a:Nat} (ha:a<4096):gT f (a:Int)=some (dx f a):=by
 have e:=vK f (cg f (a:Int)) (fun d=>if (decide (0<d.2) && decide (aJ d.2.toNat a=0))=true then [d] else []) 1 (fun d _=>by cases (decide (0<d.2) && decide (aJ d.2.toNat a=0)) <;> simp) ?_ ?_ FU (by rw [FU_eq];omega)
 ·rw [gT,e,ae,nK (fun d:ByteArray×Int=>(decide (0<d.2) && decide (aJ d.2.toNat a=0))=true) (fun d=>d)]
  simp [dx]
 ·intro n acc;rw [cg,ah (by omega)]
 ·intro n i acc hi hm hacc
  have hd:=hv _ hm
  have el:=fh (a:=(gt f (i:Int)).2.toNat) (b:=a) (by omega) ha
  rw [aO hd.1] at el
  rw [cg,ai (by omega),al (by omega),el,ae,bY (by omega)]
  by_cases h0:0<(gt f (i:Int)).2
  ·rw [ai h0,decide_eq_true h0,Bool.true_and]
   by_cases h1:aJ (gt f (i:Int)).2.toNat a=0
   ·rw [ai (by omega),al (by rw [List.length_singleton];omega),decide_eq_true h1,if_pos rfl]
   ·rw [ah (by omega),decide_eq_false h1,if_neg (by simp),List.append_nil]
  ·rw [ah h0,decide_eq_false h0,Bool.false_and,if_neg (by simp),List.append_nil]

theorem lX (l:List (ByteArray×Int)) (n:Int) : -1≤dS l n∧dS l n<(l.length:Int):=rD _ _

theorem wz {l:List (ByteArray×Int)} {s:ByteArray} (h:¬ dY l s<0):gt l (dY l s)∈l∧(gt l (dY l s)).1=s:=by
 unfold dY at *
 rcases kE (fun d:ByteArray×Int=>decide (d.1=s)) l with ⟨h1,_⟩ | ⟨i,d,h1,h2,h3,h4,h5,h6⟩
 ·omega
 ·rw [h1,h3];exact ⟨h5,of_decide_eq_true h6⟩

theorem xb {n:Int} (h0:0≤n) (h1:n≤1000000000):ee n=some []:=by
 have e0:IntKind.wrap .i64 ((0:Int) - 0)=0:=w64 (a:=(0:Int) - 0) (by omega) (by omega)
 rw [ee,ah (by omega),cj,e0,w64 (a:=n - 0) (by omega) (by omega)]
 by_cases hn:0<n - 0
 ·rw [decide_eq_true hn,cond_true,al ⟨rfl,rfl,rfl⟩,al (by omega),al (by rw [List.length_replicate,List.length_nil];omega),al (by rw [List.length_replicate];omega)]
  rfl
 ·rw [decide_eq_false hn,cond_false]

theorem Ao {a b:List (ByteArray×Int)} (ha:a.length≤1000000) (hb:b.length≤1000000):dH a b=some (a++b):=by
 have e1:IntKind.wrap .i64 ((0:Int)+(a.length:Int))=(a.length:Int):=by rw [w64 (by omega) (by omega)];omega
 rw [dH,e1,ah (by omega),cj,w64 (a:=(a.length:Int)+(b.length:Int)) (by omega) (by omega),ah (by omega),xb (by omega) (by omega),ae,al (by rw [List.length_nil];omega),al (by rw [List.nil_append];omega),List.nil_append]

def gZ (f:List (ByteArray×Int)→Nat→Option (List (ByteArray×Int))):List (ByteArray×Int)→Nat→Option (List (ByteArray×Int))
 | [],_=>none
 | d::l,a=>match f l (aJ a d.2.toNat) with
  | some r=>some (d::r)
  | none=>gZ f l a

def fewC:Nat→List (ByteArray×Int)→Nat→Option (List (ByteArray×Int))
 | 0,_,a=>if a=0 then some [] else none
 | n+1,l,a=>gZ (fewC n) l a

def mN (x:Option (List (ByteArray×Int))):List (ByteArray×Int)×Bool:=match x with
 | some r=>(r,true)
 | none=>([],false)

theorem fewC_out:∀ (n:Nat) (l:List (ByteArray×Int)) (a:Nat) (r:List (ByteArray×Int)),fewC n l a=some r→r.length=n∧∀ d∈r,d∈l
 | 0,l,a,r,h=>by
  rw [fewC] at h
  split at h
  ·cases h;exact ⟨rfl,by simp⟩
  ·cases h
 | n+1,l,a,r,h=>by
  rw [fewC] at h
  have key:∀ (l:List (ByteArray×Int)),gZ (fewC n) l a=some r→r.length=n+1∧∀ d∈r,d∈l:=by
   intro l
   induction l with
   | nil=>intro h;cases h
   | cons d l ih =>
    intro h
    rw [gZ] at h
    split at h
    ·rename_i r' hr
     cases h
     obtain ⟨g1,g2⟩:=fewC_out n l _ r' hr
     refine ⟨by rw [List.length_cons,g1],fun x hx=>?_⟩
     rcases List.mem_cons.1 hx with rfl | hx
     ·exact List.mem_cons_self ..
     ·exact List.mem_cons_of_mem _ (g2 x hx)
    ·obtain ⟨g1,g2⟩:=ih h
     exact ⟨g1,fun x hx=>List.mem_cons_of_mem _ (g2 x hx)⟩
  exact key l h

theorem zP {α:Type} (l:List α) (i:Nat):sub l (i:Int) (l.length:Int)=l.drop i:=by
 unfold sub
 rw [Int.toNat_natCast,Int.toNat_natCast,List.take_of_length_le (by rw [List.length_drop];omega)]

theorem wP {a b:Nat} (h:a<4096):aJ a b<4096:=Nat.lt_of_le_of_lt (iL a b) h

theorem impl_fewest:∀ (n k:Nat) (l:List (ByteArray×Int)) (a:Nat),n<k→n≤1000→V12 l→l.length≤1000→a<4096→m_impl_fewest k l (n:Int) (a:Int)=some (mN (fewC n l a))
 | 0,k,l,a,hk,hn,hv,hl,ha=>by
  cases k with
  | zero=>omega
  | succ k =>
   rw [m_impl_fewest,ai (by rfl),fewC]
   by_cases h:a=0
   ·rw [if_pos h,decide_eq_true (by omega)];rfl
   ·rw [if_neg h,decide_eq_false (by omega)];rfl
 | n+1,k,l,a,hk,hn,hv,hl,ha=>by
  cases k with
  | zero=>omega
  | succ k =>
   have hloop:cL (m_impl_fewest k) l ((n+1:Nat):Int) (a:Int) FU 0=some (match gZ (fewC n) l a with | some r=>.inl r | none=>.inr ()):=by
    refine Wp.eq (iE l (fun m i (_:Unit)=>cL (m_impl_fewest k) l ((n+1:Nat):Int) (a:Int) m i) (fun i _=>gZ (fewC n) (l.drop i) a=gZ (fewC n) l a) (fun r=>r=(match gZ (fewC n) l a with | some r=>.inl r | none=>.inr ())) ?_ ?_ FU (by rw [FU_eq];omega) () rfl)
    ·intro m _ hI
     rw [List.drop_length,gZ] at hI
     rw [cL,ah (by omega),← hI]
     exact ⟨_,rfl,rfl⟩
    ·intro m i _ d hi hg hdr hm hI ih
     have hd:=hv d hm
     have e1:=iN (a:=a) (b:=d.2.toNat) (by omega) (by omega)
     rw [aO hd.1] at e1
     have ihn:=impl_fewest n k (l.drop (i+1)) (aJ a d.2.toNat) (by omega) (by omega) (fun x hx=>hv x (List.mem_of_mem_drop hx)) (by rw [List.length_drop];omega) (wP ha)
     rw [hdr,gZ] at hI
     rw [cL,ai (by omega),al (by omega),bY (i:=i) (by omega),al (by omega),hg,e1,zP,w64 (a:=((n+1:Nat):Int) - 1) (by omega) (by omega),show ((n+1:Nat):Int) - 1=(n:Int) by omega,ihn,ae]
     cases hf:fewC n (l.drop (i+1)) (aJ a d.2.toNat) with
     | none =>
      rw [hf] at hI
      simp only [mN,cond_false]
      exact ih () hI
     | some r =>
      rw [hf] at hI
      have hrl:=(fewC_out n _ _ r hf).1
      simp only [mN,cond_true]
      rw [Ao (by simp) (by omega),ae,← hI]
      exact ⟨_,rfl,rfl⟩
   rw [m_impl_fewest,ah (by omega),hloop,ae,fewC]
   cases gZ (fewC n) l a <;> rfl

theorem spec_fewest:∀ (n k:Nat) (l:List (ByteArray×Int)) (b a:Nat),n<k→n≤1000→V12 l→l.length≤1000→b≤l.length→a<4096→m_spec_fewest k l (b:Int) (n:Int) (a:Int)=some (mN (fewC n (l.drop b) a))
 | 0,k,l,b,a,hk,hn,hv,hl,hb,ha=>by
  cases k with
  | zero=>omega
  | succ k =>
   rw [m_spec_fewest,ai (by rfl),fewC]
   by_cases h:a=0
   ·rw [if_pos h,decide_eq_true (by omega)];rfl
   ·rw [if_neg h,decide_eq_false (by omega)];rfl
 | n+1,k,l,b,a,hk,hn,hv,hl,hb,ha=>by
  cases k with
  | zero=>omega
  | succ k =>
   have hbl:(l.drop b).length=l.length - b:=List.length_drop ..
   have hloop:cJ (m_spec_fewest k) l ((n+1:Nat):Int) (a:Int) FU (b:Int)=some (match gZ (fewC n) (l.drop b) a with | some r=>.inl r | none=>.inr ()):=by
    have h:=iE (l.drop b) (fun m i (_:Unit)=>cJ (m_spec_fewest k) l ((n+1:Nat):Int) (a:Int) m ((b:Int)+i)) (fun i _=>gZ (fewC n) ((l.drop b).drop i) a=gZ (fewC n) (l.drop b) a) (fun r=>r=(match gZ (fewC n) (l.drop b) a with | some r=>.inl r | none=>.inr ())) ?_ ?_ FU (by rw [FU_eq];omega) () rfl
    ·have h:=h.eq
     simp only [Int.add_zero] at h
     exact h
    ·intro m _ hI
     rw [List.drop_length,gZ] at hI
     rw [cJ,ah (by omega),← hI]
     exact ⟨_,rfl,rfl⟩
    ·intro m i _ d hi hg hdr hm hI ih
     have hml:=List.mem_of_mem_drop hm
     have hd:=hv d hml
     have hbi:b+i<l.length:=by omega
     have hg2:gt l ((b:Int)+(i:Int))=d:=by
      rw [show ((b:Int)+(i:Int))=((b+i:Nat):Int) by omega,bT hbi,← hg,bT hi,List.getElem_drop]
     have e1:=fh (a:=a) (b:=d.2.toNat) ha (by omega)
     rw [aO hd.1] at e1
     have ihn:=spec_fewest n k l (b+i+1) (aJ a d.2.toNat) (by omega) (by omega) hv hl (by omega) (wP ha)
     have hdd:(l.drop b).drop (i+1)=l.drop (b+i+1):=by rw [List.drop_drop];congr 1
     rw [hdr,gZ,hdd] at hI
     rw [cJ,ai (by omega),al (by omega),hg2,e1,ae,w64 (a:=(b:Int)+(i:Int)+1) (by omega) (by omega),show (b:Int)+(i:Int)+1=((b+i+1:Nat):Int) by omega,w64 (a:=((n+1:Nat):Int) - 1) (by omega) (by omega),show ((n+1:Nat):Int) - 1=(n:Int) by omega,ihn,ae]
     cases hf:fewC n (l.drop (b+i+1)) (aJ a d.2.toNat) with
     | none =>
      rw [hf] at hI
      simp only [mN,cond_false]
      have:=ih () (by rw [hdd];exact hI)
      rw [show (b:Int)+((i+1:Nat):Int)=((b+i+1:Nat):Int) by omega] at this
      exact this
     | some r =>
      rw [hf] at hI
      have hrl:=(fewC_out n _ _ r hf).1
      rw [show mN (some r)=(r,true) from rfl,cond_true,al (by rw [List.length_singleton];show 1+r.length≤_;omega),← hI]
      exact ⟨_,rfl,rfl⟩
   rw [m_spec_fewest,ah (by omega),hloop,ae,fewC]
   cases gZ (fewC n) (l.drop b) a <;> rfl

theorem few_all:∀ (l:List (ByteArray×Int)) (a:Nat),aJ a (aK l)=0→∃ r,fewC l.length l a=some r
 | [],a,h=>by
  have:a=0:=by rw [nmask_nil] at h;simpa [aJ] using h
  subst this;exact ⟨[],rfl⟩
 | d::l,a,h=>by
  have h1:aJ (aJ a d.2.toNat) (aK l)=0:=by
   rw [nV] at h
   rw [hF] at h ⊢
   intro i hi
   rw [dr,Bool.and_eq_true,Bool.not_eq_true'] at hi
   have:=h i hi.1
   rw [Nat.testBit_or,hi.2,Bool.false_or] at this
   exact this
  obtain ⟨r,hr⟩:=few_all l _ h1
  refine ⟨d::r,?_⟩
  rw [List.length_cons,fewC,gZ,hr]

def ig (l:List (ByteArray×Int)):List (ByteArray×Int):=((List.range (l.length+1)).findSome? (fun n=>fewC n l (aK l))).getD []

theorem nH (l:List (ByteArray×Int)):∃ r,(List.range (l.length+1)).findSome? (fun n=>fewC n l (aK l))=some r:=by
 cases h:(List.range (l.length+1)).findSome? (fun n=>fewC n l (aK l)) with
 | some r=>exact ⟨r,rfl⟩
 | none =>
  rw [List.findSome?_eq_none_iff] at h
  have:=h l.length (List.mem_range.2 (by omega))
  obtain ⟨r,hr⟩:=few_all l (aK l) (by simp [aJ])
  rw [hr] at this;cases this

theorem xS {f:List (ByteArray×Int)} (hv:V12 f) (hl:f.length≤12) (b:Int) {a:Nat} (ha:a<4096):fx f b (a:Int)=some (ig (dx f a)):=by
 have hfl:(dx f a).length≤12:=Nat.le_trans (List.length_filter_le _ _) hl
 have hfv:V12 (dx f a):=fun d hd=>hv d (List.mem_filter.1 hd).1
 generalize hL:dx f a=L at hfl hfv
 obtain ⟨r0,hr0⟩:=nH L
 have hloop:cm L FU 0=some (ig L):=by
  refine Wp.eq (iE (List.range (L.length+1)) (fun m i (_:Unit)=>cm L m i) (fun i _=>((List.range (L.length+1)).drop i).findSome? (fun n=>fewC n L (aK L))=some r0) (fun r=>r=ig L) ?_ ?_ FU (by rw [FU_eq,List.length_range];omega) () hr0)
  ·intro m _ hI
   rw [List.drop_length] at hI
   cases hI
  ·intro m i _ d hi hg hdr hm hI ih
   rw [List.length_range] at hi
   rw [wW hi] at hg
   subst hg
   rw [hdr,List.findSome?_cons] at hI
   rw [cm,dW,jP 0 hfv (by omega),ae,ae,impl_fewest i FU L (aK L) (by rw [FU_eq];omega) (by omega) hfv (by omega) (eb hfv),ae]
   cases hf:fewC i L (aK L) with
   | none =>
    rw [hf] at hI
    simp only [mN,cond_false]
    rw [bY (i:=i) (by omega)]
    exact ih () hI
   | some r =>
    rw [hf] at hI
    cases hI
    simp only [mN,cond_true]
    exact ⟨_,rfl,by rw [ig,hr0];rfl⟩
 rw [fx,wh hv hl b ha,ae,hL,hloop,ae]

theorem yG {f:List (ByteArray×Int)} (hv:V12 f) (hl:f.length≤12) {a:Nat} (ha:a<4096):iI f (a:Int)=some (ig (dx f a)):=by
 have hfl:(dx f a).length≤12:=Nat.le_trans (List.length_filter_le _ _) hl
 have hfv:V12 (dx f a):=fun d hd=>hv d (List.mem_filter.1 hd).1
 generalize hL:dx f a=L at hfl hfv
 obtain ⟨r0,hr0⟩:=nH L
 have hloop:dB L ((aK L:Nat):Int) FU 0=some (.inl (ig L)):=by
  refine Wp.eq (iE (List.range (L.length+1)) (fun m i (_:Unit)=>dB L ((aK L:Nat):Int) m i) (fun i _=>((List.range (L.length+1)).drop i).findSome? (fun n=>fewC n L (aK L))=some r0) (fun r=>r=.inl (ig L)) ?_ ?_ FU (by rw [FU_eq,List.length_range];omega) () hr0)
  ·intro m _ hI
   rw [List.drop_length] at hI
   cases hI
  ·intro m i _ d hi hg hdr hm hI ih
   rw [List.length_range] at hi
   rw [wW hi] at hg
   subst hg
   have hsf:=spec_fewest i FU L 0 (aK L) (by rw [FU_eq];omega) (by omega) hfv (by omega) (by omega) (eb hfv)
   rw [List.drop_zero,show ((0:Nat):Int)=0 from rfl] at hsf
   rw [hdr,List.findSome?_cons] at hI
   rw [dB,ai (by omega),hsf,ae]
   cases hf:fewC i L (aK L) with
   | none =>
    rw [hf] at hI
    simp only [mN,cond_false]
    rw [bY (i:=i) (by omega)]
    exact ih () hI
   | some r =>
    rw [hf] at hI
    cases hI
    simp only [mN,cond_true]
    exact ⟨_,rfl,by rw [ig,hr0];rfl⟩
 rw [iI,vW hv hl ha,ae,hL,iH hfv (by omega),ae,hloop,ae,wE]

theorem td {l:List (ByteArray×Int)}:(ig l).length≤l.length∧(∀ d∈ig l,d∈l):=by
 obtain ⟨r,hr⟩:=nH l
 unfold ig
 rw [hr]
 obtain ⟨n,hn,he⟩:=List.exists_of_findSome?_eq_some hr
 have:=fewC_out n l _ r he
 have hn:=List.mem_range.1 hn
 exact ⟨by simp only [Option.getD_some];omega,this.2⟩

def bl (l:List UInt8):ByteArray:=⟨l.toArray⟩

theorem fq (s:ByteArray):bl s.data.toList=s:=by
 obtain ⟨⟨l⟩⟩:=s;rfl

theorem cv (l:List UInt8):(bl l).data.toList=l:=rfl

theorem kQ (a b:List UInt8):bl a++bl b=bl (a++b):=by
 apply ByteArray.ext
 simp [bl]

theorem fj (l:List UInt8):(bl l).size=l.length:=by simp [bl,ByteArray.size]

theorem sF {a b:List UInt8}:bl a=bl b↔a=b:=by
 constructor
 ·intro h
  have:=congrArg (fun s:ByteArray=>s.data.toList) h
  simpa [bl] using this
 ·rintro rfl;rfl

theorem cW (s:ByteArray):s.size=s.data.toList.length:=by rw [Array.length_toList];rfl

theorem jn (a b:ByteArray):a++b=bl (a.data.toList++b.data.toList):=by
 rw [← kQ,fq,fq]

theorem empty_bl:ByteArray.empty=bl []:=rfl

theorem iz (s:ByteArray) (i:Nat):aD s i=((s.data.toList.getD i 0).toNat:Int):=rfl

def bG (n:Int):ByteArray:=bl (Lib.itoa n)

theorem qc {n:Int} (h:I64 n):cU n=some (bG n):=by
 rw [cU,al ⟨h.1,h.2⟩];rfl

theorem digit_extract:∀ k,k<10→(ByteArray.mk #[48,49,50,51,52,53,54,55,56,57]).extract k (k+1)=bl [UInt8.ofNat (48+k)]:=by
 intro k hk
 apply ByteArray.ext
 have:k=0∨k=1∨k=2∨k=3∨k=4∨k=5∨k=6∨k=7∨k=8∨k=9:=by omega
 rcases this with rfl | rfl | rfl | rfl | rfl | rfl | rfl | rfl | rfl | rfl <;> rfl

theorem decDigits_length_le:∀ (d u:Nat),u<10 ^ (d+1)→(Lib.decDigits u).length≤d+1
 | 0,u,h=>by rw [Lib.decDigits_one (by simpa using h)];simp
 | d+1,u,h=>by
  by_cases h1:u<10
  ·rw [Lib.decDigits_one h1];simp
  ·rw [Lib.decDigits,dif_neg h1,List.length_append,List.length_singleton]
   have:=decDigits_length_le d (u / 10) (by rw [Nat.pow_succ] at h;omega)
   omega

theorem number_eq:∀ (fu n:Nat),n<fu→n≤1000000→m_spec_number fu (n:Int)=some (bl (Lib.decDigits n))
 | 0,n,h,_=>absurd h (Nat.not_lt_zero _)
 | fu+1,n,h,hn=>by
  rw [m_spec_number]
  by_cases h1:n<10
  ·have e:IntKind.wrap .i64 ((n:Int)+1)=((n+1:Nat):Int):=bY (by omega)
   have hs:((ByteArray.mk #[48,49,50,51,52,53,54,55,56,57]).size:Int)=10:=rfl
   rw [ai (by omega),e,hs,al ⟨by omega,by omega,by omega⟩,cj,Int.toNat_natCast,Int.toNat_natCast,digit_extract n h1,Lib.decDigits_one h1]
  ·have ed:Int.tdiv (n:Int) 10=((n / 10:Nat):Int):=by
    rw [Int.tdiv_eq_ediv_of_nonneg (by omega)];omega
   have em:Int.tmod (n:Int) 10=((n % 10:Nat):Int):=by
    rw [Int.tmod_eq_emod_of_nonneg (by omega)];omega
   have l1:=decDigits_length_le 6 (n / 10) (by omega)
   have l2:=decDigits_length_le 6 (n % 10) (by omega)
   rw [ah (by omega),ed,em,al ⟨by decide,w64 (by omega) (by omega)⟩,number_eq fu (n / 10) (by omega) (by omega),ae,al (by decide),number_eq fu (n % 10) (by omega) (by omega),ae,
    al (by rw [fj,fj];omega),kQ]
   conv=>rhs;rw [Lib.decDigits,dif_neg h1]
   rw [Lib.decDigits_one (i:=n % 10) (by omega)]

theorem kH {n:Int} (h0:0≤n) (h1:n≤1000000):m_spec_number FU n=some (bG n):=by
 obtain ⟨k,rfl⟩:=Int.eq_ofNat_of_zero_le h0
 rw [number_eq FU k (by rw [FU_eq];omega) (by omega),bG,Lib.itoa,if_neg (by omega),Int.toNat_natCast]

theorem xt {n:Int} (h : -1000000≤n∧n≤1000000):(Lib.itoa n).length≤8:=by
 unfold Lib.itoa
 split
 ·have:=decDigits_length_le 6 n.natAbs (by omega)
  rw [List.length_cons];omega
 ·have:=decDigits_length_le 6 n.toNat (by omega)
  omega

theorem jX {n:Int} (h : -1000000≤n∧n≤1000000):(bG n).size≤8:=by
 rw [bG,fj];exact xt h

theorem yd {n:Int} (h:n<0):Lib.itoa n=45::Lib.itoa (0 - n):=by
 unfold Lib.itoa
 rw [if_pos h,if_neg (by omega)]
 congr 2;omega

theorem decDigits_digit:∀ (u:Nat) (c:UInt8),c∈Lib.decDigits u→48≤c.toNat∧c.toNat≤57:=by
 intro u
 induction u using Nat.strongRecOn with
 | _ u ih =>
  intro c hc
  have one:∀ k,k<10→48≤(UInt8.ofNat (48+k)).toNat∧(UInt8.ofNat (48+k)).toNat≤57:=fun k hk=>by
   rw [UInt8.toNat_ofNat'];omega
  by_cases h1:u<10
  ·rw [Lib.decDigits_one h1,List.mem_singleton] at hc
   subst hc;exact one u h1
  ·rw [Lib.decDigits,dif_neg h1,List.mem_append,List.mem_singleton] at hc
   rcases hc with hc | rfl
   ·exact ih (u / 10) (by omega) c hc
   ·exact one _ (by omega)

theorem ki (u:Nat):Lib.decDigits u≠[]:=by
 by_cases h1:u<10
 ·rw [Lib.decDigits_one h1];simp
 ·rw [Lib.decDigits,dif_neg h1];simp

theorem zv (n:Int):∃ c r,Lib.itoa n=c::r∧c.toNat≤57:=by
 unfold Lib.itoa
 split
 ·exact ⟨45,_,rfl,by decide⟩
 ·obtain ⟨c,r,e⟩:=List.exists_cons_of_ne_nil (ki n.toNat)
  exact ⟨c,r,e,(decDigits_digit _ c (by rw [e];simp)).2⟩

theorem wc (n:Int):bG n≠ByteArray.empty:=by
 obtain ⟨c,r,e,_⟩:=zv n
 rw [bG,e,empty_bl,Ne,sF]
 simp

def gE (list:List ByteArray) (rest:Int):List ByteArray:=if rest=0 then list else list++[bG rest]

def sX (f:List (ByteArray×Int)):ByteArray:=if dS f 0<0 then bl [48] else (gt f (dS f 0)).1

def pS (l:List ByteArray) (sep:List UInt8):ByteArray:=bl (Lib.join (l.map (·.data.toList)) sep)

def lm (f:List (ByteArray×Int)) (list:List ByteArray) (rest:Int):ByteArray:=if gE list rest=[] then sX f else pS (gE list rest) [124]

theorem zr (l:List (List UInt8)) (x sep:List UInt8):Lib.join (l++[x]) sep=if l=[] then x else Lib.join l sep++sep++x:=by
 cases l with
 | nil=>rw [if_pos rfl,List.nil_append,Lib.join_one]
 | cons a l =>
  rw [if_neg (by simp),List.cons_append,Lib.join_cons,Lib.join_cons]
  simp [Lib.joinTail,List.append_assoc]

theorem qT (sep:List UInt8) (hs:sep.length≤10):∀ r:List (List UInt8),(∀ x∈r,x.length≤100)→(Lib.joinTail sep r).length≤110*r.length
 | [],_=>by simp [Lib.joinTail]
 | x::r,h=>by
  have h1:=qT sep hs r (fun y hy=>h y (by simp [hy]))
  have h2:=h x (by simp)
  unfold Lib.joinTail at h1 ⊢
  rw [List.map_cons,List.flatten_cons,List.length_append,List.length_append,List.length_cons]
  omega

theorem xJ (sep:List UInt8) (hs:sep.length≤10) (l:List (List UInt8)) (h:∀ x∈l,x.length≤100):(Lib.join l sep).length≤110*l.length:=by
 cases l with
 | nil=>simp [Lib.join_nil]
 | cons x r =>
  have h1:=qT sep hs r (fun y hy=>h y (by simp [hy]))
  have h2:=h x (by simp)
  rw [Lib.join_cons,List.length_append,List.length_cons]
  omega

theorem pn {l:List ByteArray} {sep:List UInt8} (hs:sep.length≤10) (hl:l.length≤1000000) (h:∀ x∈l,x.size≤100):fL l (bl sep)=some (pS l sep):=by
 have hb:=xJ sep hs (l.map (·.data.toList)) (fun x hx=>by
  obtain ⟨y,hy,rfl⟩:=List.mem_map.1 hx
  rw [← cW];exact h y hy)
 rw [List.length_map] at hb
 rw [fL,al (by omega),cv,al (by omega)]
 rfl

theorem oo {l:List ByteArray} {sep:List UInt8} (hs:sep.length≤10) (hl:l.length≤1000000) (h:∀ x∈l,x.size≤100):fm l (bl sep)=some (pS l sep):=by
 have e:=iE l (fun n i s=>bW l (bl sep) n s i) (fun i s=>s=bl (Lib.join ((l.take i).map (·.data.toList)) sep)∧s.size≤200*i) (fun r=>r=pS l sep) ?_ ?_ FU (by rw [FU_eq];omega) ByteArray.empty ⟨by simp [Lib.join_nil,empty_bl],by decide⟩
 ·have e:Wp (bW l (bl sep) FU ByteArray.empty 0) (fun r=>r=pS l sep):=e
  rw [fm,e.eq,ae]
 ·intro n s hI
  rw [bW,ah (by omega),hI.1,List.take_length]
  exact ⟨_,rfl,rfl⟩
 ·intro n i s d hi hg hdr hm hI hnext
  have hd:=h d hm
  have hse:(bl sep).size≤10:=by rw [fj];exact hs
  have ht:l.take (i+1)=l.take i++[d]:=by
   rw [List.take_succ_eq_append_getElem hi,← bT hi,hg]
  have hn:bl (Lib.join ((l.take (i+1)).map (·.data.toList)) sep)=if i=0 then s++d else (s++bl sep)++d:=by
   rw [ht,List.map_append,List.map_cons,List.map_nil,zr]
   by_cases h0:i=0
   ·subst h0
    rw [if_pos (by simp),if_pos rfl,hI.1,jn,cv]
    simp [Lib.join_nil]
   ·rw [if_neg (by intro e;have:=congrArg List.length e;rw [List.length_map,List.length_take,List.length_nil] at this;omega),if_neg h0,hI.1,kQ,jn,cv]
  rw [bW,ai (by omega),hg]
  by_cases h0:i=0
  ·rw [if_pos h0] at hn
   rw [ah (by omega),al (by omega),al (by omega),bY (i:=i) (by omega)]
   exact hnext _ ⟨hn.symm,by rw [ByteArray.size_append];omega⟩
  ·rw [if_neg h0] at hn
   have g1:s.size+(bl sep).size≤9223372036854775807:=by omega
   have g3:(s++bl sep).size+d.size≤9223372036854775807:=by rw [ByteArray.size_append];omega
   rw [ai (by omega),al g1,al (by omega),al g3,bY (i:=i) (by omega)]
   exact hnext _ ⟨hn.symm,by rw [ByteArray.size_append,ByteArray.size_append];omega⟩

theorem vd {f:List (ByteArray×Int)} (hl:f.length≤1000000):fp f=some (sX f):=by
 have hr:=lX f 0
 rw [fp,lP _ _ (by omega),ae,sX]
 by_cases h0:dS f 0<0
 ·rw [ah (by omega),if_pos h0];rfl
 ·rw [ai (by omega),al (by omega),if_neg h0]

theorem pJ {list:List ByteArray} {rest:Int} (hl:list.length≤1000) (hs:∀ s∈list,s.size≤100) (hr:0≤rest∧rest≤1000000):(gE list rest).length≤1001∧∀ s∈gE list rest,s.size≤100:=by
 have:=jX (n:=rest) ⟨by omega,by omega⟩
 unfold gE
 split
 ·exact ⟨by omega,hs⟩
 ·refine ⟨by rw [List.length_append,List.length_singleton];omega,fun s hx=>?_⟩
  rcases List.mem_append.1 hx with hx | hx
  ·exact hs s hx
  ·rw [List.mem_singleton.1 hx];omega

theorem oc {f:List (ByteArray×Int)} {list:List ByteArray} {rest:Int} (hf:f.length≤1000000) (hl:list.length≤1000) (hs:∀ s∈list,s.size≤100) (hr:0≤rest∧rest≤1000000):dZ f list rest=some (lm f list rest):=by
 have hp:=pJ hl hs hr
 rw [dZ,lm]
 by_cases h0:rest=0
 ·have ep:gE list rest=list:=by rw [gE,if_pos h0]
  rw [ep] at hp ⊢
  rw [ah (by omega)]
  by_cases h1:list=[]
  ·rw [ai (by rw [h1];rfl),vd hf,ae,if_pos h1]
  ·have:list.length≠0:=fun e=>h1 (List.eq_nil_of_length_eq_zero e)
   rw [ah (by omega),if_neg h1,show (ByteArray.mk #[124])=bl [124] from rfl,oo (by decide) (by omega) hp.2,ae]
 ·have ep:gE list rest=list++[bG rest]:=by rw [gE,if_neg h0]
  rw [ep] at hp ⊢
  rw [ai (by omega),al (by simp;omega),kH (by omega) (by omega),ae,al (by simp;omega),cj,List.nil_append,ah (by rw [List.length_append,List.length_singleton];omega),if_neg (by simp),show (ByteArray.mk #[124])=bl [124] from rfl,oo (by decide) (by omega) hp.2,ae]

theorem ut {f:List (ByteArray×Int)} (b:Int) {list:List ByteArray} {rest:Int} (hf:f.length≤1000000) (hl:list.length≤1000) (hs:∀ s∈list,s.size≤100) (hr:0≤rest∧rest≤1000000):eH f b list rest=some (lm f list rest):=by
 have hp:=pJ hl hs hr
 have hv:=lX f 0
 rw [eH,hH,al (by omega),ae,lm]
 by_cases h0:rest=0
 ·have ep:gE list rest=list:=by rw [gE,if_pos h0]
  rw [ep] at hp ⊢
  rw [decide_eq_true h0,Bool.not_true,cond_false]
  by_cases h1:list=[]
  ·rw [ah (by rw [h1];simp),qJ _ _ (by omega),ae,if_pos h1,sX]
   by_cases h2:dS f 0<0
   ·rw [ah (by omega),if_pos h2];rfl
   ·rw [ai (by omega),al (by omega),if_neg h2]
  ·have:list.length≠0:=fun e=>h1 (List.eq_nil_of_length_eq_zero e)
   rw [ai (by omega),if_neg h1,show (ByteArray.mk #[124])=bl [124] from rfl,pn (by decide) (by omega) hp.2,ae]
 ·have ep:gE list rest=list++[bG rest]:=by rw [gE,if_neg h0]
  rw [ep] at hp ⊢
  rw [decide_eq_false h0,Bool.not_false,cond_true,qc ⟨by omega,by omega⟩,ae,al (by simp;omega),cj,ai (by rw [List.length_append,List.length_singleton];omega),if_neg (by simp),show (ByteArray.mk #[124])=bl [124] from rfl,pn (by decide) (by omega) hp.2,ae]

theorem bC.small {f:List (ByteArray×Int)} {b:Int} (h:bC f b):∀ d∈f,d.1.size≤100:=fun d hd=>by
 have:=(h.1.out.1 d hd).1.2.2
 omega

theorem iw {f g:List (ByteArray×Int)} {b:Int} (h:bC f b) (hg:∀ d∈g,d∈f):∀ s∈g.map (·.1),s.size≤100:=fun s hs=>by
 obtain ⟨d,hd,rfl⟩:=List.mem_map.1 hs
 exact h.small d (hg d hd)

theorem mE {f:List (ByteArray×Int)} {a:Nat} {d:ByteArray×Int} (h:d∈jb f a):d∈f:=(pg (List.mem_filter.1 h).1).1

def bU (f:List (ByteArray×Int)) (b a:Int):ByteArray:=if aM f b a then lm f (gH f a.toNat) ((pQ f a.toNat:Nat):Int) else ByteArray.empty

theorem rQ (f:List (ByteArray×Int)) (a:Nat):pQ f a≤a:=iL _ _

theorem fK {f:List (ByteArray×Int)} (h:cp f) (b a:Int):bh f b a=some (bU f b a):=by
 rw [bh,dF h,ae,bU]
 by_cases hv:aM f b a
 ·have hf:=hv.1
  have ha:=hv.2.1
  have hr:=rQ f a.toNat
  have hn:=kj f a.toNat
  have hns:∀ s∈gH f a.toNat,s.size≤100:=iw hf (fun d hd=>mE hd)
  have e:=vB hf.v12 hf.len b (a:=a.toNat) (by omega)
  rw [aO ha.1] at e
  rw [decide_eq_true hv,Bool.not_true,cond_false,e,ae,if_pos hv]
  simp only []
  rw [ut b (by have:=hf.len;omega) (by omega) hns ⟨by omega,by omega⟩,ae]
 ·rw [decide_eq_false hv,Bool.not_false,cond_true,if_neg hv]

theorem tk {f:List (ByteArray×Int)} {b a:Int} (hf:bC f b) (ha:0≤a∧a≤4095):dp f b a=some (lm f (gH f a.toNat) ((pQ f a.toNat:Nat):Int)):=by
 have hr:=rQ f a.toNat
 have hn:=kj f a.toNat
 have hi:=mZ f a.toNat
 have hv:=xl hf.v12 a.toNat
 have e:=xf hf.v12 (by have:=hf.len;omega) (a:=a.toNat) (by omega)
 have e2:=fh (a:=a.toNat) (b:=aK (jb f a.toNat)) (by omega) (eb hv)
 rw [aO ha.1] at e e2
 rw [dp,e,ae,oV (by omega),ae,iH hv (by omega),ae,e2,ae,vY]
 have hns:∀ s∈gH f a.toNat,s.size≤100:=iw hf (fun d hd=>mE hd)
 show bd (dZ f (gH f a.toNat) _) _=_
 rw [oc (by have:=hf.len;omega) (by omega) hns ⟨by omega,by omega⟩,ae]

def dg (f:List (ByteArray×Int)) (a:Nat):List (ByteArray×Int):=ig (dx f a)

theorem hZ {f:List (ByteArray×Int)} {a:Nat} {d:ByteArray×Int} (h:d∈dg f a):d∈f:=(List.mem_filter.1 (td.2 d h)).1

theorem jC (f:List (ByteArray×Int)) (a:Nat):(dg f a).length≤f.length :=
 Nat.le_trans td.1 (List.length_filter_le _ _)

def eV (f:List (ByteArray×Int)) (b a:Int):ByteArray:=if aM f b a then lm f ((dg f a.toNat).map (·.1)) ((aJ a.toNat (aK (dg f a.toNat)):Nat):Int) else ByteArray.empty

theorem tz {f:List (ByteArray×Int)} (h:cp f) (b a:Int):dP f b a=some (eV f b a):=by
 rw [dP,dF h,ae,eV]
 by_cases hv:aM f b a
 ·have hf:=hv.1
  have ha:=hv.2.1
  have hl:=hf.len
  have hsl:=jC f a.toNat
  have hsv:V12 (dg f a.toNat):=fun d hd=>hf.v12 d (hZ hd)
  have hlt:=eb hsv
  have hle:=iL a.toNat (aK (dg f a.toNat))
  have e:=xS hf.v12 hf.len b (a:=a.toNat) (by omega)
  rw [aO ha.1] at e
  have e2:=iN (a:=a.toNat) (b:=aK (dg f a.toNat)) (by omega) (by omega)
  rw [aO ha.1] at e2
  rw [decide_eq_true hv,Bool.not_true,cond_false,e,ae,if_pos hv]
  show bd (dD (dg f a.toNat)) _=_
  rw [tm (by omega),ae]
  show bd (dW (dg f a.toNat)) _=_
  rw [dW,jP 0 hsv (by omega),ae,ae,e2,
   ut b (by omega) (by rw [List.length_map];omega) (iw hf (fun d hd=>hZ hd)) ⟨by omega,by omega⟩,ae]
 ·rw [decide_eq_false hv,Bool.not_false,cond_true,if_neg hv]

theorem uc {f:List (ByteArray×Int)} (h:cp f) (b a:Int):fU f b a=some (eV f b a):=by
 rw [fU,jV h,ae,eV]
 by_cases hv:aM f b a
 ·have hf:=hv.1
  have ha:=hv.2.1
  have hl:=hf.len
  have hsl:=jC f a.toNat
  have hsv:V12 (dg f a.toNat):=fun d hd=>hf.v12 d (hZ hd)
  have hlt:=eb hsv
  have hle:=iL a.toNat (aK (dg f a.toNat))
  have e:=yG hf.v12 hf.len (a:=a.toNat) (by omega)
  have e2:=fh (a:=a.toNat) (b:=aK (dg f a.toNat)) (by omega) hlt
  rw [aO ha.1] at e e2
  rw [decide_eq_true hv,Bool.not_true,cond_false,e,ae,if_pos hv]
  show bd (eT (dg f a.toNat)) _=_
  rw [oV (by omega),ae]
  show bd (cQ (dg f a.toNat)) _=_
  rw [iH hsv (by omega),ae,e2,ae,oc (by omega) (by rw [List.length_map];omega) (iw hf (fun d hd=>hZ hd)) ⟨by omega,by omega⟩,ae]
 ·rw [decide_eq_false hv,Bool.not_false,cond_true,if_neg hv]

def aP (c:UInt8):List UInt8→List (List UInt8)
 | []=>[[]]
 | x::r=>if x=c then []::aP c r else match aP c r with
  | []=>[[x]]
  | p::ps=>(x::p)::ps

theorem ej (c:UInt8):∀ l,aP c l≠[]
 | []=>by simp [aP]
 | x::r=>by
  unfold aP
  split
  ·simp
  ·split <;> simp

theorem ot (c:UInt8):Lib.index [] [c] = -1:=rfl

theorem ua (x c:UInt8) (r:List UInt8):Lib.index (x::r) [c]=if x=c then 0 else if Lib.index r [c] = -1 then -1 else Lib.index r [c]+1:=by
 rw [Lib.index]
 by_cases h:x=c
 ·subst h;simp [List.isPrefixOf]
 ·have:(c == x)=false:=by simpa using fun e=>h e.symm
  simp only [List.isPrefixOf,this,Bool.false_and,if_neg h,Bool.false_eq_true,if_false]
  by_cases h2:Lib.index r [c] = -1
  ·simp [h2]
  ·rw [if_neg (by simpa using h2),if_neg h2]

theorem pP (c:UInt8):∀ l:List UInt8,(Lib.index l [c] = -1→aP c l=[l])∧∀ i:Nat,Lib.index l [c]=i→aP c l=l.take i::aP c (l.drop (i+1))
 | []=>⟨fun _=>rfl,fun i h=>by rw [ot] at h;omega⟩
 | x::r=>by
  obtain ⟨h1,h2⟩:=pP c r
  have hge:=Lib.index_ge r [c]
  rw [ua]
  by_cases hx:x=c
  ·refine ⟨fun h=>?_,fun i h=>?_⟩
   ·rw [if_pos hx] at h;omega
   ·rw [if_pos hx] at h
    have:i=0:=by omega
    subst this
    rw [aP,if_pos hx];simp
  ·refine ⟨fun h=>?_,fun i h=>?_⟩
   ·rw [if_neg hx] at h
    by_cases h3:Lib.index r [c] = -1
    ·rw [aP,if_neg hx,h1 h3]
    ·rw [if_neg h3] at h;omega
   ·rw [if_neg hx] at h
    by_cases h3:Lib.index r [c] = -1
    ·rw [if_pos h3] at h;omega
    ·rw [if_neg h3] at h
     obtain ⟨j,rfl⟩:∃ j,i=j+1:=⟨i - 1,by omega⟩
     rw [aP,if_neg hx,h2 j (by omega)]
     simp

theorem yH (c:UInt8):∀ (n:Nat) (l:List UInt8),l.length≤n→Lib.splitK [c] 0 (Lib.count l [c]) l=aP c l:=by
 intro n
 induction n with
 | zero =>
  intro l hl
  have:l=[]:=List.eq_nil_of_length_eq_zero (by omega)
  subst this
  rw [Lib.count_miss (ot c)];rfl
 | succ n ih =>
  intro l hl
  obtain ⟨h1,h2⟩:=pP c l
  rcases Lib.index_spec l [c] with ⟨h,_⟩ | ⟨i,h,hi,ho,_⟩
  ·rw [Lib.count_miss h,h1 h];rfl
  ·have hroom:=Lib.index_room l [c] (by omega)
   have hlen:([c]:List UInt8).length=1:=rfl
   rw [h,hlen] at hroom
   rw [Lib.count_hit (by simp) h,h2 i h,Nat.add_comm,Lib.splitK,if_neg (by intro e;rw [h] at e;have:=eq_of_beq e;omega),h,hlen]
   simp only [Int.toNat_natCast,Nat.add_zero]
   rw [ih (l.drop (i+1)) (by rw [List.length_drop];omega)]

theorem xe (l:List ByteArray):(l.map (·.data.toList)).map bl=l:=by
 rw [List.map_map]
 conv=>rhs;rw [← List.map_id l]
 exact List.map_congr_left fun s _=>fq s

theorem kY {s:ByteArray} {c:UInt8} (hs:s.size<4294967281):de s (bl [c])=some ((aP c s.data.toList).map bl):=by
 rw [de,al hs,al (by rw [fj];exact Nat.le_refl 1)]
 congr 1
 rw [← xe (Lib.splitB _ _ _ _),Lib.splitB_data]
 congr 1
 exact yH c _ s.data.toList (Nat.le_refl _)

theorem oj (c:UInt8):∀ l:List UInt8,(aP c l).length≤l.length+1
 | []=>by simp [aP]
 | x::r=>by
  have ih:=oj c r
  unfold aP
  split
  ·simp;omega
  ·split
   ·simp
   ·rename_i p ps e
    rw [e] at ih
    simp at ih ⊢;omega

def nJ (p:List UInt8):List (List UInt8)→List (List UInt8)
 | []=>[p]
 | q::qs=>(p++q)::qs

theorem jK (c:UInt8) (r:List UInt8):aP c (c::r)=[]::aP c r:=by rw [aP,if_pos rfl]

theorem jf {c x:UInt8} (h:x≠c) (r:List UInt8):aP c (x::r)=nJ [x] (aP c r):=by
 rw [aP,if_neg h]
 cases aP c r <;> rfl

theorem zm (p q:List UInt8) (l:List (List UInt8)):nJ p (nJ q l)=nJ (p++q) l:=by
 cases l <;> simp [nJ]

theorem wi {l:List (List UInt8)} (h:l≠[]):nJ [] l=l:=by
 cases l with
 | nil=>exact absurd rfl h
 | cons a l=>rfl

theorem jY (s:ByteArray) (a b:Nat):s.extract a b=bl ((s.data.toList.drop a).take (b - a)):=by
 apply ByteArray.ext
 apply Array.toList_inj.1
 simp [bl,List.extract_eq_take_drop]

theorem zo {s:ByteArray} {i:Nat} (hi:i<s.data.toList.length) (c:UInt8):aD s i=(c.toNat:Int)↔s.data.toList[i]=c:=by
 rw [iz,List.getD_eq_getElem?_getD,List.getElem?_eq_getElem hi,Option.getD_some]
 constructor
 ·intro h;exact UInt8.toNat_inj.1 (by omega)
 ·intro h;rw [h]

theorem jU {s:ByteArray} {c:UInt8} (hs:s.size≤1000000000):ck s (c.toNat:Int)=some ((aP c s.data.toList).map bl):=by
 have hsz:=cW s
 obtain ⟨l,hl⟩:∃ l,l=s.data.toList:=⟨_,rfl⟩
 have hs':=hs
 rw [hsz,← hl] at hs'
 have key:∀ (k i n:Nat) (V:List (List UInt8)) (fr:Nat),i+k=l.length→k<n→V.length≤i→fr≤i→aP c l=V++nJ ((l.drop fr).take (i - fr)) (aP c (l.drop i)) →
   ∃ (V':List (List UInt8)) (fr':Nat),ch s (c.toNat:Int) n (V.map bl) (fr:Int) (i:Int)=some (V'.map bl,(fr':Int))∧fr'≤l.length∧V'.length≤l.length∧aP c l=V'++[l.drop fr']:=by
  intro k
  induction k with
  | zero =>
   intro i n V fr hik hn hV hfr hI
   obtain ⟨n,rfl⟩:∃ m,n=m+1:=⟨n - 1,by omega⟩
   have e:i=l.length:=by omega
   subst e
   refine ⟨V,fr,by rw [ch,hsz,← hl,ah (by omega)],hfr,hV,?_⟩
   rw [hI,List.drop_length,aP,List.take_of_length_le (by rw [List.length_drop];omega)]
   simp [nJ]
  | succ k ih =>
   intro i n V fr hik hn hV hfr hI
   obtain ⟨n,rfl⟩:∃ m,n=m+1:=⟨n - 1,by omega⟩
   have hi:i<l.length:=by omega
   have hd:l.drop i=l[i]::l.drop (i+1):=List.drop_eq_getElem_cons hi
   have hb:=zo (s:=s) (i:=i) (by rw [← hl];exact hi) c
   have ht:(l.drop fr).take (i+1 - fr)=(l.drop fr).take (i - fr)++[l[i]]:=by
    rw [show i+1 - fr=(i - fr)+1 by omega,List.take_succ_eq_append_getElem (by rw [List.length_drop];omega),List.getElem_drop]
    congr 3;omega
   rw [ch,hsz,← hl,ai (by omega),al (by omega),Int.toNat_natCast]
   by_cases hc:aD s i=(c.toNat:Int)
   ·have hc':l[i]=c:=by
     have:=hb.1 hc
     simpa [hl] using this
    rw [ai hc,al (by omega),al (by rw [List.length_map,List.length_singleton];omega),bY (i:=i) (by omega),Int.toNat_natCast,jY,← hl]
    have:=ih (i+1) n (V++[(l.drop fr).take (i - fr)]) (i+1) (by omega) (by omega) (by rw [List.length_append,List.length_singleton];omega) (Nat.le_refl _) (by
     rw [hI,hd,hc',jK,Nat.sub_self,List.take_zero,wi (ej _ _)]
     simp [nJ])
    rwa [List.map_append,List.map_cons,List.map_nil] at this
   ·have hc':l[i]≠c:=fun e=>hc (hb.2 (by simpa [hl] using e))
    rw [ah hc,bY (i:=i) (by omega)]
    exact ih (i+1) n V fr (by omega) (by omega) (by omega) (by omega) (by rw [hI,hd,jf hc',zm,ht])
 obtain ⟨V,fr,e,h1,h2,h3⟩:=key l.length 0 FU [] 0 (by omega) (by rw [FU_eq];rw [hsz,← hl] at hs;omega) (by simp) (Nat.le_refl _) (by rw [List.drop_zero,List.take_zero,wi (ej _ _)];rfl)
 have e':ch s (c.toNat:Int) FU [] 0 0=some (V.map bl,(fr:Int)):=e
 rw [hsz,← hl] at hs
 rw [ck,e',ae]
 simp only []
 rw [hsz,← hl,al (by omega),al (by rw [List.length_map,List.length_singleton];omega),Int.toNat_natCast,Int.toNat_natCast,jY,← hl,List.take_of_length_le (by rw [List.length_drop];omega),h3,List.map_append,List.map_cons,List.map_nil]

def aE (s:ByteArray) (c:UInt8):List ByteArray:=(aP c s.data.toList).map bl

theorem gq (s:ByteArray) (c:UInt8):(aE s c).length≤s.size+1:=by
 rw [aE,List.length_map,cW];exact oj c _

def rd:Nat→List UInt8→Option Nat
 | acc,[]=>some acc
 | acc,c::r=>if c.toNat<48∨57<c.toNat∨4095<acc then none else rd (10*acc+(c.toNat - 48)) r

theorem rd_snoc:∀ (l:List UInt8) (c:UInt8) (acc:Nat),rd acc (l++[c])=(rd acc l).bind fun a=>if c.toNat<48∨57<c.toNat∨4095<a then none else some (10*a+(c.toNat - 48))
 | [],c,acc=>by
  simp only [List.nil_append,rd,Option.bind_some]
 | x::l,c,acc=>by
  simp only [List.cons_append,rd]
  by_cases h:x.toNat<48∨57<x.toNat∨4095<acc
  ·rw [if_pos h,if_pos h,Option.bind_none]
  ·rw [if_neg h,if_neg h];exact rd_snoc l c _

theorem mD {k:Nat} (h:k<10):(UInt8.ofNat (48+k)).toNat=48+k:=by
 rw [UInt8.toNat_ofNat'];omega

theorem rd_dec:∀ u:Nat,u≤40959→rd 0 (Lib.decDigits u)=some u:=by
 intro u
 induction u using Nat.strongRecOn with
 | ind u ih =>
  intro h
  by_cases h1:u<10
  ·rw [Lib.decDigits_one h1]
   simp only [rd]
   rw [mD h1,if_neg (by omega)]
   congr 1;omega
  ·rw [Lib.decDigits,dif_neg h1,rd_snoc,ih (u / 10) (by omega) (by omega),Option.bind_some,mD (by omega),if_neg (by omega)]
   congr 1;omega

def cM (s:ByteArray):Int:=match rd 0 s.data.toList with
 | some n=>if s≠ByteArray.empty∧n≤4096∧bG n=s then (n:Int) else -1
 | none => -1

theorem uK (n:Nat):bG (n:Int)=bl (Lib.decDigits n):=by
 rw [bG,Lib.itoa,if_neg (by omega),Int.toNat_natCast]

theorem ir (s:ByteArray):(cM s = -1∧∀ n:Nat,n≤4096→s≠bG n)∨(∃ n:Nat,n≤4096∧s=bG n∧cM s=n):=by
 by_cases h:∃ n:Nat,n≤4096∧s=bG n
 ·obtain ⟨n,hn,rfl⟩:=h
  right
  refine ⟨n,hn,rfl,?_⟩
  have e:rd 0 (bG (n:Int)).data.toList=some n:=by rw [uK,cv,rd_dec n (by omega)]
  rw [cM,e]
  simp only []
  rw [if_pos ⟨wc _,hn,trivial⟩]
 ·left
  refine ⟨?_,fun n hn e=>h ⟨n,hn,e⟩⟩
  rw [cM]
  cases e:rd 0 s.data.toList with
  | none=>rfl
  | some n =>
   simp only []
   rw [if_neg (fun hh=>h ⟨n,hh.2.1,hh.2.2.symm⟩)]

theorem AS (c:UInt8) (h1:48≤c.toNat):IntKind.wrap .u8 ((c.toNat:Int) - 48)=((c.toNat - 48:Nat):Int):=by
 have:=c.toNat_lt
 rw [IntKind.wrap_u8];omega

theorem oe (s:ByteArray) (hs:s.size≤1000000000):∀ (k i n acc:Nat),s.size=i+k→k<n→acc≤50000 →
  bV s n (acc:Int) (i:Int)=some (match rd acc (s.data.toList.drop i) with | some x=>.inr (x:Int) | none=>.inl ())
 | 0,i,n,acc,hk,hn,ha=>by
  obtain ⟨n,rfl⟩:∃ m,n=m+1:=⟨n - 1,by omega⟩
  have:=cW s
  rw [bV,ah (by omega),List.drop_of_length_le (by omega)]
  rfl
 | k+1,i,n,acc,hk,hn,ha=>by
  obtain ⟨n,rfl⟩:∃ m,n=m+1:=⟨n - 1,by omega⟩
  have hz:=cW s
  have hi:i<s.data.toList.length:=by omega
  have hd:s.data.toList.drop i=s.data.toList[i]::s.data.toList.drop (i+1):=List.drop_eq_getElem_cons hi
  have hb:aD s ((i:Int).toNat)=((s.data.toList[i]).toNat:Int):=by
   rw [Int.toNat_natCast,iz,List.getD,List.getElem?_eq_getElem hi];rfl
  rw [bV,ai (by omega),al (by omega),hb,hd]
  simp only [rd]
  generalize s.data.toList[i]=c
  by_cases c1:c.toNat<48
  ·rw [ai (by omega),if_pos (.inl c1)]
  ·by_cases c2:57<c.toNat
   ·rw [ah (by omega),ai (by omega),if_pos (.inr (.inl c2))]
   ·by_cases c3:4095<acc
    ·rw [ah (by omega),ah (by omega),ai (by omega),if_pos (.inr (.inr c3))]
    ·rw [ah (by omega),ah (by omega),ah (by omega),if_neg (by omega),AS c (by omega),cj]
     have e1:IntKind.wrap .i64 (((c.toNat - 48:Nat):Int))=((c.toNat - 48:Nat):Int):=w64 (by omega) (by omega)
     have e2:IntKind.wrap .i64 (10*(acc:Int))=((10*acc:Nat):Int):=by rw [w64 (by omega) (by omega)];omega
     have e3:IntKind.wrap .i64 (((10*acc:Nat):Int)+((c.toNat - 48:Nat):Int))=((10*acc+(c.toNat - 48):Nat):Int):=by rw [w64 (by omega) (by omega)];omega
     rw [e1,e2,e3,bY (i:=i) (by omega)]
     exact oe s hs k (i+1) n _ (by omega) (by omega) (by omega)

theorem jZ {s:ByteArray} (hs:s.size≤1000000000):cC s=some (cM s):=by
 have e:=oe s hs s.size 0 FU 0 (by omega) (by rw [FU_eq];omega) (by omega)
 have e':bV s FU 0 0=some (match rd 0 s.data.toList with | some x=>.inr (x:Int) | none=>.inl ()):=e
 rw [cC,e',ae,cM]
 cases hr:rd 0 s.data.toList with
 | none=>rfl
 | some x =>
  simp only [sm]
  by_cases h1:s=ByteArray.empty
  ·rw [ai h1,if_neg (fun h=>h.1 h1)]
  ·by_cases h2:x≤4096
   ·rw [ah h1,ah (by omega),kH (by omega) (by omega),ae]
    by_cases h3:bG (x:Int)=s
    ·rw [decide_eq_true h3,Bool.not_true,cond_false,if_pos ⟨h1,h2,h3⟩]
    ·rw [decide_eq_false h3,Bool.not_false,cond_true,if_neg (fun h=>h3 h.2.2)]
   ·rw [ah h1,ai (by omega),if_neg (fun h=>h2 h.2.1)]

theorem parse_snoc:∀ (l:List UInt8) (c:UInt8) (acc a:Nat),Lib.parseUint10 acc l=.ok a→Lib.parseUint10 acc (l++[c])=Lib.parseUint10 a [c]
 | [],c,acc,a,h=>by
  simp only [Lib.parseUint10] at h
  cases h;rfl
 | x::l,c,acc,a,h=>by
  rw [Lib.parseUint10] at h
  rw [List.cons_append,Lib.parseUint10]
  split at h
  ·rename_i h1
   rw [if_pos h1]
   split at h
   ·cases h
   ·rename_i h2
    rw [if_neg h2]
    split at h
    ·cases h
    ·rename_i h3
     rw [if_neg h3]
     exact parse_snoc l c _ a h
  ·cases h

theorem parse_dec:∀ u:Nat,u<18446744073709551616→Lib.parseUint10 0 (Lib.decDigits u)=.ok u:=by
 intro u
 induction u using Nat.strongRecOn with
 | ind u ih =>
  intro h
  have one:∀ k a:Nat,k<10→a*10+k=u→Lib.parseUint10 a [UInt8.ofNat (48+k)]=.ok u:=fun k a hk e=>by
   rw [Lib.parseUint10,mD hk,if_pos (by omega),if_neg (by omega),if_neg (by omega),Lib.parseUint10]
   congr 1;omega
  by_cases h1:u<10
  ·rw [Lib.decDigits_one h1];exact one u 0 h1 (by omega)
  ·rw [Lib.decDigits,dif_neg h1,parse_snoc _ _ _ _ (ih (u / 10) (by omega) (by omega))]
   exact one _ _ (by omega) (by omega)

theorem pi {u:Nat} (h:u<18446744073709551616):Lib.parseMag (Lib.decDigits u)=.ok u:=by
 rw [Lib.parseMag,if_neg (ki u),parse_dec u h]

theorem wY {n:Int} (h:I64 n):Lib.atoiAll (Lib.itoa n)=.ok n:=by
 have h1:=h.1
 have h2:=h.2
 rw [Lib.itoa]
 by_cases hn:n<0
 ·rw [if_pos hn]
  have e:Lib.parseMag (Lib.decDigits n.natAbs)=.ok n.natAbs:=pi (by omega)
  simp only [Lib.atoiAll]
  rw [if_pos (by decide),e]
  simp only []
  rw [if_neg (by simp),if_neg (by omega)]
  simp only [show (45:UInt8).toNat=45 from rfl,if_true]
  congr 1;omega
 ·rw [if_neg hn]
  have e:Lib.parseMag (Lib.decDigits n.toNat)=.ok n.toNat:=pi (by omega)
  obtain ⟨c,r,ec⟩:=List.exists_cons_of_ne_nil (ki n.toNat)
  have hc:=decDigits_digit n.toNat c (by rw [ec];simp)
  rw [ec] at e ⊢
  simp only [Lib.atoiAll]
  rw [if_neg (by omega),e]
  simp only []
  rw [if_neg (by omega),if_neg (by omega),if_neg (by omega)]
  congr 1;omega

def cH (s:ByteArray):Int×Bool:=match Lib.atoiAll s.data.toList with
 | .ok v=>(v,decide (bG v=s))
 | .range=>(Lib.atoiSat s.data.toList,false)
 | _=>(0,false)

theorem kO {n:Int} (h:I64 n):cH (bG n)=(n,true):=by
 rw [cH,show (bG n).data.toList=Lib.itoa n from cv _,wY h]
 simp

theorem pX {s:ByteArray} (h:(cH s).2=true):s=bG (cH s).1∧I64 (cH s).1:=by
 rw [cH] at *
 rcases e:Lib.atoiAll s.data.toList with v | _ | _
 ·rw [e] at h;exact ⟨(of_decide_eq_true h).symm,Lib.atoiAll_bounds e⟩
 ·rw [e] at h;cases h
 ·rw [e] at h;cases h

theorem lW {s:ByteArray} (hs:s.size≤1000000000):eM s=some (cH s):=by
 rw [eM,iQ,al (by omega),ae,jR,cH]
 rcases e:Lib.atoiAll s.data.toList with v | _ | _
 ·simp only [cond_true]
  rw [qc (Lib.atoiAll_bounds e),ae]
 ·rfl
 ·rfl

theorem yw (p q:Int) (hp:I64 p) (hq:I64 q) (a b:Nat) :
  Wp (bu p q FU 0 1) (fun r=>(0≤r∧r<4096)∧(p=a→q=b→r=(((a&&&b) % 4096:Nat):Int))):=by
 refine pT (fun n (s:Int×Int)=>bu p q n s.1 s.2)
  (fun s=>∃ (v k:Nat),s=((v:Int),((2 ^ k:Nat):Int))∧k≤12∧v<2 ^ k∧(p=a→q=b→v=(a&&&b) % 2 ^ k)) (fun s=>4096 - s.2.toNat) _ ?_ FU (0,1) ⟨0,0,rfl,by omega,by simp,fun _ _=>by simp [Nat.mod_one]⟩ (by rw [FU_eq];omega)
 rintro n _ ⟨v,k,rfl,hk,hv,hm⟩ ih
 show Wp (bu p q (n+1) (v:Int) ((2 ^ k:Nat):Int)) _
 rw [bu]
 by_cases h:k=12
 ·subst h
  rw [ah (by decide)]
  refine df.2 ⟨⟨by omega,by omega⟩,fun h1 h2=>?_⟩
  rw [hm h1 h2]
 ·have hpl:=mJ (k:=k) (by omega)
  have hp0:0<(2 ^ k:Nat):=Nat.pos_of_ne_zero (by simp)
  have ps:(2 ^ (k+1):Nat)=2 ^ k*2:=Nat.pow_succ ..
  have t1:=nt (p:=((2 ^ k:Nat):Int)) hp (by omega)
  have t2:=nt (p:=((2 ^ k:Nat):Int)) hq (by omega)
  have step:∀ (w:Nat),(w=v+2 ^ k∧(p=a→q=b→a / 2 ^ k % 2=1∧b / 2 ^ k % 2=1))∨(w=v∧(p=a→q=b→¬ (a / 2 ^ k % 2=1∧b / 2 ^ k % 2=1))) →
    Wp (bu p q n (w:Int) ((2 ^ (k+1):Nat):Int)) (fun r=>(0≤r∧r<4096)∧(p=a→q=b→r=(((a&&&b) % 4096:Nat):Int))):=by
   intro w hw
   refine ih ((w:Int),((2 ^ (k+1):Nat):Int)) ⟨w,k+1,rfl,by omega,by omega,fun h1 h2=>?_⟩ (by simp only [Int.toNat_natCast];omega)
   rw [mg k (hm h1 h2)]
   rcases hw with ⟨rfl,h3⟩ | ⟨rfl,h3⟩
   ·rw [if_pos (h3 h1 h2)];omega
   ·rw [if_neg (h3 h1 h2)];omega
  rw [ai (by omega),al ⟨by omega,w64 t1.1 t1.2⟩,al (by omega),al ⟨by omega,w64 t2.1 t2.2⟩,
   w64 (a:=((2 ^ k:Nat):Int)*2) (by omega) (by omega),w64 (a:=(v:Int)+((2 ^ k:Nat):Int)) (by omega) (by omega),
   show ((2 ^ k:Nat):Int)*2=((2 ^ (k+1):Nat):Int) by omega,show (v:Int)+((2 ^ k:Nat):Int)=((v+2 ^ k:Nat):Int) by omega]
  have f1:p=a→(Int.tmod (Int.tdiv p ((2 ^ k:Nat):Int)) 2=1↔a / 2 ^ k % 2=1):=by
   rintro rfl;rw [nT,show (2:Int)=((2:Nat):Int) from rfl,nG];omega
  have f2:q=b→(Int.tmod (Int.tdiv q ((2 ^ k:Nat):Int)) 2=1↔b / 2 ^ k % 2=1):=by
   rintro rfl;rw [nT,show (2:Int)=((2:Nat):Int) from rfl,nG];omega
  by_cases c1:Int.tmod (Int.tdiv p ((2 ^ k:Nat):Int)) 2=1
  ·rw [ai c1]
   by_cases c2:Int.tmod (Int.tdiv q ((2 ^ k:Nat):Int)) 2=1
   ·rw [ai c2]
    exact step _ (.inl ⟨rfl,fun h1 h2=>⟨(f1 h1).1 c1,(f2 h2).1 c2⟩⟩)
   ·rw [ah c2]
    exact step _ (.inr ⟨rfl,fun h1 h2 h=>c2 ((f2 h2).2 h.2)⟩)
  ·rw [ah c1]
   exact step _ (.inr ⟨rfl,fun h1 h2 h=>c1 ((f1 h1).2 h.1)⟩)

def eC (a b:Nat):Nat:=a+b - (a&&&b) % 4096

theorem sQ {a b:Nat} (ha:a≤9007199254740992) (hb:b≤4096):dI (a:Int) (b:Int)=some ((eC a b:Nat):Int):=by
 obtain ⟨r,e,h0,h⟩:=yw a b ⟨by omega,by omega⟩ ⟨by omega,by omega⟩ a b
 have hx:a&&&b≤b:=Nat.and_le_right
 have hm:=Nat.mod_le (a&&&b) 4096
 rw [dI,dT,e,ae,ae,h rfl rfl]
 rw [w64 (a:=(a:Int)+(b:Int)) (by omega) (by omega),w64 (by omega) (by omega),eC]
 congr 1;omega

theorem A3 {a b:Nat} (ha:a<4096) (hb:b<4096):eC a b=a|||b:=by
 have hx:=nC a b
 have hy:a&&&b≤a:=Nat.and_le_left
 rw [eC,Nat.mod_eq_of_lt (by omega)]
 omega

theorem Ai (a b:Nat):a≤eC a b∧eC a b≤a+b:=by
 have hx:a&&&b≤b:=Nat.and_le_right
 have hm:=Nat.mod_le (a&&&b) 4096
 rw [eC];omega

theorem Av {a:Nat} (ha:a<4096):4096≤eC a 4096:=by
 have hx:a&&&4096≤a:=Nat.and_le_left
 have hm:=Nat.mod_le (a&&&4096) 4096
 rw [eC];omega

def prC (f:List (ByteArray×Int)) (w:ByteArray):Int:=if 0≤dY f w then (gt f (dY f w)).2 else cM w

theorem ve {f:List (ByteArray×Int)} (h:f.length≤1099511627776) {w:ByteArray} (hw:w.size≤1000000000):gF f w=some (prC f w):=by
 have hr:=qN f w
 rw [gF,lI _ _ h,ae,prC]
 by_cases h0:0≤dY f w
 ·rw [ai h0,al (by omega),if_pos h0]
 ·rw [ah h0,jZ hw,ae,if_neg h0]

theorem pw {f:List (ByteArray×Int)} (hv:V12 f) (w:ByteArray) : -1≤prC f w∧prC f w≤4096:=by
 rw [prC]
 by_cases h0:0≤dY f w
 ·have:=hv _ (wz (by omega:¬ dY f w<0)).1
  rw [if_pos h0];omega
 ·rw [if_neg h0]
  rcases ir w with ⟨e,_⟩ | ⟨n,hn,_,e⟩ <;> rw [e] <;> omega

def ju (f:List (ByteArray×Int)):List ByteArray→Nat→Option Nat
 | [],v=>some v
 | w::r,v=>if prC f w<0 then none else ju f r (eC v (prC f w).toNat)

def ll (f:List (ByteArray×Int)):List ByteArray→Nat→Option Nat
 | [],v=>some v
 | w::r,v=>if 0≤prC f w∧prC f w≤4095 then ll f r (v|||(prC f w).toNat) else none

theorem wu {f:List (ByteArray×Int)}:∀ (W:List ByteArray) (v x:Nat),ju f W v=some x→v≤x
 | [],v,x,h=>by simp only [ju] at h;cases h;exact Nat.le_refl _
 | w::r,v,x,h=>by
  simp only [ju] at h
  split at h
  ·cases h
  ·have:=wu r _ x h
   have:=Ai v (prC f w).toNat
   omega

theorem Ah {f:List (ByteArray×Int)} (hv:V12 f):∀ (W:List ByteArray) (v:Nat),v<4096 →
  (∃ x,x<4096∧ll f W v=some x∧ju f W v=some x)∨(ll f W v=none∧(ju f W v=none∨∃ x,ju f W v=some x∧4096≤x))
 | [],v,h=>.inl ⟨v,h,rfl,rfl⟩
 | w::r,v,h=>by
  have hr:=pw hv w
  simp only [ll,ju]
  by_cases h1:prC f w<0
  ·right;rw [if_neg (by omega),if_pos h1];exact ⟨rfl,.inl rfl⟩
  ·rw [if_neg h1]
   by_cases h2:prC f w≤4095
   ·rw [if_pos ⟨by omega,h2⟩,A3 h (by omega)]
    exact Ah hv r _ (nY h (by omega))
   ·right
    rw [if_neg (fun h=>h2 h.2)]
    refine ⟨rfl,?_⟩
    have e:(prC f w).toNat=4096:=by omega
    rw [e]
    cases hs:ju f r (eC v 4096) with
    | none=>exact .inl rfl
    | some x=>exact .inr ⟨x,rfl,Nat.le_trans (Av h) (wu r _ x hs)⟩

theorem zU {w:ByteArray}:(0≤cM w∧cM w≤4095∧cH w=(cM w,true))∨(¬ (0≤cM w∧cM w≤4095)∧((cH w).2=false∨¬ (0≤(cH w).1∧(cH w).1≤4095))):=by
 rcases ir w with ⟨e,h⟩ | ⟨n,hn,rfl,e⟩
 ·right
  refine ⟨by omega,?_⟩
  cases hd:(cH w).2 with
  | false=>exact .inl rfl
  | true =>
   right
   intro hb
   have:=(pX hd).1
   have e1:(cH w).1=(((cH w).1.toNat:Nat):Int):=by omega
   rw [e1] at this
   exact h _ (by omega) this
 ·have ed:cH (bG (n:Int))=((n:Int),true):=kO ⟨by omega,by omega⟩
  by_cases h2:n≤4095
  ·left;rw [e,ed];exact ⟨by omega,by omega,rfl⟩
  ·right;rw [e,ed];exact ⟨by omega,.inr (by simp only;omega)⟩

theorem jk {f:List (ByteArray×Int)} (h:f.length≤1099511627776) (hv:V12 f) (b:Int) (W:List ByteArray) (hw:∀ w∈W,w.size≤1000000000):∀ (k i n v:Nat),i+k=W.length→k<n→W.length≤1000000000→v<4096 →
  bE f b W n (v:Int) (i:Int)=some (match ll f (W.drop i) v with | none=>.inl () | some x=>.inr (x:Int))
 | 0,i,n,v,hik,hn,hl,hv0=>by
  obtain ⟨n,rfl⟩:∃ m,n=m+1:=⟨n - 1,by omega⟩
  rw [bE,ah (by omega),List.drop_of_length_le (by omega)]
  rfl
 | k+1,i,n,v,hik,hn,hl,hv0=>by
  obtain ⟨n,rfl⟩:∃ m,n=m+1:=⟨n - 1,by omega⟩
  have hi:i<W.length:=by omega
  have hd:W.drop i=W[i]::W.drop (i+1):=List.drop_eq_getElem_cons hi
  have hr:=qN f W[i]
  have hp:=pw hv W[i]
  have orx:0≤prC f W[i]∧prC f W[i]≤4095→Go.bits .or .i64 (v:Int) (prC f W[i])=((v|||(prC f W[i]).toNat:Nat):Int):=fun hx=>by
   have:=zF (a:=v) (b:=(prC f W[i]).toNat) (by omega) (by omega)
   rwa [aO hx.1] at this
  rw [bE,ai (by omega),al (by omega),bT hi,hd,sS _ _ h,ae,bY (i:=i) (by omega)]
  simp only [ll]
  by_cases h0:0≤dY f W[i]
  ·have hval:=hv _ (wz (by omega:¬ dY f W[i]<0)).1
   have ep:prC f W[i]=(gt f (dY f W[i])).2:=by rw [prC,if_pos h0]
   have hb:0≤prC f W[i]∧prC f W[i]≤4095:=by rw [ep];omega
   rw [ai h0,al (by omega),← ep,orx hb,if_pos hb]
   exact jk h hv b W hw k (i+1) n _ (by omega) (by omega) hl (nY hv0 (by omega))
  ·have ep:prC f W[i]=cM W[i]:=by rw [prC,if_neg h0]
   rw [ah h0,lW (hw _ (List.getElem_mem hi)),ae]
   rcases zU (w:=W[i]) with ⟨d1,d2,d3⟩ | ⟨d1,d2⟩
   ·have hb:0≤prC f W[i]∧prC f W[i]≤4095:=by rw [ep];exact ⟨d1,d2⟩
    rw [d3,Bool.not_true,cond_false,kv,ae,decide_eq_true ⟨d1,d2⟩,Bool.not_true,cond_false,← ep,orx hb,if_pos hb]
    exact jk h hv b W hw k (i+1) n _ (by omega) (by omega) hl (nY hv0 (by omega))
   ·rw [if_neg (by rw [ep];exact d1)]
    cases hd2:(cH W[i]).2 with
    | false=>rw [Bool.not_false,cond_true]
    | true =>
     rw [Bool.not_true,cond_false,kv,ae,decide_eq_false (d2.resolve_left (by rw [hd2];simp)),Bool.not_false,cond_true]

theorem lf {f:List (ByteArray×Int)} (h:f.length≤1099511627776) (hv:V12 f) (b:Int) (W:List ByteArray) (hw:∀ w∈W,w.size≤1000000000):∀ (k i n v:Nat),i+k=W.length→k<n→W.length≤1000000000→v≤8192*i →
  cd f b W n (v:Int) (i:Int)=some (match ju f (W.drop i) v with | none=>.inl () | some x=>.inr (x:Int))
 | 0,i,n,v,hik,hn,hl,hv0=>by
  obtain ⟨n,rfl⟩:∃ m,n=m+1:=⟨n - 1,by omega⟩
  rw [cd,ah (by omega),List.drop_of_length_le (by omega)]
  rfl
 | k+1,i,n,v,hik,hn,hl,hv0=>by
  obtain ⟨n,rfl⟩:∃ m,n=m+1:=⟨n - 1,by omega⟩
  have hi:i<W.length:=by omega
  have hd:W.drop i=W[i]::W.drop (i+1):=List.drop_eq_getElem_cons hi
  have hp:=pw hv W[i]
  rw [cd,ai (by omega),al (by omega),bT hi,hd,ve h (hw _ (List.getElem_mem hi)),ae,bY (i:=i) (by omega)]
  simp only [ju]
  by_cases h0:prC f W[i]<0
  ·rw [ai h0,if_pos h0]
  ·have he:=Ai v (prC f W[i]).toNat
   have e:=sQ (a:=v) (b:=(prC f W[i]).toNat) (by omega) (by omega)
   rw [aO (by omega)] at e
   rw [ah h0,if_neg h0,e,ae]
   exact lf h hv b W hw k (i+1) n _ (by omega) (by omega) hl (by omega)

end Go.Eng
