/- What is proved: any operation that the engine knows does to the machine's state what the engine reckons; and what is reckoned hangs on the operation's own operands and on the objects that they name. Each operation bears its own side condition. -/
import Derived.Test.YtdnlgpmmkchopaaGreatDoorCExactRunDeskEng11
set_option linter.unusedVariables false
set_option linter.unusedSimpArgs false
namespace Go.Eng
open Go

variable {P : Program} {s : S} {o : Oper} {ev : Ev}

def iU (O:Nat→AO) (x:AV):Option Ev :=
 match x with
 | .pt k _=>match O k with
  | .box _=>some ⟨x,[],[],none⟩
  | _=>none
 | .pe k _ _=>match O k with
  | .arr ..=>some ⟨x,[],[],none⟩
  | _=>none
 | .bp .. | .be .. | .fn ..=>some ⟨x,[],[],none⟩
 | _=>none

theorem wo {nin:Nat} {x:Operand} (ho:o.op=.nilCheck x) (he:iU s.O (evO s x)=some ev):bz P nin o s ev:=by
 have fin:∀ {a:Act} {b p:Nat} {w:World},a.eval x=.pointer (some ⟨b,p,none⟩)→(execOp a.eval o).run P w=.ok (.value (a.eval x)) w:=fun e=>by
  simp only [execOp,ho,e,Sem.run_pure]
 unfold iU at he
 split at he
 ·rename_i k p hx
  split at he
  ·rename_i cs hO
   cases he
   refine .val fun _ X N m a w hr=>?_
   have e1:=hr.eval x
   have e2:=e1
   rw [hx] at e1
   have hsh:s.sh k=.box cs.length:=by simp [S.sh,hO,AO.sh]
   simp only [VR,hsh] at e1
   obtain ⟨L,_,e1⟩:=e1
   exact ⟨_,fin e1,e2⟩
  ·cases he
 ·rename_i k i p hx
  split at he
  ·rename_i sz es hO
   cases he
   refine .val fun _ X N m a w hr=>?_
   have e1:=hr.eval x
   have e2:=e1
   rw [hx] at e1
   have hsh:s.sh k=.arr sz es.length:=by simp [S.sh,hO,AO.sh]
   simp only [VR,hsh] at e1
   obtain ⟨_,L,_,e1⟩:=e1
   exact ⟨_,fin e1,e2⟩
  ·cases he
 ·rename_i cs p hx
  cases he
  refine .val fun _ X N m a w hr=>?_
  have e1:=hr.eval x
  have e2:=e1
  rw [hx] at e1
  simp only [VR] at e1
  obtain ⟨b,C,E,fz,e1,_⟩:=e1
  exact ⟨_,fin e1,e2⟩
 ·rename_i sz e p hx
  cases he
  refine .val fun _ X N m a w hr=>?_
  have e1:=hr.eval x
  have e2:=e1
  rw [hx] at e1
  simp only [VR] at e1
  obtain ⟨b,q,C,E,fz,e1,_⟩:=e1
  exact ⟨_,fin e1,e2⟩
 ·rename_i f caps hx
  cases he
  refine .val fun _ X N m a w hr=>?_
  have e1:=hr.eval x
  have e2:=e1
  rw [hx] at e1
  simp only [VR] at e1
  obtain ⟨C,e1,_⟩:=e1
  exact ⟨_,by simp only [execOp,ho,e1,Sem.run_pure],e2⟩
 ·cases he

def nR (b:Builtin) (x y:AV):Option Ev :=
 match b,x,y with
 | .max,.v (.int k p),.v (.int _ q)=>some ⟨.v (.int k (if q>p then q else p)),[],[],none⟩
 | .min,.v (.int k p),.v (.int _ q)=>some ⟨.v (.int k (if q<p then q else p)),[],[],none⟩
 | _,_,_=>none

theorem sg {nin:Nat} {b:Builtin} {x y:Operand} {ts:Array TypeId} (ho:o.op=.call { callee:=.builtin b,args:=#[x,y],argTypes:=ts }) (he:nR b (evO s x) (evO s y)=some ev):bz P nin o s ev:=by
 unfold nR at he
 split at he
 ·rename_i k p k' q hx hy
  cases he
  exact gX hx hy fun _ a w e1 e2=>by simp [execOp,ho,e1,e2,resolve,invoke,builtin,Builtin.max_,Builtin.max2]
 ·rename_i k p k' q hx hy
  cases he
  exact gX hx hy fun _ a w e1 e2=>by simp [execOp,ho,e1,e2,resolve,invoke,builtin,Builtin.min_,Builtin.min2]
 ·cases he

def wy (P:Program) (t:TypeId) (x:AV):Option Ev :=
 match x with
 | .v (.slice none 0 0)=>bif hJ P t then some ⟨.v (.int .i64 0),[],[],none⟩ else none
 | _=>none

theorem zQ {nin:Nat} {t:TypeId} {x:Operand} (ho:o.op=.call { callee:=.builtin .cap,args:=#[x],argTypes:=#[t] }) (he:wy P t (evO s x)=some ev):bz P nin o s ev:=by
 unfold wy at he
 split at he
 ·rename_i hx
  cases ht:hJ P t with
  | false=>simp [ht] at he
  | true =>
   simp only [ht,cond_true] at he
   cases he
   obtain ⟨e,hu⟩:=ic ht
   exact iJ hx fun _ a w e1=>by simp [execOp,ho,e1,resolve,invoke,builtin,Builtin.cap_,run_underlying hu,goInt]
 ·cases he

def byteNums:List (List Value)→Option (List Int)
 | []=>some []
 | [.int .u8 n]::r=>match byteNums r with
  | some ns=>some (n::ns)
  | none=>none
 | _=>none

theorem byteNums_spec:∀ {es:List (List Value)} {ns:List Int},byteNums es=some ns→es.flatten=ns.map (Value.int .u8)
 | [],ns,h=>by simp [byteNums] at h;subst h;rfl
 | e::r,ns,h=>by
  unfold byteNums at h
  split at h
  ·rename_i heq;cases heq
  ·rename_i n r' heq
   cases heq
   split at h
   ·rename_i ns' hn
    cases h
    simp [byteNums_spec hn]
   ·cases h
  ·cases h

def nL (P:Program) (src dst:TypeId):Bool :=
 match P.underlying src,P.underlying dst with
 | some (.slice e),some .string=>match P.underlying e,P.info? e with
  | some (.int .u8),some i=>Nat.beq i.size 1
  | _,_=>false
 | _,_=>false

def iX (P:Program) (O:Nat→AO) (els:Option (List (List Value))) (src dst:TypeId) (x:AV):Option Ev :=
 bif nL P src dst then
  match iR 1 O els x with
  | some (es,c)=>match byteNums es with
   | some ns=>some ⟨.v (.string (ns.foldl (fun r n=>r.push (UInt8.ofNat n.toNat)) ByteArray.empty)),[],[],some c⟩
   | none=>none
  | none=>none
 else none

theorem wJ {nin:Nat} {els:Option (List (List Value))} {src dst:TypeId} {x:Operand} (ho:o.op=.convert src dst x) (he:iX P s.O els src dst (evO s x)=some ev):bz P nin o s ev:=by
 unfold iX at he
 cases hb:nL P src dst with
 | false=>simp [hb] at he
 | true =>
  simp only [hb,cond_true] at he
  split at he
  ·rename_i es c hs
   split at he
   ·rename_i ns hn
    cases he
    refine .val fun hc X N m a w hr=>?_
    have hsrc:=lj hs hc hr (hr.eval x)
    unfold nL at hb
    split at hb
    ·rename_i e h1 h2
     split at hb
     ·rename_i i h3 h4
      refine ⟨.string (ns.foldl (fun r n=>r.push (UInt8.ofNat n.toNat)) ByteArray.empty),?_,by simp only [VR]⟩
      have hf:=hsrc.first (P:=P) (w':=w) rfl
      have hfl:=fJ es (fun e he=>(hsrc.choose_spec.choose_spec.2.1 e he).1)
      obtain ⟨ad,cap,hv,hok,_⟩:=hsrc
      simp only [execOp,ho,hv,Sem.run_bind,run_convert_bytes_string w src dst e ad es.length cap h1 h3 h2]
      cases ad with
      | none =>
       have hes:es=[]:=by
        rcases (lj hs hc hr (hr.eval x)) with ⟨ad',cap',hv',_,h0 | ⟨b,off,C,E,fz,had,_⟩⟩
        ·exact h0
        ·rw [hv] at hv';cases hv';cases had
       subst hes
       simp [byteNums] at hn
       subst hn
       simp [Conv.bytesToString]
      | some p =>
       have hl:(loadCells p es.length).run P w=.ok (ns.map (Value.int .u8)).toArray w:=by
        have:=hf
        rw [hv] at this
        simp only [Builtin.firstCells,Nat.mul_one] at this
        rw [this,byteNums_spec hn]
       rw [run_bytesToString w p es.length cap ns hl]
       rfl
     ·cases hb
    ·cases hb
   ·cases he
  ·cases he

def nilC:Operand→Bool
 | .const .nilIface=>true
 | _=>false

theorem za {y:Operand} (h:nilC y=true):y=.const .nilIface:=by
 unfold nilC at h
 split at h
 ·rfl
 ·cases h

def aZ (P:Program) (s:S) (h:pf) (o:Oper):Option Ev :=
 match o.op with
 | .move x | .assign x=>some (zn (evO s x))
 | .pick c a b=>vJ (evO s c) (evO s a) (evO s b)
 | .extract x i=>pK (evO s x) i
 | .makeFunc (.func f) first caps=>bif first.isEmpty then some (tj f (caps.toList.map (evO s))) else none
 | .binOp op t x y _=>match nilC y with
  | true=>xU P op t (evO s x)
  | false=>yF P h.raw op t (evO s x) (evO s y)
 | .unOp op _ x=>zI h.raw op (evO s x)
 | .convert src dst x=>match wb P h.raw src dst (evO s x) with
  | some e=>some e
  | none=>iX P s.O h.els src dst (evO s x)
 | .index t x i=>tu P t (evO s x) (evO s i)
 | .indexAddr t x i=>match dE P t with
  | some (_,n)=>iv n s.O (evO s x) (evO s i)
  | none=>none
 | .fieldAddr t x f=>match nQ P t f with
  | some off=>lA off s.O (evO s x)
  | none=>none
 | .load t x=>match iY P t with
  | some (g,n)=>match gload x with
   | some q=>bif g then none else some ⟨.bs false q.1 q.2,[],[],none⟩
   | none=>mX g n s.O (evO s x)
  | none=>none
 | .store t p x=>match o.dst,iY P t with
  | none,some (_,n)=>lu n s.O h.els (evO s p) (evO s x)
  | _,_=>none
 | .slice t x lo hi mx=>match dE P t with
  | some (_,n)=>jH n s h.nk (evO s x) lo hi mx
  | none=>kz P t s (evO s x) lo hi mx
 | .alloc t=>match gf P t with
  | some zs=>some (xK h.nk zs)
  | none=>none
 | .box _ x=>yC h.nk (evO s x)
 | .build t parts=>match P.underlying t with
  | some (.struct fs)=>match jO P fs.toList,gf P t with
   | some offs,some zs=>un offs zs (parts.toList.map fun p=>(p.1,evO s p.2))
   | _,_=>none
  | _=>none
 | .buildSlice t len parts=>match dE P t with
  | some (e,n)=>match gf P e with
   | some zs=>bif h.raw then kZ h.nk len zs (parts.toList.map fun p=>(p.1,evO s p.2)) else mf n h.nk len (parts.toList.map fun p=>(p.1,evO s p.2))
   | none=>none
  | none=>none
 | .makeSlice t l c=>match dE P t with
  | some (e,_)=>match gf P e with
   | some zs=>wj h.nk (iZ P e) zs (evO s l) (evO s c)
   | none=>none
  | none=>none
 | .nilCheck x=>iU s.O (evO s x)
 | .makeMap t none=>bif jr P t then some (ur h.nk) else none
 | .mapUpdate t m k x=>match o.dst with
  | none=>bif jr P t then io s.O (evO s m) (evO s k) (evO s x) else none
  | some _=>none
 | .lookup t m k false=>bif jr P t then jz s.O (evO s m) (evO s k) else none
 | .call { callee:=.builtin .len,args:=⟨[x]⟩,argTypes:=⟨[t]⟩ }=>bif tA P t (evO s x) && ni s.O (evO s x) then yz (evO s x) else none
 | .call { callee:=.builtin .cap,args:=⟨[x]⟩,argTypes:=⟨[t]⟩ }=>wy P t (evO s x)
 | .call { callee:=.builtin .append,args:=⟨[b,x]⟩,argTypes:=⟨[t,t']⟩ }=>match dE P t with
   | some (e,n)=>match gf P e with
    | some zs=>kp P t t' n (iZ P e) zs s.O h.nk h.els h.els2 (evO s b) (evO s x)
    | none=>none
   | none=>none
 | .call { callee:=.builtin .clear,args:=⟨[x]⟩,argTypes:=⟨[t]⟩ }=>match dE P t with
   | some (e,n)=>match gf P e with
    | some zs=>lw n zs s.O (evO s x)
    | none=>none
   | none=>none
 | .call { callee:=.builtin .max,args:=⟨[x,y]⟩,.. }=>nR .max (evO s x) (evO s y)
 | .call { callee:=.builtin .min,args:=⟨[x,y]⟩,.. }=>nR .min (evO s x) (evO s y)
 | _=>none

theorem nh {nin:Nat} {h:pf} (he:aZ P s h o=some ev):bz P nin o s ev:=by
 unfold aZ at he
 split at he
 ·rename_i x ho;cases he;exact vA (.inl ho)
 ·rename_i x ho;cases he;exact vA (.inr ho)
 ·rename_i c a b ho;exact Af ho he
 ·rename_i x i ho;exact xg ho he
 ·rename_i f first caps ho
  cases hf:first.isEmpty with
  | false=>simp [hf] at he
  | true =>
   simp only [hf,cond_true] at he
   cases he
   have:first=#[]:=by simpa using hf
   subst this
   exact wU ho
 ·rename_i op t x y yt ho
  split at he
  ·rename_i hy;rw [za hy] at ho;exact AI ho he
  ·exact AH ho he
 ·rename_i op t x ho;exact AT ho he
 ·rename_i src dst x ho
  split at he
  ·rename_i e hc;cases he;exact zC ho hc
  ·exact wJ ho he
 ·rename_i t x i ho;exact yL ho he
 ·rename_i t x i ho
  split at he
  ·rename_i e n ht;exact uV ho ht he
  ·cases he
 ·rename_i t x f ho
  split at he
  ·rename_i off ht;exact yS ho ht he
  ·cases he
 ·rename_i t x ho
  split at he
  ·rename_i g n ht
   split at he
   ·rename_i q hq
    cases g with
    | true=>simp at he
    | false=>simp only [cond_false,Option.some.injEq] at he;subst he;exact yM ho ht hq
   ·exact zV ho ht he
  ·cases he
 ·rename_i t p x ho
  split at he
  ·rename_i g n hd ht;exact zw ho hd ht he
  ·cases he
 ·rename_i t x lo hi mx ho
  split at he
  ·rename_i e n ht;exact zc ho ht he
  ·exact xP ho he
 ·rename_i t ho
  split at he
  ·rename_i zs hz;cases he;exact zt ho hz
  ·cases he
 ·rename_i t x ho;exact AC ho he
 ·rename_i t parts ho
  split at he
  ·rename_i fs hu
   split at he
   ·rename_i offs zs h1 h2;exact zk ho hu h1 h2 he
   ·cases he
  ·cases he
 ·rename_i t len parts ho
  split at he
  ·rename_i e n ht
   split at he
   ·rename_i zs hz
    cases hraw:h.raw with
    | true=>simp only [hraw,cond_true] at he;exact sq ho ht hz he
    | false=>simp only [hraw,cond_false] at he;exact tD ho ht hz he
   ·cases he
  ·cases he
 ·rename_i t l c ho
  split at he
  ·rename_i e n ht
   split at he
   ·rename_i zs hz;exact zH ho ht hz he
   ·cases he
  ·cases he
 ·rename_i x ho;exact wo ho he
 ·rename_i t ho
  cases ht:jr P t with
  | false=>simp [ht] at he
  | true=>simp only [ht,cond_true] at he;cases he;exact xi ho
 ·rename_i t m k x ho
  split at he
  ·rename_i hd
   cases ht:jr P t with
   | false=>simp [ht] at he
   | true=>simp only [ht,cond_true] at he;exact uR ho hd ht he
  ·cases he
 ·rename_i t m k ho
  cases ht:jr P t with
  | false=>simp [ht] at he
  | true=>simp only [ht,cond_true] at he;exact yg ho ht he
 ·rename_i x t ho
  cases hb:(tA P t (evO s x) && ni s.O (evO s x)) with
  | false=>simp [hb] at he
  | true =>
   simp only [hb,cond_true] at he
   simp only [Bool.and_eq_true] at hb
   exact AJ ho hb.1 hb.2 he
 ·rename_i x t ho;exact zQ ho he
 ·rename_i b x t t' ho
  split at he
  ·rename_i e n ht
   split at he
   ·rename_i zs hz;exact yc ho ht hz he
   ·cases he
  ·cases he
 ·rename_i x t ho
  split at he
  ·rename_i e n ht
   split at he
   ·rename_i zs hz;exact ze ho ht hz he
   ·cases he
  ·cases he
 ·rename_i x y ts ho;exact sg ho he
 ·rename_i x y ts ho;exact sg ho he
 ·cases he

def gA (P:Program) (s:S) (h:pf) (o:Oper):Option Ev :=
 match aZ P s h o,h.y with
 | some ev,none=>some ev
 | some ev,some y=>some ⟨y,ev.hw,ev.nw,some (condOf ev.c∧ev.x=y)⟩
 | none,_=>none

theorem wq {nin:Nat} {h:pf} (he:gA P s h o=some ev):bz P nin o s ev:=by
 unfold gA at he
 split at he
 ·rename_i ev' h1 h2;cases he;exact nh h1
 ·rename_i ev' y h1 h2
  cases he
  intro X N m a w K Q hn hr hd hf hc hK
  obtain ⟨hc1,hc2⟩:=hc
  subst hc2
  exact nh (nin:=nin) h1 X N m a w K Q hn hr hd hf hc1 hK
 ·cases he

end Go.Eng
