/- What is proved: each operation that a function of the program is made of, as the engine reckons it on an abstract state, does just that to the machine's state. Each theorem bears the operation's own side condition. -/
import Derived.Test.YtomemaanjendhaaDoorCExactShowShortEng2
set_option linter.unusedVariables false
set_option linter.unusedSimpArgs false
namespace Go.Eng
open Go

/-- what an operation does: the value of its slot, the objects that it writes, the objects that are new, its side condition -/
structure Ev where
  x : AV
  hw : List (Nat × AO)
  nw : List Nat
  c : Option Prop

/-- no condition, or this one -/
@[reducible] def condOf : Option Prop → Prop
  | none => True
  | some p => p

variable {P : Program} {s : S} {o : Oper} {ev : Ev}

def Ev.hp (ev : Ev) (s : S) : S := ev.hw.foldl (fun s p => s.setO p.1 p.2) s
def Ev.ap (ev : Ev) (dst : Option Nat) (s : S) : S := match dst with | some d => (ev.hp s).setT d ev.x | none => ev.hp s

/-- what the generator may tell of an operation: another spelling of its value, of the elements that it reads; that a sum is left wrapped; the new object's name -/
structure Hint where
  y : Option AV := none
  els : Option (List (List Value)) := none
  els2 : Option (List (List Value)) := none
  raw : Bool := false
  nk : Nat := 0

def Sound (P : Program) (nin : Nat) (o : Oper) (s : S) (ev : Ev) : Prop :=
  ∀ (X : Env) (N : Nat) (m : Nat → Option Loc) (a : Act) (w : World) (K : Act → World → Prop) (Q : Exit → Act → World → Prop), X.nin = nin → Rel X N s m a w →
    (∀ d, o.dst = some d → d < N) → (∀ k, k ∈ ev.nw → nin ≤ k ∧ s.free k = true) → condOf ev.c → (∀ m' a' w', Rel X N (ev.ap o.dst s) m' a' w' → K a' w') → o.wp P a w K Q

/-- an operation that reckons a value and leaves memory alone -/
theorem Sound.val {nin : Nat} {x : AV} {nw : List Nat} {c : Option Prop}
    (h : condOf c → ∀ (X : Env) (N : Nat) (m : Nat → Option Loc) (a : Act) (w : World), Rel X N s m a w → ∃ v, (execOp a.eval o).run P w = .ok (.value v) w ∧ VR X m s.sh x v) : Sound P nin o s ⟨x, [], nw, c⟩ := by
  intro X N m a w K Q _ hr hd _ hc hK
  obtain ⟨v, h1, h2⟩ := h hc X N m a w hr
  refine wp_of_value h1 (hK m _ w ?_)
  cases hdst : o.dst with
  | none => exact hr
  | some d => exact hr.putV (hd d hdst) h2

/-! ### moves -/
def evMove (x : AV) : Ev := ⟨x, [], [], none⟩

theorem snd_move {nin : Nat} {x : Operand} (ho : o.op = .move x ∨ o.op = .assign x) : Sound P nin o s (evMove (evO s x)) :=
  .val fun _ X N m a w hr => ⟨a.eval x, by rcases ho with h | h <;> simp [execOp, h], hr.eval x⟩

def evPick (c a b : AV) : Option Ev :=
  match c with
  | .v (.bool t) => some ⟨bif t then a else b, [], [], none⟩
  | _ => none

theorem snd_pick {nin : Nat} {c x y : Operand} (ho : o.op = .pick c x y) (he : evPick (evO s c) (evO s x) (evO s y) = some ev) : Sound P nin o s ev := by
  unfold evPick at he
  split at he
  · rename_i t hc
    cases he
    refine .val fun _ X N m a w hr => ?_
    have h1 := hr.eval c
    rw [hc] at h1
    simp only [VR] at h1
    cases t with
    | true => exact ⟨a.eval x, by simp [execOp, ho, h1, asBool], hr.eval x⟩
    | false => exact ⟨a.eval y, by simp [execOp, ho, h1, asBool], hr.eval y⟩
  · cases he

def evExtract (x : AV) (i : Nat) : Option Ev :=
  match x with
  | .tup vs => match vs[i]? with
    | some y => some ⟨y, [], [], none⟩
    | none => none
  | _ => none

theorem snd_extract {nin : Nat} {x : Operand} {i : Nat} (ho : o.op = .extract x i) (he : evExtract (evO s x) i = some ev) : Sound P nin o s ev := by
  unfold evExtract at he
  split at he
  · rename_i vs hx
    split at he
    · rename_i y hy
      cases he
      refine .val fun _ X N m a w hr => ?_
      have h1 := hr.eval x
      rw [hx] at h1
      simp only [VR] at h1
      obtain ⟨C, h1, h2⟩ := h1
      obtain ⟨v, h3, h4⟩ := VRs_get h2 i y hy
      exact ⟨v, by simp [execOp, ho, h1, Instr.extract, h3], h4⟩
    · cases he
  · cases he

def evMakeFunc (f : FuncId) (caps : List AV) : Ev := ⟨.fn f caps, [], [], none⟩

theorem VRs_map {X : Env} {N : Nat} {m : Nat → Option Loc} {a : Act} {w : World} (hr : Rel X N s m a w) : ∀ (xs : List Operand), VRs X m s.sh (xs.map (evO s)) (xs.map a.eval)
  | [] => by simp [VRs]
  | x :: xs => by simp only [List.map_cons, VRs]; exact ⟨_, _, rfl, hr.eval x, VRs_map hr xs⟩

theorem snd_makeFunc {nin : Nat} {f : FuncId} {caps : Array Operand} (ho : o.op = .makeFunc (.func f) #[] caps) : Sound P nin o s (evMakeFunc f (caps.toList.map (evO s))) := by
  refine .val fun _ X N m a w hr => ⟨.func (.func f) #[] (caps.map a.eval), by simp [execOp, ho, Instr.makeFunc], ?_⟩
  simp only [VR]
  exact ⟨caps.toList.map a.eval, by rw [← List.map_toArray], VRs_map hr _⟩

/-! ### numbers, strings, bools -/
/-- are two values of one cell equal? -/
def valEq : Value → Value → Option Bool
  | .int k a, .int k' b => if k = k' then some (decide (a = b)) else none
  | .bool a, .bool b => some (a == b)
  | .string a, .string b => some (decide (a = b))
  | _, _ => none

def intRes (raw : Bool) (k : IntKind) (r : Int) : Ev := bif raw then ⟨.v (.int k (k.wrap r)), [], [], none⟩ else ⟨.v (.int k r), [], [], some (k.wrap r = r)⟩

def evInt (raw : Bool) (op : BinOp) (k : IntKind) (x : Int) (k' : IntKind) (y : Int) : Option Ev :=
  match op with
  | .shl => some ⟨.v (.int k (k.wrap (x * 2 ^ y.toNat))), [], [], some (0 ≤ y ∧ y ≤ k.bits)⟩
  | .shr => some ⟨.v (.int k (x / 2 ^ y.toNat)), [], [], some (0 ≤ y ∧ y ≤ k.bits)⟩
  | _ => if k = k' then
    match op with
    | .add => some (intRes raw k (x + y))
    | .sub => some (intRes raw k (x - y))
    | .mul => some (intRes raw k (x * y))
    | .quo => some ⟨.v (.int k (x.tdiv y)), [], [], some (y ≠ 0 ∧ k.wrap (x.tdiv y) = x.tdiv y)⟩
    | .rem => some ⟨.v (.int k (x.tmod y)), [], [], some (y ≠ 0)⟩
    | .and => some ⟨.v (.int k (Go.bits .and k x y)), [], [], none⟩
    | .or => some ⟨.v (.int k (Go.bits .or k x y)), [], [], none⟩
    | .xor => some ⟨.v (.int k (Go.bits .xor k x y)), [], [], none⟩
    | .andNot => some ⟨.v (.int k (Go.bits .andNot k x y)), [], [], none⟩
    | .eql => some ⟨.v (.bool (decide (x = y))), [], [], none⟩
    | .neq => some ⟨.v (.bool (!decide (x = y))), [], [], none⟩
    | .lss => some ⟨.v (.bool (decide (x < y))), [], [], none⟩
    | .leq => some ⟨.v (.bool (decide (x ≤ y))), [], [], none⟩
    | .gtr => some ⟨.v (.bool (decide (y < x))), [], [], none⟩
    | .geq => some ⟨.v (.bool (decide (y ≤ x))), [], [], none⟩
    | _ => none
    else none

theorem snd_int {nin : Nat} {raw : Bool} {op : BinOp} {t yt : TypeId} {x y : Operand} {k k' : IntKind} {p q : Int} (ho : o.op = .binOp op t x y yt) (hx : evO s x = .v (.int k p)) (hy : evO s y = .v (.int k' q))
    (he : evInt raw op k p k' q = some ev) : Sound P nin o s ev := by
  have core : ev.hw = [] ∧ ev.nw = [] ∧ ∃ r, ev.x = .v r ∧ (condOf ev.c → ∀ w, (do eqGuard op t x y (.int k p) (.int k' q); binOp op t (.int k p) (.int k' q)).run P w = .ok r w) := by
    have hg : eqGuard op t x y (.int k p) (.int k' q) = pure () := eqGuard_at_int ..
    cases op
    case shl =>
      cases he
      exact ⟨rfl, rfl, _, rfl, fun hc w => by simp only [hg, pure_bind, binOp_shl, shift_shl k k' p q hc.1 hc.2, Sem.run_pure]⟩
    case shr =>
      cases he
      exact ⟨rfl, rfl, _, rfl, fun hc w => by simp only [hg, pure_bind, binOp_shr, shift_shr k k' p q hc.1 hc.2, Sem.run_pure]⟩
    all_goals
      simp only [evInt] at he
      split at he
      case isFalse => cases he
      rename_i hk
      subst hk
      cases he
    case add => cases raw <;> exact ⟨rfl, rfl, _, rfl, fun hc w => by simp only [intRes, cond_true, cond_false] at hc; simp [hg, binOp, Op.intArith, hc]⟩
    case sub => cases raw <;> exact ⟨rfl, rfl, _, rfl, fun hc w => by simp only [intRes, cond_true, cond_false] at hc; simp [hg, binOp, Op.intArith, hc]⟩
    case mul => cases raw <;> exact ⟨rfl, rfl, _, rfl, fun hc w => by simp only [intRes, cond_true, cond_false] at hc; simp [hg, binOp, Op.intArith, hc]⟩
    case quo => exact ⟨rfl, rfl, _, rfl, fun hc w => by simp [hg, binOp, Op.intDiv, hc.1, hc.2]⟩
    case rem => exact ⟨rfl, rfl, _, rfl, fun hc w => by simp only at hc; simp [hg, binOp, Op.intDiv, hc]⟩
    case and => exact ⟨rfl, rfl, _, rfl, fun hc w => by simp only [hg, pure_bind, binOp_and, intBits_and, Sem.run_pure]⟩
    case or => exact ⟨rfl, rfl, _, rfl, fun hc w => by simp only [hg, pure_bind, binOp_or, intBits_or, Sem.run_pure]⟩
    case xor => exact ⟨rfl, rfl, _, rfl, fun hc w => by simp only [hg, pure_bind, binOp_xor, intBits_xor, Sem.run_pure]⟩
    case andNot => exact ⟨rfl, rfl, _, rfl, fun hc w => by simp only [hg, pure_bind, binOp_andNot, intBits_andNot, Sem.run_pure]⟩
    case eql => exact ⟨rfl, rfl, _, rfl, fun hc w => by simp [hg, binOp, Op.intCmp]; rfl⟩
    case neq => exact ⟨rfl, rfl, _, rfl, fun hc w => by simp [hg, binOp, Op.intCmp, bne]; rfl⟩
    case lss => exact ⟨rfl, rfl, _, rfl, fun hc w => by simp [hg, binOp, Op.intCmp]⟩
    case leq => exact ⟨rfl, rfl, _, rfl, fun hc w => by simp [hg, binOp, Op.intCmp]⟩
    case gtr => exact ⟨rfl, rfl, _, rfl, fun hc w => by simp [hg, binOp, Op.intCmp]⟩
    case geq => exact ⟨rfl, rfl, _, rfl, fun hc w => by simp [hg, binOp, Op.intCmp]⟩
  obtain ⟨x', hw', nw', c'⟩ := ev
  obtain ⟨h1, h2, r, h3, h4⟩ := core
  simp only at h1 h2 h3 h4
  subst h1; subst h2; subst h3
  refine .val fun hc X N m a w hr => ⟨r, ?_, by simp only [VR]⟩
  have e1 := hr.eval x
  have e2 := hr.eval y
  rw [hx] at e1; rw [hy] at e2
  simp only [VR] at e1 e2
  have := h4 hc w
  simp only [execOp, ho, e1, e2]
  rw [Sem.run_bind, this]
  rfl

end Go.Eng
