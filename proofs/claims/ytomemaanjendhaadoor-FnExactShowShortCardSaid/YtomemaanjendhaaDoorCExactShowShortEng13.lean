/- What is proved: what the engine reckons of an operation hangs on the operation's own operands and on the objects that they name. No conditions. -/
import Derived.Test.YtomemaanjendhaaDoorCExactShowShortEng12
set_option linter.unusedVariables false
set_option linter.unusedSimpArgs false
namespace Go.Eng
open Go

variable {P : Program} {s s' : S} {o : Oper} {ev : Ev}

/-- the own object that a value names at its head -/
def AV.id1 : AV → Option Nat
  | .sl k _ _ => some k
  | .pt k _ => some k
  | .pe k _ _ => some k
  | .mp k => some k
  | _ => none

theorem evIndexAddr_congr {n : Nat} {O O' : Nat → AO} {x i : AV} (h : ∀ k, x.id1 = some k → O k = O' k) : evIndexAddr n O x i = evIndexAddr n O' x i := by
  cases x <;> cases i <;> first
    | rfl
    | (rename_i y; cases y <;> first | rfl | simp only [evIndexAddr, h _ rfl])

theorem evField_congr {off : Nat} {O O' : Nat → AO} {x : AV} (h : ∀ k, x.id1 = some k → O k = O' k) : evField off O x = evField off O' x := by
  cases x <;> first
    | rfl
    | simp only [evField, h _ rfl]

theorem evLoad_congr {g : Bool} {n : Nat} {O O' : Nat → AO} {x : AV} (h : ∀ k, x.id1 = some k → O k = O' k) : evLoad g n O x = evLoad g n O' x := by
  cases x <;> first
    | rfl
    | simp only [evLoad, h _ rfl]

theorem evNilCheck_congr {O O' : Nat → AO} {x : AV} (h : ∀ k, x.id1 = some k → O k = O' k) : evNilCheck O x = evNilCheck O' x := by
  cases x <;> first
    | rfl
    | simp only [evNilCheck, h _ rfl]

theorem liveSl_congr {O O' : Nat → AO} {x : AV} (h : ∀ k, x.id1 = some k → O k = O' k) : liveSl O x = liveSl O' x := by
  cases x <;> first
    | rfl
    | simp only [liveSl, h _ rfl]

theorem evStore_congr {n : Nat} {O O' : Nat → AO} {els : Option (List (List Value))} {p x : AV} (h : ∀ k, p.id1 = some k → O k = O' k) : evStore n O els p x = evStore n O' els p x := by
  cases p <;> first
    | rfl
    | simp only [evStore, h _ rfl]

theorem srcOf_congr {sz : Nat} {O O' : Nat → AO} {els : Option (List (List Value))} {x : AV} (h : ∀ k, x.id1 = some k → O k = O' k) : srcOf sz O els x = srcOf sz O' els x := by
  cases x with
  | sl k lo len => simp only [srcOf, h k rfl]
  | v y => unfold srcOf; split <;> simp_all
  | _ => rfl

theorem srcX_congr {t t' : TypeId} {sz : Nat} {zs : List Value} {O O' : Nat → AO} {els : Option (List (List Value))} {x : AV} (h : ∀ k, x.id1 = some k → O k = O' k) : srcX P t t' sz zs O els x = srcX P t t' sz zs O' els x := by
  simp only [srcX, srcOf_congr h]

theorem evAppend_congr {t t' : TypeId} {zs : List Value} {sz bytes nk : Nat} {O O' : Nat → AO} {els els2 : Option (List (List Value))} {b x : AV} (h1 : ∀ k, b.id1 = some k → O k = O' k) (h2 : ∀ k, x.id1 = some k → O k = O' k) : evAppend P t t' sz bytes zs O nk els els2 b x = evAppend P t t' sz bytes zs O' nk els els2 b x := by
  simp only [evAppend, srcOf_congr h1, srcX_congr h2]

theorem evClear_congr {sz : Nat} {zs : List Value} {O O' : Nat → AO} {x : AV} (h : ∀ k, x.id1 = some k → O k = O' k) : evClear sz zs O x = evClear sz zs O' x := by
  cases x with
  | sl k lo len => simp only [evClear, h k rfl]
  | _ => rfl

theorem evMapUpdate_congr {O O' : Nat → AO} {m k x : AV} (h : ∀ i, m.id1 = some i → O i = O' i) : evMapUpdate O m k x = evMapUpdate O' m k x := by
  cases m with
  | mp i =>
    have h0 := h i rfl
    unfold evMapUpdate
    split <;> simp_all
  | _ => rfl

theorem evLookup_congr {O O' : Nat → AO} {m k : AV} (h : ∀ i, m.id1 = some i → O i = O' i) : evLookup O m k = evLookup O' m k := by
  cases m with
  | mp i =>
    have h0 := h i rfl
    unfold evLookup
    split <;> simp_all
  | bm ks => unfold evLookup; split <;> simp_all
  | _ => rfl

theorem evBytesStr_congr {O O' : Nat → AO} {els : Option (List (List Value))} {src dst : TypeId} {x : AV} (h : ∀ k, x.id1 = some k → O k = O' k) : evBytesStr P O els src dst x = evBytesStr P O' els src dst x := by
  simp only [evBytesStr, srcOf_congr h]

theorem bnd_congr {d : Int} {x : Option Operand} (h : ∀ y ∈ x.toArray, evO s y = evO s' y) : bnd s d x = bnd s' d x := by
  cases x with
  | none => rfl
  | some y => simp only [bnd, h y (by simp)]

theorem evSlice_congr {n nk : Nat} {x : AV} {lo hi mx : Option Operand} (h : ∀ k, x.id1 = some k → s.O k = s'.O k) (h1 : ∀ y ∈ lo.toArray, evO s y = evO s' y) (h2 : ∀ y ∈ hi.toArray, evO s y = evO s' y) (h3 : ∀ y ∈ mx.toArray, evO s y = evO s' y) :
    evSlice n s nk x lo hi mx = evSlice n s' nk x lo hi mx := by
  cases x with
  | sl k L len => simp only [evSlice, h k rfl, bnd_congr h1, bnd_congr h2, bnd_congr h3]
  | v y => simp only [evSlice, bnd_congr h1, bnd_congr h2, bnd_congr h3]; split <;> simp_all
  | _ => simp only [evSlice, bnd_congr h1, bnd_congr h2, bnd_congr h3]

theorem evSliceS_congr {t : TypeId} {x : AV} {lo hi mx : Option Operand} (h1 : ∀ y ∈ lo.toArray, evO s y = evO s' y) (h2 : ∀ y ∈ hi.toArray, evO s y = evO s' y) :
    evSliceS P t s x lo hi mx = evSliceS P t s' x lo hi mx := by
  cases x <;> simp only [evSliceS, bnd_congr h1, bnd_congr h2]

theorem evalCore_congr {h : Hint} (ho : ∀ x ∈ o.op.operands, evO s x = evO s' x) (hO : ∀ x ∈ o.op.operands, ∀ k, (evO s x).id1 = some k → s.O k = s'.O k) : evalCore P s h o = evalCore P s' h o := by
  obtain ⟨dst, op, type, pos, after, guard⟩ := o
  simp only at ho hO
  have pairs : ∀ ps : Array (Nat × Operand), (∀ x ∈ (ps.toList.map (·.2)).toArray, evO s x = evO s' x) → (ps.toList.map fun p => (p.1, evO s p.2)) = ps.toList.map fun p => (p.1, evO s' p.2) := fun ps hp =>
    List.map_congr_left fun p hm => by rw [hp p.2 (by simp; exact ⟨p.1, by simpa using hm⟩)]
  cases op <;> simp only [Op.operands] at ho hO
  case move x => simp only [evalCore, ho x (by simp)]
  case assign x => simp only [evalCore, ho x (by simp)]
  case pick c a b => simp only [evalCore, ho c (by simp), ho a (by simp), ho b (by simp)]
  case alloc t => rfl
  case box t x => simp only [evalCore, ho x (by simp)]
  case build t ps => simp only [evalCore, pairs ps ho]
  case buildSlice t n ps => simp only [evalCore, pairs ps ho]
  case load t a => have := evLoad_congr (g := true) (n := 0) (hO a (by simp)); simp only [evalCore, ← ho a (by simp), evLoad_congr (hO a (by simp))]
  case store t a v => simp only [evalCore, ← ho a (by simp), ← ho v (by simp), evStore_congr (hO a (by simp))]
  case nilCheck x => simp only [evalCore, ← ho x (by simp), evNilCheck_congr (hO x (by simp))]
  case makeMap t r => cases r <;> rfl
  case mapUpdate t m k x => simp only [evalCore, ← ho m (by simp), ← ho k (by simp), ← ho x (by simp), evMapUpdate_congr (hO m (by simp))]
  case lookup t m k b =>
    cases b with
    | true => rfl
    | false => simp only [evalCore, ← ho m (by simp), ← ho k (by simp), evLookup_congr (hO m (by simp))]
  case binOp op t x y yt => simp only [evalCore, ho x (by simp), ho y (by simp)]
  case unOp op t x => simp only [evalCore, ho x (by simp)]
  case convert src dst x => simp only [evalCore, ← ho x (by simp), evBytesStr_congr (hO x (by simp))]
  case makeFunc fn first caps =>
    cases fn <;> try rfl
    simp only [evalCore]
    have : caps.toList.map (evO s) = caps.toList.map (evO s') := List.map_congr_left fun x hx => ho x (by simp; exact .inr (by simpa using hx))
    rw [this]
  case makeSlice t a v => simp only [evalCore, ho a (by simp), ho v (by simp)]
  case slice t x lo hi mx =>
    simp only [evalCore]
    rw [← ho x (by simp)]
    have q1 : ∀ y ∈ lo.toArray, evO s y = evO s' y := fun y hy => ho y (by simp only [Array.mem_append]; exact .inl (.inl (.inr hy)))
    have q2 : ∀ y ∈ hi.toArray, evO s y = evO s' y := fun y hy => ho y (by simp only [Array.mem_append]; exact .inl (.inr hy))
    have q3 : ∀ y ∈ mx.toArray, evO s y = evO s' y := fun y hy => ho y (by simp only [Array.mem_append]; exact .inr hy)
    cases elemOfT P t with
    | none => exact evSliceS_congr q1 q2
    | some q => exact evSlice_congr (hO x (by simp)) q1 q2 q3
  case fieldAddr t x f => simp only [evalCore, ← ho x (by simp), evField_congr (hO x (by simp))]
  case indexAddr t x i => simp only [evalCore, ← ho x (by simp), ← ho i (by simp), evIndexAddr_congr (hO x (by simp))]
  case index t x i => simp only [evalCore, ho x (by simp), ho i (by simp)]
  case extract x i => simp only [evalCore, ho x (by simp)]
  case call c =>
    obtain ⟨callee, args, argTypes⟩ := c
    have hargs : ∀ x ∈ args, evO s x = evO s' x := fun x hx => ho x (by simp only [Call.operands]; exact Array.mem_append_right _ hx)
    have hargO : ∀ x ∈ args, ∀ k, (evO s x).id1 = some k → s.O k = s'.O k := fun x hx => hO x (by simp only [Call.operands]; exact Array.mem_append_right _ hx)
    unfold evalCore
    cases callee with
    | value f => rfl
    | invoke r m => rfl
    | builtin b =>
      obtain ⟨args⟩ := args
      obtain ⟨argTypes⟩ := argTypes
      cases b <;> try rfl
      case append =>
        match args, argTypes with
        | [b, x], [t, t'] =>
          have e1 := hargs b (by simp)
          have e2 := hargs x (by simp)
          simp only [← e1, ← e2, evAppend_congr (hargO b (by simp)) (hargO x (by simp))]
        | [], _ => rfl
        | [_], _ => rfl
        | _ :: _ :: _ :: _, _ => rfl
        | [_, _], [] => rfl
        | [_, _], [_] => rfl
        | [_, _], _ :: _ :: _ :: _ => rfl
      case clear =>
        match args, argTypes with
        | [x], [t] => simp only [← hargs x (by simp), evClear_congr (hargO x (by simp))]
        | [], _ => rfl
        | _ :: _ :: _, _ => rfl
        | [_], [] => rfl
        | [_], _ :: _ :: _ => rfl
      case cap =>
        match args, argTypes with
        | [x], [t] => simp only [← hargs x (by simp)]
        | [], _ => rfl
        | _ :: _ :: _, _ => rfl
        | [_], [] => rfl
        | [_], _ :: _ :: _ => rfl
      case len =>
        match args, argTypes with
        | [x], [t] => simp only [← hargs x (by simp), liveSl_congr (hargO x (by simp))]
        | [], _ => rfl
        | _ :: _ :: _, _ => rfl
        | [_], [] => rfl
        | [_], _ :: _ :: _ => rfl
      case max =>
        match args with
        | [x, y] => simp only [← hargs x (by simp), ← hargs y (by simp)]
        | [] => rfl
        | [_] => rfl
        | _ :: _ :: _ :: _ => rfl
      case min =>
        match args with
        | [x, y] => simp only [← hargs x (by simp), ← hargs y (by simp)]
        | [] => rfl
        | [_] => rfl
        | _ :: _ :: _ :: _ => rfl
  all_goals rfl

theorem evalOp_congr {h : Hint} (ho : ∀ x ∈ o.op.operands, evO s x = evO s' x) (hO : ∀ x ∈ o.op.operands, ∀ k, (evO s x).id1 = some k → s.O k = s'.O k) : evalOp P s h o = evalOp P s' h o := by
  unfold evalOp
  rw [evalCore_congr ho hO]

end Go.Eng
