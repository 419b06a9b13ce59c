/- What is proved: more operations of the engine: bools, strings, structs compared, conversions, lengths, addresses of fields and elements, slices. Each theorem bears the operation's own side condition. -/
import Derived.Test.YtomemaanjendhaaDoorCExactShowShortEng3
set_option linter.unusedVariables false
set_option linter.unusedSimpArgs false
namespace Go.Eng
open Go

variable {P : Program} {s : S} {o : Oper} {ev : Ev}

/-- two scalars, by their very values -/
theorem snd_scal {nin : Nat} {x : Operand} {p : Value} {r : Value} {c : Option Prop} {nw : List Nat} (hx : evO s x = .v p) (h : condOf c → ∀ (a : Act) (w : World), a.eval x = p → (execOp a.eval o).run P w = .ok (.value r) w) : Sound P nin o s ⟨.v r, [], nw, c⟩ :=
  .val fun hc X N m a w hr => by
    have e1 := hr.eval x
    rw [hx] at e1
    simp only [VR] at e1
    exact ⟨r, h hc a w e1, by simp only [VR]⟩

theorem snd_scal2 {nin : Nat} {x y : Operand} {p q : Value} {r : Value} {c : Option Prop} {nw : List Nat} (hx : evO s x = .v p) (hy : evO s y = .v q) (h : condOf c → ∀ (a : Act) (w : World), a.eval x = p → a.eval y = q → (execOp a.eval o).run P w = .ok (.value r) w) : Sound P nin o s ⟨.v r, [], nw, c⟩ :=
  .val fun hc X N m a w hr => by
    have e1 := hr.eval x
    have e2 := hr.eval y
    rw [hx] at e1
    rw [hy] at e2
    simp only [VR] at e1 e2
    exact ⟨r, h hc a w e1 e2, by simp only [VR]⟩

/-! ### bools, strings -/
def isBoolT (P : Program) (t : TypeId) : Bool := match P.underlying t with | some .bool => true | _ => false

def evBool (P : Program) (op : BinOp) (t : TypeId) (x y : Bool) : Option Ev :=
  bif isBoolT P t then
    match op with
    | .eql => some ⟨.v (.bool (x == y)), [], [], none⟩
    | .neq => some ⟨.v (.bool (!(x == y))), [], [], none⟩
    | _ => none
  else none

theorem isBoolT_spec {t : TypeId} (h : isBoolT P t = true) : P.underlying t = some .bool := by
  unfold isBoolT at h; split at h
  · assumption
  · cases h

theorem snd_bool {nin : Nat} {op : BinOp} {t yt : TypeId} {x y : Operand} {p q : Bool} (ho : o.op = .binOp op t x y yt) (hx : evO s x = .v (.bool p)) (hy : evO s y = .v (.bool q))
    (he : evBool P op t p q = some ev) : Sound P nin o s ev := by
  unfold evBool at he
  cases hb : isBoolT P t with
  | false => simp [hb] at he
  | true =>
    simp only [hb, cond_true] at he
    have hu := isBoolT_spec hb
    have hg : eqGuard op t x y (.bool p) (.bool q) = pure () := eqGuard_at_bool ..
    have r1 : ∀ w, (binOp .eql t (.bool p) (.bool q)).run P w = ((Op.equalIn 10000 t (.bool p) (.bool q)).run P w).andThen fun b w' => .ok (.bool b) w' := fun w => by
      simp only [binOp]
      simp [Op.equal, Op.maxDepth]
    have r2 : ∀ w, (binOp .neq t (.bool p) (.bool q)).run P w = ((Op.equalIn 10000 t (.bool p) (.bool q)).run P w).andThen fun b w' => .ok (.bool (!b)) w' := fun w => by
      simp only [binOp]
      simp [Op.equal, Op.maxDepth]
    have r3 : ∀ w, (Op.equalIn 10000 t (.bool p) (.bool q)).run P w = .ok (p == q) w := fun w => run_equalIn_bool' w 9999 t p q hu
    split at he
    · cases he
      exact snd_scal2 hx hy fun _ a w e1 e2 => by simp only [execOp, ho, e1, e2, hg, pure_bind, Sem.run_bind, r1, r3, Result.andThen_ok, Sem.run_pure]
    · cases he
      exact snd_scal2 hx hy fun _ a w e1 e2 => by simp only [execOp, ho, e1, e2, hg, pure_bind, Sem.run_bind, r2, r3, Result.andThen_ok, Sem.run_pure]
    · cases he

def evStr (op : BinOp) (x y : ByteArray) : Option Ev :=
  match op with
  | .add => some ⟨.v (.string (x ++ y)), [], [], some (x.size + y.size ≤ 9223372036854775807)⟩
  | .eql => some ⟨.v (.bool (decide (x = y))), [], [], none⟩
  | .neq => some ⟨.v (.bool (!decide (x = y))), [], [], none⟩
  | _ => none

theorem toList_beq (a b : ByteArray) : (a.toList == b.toList) = decide (a = b) := by
  rw [ByteArray.toList_eq, ByteArray.toList_eq]
  obtain ⟨⟨x⟩⟩ := a
  obtain ⟨⟨y⟩⟩ := b
  show (x == y) = _
  by_cases h : x = y
  · subst h; simp
  · rw [beq_eq_false_iff_ne.2 h, decide_eq_false]
    intro e; cases e; exact h rfl

theorem snd_str {nin : Nat} {op : BinOp} {t yt : TypeId} {x y : Operand} {p q : ByteArray} (ho : o.op = .binOp op t x y yt) (hx : evO s x = .v (.string p)) (hy : evO s y = .v (.string q))
    (he : evStr op p q = some ev) : Sound P nin o s ev := by
  have hg : eqGuard op t x y (.string p) (.string q) = pure () := eqGuard_at_string ..
  unfold evStr at he
  split at he
  · cases he
    exact snd_scal2 hx hy fun hc a w e1 e2 => by simp [execOp, ho, e1, e2, hg, binOp, run_string_add_sum w p q hc]
  · cases he
    exact snd_scal2 hx hy fun hc a w e1 e2 => by simp only [execOp, ho, e1, e2, hg, pure_bind, binOp, Op.stringOp, toList_beq]; rfl
  · cases he
    exact snd_scal2 hx hy fun hc a w e1 e2 => by simp only [execOp, ho, e1, e2, hg, pure_bind, binOp, Op.stringOp, toList_beq]; rfl
  · cases he

/-! ### structs compared -/
def eqCells : List AV → List AV → Option Bool
  | [], [] => some true
  | .v x :: xs, .v y :: ys => match valEq x y, eqCells xs ys with
    | some b, some c => some (b && c)
    | _, _ => none
  | _, _ => none

/-- a struct whose fields are one cell each, in order, ints, bools or strings, none of them named `_` -/
def flatFields (P : Program) : Nat → List Field → Bool
  | _, [] => true
  | i, f :: fs => (!(f.name == "_")) && Nat.beq f.offset i && (match P.underlying f.type with | some (.int _) | some .bool | some .string => true | _ => false) && flatFields P (i + 1) fs

/-- do the values fit the fields' kinds? -/
def fitFields (P : Program) : List Field → List AV → Bool
  | [], [] => true
  | f :: fs, .v x :: xs => (match P.underlying f.type, x with | some (.int _), .int .. => true | some .bool, .bool _ => true | some .string, .string _ => true | _, _ => false) && fitFields P fs xs
  | _, _ => false

def evAggEq (P : Program) (op : BinOp) (t : TypeId) (cs ds : List AV) : Option Ev :=
  bif (match P.underlying t with | some (.struct fs) => flatFields P 0 fs.toList && fitFields P fs.toList cs && fitFields P fs.toList ds && !(P.stoodInHeld t) && !(P.eqGuardType P.depth t) | _ => false) then
    match op, eqCells cs ds with
    | .eql, some b => some ⟨.v (.bool b), [], [], none⟩
    | .neq, some b => some ⟨.v (.bool (!b)), [], [], none⟩
    | _, _ => none
  else none

theorem eqFields_flat (d : Nat) (xs ys : List Value) : ∀ (fs : List Field) (i : Nat) (cs ds : List AV) (b : Bool) (w : World),
    flatFields P i fs = true → fitFields P fs cs = true → fitFields P fs ds = true → eqCells cs ds = some b →
    (∀ (j : Nat) v, cs[j]? = some (.v v) → xs[i + j]? = some v) → (∀ (j : Nat) v, ds[j]? = some (.v v) → ys[i + j]? = some v) →
    (Op.eqFields (d + 1) xs.toArray ys.toArray fs).run P w = .ok b w
  | [], i, cs, ds, b, w, hf, hc, hd, he, hx, hy => by
    cases cs with
    | cons c cs => simp [fitFields] at hc
    | nil =>
      cases ds with
      | cons c cs => simp [fitFields] at hd
      | nil => simp [eqCells] at he; subst he; simp [Op.eqFields]
  | f :: fs, i, cs, ds, b, w, hf, hc, hd, he, hx, hy => by
    cases cs with
    | nil => simp [fitFields] at hc
    | cons c cs =>
      cases ds with
      | nil => simp [fitFields] at hd
      | cons d' ds =>
        cases c <;> try (simp [fitFields] at hc; done)
        cases d' <;> try (simp [fitFields] at hd; done)
        rename_i x y
        simp only [fitFields, Bool.and_eq_true] at hc hd
        simp only [flatFields, Bool.and_eq_true, Bool.not_eq_true', beq_eq_false_iff_ne] at hf
        obtain ⟨⟨⟨hname, hoff⟩, hty⟩, hrest⟩ := hf
        have hoff' : f.offset = i := Nat.eq_of_beq_eq_true hoff
        have hx0 := hx 0 x rfl
        have hy0 := hy 0 y rfl
        simp only [Nat.add_zero] at hx0 hy0
        simp only [eqCells] at he
        split at he
        case h_2 => cases he
        rename_i b1 c1 hb1 hc1
        cases he
        have ih := eqFields_flat d xs ys fs (i + 1) cs ds c1 w hrest hc.2 hd.2 hc1
          (fun j v hv => by have := hx (j + 1) v (by simpa using hv); rwa [show i + (j + 1) = i + 1 + j by omega] at this)
          (fun j v hv => by have := hy (j + 1) v (by simpa using hv); rwa [show i + (j + 1) = i + 1 + j by omega] at this)
        have hagg : ∀ w, (isAgg f.type).run P w = .ok false w := fun w => by
          cases hu : P.underlying f.type with
          | none => simp [hu] at hty
          | some dd => rw [isAgg_run f.type hu w]; cases dd <;> first | rfl | simp [hu] at hty
        have hp1 : (part f.type xs.toArray f.offset).run P w = .ok x w := by simp [part, Sem.run_bind, hagg, hoff', hx0]
        have hp2 : (part f.type ys.toArray f.offset).run P w = .ok y w := by simp [part, Sem.run_bind, hagg, hoff', hy0]
        have heq : (Op.equalIn (d + 1) f.type x y).run P w = .ok b1 w := by
          have h1 := hc.1
          have h2 := hd.1
          cases hu : P.underlying f.type with
          | none => simp [hu] at hty
          | some dd =>
            cases dd <;> try (simp [hu] at hty; done)
            · cases x <;> try (simp [hu] at h1; done)
              cases y <;> try (simp [hu] at h2; done)
              simp only [valEq, Option.some.injEq] at hb1
              subst hb1
              simp [Op.equalIn, run_underlying hu]
            · cases x <;> try (simp [hu] at h1; done)
              cases y <;> try (simp [hu] at h2; done)
              simp only [valEq] at hb1
              split at hb1
              · rename_i hk; subst hk; cases hb1
                simp [Op.equalIn, run_underlying hu]
                rfl
              · cases hb1
            · cases x <;> try (simp [hu] at h1; done)
              cases y <;> try (simp [hu] at h2; done)
              simp only [valEq, Option.some.injEq] at hb1
              subst hb1
              simp only [Op.equalIn, Sem.run_bind, run_underlying hu, Result.andThen_ok, Sem.run_pure, beq_toListBytes, toList_beq]
        rw [Op.eqFields, if_pos hname]
        simp only [Sem.run_bind, hp1, hp2, heq, Result.andThen_ok]
        cases b1
        · simp
        · simp [ih]

theorem fitFields_v : ∀ {fs : List Field} {cs : List AV}, fitFields P fs cs = true → ∀ (j : Nat) a, cs[j]? = some a → ∃ v, a = .v v
  | [], [], h, j, a, hj => by simp at hj
  | [], c :: cs, h, j, a, hj => by simp [fitFields] at h
  | f :: fs, [], h, j, a, hj => by simp at hj
  | f :: fs, c :: cs, h, j, a, hj => by
    cases c <;> try (simp [fitFields] at h; done)
    simp only [fitFields, Bool.and_eq_true] at h
    cases j with
    | zero => simp at hj; exact ⟨_, hj.symm⟩
    | succ j => exact fitFields_v h.2 j a (by simpa using hj)

theorem snd_aggEq {nin : Nat} {op : BinOp} {t yt : TypeId} {x y : Operand} {cs ds : List AV} (ho : o.op = .binOp op t x y yt) (hx : evO s x = .agg cs) (hy : evO s y = .agg ds)
    (he : evAggEq P op t cs ds = some ev) : Sound P nin o s ev := by
  unfold evAggEq at he
  cases hu : P.underlying t with
  | none => simp [hu] at he
  | some dd =>
    cases dd <;> try (simp [hu] at he; done)
    rename_i fs
    simp only [hu] at he
    cases hall : (flatFields P 0 fs.toList && fitFields P fs.toList cs && fitFields P fs.toList ds && !(P.stoodInHeld t) && !(P.eqGuardType P.depth t)) with
    | false => simp [hall] at he
    | true =>
      simp only [hall, cond_true] at he
      simp only [Bool.and_eq_true, Bool.not_eq_true'] at hall
      obtain ⟨⟨⟨⟨h1, h2⟩, h3⟩, h4⟩, h5⟩ := hall
      have key : ∀ b, eqCells cs ds = some b → ∀ (X : Env) (N : Nat) (m : Nat → Option Loc) (a : Act) (w : World), Rel X N s m a w →
          ∃ xs ys : List Value, a.eval x = .agg xs.toArray ∧ a.eval y = .agg ys.toArray ∧ (Op.equalIn 10000 t (.agg xs.toArray) (.agg ys.toArray)).run P w = .ok b w := by
        intro b hb X N m a w hr
        have e1 := hr.eval x
        have e2 := hr.eval y
        rw [hx] at e1; rw [hy] at e2
        simp only [VR] at e1 e2
        obtain ⟨xs, e1, r1⟩ := e1
        obtain ⟨ys, e2, r2⟩ := e2
        refine ⟨xs, ys, e1, e2, ?_⟩
        have hfo : P.fieldsOf t = fs := by simp [Program.fieldsOf, hu]
        rw [run_equalIn_struct w 9999 t xs.toArray ys.toArray (by rw [hfo]; exact hu) h4, hfo]
        refine eqFields_flat 9998 xs ys fs.toList 0 cs ds b w h1 h2 h3 hb (fun j v hv => ?_) (fun j v hv => ?_)
        · obtain ⟨v', g1, g2⟩ := VRs_get r1 j _ hv
          simp only [VR] at g2; subst g2; simpa using g1
        · obtain ⟨v', g1, g2⟩ := VRs_get r2 j _ hv
          simp only [VR] at g2; subst g2; simpa using g1
      split at he
      · rename_i b hb
        cases he
        refine .val fun _ X N m a w hr => ?_
        obtain ⟨xs, ys, e1, e2, e3⟩ := key b hb X N m a w hr
        refine ⟨.bool b, ?_, by simp only [VR]⟩
        simp only [execOp, ho, e1, e2, Sem.run_bind, run_eqGuard_agg w .eql t x y _ _ h5, Result.andThen_ok, run_eql_struct, e3, Sem.run_pure]
      · rename_i b hb
        cases he
        refine .val fun _ X N m a w hr => ?_
        obtain ⟨xs, ys, e1, e2, e3⟩ := key b hb X N m a w hr
        refine ⟨.bool (!b), ?_, by simp only [VR]⟩
        simp only [execOp, ho, e1, e2, Sem.run_bind, run_eqGuard_agg w .neq t x y _ _ h5, Result.andThen_ok, run_neq_struct, e3, Sem.run_pure]
      · cases he

/-! ### an error compared with nil -/
def isIfaceT (P : Program) (t : TypeId) : Bool := match P.underlying t with | some (.interface _) => true | _ => false

def evErr (P : Program) (op : BinOp) (t : TypeId) (x : AV) : Option Ev :=
  bif isIfaceT P t then match op, x with
    | .eql, .er b => some ⟨.v (.bool b), [], [], none⟩
    | .neq, .er b => some ⟨.v (.bool (!b)), [], [], none⟩
    | _, _ => none
  else none

theorem snd_err {nin : Nat} {op : BinOp} {t yt : TypeId} {x : Operand} (ho : o.op = .binOp op t x (.const .nilIface) yt) (he : evErr P op t (evO s x) = some ev) : Sound P nin o s ev := by
  unfold evErr at he
  cases hi : isIfaceT P t with
  | false => simp [hi] at he
  | true =>
    simp only [hi, cond_true] at he
    obtain ⟨ms, hu⟩ : ∃ ms, P.underlying t = some (.interface ms) := by
      unfold isIfaceT at hi
      split at hi
      · rename_i ms h; exact ⟨ms, h⟩
      · cases hi
    have hn0 : ∀ (d : Nat) w, (Op.equalIn (d + 1) t .nilIface .nilIface).run P w = .ok true w := fun d w => by simp [Op.equalIn, run_underlying hu]
    have hs0 : ∀ (d : Nat) te pe w, (Op.equalIn (d + 1) t (.iface te pe) .nilIface).run P w = .ok false w := fun d te pe w => by simp [Op.equalIn, run_underlying hu]
    have g1 : eqGuard op t x (.const .nilIface) .nilIface .nilIface = pure () := eqGuard_nil_constR ..
    have g2 : ∀ te pe, eqGuard op t x (.const .nilIface) (.iface te pe) .nilIface = pure () := fun te pe => by cases op <;> rfl
    have q1 : ∀ w, (binOp .eql t .nilIface .nilIface).run P w = .ok (.bool true) w := fun w => by
      simp only [binOp]
      simp [Op.equal, Op.maxDepth, hn0 9999]
    have q2 : ∀ te pe w, (binOp .eql t (.iface te pe) .nilIface).run P w = .ok (.bool false) w := fun te pe w => by
      simp only [binOp]
      simp [Op.equal, Op.maxDepth, hs0 9999]
    have q3 : ∀ w, (binOp .neq t .nilIface .nilIface).run P w = .ok (.bool false) w := fun w => by
      simp only [binOp]
      simp [Op.equal, Op.maxDepth, hn0 9999]
    have q4 : ∀ te pe w, (binOp .neq t (.iface te pe) .nilIface).run P w = .ok (.bool true) w := fun te pe w => by
      simp only [binOp]
      simp [Op.equal, Op.maxDepth, hs0 9999]
    have e0 : ∀ a : Act, a.eval (.const .nilIface) = .nilIface := fun _ => rfl
    split at he
    · rename_i b hx
      cases he
      refine .val fun _ X N m a w hr => ?_
      have e1 := hr.eval x
      rw [hx] at e1
      simp only [VR] at e1
      refine ⟨.bool b, ?_, by simp only [VR]⟩
      cases b with
      | true =>
        have e2 := e1.1 rfl
        simp only [execOp, ho, e2, e0, g1, pure_bind, Sem.run_bind, q1, Result.andThen_ok, Sem.run_pure]
      | false =>
        obtain ⟨te, pe, e2⟩ := e1.2 rfl
        simp only [execOp, ho, e2, e0, g2, pure_bind, Sem.run_bind, q2, Result.andThen_ok, Sem.run_pure]
    · rename_i b hx
      cases he
      refine .val fun _ X N m a w hr => ?_
      have e1 := hr.eval x
      rw [hx] at e1
      simp only [VR] at e1
      refine ⟨.bool (!b), ?_, by simp only [VR]⟩
      cases b with
      | true =>
        have e2 := e1.1 rfl
        simp only [execOp, ho, e2, e0, g1, pure_bind, Sem.run_bind, q3, Result.andThen_ok, Sem.run_pure, Bool.not_true]
      | false =>
        obtain ⟨te, pe, e2⟩ := e1.2 rfl
        simp only [execOp, ho, e2, e0, g2, pure_bind, Sem.run_bind, q4, Result.andThen_ok, Sem.run_pure, Bool.not_false]
    · cases he

/-- the dispatch of a binary operation -/
def evBin (P : Program) (raw : Bool) (op : BinOp) (t : TypeId) (x y : AV) : Option Ev :=
  match x, y with
  | .v (.int k a), .v (.int k' b) => evInt raw op k a k' b
  | .v (.bool a), .v (.bool b) => evBool P op t a b
  | .v (.string a), .v (.string b) => evStr op a b
  | .agg cs, .agg ds => evAggEq P op t cs ds
  | _, _ => none

theorem snd_bin {nin : Nat} {raw : Bool} {op : BinOp} {t yt : TypeId} {x y : Operand} (ho : o.op = .binOp op t x y yt) (he : evBin P raw op t (evO s x) (evO s y) = some ev) : Sound P nin o s ev := by
  unfold evBin at he
  split at he
  · rename_i h1 h2; exact snd_int ho h1 h2 he
  · rename_i h1 h2; exact snd_bool ho h1 h2 he
  · rename_i h1 h2; exact snd_str ho h1 h2 he
  · rename_i h1 h2; exact snd_aggEq ho h1 h2 he
  · cases he

/-! ### one operand -/
def evUn (raw : Bool) (op : UnOp) (x : AV) : Option Ev :=
  match op, x with
  | .not, .v (.bool b) => some ⟨.v (.bool (!b)), [], [], none⟩
  | .neg, .v (.int k n) => some (intRes raw k (0 - n))
  | _, _ => none

theorem snd_un {nin : Nat} {raw : Bool} {op : UnOp} {t : TypeId} {x : Operand} (ho : o.op = .unOp op t x) (he : evUn raw op (evO s x) = some ev) : Sound P nin o s ev := by
  unfold evUn at he
  split at he
  · rename_i b hx
    cases he
    exact snd_scal hx fun _ a w e1 => by simp [execOp, ho, e1, Op.unary]
  · rename_i k n hx
    cases he
    cases raw
    · exact snd_scal hx fun hc a w e1 => by simp [execOp, ho, e1, Op.unary, Op.intArith]; simpa using hc
    · exact snd_scal hx fun hc a w e1 => by simp [execOp, ho, e1, Op.unary, Op.intArith]
  · cases he

def evConv (P : Program) (raw : Bool) (src dst : TypeId) (x : AV) : Option Ev :=
  match P.underlying src, P.underlying dst, x with
  | some _, some (.int k), .v (.int _ n) => some (intRes raw k n)
  | _, _, _ => none

theorem snd_conv {nin : Nat} {raw : Bool} {src dst : TypeId} {x : Operand} (ho : o.op = .convert src dst x) (he : evConv P raw src dst (evO s x) = some ev) : Sound P nin o s ev := by
  unfold evConv at he
  split at he
  · rename_i d k k' n h1 h2 hx
    cases he
    have hr : ∀ w, (convert src dst (.int k' n)).run P w = .ok (.int k (k.wrap n)) w := fun w => by
      simp [convert, run_underlying h1, run_underlying h2, Conv.intToInt]
    cases raw
    · refine snd_scal hx fun hc a w e1 => ?_
      have hc' : k.wrap n = n := hc
      simp only [execOp, ho, e1, Sem.run_bind, hr, Result.andThen_ok, Sem.run_pure, hc']
    · refine snd_scal hx fun hc a w e1 => ?_
      simp only [execOp, ho, e1, Sem.run_bind, hr, Result.andThen_ok, Sem.run_pure]
  · cases he

end Go.Eng
