/- What is proved: how a contract of the engine serves a walk that is done by hand: a class of flags that a call has answered is read by later calls. Conditions: the contracts. -/
import Derived.Test.YtomemaanjendhaaDoorCExactShowShortEng26
import Derived.KernelRfl
set_option linter.unusedVariables false
set_option linter.unusedSimpArgs false
namespace Go.Eng
open Go Go.RowKit

variable {P : Program}

/-- what is known of package variables, behind a call that has left all that was -/
theorem gok_of {X : Env} {w : World} (hb : Below X.w0.heap.size X.w0 w) : GOK w :=
  ⟨Gfact.mono (fun b hb' => Nat.lt_of_lt_of_le (X.hB b hb').1 hb.size) (X.hG w (fun b hb' => hb.block b (X.hB b hb').1))⟩

theorem gok_after {W w : World} [GOK W] (hb : Below W.heap.size W w) : GOK w :=
  ⟨Gfact.mono (fun b hb' => Nat.lt_of_lt_of_le hb' hb.size) (gTop W w (fun b hb' => hb.block b hb'))⟩

/-! ### short words for printed walks -/
@[reducible] def vi (x : Int) : AV := .v (.int .i64 x)

@[reducible] def vb (x : Bool) : AV := .v (.bool x)

@[reducible] def vs (x : ByteArray) : AV := .v (.string x)

@[reducible] def aN : Item := .auto {}

@[reducible] def aY (x : AV) : Item := .auto { y := some x }

@[reducible] def hN : List (Nat × AO) := handO (rho ([] ++ [])) [] [] ++ []

theorem cb {a b : Bool} (h : a = b) : vb a = vb b := congrArg vb h

theorem cS {l : Lend} {a b : AV} (h1 : a = b.ren l.f := by kernel_rfl) (h2 : b.under l.n = true := by kernel_rfl) : Cv2 l a b := .c1 (.c0 (.same b h1 h2))

theorem co {nin : Nat} {f : FuncId} {args : List AV} {res : AV} (hS : Spec P f args [] res []) {A : List AV} (hA : All2 (Cv2 ⟨rho ([] ++ []), 0, lkO (handO (rho ([] ++ [])) [] [] ++ []), []⟩) A args) (hb : callB [] [] [] [] res [] = true := by kernel_rfl) :
    CallV P nin f A (handO (rho ([] ++ [])) [] [] ++ []) (callEv [] [] res []) := call_ok (ks := []) (ns := []) (bor := []) (bobjs := []) hS hA hb trivial

theorem AX.rg {N nin : Nat} {id : Nat} {ops : Array Oper} {s : S} {R : Exit → S → Prop} (its : List Item) (ts ks : List Nat) (s1 : S) (C : Prop) (hC : C) (hV : allV P nin its) (hR : R .normal s1)
    (hrun : (match runT P ops ops.toList its s with | some (rs, s') => bif freshB nin s (fun i j => Nat.blt i j) rs && dstB N ops then some (forget ts ks s', allC rs) else none | none => none) = some (s1, C) := by kernel_rfl) :
    AX P N nin (.region id ops false) s R := AX.reg ts ks hrun hC hV hR

theorem AX.rh {N nin : Nat} {id : Nat} {ops : Array Oper} {s : S} {R : Exit → S → Prop} {C : Prop} (its : List Item) (ts ks : List Nat) (s1 : S) (hC : C) (hV : allV P nin its) (hR : R .normal s1)
    (hrun : (match runT P ops ops.toList its s with | some (rs, s') => bif freshB nin s (fun i j => Nat.blt i j) rs && dstB N ops then some (forget ts ks s', allC rs) else none | none => none) = some (s1, C) := by kernel_rfl) :
    AX P N nin (.region id ops false) s R := AX.reg ts ks hrun hC hV hR

theorem AX.si {N nin : Nat} {id : Nat} {ops : Array Oper} {d : Code} {s : S} {R : Exit → S → Prop} {C : Prop} (its : List Item) (ts ks : List Nat) (s1 : S) (hC : C) (hV : allV P nin its) (hR : AX P N nin d s1 R)
    (hrun : (match runT P ops ops.toList its s with | some (rs, s') => bif freshB nin s (fun i j => Nat.blt i j) rs && dstB N ops then some (forget ts ks s', allC rs) else none | none => none) = some (s1, C) := by kernel_rfl) :
    AX P N nin (.seq (.region id ops false) d) s R := AX.seq (AX.reg ts ks hrun hC hV hR)

theorem AX.di {N nin : Nat} {id : Nat} {ops : Array Oper} {d : Code} {s : S} {R : Exit → S → Prop} {C : Prop} (hm : P.follows .mixedOrders = true) (its : List Item) (ts ks : List Nat) (s1 : S) (hC : C) (hV : allV P nin its) (hR : AX P N nin d s1 R)
    (hrun : (match runT P ops ops.toList its s with
      | some (rs, s') => bif (let pr := mkPreds ops.toList []; predsOk ops pr && backB ops && pairsB pr rs && freshB nin s (fun i j => memB i (pr.getD j [])) rs) && dstB N ops then some (forget ts ks s', allC rs) else none
      | none => none) = some (s1, C) := by kernel_rfl) :
    AX P N nin (.seq (.region id ops true) d) s R := AX.seq (AX.drw hm ts ks hrun hC hV hR)

theorem AX.dh {N nin : Nat} {id : Nat} {ops : Array Oper} {s : S} {R : Exit → S → Prop} {C : Prop} (hm : P.follows .mixedOrders = true) (its : List Item) (ts ks : List Nat) (s1 : S) (hC : C) (hV : allV P nin its) (hR : R .normal s1)
    (hrun : (match runT P ops ops.toList its s with
      | some (rs, s') => bif (let pr := mkPreds ops.toList []; predsOk ops pr && backB ops && pairsB pr rs && freshB nin s (fun i j => memB i (pr.getD j [])) rs) && dstB N ops then some (forget ts ks s', allC rs) else none
      | none => none) = some (s1, C) := by kernel_rfl) :
    AX P N nin (.region id ops true) s R := AX.drw hm ts ks hrun hC hV hR

theorem pa {p q : Prop} (a : p) (b : q) : p ∧ q := ⟨a, b⟩

theorem pb {p : Prop} (a : p) : True ∧ p := ⟨trivial, a⟩

theorem smA (l : List AV) : l = l ∧ True := ⟨rfl, trivial⟩

theorem AX.cT {N nin : Nat} {x : Operand} {c d : Code} {s : S} {R : Exit → S → Prop} (b : Bool) (hb : b = true) (h : AX P N nin c s R) (hx : evO s x = .v (.bool b) := by kernel_rfl) : AX P N nin (.cond x c d) s R := AX.condT b hx hb h

theorem AX.cF {N nin : Nat} {x : Operand} {c d : Code} {s : S} {R : Exit → S → Prop} (b : Bool) (hb : b = false) (h : AX P N nin d s R) (hx : evO s x = .v (.bool b) := by kernel_rfl) : AX P N nin (.cond x c d) s R := AX.condF b hx hb h

theorem Wk.fg {N nin : Nat} (ts ks : List Nat) {s : S} (s' : S) (h : Eng.forget ts ks s = s' := by kernel_rfl) : Wk N nin s s' := Wk.forget ts ks h

theorem ti : True := trivial

theorem oi {α : Type} {a r : α} (h : some a = some r) : a = r := Option.some.inj h

theorem sa {l : Lend} {a b : AV} (h1 : a = b.ren l.f := by kernel_rfl) (h2 : b.under l.n = true := by kernel_rfl) : Cv0 l a b := .same b h1 h2

theorem sB (l : List AV) (a : AO) : l = l ∧ a = a ∧ True := ⟨rfl, rfl, trivial⟩

theorem sC (l : List AV) (a b : AO) : l = l ∧ a = a ∧ b = b ∧ True := ⟨rfl, rfl, rfl, trivial⟩

theorem lM {α : Type} (enc : α → List Value) (e : List α) : True ∧ vi ((e.map enc).length : Int) = vi (e.length : Int) := ⟨trivial, len_map enc e⟩

theorem gA {α : Type} [Inhabited α] (enc : α → List Value) (e : List α) (q : Int) (j : Nat) (h : 0 ≤ q ∧ q < (e.length : Int)) : True ∧ AV.v (((e.map enc).getD (0 + q.toNat) []).getD j undef) = AV.v ((enc (gt e q)).getD j undef) :=
  ⟨trivial, congrArg (fun z : List Value => AV.v (z.getD j undef)) (idx_arr (enc := enc) rfl h)⟩

theorem gAs {α : Type} [Inhabited α] (enc : α → List Value) (e : List α) (q : Int) (j : Nat) (x : ByteArray) (h : 0 ≤ q ∧ q < (e.length : Int)) (hx : (enc (gt e q)).getD j undef = .string x := by rfl) : True ∧ AV.v (((e.map enc).getD (0 + q.toNat) []).getD j undef) = vs x :=
  ⟨trivial, (congrArg (fun z : List Value => AV.v (z.getD j undef)) (idx_arr (enc := enc) rfl h)).trans (congrArg AV.v hx)⟩

theorem gAi {α : Type} [Inhabited α] (enc : α → List Value) (e : List α) (q : Int) (j : Nat) (x : Int) (h : 0 ≤ q ∧ q < (e.length : Int)) (hx : (enc (gt e q)).getD j undef = .int .i64 x := by rfl) : True ∧ AV.v (((e.map enc).getD (0 + q.toNat) []).getD j undef) = vi x :=
  ⟨trivial, (congrArg (fun z : List Value => AV.v (z.getD j undef)) (idx_arr (enc := enc) rfl h)).trans (congrArg AV.v hx)⟩

theorem gAb {α : Type} [Inhabited α] (enc : α → List Value) (e : List α) (q : Int) (j : Nat) (x : Bool) (h : 0 ≤ q ∧ q < (e.length : Int)) (hx : (enc (gt e q)).getD j undef = .bool x := by rfl) : True ∧ AV.v (((e.map enc).getD (0 + q.toNat) []).getD j undef) = vb x :=
  ⟨trivial, (congrArg (fun z : List Value => AV.v (z.getD j undef)) (idx_arr (enc := enc) rfl h)).trans (congrArg AV.v hx)⟩

theorem cdd {α : Type} {b : Bool} {x y : α} {z : α} (h : (bif b then x else y) = z) : b = true ∧ x = z ∨ b = false ∧ y = z := by
  cases b
  · exact .inr ⟨rfl, h⟩
  · exact .inl ⟨rfl, h⟩

theorem AX.ct {N nin : Nat} {x : Operand} {c d : Code} {s : S} {R : Exit → S → Prop} (h : AX P N nin c s R) (hx : evO s x = .v (.bool true) := by kernel_rfl) : AX P N nin (.cond x c d) s R := AX.cond_true hx h

theorem AX.cf {N nin : Nat} {x : Operand} {c d : Code} {s : S} {R : Exit → S → Prop} (h : AX P N nin d s R) (hx : evO s x = .v (.bool false) := by kernel_rfl) : AX P N nin (.cond x c d) s R := AX.cond_false hx h

theorem AX.mz {N nin : Nat} {c : Code} {s t : S} {e : Exit} {R : Exit → S → Prop} (h : AX P N nin c s (fun ex s' => ex = e ∧ s' = t)) (h2 : R e t) : AX P N nin c s R := h.mono (by rintro _ _ ⟨rfl, rfl⟩; exact h2)

theorem Wk.sw {N nin : Nat} (x y : Nat) {s : S} (hx : Nat.ble nin x = true := by kernel_rfl) (hy : Nat.ble nin y = true := by kernel_rfl) : Wk N nin s (s.swap x y) := Wk.swap x y (Nat.le_of_ble_eq_true hx) (Nat.le_of_ble_eq_true hy) rfl

theorem fy {N nin n : Nat} {rs : List ResultVar} {res : AV} {hout : List AO} {s : S} (ks : List Nat) (H : OutOk s.O (rho (List.range n ++ ks)) (List.range n ++ ks) hout) (xs : List AV)
    (h1 : distB (List.range n ++ ks) = true := by kernel_rfl) (h2 : resAVs P s rs = some xs := by kernel_rfl) (h3 : packRes xs = res.ren (rho (List.range n ++ ks)) := by kernel_rfl) :
    ∃ s', Wk N nin s s' ∧ (Exit.ret = .normal ∨ Exit.ret = .ret) ∧ Out P rs n res hout s' := ⟨s, Wk.refl s, .inr rfl, ⟨ks, h1, H, xs, h2, h3⟩⟩

theorem fz {N nin n : Nat} {rs : List ResultVar} {res : AV} {hout : List AO} {s : S} (ks : List Nat) (H : OutOk s.O (rho (List.range n ++ ks)) (List.range n ++ ks) hout) (xs : List AV)
    (h1 : distB (List.range n ++ ks) = true := by kernel_rfl) (h2 : resAVs P s rs = some xs := by kernel_rfl) (h3 : packRes xs = res.ren (rho (List.range n ++ ks)) := by kernel_rfl) :
    ∃ s', Wk N nin s s' ∧ (Exit.normal = .normal ∨ Exit.normal = .ret) ∧ Out P rs n res hout s' := ⟨s, Wk.refl s, .inl rfl, ⟨ks, h1, H, xs, h2, h3⟩⟩

theorem Spec.bo {f : FuncId} {fn : Func} {c : Code} {args : List AV} {hin : List AO} {res : AV} {hout : List AO} (hf : P.funcs[f]? = some fn) (hb : fn.body = some c)
    (h : AX P fn.ntmps hin.length c (initS args hin) (fun ex s => ∃ s', Wk fn.ntmps hin.length s s' ∧ (ex = .normal ∨ ex = .ret) ∧ Out P fn.results.toList hin.length res hout s'))
    (hname : (fn.name == "runtime.NumGoroutine") = false := by kernel_rfl) (hN : Nat.ble args.length fn.ntmps = true := by kernel_rfl) : Spec P f args hin res hout := Spec.body hf hname hb hN (AX.wkpost h)

theorem eq_settled {α : Type} [DecidableEq α] {e a b : α} (h : decide (e = a) = true) (hn : ¬ a = b) : decide (e = b) = false := by
  rw [of_decide_eq_true h]; exact decide_eq_false hn

/-- the line of an answer -/
def deskOne (ok : Bool) (a : ByteArray) : List UInt8 := bif ok then a.data.toList ++ [10] else [119, 114, 111, 110, 103, 10]

/-- the answers to lines, as impl.RunDesk gathers them -/
def deskRun (f : ByteArray → Option ByteArray) (ok : Bool) : List ByteArray → Option (List UInt8)
  | [] => some []
  | l :: r => bd (bif ok then bd (f l) (fun a => gd (a.size ≤ 1000000000) <| some a) else some ByteArray.empty) fun a => bd (deskRun f ok r) fun b => some (deskOne ok a ++ b)

theorem deskRun_out (f : ByteArray → Option ByteArray) (ok : Bool) : ∀ (xs : List ByteArray) (l : List UInt8), deskRun f ok xs = some l →
    (ok = true → ∀ x ∈ xs, f x = some ((f x).getD ByteArray.empty) ∧ ((f x).getD ByteArray.empty).size ≤ 1000000000) ∧ l = xs.flatMap fun x => deskOne ok ((f x).getD ByteArray.empty)
  | [], l, h => by
    rw [deskRun] at h
    cases h
    exact ⟨fun _ x hx => (by cases hx), rfl⟩
  | x :: r, l, h => by
    rw [deskRun] at h
    obtain ⟨a, ha, h⟩ := bd_e h
    obtain ⟨b, hb, h⟩ := bd_e h
    cases h
    obtain ⟨h1, rfl⟩ := deskRun_out f ok r b hb
    cases ok with
    | true =>
      rw [cond_true] at ha
      obtain ⟨q, hq, ha⟩ := bd_e ha
      obtain ⟨g, ha⟩ := gd_e ha
      cases ha
      refine ⟨fun _ y hy => ?_, ?_⟩
      · rcases List.mem_cons.1 hy with rfl | hy
        · rw [hq]; exact ⟨rfl, g⟩
        · exact h1 rfl y hy
      · rw [List.flatMap_cons, hq]; rfl
    | false => exact ⟨fun e => (by cases e), by rw [List.flatMap_cons]; rfl⟩

/-- what a lent slice of texts is in memory, the empty one too -/
theorem bs_texts {X : Env} {m : Nat → Option Loc} {sh : Nat → Sh} {l : Bool} {xs : List ByteArray} {v : Value} (h : VR X m sh (.bs l 1 (xs.map fun x => [.string x])) v) :
    ∃ a c, v = .slice a xs.length c ∧ ∀ (j : Nat) x, xs[j]? = some x → ∃ b off, a = some ⟨b, off, none⟩ ∧ b < X.w0.heap.size ∧ X.w0.cell? ⟨b, off + j, none⟩ = some (.string x) := by
  rcases bs_strings h with ⟨rfl, a, c, rfl⟩ | ⟨b, off, c, rfl, _, h1, h2⟩
  · exact ⟨a, c, rfl, fun j x hx => by simp at hx⟩
  · exact ⟨_, c, rfl, fun j x hx => ⟨b, off, rfl, h1, h2 j x hx⟩⟩

/-- a class of flags that a call has answered, over an array of its own -/
theorem desk_parse {f : FuncId} {s : ByteArray} {n : Nat} {es : List (List Value)} {b : Int} {ok : Bool} (hS : Eng.Spec P f [.v (.string s)] [] (.tup [.agg [.sl 0 0 n, .v (.int .i64 b)], .v (.bool ok)]) [.arr 2 es]) (hn : es.length = n) (W : World) [GOK W] :
    Calls P f #[.string s] W (fun e w1 => ∃ a cap, e = .returned (.tuple #[.agg #[.slice a n cap, .int .i64 b], .bool ok]) ∧ Below W.heap.size W w1 ∧
      ∀ (w2 : World) [GOK w2], Below w1.heap.size w1 w2 → VR (topX w2) (fun _ => none) (shL []) (.bs false 2 es) (.slice a n cap)) := by
  refine (hS.run (topX W) (fun _ => none) [.string s] rfl rfl ?_ (fun k => HR_none k) Dist_none).mono fun e w1 he => ?_
  · unfold VRs; exact ⟨_, _, rfl, by simp only [VR], by simp only [VRs]⟩
  · obtain ⟨v, m', rfl, hr, ho, _, _, hf⟩ := he
    simp only [VR, VRs] at hr
    obtain ⟨C, rfl, x, xs, rfl, ⟨C2, rfl, y, ys, rfl, hy, z, zs, rfl, rfl, rfl⟩, u, us, rfl, rfl, rfl⟩ := hr
    have e0 : shL [.arr 2 es] 0 = .arr 2 es.length := rfl
    rw [e0] at hy
    simp only [] at hy
    obtain ⟨h1, a, cap, rfl, h2, h3⟩ := hy
    refine ⟨a, cap, rfl, ⟨hf.os, hf.tape, hf.output, hf.size, fun b hb => hf.block b hb (by simp [topX])⟩, fun w2 _ hb => ?_⟩
    have h0 := ho 0
    unfold HR at h0
    have e1 : oL [.arr 2 es] 0 = .arr 2 es := rfl
    rw [e1] at h0
    simp only [] at h0
    obtain ⟨g1, g2⟩ := h0
    simp only [VR]
    refine ⟨a, cap, by rw [hn], by omega, g1, ?_⟩
    rcases g2 with ⟨_, g2⟩ | ⟨L, C, E, k1, k2, k3, k4, k5, k6⟩
    · exact .inl g2
    · rcases h3 with rfl | ⟨L', k1', k7, _⟩
      · left
        have : es.length = 0 := by omega
        exact List.eq_nil_of_length_eq_zero this
      · rw [k1] at k1'
        cases k1'
        have hlt : L.b < w1.heap.size := (Array.getElem?_eq_some_iff.1 k2).1
        refine .inr ⟨L.b, L.off, by rw [k7]; simp, Nat.lt_of_lt_of_le hlt hb.size, C, E, (0, 0), (hb.block L.b hlt).trans k2, fun i e hi j x hj => k5 i e hi j x hj⟩

/-- a call that reads a class of flags and a text -/
theorem desk_line {g : FuncId} {es : List (List Value)} {b : Int} {x r : ByteArray} (hS : Eng.Spec P g [.agg [.bs false 2 es, .v (.int .i64 b)], .v (.string x)] [] (.v (.string r)) []) (w : World) [GOK w] {v : Value}
    (hv : VR (topX w) (fun _ => none) (shL []) (.bs false 2 es) v) : Calls P g #[.agg #[v, .int .i64 b], .string x] w (fun e w' => e = .returned (.string r) ∧ Below w.heap.size w w') := by
  refine spec_top hS w [.agg #[v, .int .i64 b], .string x] ?_
  unfold VRs
  refine ⟨_, _, rfl, ?_, ?_⟩
  · unfold VR
    refine ⟨[v, .int .i64 b], rfl, ?_⟩
    unfold VRs
    refine ⟨_, _, rfl, hv, ?_⟩
    unfold VRs
    exact ⟨_, _, rfl, by simp only [VR], by simp only [VRs]⟩
  · unfold VRs
    exact ⟨_, _, rfl, by simp only [VR], by simp only [VRs]⟩

/-- a change, turned -/
def turnChg (c : Int × ByteArray × Int × Int) : Int × ByteArray × Int × Int := (if c.1 = 0 then 1 else if c.1 = 1 then 0 else c.1, c.2.1, c.2.2.2, c.2.2.1)

/-- what a lent slice of changes is in memory -/
theorem bs_changes {X : Env} {m : Nat → Option Loc} {sh : Nat → Sh} {l : Bool} {xs : List (Int × ByteArray × Int × Int)} {v : Value} (h : VR X m sh (.bs l 4 (xs.map fun x => [.int .i64 x.1, .string x.2.1, .int .i64 x.2.2.1, .int .i64 x.2.2.2])) v) :
    ∃ a c, v = .slice a xs.length c ∧ (xs = [] ∨ ∃ b off, a = some ⟨b, off, none⟩ ∧ b < X.w0.heap.size ∧ ∀ (j : Nat) x, xs[j]? = some x → X.w0.cell? ⟨b, off + j * 4, none⟩ = some (.int .i64 x.1) ∧ X.w0.cell? ⟨b, off + j * 4 + 1, none⟩ = some (.string x.2.1) ∧ X.w0.cell? ⟨b, off + j * 4 + 2, none⟩ = some (.int .i64 x.2.2.1) ∧ X.w0.cell? ⟨b, off + j * 4 + 3, none⟩ = some (.int .i64 x.2.2.2)) := by
  simp only [VR, List.length_map] at h
  obtain ⟨a, c, rfl, h2, _, h3 | ⟨b, off, rfl, h4, h5⟩⟩ := h
  · exact ⟨a, c, rfl, .inl (by simpa using h3)⟩
  · refine ⟨_, c, rfl, .inr ⟨b, off, rfl, (X.hB b (Env.Bl_B h4)).1, fun j x hj => ?_⟩⟩
    obtain ⟨C, E, fz, hh, hc⟩ := h5
    have g := hc j [.int .i64 x.1, .string x.2.1, .int .i64 x.2.2.1, .int .i64 x.2.2.2] (by simp [hj])
    rw [cell_of_row X.w0 b _ C E fz hh, cell_of_row X.w0 b _ C E fz hh, cell_of_row X.w0 b _ C E fz hh, cell_of_row X.w0 b _ C E fz hh]
    exact ⟨by simpa using g 0 (.int .i64 x.1) rfl, by simpa using g 1 (.string x.2.1) rfl, by simpa using g 2 (.int .i64 x.2.2.1) rfl, by simpa using g 3 (.int .i64 x.2.2.2) rfl⟩

/-- a function that answers a new slice of elements of some cells -/
theorem spec_rows {f : FuncId} {args : List AV} {n : Nat} {T : TypeId} {es : List (List Value)} (hc : Callable P f) (hok : OkEls n es)
    (h : ∀ (X : Env) (m : Nat → Option Loc) (vs : List Value), VRs X m (shL []) args vs → Calls P f vs.toArray X.w0 (fun e w' => ∃ va vc, e = .returned (.slice va es.length es.length) ∧ w'.ownsRow X.w0.heap.size T n (.slice va es.length vc) es.length es.flatten ∧ Below X.w0.heap.size X.w0 w')) :
    Spec P f args [] (.sl 0 0 es.length) [.arr n es] := by
  refine ⟨hc, fun X m vs _ _ hv _ _ => (h X m vs hv).mono fun e w' ⟨va, vc, he, ho, hb⟩ => ?_⟩
  have hsh : ∀ k, k ≠ 0 → shL [.arr n es] k = .dead := fun k hk => by
    simp only [shL]; rw [oL_out (by simp; omega)]; rfl
  have e0 : shL [.arr n es] 0 = .arr n es.length := by simp [shL, oL, AO.sh]
  have e1 : oL [.arr n es] 0 = .arr n es := rfl
  have hd : ∀ m' : Nat → Option Loc, Dist (shL [.arr n es]) m' := fun m' k k' L L' hkk hk hk' => by
    by_cases h0 : k = 0
    · exact absurd (hsh k' (by omega)) hk'
    · exact absurd (hsh k h0) hk
  rcases ho.2 with ⟨e, hz⟩ | ⟨g, cap, cur, e, hg, hh, hn, _, hcs, ht⟩
  · obtain rfl : va = none := by injection e with e1 _ _
    have hes : es = [] := List.eq_nil_of_length_eq_zero hz
    refine ⟨_, fun _ => none, he, ?_, fun k => ?_, hd _, fun k hk => absurd hk (Nat.not_lt_zero k), Fr.of_below hb⟩
    · simp only [VR, e0]
      exact ⟨by omega, none, _, rfl, Nat.le_refl _, .inl hz⟩
    · by_cases hk : k = 0
      · subst hk
        unfold HR
        rw [e1]
        simp only []
        exact ⟨hok, .inl (by first | exact ⟨rfl, hes⟩ | simpa using hes)⟩
      · unfold HR; rw [oL_out (by simp; omega)]; trivial
  · injection e with e1' _ e3'
    subst e1' e3'
    have hle : es.length * n ≤ vc * n := Nat.mul_le_mul_right _ hn
    have hlen : ∀ e ∈ es, e.length = n := fun e he => (hok e he).1
    refine ⟨_, fun k => if k = 0 then some ⟨g, 0, vc * n⟩ else none, he, ?_, fun k => ?_, hd _, fun k hk => absurd hk (Nat.not_lt_zero k), Fr.of_below hb⟩
    · simp only [VR, e0]
      exact ⟨by omega, _, _, rfl, Nat.le_refl _, .inr ⟨_, rfl, by simp, by simpa using hle⟩⟩
    · by_cases hk : k = 0
      · subst hk
        unfold HR
        rw [e1]
        simp only []
        refine ⟨hok, .inr ⟨_, cur, T, rfl, hh, hcs, by simpa using hle, fun i e hi j x hj => ?_, .inl hg⟩⟩
        have h1 := flat_get es hlen i e hi j x hj
        have h2 := flat_length es hlen
        rw [← ht] at h1
        have h3 : i * n + j < es.length * n := by
          rcases Nat.lt_or_ge (i * n + j) (es.flatten.length) with h' | h'
          · omega
          · rw [ht, List.getElem?_eq_none h'] at h1; cases h1
        rw [List.getElem?_take_of_lt h3] at h1
        simpa using h1
      · unfold HR; rw [oL_out (by simp; omega)]; trivial

end Go.Eng
