/- What is proved: a function of Go's library that has a contract of the kit's shelf has a contract of the engine. Conditions: the shelf's contract, as each says. -/
import Derived.Test.YtomemaanjendhaaDoorCExactShowShortEng25
import Derived.LaidLaws
import Derived.ChangeVars
import Derived.LaidMore
import Derived.Stop.Joined
import Derived.Lib.ItoaNum
import Derived.Lib.Split
import Derived.Lib.IndexMore
import Derived.Lib.Strings
import Derived.Lib.Join
import Derived.Lib.AtoiAll
import Derived.Lib.TrailingZeros
import Derived.Lib.AppendIntMem
import Derived.Lib.AtoiErrMem
import Derived.Lib.AtoiAllCases
set_option linter.unusedVariables false
set_option linter.unusedSimpArgs false
namespace Go.Eng
open Go Go.RowKit

variable {P : Program}

theorem Fr.of_below {X : Env} {w' : World} (h : Below X.w0.heap.size X.w0 w') : Fr X w' :=
  ⟨h.os, h.tape, h.output, h.size, fun b hb _ => h.block b hb⟩

theorem HR_none {X : Env} {m : Nat → Option Loc} {w : World} (k : Nat) : HR X m (oL []) w k := by
  unfold HR; rw [oL_out (l := []) (i := k) (Nat.zero_le k)]; trivial

theorem Dist_none {m : Nat → Option Loc} : Dist (shL []) m := fun k k' L L' _ hk => absurd (by simp only [shL, oL_out (l := []) (i := k) (Nat.zero_le k)]; rfl) hk

/-- a function that answers a plain value and leaves all that was as it was -/
theorem spec_pure {f : FuncId} {args : List AV} {res : AV} {r : Value} (hc : Callable P f) (hr : ∀ X m sh, VR X m sh res r)
    (h : ∀ (X : Env) (m : Nat → Option Loc) (vs : List Value), VRs X m (shL []) args vs → Calls P f vs.toArray X.w0 (fun e w' => e = .returned r ∧ Below X.w0.heap.size X.w0 w')) : Spec P f args [] res [] := by
  refine ⟨hc, fun X m vs _ _ hv _ _ => (h X m vs hv).mono fun e w' ⟨he, hw⟩ => ?_⟩
  exact ⟨r, m, he, hr X m _, fun k => HR_none k, Dist_none, fun k hk => absurd hk (Nat.not_lt_zero k), Fr.of_below hw⟩

theorem heap_alloc_at (w : World) (o : Obj) : (w.alloc o).heap[w.heap.size]? = some o := by
  show (w.heap.push o)[w.heap.size]? = some o
  simp

/-- a function that answers a new slice of values of one cell -/
theorem spec_row {f : FuncId} {args : List AV} {T : TypeId} {xs : List Value} (hc : Callable P f) (hx : ∀ x ∈ xs, x.oneCell' = true)
    (h : ∀ (X : Env) (m : Nat → Option Loc) (vs : List Value), VRs X m (shL []) args vs → Calls P f vs.toArray X.w0 (fun e w' => e = .returned (.slice (some ⟨X.w0.heap.size, 0, none⟩) xs.length xs.length) ∧ w' = X.w0.alloc (.cells xs.toArray T))) :
    Spec P f args [] (.sl 0 0 xs.length) [.arr 1 (xs.map fun x => [x])] := by
  refine ⟨hc, fun X m vs _ _ hv _ _ => (h X m vs hv).mono fun e w' ⟨he, hw⟩ => ?_⟩
  subst hw
  have hb : Below X.w0.heap.size X.w0 (X.w0.alloc (.cells xs.toArray T)) := (Below.refl _ _).alloc (Nat.le_refl _) _
  have hh : (X.w0.alloc (.cells xs.toArray T)).heap[X.w0.heap.size]? = some (.cells xs.toArray T (0, 0)) := (heap_alloc_at X.w0 _)
  let m' : Nat → Option Loc := fun k => if k = 0 then some ⟨X.w0.heap.size, 0, xs.length⟩ else none
  have hsh : ∀ k, k ≠ 0 → shL [.arr 1 (xs.map fun x => [x])] k = .dead := fun k hk => by
    simp only [shL]; rw [oL_out (by simp; omega)]; rfl
  refine ⟨_, m', he, ?_, fun k => ?_, fun k k' L L' hkk hk hk' => ?_, fun k hk => absurd hk (Nat.not_lt_zero k), Fr.of_below hb⟩
  · have e0 : shL [.arr 1 (xs.map fun x => [x])] 0 = .arr 1 xs.length := by simp [shL, oL, AO.sh]
    simp only [VR, e0]
    exact ⟨by omega, _, _, rfl, Nat.le_refl _, .inr ⟨_, rfl, by simp, by simp⟩⟩
  · by_cases hk : k = 0
    · subst hk
      unfold HR
      have e1 : oL [.arr 1 (xs.map fun x => [x])] 0 = .arr 1 (xs.map fun x => [x]) := rfl
      rw [e1]
      simp only []
      refine ⟨fun e he => ?_, .inr ⟨_, xs.toArray, T, rfl, hh, by simp, by simp, fun i e hi j x hj => ?_, .inl (Nat.le_refl _)⟩⟩
      · obtain ⟨x, hx', rfl⟩ := List.mem_map.1 he
        exact ⟨rfl, fun y hy => by rw [List.mem_singleton.1 hy]; exact hx x hx'⟩
      · simp only [List.getElem?_map, Option.map_eq_some_iff] at hi
        obtain ⟨y, hy, rfl⟩ := hi
        cases j with
        | zero => simp only [List.getElem?_cons_zero, Option.some.injEq] at hj; subst hj; simpa using hy
        | succ j => simp at hj
    · unfold HR; rw [oL_out (by simp; omega)]; trivial
  · by_cases h0 : k = 0
    · exact absurd (hsh k' (by omega)) hk'
    · exact absurd (hsh k h0) hk

theorem below_drewN (w : World) (n : Nat) : Below w.heap.size w (w.drewN n) := ⟨rfl, rfl, rfl, Nat.le_refl _, fun _ _ => rfl⟩

theorem tab_get (tab : List Nat) (j : Nat) : ((tab.map fun n : Nat => (n : Int)).getD j 0) = ((tab.getD j 0 : Nat) : Int) := by
  rw [List.getD_eq_getElem?_getD, List.getElem?_map, List.getD_eq_getElem?_getD]
  cases tab[j]? <;> rfl

/-- the kit's rule for a row with listed variables (returnsInHanded_of_change_and), its contract told the world's shape besides -/
theorem rih_shaped {H : Type} {enc : TypeId × Value → H} {a : Assume} {C : Checked} {os : Os} {f : FuncId} {fn : Func} {s : ChangeSpec} {conds : List PathCond} {apart fresh handsOn again : Bool} {X : World → Array Value → Prop}
    (hX : ∀ (w w' : World) (args : Array Value), w.heap = w'.heap → X w args → X w' args)
    (own : ownKnob C.prog.godebug = none) (started : os.Started) (noInit : C.prog.inits.idxOf? f = none) (hfn : C.prog.funcs[f]? = some fn)
    (witness : ∃ (w : World) (tape : Tape) (i : Input), w.os = os ∧ (w.forCall tape i).Shaped C.prog ∧ i.vars = [] ∧ Input.okWide C.prog (w.forCall tape i) .any w.heap.size f i ∧
      ((s.pre enc C.prog fn conds apart (w.forCall tape i).memory i.args ∧ X (w.forCall tape i).memory i.args) ∧ sizedMet enc C.prog fn (OpenSpec.ofChange s) apart (w.forCall tape i).memory i.args) ∧ a.holds C.prog (lone (Frame.enter C.prog f i.args .normal) [] (w.forCall tape i)))
    (contract : ∀ (W : World) (base : Nat) (args : Array Value) (ds gs : List (DataW H)) (before : List MemPlace), W.ShapedOpen C.prog →
      (∀ (j : Nat) t v, fn.params[j]? = some t → args[j]? = some v → Value.okWide C.prog W .any base t v) →
      DataW.Whole enc C.prog fn.params.toList s.vars apart W args.toList ds gs before → X W args →
      Calls C.prog f args W fun e W' => ∃ v, e = .returned v ∧ s.post enc C.prog fn apart fresh handsOn again W args v W') :
    ReturnsInHanded a C os f .any (fun w args => (s.pre enc C.prog fn conds apart w args ∧ X w args) ∧ sizedMet enc C.prog fn (OpenSpec.ofChange s) apart w args) (s.post enc C.prog fn apart fresh handsOn again) := by
  refine returnsInHanded_of_calls own started noInit witness ?_
  intro w tape i _ hsh _ hok hpre hholds
  obtain ⟨_, _, _, fn', hfn', _, _, _, _, hval⟩ := hok
  have e : fn' = fn := Option.some.inj (hfn'.symm.trans hfn)
  subst e
  obtain ⟨⟨⟨ds, gs, before, hw, hc⟩, hx⟩, hz⟩ := hpre
  have hw' := DataW.Whole.of_heap (w' := w.forCall tape i) (by rfl) hw
  refine (contract (w.forCall tape i) w.heap.size i.args ds gs before hsh hval hw' (hX _ _ _ (by rfl) hx)).mono fun e W' ⟨v, he, hp⟩ => ?_
  subst he
  exact ChangeSpec.post_blind hp

/-- a function that answers a value of which not all is told, and leaves all that was as it was -/
theorem spec_val {f : FuncId} {args : List AV} {res : AV} (hc : Callable P f)
    (h : ∀ (X : Env) (m : Nat → Option Loc) (vs : List Value), VRs X m (shL []) args vs → Calls P f vs.toArray X.w0 (fun e w' => ∃ v, e = .returned v ∧ (∀ m sh, VR X m sh res v) ∧ Below X.w0.heap.size X.w0 w')) : Spec P f args [] res [] := by
  refine ⟨hc, fun X m vs _ _ hv _ _ => (h X m vs hv).mono fun e w' ⟨v, he, hr, hw⟩ => ?_⟩
  exact ⟨v, m, he, hr m _, fun k => HR_none k, Dist_none, fun k hk => absurd hk (Nat.not_lt_zero k), Fr.of_below hw⟩

theorem vr_int_err {X : Env} {m : Nat → Option Loc} {sh : Nat → Sh} {n : Int} {b : Bool} {v : Value} (h : (b = true → v = .nilIface) ∧ (b = false → ∃ te pe, v = .iface te pe)) :
    VR X m sh (.tup [.v (.int .i64 n), .er b]) (.tuple #[.int .i64 n, v]) := by
  unfold VR
  refine ⟨[.int .i64 n, v], rfl, ?_⟩
  unfold VRs
  refine ⟨_, _, rfl, by unfold VR; rfl, ?_⟩
  unfold VRs
  refine ⟨_, _, rfl, by unfold VR; exact h, ?_⟩
  unfold VRs
  rfl

/-- what strconv.Atoi answers: the number, and whether there is no error -/
def atoiAns (s : ByteArray) : Int × Bool :=
  match Lib.atoiAll s.data.toList with
  | .ok v => (v, true)
  | .range => (Lib.atoiSat s.data.toList, false)
  | _ => (0, false)

/-- what a lent slice of texts is in memory -/
theorem bs_strings {X : Env} {m : Nat → Option Loc} {sh : Nat → Sh} {l : Bool} {xs : List ByteArray} {v : Value} (h : VR X m sh (.bs l 1 (xs.map fun x => [.string x])) v) :
    (xs = [] ∧ ∃ a c, v = .slice a 0 c) ∨ ∃ b off c, v = .slice (some ⟨b, off, none⟩) xs.length c ∧ xs.length ≤ c ∧ b < X.w0.heap.size ∧ ∀ (j : Nat) x, xs[j]? = some x → X.w0.cell? ⟨b, off + j, none⟩ = some (.string x) := by
  simp only [VR, List.length_map] at h
  obtain ⟨a, c, rfl, h2, _, h3 | ⟨b, off, rfl, h4, h5⟩⟩ := h
  · left
    have : xs = [] := by simpa using h3
    subst this
    exact ⟨rfl, a, c, rfl⟩
  · right
    refine ⟨b, off, c, rfl, h2, (X.hB b (Env.Bl_B h4)).1, fun j x hj => ?_⟩
    obtain ⟨C, E, fz, hh, hc⟩ := h5
    rw [cell_of_row X.w0 b _ C E fz hh]
    have := hc j [.string x] (by simp [hj]) 0 (.string x) rfl
    simpa using this

theorem cell_spot0 {w : World} {b o : Nat} {sp : Option Nat} {v : Value} (h : w.cell? ⟨b, o, sp⟩ = some v) : sp = none := by
  unfold World.cell? at h
  cases sp with
  | none => rfl
  | some x =>
    exfalso
    cases h1 : w.heap[b]? with
    | none => simp [h1] at h
    | some ob => cases ob <;> simp [h1] at h

/-- a package variable that holds a slice of texts, from the laid list -/
theorem laid_strings {P : Program} {name : String} {r : List (String × DataW Unit)} {W : World} {g : Nat} {t e : TypeId} {d : DataW Unit} (hn : P.globalNamed name = some g) (hy : (P.globals[g]?).map (·.type) = some t)
    (ht : P.underlying t = some (.slice e)) (he : P.underlying e = some .string) (hc : P.cellsOf e = 1) (ws : List ByteArray) (hws : 0 < ws.length) (hd : d = .slice (ws.map fun s => .lit (.string s.data.toList)) []) (h : laidMet P ((name, d) :: r) W) :
    ∃ b off cap, W.cell? ⟨g, 0, none⟩ = some (.slice (some ⟨b, off, none⟩) (ws.map fun x => [Value.string x]).length cap) ∧ (ws.map fun x => [Value.string x]).length ≤ cap ∧ OkEls 1 (ws.map fun x => [Value.string x]) ∧ b < W.heap.size ∧ RdE W b off 1 (ws.map fun x => [Value.string x]) := by
  obtain ⟨ps, ⟨g0, t0, cs0, f0, p0, q0, hg0, ht0, hv0, hd0, _, e0⟩, _, _⟩ := h
  obtain rfl := Option.some.inj (hn.symm.trans hg0)
  obtain rfl := Option.some.inj (hy.symm.trans ht0)
  rcases DataW.trod_slice ht hd0 with ⟨_, hx⟩ | ⟨a, len, cap, el, rs, m, rfl, hcs, hx, _, hlc, _, hel, helem, hsp, _⟩
  · rw [hd] at hx; cases hx
  have e0 := congrArg Prod.fst hx
  simp only [hd, DataW.slice.injEq] at e0
  obtain ⟨eE, eR⟩ := e0
  have hlen : len = ws.length := by
    have := congrArg List.length eE
    simp at this
    omega
  have hcell : ∀ i (hi : i < ws.length), W.cell? (a.add i) = some (.string ws[i]) := by
    intro i hi
    have h1 := helem i (by omega)
    rw [hc] at h1
    obtain ⟨b, hb⟩ : ∃ b, el[i]? = some b := ⟨el[i]'(by omega), List.getElem?_eq_getElem (by omega)⟩
    rw [hb] at h1
    obtain ⟨ce, hce, hte⟩ := Option.bind_eq_some_iff.1 h1
    obtain ⟨z, hz, hbz, _⟩ := DataW.trod_string he hte
    have hb1 : b.1 = .lit (.string ws[i].data.toList) := by
      have := congrArg (·[i]?) eE
      simp [hb, hi] at this
      exact this.symm
    rw [hbz] at hb1
    simp only [DataW.lit.injEq, Lit.string.injEq] at hb1
    obtain ⟨_, _, hcc⟩ := World.cells?_some hce
    have := hcc 0 (by omega)
    rw [hz] at this
    simp only [Nat.mul_one] at this
    have e1 : (a.add i).add 0 = a.add i := by simp [Addr.add]
    rw [e1] at this
    rw [this]
    have : z = ws[i] := ByteArray.ext (Array.ext' hb1)
    rw [this]; rfl
  obtain ⟨R, o, sR⟩ := a
  obtain rfl : sR = none := by
    have h00 := hcell 0 hws
    have : (Addr.add ⟨R, o, sR⟩ 0) = ⟨R, o, sR⟩ := by simp [Addr.add]
    rw [this] at h00
    exact cell_spot0 h00
  have hcell' : ∀ i (hi : i < ws.length), W.cell? ⟨R, o + i, none⟩ = some (.string ws[i]) := fun i hi => by
    have := hcell i hi
    rwa [Addr.add_lit] at this
  have h0 := hcell' 0 hws
  have hR : R < W.heap.size := by
    rcases Nat.lt_or_ge R W.heap.size with h' | h'
    · exact h'
    · simp [World.cell?, Array.getElem?_eq_none h'] at h0
  refine ⟨R, o, cap, ?_, by simp; omega, fun x hx => ?_, hR, ?_⟩
  · rw [World.var?_cell hn hv0 0, ← Array.getElem?_toList, hcs, List.length_map, ← hlen]
    rfl
  · obtain ⟨y, _, rfl⟩ := List.mem_map.1 hx
    exact ⟨rfl, fun v hv => by simp at hv; subst hv; rfl⟩
  · cases hh : W.heap[R]? with
    | none => simp [World.cell?, hh] at h0
    | some ob =>
      cases ob with
      | cells C E fz =>
        refine ⟨C, E, fz, hh, fun i e hi j x hj => ?_⟩
        rw [List.getElem?_map] at hi
        have hl : i < ws.length := by
          rcases Nat.lt_or_ge i ws.length with h' | h'
          · exact h'
          · rw [List.getElem?_eq_none h'] at hi; cases hi
        rw [List.getElem?_eq_getElem hl] at hi
        cases hi
        have hj0 : j = 0 := by
          rcases j with _ | j
          · rfl
          · simp at hj
        subst hj0
        simp at hj
        subst hj
        have := hcell' i hl
        simpa [World.cell?, hh] using this
      | _ => simp [World.cell?, hh] at h0

/-- a closed fact: a variable's type can be read and is a row of the table -/
def varRowed (P : Program) (n : String) : Bool := ((P.globalNamed n).bind (P.globals[·]?)).all fun gl => P.readableRec gl.type && decide (gl.type < P.types.size)

/-- a named variable reads behind the call as before -/
theorem vars_stay {H : Type} {enc : TypeId × Value → H} {P : Program} (hl : laidOutB P = true) {n : String} {gs : List (DataW H)} {q : List MemPlace} {W W' : World} (hv : varRowed P n = true)
    (h : DataW.TrodVars enc P W (fun _ => true) [n] gs q) (hb : Below W.heap.size W W') {sp : Nat → Bool} (hs : ∀ p ∈ q, sp p.block = true) : DataW.TrodVars enc P W' sp [n] gs q := by
  have hlt := h.lt
  obtain ⟨g, t, cs, fuel, d, p, rfl, h1, h2, h3, h4, rfl⟩ := Go.ChangeShapes.trodVars_one h
  rw [varRowed] at hv
  have ht : P.readableRec t = true ∧ t < P.types.size := by
    have := hv
    rw [h1] at this
    cases hg : P.globals[g]? with
    | none => rw [hg] at h2; cases h2
    | some gl =>
      rw [hg] at h2
      obtain rfl : gl.type = t := Option.some.inj h2
      simpa [hg] using this
  have hp : ∀ x ∈ p, x.block < W.heap.size := fun x hx => hlt x (by simp [hx])
  exact Go.ChangeShapes.trodVars_mk1 h1 h2 (var_keep hb.block h3) (DataW.trod_stays (kids_book hl ht.1) (book_sized ht.1) (fun h => by cases h) ⟨ht.2, book_self t⟩ h4 (fun x hx => hb.same (hp x hx)) (fun x hx => hs x (by simp [hx])))

/-- a definition's line -/
def lineOf (d : ByteArray × Int) : List UInt8 := d.1.data.toList ++ [32, 61, 32] ++ Lib.itoa d.2 ++ [10]

/-- what impl.defsText answers -/
def defsAns (l : List (ByteArray × Int)) : ByteArray := ⟨(l.flatMap lineOf).toArray⟩

/-- few definitions, short names -/
def DefsFit (l : List (ByteArray × Int)) : Prop := l.length ≤ 100000 ∧ ∀ x ∈ l, x.1.size ≤ 1000 ∧ -9223372036854775808 ≤ x.2 ∧ x.2 ≤ 9223372036854775807

instance (l : List (ByteArray × Int)) : Decidable (DefsFit l) := inferInstanceAs (Decidable (_ ∧ _))

/-- what a lent slice of texts with numbers is in memory -/
theorem bs_pairs {X : Env} {m : Nat → Option Loc} {sh : Nat → Sh} {l : Bool} {xs : List (ByteArray × Int)} {v : Value} (h : VR X m sh (.bs l 2 (xs.map fun x => [.string x.1, .int .i64 x.2])) v) :
    (xs = [] ∧ ∃ a c, v = .slice a 0 c) ∨ ∃ b off c, v = .slice (some ⟨b, off, none⟩) xs.length c ∧ b < X.w0.heap.size ∧ ∀ (j : Nat) x, xs[j]? = some x → X.w0.cell? ⟨b, off + j * 2, none⟩ = some (.string x.1) ∧ X.w0.cell? ⟨b, off + j * 2 + 1, none⟩ = some (.int .i64 x.2) := by
  simp only [VR, List.length_map] at h
  obtain ⟨a, c, rfl, h2, _, h3 | ⟨b, off, rfl, h4, h5⟩⟩ := h
  · left
    have : xs = [] := by simpa using h3
    subst this
    exact ⟨rfl, a, c, rfl⟩
  · right
    refine ⟨b, off, c, rfl, (X.hB b (Env.Bl_B h4)).1, fun j x hj => ?_⟩
    obtain ⟨C, E, fz, hh, hc⟩ := h5
    have g := hc j [.string x.1, .int .i64 x.2] (by simp [hj])
    rw [cell_of_row X.w0 b _ C E fz hh, cell_of_row X.w0 b _ C E fz hh]
    exact ⟨by simpa using g 0 (.string x.1) rfl, by simpa using g 1 (.int .i64 x.2) rfl⟩

end Go.Eng
