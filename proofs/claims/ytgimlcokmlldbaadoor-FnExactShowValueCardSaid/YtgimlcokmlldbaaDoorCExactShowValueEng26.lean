/- What is proved: a function of Go's library that has a contract of the kit's shelf has a contract of the engine. Conditions: the shelf's contract, as each says. -/
import Derived.Test.YtgimlcokmlldbaaDoorCExactShowValueEng25
import Derived.LaidLaws
import Derived.LaidMore
import Derived.Stop.Joined
import Derived.Lib.ItoaNum
import Derived.Lib.Split
import Derived.Lib.IndexMore
import Derived.Lib.Strings
import Derived.Lib.Join
import Derived.Lib.AtoiAll
import Derived.Lib.TrailingZeros
import Derived.Lib.AppendIntMem
import Derived.Lib.AtoiErrMem
import Derived.Lib.AtoiAllCases
set_option linter.unusedVariables false
set_option linter.unusedSimpArgs false
namespace Go.Eng
open Go Go.RowKit

variable {P : Program}

theorem Fr.of_below {X : Env} {w' : World} (h : Below X.w0.heap.size X.w0 w') : Fr X w' :=
  ⟨h.os, h.tape, h.output, h.size, fun b hb _ => h.block b hb⟩

theorem HR_none {X : Env} {m : Nat → Option Loc} {w : World} (k : Nat) : HR X m (oL []) w k := by
  unfold HR; rw [oL_out (l := []) (i := k) (Nat.zero_le k)]; trivial

theorem Dist_none {m : Nat → Option Loc} : Dist (shL []) m := fun k k' L L' _ hk => absurd (by simp only [shL, oL_out (l := []) (i := k) (Nat.zero_le k)]; rfl) hk

/-- a function that answers a plain value and leaves all that was as it was -/
theorem spec_pure {f : FuncId} {args : List AV} {res : AV} {r : Value} (hc : Callable P f) (hr : ∀ X m sh, VR X m sh res r)
    (h : ∀ (X : Env) (m : Nat → Option Loc) (vs : List Value), VRs X m (shL []) args vs → Calls P f vs.toArray X.w0 (fun e w' => e = .returned r ∧ Below X.w0.heap.size X.w0 w')) : Spec P f args [] res [] := by
  refine ⟨hc, fun X m vs _ _ hv _ _ => (h X m vs hv).mono fun e w' ⟨he, hw⟩ => ?_⟩
  exact ⟨r, m, he, hr X m _, fun k => HR_none k, Dist_none, fun k hk => absurd hk (Nat.not_lt_zero k), Fr.of_below hw⟩

theorem heap_alloc_at (w : World) (o : Obj) : (w.alloc o).heap[w.heap.size]? = some o := by
  show (w.heap.push o)[w.heap.size]? = some o
  simp

/-- a function that answers a new slice of values of one cell -/
theorem spec_row {f : FuncId} {args : List AV} {T : TypeId} {xs : List Value} (hc : Callable P f) (hx : ∀ x ∈ xs, x.oneCell' = true)
    (h : ∀ (X : Env) (m : Nat → Option Loc) (vs : List Value), VRs X m (shL []) args vs → Calls P f vs.toArray X.w0 (fun e w' => e = .returned (.slice (some ⟨X.w0.heap.size, 0, none⟩) xs.length xs.length) ∧ w' = X.w0.alloc (.cells xs.toArray T))) :
    Spec P f args [] (.sl 0 0 xs.length) [.arr 1 (xs.map fun x => [x])] := by
  refine ⟨hc, fun X m vs _ _ hv _ _ => (h X m vs hv).mono fun e w' ⟨he, hw⟩ => ?_⟩
  subst hw
  have hb : Below X.w0.heap.size X.w0 (X.w0.alloc (.cells xs.toArray T)) := (Below.refl _ _).alloc (Nat.le_refl _) _
  have hh : (X.w0.alloc (.cells xs.toArray T)).heap[X.w0.heap.size]? = some (.cells xs.toArray T (0, 0)) := (heap_alloc_at X.w0 _)
  let m' : Nat → Option Loc := fun k => if k = 0 then some ⟨X.w0.heap.size, 0, xs.length⟩ else none
  have hsh : ∀ k, k ≠ 0 → shL [.arr 1 (xs.map fun x => [x])] k = .dead := fun k hk => by
    simp only [shL]; rw [oL_out (by simp; omega)]; rfl
  refine ⟨_, m', he, ?_, fun k => ?_, fun k k' L L' hkk hk hk' => ?_, fun k hk => absurd hk (Nat.not_lt_zero k), Fr.of_below hb⟩
  · have e0 : shL [.arr 1 (xs.map fun x => [x])] 0 = .arr 1 xs.length := by simp [shL, oL, AO.sh]
    simp only [VR, e0]
    exact ⟨by omega, _, _, rfl, Nat.le_refl _, .inr ⟨_, rfl, by simp, by simp⟩⟩
  · by_cases hk : k = 0
    · subst hk
      unfold HR
      have e1 : oL [.arr 1 (xs.map fun x => [x])] 0 = .arr 1 (xs.map fun x => [x]) := rfl
      rw [e1]
      simp only []
      refine ⟨fun e he => ?_, .inr ⟨_, xs.toArray, T, rfl, hh, by simp, by simp, fun i e hi j x hj => ?_, .inl (Nat.le_refl _)⟩⟩
      · obtain ⟨x, hx', rfl⟩ := List.mem_map.1 he
        exact ⟨rfl, fun y hy => by rw [List.mem_singleton.1 hy]; exact hx x hx'⟩
      · simp only [List.getElem?_map, Option.map_eq_some_iff] at hi
        obtain ⟨y, hy, rfl⟩ := hi
        cases j with
        | zero => simp only [List.getElem?_cons_zero, Option.some.injEq] at hj; subst hj; simpa using hy
        | succ j => simp at hj
    · unfold HR; rw [oL_out (by simp; omega)]; trivial
  · by_cases h0 : k = 0
    · exact absurd (hsh k' (by omega)) hk'
    · exact absurd (hsh k h0) hk

theorem below_drewN (w : World) (n : Nat) : Below w.heap.size w (w.drewN n) := ⟨rfl, rfl, rfl, Nat.le_refl _, fun _ _ => rfl⟩

theorem tab_get (tab : List Nat) (j : Nat) : ((tab.map fun n : Nat => (n : Int)).getD j 0) = ((tab.getD j 0 : Nat) : Int) := by
  rw [List.getD_eq_getElem?_getD, List.getElem?_map, List.getD_eq_getElem?_getD]
  cases tab[j]? <;> rfl

/-- the kit's rule for a row with listed variables (returnsInHanded_of_change_and), its contract told the world's shape besides -/
theorem rih_shaped {H : Type} {enc : TypeId × Value → H} {a : Assume} {C : Checked} {os : Os} {f : FuncId} {fn : Func} {s : ChangeSpec} {conds : List PathCond} {apart fresh handsOn again : Bool} {X : World → Array Value → Prop}
    (hX : ∀ (w w' : World) (args : Array Value), w.heap = w'.heap → X w args → X w' args)
    (own : ownKnob C.prog.godebug = none) (started : os.Started) (noInit : C.prog.inits.idxOf? f = none) (hfn : C.prog.funcs[f]? = some fn)
    (witness : ∃ (w : World) (tape : Tape) (i : Input), w.os = os ∧ (w.forCall tape i).Shaped C.prog ∧ i.vars = [] ∧ Input.okWide C.prog (w.forCall tape i) .any w.heap.size f i ∧
      ((s.pre enc C.prog fn conds apart (w.forCall tape i).memory i.args ∧ X (w.forCall tape i).memory i.args) ∧ sizedMet enc C.prog fn (OpenSpec.ofChange s) apart (w.forCall tape i).memory i.args) ∧ a.holds C.prog (lone (Frame.enter C.prog f i.args .normal) [] (w.forCall tape i)))
    (contract : ∀ (W : World) (base : Nat) (args : Array Value) (ds gs : List (DataW H)) (before : List MemPlace), W.ShapedOpen C.prog →
      (∀ (j : Nat) t v, fn.params[j]? = some t → args[j]? = some v → Value.okWide C.prog W .any base t v) →
      DataW.Whole enc C.prog fn.params.toList s.vars apart W args.toList ds gs before → X W args →
      Calls C.prog f args W fun e W' => ∃ v, e = .returned v ∧ s.post enc C.prog fn apart fresh handsOn again W args v W') :
    ReturnsInHanded a C os f .any (fun w args => (s.pre enc C.prog fn conds apart w args ∧ X w args) ∧ sizedMet enc C.prog fn (OpenSpec.ofChange s) apart w args) (s.post enc C.prog fn apart fresh handsOn again) := by
  refine returnsInHanded_of_calls own started noInit witness ?_
  intro w tape i _ hsh _ hok hpre hholds
  obtain ⟨_, _, _, fn', hfn', _, _, _, _, hval⟩ := hok
  have e : fn' = fn := Option.some.inj (hfn'.symm.trans hfn)
  subst e
  obtain ⟨⟨⟨ds, gs, before, hw, hc⟩, hx⟩, hz⟩ := hpre
  have hw' := DataW.Whole.of_heap (w' := w.forCall tape i) (by rfl) hw
  refine (contract (w.forCall tape i) w.heap.size i.args ds gs before hsh hval hw' (hX _ _ _ (by rfl) hx)).mono fun e W' ⟨v, he, hp⟩ => ?_
  subst he
  exact ChangeSpec.post_blind hp

/-- a function that answers a value of which not all is told, and leaves all that was as it was -/
theorem spec_val {f : FuncId} {args : List AV} {res : AV} (hc : Callable P f)
    (h : ∀ (X : Env) (m : Nat → Option Loc) (vs : List Value), VRs X m (shL []) args vs → Calls P f vs.toArray X.w0 (fun e w' => ∃ v, e = .returned v ∧ (∀ m sh, VR X m sh res v) ∧ Below X.w0.heap.size X.w0 w')) : Spec P f args [] res [] := by
  refine ⟨hc, fun X m vs _ _ hv _ _ => (h X m vs hv).mono fun e w' ⟨v, he, hr, hw⟩ => ?_⟩
  exact ⟨v, m, he, hr m _, fun k => HR_none k, Dist_none, fun k hk => absurd hk (Nat.not_lt_zero k), Fr.of_below hw⟩

theorem vr_int_err {X : Env} {m : Nat → Option Loc} {sh : Nat → Sh} {n : Int} {b : Bool} {v : Value} (h : (b = true → v = .nilIface) ∧ (b = false → ∃ te pe, v = .iface te pe)) :
    VR X m sh (.tup [.v (.int .i64 n), .er b]) (.tuple #[.int .i64 n, v]) := by
  unfold VR
  refine ⟨[.int .i64 n, v], rfl, ?_⟩
  unfold VRs
  refine ⟨_, _, rfl, by unfold VR; rfl, ?_⟩
  unfold VRs
  refine ⟨_, _, rfl, by unfold VR; exact h, ?_⟩
  unfold VRs
  rfl

/-- what strconv.Atoi answers: the number, and whether there is no error -/
def atoiAns (s : ByteArray) : Int × Bool :=
  match Lib.atoiAll s.data.toList with
  | .ok v => (v, true)
  | .syntax => (0, false)
  | .range => (Lib.atoiSat s.data.toList, false)

/-- what a lent slice of texts is in memory -/
theorem bs_strings {X : Env} {m : Nat → Option Loc} {sh : Nat → Sh} {l : Bool} {xs : List ByteArray} {v : Value} (h : VR X m sh (.bs l 1 (xs.map fun x => [.string x])) v) :
    (xs = [] ∧ ∃ a c, v = .slice a 0 c) ∨ ∃ b off c, v = .slice (some ⟨b, off, none⟩) xs.length c ∧ xs.length ≤ c ∧ b < X.w0.heap.size ∧ ∀ (j : Nat) x, xs[j]? = some x → X.w0.cell? ⟨b, off + j, none⟩ = some (.string x) := by
  simp only [VR, List.length_map] at h
  obtain ⟨a, c, rfl, h2, _, h3 | ⟨b, off, rfl, h4, h5⟩⟩ := h
  · left
    have : xs = [] := by simpa using h3
    subst this
    exact ⟨rfl, a, c, rfl⟩
  · right
    refine ⟨b, off, c, rfl, h2, (X.hB b (Env.Bl_B h4)).1, fun j x hj => ?_⟩
    obtain ⟨C, E, fz, hh, hc⟩ := h5
    rw [cell_of_row X.w0 b _ C E fz hh]
    have := hc j [.string x] (by simp [hj]) 0 (.string x) rfl
    simpa using this

end Go.Eng
