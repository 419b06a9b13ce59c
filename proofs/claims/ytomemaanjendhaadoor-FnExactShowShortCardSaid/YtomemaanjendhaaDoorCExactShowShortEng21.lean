/- What is proved: a function's body that ends as told gives the function its contract (the theorem Spec.body). Conditions: what the body shows. -/
import Derived.Test.YtomemaanjendhaaDoorCExactShowShortEng20
set_option linter.unusedVariables false
set_option linter.unusedSimpArgs false
namespace Go.Eng
open Go

variable {P : Program} {nin : Nat}

/-- numbered from `i` on -/
def en {α : Type} : Nat → List α → List (Nat × α)
  | _, [] => []
  | i, x :: r => (i, x) :: en (i + 1) r

theorem look_en {α : Type} (d : α) : ∀ (l : List α) (n i : Nat), look d (en n l) i = if i < n then d else l.getD (i - n) d
  | [], n, i => by simp [en, look]
  | x :: r, n, i => by
    simp only [en, look_cons]
    rw [look_en d r (n + 1) i]
    by_cases h : i = n
    · subst h; simp
    · rw [if_neg h]
      by_cases h1 : i < n
      · rw [if_pos h1, if_pos (by omega)]
      · rw [if_neg h1, if_neg (by omega)]
        have : i - n = (i - (n + 1)) + 1 := by omega
        rw [this]; rfl

def initS (args : List AV) (hin : List AO) : S := ⟨en 0 args, en 0 hin⟩

def resAV (P : Program) (s : S) : ResultVar → Option AV
  | .tmp t => some (s.T t)
  | .cell a t => match s.T a with
    | .pt k off => match s.O k with
      | .box cs => match aggOf P t with
        | some (g, n) => match evCells g n off cs with
          | some ev => some ev.x
          | none => none
        | none => none
      | _ => none
    | _ => none

def resAVs (P : Program) (s : S) : List ResultVar → Option (List AV)
  | [] => some []
  | r :: rs => match resAV P s r with
    | some x => match resAVs P s rs with
      | some xs => some (x :: xs)
      | none => none
    | none => none

def packRes : List AV → AV
  | [x] => x
  | xs => .tup xs

def OutOk (O : Nat → AO) (f : Nat → Nat) : List Nat → List AO → Prop
  | _, [] => True
  | _ :: ks, .dead :: os => OutOk O f ks os
  | k :: ks, o :: os => O k = o.ren f ∧ OutOk O f ks os
  | [], _ :: _ => False

theorem OutOk.get {O : Nat → AO} {f : Nat → Nat} : ∀ {ks : List Nat} {os : List AO}, OutOk O f ks os → ∀ i, oL os i = .dead ∨ ∃ k, ks[i]? = some k ∧ O k = (oL os i).ren f
  | _, [], _, i => .inl (oL_out (Nat.zero_le _))
  | [], o :: os, h, i => by cases o <;> exact False.elim h
  | k :: ks, o :: os, h, i => by
    cases i with
    | zero =>
      cases o with
      | dead => exact .inl rfl
      | _ => exact .inr ⟨k, rfl, h.1⟩
    | succ i =>
      have h' : OutOk O f ks os := by
        cases o with
        | dead => exact h
        | _ => exact h.2
      have := h'.get i
      simpa [oL] using this

/-- what a body must come to -/
structure Out (P : Program) (rs : List ResultVar) (nin : Nat) (res : AV) (hout : List AO) (s : S) : Prop where
  outs : ∃ l : List Nat, distB (List.range nin ++ l) = true ∧ OutOk s.O (rho (List.range nin ++ l)) (List.range nin ++ l) hout ∧ ∃ xs, resAVs P s rs = some xs ∧ packRes xs = res.ren (rho (List.range nin ++ l))

def slotVal (tmps : Array Value) : ResultVar → Sem Value
  | .tmp t => pure (tmps.getD t undef)
  | .cell ad t => do loadVar t (← asAddr (tmps.getD ad undef))

def packV : List Value → Value
  | [x] => x
  | vs => .tuple vs.toArray

theorem resAV_ok {X : Env} {N : Nat} {s : S} {m : Nat → Option Loc} {a : Act} {w : World} (hr : Rel X N s m a w) {r : ResultVar} {x : AV} (h : resAV P s r = some x) :
    ∃ v, (slotVal a.tmps r).run P w = .ok v w ∧ VR X m s.sh x v := by
  cases r with
  | tmp t =>
    simp only [resAV, Option.some.injEq] at h
    subst h
    exact ⟨_, rfl, hr.slot t⟩
  | cell ad t =>
    simp only [resAV] at h
    split at h
    · rename_i k off hx
      split at h
      · rename_i cs hO
        split at h
        · rename_i g n ht
          split at h
          · rename_i ev hev
            simp only [Option.some.injEq] at h
            subst h
            have e1 := hr.slot ad
            rw [hx] at e1
            have hsh : s.sh k = .box cs.length := by simp [S.sh, hO, AO.sh]
            simp only [VR, hsh] at e1
            obtain ⟨L, hm, e1⟩ := e1
            have ob := hr.obj k
            unfold HR at ob
            simp only [hO] at ob
            obtain ⟨L', C, E, hm', hh, hv, _⟩ := ob
            rw [hm] at hm'; cases hm'
            obtain ⟨_, v, h1, h2⟩ := load_cells ht hv hh hev
            refine ⟨v, ?_, h2⟩
            simp only [slotVal, e1, Sem.run_bind, asAddr, Sem.run_pure, Result.andThen_ok]
            exact h1
          · cases h
        · cases h
      · cases h
    · cases h

theorem results_ok {X : Env} {N : Nat} {s : S} {m : Nat → Option Loc} {a : Act} {w : World} (hr : Rel X N s m a w) : ∀ {rs : List ResultVar} {xs : List AV}, resAVs P s rs = some xs →
    ∃ vs, (rs.mapM (slotVal a.tmps)).run P w = .ok vs w ∧ VRs X m s.sh xs vs
  | [], xs, h => by
    simp only [resAVs, Option.some.injEq] at h
    subst h
    exact ⟨[], rfl, rfl⟩
  | r :: rs, xs, h => by
    simp only [resAVs] at h
    split at h
    · rename_i x hx
      split at h
      · rename_i ys hys
        simp only [Option.some.injEq] at h
        subst h
        obtain ⟨v, h1, h2⟩ := resAV_ok hr hx
        obtain ⟨vs, h3, h4⟩ := results_ok hr hys
        refine ⟨v :: vs, ?_, ⟨v, vs, rfl, h2, h4⟩⟩
        rw [List.mapM_cons, Sem.run_bind]
        rw [h1]
        simp only [Result.andThen_ok, Sem.run_bind, h3, Sem.run_pure]
      · cases h
    · cases h

theorem initS_T (args : List AV) (hin : List AO) (t : Nat) : (initS args hin).T t = args.getD t .any := by
  simp only [S.T, initS, look_en]; simp
theorem initS_O (args : List AV) (hin : List AO) : (initS args hin).O = oL hin := by
  funext k; simp only [S.O, initS, look_en, oL]; simp
theorem initS_sh (args : List AV) (hin : List AO) : (initS args hin).sh = shL hin := by
  funext k; simp only [S.sh, initS_O]; rfl

theorem Rel.init {X : Env} {N : Nat} {args : List AV} {hin : List AO} {m : Nat → Option Loc} {vs : List Value} (hN : args.length ≤ N) (hm : X.m0 = m) (hv : VRs X m (shL hin) args vs)
    (hh : ∀ k, HR X m (oL hin) X.w0 k) (hd : Dist (shL hin) m) : Rel X N (initS args hin) m { tmps := vs.toArray ++ Array.replicate (N - vs.toArray.size) undef, defers := [] } X.w0 where
  size := by have := VRs_length hv; simp; omega
  defers := rfl
  slot := fun t => by
    rw [initS_T, initS_sh, List.getD_eq_getElem?_getD]
    by_cases ht : t < args.length
    · rw [List.getElem?_eq_getElem ht, Option.getD_some]
      obtain ⟨x, h1, h2⟩ := VRs_get hv t _ (List.getElem?_eq_getElem ht)
      have : t < vs.length := by rw [VRs_length hv]; exact ht
      have e : (vs.toArray ++ Array.replicate (N - vs.toArray.size) undef).getD t undef = x := by
        rw [Array.getD_eq_getD_getElem?, Array.getElem?_append_left (by simpa using this)]
        simp [h1]
      rw [e]; exact h2
    · rw [List.getElem?_eq_none (by omega), Option.getD_none]; simp only [VR]
  obj := fun k => by rw [initS_O]; exact hh k
  dist := by rw [initS_sh]; exact hd
  keep := fun k _ _ => by rw [hm]
  fr := Fr.refl X

theorem run_results {fn : Func} {tmps : Array Value} {w : World} {vs : List Value}
    (h : (fn.results.toList.mapM (slotVal tmps)).run P w = .ok vs w) :
    (results fn tmps).run P w = .ok (packV vs) w := by
  have h' : (fn.results.mapM (slotVal tmps)).run P w = .ok vs.toArray w := by
    rw [← Array.toArray_toList (xs := fn.results), List.mapM_toArray]
    rw [map_eq_pure_bind, Sem.run_bind, h]
    simp only [Result.andThen_ok, Sem.run_pure]
  have e : results fn tmps = (do let vs ← fn.results.mapM (slotVal tmps); pure (if h : vs.size = 1 then vs[0] else .tuple vs)) := by
    unfold results slotVal; rfl
  rw [e, Sem.run_bind, h']
  simp only [Result.andThen_ok, Sem.run_pure]
  cases vs with
  | nil => rfl
  | cons x r => cases r with
    | nil => rfl
    | cons y r => simp [packV]

theorem VR_pack {X : Env} {m : Nat → Option Loc} {sh : Nat → Sh} {xs : List AV} {vs : List Value} (h : VRs X m sh xs vs) : VR X m sh (packRes xs) (packV vs) := by
  have hl := VRs_length h
  match xs, vs, hl, h with
  | [], [], _, h => simp only [packRes, packV, VR]; exact ⟨[], rfl, h⟩
  | [x], [v], _, h =>
    simp only [VRs] at h
    obtain ⟨y, ys, e, h1, h2⟩ := h
    subst h2
    cases e
    exact h1
  | x :: y :: r, v :: u :: q, _, h => simp only [packRes, packV, VR]; exact ⟨_, rfl, h⟩

theorem out_ok {X : Env} {N : Nat} {s : S} {m : Nat → Option Loc} {a : Act} {w : World} {fn : Func} {nin : Nat} {res : AV} {hout : List AO} (hr : Rel X N s m a w) (hn : X.nin = nin) (ho : Out P fn.results.toList nin res hout s) :
    ∃ v, (results fn a.tmps).run P w = .ok v w ∧ ∃ m', VR X m' (shL hout) res v ∧ (∀ k, HR X m' (oL hout) w k) ∧ Dist (shL hout) m' ∧ (∀ k, k < nin → shL hout k ≠ .dead → m' k = X.m0 k) := by
  obtain ⟨l, hdist, hout', xs, hxs, hpack⟩ := ho
  obtain ⟨vs, h1, h2⟩ := results_ok hr hxs
  refine ⟨_, run_results h1, ?_⟩
  generalize hL : List.range nin ++ l = L at *
  generalize hρ : rho L = ρ at *
  have hget : ∀ i, shL hout i ≠ .dead → ∃ k, L[i]? = some k ∧ ρ i = k ∧ s.O k = (oL hout i).ren ρ ∧ s.sh k = shL hout i := fun i hi => by
    rcases hout'.get i with h | ⟨k, hk, hO⟩
    · exact absurd (by simp only [shL, h]; rfl) hi
    · refine ⟨k, hk, by rw [← hρ]; simp [rho, List.getD_eq_getElem?_getD, hk], hO, ?_⟩
      simp only [S.sh, hO, AO.sh_ren]; rfl
  have hconv : ∀ i, shL hout i = .dead ∨ (shL hout i = s.sh (ρ i) ∧ m (ρ i) = m (ρ i)) := fun i => by
    by_cases h : shL hout i = .dead
    · exact .inl h
    · obtain ⟨k, _, h2, _, h4⟩ := hget i h
      exact .inr ⟨by rw [h2, h4], rfl⟩
  refine ⟨fun i => m (ρ i), ?_, fun i => ?_, fun i j A B hij hi hj hA hB => ?_, fun i hi hd => ?_⟩
  · have hv := VR_pack h2
    rw [hpack, VR_ren] at hv
    exact VR_conv _ (fun i _ => hconv i) _ hv
  · by_cases h : shL hout i = .dead
    · have : oL hout i = .dead := by
        cases ho : oL hout i <;> simp [shL, ho, AO.sh] at h
        rfl
      unfold HR; rw [this]; trivial
    · obtain ⟨k, _, hk, hO, _⟩ := hget i h
      refine HR_map (fun _ => True) (hr.obj (ρ i)) ((oL hout i).ren ρ) (by rw [hk]; exact hO) (oL hout i) rfl rfl (fun L _ _ hL => hL) ?_
      cases ho : oL hout i with
      | box cs =>
        simp only [AO.ren, AO.like]
        intro l' hl'
        rw [VRs_ren] at hl'
        exact VRs_conv cs (fun j _ => hconv j) l' hl'
      | _ => simp [AO.ren, AO.like]
  · obtain ⟨k, hk1, hk2, _, hk4⟩ := hget i hi
    obtain ⟨k', hk1', hk2', _, hk4'⟩ := hget j hj
    refine hr.dist (ρ i) (ρ j) A B ?_ (by rw [hk2, hk4]; exact hi) (by rw [hk2', hk4']; exact hj) hA hB
    rw [hk2, hk2']
    rintro rfl
    have p1 := pos_some hdist i 0 hk1
    have p2 := pos_some hdist j 0 hk1'
    rw [p1] at p2
    simp at p2; exact hij p2
  · obtain ⟨k, hk1, hk2, _, hk4⟩ := hget i hd
    have : k = i := by
      rw [← hL, List.getElem?_append_left (by simpa using hi)] at hk1
      simp [hi] at hk1; exact hk1.symm
    subst this
    show m (ρ k) = X.m0 k
    rw [hk2]
    exact hr.keep k (by omega) (by rw [hk4]; exact hd)

/-- from a body to the contract; `φ` what is known of the answer beside -/
theorem AX.spec {α : Sort _} {f : FuncId} {fn : Func} {c : Code} {args : List AV} {hin : List AO} (res : α → AV) (hout : α → List AO) (φ : α → Prop) (hf : P.funcs[f]? = some fn) (hname : (fn.name == "runtime.NumGoroutine") = false) (hb : fn.body = some c) (hN : Nat.ble args.length fn.ntmps = true)
    (h : AX P fn.ntmps hin.length c (initS args hin) (fun ex s => (ex = .normal ∨ ex = .ret) ∧ ∃ y, φ y ∧ Out P fn.results.toList hin.length (res y) (hout y) s)) :
    ∃ y, φ y ∧ Spec P f args hin (res y) (hout y) := by
  obtain ⟨ex, s1, ⟨hex, y, hφ, hout1⟩, h⟩ := h
  refine ⟨y, hφ, ⟨fn, hf, hname, by rw [hb]; rfl⟩, fun X m vs hn hm hv hh hd => ?_⟩
  refine calls_of_wp hf hb ?_
  have hr := Rel.init (N := fn.ntmps) (Nat.le_of_ble_eq_true hN) hm hv hh hd
  refine wp_mono (h X m _ _ hn hr) fun e a' w' he => ?_
  obtain ⟨rfl, m', hr'⟩ := he
  obtain ⟨v, h1, m2, h2, h3, h4, h5⟩ := out_ok hr' hn hout1
  rw [hm] at h5
  rcases hex with rfl | rfl
  · exact ⟨hr'.defers, v, h1, v, m2, rfl, h2, h3, h4, h5, hr'.fr⟩
  · exact ⟨hr'.defers, v, h1, v, m2, rfl, h2, h3, h4, h5, hr'.fr⟩

theorem Spec.body {f : FuncId} {fn : Func} {c : Code} {args : List AV} {hin : List AO} {res : AV} {hout : List AO} (hf : P.funcs[f]? = some fn) (hname : (fn.name == "runtime.NumGoroutine") = false) (hb : fn.body = some c) (hN : Nat.ble args.length fn.ntmps = true)
    (h : AX P fn.ntmps hin.length c (initS args hin) (fun ex s => (ex = .normal ∨ ex = .ret) ∧ Out P fn.results.toList hin.length res hout s)) : Spec P f args hin res hout :=
  let ⟨_, _, h⟩ := AX.spec (α := Unit) (fun _ => res) (fun _ => hout) (fun _ => True) hf hname hb hN (h.mono fun _ _ h => ⟨h.1, (), trivial, h.2⟩)
  h

end Go.Eng
