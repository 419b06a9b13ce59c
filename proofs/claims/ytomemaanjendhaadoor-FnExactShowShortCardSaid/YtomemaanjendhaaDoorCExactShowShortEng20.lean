/- What is proved: a call of a function that has a contract does to the caller's abstract state what the contract says (the theorem call_ok). Conditions: the contract; that the arguments fit it. -/
import Derived.Test.YtomemaanjendhaaDoorCExactShowShortEng19
set_option linter.unusedVariables false
set_option linter.unusedSimpArgs false
namespace Go.Eng
open Go

variable {P : Program} {nin : Nat}

theorem VRs_append {X : Env} {m : Nat → Option Loc} {sh : Nat → Sh} : ∀ {av bs : List AV} {l r : List Value}, VRs X m sh av l → VRs X m sh bs r → VRs X m sh (av ++ bs) (l ++ r)
  | [], bs, l, r, h, h' => by simp only [VRs] at h; subst h; exact h'
  | a :: av, bs, l, r, h, h' => by
    simp only [VRs] at h
    obtain ⟨x, xs, rfl, h1, h2⟩ := h
    exact ⟨x, xs ++ r, rfl, h1, VRs_append h2 h'⟩

theorem VRs_eval {X : Env} {N : Nat} {s : S} {m : Nat → Option Loc} {a : Act} {w : World} (h : Rel X N s m a w) : ∀ (l : List Operand), VRs X m s.sh (l.map (evO s)) (l.map a.eval)
  | [] => rfl
  | x :: l => ⟨_, _, rfl, h.eval x, VRs_eval h l⟩

theorem call_enters {o : Oper} {s : S} {f : FuncId} {A : List AV} (hco : callOf s o = some (f, A)) (hP : Callable P f) {X : Env} {N : Nat} {m : Nat → Option Loc} {a : Act} {w : World} (h : Rel X N s m a w) :
    ∃ vs, (execOp a.eval o).run P w = .ok (.enter f vs.toArray) w ∧ VRs X m s.sh A vs := by
  unfold callOf at hco
  split at hco
  · rename_i fo args tys ho
    split at hco
    · rename_i g caps hfo
      simp only [Option.some.injEq, Prod.mk.injEq] at hco
      obtain ⟨rfl, rfl⟩ := hco
      have hv := h.eval fo
      rw [hfo] at hv
      simp only [VR] at hv
      obtain ⟨C, hv, hC⟩ := hv
      refine ⟨args.toList.map a.eval ++ C, ?_, VRs_append (VRs_eval h _) hC⟩
      obtain ⟨fn, h1, h2, h3⟩ := hP
      have e : (args.toList.map a.eval ++ C).toArray = #[] ++ args.map a.eval ++ C.toArray := by
        apply Array.ext'
        simp
      have e1 : (resolve a.eval { callee := .value fo, args := args, argTypes := tys } o.type).run P w = .ok { target := .fn (.func g) C.toArray, args := #[] ++ args.map a.eval } w := by
        simp only [resolve, hv]
        rfl
      have e2 : (invoke (.fn (.func g) C.toArray) (#[] ++ args.map a.eval)).run P w = .ok (.enter g (#[] ++ args.map a.eval ++ C.toArray)) w := by
        have h2' : ¬ fn.name = "runtime.NumGoroutine" := fun hx => by rw [hx] at h2; simp at h2
        have h3' : ¬ fn.body = none := fun hx => by rw [hx] at h3; simp at h3
        simp [invoke, callFunc, go_sem, h1, h2', h3']
      rw [e]
      simp only [execOp, ho, Sem.run_bind, e1]
      exact e2
    · cases hco
  · cases hco

/-- the blocks of the objects that are handed over -/
noncomputable def blocksOf (s : S) (m : Nat → Option Loc) (ks : List Nat) : List Nat :=
  ks.filterMap fun k => match s.sh k, m k with
    | .dead, _ => none
    | _, some L => some L.b
    | _, none => none

theorem mem_blocks {s : S} {m : Nat → Option Loc} {ks : List Nat} {b : Nat} : b ∈ blocksOf s m ks ↔ ∃ k ∈ ks, s.sh k ≠ .dead ∧ ∃ L, m k = some L ∧ L.b = b := by
  unfold blocksOf
  rw [List.mem_filterMap]
  constructor
  · rintro ⟨k, hk, h⟩
    split at h
    · cases h
    · rename_i L hm hd
      cases h
      exact ⟨k, hk, hd, L, hm, rfl⟩
    · cases h
  · rintro ⟨k, hk, hd, L, hm, rfl⟩
    refine ⟨k, hk, ?_⟩
    split
    · rename_i hdd; exact absurd hdd hd
    · rename_i L' hm' _
      rw [hm] at hm'; cases hm'; rfl
    · rename_i hm' _
      rw [hm] at hm'; cases hm'

/-- what comes back is told in the caller's names -/
theorem VR_home {X X' : Env} {m2 m3 : Nat → Option Loc} {sh2 sh3 : Nat → Sh} {f : Nat → Nat} {n : Nat} (hmap : ∀ i, i < n → m3 (f i) = m2 i ∧ sh3 (f i) = sh2 i)
    (hB1 : ∀ b, X'.B1 b → X.B1 b) (hw : ∀ b, X.B b → X'.w0.heap[b]? = X.w0.heap[b]?) (a : AV) (hu : a.under n = true) (hc : a.closed = true ∨ ∀ b, X'.B b → X.B b) (v : Value) (h : VR X' m2 sh2 a v) : VR X m3 sh3 (a.ren f) v := by
  rw [VR_ren]
  have h' : VR X m2 sh2 a v := by
    rcases hc with hc | hc
    · exact VR_back hB1 hw a v hc h
    · exact VR_env (fun b hb => hc b hb) hB1 (fun b hb => (hw b (hc b hb)).symm) a v h
  refine VR_conv a (fun k hk => .inr ?_) v h'
  obtain ⟨h1, h2⟩ := hmap k (under_names a hu hk)
  exact ⟨h2, h1⟩

theorem VRs_home {X X' : Env} {m2 m3 : Nat → Option Loc} {sh2 sh3 : Nat → Sh} {f : Nat → Nat} {n : Nat} (hmap : ∀ i, i < n → m3 (f i) = m2 i ∧ sh3 (f i) = sh2 i)
    (hB1 : ∀ b, X'.B1 b → X.B1 b) (hw : ∀ b, X.B b → X'.w0.heap[b]? = X.w0.heap[b]?) (a : List AV) (hu : AV.underL n a = true) (hc : AV.closedL a = true ∨ ∀ b, X'.B b → X.B b) (v : List Value) (h : VRs X' m2 sh2 a v) : VRs X m3 sh3 (AV.renL f a) v := by
  rw [VRs_ren]
  have h' : VRs X m2 sh2 a v := by
    rcases hc with hc | hc
    · exact VRs_back hB1 hw a v hc h
    · exact VRs_env (fun b hb => hc b hb) hB1 (fun b hb => (hw b (hc b hb)).symm) a v h
  refine VRs_conv a (fun k hk => .inr ?_) v h'
  obtain ⟨h1, h2⟩ := hmap k (under_namesL a hu hk)
  exact ⟨h2, h1⟩

theorem oL_mem {l : List AO} {i : Nat} (h : i < l.length) : oL l i ∈ l := by
  unfold oL; rw [List.getD_eq_getElem?_getD, List.getElem?_eq_getElem h]; exact List.getElem_mem h
theorem oL_out {l : List AO} {i : Nat} (h : l.length ≤ i) : oL l i = .dead := by
  unfold oL; rw [List.getD_eq_getElem?_getD, List.getElem?_eq_none h]; rfl

theorem call_ok {f : FuncId} {args : List AV} {hin : List AO} {res : AV} {hout : List AO} (hS : Spec P f args hin res hout) {A : List AV} {bobjs : List (Nat × AO)} {ks ns bor : List Nat}
    (hA : All2 (Cv2 ⟨rho (ks ++ ns), hin.length, lkO (handO (rho (ks ++ ns)) ks hin ++ bobjs), bor⟩) A args) (hb : callB ks ns bor hin res hout = true) (hsh : ShKeep hin hout) :
    CallV P nin f A (handO (rho (ks ++ ns)) ks hin ++ bobjs) (callEv ks ns res hout) := by
  intro s o hco hobj X N m a w K Q hn hr hd hnw _ hK
  simp only [callB, Bool.and_eq_true, Bool.or_eq_true, List.all_eq_true, Bool.not_eq_true'] at hb
  obtain ⟨⟨⟨⟨⟨⟨⟨hl1, hl2⟩, hdist⟩, hbor⟩, hinu⟩, hresu⟩, houtu⟩, hclosed⟩ := hb
  have hl1 := Nat.eq_of_beq_eq_true hl1
  have hl2 := Nat.eq_of_beq_eq_true hl2
  obtain ⟨vs, hrun, hvs⟩ := call_enters hco hS.callable hr
  generalize hρ : rho (ks ++ ns) = ρ at *
  have hρi : ∀ (i k : Nat), (ks ++ ns)[i]? = some k → ρ i = k := fun i k h => by
    rw [← hρ]; simp [rho, List.getD_eq_getElem?_getD, h]
  have hks : ∀ i, i < hin.length → ∃ k, ks[i]? = some k ∧ (ks ++ ns)[i]? = some k ∧ ρ i = k := fun i hi => by
    obtain ⟨k, hk⟩ : ∃ k, ks[i]? = some k := ⟨_, List.getElem?_eq_getElem (by omega)⟩
    have hk' : (ks ++ ns)[i]? = some k := by rw [List.getElem?_append_left (by omega)]; exact hk
    exact ⟨k, hk, hk', hρi i k hk'⟩
  have hall : ∀ i, i < hout.length → ∃ k, (ks ++ ns)[i]? = some k ∧ ρ i = k := fun i hi => by
    obtain ⟨k, hk⟩ : ∃ k, (ks ++ ns)[i]? = some k := ⟨_, List.getElem?_eq_getElem (by rw [List.length_append]; omega)⟩
    exact ⟨k, hk, hρi i k hk⟩
  have hO : ∀ i, i < hin.length → s.O (ρ i) = (oL hin i).ren ρ := fun i hi => by
    obtain ⟨k, hk, _, h⟩ := hks i hi
    rw [h]; exact hand_get (objsOk_append hobj) i k hi hk
  have hshi : ∀ i, i < hin.length → shL hin i = s.sh (ρ i) := fun i hi => by
    simp only [S.sh, hO i hi, AO.sh_ren]; rfl
  have hsho : ∀ i, hin.length ≤ i → shL hin i = .dead := fun i hi => by simp only [shL, oL_out hi]; rfl
  -- the callee's surroundings
  let X' : Env := {
    w0 := w
    mb := blocksOf s m ks
    B := fun b => X.B b ∨ ∃ k ∈ bor, s.sh k ≠ .dead ∧ ∃ L, m k = some L ∧ L.b = b
    B1 := X.B1
    hG := fun w2 h2 => Gfact.mono (fun b hb => .inl hb) (X.hG w2 fun b hb => (h2 b (.inl hb)).trans (hr.fr.at_B hb))
    hB1 := fun b hb => .inl (X.hB1 b hb)
    hB := fun b hb => by
      refine ⟨?_, fun hm => ?_⟩
      · rcases hb with hb | ⟨k, _, hk, L, hL, rfl⟩
        · exact Nat.lt_of_lt_of_le (X.hB b hb).1 hr.fr.size
        · exact ((hr.obj k).lt hL hk).1
      · obtain ⟨k, hk, hkd, L, hL, hLb⟩ := mem_blocks.1 hm
        rcases hb with hb | ⟨k', hk', hkd', L', hL', hLb'⟩
        · exact Env.own_not_B ((hr.obj k).lt hL hkd).2 (hLb ▸ hb)
        · refine hr.dist k k' L L' ?_ hkd hkd' hL hL' (hLb.trans hLb'.symm)
          rintro rfl
          have := hbor k hk'
          rw [memB_iff.2 hk] at this; cases this
    nin := hin.length
    m0 := fun i => m (ρ i) }
  have hown : ∀ L k, m k = some L → s.sh k ≠ .dead → X'.Own L.b → k ∈ ks := fun L k hL hd ho => by
    rcases ho with ho | ho
    · exact absurd ((hr.obj k).lt hL hd).1 (Nat.not_lt.2 ho)
    · obtain ⟨k', hk', hkd', L', hL', hLb'⟩ := mem_blocks.1 ho
      by_cases e : k = k'
      · exact e ▸ hk'
      · exact absurd hLb'.symm (hr.dist k k' L L' e hd hkd' hL hL')
  have hback : ∀ b, X'.Own b → X.Own b := fun b hb => by
    rcases hb with hb | hb
    · exact .inl (Nat.le_trans hr.fr.size hb)
    · obtain ⟨k', _, hkd', L', hL', rfl⟩ := mem_blocks.1 hb
      exact ((hr.obj k').lt hL' hkd').2
  have hlend : LendOk ⟨ρ, hin.length, lkO (handO ρ ks hin ++ bobjs), bor⟩ X X' s m (fun i => m (ρ i)) (shL hin) w := {
    B := fun b hb => .inl hb
    B1 := fun b hb => hb
    w0 := rfl
    same := fun b hb => hr.fr.at_B hb
    map := fun i hi => ⟨rfl, hshi i hi⟩
    ob := lkO_ok hobj
    bor := fun k L hk hd hm => .inr ⟨k, hk, hd, L, hm, rfl⟩
    obj := hr.obj }
  have hargs := hA.ok (Cv2.ok hlend) vs hvs
  have hnames : ∀ i, i < hin.length → ∀ k, (oL hin i).names k = true → k < hin.length := fun i hi k hk => by
    have := hinu _ (oL_mem hi)
    cases ho : oL hin i with
    | box cs => rw [ho] at hk this; exact under_namesL cs (by simpa [AO.under] using this) (by simpa [AO.names] using hk)
    | _ => rw [ho] at hk; simp [AO.names] at hk
  have hobjs : ∀ k, HR X' (fun i => m (ρ i)) (oL hin) X'.w0 k := fun k => by
    by_cases hk : k < hin.length
    · refine HR_map (fun _ => True) (hr.obj (ρ k)) _ (hO k hk) _ rfl rfl (fun L hL hdd _ => ?_) ?_
      · obtain ⟨k', h1, _, h3⟩ := hks k hk
        refine .inr (mem_blocks.2 ⟨ρ k, h3 ▸ List.mem_of_getElem? h1, ?_, L, hL, rfl⟩)
        simp only [S.sh, hO k hk]; exact hdd
      · cases ho : oL hin k with
        | box cs =>
          simp only [AO.ren, AO.like]
          intro l hl
          rw [VRs_ren] at hl
          refine VRs_conv cs (fun i hi => .inr ?_) l (VRs_env hlend.B hlend.B1 hlend.env cs l hl)
          have := hnames k hk i (by rw [ho]; simpa [AO.names] using hi)
          exact ⟨(hshi i this), rfl⟩
        | _ => simp [AO.ren, AO.like]
    · unfold HR; rw [oL_out (by omega)]; trivial
  have hdist0 : Dist (shL hin) (fun i => m (ρ i)) := fun k k' L L' hkk hk hk' hm hm' => by
    have hki : k < hin.length := Nat.lt_of_not_le fun h => hk (hsho k h)
    have hki' : k' < hin.length := Nat.lt_of_not_le fun h => hk' (hsho k' h)
    rw [hshi k hki] at hk
    rw [hshi k' hki'] at hk'
    refine hr.dist (ρ k) (ρ k') L L' ?_ hk hk' hm hm'
    intro e
    obtain ⟨j, _, h2, h3⟩ := hks k hki
    obtain ⟨j', _, h2', h3'⟩ := hks k' hki'
    have p1 := pos_some hdist k 0 h2
    have p2 := pos_some hdist k' 0 h2'
    rw [← h3] at p1
    rw [← h3', ← e, p1] at p2
    simp at p2; exact hkk p2
  have hcall := hS.run X' (fun i => m (ρ i)) vs rfl rfl hargs hobjs hdist0
  unfold Oper.wp
  rw [hrun, Oper.upon_enter]
  refine hcall.mono fun e w' he => ?_
  obtain ⟨v, m2, rfl, hv, ho2, hd2, hk2, hfr⟩ := he
  show K (a.put o.dst v) w'
  let m3 : Nat → Option Loc := fun k => match pos k (ks ++ ns) 0 with | some i => m2 i | none => m k
  refine hK m3 _ w' ?_
  -- the caller's objects afterwards
  generalize hs' : (Ev.hp (callEv ks ns res hout) s) = s'
  have hTs' : s'.T = s.T := by rw [← hs']; exact hp_T _ _
  have hO1 : ∀ i k, (ks ++ ns)[i]? = some k → s'.O k = (oL hout i).ren ρ := fun i k h => by
    rw [← hs', ← hρ]
    exact hand_hp (ks ++ ns) hout s hdist (by rw [List.length_append]; omega) i k h
  have hO2 : ∀ k, k ∉ ks ++ ns → s'.O k = s.O k := fun k h => by
    rw [← hs']
    exact hp_O_not _ _ _ fun p hp e => h (e ▸ hand_keys _ _ hp)
  have hm1 : ∀ i k, (ks ++ ns)[i]? = some k → m3 k = m2 i := fun i k h => by
    show (match pos k (ks ++ ns) 0 with | some i => m2 i | none => m k) = m2 i
    rw [pos_some hdist i 0 h, Nat.zero_add]
  have hm2 : ∀ k, k ∉ ks ++ ns → m3 k = m k := fun k h => by
    show (match pos k (ks ++ ns) 0 with | some i => m2 i | none => m k) = m k
    rw [pos_none h]
  have hsh1 : ∀ i k, (ks ++ ns)[i]? = some k → s'.sh k = shL hout i := fun i k h => by
    simp only [S.sh, hO1 i k h, AO.sh_ren]; rfl
  have hsh2 : ∀ k, k ∉ ks ++ ns → s'.sh k = s.sh k := fun k h => by simp only [S.sh, hO2 k h]
  have hmem : ∀ k, k ∈ ks ++ ns → ∃ i, i < hout.length ∧ (ks ++ ns)[i]? = some k := fun k h => by
    obtain ⟨i, hi, e⟩ := List.getElem_of_mem h
    exact ⟨i, by rw [List.length_append] at hi; omega, by rw [List.getElem?_eq_getElem hi, e]⟩
  -- a name that the caller's state bears keeps what it tells, or dies
  have hkeep : ∀ k, k ∉ ns → s'.sh k = .dead ∨ (s'.sh k = s.sh k ∧ m3 k = m k) := fun k hk => by
    by_cases h : k ∈ ks ++ ns
    · obtain ⟨i, _, hik⟩ := hmem k h
      have hii : i < hin.length := by
        apply Nat.lt_of_not_le
        intro hle
        rw [List.getElem?_append_right (by omega)] at hik
        exact hk (List.mem_of_getElem? hik)
      rcases hsh.get i hii with h1 | h1
      · exact .inl ((hsh1 i k hik).trans h1)
      · by_cases hdd : shL hout i = .dead
        · exact .inl ((hsh1 i k hik).trans hdd)
        · right
          refine ⟨(hsh1 i k hik).trans (h1.trans ((hshi i hii).trans (by rw [hρi i k hik]))), ?_⟩
          rw [hm1 i k hik, hk2 i hii hdd]
          show m (ρ i) = m k
          rw [hρi i k hik]
    · exact .inr ⟨hsh2 k h, hm2 k h⟩
  have hfree : ∀ k, k ∈ ns → (∀ t, (s.T t).names k = false) ∧ ∀ i, (s.O i).names k = false := fun k hk => S.free_spec (hnw k hk).2
  have hcl : ∀ b, bor = [] → X'.B b → X.B b := fun b hb h => by
    rcases h with h | ⟨k, hk, _⟩
    · exact h
    · rw [hb] at hk; cases hk
  have hmap : ∀ i, i < hout.length → m3 (ρ i) = m2 i ∧ s'.sh (ρ i) = shL hout i := fun i hi => by
    obtain ⟨k, h1, h2⟩ := hall i hi
    rw [h2]; exact ⟨hm1 i k h1, hsh1 i k h1⟩
  have hB0 : ∀ b, X.B b → X'.w0.heap[b]? = X.w0.heap[b]? := fun b hb => hr.fr.at_B hb
  have hobj2 : ∀ k, HR X m3 s'.O w' k := fun k => by
    by_cases h : k ∈ ks ++ ns
    · obtain ⟨i, hi, hik⟩ := hmem k h
      refine HR_map (fun _ => True) (ho2 i) _ rfl _ (hO1 i k hik) (hm1 i k hik) (fun L _ _ hL => hback _ hL) ?_
      cases ho : oL hout i with
      | box cs =>
        simp only [AO.ren, AO.like]
        intro l hl
        have hu := houtu _ (oL_mem hi)
        rw [ho] at hu
        refine VRs_home (X := X) (X' := X') (n := hout.length) (sh2 := shL hout) hmap (fun b hb => hb) hB0 cs (by simpa [AO.under] using hu) ?_ l hl
        rcases hclosed with hc | hc
        · right; intro b hb; exact hcl b (by simpa using hc) hb
        · left; have := hc.2 _ (oL_mem hi); rw [ho] at this; simpa [AO.closed] using this
      | _ => simp [AO.ren, AO.like]
    · refine (hr.obj k).conv (hO2 k h) (hm2 k h) (fun L hL hdd => ?_) (fun i hi => ?_)
      · refine hfr.block L.b ((hr.obj k).lt hL hdd).1 (fun hx => ?_)
        exact h (List.mem_append_left _ (hown L k hL hdd (.inr hx)))
      · by_cases hin' : i ∈ ns
        · have := (hfree i hin').2 k
          rw [hi] at this; cases this
        · exact hkeep i hin'
  have hrel : Rel X N s' m3 a w' := by
    refine ⟨hr.size, hr.defers, fun t => ?_, hobj2, fun k k' L L' hkk hk hk' hmk hmk' => ?_, fun k hk hdd => ?_, ?_⟩
    · rw [hTs']
      refine VR_conv _ (fun k hk => ?_) _ (hr.slot t)
      by_cases hin' : k ∈ ns
      · have := (hfree k hin').1 t
        rw [hk] at this; cases this
      · exact hkeep k hin'
    · have one : ∀ k k' L L', k ∈ ks ++ ns → k' ∉ ks ++ ns → s'.sh k ≠ .dead → s'.sh k' ≠ .dead → m3 k = some L → m3 k' = some L' → L.b ≠ L'.b := by
        intro k k' L L' h1 h2 hd1 hd1' hl hl' hbb
        obtain ⟨i, hi, hik⟩ := hmem k h1
        rw [hsh1 i k hik] at hd1
        rw [hsh2 k' h2] at hd1'
        rw [hm1 i k hik] at hl
        rw [hm2 k' h2] at hl'
        have := ((ho2 i).lt hl hd1).2
        exact h2 (List.mem_append_left _ (hown L' k' hl' hd1' (hbb ▸ this)))
      by_cases h1 : k ∈ ks ++ ns
      · by_cases h2 : k' ∈ ks ++ ns
        · obtain ⟨i, hi, hik⟩ := hmem k h1
          obtain ⟨i', hi', hik'⟩ := hmem k' h2
          rw [hsh1 i k hik] at hk
          rw [hsh1 i' k' hik'] at hk'
          rw [hm1 i k hik] at hmk
          rw [hm1 i' k' hik'] at hmk'
          refine hd2 i i' L L' ?_ hk hk' hmk hmk'
          rintro rfl
          rw [hik] at hik'; cases hik'; exact hkk rfl
        · exact one k k' L L' h1 h2 hk hk' hmk hmk'
      · by_cases h2 : k' ∈ ks ++ ns
        · exact Ne.symm (one k' k L' L h2 h1 hk' hk hmk' hmk)
        · rw [hsh2 k h1] at hk
          rw [hsh2 k' h2] at hk'
          rw [hm2 k h1] at hmk
          rw [hm2 k' h2] at hmk'
          exact hr.dist k k' L L' hkk hk hk' hmk hmk'
    · have hin' : k ∉ ns := fun h => by
        have := (hnw k h).1
        omega
      rcases hkeep k hin' with h | ⟨h1, h2⟩
      · exact absurd h hdd
      · rw [h1] at hdd
        rw [h2]; exact hr.keep k hk hdd
    · refine hr.fr.step hfr.os hfr.tape hfr.output hfr.size (fun b hb hbm => hfr.block b (Nat.lt_of_lt_of_le hb hr.fr.size) (fun hx => ?_))
      obtain ⟨k', _, hkd', L', hL', rfl⟩ := mem_blocks.1 hx
      rcases ((hr.obj k').lt hL' hkd').2 with h | h
      · omega
      · exact hbm h
  have hres : VR X m3 s'.sh (res.ren ρ) v := by
    refine VR_home (X := X) (X' := X') (n := hout.length) (sh2 := shL hout) hmap (fun b hb => hb) hB0 res hresu ?_ v hv
    rcases hclosed with hc | hc
    · right; intro b hb; exact hcl b (by simpa using hc) hb
    · left; exact hc.1
  have e : (Ev.ap { callEv ks ns res hout with c := none } o.dst s) = (match o.dst with | some d => s'.setT d (res.ren ρ) | none => s') := by
    rw [← hs', ← hρ]
    unfold Ev.ap
    cases o.dst <;> rfl
  rw [e]
  cases hdst : o.dst with
  | none => exact hrel
  | some d => exact hrel.putV (hd d hdst) hres

end Go.Eng
