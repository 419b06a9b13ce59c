/- What is proved: the engine's rules for the code of a body: one behind the other, branches, blocks, loops, regions; and how a state is weakened. Conditions: those of the regions; a loop's own measure. -/
import Derived.Test.YtomemaanjendhaaDoorCExactShowShortEng16
set_option linter.unusedVariables false
set_option linter.unusedSimpArgs false
namespace Go.Eng
open Go

variable {P : Program} {N nin : Nat}

/-- from every machine state that the abstract one tells of, the code ends in one way, in a state that one and the same abstract state tells of; of these `R` holds -/
def AX (P : Program) (N nin : Nat) (c : Code) (s : S) (R : Exit → S → Prop) : Prop :=
  ∃ ex s', R ex s' ∧ ∀ (X : Env) m a w, X.nin = nin → Rel X N s m a w → c.wp P (fun e a' w' => e = ex ∧ ∃ m', Rel X N s' m' a' w') a w

theorem AX.mono {c : Code} {s : S} {R R' : Exit → S → Prop} (h : AX P N nin c s R) (hr : ∀ e s, R e s → R' e s) : AX P N nin c s R' :=
  let ⟨ex, s', h1, h2⟩ := h
  ⟨ex, s', hr _ _ h1, h2⟩

theorem AX.skip {s : S} {R : Exit → S → Prop} (h : R .normal s) : AX P N nin .skip s R :=
  ⟨.normal, s, h, fun X m a w _ hr => wp_skip ⟨rfl, m, hr⟩⟩

theorem AX.ret {s : S} {R : Exit → S → Prop} (h : R .ret s) : AX P N nin .ret s R :=
  ⟨.ret, s, h, fun X m a w _ hr => wp_ret ⟨rfl, m, hr⟩⟩

theorem AX.exit {id : Nat} {s : S} {R : Exit → S → Prop} (h : R (.exit id) s) : AX P N nin (.exit id) s R :=
  ⟨.exit id, s, h, fun X m a w _ hr => wp_exit ⟨rfl, m, hr⟩⟩

/-- what a body's next part owes -/
@[reducible] def Then (R : Exit → S → Prop) (next : S → Prop) : Exit → S → Prop
  | .normal, s => next s
  | e, s => R e s

theorem AX.seq {c d : Code} {s : S} {R : Exit → S → Prop} (h : AX P N nin c s (Then R fun s' => AX P N nin d s' R)) : AX P N nin (.seq c d) s R := by
  obtain ⟨ex, s1, h1, h2⟩ := h
  cases ex with
  | normal =>
    obtain ⟨ex2, s2, h3, h4⟩ := h1
    refine ⟨ex2, s2, h3, fun X m a w hn hr => wp_seq (wp_mono (h2 X m a w hn hr) fun e a' w' he => ?_)⟩
    obtain ⟨rfl, m', hr'⟩ := he
    exact h4 X m' a' w' hn hr'
  | _ =>
    refine ⟨_, s1, h1, fun X m a w hn hr => wp_seq (wp_mono (h2 X m a w hn hr) fun e a' w' he => ?_)⟩
    obtain ⟨rfl, m', hr'⟩ := he
    exact ⟨rfl, m', hr'⟩

theorem AX.cond_true {x : Operand} {c d : Code} {s : S} {R : Exit → S → Prop} (hx : evO s x = .v (.bool true)) (h : AX P N nin c s R) : AX P N nin (.cond x c d) s R := by
  obtain ⟨ex, s1, h1, h2⟩ := h
  refine ⟨ex, s1, h1, fun X m a w hn hr => wp_cond_true ?_ (h2 X m a w hn hr)⟩
  have := hr.eval x
  rw [hx] at this
  simpa only [VR] using this

theorem AX.cond_false {x : Operand} {c d : Code} {s : S} {R : Exit → S → Prop} (hx : evO s x = .v (.bool false)) (h : AX P N nin d s R) : AX P N nin (.cond x c d) s R := by
  obtain ⟨ex, s1, h1, h2⟩ := h
  refine ⟨ex, s1, h1, fun X m a w hn hr => wp_cond_false ?_ (h2 X m a w hn hr)⟩
  have := hr.eval x
  rw [hx] at this
  simpa only [VR] using this

/-- what a block's own exit becomes -/
@[reducible] def InBlock (id : Nat) (R : Exit → S → Prop) : Exit → S → Prop
  | .exit id', s => if id' = id then R .normal s else R (.exit id') s
  | e, s => R e s

theorem AX.block {id : Nat} {c : Code} {s : S} {R : Exit → S → Prop} (h : AX P N nin c s (InBlock id R)) : AX P N nin (.block id c) s R := by
  obtain ⟨ex, s1, h1, h2⟩ := h
  have key : ∃ ex', R ex' s1 ∧ ∀ X m' a' w', Rel X N s1 m' a' w' → Exit.inBlock id (fun e a' w' => e = ex' ∧ ∃ m', Rel X N s1 m' a' w') ex a' w' := by
    cases ex with
    | exit id' =>
      simp only [InBlock] at h1
      by_cases hid : id' = id
      · rw [if_pos hid] at h1
        exact ⟨.normal, h1, fun X m' a' w' hr => by simp only [Exit.inBlock, if_pos hid]; exact ⟨trivial, m', hr⟩⟩
      · rw [if_neg hid] at h1
        exact ⟨.exit id', h1, fun X m' a' w' hr => by simp only [Exit.inBlock, if_neg hid]; exact ⟨trivial, m', hr⟩⟩
    | _ => exact ⟨_, h1, fun X m' a' w' hr => ⟨rfl, m', hr⟩⟩
  obtain ⟨ex', k1, k2⟩ := key
  refine ⟨ex', s1, k1, fun X m a w hn hr => wp_block (wp_mono (h2 X m a w hn hr) fun e a' w' he => ?_)⟩
  obtain ⟨rfl, m', hr'⟩ := he
  exact k2 X m' a' w' hr'

/-- a state that tells less -/
def Wk (N nin : Nat) (s s' : S) : Prop := ∀ (X : Env) m a w, X.nin = nin → Rel X N s m a w → ∃ m', Rel X N s' m' a w

theorem Wk.refl (s : S) : Wk N nin s s := fun X m a w _ hr => ⟨m, hr⟩
theorem Wk.trans {s s' s'' : S} (h : Wk N nin s s') (h' : Wk N nin s' s'') : Wk N nin s s'' := fun X m a w hn hr =>
  let ⟨m', hr'⟩ := h X m a w hn hr
  h' X m' a w hn hr'
theorem Wk.of_eq {s s' : S} (h : s = s') : Wk N nin s s' := h ▸ Wk.refl s

theorem AX.wk {c : Code} {s s' : S} {R : Exit → S → Prop} (hw : Wk N nin s s') (h : AX P N nin c s' R) : AX P N nin c s R := by
  obtain ⟨ex, s1, h1, h2⟩ := h
  refine ⟨ex, s1, h1, fun X m a w hn hr => ?_⟩
  obtain ⟨m', hr'⟩ := hw X m a w hn hr
  exact h2 X m' a w hn hr'

/-! ### loops -/
theorem AX.loop {G : Type} {c : Code} (st : G → S) (ok : G → Prop) (μ : G → Nat) {s : S} {R : Exit → S → Prop} (g0 : G) (h0 : ok g0) (hs : Wk N nin s (st g0))
    (round : ∀ g, ok g → AX P N nin c (st g) (Then R fun s1 => ∃ g', ok g' ∧ μ g' < μ g ∧ Wk N nin s1 (st g'))) : AX P N nin (.loop c) s R := by
  have key : ∀ n g, μ g = n → ok g → ∃ ex s', R ex s' ∧ ∀ (X : Env) m a w, X.nin = nin → Rel X N (st g) m a w → ∀ (b : Frame) (k : List Go.Item) (cs : List Frame),
      ∃ e a' w', (e = ex ∧ ∃ m', Rel X N s' m' a' w') ∧ Arrives P (lone (b.at a (.code c :: .inLoop c :: k)) cs w) b k cs e a' w' := by
    intro n
    induction n using Nat.strongRecOn with
    | _ n ih =>
      intro g hn hok
      obtain ⟨ex, s1, h1, h2⟩ := round g hok
      have stop : ∀ (hne : ex ≠ .normal), R ex s1 → ∃ ex s', R ex s' ∧ ∀ (X : Env) m a w, X.nin = nin → Rel X N (st g) m a w → ∀ (b : Frame) (k : List Go.Item) (cs : List Frame),
          ∃ e a' w', (e = ex ∧ ∃ m', Rel X N s' m' a' w') ∧ Arrives P (lone (b.at a (.code c :: .inLoop c :: k)) cs w) b k cs e a' w' := by
        intro hne hR
        refine ⟨ex, s1, hR, fun X m a w hnn hr b k cs => ?_⟩
        obtain ⟨e, a', w', ⟨rfl, m', hr'⟩, harr⟩ := h2 X m a w hnn hr b (.inLoop c :: k) cs
        exact ⟨e, a', w', ⟨rfl, m', hr'⟩, .pass (x := .inLoop c) rfl (fun _ _ => .inl hne) harr⟩
      cases ex with
      | normal =>
        obtain ⟨g', hok', hlt, hw⟩ := h1
        obtain ⟨ex2, s2, h3, h4⟩ := ih (μ g') (hn ▸ hlt) g' rfl hok'
        refine ⟨ex2, s2, h3, fun X m a w hnn hr b k cs => ?_⟩
        obtain ⟨e, a', w', ⟨he, m', hr'⟩, harr⟩ := h2 X m a w hnn hr b (.inLoop c :: k) cs
        subst he
        obtain ⟨m'', hr''⟩ := hw X m' a' w' hnn hr'
        obtain ⟨e2, a2, w2, hq, harr2⟩ := h4 X m'' a' w' hnn hr'' b k cs
        exact ⟨e2, a2, w2, hq, .of_steps (Steps.trans harr (.one step_inLoop)) harr2⟩
      | _ => exact stop (by simp) h1
  obtain ⟨ex, s', h1, h2⟩ := key _ g0 rfl h0
  refine ⟨ex, s', h1, fun X m a w hn hr b k cs => ?_⟩
  obtain ⟨m', hr'⟩ := hs X m a w hn hr
  obtain ⟨e, a', w', hq, harr⟩ := h2 X m' a w hn hr' b k cs
  exact ⟨e, a', w', hq, .of_steps (.one step_loop) harr⟩

/-! ### forgetting, new names, empty arrays -/
def forget (ts ks : List Nat) (s : S) : S := ⟨ts.map fun t => (t, s.T t), ks.map fun k => (k, s.O k)⟩

theorem look_map {α : Type} (d : α) (f : Nat → α) : ∀ (l : List Nat) (i : Nat), look d (l.map fun t => (t, f t)) i = f i ∨ look d (l.map fun t => (t, f t)) i = d
  | [], i => .inr rfl
  | j :: r, i => by
    rw [List.map_cons, look_cons]
    split
    · rename_i h; subst h; exact .inl rfl
    · exact look_map d f r i

theorem Rel.forget {X : Env} {s : S} {m : Nat → Option Loc} {a : Act} {w : World} (h : Rel X N s m a w) (ts ks : List Nat) : Rel X N (forget ts ks s) m a w := by
  have hT : ∀ t, (Eng.forget ts ks s).T t = s.T t ∨ (Eng.forget ts ks s).T t = .any := fun t => look_map _ _ _ _
  have hO : ∀ k, (Eng.forget ts ks s).O k = s.O k ∨ (Eng.forget ts ks s).O k = .dead := fun k => look_map _ _ _ _
  have hsh : ∀ k, (Eng.forget ts ks s).sh k = .dead ∨ ((Eng.forget ts ks s).sh k = s.sh k ∧ m k = m k) := fun k => by
    rcases hO k with h | h
    · exact .inr ⟨by simp only [S.sh, h], rfl⟩
    · exact .inl (by simp only [S.sh, h]; rfl)
  have live : ∀ k, (Eng.forget ts ks s).sh k ≠ .dead → (Eng.forget ts ks s).sh k = s.sh k := fun k hk => (hsh k).elim (fun h => absurd h hk) (fun h => h.1)
  refine ⟨h.size, h.defers, fun t => ?_, fun k => ?_, fun i j L L' hij hi hj => ?_, fun i hi hd => ?_, h.fr⟩
  · rcases hT t with ht | ht
    · rw [ht]; exact VR_conv _ (fun k _ => hsh k) _ (h.slot t)
    · rw [ht]; simp only [VR]
  · rcases hO k with ho | ho
    · exact (h.obj k).conv ho rfl (fun _ _ _ => rfl) (fun i _ => hsh i)
    · unfold HR; rw [ho]; trivial
  · rw [live i hi] at hi
    rw [live j hj] at hj
    exact h.dist i j L L' hij hi hj
  · rw [live i hd] at hd
    exact h.keep i hi hd

theorem Wk.forget (ts ks : List Nat) {s s' : S} (h : Eng.forget ts ks s = s') : Wk N nin s s' := fun X m a w _ hr => ⟨m, h ▸ hr.forget ts ks⟩

mutual
def AV.ren (f : Nat → Nat) : AV → AV
  | .v x => .v x
  | .agg cs => .agg (AV.renL f cs)
  | .tup cs => .tup (AV.renL f cs)
  | .bs l sz es => .bs l sz es
  | .bp cs off => .bp (AV.renL f cs) off
  | .sl k lo len => .sl (f k) lo len
  | .pt k off => .pt (f k) off
  | .pe k i off => .pe (f k) i off
  | .be sz e off => .be sz e off
  | .fn g caps => .fn g (AV.renL f caps)
  | .mp k => .mp (f k)
  | .sx k n => .sx (f k) n
  | .bx cs => .bx (AV.renL f cs)
  | .bm ks => .bm ks
  | .er ok => .er ok
  | .any => .any
def AV.renL (f : Nat → Nat) : List AV → List AV
  | [] => []
  | a :: av => AV.ren f a :: AV.renL f av
end

def AO.ren (f : Nat → Nat) : AO → AO
  | .box cs => .box (AV.renL f cs)
  | o => o

theorem AV.renL_length' (f : Nat → Nat) : ∀ (av : List AV), (AV.renL f av).length = av.length
  | [] => rfl
  | a :: av => by simp [AV.renL, AV.renL_length' f av]

mutual
theorem VR_ren {X : Env} {m : Nat → Option Loc} {sh : Nat → Sh} (f : Nat → Nat) : ∀ (a : AV) (v : Value), VR X m sh (a.ren f) v ↔ VR X (fun k => m (f k)) (fun k => sh (f k)) a v
  | .v x, v => by simp only [AV.ren, VR]
  | .agg cs, v => by simp only [AV.ren, VR, VRs_ren f cs]
  | .tup cs, v => by simp only [AV.ren, VR, VRs_ren f cs]
  | .bs l sz es, v => by simp only [AV.ren, VR]
  | .bp cs off, v => by simp only [AV.ren, VR, VRs_ren f cs]
  | .sl k lo len, v => by simp only [AV.ren, VR]
  | .pt k off, v => by simp only [AV.ren, VR]
  | .pe k i off, v => by simp only [AV.ren, VR]
  | .be sz e off, v => by simp only [AV.ren, VR]
  | .fn g caps, v => by simp only [AV.ren, VR, VRs_ren f caps]
  | .mp k, v => by simp only [AV.ren, VR]
  | .sx k n, v => by simp only [AV.ren, VR]
  | .bx cs, v => by simp only [AV.ren, VR, VRs_ren f cs, AV.renL_length']
  | .bm ks, v => by simp only [AV.ren, VR]
  | .er ok, v => by simp only [AV.ren, VR]
  | .any, v => by simp only [AV.ren, VR]
theorem VRs_ren {X : Env} {m : Nat → Option Loc} {sh : Nat → Sh} (f : Nat → Nat) : ∀ (av : List AV) (l : List Value), VRs X m sh (AV.renL f av) l ↔ VRs X (fun k => m (f k)) (fun k => sh (f k)) av l
  | [], l => by simp only [AV.renL, VRs]
  | a :: av, l => by simp only [AV.renL, VRs, VR_ren f a, VRs_ren f av]
end

theorem AV.renL_length (f : Nat → Nat) : ∀ (av : List AV), (AV.renL f av).length = av.length
  | [] => rfl
  | a :: av => by simp [AV.renL, AV.renL_length f av]

theorem AO.sh_ren (f : Nat → Nat) (o : AO) : (o.ren f).sh = o.sh := by cases o <;> simp [AO.ren, AO.sh, AV.renL_length]

theorem HR_ren {X : Env} {m : Nat → Option Loc} {h h' : Nat → AO} {w : World} (f : Nat → Nat) {k k' : Nat} (hk : h k' = (h' k).ren f) (hm : m k' = m (f k)) (hs : ∀ i, (h (f i)).sh = (h' i).sh) :
    HR X m h w k' ↔ HR X (fun i => m (f i)) h' w k := by
  unfold HR
  rw [hk]
  cases ho : h' k with
  | dead => simp [AO.ren]
  | box cs => simp only [AO.ren, hm, VRs_ren f cs, hs]
  | arr sz es => simp only [AO.ren, hm]
  | map ks => simp only [AO.ren, hm]

/-- two names change places -/
def swp (x y : Nat) (k : Nat) : Nat := bif Nat.beq k x then y else bif Nat.beq k y then x else k

theorem swp_eq (x y k : Nat) : swp x y k = if k = x then y else if k = y then x else k := by
  unfold swp
  by_cases h : k = x
  · subst h; simp
  · have h1 : Nat.beq k x = false := by
      cases hb : Nat.beq k x
      · rfl
      · exact absurd (Nat.eq_of_beq_eq_true hb) h
    by_cases h' : k = y
    · subst h'; simp [h, h1]
    · have h2 : Nat.beq k y = false := by
        cases hb : Nat.beq k y
        · rfl
        · exact absurd (Nat.eq_of_beq_eq_true hb) h'
      simp [h, h', h1, h2]

theorem swp_swp (x y k : Nat) : swp x y (swp x y k) = k := by
  simp only [swp_eq]
  by_cases h : k = x
  · subst h
    by_cases h2 : y = k
    · simp [h2]
    · simp [h2]
  · by_cases h' : k = y
    · subst h'; simp [h]
    · simp [h, h']

def S.swap (x y : Nat) (s : S) : S := ⟨s.t.map fun p => (p.1, p.2.ren (swp x y)), s.h.map fun p => (swp x y p.1, p.2.ren (swp x y))⟩

theorem look_mapv {α β : Type} (d : α) (e : β) (f : α → β) (hd : f d = e) : ∀ (l : List (Nat × α)) (i : Nat), look e (l.map fun p => (p.1, f p.2)) i = f (look d l i)
  | [], i => by simp [look, hd]
  | (j, x) :: r, i => by
    rw [List.map_cons, look_cons, look_cons]
    split
    · rfl
    · exact look_mapv d e f hd r i

theorem look_mapk {α β : Type} (d : α) (e : β) (f : α → β) (g : Nat → Nat) (hg : ∀ k, g (g k) = k) (hd : f d = e) : ∀ (l : List (Nat × α)) (i : Nat), look e (l.map fun p => (g p.1, f p.2)) i = f (look d l (g i))
  | [], i => by simp [look, hd]
  | (j, x) :: r, i => by
    rw [List.map_cons, look_cons, look_cons]
    by_cases h : i = g j
    · subst h; simp [hg]
    · have : g i ≠ j := fun e => h (by rw [← e, hg])
      rw [if_neg h, if_neg this]
      exact look_mapk d e f g hg hd r i

theorem Rel.swap {X : Env} {s : S} {m : Nat → Option Loc} {a : Act} {w : World} (h : Rel X N s m a w) {x y : Nat} (hx : X.nin ≤ x) (hy : X.nin ≤ y) : Rel X N (s.swap x y) (fun k => m (swp x y k)) a w := by
  have hT : ∀ t, (s.swap x y).T t = (s.T t).ren (swp x y) := fun t => look_mapv AV.any AV.any _ rfl _ _
  have hO : ∀ k, (s.swap x y).O k = (s.O (swp x y k)).ren (swp x y) := fun k => look_mapk AO.dead AO.dead _ _ (swp_swp x y) rfl _ _
  have hsh : ∀ k, (s.swap x y).sh k = s.sh (swp x y k) := fun k => by simp only [S.sh, hO, AO.sh_ren]
  refine ⟨h.size, h.defers, fun t => ?_, fun k => ?_, fun i j L L' hij hi hj => ?_, fun i hi hd => ?_, h.fr⟩
  · rw [hT, VR_ren]
    have := h.slot t
    simp only [hsh, swp_swp]
    exact this
  · have := h.obj (swp x y k)
    rw [HR_ren (swp x y) (h' := s.O) (k := swp x y k) (hO k) (by simp only [swp_swp]) (fun i => by
      show (s.swap x y).sh (swp x y i) = s.sh i
      rw [hsh, swp_swp])]
    simp only [swp_swp]
    exact this
  · rw [hsh] at hi hj
    exact fun h1 h2 => h.dist _ _ L L' (fun e => hij (by rw [← swp_swp x y i, e, swp_swp])) hi hj h1 h2
  · rw [hsh] at hd
    have : swp x y i = i := by rw [swp_eq, if_neg (by omega), if_neg (by omega)]
    simp only [this] at hd ⊢
    exact h.keep i hi hd

theorem Wk.swap (x y : Nat) (hx : nin ≤ x) (hy : nin ≤ y) {s s' : S} (h : s.swap x y = s') : Wk N nin s s' := fun X m a w hn hr => ⟨_, h ▸ hr.swap (by omega) (by omega)⟩

/-- a nil slice told as an own array that is empty -/
theorem Wk.mat (t k sz : Nat) {s s' : S} (hs : s.T t = .v (.slice none 0 0)) (hk : nin ≤ k) (hf : s.free k = true) (h : (s.setO k (.arr sz [])).setT t (.sl k 0 0) = s') : Wk N nin s s' := by
  intro X m a w hn hr
  subst h
  refine ⟨fun i => if i = k then none else m i, ?_⟩
  have hr' : Rel X N (s.setO k (.arr sz [])) (fun i => if i = k then none else m i) a w :=
    hr.add (.arr sz []) none (by omega) hf (by rintro L hL; cases hL) (fun _ _ _ => rfl) (by rintro L hL; cases hL) rfl rfl rfl (Nat.le_refl _) (HR_empty (by rw [S.O_setO, if_pos rfl]) (by simp))
  have hv := hr.slot t
  rw [hs] at hv
  simp only [VR] at hv
  refine ⟨hr'.size, hr'.defers, fun t' => ?_, hr'.obj, hr'.dist, hr'.keep, hr'.fr⟩
  rw [S.T_setT]
  split
  · rename_i e
    subst e
    rw [hv]
    simp only [VR]
    have : (S.setT (s.setO k (.arr sz [])) t' (.sl k 0 0)).sh k = .arr sz 0 := by
      show (s.setO k (.arr sz [])).sh k = _
      rw [S.sh_setO, if_pos rfl]; rfl
    rw [this]
    exact ⟨Nat.le_refl _, none, 0, rfl, Nat.le_refl _, .inl rfl⟩
  · exact hr'.slot t'

/-! ### regions -/
theorem AX.region {id : Nat} {ops : Array Oper} {s s1 : S} {R : Exit → S → Prop} {its : List Item} {C : Prop}
    (hrun : (match runT P ops ops.toList its s with | some (rs, s') => bif freshB nin s (fun i j => Nat.blt i j) rs && dstB N ops then some (s', allC rs) else none | none => none) = some (s1, C)) (hC : C) (hV : allV P nin its)
    (hR : R .normal s1) : AX P N nin (.region id ops false) s R := by
  split at hrun
  · rename_i rs s' hr1
    cases hb : (freshB nin s (fun i j => Nat.blt i j) rs && dstB N ops) with
    | false => simp [hb] at hrun
    | true =>
      simp only [hb, cond_true, Option.some.injEq, Prod.mk.injEq] at hrun
      obtain ⟨rfl, rfl⟩ := hrun
      simp only [Bool.and_eq_true] at hb
      refine ⟨.normal, s1, hR, fun X m a w hn hr => wp_region ?_⟩
      exact region_text hr1 hC hV hb.1 hb.2 hn (fun m a w hr => ⟨rfl, m, hr⟩) hr
  · cases hrun

theorem AX.draw {id : Nat} {ops : Array Oper} {s s1 : S} {R : Exit → S → Prop} {its : List Item} {C : Prop} (hm : P.follows .mixedOrders = true)
    (hrun : (match runT P ops ops.toList its s with
      | some (rs, s') => bif (let pr := mkPreds ops.toList []; predsOk ops pr && backB ops && pairsB pr rs && freshB nin s (fun i j => memB i (pr.getD j [])) rs) && dstB N ops then some (s', allC rs) else none
      | none => none) = some (s1, C)) (hC : C) (hV : allV P nin its)
    (hR : R .normal s1) : AX P N nin (.region id ops true) s R := by
  split at hrun
  · rename_i rs s' hr1
    cases hb : ((let pr := mkPreds ops.toList []; predsOk ops pr && backB ops && pairsB pr rs && freshB nin s (fun i j => memB i (pr.getD j [])) rs) && dstB N ops) with
    | false => simp only [hb, cond_false] at hrun; cases hrun
    | true =>
      simp only [hb, cond_true, Option.some.injEq, Prod.mk.injEq] at hrun
      obtain ⟨rfl, rfl⟩ := hrun
      simp only [Bool.and_eq_true] at hb
      obtain ⟨⟨⟨⟨h1, h2⟩, h3⟩, h4⟩, h5⟩ := hb
      refine ⟨.normal, s1, hR, fun X m a w hn hr => wp_region_any hm ?_⟩
      exact region_draw hr1 hC hV h1 h2 h3 h4 h5 hn (fun m a w hr => ⟨rfl, m, hr⟩) hr.drew
  · cases hrun

end Go.Eng
