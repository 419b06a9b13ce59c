/- What is proved: a call of a function that has a contract does to the caller's abstract state what the contract says. Conditions: the contract; that the arguments fit it. -/
import Derived.Test.YtomemaanjendhaaDoorCExactShowShortEng18
set_option linter.unusedVariables false
set_option linter.unusedSimpArgs false
namespace Go.Eng
open Go

variable {P : Program} {nin : Nat}

def rho (l : List Nat) (i : Nat) : Nat := l.getD i 0

def lkO : List (Nat × AO) → Nat → Option AO
  | [], _ => none
  | (j, o) :: r, k => bif Nat.beq j k then some o else lkO r k

theorem lkO_ok {O : Nat → AO} : ∀ {l : List (Nat × AO)}, objsOk O l → ∀ k o, lkO l k = some o → O k = o
  | [], _, k, o, h => by simp [lkO] at h
  | (j, x) :: r, hl, k, o, h => by
    simp only [objsOk] at hl
    simp only [lkO] at h
    cases hb : Nat.beq j k with
    | true =>
      rw [hb] at h
      simp at h
      rw [← Nat.eq_of_beq_eq_true hb, ← h]; exact hl.1
    | false =>
      rw [hb] at h
      exact lkO_ok hl.2 k o (by simpa using h)

/-- the objects that are handed over, in the caller's names -/
def handO (f : Nat → Nat) : List Nat → List AO → List (Nat × AO)
  | k :: ks, o :: os => (k, o.ren f) :: handO f ks os
  | _, _ => []

theorem objsOk_append {O : Nat → AO} : ∀ {l r : List (Nat × AO)}, objsOk O (l ++ r) → objsOk O l
  | [], r, _ => trivial
  | (j, x) :: l, r, h => ⟨h.1, objsOk_append (l := l) h.2⟩

theorem hand_get {f : Nat → Nat} {O : Nat → AO} : ∀ {ks : List Nat} {os : List AO}, objsOk O (handO f ks os) → ∀ (i k : Nat), i < os.length → ks[i]? = some k → O k = (oL os i).ren f
  | [], os, _, i, k, _, h => by simp at h
  | k0 :: ks, [], _, i, k, hi, h => by simp at hi
  | k0 :: ks, o :: os, ho, i, k, hi, h => by
    simp only [handO, objsOk] at ho
    cases i with
    | zero => simp at h; subst h; simpa [oL] using ho.1
    | succ i =>
      have := hand_get ho.2 i k (by simpa using hi) (by simpa using h)
      simpa [oL] using this

def ShKeep : List AO → List AO → Prop
  | [], _ => True
  | a :: av, b :: bs => (b.sh = .dead ∨ b.sh = a.sh) ∧ ShKeep av bs
  | _ :: _, [] => False

theorem ShKeep.get : ∀ {av bs : List AO}, ShKeep av bs → ∀ i, i < av.length → shL bs i = .dead ∨ shL bs i = shL av i
  | [], _, _, i, hi => by simp at hi
  | a :: av, [], h, i, hi => h.elim
  | a :: av, b :: bs, h, i, hi => by
    simp only [ShKeep] at h
    cases i with
    | zero => simpa [shL, oL] using h.1
    | succ i => simpa [shL, oL] using ShKeep.get h.2 i (by simpa using hi)

def distB : List Nat → Bool
  | [] => true
  | k :: r => !memB k r && distB r

def callB (ks ns bor : List Nat) (hin : List AO) (res : AV) (hout : List AO) : Bool :=
  Nat.beq ks.length hin.length && Nat.beq hout.length (ks.length + ns.length) && distB (ks ++ ns) && bor.all (fun k => !memB k ks) && hin.all (fun o => o.under hin.length) && res.under hout.length && hout.all (fun o => o.under hout.length) &&
    (bor.isEmpty || (res.closed && hout.all (fun o => o.closed)))

def callEv (ks ns : List Nat) (res : AV) (hout : List AO) : Ev := ⟨res.ren (rho (ks ++ ns)), handO (rho (ks ++ ns)) (ks ++ ns) hout, ns, none⟩

def pos (k : Nat) : List Nat → Nat → Option Nat
  | [], _ => none
  | j :: r, i => if j = k then some i else pos k r (i + 1)

theorem pos_some {k : Nat} : ∀ {l : List Nat}, distB l = true → ∀ (i n : Nat), l[i]? = some k → pos k l n = some (n + i)
  | [], _, i, n, h => by simp at h
  | j :: r, hd, i, n, h => by
    simp only [distB, Bool.and_eq_true, Bool.not_eq_true'] at hd
    cases i with
    | zero => simp at h; simp [pos, h]
    | succ i =>
      have hr : r[i]? = some k := by simpa using h
      have : j ≠ k := by
        rintro rfl
        have := memB_iff.2 (List.mem_of_getElem? hr)
        rw [hd.1] at this; cases this
      simp only [pos, if_neg this]
      rw [pos_some hd.2 i (n + 1) hr]; congr 1; omega

theorem pos_none {k : Nat} : ∀ {l : List Nat}, k ∉ l → ∀ n, pos k l n = none
  | [], _, _ => rfl
  | j :: r, h, n => by
    simp only [List.mem_cons, not_or] at h
    simp only [pos, if_neg (Ne.symm h.1)]
    exact pos_none h.2 _

theorem hand_hp {f : Nat → Nat} : ∀ (l : List Nat) (os : List AO) (s : S), distB l = true → l.length = os.length → ∀ (i k : Nat), l[i]? = some k → ((handO f l os).foldl (fun s p => s.setO p.1 p.2) s).O k = (oL os i).ren f
  | [], _, s, _, _, i, k, h => by simp at h
  | j :: r, [], s, _, hl, i, k, h => by simp at hl
  | j :: r, o :: os, s, hd, hl, i, k, h => by
    simp only [distB, Bool.and_eq_true, Bool.not_eq_true'] at hd
    simp only [handO, List.foldl_cons]
    cases i with
    | zero =>
      simp at h; subst h
      rw [hp_O_not, S.O_setO, if_pos rfl]
      · simp [oL]
      · intro p hp e
        have : ∀ (l : List Nat) (os : List AO), p ∈ handO f l os → p.1 ∈ l := by
          intro l
          induction l with
          | nil => intro os h; simp [handO] at h
          | cons a l ih =>
            intro os h
            cases os with
            | nil => simp [handO] at h
            | cons b os =>
              simp only [handO, List.mem_cons] at h
              rcases h with rfl | h
              · simp
              · exact List.mem_cons_of_mem _ (ih os h)
        have := memB_iff.2 (e ▸ this r os hp)
        rw [hd.1] at this; cases this
    | succ i =>
      rw [hand_hp r os _ hd.2 (by simpa using hl) i k (by simpa using h)]
      simp [oL]

theorem hand_keys {f : Nat → Nat} {p : Nat × AO} : ∀ (l : List Nat) (os : List AO), p ∈ handO f l os → p.1 ∈ l
  | [], os, h => by simp [handO] at h
  | a :: l, [], h => by simp [handO] at h
  | a :: l, b :: os, h => by
    simp only [handO, List.mem_cons] at h
    rcases h with rfl | h
    · simp
    · exact List.mem_cons_of_mem _ (hand_keys l os h)

/-- two objects that hold the same, their cells as `V` says -/
def AO.like (V : List AV → List AV → Prop) : AO → AO → Prop
  | .dead, .dead => True
  | .box cs, .box cs' => V cs cs'
  | .arr sz es, .arr sz' es' => sz = sz' ∧ es = es'
  | .map ks, .map ks' => ks = ks'
  | _, _ => False

/-- a box's cells, told over -/
theorem HR_map {X X' : Env} {m m' : Nat → Option Loc} {h h' : Nat → AO} {w : World} {k k' : Nat} (g : AV → Prop) (hr : HR X m h w k) (o : AO) (hk : h k = o) (o' : AO) (hk' : h' k' = o')
    (hm : m' k' = m k) (hown : ∀ L, m k = some L → o.sh ≠ .dead → X.Own L.b → X'.Own L.b)
    (hc : AO.like (fun cs cs' => ∀ l, VRs X m (fun i => (h i).sh) cs l → VRs X' m' (fun i => (h' i).sh) cs' l) o o') : HR X' m' h' w k' := by
  unfold HR at hr ⊢
  rw [hk] at hr
  rw [hk']
  cases o <;> cases o' <;> simp only [AO.like] at hc hr ⊢
  · rename_i cs cs'
    obtain ⟨L, C, E, h1, h2, h3, h4⟩ := hr
    exact ⟨L, C, E, hm.trans h1, h2, hc _ h3, hown L h1 (by simp [AO.sh]) h4⟩
  · obtain ⟨rfl, rfl⟩ := hc
    obtain ⟨h0, ⟨h1, h2⟩ | ⟨L, C, E, h1, h2, h3, h4, h5, h6⟩⟩ := hr
    · exact ⟨h0, .inl ⟨hm.trans h1, h2⟩⟩
    · exact ⟨h0, .inr ⟨L, C, E, hm.trans h1, h2, h3, h4, h5, hown L h1 (by simp [AO.sh]) h6⟩⟩
  · subst hc
    obtain ⟨L, es, cl, h1, h2, h3, h4, h5⟩ := hr
    exact ⟨L, es, cl, hm.trans h1, h2, h3, h4, hown L h1 (by simp [AO.sh]) h5⟩

end Go.Eng
