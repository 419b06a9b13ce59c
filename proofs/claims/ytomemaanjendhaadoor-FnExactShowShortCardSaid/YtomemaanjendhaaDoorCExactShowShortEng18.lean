/- What is proved: what a contract of a function says on abstract values, and that a call keeps to it: the caller's own arrays and boxes are lent or handed over, what comes back is the caller's own. Conditions: the contract; that the arguments fit it. -/
import Derived.Test.YtomemaanjendhaaDoorCExactShowShortEng17
set_option linter.unusedVariables false
set_option linter.unusedSimpArgs false
namespace Go.Eng
open Go

variable {P : Program} {nin : Nat}

def oL (l : List AO) (k : Nat) : AO := l.getD k .dead
def shL (l : List AO) (k : Nat) : Sh := (oL l k).sh

def Dist (sh : Nat → Sh) (m : Nat → Option Loc) : Prop := ∀ k k' L L', k ≠ k' → sh k ≠ .dead → sh k' ≠ .dead → m k = some L → m k' = some L' → L.b ≠ L'.b

/-- a Go function with a body of its own -/
def Callable (P : Program) (f : FuncId) : Prop := ∃ fn, P.funcs[f]? = some fn ∧ (fn.name == "runtime.NumGoroutine") = false ∧ fn.body.isNone = false

/-- THE CONTRACT: called with these arguments over these objects, the function returns this value and leaves these objects -/
structure Spec (P : Program) (f : FuncId) (args : List AV) (hin : List AO) (res : AV) (hout : List AO) : Prop where
  callable : Callable P f
  run : ∀ (X : Env) (m : Nat → Option Loc) (vs : List Value), X.nin = hin.length → X.m0 = m → VRs X m (shL hin) args vs → (∀ k, HR X m (oL hin) X.w0 k) → Dist (shL hin) m →
    Calls P f vs.toArray X.w0 (fun e w' => ∃ v m', e = .returned v ∧ VR X m' (shL hout) res v ∧ (∀ k, HR X m' (oL hout) w' k) ∧ Dist (shL hout) m' ∧ (∀ k, k < hin.length → shL hout k ≠ .dead → m' k = m k) ∧ Fr X w')

/-! ### one environment in another -/
mutual
theorem VR_env {X X' : Env} {m : Nat → Option Loc} {sh : Nat → Sh} (h1 : ∀ b, X.B b → X'.B b) (h2 : ∀ b, X.B1 b → X'.B1 b) (h3 : ∀ b, X.B b → X'.w0.heap[b]? = X.w0.heap[b]?) : ∀ (a : AV) (v : Value), VR X m sh a v → VR X' m sh a v
  | .v x, v, h => by simpa only [VR] using h
  | .agg cs, v, h => by
    simp only [VR] at h ⊢
    obtain ⟨C, h, hc⟩ := h
    exact ⟨C, h, VRs_env h1 h2 h3 cs C hc⟩
  | .tup cs, v, h => by
    simp only [VR] at h ⊢
    obtain ⟨C, h, hc⟩ := h
    exact ⟨C, h, VRs_env h1 h2 h3 cs C hc⟩
  | .bs l sz es, v, h => by
    simp only [VR] at h ⊢
    obtain ⟨a, cap, g1, g2, g3, g4 | ⟨b, off, g4, g5, g6⟩⟩ := h
    · exact ⟨a, cap, g1, g2, g3, .inl g4⟩
    · refine ⟨a, cap, g1, g2, g3, .inr ⟨b, off, g4, ?_, ?_⟩⟩
      · cases l
        · exact h1 b g5
        · exact h2 b g5
      · unfold RdE at g6 ⊢
        rw [h3 b (Env.Bl_B g5)]; exact g6
  | .bp cs off, v, h => by
    simp only [VR] at h ⊢
    obtain ⟨b, C, E, fz, g1, g2, g3, g4⟩ := h
    exact ⟨b, C, E, fz, g1, h1 b g2, by rw [h3 b g2]; exact g3, VRs_env h1 h2 h3 cs _ g4⟩
  | .sl k lo len, v, h => by simpa only [VR] using h
  | .pt k off, v, h => by simpa only [VR] using h
  | .pe k i off, v, h => by simpa only [VR] using h
  | .be sz e off, v, h => by
    simp only [VR] at h ⊢
    obtain ⟨b, q, C, E, fz, g1, g2, g3, g4⟩ := h
    exact ⟨b, q, C, E, fz, g1, h1 b g2, by rw [h3 b g2]; exact g3, g4⟩
  | .fn f caps, v, h => by
    simp only [VR] at h ⊢
    obtain ⟨C, h, hc⟩ := h
    exact ⟨C, h, VRs_env h1 h2 h3 caps C hc⟩
  | .mp k, v, h => by simpa only [VR] using h
  | .sx k n, v, h => by simpa only [VR] using h
  | .bx cs, v, h => by
    simp only [VR] at h ⊢
    obtain ⟨b, C, E, fz, g1, g2, g3, g4⟩ := h
    exact ⟨b, C, E, fz, g1, h1 b g2, by rw [h3 b g2]; exact g3, VRs_env h1 h2 h3 cs _ g4⟩
  | .bm ks, v, h => by
    simp only [VR] at h ⊢
    obtain ⟨b, es, clock, g1, g2, g3, g4⟩ := h
    exact ⟨b, es, clock, g1, h1 b g2, by rw [h3 b g2]; exact g3, g4⟩
  | .er ok, v, h => by simpa only [VR] using h
  | .any, v, h => by simp only [VR]
theorem VRs_env {X X' : Env} {m : Nat → Option Loc} {sh : Nat → Sh} (h1 : ∀ b, X.B b → X'.B b) (h2 : ∀ b, X.B1 b → X'.B1 b) (h3 : ∀ b, X.B b → X'.w0.heap[b]? = X.w0.heap[b]?) : ∀ (av : List AV) (l : List Value), VRs X m sh av l → VRs X' m sh av l
  | [], l, h => by simpa only [VRs] using h
  | a :: av, l, h => by
    simp only [VRs] at h ⊢
    obtain ⟨x, xs, g1, g2, g3⟩ := h
    exact ⟨x, xs, g1, VR_env h1 h2 h3 a x g2, VRs_env h1 h2 h3 av xs g3⟩
end

mutual
/-- nothing in it lies in memory that was lent for the call -/
def AV.closed : AV → Bool
  | .v _ => true
  | .agg cs => AV.closedL cs
  | .tup cs => AV.closedL cs
  | .bs l _ _ => l
  | .bp _ _ => false
  | .sl _ _ _ => true
  | .pt _ _ => true
  | .pe _ _ _ => true
  | .be _ _ _ => false
  | .fn _ caps => AV.closedL caps
  | .mp _ => true
  | .sx _ _ => true
  | .bx _ => false
  | .bm _ => false
  | .er _ => true
  | .any => true
def AV.closedL : List AV → Bool
  | [] => true
  | a :: av => a.closed && AV.closedL av
end

mutual
theorem VR_back {X X' : Env} {m : Nat → Option Loc} {sh : Nat → Sh} (h2 : ∀ b, X'.B1 b → X.B1 b) (h3 : ∀ b, X.B b → X'.w0.heap[b]? = X.w0.heap[b]?) : ∀ (a : AV) (v : Value), a.closed = true → VR X' m sh a v → VR X m sh a v
  | .v x, v, _, h => by simpa only [VR] using h
  | .agg cs, v, hc, h => by
    simp only [VR] at h ⊢
    obtain ⟨C, h, hv⟩ := h
    exact ⟨C, h, VRs_back h2 h3 cs C (by simpa [AV.closed] using hc) hv⟩
  | .tup cs, v, hc, h => by
    simp only [VR] at h ⊢
    obtain ⟨C, h, hv⟩ := h
    exact ⟨C, h, VRs_back h2 h3 cs C (by simpa [AV.closed] using hc) hv⟩
  | .bs l sz es, v, hc, h => by
    simp only [AV.closed] at hc
    subst hc
    simp only [VR] at h ⊢
    obtain ⟨a, cap, g1, g2, g3, g4 | ⟨b, off, g4, g5, g6⟩⟩ := h
    · exact ⟨a, cap, g1, g2, g3, .inl g4⟩
    · refine ⟨a, cap, g1, g2, g3, .inr ⟨b, off, g4, h2 b g5, ?_⟩⟩
      unfold RdE at g6 ⊢
      rw [← h3 b (X.hB1 b (h2 b g5))]; exact g6
  | .bp cs off, v, hc, h => by simp [AV.closed] at hc
  | .sl k lo len, v, _, h => by simpa only [VR] using h
  | .pt k off, v, _, h => by simpa only [VR] using h
  | .pe k i off, v, _, h => by simpa only [VR] using h
  | .be sz e off, v, hc, h => by simp [AV.closed] at hc
  | .fn f caps, v, hc, h => by
    simp only [VR] at h ⊢
    obtain ⟨C, h, hv⟩ := h
    exact ⟨C, h, VRs_back h2 h3 caps C (by simpa [AV.closed] using hc) hv⟩
  | .mp k, v, _, h => by simpa only [VR] using h
  | .sx k n, v, _, h => by simpa only [VR] using h
  | .bx cs, v, hc, h => by simp [AV.closed] at hc
  | .bm ks, v, hc, h => by simp [AV.closed] at hc
  | .er ok, v, _, h => by simpa only [VR] using h
  | .any, v, _, h => by simp only [VR]
theorem VRs_back {X X' : Env} {m : Nat → Option Loc} {sh : Nat → Sh} (h2 : ∀ b, X'.B1 b → X.B1 b) (h3 : ∀ b, X.B b → X'.w0.heap[b]? = X.w0.heap[b]?) : ∀ (av : List AV) (l : List Value), AV.closedL av = true → VRs X' m sh av l → VRs X m sh av l
  | [], l, _, h => by simpa only [VRs] using h
  | a :: av, l, hc, h => by
    simp only [AV.closedL, Bool.and_eq_true] at hc
    simp only [VRs] at h ⊢
    obtain ⟨x, xs, g1, g2, g3⟩ := h
    exact ⟨x, xs, g1, VR_back h2 h3 a x hc.1 g2, VRs_back h2 h3 av xs hc.2 g3⟩
end

mutual
/-- it names objects below `n` alone -/
def AV.under (n : Nat) : AV → Bool
  | .v _ => true
  | .agg cs => AV.underL n cs
  | .tup cs => AV.underL n cs
  | .bs _ _ _ => true
  | .bp cs _ => AV.underL n cs
  | .sl k _ _ => Nat.blt k n
  | .pt k _ => Nat.blt k n
  | .pe k _ _ => Nat.blt k n
  | .be _ _ _ => true
  | .fn _ caps => AV.underL n caps
  | .mp k => Nat.blt k n
  | .sx k _ => Nat.blt k n
  | .bx cs => AV.underL n cs
  | .bm _ => true
  | .er _ => true
  | .any => true
def AV.underL (n : Nat) : List AV → Bool
  | [] => true
  | a :: av => a.under n && AV.underL n av
end

mutual
theorem under_names {n k : Nat} : ∀ (a : AV), a.under n = true → a.names k = true → k < n
  | .v _, _, h => by simp [AV.names] at h
  | .agg cs, hb, h => under_namesL cs (by simpa [AV.under] using hb) (by simpa [AV.names] using h)
  | .tup cs, hb, h => under_namesL cs (by simpa [AV.under] using hb) (by simpa [AV.names] using h)
  | .bs _ _ _, _, h => by simp [AV.names] at h
  | .bp cs _, hb, h => under_namesL cs (by simpa [AV.under] using hb) (by simpa [AV.names] using h)
  | .sl i _ _, hb, h => by simp only [AV.under, AV.names] at hb h; rw [← Nat.eq_of_beq_eq_true h]; exact Nat.le_of_ble_eq_true hb
  | .pt i _, hb, h => by simp only [AV.under, AV.names] at hb h; rw [← Nat.eq_of_beq_eq_true h]; exact Nat.le_of_ble_eq_true hb
  | .pe i _ _, hb, h => by simp only [AV.under, AV.names] at hb h; rw [← Nat.eq_of_beq_eq_true h]; exact Nat.le_of_ble_eq_true hb
  | .be _ _ _, _, h => by simp [AV.names] at h
  | .fn _ caps, hb, h => under_namesL caps (by simpa [AV.under] using hb) (by simpa [AV.names] using h)
  | .mp i, hb, h => by simp only [AV.under, AV.names] at hb h; rw [← Nat.eq_of_beq_eq_true h]; exact Nat.le_of_ble_eq_true hb
  | .sx i _, hb, h => by simp only [AV.under, AV.names] at hb h; rw [← Nat.eq_of_beq_eq_true h]; exact Nat.le_of_ble_eq_true hb
  | .bx cs, hb, h => under_namesL cs (by simpa [AV.under] using hb) (by simpa [AV.names] using h)
  | .bm _, _, h => by simp [AV.names] at h
  | .er _, _, h => by simp [AV.names] at h
  | .any, _, h => by simp [AV.names] at h
theorem under_namesL {n k : Nat} : ∀ (av : List AV), AV.underL n av = true → AV.namesL k av = true → k < n
  | [], _, h => by simp [AV.namesL] at h
  | a :: av, hb, h => by
    simp only [AV.underL, AV.namesL, Bool.and_eq_true, Bool.or_eq_true] at hb h
    rcases h with h | h
    · exact under_names a hb.1 h
    · exact under_namesL av hb.2 h
end

def AO.under (n : Nat) : AO → Bool
  | .box cs => AV.underL n cs
  | _ => true
def AO.closed : AO → Bool
  | .box cs => AV.closedL cs
  | _ => true

/-! ### how the caller's values fit the contract's arguments -/
inductive All2 (R : AV → AV → Prop) : List AV → List AV → Prop
  | nil : All2 R [] []
  | cons {a b : AV} {av bs : List AV} : R a b → All2 R av bs → All2 R (a :: av) (b :: bs)

/-- what is lent: `ob` the caller's objects, `bor` those that are lent; `f` the caller's names of the contract's objects, `n` how many are handed over -/
structure Lend where
  f : Nat → Nat
  n : Nat
  ob : Nat → Option AO
  bor : List Nat

inductive Cv0 (l : Lend) : AV → AV → Prop
  | same (b : AV) {a : AV} : a = b.ren l.f → b.under l.n = true → Cv0 l a b
  | arr {k sz len : Nat} {es : List (List Value)} : l.ob k = some (.arr sz es) → memB k l.bor = true → len = es.length → Cv0 l (.sl k 0 len) (.bs false sz es)
  | part {k lo sz len : Nat} {es : List (List Value)} (L : List (List Value)) : l.ob k = some (.arr sz es) → memB k l.bor = true → (es.drop lo).take len = L → Cv0 l (.sl k lo len) (.bs false sz L)
  | elem {k i off sz : Nat} {es : List (List Value)} (e : List Value) : l.ob k = some (.arr sz es) → memB k l.bor = true → es[i]? = some e → Cv0 l (.pe k i off) (.be sz e off)
  | nil (b : Bool) (sz : Nat) : Cv0 l (.v (.slice none 0 0)) (.bs b sz [])
  | weak {sz : Nat} {es : List (List Value)} : Cv0 l (.bs true sz es) (.bs false sz es)
  | mpl {k : Nat} {ks : List Int} : l.ob k = some (.map ks) → memB k l.bor = true → Cv0 l (.mp k) (.bm ks)

inductive Cv1 (l : Lend) : AV → AV → Prop
  | c0 {a b : AV} : Cv0 l a b → Cv1 l a b
  | agg {cs ds : List AV} : All2 (Cv0 l) cs ds → Cv1 l (.agg cs) (.agg ds)
  | box {k off : Nat} {cs ds : List AV} : l.ob k = some (.box cs) → memB k l.bor = true → All2 (Cv0 l) cs ds → Cv1 l (.pt k off) (.bp ds off)
  | bp {off : Nat} {cs ds : List AV} : All2 (Cv0 l) cs ds → Cv1 l (.bp cs off) (.bp ds off)
  | sx {k n : Nat} {cs ds : List AV} : l.ob k = some (.box cs) → memB k l.bor = true → All2 (Cv0 l) cs ds → Cv1 l (.sx k n) (.bx ds)

inductive Cv2 (l : Lend) : AV → AV → Prop
  | c1 {a b : AV} : Cv1 l a b → Cv2 l a b
  | fn {f : FuncId} {cs ds : List AV} : All2 (Cv1 l) cs ds → Cv2 l (.fn f cs) (.fn f ds)

theorem All2.ok {R : AV → AV → Prop} {X X' : Env} {m m' : Nat → Option Loc} {sh sh' : Nat → Sh} (hR : ∀ a b, R a b → ∀ v, VR X m sh a v → VR X' m' sh' b v) : ∀ {av bs : List AV}, All2 R av bs → ∀ l, VRs X m sh av l → VRs X' m' sh' bs l
  | _, _, .nil, l, h => by simpa only [VRs] using h
  | _, _, .cons h1 h2, l, h => by
    simp only [VRs] at h ⊢
    obtain ⟨x, xs, g1, g2, g3⟩ := h
    exact ⟨x, xs, g1, hR _ _ h1 x g2, All2.ok hR h2 xs g3⟩

/-- the callee's environment -/
structure LendOk (l : Lend) (X X' : Env) (s : S) (m m' : Nat → Option Loc) (sh' : Nat → Sh) (w : World) : Prop where
  B : ∀ b, X.B b → X'.B b
  B1 : ∀ b, X.B1 b → X'.B1 b
  w0 : X'.w0 = w
  same : ∀ b, X.B b → w.heap[b]? = X.w0.heap[b]?
  map : ∀ i, i < l.n → m' i = m (l.f i) ∧ sh' i = s.sh (l.f i)
  ob : ∀ k o, l.ob k = some o → s.O k = o
  bor : ∀ k L, k ∈ l.bor → s.sh k ≠ .dead → m k = some L → X'.B L.b
  obj : ∀ k, HR X m s.O w k

section
variable {l : Lend} {X X' : Env} {s : S} {m m' : Nat → Option Loc} {sh' : Nat → Sh} {w : World}

theorem LendOk.env (h : LendOk l X X' s m m' sh' w) : ∀ b, X.B b → X'.w0.heap[b]? = X.w0.heap[b]? := fun b hb => by rw [h.w0]; exact h.same b hb

theorem Cv0.ok (hl : LendOk l X X' s m m' sh' w) : ∀ (a b : AV), Cv0 l a b → ∀ v, VR X m s.sh a v → VR X' m' sh' b v := by
  intro a b hc v h
  cases hc with
  | same _ hab hb =>
    subst hab
    rw [VR_ren] at h
    have h := VR_env hl.B hl.B1 hl.env _ _ h
    refine VR_conv _ (fun k hk => .inr ?_) _ h
    obtain ⟨g1, g2⟩ := hl.map k (under_names b hb hk)
    exact ⟨g2, g1⟩
  | arr ho hb hlen =>
    rename_i k sz len es
    have hO := hl.ob _ _ ho
    have hsh : s.sh k = .arr sz es.length := by simp [S.sh, hO, AO.sh]
    simp only [VR, hsh] at h ⊢
    obtain ⟨hle, ad, cap, hv, hcap, hrest⟩ := h
    have ob := hl.obj k
    unfold HR at ob
    simp only [hO] at ob
    obtain ⟨hok, hob⟩ := ob
    subst hlen
    refine ⟨ad, cap, hv, hcap, hok, ?_⟩
    rcases hrest with h0 | ⟨L, hm, had, _⟩
    · left; exact List.eq_nil_of_length_eq_zero (by omega)
    · rcases hob with ⟨h1, h2⟩ | ⟨L', C, E, hm', hh, _, _, hcell, _⟩
      · exact .inl h2
      · rw [hm] at hm'; cases hm'
        right
        refine ⟨L.b, L.off, by simpa using had, hl.bor k L (memB_iff.1 hb) (by rw [hsh]; simp) hm, C, E, (0, 0), by rw [hl.w0]; exact hh, hcell⟩
  | part L0 ho hb hlen =>
    rename_i k lo sz len es
    have hO := hl.ob _ _ ho
    have hsh : s.sh k = .arr sz es.length := by simp [S.sh, hO, AO.sh]
    simp only [VR, hsh] at h ⊢
    obtain ⟨hle, ad, cap, hv, hcap, hrest⟩ := h
    have ob := hl.obj k
    unfold HR at ob
    simp only [hO] at ob
    obtain ⟨hok, hob⟩ := ob
    subst hlen
    have hll : ((es.drop lo).take len).length = len := by simp; omega
    refine ⟨ad, cap, by rw [hll]; exact hv, by omega, fun e he => hok e (List.mem_of_mem_drop (List.mem_of_mem_take he)), ?_⟩
    rcases hrest with h0 | ⟨L, hm, had, _⟩
    · left; exact List.eq_nil_of_length_eq_zero (by omega)
    · rcases hob with ⟨h1, h2⟩ | ⟨L', C, E, hm', hh, _, _, hcell, _⟩
      · left; rw [h2]; simp
      · rw [hm] at hm'; cases hm'
        right
        refine ⟨L.b, L.off + lo * sz, had, hl.bor k L (memB_iff.1 hb) (by rw [hsh]; simp) hm, C, E, (0, 0), by rw [hl.w0]; exact hh, fun i e hi j x hj => ?_⟩
        simp only [List.getElem?_take, List.getElem?_drop] at hi
        split at hi
        · have := hcell _ _ hi j x hj
          rw [Nat.add_mul] at this
          rwa [show L.off + lo * sz + i * sz + j = L.off + (lo * sz + i * sz) + j by omega]
        · cases hi
  | elem e ho hb hi =>
    rename_i k i off sz es
    have hO := hl.ob _ _ ho
    have hsh : s.sh k = .arr sz es.length := by simp [S.sh, hO, AO.sh]
    simp only [VR, hsh] at h ⊢
    obtain ⟨hlt, L, hm, hv⟩ := h
    have ob := hl.obj k
    unfold HR at ob
    simp only [hO] at ob
    obtain ⟨hok, ⟨h1, h2⟩ | ⟨L', C, E, hm', hh, _, _, hcell, _⟩⟩ := ob
    · rw [hm] at h1; cases h1
    · rw [hm] at hm'; cases hm'
      have he := hok _ (List.mem_of_getElem? hi)
      exact ⟨L.b, L.off + i * sz, C, E, (0, 0), hv, hl.bor k L (memB_iff.1 hb) (by rw [hsh]; simp) hm, by rw [hl.w0]; exact hh, hcell i e hi, he.1, he.2⟩
  | nil b sz =>
    simp only [VR] at h ⊢
    exact ⟨none, 0, by simpa using h, Nat.le_refl _, (fun e he => by cases he), .inl trivial⟩
  | weak =>
    simp only [VR] at h ⊢
    obtain ⟨a, cap, g1, g2, g3, g4 | ⟨b, off, g4, g5, g6⟩⟩ := h
    · exact ⟨a, cap, g1, g2, g3, .inl g4⟩
    · refine ⟨a, cap, g1, g2, g3, .inr ⟨b, off, g4, hl.B b (Env.Bl_B g5), ?_⟩⟩
      unfold RdE at g6 ⊢
      rw [hl.env b (Env.Bl_B g5)]; exact g6
  | mpl ho hb =>
    rename_i k ks
    have hO := hl.ob _ _ ho
    have hsh : s.sh k = .map := by simp [S.sh, hO, AO.sh]
    simp only [VR, hsh] at h ⊢
    obtain ⟨L, hm, hv⟩ := h
    have ob := hl.obj k
    unfold HR at ob
    simp only [hO] at ob
    obtain ⟨L', es, clock, hm', hh, g1, g2, _⟩ := ob
    rw [hm] at hm'; cases hm'
    exact ⟨L.b, es, clock, hv, hl.bor k L (memB_iff.1 hb) (by rw [hsh]; simp) hm, by rw [hl.w0]; exact hh, g1, g2⟩

theorem All2.length {R : AV → AV → Prop} : ∀ {av bs : List AV}, All2 R av bs → av.length = bs.length
  | _, _, .nil => rfl
  | _, _, .cons _ h => by rw [List.length_cons, List.length_cons, All2.length h]

theorem Cv1.ok (hl : LendOk l X X' s m m' sh' w) : ∀ (a b : AV), Cv1 l a b → ∀ v, VR X m s.sh a v → VR X' m' sh' b v := by
  intro a b hc v h
  cases hc with
  | c0 hc => exact Cv0.ok hl _ _ hc v h
  | agg hc =>
    simp only [VR] at h ⊢
    obtain ⟨C, h, hv⟩ := h
    exact ⟨C, h, hc.ok (Cv0.ok hl) C hv⟩
  | box ho hb hc =>
    rename_i k off cs ds
    have hO := hl.ob _ _ ho
    have hsh : s.sh k = .box cs.length := by simp [S.sh, hO, AO.sh]
    simp only [VR, hsh] at h ⊢
    obtain ⟨L, hm, hv⟩ := h
    have ob := hl.obj k
    unfold HR at ob
    simp only [hO] at ob
    obtain ⟨L', C, E, hm', hh, hvs, _⟩ := ob
    rw [hm] at hm'; cases hm'
    exact ⟨L.b, C, E, (0, 0), hv, hl.bor k L (memB_iff.1 hb) (by rw [hsh]; simp) hm, by rw [hl.w0]; exact hh, hc.ok (Cv0.ok hl) _ hvs⟩
  | bp hc =>
    simp only [VR] at h ⊢
    obtain ⟨b, C, E, fz, g1, g2, g3, g4⟩ := h
    exact ⟨b, C, E, fz, g1, hl.B b g2, by rw [hl.env b g2]; exact g3, hc.ok (Cv0.ok hl) _ g4⟩
  | sx ho hb hc =>
    rename_i k n cs ds
    have hO := hl.ob _ _ ho
    have hsh : s.sh k = .box cs.length := by simp [S.sh, hO, AO.sh]
    simp only [VR, hsh] at h ⊢
    obtain ⟨hn, L, hm, hv⟩ := h
    have ob := hl.obj k
    unfold HR at ob
    simp only [hO] at ob
    obtain ⟨L', C, E, hm', hh, hvs, _⟩ := ob
    rw [hm] at hm'; cases hm'
    exact ⟨L.b, C, E, (0, 0), by rw [← hc.length, hn]; exact hv, hl.bor k L (memB_iff.1 hb) (by rw [hsh]; simp) hm, by rw [hl.w0]; exact hh, hc.ok (Cv0.ok hl) _ hvs⟩

theorem Cv2.ok (hl : LendOk l X X' s m m' sh' w) : ∀ (a b : AV), Cv2 l a b → ∀ v, VR X m s.sh a v → VR X' m' sh' b v := by
  intro a b hc v h
  cases hc with
  | c1 hc => exact Cv1.ok hl _ _ hc v h
  | fn hc =>
    simp only [VR] at h ⊢
    obtain ⟨C, h, hv⟩ := h
    exact ⟨C, h, hc.ok (Cv1.ok hl) C hv⟩
end

end Go.Eng
