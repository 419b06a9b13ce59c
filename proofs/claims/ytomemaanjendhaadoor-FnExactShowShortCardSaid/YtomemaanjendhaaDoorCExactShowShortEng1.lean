/- What is proved: nothing of the program yet. These are the definitions of the engine: abstract values, abstract objects, the relation between an abstract state and the machine's state, and the plain lemmas on that relation. No conditions. -/
import Derived.Test.YtomemaanjendhaaDoorCExactShowShortEng0
set_option linter.unusedVariables false
namespace Go.Eng
open Go

/-- abstract values: `v` a value as it is; `agg`, `tup` by parts; `bs` a slice over stable memory, read as a list of elements (each a list of cells); with `true`: over memory that outlasts the call; `bp` a pointer into a stable block whose cells are known; `sl` a slice over an own array; `pt` a pointer into an own box; `pe` into an own array; `be` into a stable element; `fn` a function value; `mp` an own map; `er` an error value, nil or not; `any` nothing is known -/
inductive AV where
  | v (x : Value)
  | agg (cs : List AV)
  | tup (vs : List AV)
  | bs (l : Bool) (sz : Nat) (es : List (List Value))
  | bp (cs : List AV) (off : Nat)
  | sl (k lo len : Nat)
  | pt (k off : Nat)
  | pe (k i off : Nat)
  | be (sz : Nat) (e : List Value) (off : Nat)
  | fn (f : FuncId) (caps : List AV)
  | mp (k : Nat)
  | sx (k n : Nat)
  | bx (cs : List AV)
  | bm (ks : List Int)
  | er (ok : Bool)
  | any
  deriving Inhabited

/-- abstract objects, each in a block of its own -/
inductive AO where
  | dead
  | box (cs : List AV)
  | arr (sz : Nat) (es : List (List Value))
  | map (ks : List Int)
  deriving Inhabited

inductive Sh where
  | dead
  | box (n : Nat)
  | arr (sz n : Nat)
  | map

def AO.sh : AO → Sh
  | .dead => .dead
  | .box cs => .box cs.length
  | .arr sz es => .arr sz es.length
  | .map _ => .map

structure Loc where
  b : Nat
  off : Nat
  tot : Nat

def look {α : Type} (d : α) : List (Nat × α) → Nat → α
  | [], _ => d
  | (j, x) :: r, i => bif Nat.beq i j then x else look d r i

structure S where
  t : List (Nat × AV)
  h : List (Nat × AO)

def S.T (s : S) (i : Nat) : AV := look .any s.t i
def S.O (s : S) (k : Nat) : AO := look .dead s.h k
def S.setT (s : S) (i : Nat) (x : AV) : S := ⟨(i, x) :: s.t, s.h⟩
def S.setO (s : S) (k : Nat) (o : AO) : S := ⟨s.t, (k, o) :: s.h⟩

theorem look_cons {α : Type} (d : α) (j : Nat) (x : α) (r : List (Nat × α)) (i : Nat) : look d ((j, x) :: r) i = if i = j then x else look d r i := by
  simp only [look]
  by_cases h : i = j
  · subst h; simp
  · have : Nat.beq i j = false := by
      cases hb : Nat.beq i j
      · rfl
      · exact absurd (Nat.eq_of_beq_eq_true hb) h
    simp [this, h]
theorem S.T_setT (s : S) (i : Nat) (x : AV) (j : Nat) : (s.setT i x).T j = if j = i then x else s.T j := look_cons _ _ _ _ _
theorem S.O_setO (s : S) (i : Nat) (x : AO) (j : Nat) : (s.setO i x).O j = if j = i then x else s.O j := look_cons _ _ _ _ _
@[simp] theorem S.T_setO (s : S) (i : Nat) (x : AO) : (s.setO i x).T = s.T := rfl
@[simp] theorem S.O_setT (s : S) (i : Nat) (x : AV) : (s.setT i x).O = s.O := rfl

def OkEls (sz : Nat) (es : List (List Value)) : Prop := ∀ e ∈ es, e.length = sz ∧ ∀ x ∈ e, x.oneCell' = true

/-- from cell `off` of block `b` on lie the elements `es` -/
def RdE (w : World) (b off sz : Nat) (es : List (List Value)) : Prop :=
  ∃ C E fz, w.heap[b]? = some (.cells C E fz) ∧ ∀ i e, es[i]? = some e → ∀ j x, e[j]? = some x → C[off + i * sz + j]? = some x

/-- what is known of package variables: `B` the blocks that stay as they are -/
def Gfact (B : Nat → Prop) (w : World) : Prop := (∀ p ∈ gslices, ∃ b off cap, w.cell? ⟨p.1, 0, none⟩ = some (.slice (some ⟨b, off, none⟩) p.2.2.length cap) ∧ p.2.2.length ≤ cap ∧ OkEls p.2.1 p.2.2 ∧ B b ∧ RdE w b off p.2.1 p.2.2) ∧ GX w

theorem Gfact.mono {B B' : Nat → Prop} (h : ∀ b, B b → B' b) {w : World} (hg : Gfact B w) : Gfact B' w :=
  ⟨fun p hp => let ⟨b, off, cap, g1, g2, g3, g4, g5⟩ := hg.1 p hp; ⟨b, off, cap, g1, g2, g3, h b g4, g5⟩, hg.2⟩

/-- where a function's body runs: the world at its entry, the old blocks that it may write, the old blocks that stay as they are -/
structure Env where
  w0 : World
  mb : List Nat
  B : Nat → Prop
  B1 : Nat → Prop
  hB1 : ∀ b, B1 b → B b
  hB : ∀ b, B b → b < w0.heap.size ∧ b ∉ mb
  nin : Nat
  m0 : Nat → Option Loc
  hG : ∀ w : World, (∀ b, B b → w.heap[b]? = w0.heap[b]?) → Gfact B w

def Env.Own (X : Env) (b : Nat) : Prop := X.w0.heap.size ≤ b ∨ b ∈ X.mb

def Env.Bl (X : Env) (l : Bool) (b : Nat) : Prop := if l then X.B1 b else X.B b

theorem Env.Bl_B {X : Env} {l : Bool} {b : Nat} (h : X.Bl l b) : X.B b := by
  unfold Env.Bl at h
  split at h
  · exact X.hB1 b h
  · exact h

theorem Env.own_not_B {X : Env} {b : Nat} (h : X.Own b) : ¬ X.B b := fun hb => by
  obtain ⟨h1, h2⟩ := X.hB b hb
  rcases h with h | h
  · omega
  · exact h2 h

mutual
def VR (X : Env) (m : Nat → Option Loc) (sh : Nat → Sh) : AV → Value → Prop
  | .v x, v => v = x
  | .agg cs, v => ∃ C : List Value, v = .agg C.toArray ∧ VRs X m sh cs C
  | .tup vs, v => ∃ C : List Value, v = .tuple C.toArray ∧ VRs X m sh vs C
  | .bs l sz es, v => ∃ a cap, v = .slice a es.length cap ∧ es.length ≤ cap ∧ OkEls sz es ∧ (es = [] ∨ ∃ b off, a = some ⟨b, off, none⟩ ∧ X.Bl l b ∧ RdE X.w0 b off sz es)
  | .bp cs off, v => ∃ b C E fz, v = .pointer (some ⟨b, off, none⟩) ∧ X.B b ∧ X.w0.heap[b]? = some (.cells C E fz) ∧ VRs X m sh cs C.toList
  | .sl k lo len, v => match sh k with
    | .arr sz n => lo + len ≤ n ∧ ∃ a cap, v = .slice a len cap ∧ len ≤ cap ∧ (cap = 0 ∨ ∃ L, m k = some L ∧ a = some ⟨L.b, L.off + lo * sz, none⟩ ∧ L.off + lo * sz + cap * sz ≤ L.tot)
    | _ => v.oneCell' = true
  | .pt k off, v => match sh k with
    | .box _ => ∃ L, m k = some L ∧ v = .pointer (some ⟨L.b, off, none⟩)
    | _ => v.oneCell' = true
  | .pe k i off, v => match sh k with
    | .arr sz n => i < n ∧ ∃ L, m k = some L ∧ v = .pointer (some ⟨L.b, L.off + i * sz + off, none⟩)
    | _ => v.oneCell' = true
  | .be sz e off, v => ∃ b q C E fz, v = .pointer (some ⟨b, q + off, none⟩) ∧ X.B b ∧ X.w0.heap[b]? = some (.cells C E fz) ∧ (∀ j x, e[j]? = some x → C[q + j]? = some x) ∧ e.length = sz ∧ ∀ x ∈ e, x.oneCell' = true
  | .fn f caps, v => ∃ C : List Value, v = .func (.func f) #[] C.toArray ∧ VRs X m sh caps C
  | .mp k, v => match sh k with
    | .map => ∃ L, m k = some L ∧ v = .map (some L.b)
    | _ => v.oneCell' = true
  | .sx k n, v => match sh k with
    | .box q => q = n ∧ ∃ L, m k = some L ∧ v = .slice (some ⟨L.b, 0, none⟩) n n
    | _ => v.oneCell' = true
  | .bx cs, v => ∃ b C E fz, v = .slice (some ⟨b, 0, none⟩) cs.length cs.length ∧ X.B b ∧ X.w0.heap[b]? = some (.cells C E fz) ∧ VRs X m sh cs C.toList
  | .bm ks, v => ∃ b es clock, v = .map (some b) ∧ X.B b ∧ X.w0.heap[b]? = some (.map es clock) ∧ (∀ e ∈ es, ∃ n, e.key = .int .i64 n ∧ e.val = .bool true ∧ n ∈ ks) ∧ (∀ n ∈ ks, ∃ e ∈ es, e.key = .int .i64 n)
  | .er ok, v => (ok = true → v = .nilIface) ∧ (ok = false → ∃ te pe, v = .iface te pe)
  | .any, _ => True
def VRs (X : Env) (m : Nat → Option Loc) (sh : Nat → Sh) : List AV → List Value → Prop
  | [], l => l = []
  | a :: av, l => ∃ x xs, l = x :: xs ∧ VR X m sh a x ∧ VRs X m sh av xs
end

theorem VRs_length {X : Env} {m : Nat → Option Loc} {sh : Nat → Sh} : ∀ {av : List AV} {l : List Value}, VRs X m sh av l → l.length = av.length
  | [], l, h => by simp only [VRs] at h; simp [h]
  | a :: av, l, h => by
    simp only [VRs] at h
    obtain ⟨x, xs, rfl, _, h2⟩ := h
    simp [VRs_length h2]

theorem VRs_get {X : Env} {m : Nat → Option Loc} {sh : Nat → Sh} : ∀ {av : List AV} {l : List Value}, VRs X m sh av l → ∀ (i : Nat) a, av[i]? = some a → ∃ x, l[i]? = some x ∧ VR X m sh a x
  | [], l, h, i, a, hi => by simp at hi
  | a :: av, l, h, i, b, hi => by
    simp only [VRs] at h
    obtain ⟨x, xs, rfl, h1, h2⟩ := h
    cases i with
    | zero => simp at hi; subst hi; exact ⟨x, rfl, h1⟩
    | succ i => simpa using VRs_get h2 i b (by simpa using hi)

theorem VRs_of_get {X : Env} {m : Nat → Option Loc} {sh : Nat → Sh} : ∀ {av : List AV} {l : List Value}, l.length = av.length → (∀ (i : Nat) a x, av[i]? = some a → l[i]? = some x → VR X m sh a x) → VRs X m sh av l
  | [], l, hl, h => by simp only [VRs]; exact List.eq_nil_of_length_eq_zero (by simpa using hl)
  | a :: av, [], hl, h => by simp at hl
  | a :: av, x :: xs, hl, h => by
    simp only [VRs]
    exact ⟨x, xs, rfl, h 0 a x rfl rfl, VRs_of_get (by simpa using hl) (fun i b y hb hy => h (i + 1) b y (by simpa using hb) (by simpa using hy))⟩

/-- an own object lies as it is told -/
def HR (X : Env) (m : Nat → Option Loc) (h : Nat → AO) (w : World) (k : Nat) : Prop :=
  match h k with
  | .dead => True
  | .box cs => ∃ L C E, m k = some L ∧ w.heap[L.b]? = some (.cells C E (0, 0)) ∧ VRs X m (fun i => (h i).sh) cs C.toList ∧ X.Own L.b
  | .arr sz es => OkEls sz es ∧ ((m k = none ∧ es = []) ∨ ∃ L C E, m k = some L ∧ w.heap[L.b]? = some (.cells C E (0, 0)) ∧ C.size = L.tot ∧ L.off + es.length * sz ≤ L.tot ∧
      (∀ i e, es[i]? = some e → ∀ j x, e[j]? = some x → C[L.off + i * sz + j]? = some x) ∧ X.Own L.b)
  | .map ks => ∃ L es clock, m k = some L ∧ w.heap[L.b]? = some (.map es clock) ∧ (∀ e ∈ es, ∃ n, e.key = .int .i64 n ∧ e.val = .bool true ∧ n ∈ ks) ∧ (∀ n ∈ ks, ∃ e ∈ es, e.key = .int .i64 n) ∧ X.Own L.b

/-- what a body has left alone -/
structure Fr (X : Env) (w : World) : Prop where
  os : w.os = X.w0.os
  tape : w.tape = X.w0.tape
  output : w.output = X.w0.output
  size : X.w0.heap.size ≤ w.heap.size
  block : ∀ b, b < X.w0.heap.size → b ∉ X.mb → w.heap[b]? = X.w0.heap[b]?

def S.sh (s : S) (k : Nat) : Sh := (s.O k).sh

structure Rel (X : Env) (N : Nat) (s : S) (m : Nat → Option Loc) (a : Act) (w : World) : Prop where
  size : a.tmps.size = N
  defers : a.defers = []
  slot : ∀ t, VR X m s.sh (s.T t) (a.tmps.getD t undef)
  obj : ∀ k, HR X m s.O w k
  dist : ∀ k k' L L', k ≠ k' → s.sh k ≠ .dead → s.sh k' ≠ .dead → m k = some L → m k' = some L' → L.b ≠ L'.b
  keep : ∀ k, k < X.nin → s.sh k ≠ .dead → m k = X.m0 k
  fr : Fr X w

/-! ### which own objects a value names -/
mutual
def AV.names (k : Nat) : AV → Bool
  | .v _ => false
  | .agg cs => AV.namesL k cs
  | .tup vs => AV.namesL k vs
  | .bs _ _ _ => false
  | .bp cs _ => AV.namesL k cs
  | .sl i _ _ => Nat.beq i k
  | .pt i _ => Nat.beq i k
  | .pe i _ _ => Nat.beq i k
  | .be _ _ _ => false
  | .fn _ caps => AV.namesL k caps
  | .mp i => Nat.beq i k
  | .sx i _ => Nat.beq i k
  | .bx cs => AV.namesL k cs
  | .bm _ => false
  | .er _ => false
  | .any => false
def AV.namesL (k : Nat) : List AV → Bool
  | [] => false
  | a :: av => (AV.names k a).or (AV.namesL k av)
end

def AO.names (k : Nat) : AO → Bool
  | .box cs => AV.namesL k cs
  | _ => false

/-- a value of one cell -/
def AV.one : AV → Bool
  | .v x => x.oneCell'
  | .agg _ | .tup _ | .any => false
  | _ => true

theorem VR_one {X : Env} {m : Nat → Option Loc} {sh : Nat → Sh} {a : AV} (ha : a.one = true) {v : Value} (h : VR X m sh a v) : v.oneCell' = true := by
  cases a with
  | v x => simp only [VR] at h; subst h; simpa [AV.one] using ha
  | agg cs => simp [AV.one] at ha
  | tup cs => simp [AV.one] at ha
  | any => simp [AV.one] at ha
  | bs l sz es => simp only [VR] at h; obtain ⟨a, cap, rfl, _⟩ := h; rfl
  | bp cs off => simp only [VR] at h; obtain ⟨b, C, E, fz, rfl, _⟩ := h; rfl
  | be sz e off => simp only [VR] at h; obtain ⟨b, q, C, E, fz, rfl, _⟩ := h; rfl
  | fn f caps => simp only [VR] at h; obtain ⟨C, rfl, _⟩ := h; rfl
  | sl k lo len =>
    simp only [VR] at h
    split at h
    · obtain ⟨_, a, cap, rfl, _⟩ := h; rfl
    · exact h
  | pt k off =>
    simp only [VR] at h
    split at h
    · obtain ⟨L, _, rfl⟩ := h; rfl
    · exact h
  | pe k i off =>
    simp only [VR] at h
    split at h
    · obtain ⟨_, L, _, rfl⟩ := h; rfl
    · exact h
  | mp k =>
    simp only [VR] at h
    split at h
    · obtain ⟨L, _, rfl⟩ := h; rfl
    · exact h
  | sx k n =>
    simp only [VR] at h
    split at h
    · obtain ⟨_, L, _, rfl⟩ := h; rfl
    · exact h
  | bx cs => simp only [VR] at h; obtain ⟨b, C, E, fz, rfl, _⟩ := h; rfl
  | bm ks => simp only [VR] at h; obtain ⟨b, es, clock, rfl, _⟩ := h; rfl
  | er ok => simp only [VR] at h; cases ok with
    | true => rw [h.1 rfl]; rfl
    | false => obtain ⟨te, pe, rfl⟩ := h.2 rfl; rfl

mutual
/-- the relation hangs on the objects that a value names, and on no others; a dead one may come of whatever was -/
theorem VR_conv {X : Env} {m m' : Nat → Option Loc} {sh sh' : Nat → Sh} : ∀ (a : AV), (∀ k, a.names k = true → sh' k = .dead ∨ (sh' k = sh k ∧ m' k = m k)) → ∀ v, VR X m sh a v → VR X m' sh' a v
  | .v x, h, v, hv => by simpa only [VR] using hv
  | .agg cs, h, v, hv => by
    simp only [VR] at hv ⊢
    obtain ⟨C, rfl, hc⟩ := hv
    exact ⟨C, rfl, VRs_conv cs (fun k hk => h k (by simpa [AV.names] using hk)) C hc⟩
  | .tup cs, h, v, hv => by
    simp only [VR] at hv ⊢
    obtain ⟨C, rfl, hc⟩ := hv
    exact ⟨C, rfl, VRs_conv cs (fun k hk => h k (by simpa [AV.names] using hk)) C hc⟩
  | .bs l sz es, h, v, hv => by simpa only [VR] using hv
  | .bp cs off, h, v, hv => by
    simp only [VR] at hv ⊢
    obtain ⟨b, C, E, fz, rfl, hb, hh, hc⟩ := hv
    exact ⟨b, C, E, fz, rfl, hb, hh, VRs_conv cs (fun k hk => h k (by simpa [AV.names] using hk)) _ hc⟩
  | .sl k lo len, h, v, hv => by
    have h1 := VR_one (a := .sl k lo len) rfl hv
    simp only [VR] at hv ⊢
    rcases h k (by simp [AV.names]) with h | ⟨h1, h2⟩
    · rw [h]; exact h1
    · rw [h1, h2]; exact hv
  | .pt k off, h, v, hv => by
    have h1 := VR_one (a := .pt k off) rfl hv
    simp only [VR] at hv ⊢
    rcases h k (by simp [AV.names]) with h | ⟨h1, h2⟩
    · rw [h]; exact h1
    · rw [h1, h2]; exact hv
  | .pe k i off, h, v, hv => by
    have h1 := VR_one (a := .pe k i off) rfl hv
    simp only [VR] at hv ⊢
    rcases h k (by simp [AV.names]) with h | ⟨h1, h2⟩
    · rw [h]; exact h1
    · rw [h1, h2]; exact hv
  | .be sz e off, h, v, hv => by simpa only [VR] using hv
  | .fn f caps, h, v, hv => by
    simp only [VR] at hv ⊢
    obtain ⟨C, rfl, hc⟩ := hv
    exact ⟨C, rfl, VRs_conv caps (fun k hk => h k (by simpa [AV.names] using hk)) C hc⟩
  | .mp k, h, v, hv => by
    have h1 := VR_one (a := .mp k) rfl hv
    simp only [VR] at hv ⊢
    rcases h k (by simp [AV.names]) with h | ⟨h1, h2⟩
    · rw [h]; exact h1
    · rw [h1, h2]; exact hv
  | .sx k n, h, v, hv => by
    have h1 := VR_one (a := .sx k n) rfl hv
    simp only [VR] at hv ⊢
    rcases h k (by simp [AV.names]) with h | ⟨h1, h2⟩
    · rw [h]; exact h1
    · rw [h1, h2]; exact hv
  | .bx cs, h, v, hv => by
    simp only [VR] at hv ⊢
    obtain ⟨b, C, E, fz, rfl, hb, hh, hc⟩ := hv
    exact ⟨b, C, E, fz, rfl, hb, hh, VRs_conv cs (fun k hk => h k (by simpa [AV.names] using hk)) _ hc⟩
  | .bm ks, h, v, hv => by simpa only [VR] using hv
  | .er ok, h, v, hv => by simpa only [VR] using hv
  | .any, h, v, hv => by simp only [VR]
theorem VRs_conv {X : Env} {m m' : Nat → Option Loc} {sh sh' : Nat → Sh} : ∀ (av : List AV), (∀ k, AV.namesL k av = true → sh' k = .dead ∨ (sh' k = sh k ∧ m' k = m k)) → ∀ l, VRs X m sh av l → VRs X m' sh' av l
  | [], h, l, hl => by simpa only [VRs] using hl
  | a :: av, h, l, hl => by
    simp only [VRs] at hl ⊢
    obtain ⟨x, xs, rfl, h1, h2⟩ := hl
    exact ⟨x, xs, rfl, VR_conv a (fun k hk => h k (by simp [AV.namesL, hk])) x h1, VRs_conv av (fun k hk => h k (by simp [AV.namesL, hk])) xs h2⟩
end

/-! ### worlds -/
theorem Fr.refl (X : Env) : Fr X X.w0 := ⟨rfl, rfl, rfl, Nat.le_refl _, fun _ _ _ => rfl⟩

theorem Fr.step {X : Env} {w w' : World} (h : Fr X w) (hos : w'.os = w.os) (ht : w'.tape = w.tape) (ho : w'.output = w.output) (hs : w.heap.size ≤ w'.heap.size)
    (hb : ∀ b, b < X.w0.heap.size → b ∉ X.mb → w'.heap[b]? = w.heap[b]?) : Fr X w' :=
  ⟨hos.trans h.os, ht.trans h.tape, ho.trans h.output, Nat.le_trans h.size hs, fun b h1 h2 => (hb b h1 h2).trans (h.block b h1 h2)⟩

theorem HR.lt {X : Env} {m : Nat → Option Loc} {h : Nat → AO} {w : World} {k : Nat} (hr : HR X m h w k) {L : Loc} (hm : m k = some L) (hd : (h k).sh ≠ .dead) : L.b < w.heap.size ∧ X.Own L.b := by
  unfold HR at hr
  cases hk : h k with
  | dead => simp [hk, AO.sh] at hd
  | box cs =>
    simp only [hk] at hr
    obtain ⟨L', C, E, h1, h2, _, h4⟩ := hr
    rw [hm] at h1; cases h1
    exact ⟨(Array.getElem?_eq_some_iff.1 h2).1, h4⟩
  | arr sz es =>
    simp only [hk] at hr
    obtain ⟨_, ⟨h1, _⟩ | ⟨L', C, E, h1, h2, _, _, _, h4⟩⟩ := hr
    · rw [hm] at h1; cases h1
    · rw [hm] at h1; cases h1
      exact ⟨(Array.getElem?_eq_some_iff.1 h2).1, h4⟩
  | map ks =>
    simp only [hk] at hr
    obtain ⟨L', es, cl, h1, h2, _, _, h4⟩ := hr
    rw [hm] at h1; cases h1
    exact ⟨(Array.getElem?_eq_some_iff.1 h2).1, h4⟩

/-- an object's own part of the relation, with its block and what it names kept -/
theorem HR.conv {X : Env} {m m' : Nat → Option Loc} {h h' : Nat → AO} {w w' : World} {k : Nat} (hr : HR X m h w k) (hk : h' k = h k) (hm : m' k = m k)
    (hw : ∀ L, m k = some L → (h k).sh ≠ .dead → w'.heap[L.b]? = w.heap[L.b]?)
    (hn : ∀ i, (h k).names i = true → (h' i).sh = .dead ∨ ((h' i).sh = (h i).sh ∧ m' i = m i)) : HR X m' h' w' k := by
  unfold HR at hr ⊢
  rw [hk]
  cases hko : h k with
  | dead => trivial
  | box cs =>
    simp only [hko] at hr ⊢
    obtain ⟨L, C, E, h1, h2, h3, h4⟩ := hr
    refine ⟨L, C, E, hm.trans h1, (hw L h1 (by simp [hko, AO.sh])).trans h2, VRs_conv cs (fun i hi => ?_) _ h3, h4⟩
    exact hn i (by rw [hko]; simpa [AO.names] using hi)
  | arr sz es =>
    simp only [hko] at hr ⊢
    obtain ⟨h0, ⟨h1, h2⟩ | ⟨L, C, E, h1, h2, h3, h4, h5, h6⟩⟩ := hr
    · exact ⟨h0, .inl ⟨hm.trans h1, h2⟩⟩
    · exact ⟨h0, .inr ⟨L, C, E, hm.trans h1, (hw L h1 (by simp [hko, AO.sh])).trans h2, h3, h4, h5, h6⟩⟩
  | map ks =>
    simp only [hko] at hr ⊢
    obtain ⟨L, es, cl, h1, h2, h3, h4, h5⟩ := hr
    exact ⟨L, es, cl, hm.trans h1, (hw L h1 (by simp [hko, AO.sh])).trans h2, h3, h4, h5⟩

end Go.Eng
