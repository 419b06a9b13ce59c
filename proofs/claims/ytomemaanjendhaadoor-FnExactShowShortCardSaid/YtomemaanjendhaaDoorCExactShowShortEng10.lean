/- What is proved: append as the engine reckons it: what is appended to becomes a new own object, in the old block or in a new one, whatever room there was. Its side condition bounds the length. -/
import Derived.Test.YtomemaanjendhaaDoorCExactShowShortEng9
set_option linter.unusedVariables false
set_option linter.unusedSimpArgs false
namespace Go.Eng
open Go

variable {P : Program} {s : S} {o : Oper} {ev : Ev}

theorem flat_cells {sz : Nat} {C : Array Value} : ∀ (es : List (List Value)) (off : Nat), (∀ e ∈ es, e.length = sz) → (∀ i e, es[i]? = some e → ∀ j x, e[j]? = some x → C[off + i * sz + j]? = some x) → ∀ q v, es.flatten[q]? = some v → C[off + q]? = some v
  | [], off, _, _, q, v, h => by simp at h
  | e :: es, off, hl, hc, q, v, h => by
    have h0 : e.length = sz := hl e (by simp)
    simp only [List.flatten_cons] at h
    by_cases hq : q < sz
    · rw [List.getElem?_append_left (by omega)] at h
      simpa using hc 0 e rfl q v h
    · rw [List.getElem?_append_right (by omega), h0] at h
      have := flat_cells es (off + sz) (fun e he => hl e (by simp [he])) (fun i e' hi j x hj => by
        have := hc (i + 1) e' (by simpa using hi) j x hj
        rw [Nat.add_mul] at this
        rwa [show off + sz + i * sz + j = off + (i * sz + 1 * sz) + j by omega]) (q - sz) v h
      rwa [show off + sz + (q - sz) = off + q by omega] at this

theorem mem_flat {es : List (List Value)} {q : Value → Prop} (h : ∀ e ∈ es, ∀ x ∈ e, q x) : ∀ x ∈ es.flatten, q x := by
  intro x hx
  obtain ⟨e, he, hxe⟩ := List.mem_flatten.1 hx
  exact h e he x hxe

/-- a slice that reads as these elements in this world -/
def SrcOk (w : World) (sz : Nat) (v : Value) (xs : List (List Value)) : Prop :=
  ∃ a cap, v = .slice a xs.length cap ∧ OkEls sz xs ∧ (xs = [] ∨ ∃ b off C E fz, a = some ⟨b, off, none⟩ ∧ w.heap[b]? = some (.cells C E fz) ∧ ∀ i e, xs[i]? = some e → ∀ j x, e[j]? = some x → C[off + i * sz + j]? = some x)

theorem SrcOk.first {w w' : World} {sz : Nat} {v : Value} {xs : List (List Value)} (h : SrcOk w sz v xs) (hw : w'.heap = w.heap) : (Builtin.firstCells sz xs.length v).run P w' = .ok xs.flatten.toArray w' := by
  obtain ⟨a, cap, rfl, hok, rfl | ⟨b, off, C, E, fz, rfl, hh, hc⟩⟩ := h
  · cases a <;> simp [Builtin.firstCells, loadCells, loadCellsFrom]
  · refine run_firstCells_some w' sz xs.length ⟨b, off, none⟩ xs.length cap xs.flatten (flat_length xs fun e he => (hok e he).1) fun j v hv => ?_
    rw [Addr.add_lit, cell_of_row w' b _ C E fz (by rw [hw]; exact hh)]
    exact flat_cells xs off (fun e he => (hok e he).1) hc j v hv

theorem run_app_none {t ty e : TypeId} {i : TypeInfo} (ht : P.underlying t = some (.slice e)) (hi : P.info? e = some i) {w : World} {base : Option Addr} {n cap : Nat} {v : Value} (hv : SrcOk w i.size v []) (hn : n ≤ cap) :
    (Builtin.append_ #[t, t] ty #[.slice base n cap, v]).run P w = .ok (.slice base n cap) w := by
  have hf := hv.first (P := P) (w' := w) rfl
  obtain ⟨a, c, rfl, _, _⟩ := hv
  simp only [List.length_nil, List.flatten_nil] at hf
  cases base with
  | none => simp [Builtin.append_, run_underlying ht, sizeOf, typeInfo, hi, Builtin.lenOf, hn, hf]
  | some p => simp [Builtin.append_, run_underlying ht, sizeOf, typeInfo, hi, Builtin.lenOf, hn, hf, storeCells]

theorem run_app_room {t ty e : TypeId} {i : TypeInfo} (ht : P.underlying t = some (.slice e)) (hi : P.info? e = some i) {w : World} {b off n cap : Nat} {C : Array Value} {E : TypeId} (hh : w.heap[b]? = some (.cells C E (0, 0))) {v : Value} {xs : List (List Value)} (hv : SrcOk w i.size v xs)
    (hroom : n + xs.length ≤ cap) (hfit : off + n * i.size + xs.flatten.length ≤ C.size) :
    (Builtin.append_ #[t, t] ty #[.slice (some ⟨b, off, none⟩) n cap, v]).run P w = .ok (.slice (some ⟨b, off, none⟩) (n + xs.length) cap) (w.setRow b (C.toList.take (off + n * i.size) ++ xs.flatten ++ C.toList.drop (off + n * i.size + xs.flatten.length)).toArray) := by
  have hf := hv.first (P := P) (w' := w) rfl
  obtain ⟨a, c, rfl, hok, _⟩ := hv
  have hst := run_storeCells_at P b (off + n * i.size) E xs.flatten 0 C w hh (by simpa using hfit) (mem_flat fun e he => (hok e he).2)
  simp only [Nat.add_zero] at hst
  simp [Builtin.append_, run_underlying ht, sizeOf, typeInfo, hi, Builtin.lenOf, hroom, hf, Addr.add_lit, hst]

theorem run_app_grow {t ty e : TypeId} {i : TypeInfo} {z : Value} (ht : P.underlying t = some (.slice e)) (hi : P.info? e = some i) (hz : i.zero = some z) {w : World} {bv v : Value} {ys xs : List (List Value)} (hb : SrcOk w i.size bv ys) (hv : SrcOk w i.size v xs)
    {base : Option Addr} {cap : Nat} (hbv : bv = .slice base ys.length cap) (hg : cap < ys.length + xs.length) (h63 : ys.length + xs.length ≤ 9223372036854775807) (hfit : Builtin.nextslicecap (ys.length + xs.length) cap * i.bytes ≤ 281474976710656) :
    (Builtin.append_ #[t, t] ty #[bv, v]).run P w = .ok (.slice (some ⟨w.heap.size, 0, none⟩) (ys.length + xs.length) (grownCap w (ys.length + xs.length) cap e))
      (w.drew.alloc (.cells (ys.flatten.toArray ++ xs.flatten.toArray ++ Builtin.zeroCells z.cells (grownCap w (ys.length + xs.length) cap e - (ys.length + xs.length))) e)) := by
  have hf := hv.first (P := P) (w' := w.drew) rfl
  have hfo := hb.first (P := P) (w' := w.drew) rfl
  obtain ⟨a, c, rfl, _, _⟩ := hv
  subst hbv
  have hn : ¬ (ys.length + xs.length ≤ cap) := by omega
  have h63' : ¬ (9223372036854775807 < ((ys.length : Int) + (xs.length : Int))) := by omega
  have h48' : ¬ (281474976710656 < Builtin.nextslicecap (ys.length + xs.length) cap * i.bytes) := by omega
  simp [Builtin.append_, run_underlying ht, sizeOf, typeInfo, zeroValue, hi, hz, Builtin.lenOf, hn, h63', h48', Question.forced, hf, hfo, newRow, grownCap]
  congr 2
  apply Array.ext'
  simp [List.append_assoc]

/-- what is appended, as the machine takes it -/
structure AppX (P : Program) (t t' e : TypeId) (i : TypeInfo) (z : Value) (w : World) (v : Value) (xs : List (List Value)) : Prop where
  ok : OkEls i.size xs
  none : xs = [] → ∀ (ty : TypeId) (base : Option Addr) (n cap : Nat), n ≤ cap → (Builtin.append_ #[t, t'] ty #[.slice base n cap, v]).run P w = .ok (.slice base n cap) w
  room : ∀ (ty : TypeId) {b off n cap : Nat} {C : Array Value} {E : TypeId}, w.heap[b]? = some (.cells C E (0, 0)) → n + xs.length ≤ cap → off + n * i.size + xs.flatten.length ≤ C.size →
    (Builtin.append_ #[t, t'] ty #[.slice (some ⟨b, off, .none⟩) n cap, v]).run P w = .ok (.slice (some ⟨b, off, .none⟩) (n + xs.length) cap) (w.setRow b (C.toList.take (off + n * i.size) ++ xs.flatten ++ C.toList.drop (off + n * i.size + xs.flatten.length)).toArray)
  grow : ∀ (ty : TypeId) {bv : Value} {ys : List (List Value)} {base : Option Addr} {cap : Nat}, SrcOk w i.size bv ys → bv = .slice base ys.length cap → cap < ys.length + xs.length → ys.length + xs.length ≤ 9223372036854775807 →
    Builtin.nextslicecap (ys.length + xs.length) cap * i.bytes ≤ 281474976710656 →
    (Builtin.append_ #[t, t'] ty #[bv, v]).run P w = .ok (.slice (some ⟨w.heap.size, 0, .none⟩) (ys.length + xs.length) (grownCap w (ys.length + xs.length) cap e))
      (w.drew.alloc (.cells (ys.flatten.toArray ++ xs.flatten.toArray ++ Builtin.zeroCells z.cells (grownCap w (ys.length + xs.length) cap e - (ys.length + xs.length))) e))

theorem SrcOk.appX {t e : TypeId} {i : TypeInfo} {z : Value} (ht : P.underlying t = some (.slice e)) (hi : P.info? e = some i) (hz : i.zero = some z) {w : World} {v : Value} {xs : List (List Value)} (hv : SrcOk w i.size v xs) : AppX P t t e i z w v xs :=
  ⟨hv.choose_spec.choose_spec.2.1, (fun hx ty base n cap hn => by subst hx; exact run_app_none ht hi hv hn), (fun ty _ _ _ _ _ _ hh hr hf => run_app_room ht hi hh hv hr hf), (fun ty _ _ _ _ hb hbv hg h63 hfit => run_app_grow ht hi hz hb hv hbv hg h63 hfit)⟩

theorem zeroCells_flat (c : Array Value) (n : Nat) : Builtin.zeroCells c n = (List.replicate n c.toList).flatten.toArray := by
  have hl : ∀ e ∈ List.replicate n c.toList, e.length = c.size := fun e he => by rw [List.eq_of_mem_replicate he]; simp
  have hfl := flat_length _ hl
  rw [List.length_replicate] at hfl
  apply Array.ext'
  apply List.ext_getElem?
  intro q
  by_cases hq : q < n * c.size
  · have hc : 0 < c.size := Nat.pos_of_ne_zero fun h => by rw [h] at hq; simp at hq
    have hd : q / c.size < n := Nat.div_lt_of_lt_mul (by rw [Nat.mul_comm]; exact hq)
    have hm : q % c.size < c.size := Nat.mod_lt _ hc
    have := flat_get _ hl (q / c.size) c.toList (by rw [List.getElem?_replicate, if_pos hd]) (q % c.size) c[q % c.size] (by simp [hm])
    rw [Nat.mul_comm, Nat.div_add_mod] at this
    simp only [Builtin.zeroCells, Array.getElem?_toList, Array.getElem?_map, Array.getElem?_range, hq, if_true, Option.map_some, List.getElem?_toArray, this]
    rw [getElem!_pos c (q % c.size) hm]
  · have h1 : (Builtin.zeroCells c n).size = n * c.size := size_zeroCells c n
    rw [List.getElem?_eq_none (by simpa [h1] using hq), List.getElem?_eq_none (by simp only [hfl]; omega)]

/-- zeros appended by their number -/
theorem zeros_appX {t t' e : TypeId} {i : TypeInfo} {z : Value} {k : IntKind} (ht : P.underlying t = some (.slice e)) (ht' : P.underlying t' = some (.int k)) (hi : P.info? e = some i) (hz : i.zero = some z) (hs : i.size = z.cells.size)
    (h1 : ∀ x ∈ z.cells.toList, x.oneCell' = true) (hby : i.bytes ≤ 64) {w : World} {n : Int} (h0 : 0 ≤ n) (hn : n ≤ 1099511627776) : AppX P t t' e i z w (.int .i64 n) (List.replicate n.toNat z.cells.toList) := by
  have hl : ∀ e ∈ List.replicate n.toNat z.cells.toList, e.length = i.size := fun e he => by rw [List.eq_of_mem_replicate he, hs]; simp
  have hok : OkEls i.size (List.replicate n.toNat z.cells.toList) := fun e he => ⟨hl e he, fun x hx => h1 x (by rw [← List.eq_of_mem_replicate he]; exact hx)⟩
  have hw : IntKind.i64.wrap n = n := by rw [IntKind.wrap_i64]; omega
  have hn0 : ¬ n < 0 := by omega
  have hcap : ¬ (281474976710656 < n * (i.bytes : Int)) := by
    have : n * (i.bytes : Int) ≤ 1099511627776 * 64 := Int.mul_le_mul hn (by omega) (by omega) (by omega)
    omega
  have hfl := flat_length _ hl
  rw [List.length_replicate] at hfl
  refine ⟨hok, fun hx ty base m cap hm => ?_, fun ty b off m cap C E hh hroom hfit => ?_, fun ty bv ys base cap hb hbv hg h63 hfit => ?_⟩
  · have hn' : n.toNat = 0 := by simpa using congrArg List.length hx
    have hnz : n = 0 := by omega
    subst hnz
    cases base with
    | none => simp [Builtin.append_, run_underlying ht, run_underlying ht', sizeOf, typeInfo, hi, asInt, asIntOf, hw, hm]
    | some p => simp [Builtin.append_, run_underlying ht, run_underlying ht', sizeOf, typeInfo, hi, asInt, asIntOf, hw, hm, storeCells]
  · simp only [List.length_replicate] at hroom ⊢
    have hst := run_storeCells_at P b (off + m * i.size) E (List.replicate n.toNat z.cells.toList).flatten 0 C w hh (by simpa using hfit) (mem_flat fun e he => (hok e he).2)
    simp only [Nat.add_zero] at hst
    by_cases hq : n.toNat * i.size = 0
    · have hnil : (List.replicate n.toNat z.cells.toList).flatten = [] := List.eq_nil_of_length_eq_zero (by rw [hfl]; exact hq)
      rw [hnil] at hst ⊢
      have hst2 : (Result.ok () w : Result Unit) = .ok () (w.setRow b (C.toList.take (off + m * i.size) ++ [] ++ C.toList.drop (off + m * i.size + ([] : List Value).length)).toArray) := by rw [← hst]; rfl
      have hw2 := (Result.ok.inj hst2).2
      rw [← hw2]
      simp [Builtin.append_, run_underlying ht, run_underlying ht', sizeOf, typeInfo, hi, asInt, asIntOf, hw, hn0, hcap, hroom, hq, storeCells]
    · have hz2 := zeroCells_flat z.cells n.toNat
      simp [Builtin.append_, run_underlying ht, run_underlying ht', sizeOf, typeInfo, zeroValue, hi, hz, asInt, asIntOf, hw, hn0, hcap, hroom, hq, hz2, Addr.add_lit, hst]
  · simp only [List.length_replicate] at hg h63 hfit ⊢
    have hfo := hb.first (P := P) (w' := w.drew) rfl
    subst hbv
    have hnc : ¬ (ys.length + n.toNat ≤ cap) := by omega
    have h63' : ¬ (9223372036854775807 < ((ys.length : Int) + max n 0)) := by omega
    have h48' : ¬ (281474976710656 < Builtin.nextslicecap (ys.length + n.toNat) cap * i.bytes) := by omega
    by_cases hq : n.toNat * i.size = 0
    · have hnil : (List.replicate n.toNat z.cells.toList).flatten = [] := List.eq_nil_of_length_eq_zero (by rw [hfl]; exact hq)
      rw [hnil]
      simp [Builtin.append_, run_underlying ht, run_underlying ht', sizeOf, typeInfo, zeroValue, hi, hz, asInt, asIntOf, hw, hn0, hcap, hnc, h63', h48', Question.forced, hq, hfo, newRow, grownCap]
    · have hz2 := zeroCells_flat z.cells n.toNat
      simp [Builtin.append_, run_underlying ht, run_underlying ht', sizeOf, typeInfo, zeroValue, hi, hz, asInt, asIntOf, hw, hn0, hcap, hnc, h63', h48', Question.forced, hq, hz2, hfo, newRow, grownCap]
      congr 2
      apply Array.ext'
      simp [List.append_assoc]

/-- what a slice operand reads as, with the condition under which it is told so -/
def srcOf (sz : Nat) (O : Nat → AO) (els : Option (List (List Value))) (x : AV) : Option (List (List Value) × Prop) :=
  match x with
  | .v (.slice none 0 0) => some ([], True)
  | .bs _ sz' es => bif Nat.beq sz' sz then some (es, True) else none
  | .sl k lo len => match O k with
    | .arr sz' es => bif Nat.beq sz' sz then (match els with
      | some xs => some (xs, (es.drop lo).take len = xs)
      | none => some ((es.drop lo).take len, True)) else none
    | _ => none
  | _ => none

theorem srcOf_spec {sz : Nat} {els : Option (List (List Value))} {x : AV} {xs : List (List Value)} {c : Prop} (h : srcOf sz s.O els x = some (xs, c)) (hc : c) {X : Env} {N : Nat} {m : Nat → Option Loc} {a : Act} {w : World} (hr : Rel X N s m a w) {v : Value} (hv : VR X m s.sh x v) : SrcOk w sz v xs := by
  unfold srcOf at h
  split at h
  · cases h
    simp only [VR] at hv
    exact ⟨none, 0, by simpa using hv, (fun e he => by cases he), .inl rfl⟩
  · rename_i sz' es
    cases hb : Nat.beq sz' sz with
    | false => simp [hb] at h
    | true =>
      simp only [hb, cond_true] at h
      have := Nat.eq_of_beq_eq_true hb
      subst this
      cases h
      simp only [VR] at hv
      obtain ⟨ad, cap, hv, _, hok, he | ⟨b, off, had, hB, C, E, fz, hh, hcell⟩⟩ := hv
      · exact ⟨ad, cap, hv, hok, .inl he⟩
      · exact ⟨ad, cap, hv, hok, .inr ⟨b, off, C, E, fz, had, by rw [hr.fr.at_B (Env.Bl_B hB)]; exact hh, hcell⟩⟩
  · rename_i k lo len
    split at h
    · rename_i sz' es hO
      cases hb : Nat.beq sz' sz with
      | false => simp [hb] at h
      | true =>
        simp only [hb, cond_true] at h
        have := Nat.eq_of_beq_eq_true hb
        subst this
        have hxs : xs = (es.drop lo).take len := by
          split at h
          · cases h; exact hc.symm
          · cases h; rfl
        subst hxs
        have hsh : s.sh k = .arr sz' es.length := by simp [S.sh, hO, AO.sh]
        simp only [VR, hsh] at hv
        obtain ⟨hle, ad, cap, hv, hcap, hrest⟩ := hv
        have hlen : ((es.drop lo).take len).length = len := by simp; omega
        have ob := hr.obj k
        unfold HR at ob
        simp only [hO] at ob
        obtain ⟨hok, hob⟩ := ob
        refine ⟨ad, cap, by rw [hlen]; exact hv, fun e he => hok e (List.mem_of_mem_drop (List.mem_of_mem_take he)), ?_⟩
        rcases hrest with h0 | ⟨L, hm, had, _⟩
        · left; have : len = 0 := by omega
          rw [this, List.take_zero]
        · rcases hob with ⟨h1, h2⟩ | ⟨L', C, E, hm', hh, _, _, hcell, _⟩
          · left; rw [h2]; simp
          · rw [hm] at hm'; cases hm'
            right
            refine ⟨L.b, L.off + lo * sz', C, E, (0, 0), had, hh, fun i e hi j x' hj => ?_⟩
            simp only [List.getElem?_take, List.getElem?_drop] at hi
            split at hi
            · have := hcell _ _ hi j x' hj
              rw [Nat.add_mul] at this
              rwa [show L.off + lo * sz' + i * sz' + j = L.off + (lo * sz' + i * sz') + j by omega]
            · cases hi
    · cases h
  · cases h

def killOf : AV → List (Nat × AO)
  | .sl k _ _ => [(k, .dead)]
  | _ => []

def isBase : AV → Bool
  | .v (.slice none 0 0) => true
  | .sl _ _ _ => true
  | _ => false

def isIntT (P : Program) (t : TypeId) : Bool :=
  match P.underlying t with
  | some (.int _) => true
  | _ => false

theorem isIntT_spec {t : TypeId} (h : isIntT P t = true) : ∃ k, P.underlying t = some (.int k) := by
  unfold isIntT at h
  split at h
  · rename_i k hk; exact ⟨k, hk⟩
  · cases h

/-- what is appended: a slice, or zeros told by their number -/
def srcX (P : Program) (t t' : TypeId) (sz : Nat) (zs : List Value) (O : Nat → AO) (els2 : Option (List (List Value))) (x : AV) : Option (List (List Value) × Prop) :=
  bif Nat.beq t t' then srcOf sz O els2 x else
    match x with
    | .v (.int .i64 n) => bif isIntT P t' then some (List.replicate n.toNat zs, 0 ≤ n ∧ n ≤ 1099511627776) else none
    | _ => none

def evAppend (P : Program) (t t' : TypeId) (sz bytes : Nat) (zs : List Value) (O : Nat → AO) (nk : Nat) (els els2 : Option (List (List Value))) (b x : AV) : Option Ev :=
  bif isBase b && Nat.ble bytes 64 then
    match srcOf sz O els b, srcX P t t' sz zs O els2 x with
    | some (ys, c1), some (xs, c2) => some ⟨.sl nk 0 (ys ++ xs).length, killOf b ++ [(nk, .arr sz (ys ++ xs))], [nk], some ((c1 ∧ c2) ∧ ys.length + xs.length ≤ 1099511627776)⟩
    | _, _ => none
  else none

theorem srcX_spec {t t' e : TypeId} {i : TypeInfo} {z : Value} (ht : P.underlying t = some (.slice e)) (hi : P.info? e = some i) (hz : i.zero = some z) (hs : i.size = z.cells.size) (h1 : ∀ x ∈ z.cells.toList, x.oneCell' = true) (hby : i.bytes ≤ 64)
    {els2 : Option (List (List Value))} {x : AV} {xs : List (List Value)} {c : Prop} (h : srcX P t t' i.size z.cells.toList s.O els2 x = some (xs, c)) (hc : c) {X : Env} {N : Nat} {m : Nat → Option Loc} {a : Act} {w : World} (hr : Rel X N s m a w) {v : Value} (hv : VR X m s.sh x v) : AppX P t t' e i z w v xs := by
  unfold srcX at h
  cases hb : Nat.beq t t' with
  | true =>
    simp only [hb, cond_true] at h
    have := Nat.eq_of_beq_eq_true hb
    subst this
    exact (srcOf_spec h hc hr hv).appX ht hi hz
  | false =>
    simp only [hb, cond_false] at h
    split at h
    · rename_i n
      cases hI : isIntT P t' with
      | false => simp [hI] at h
      | true =>
        simp only [hI, cond_true] at h
        cases h
        obtain ⟨k, hk⟩ := isIntT_spec hI
        simp only [VR] at hv
        subst hv
        exact zeros_appX ht hk hi hz hs h1 hby hc.1 hc.2
    · cases h

theorem S.free_setO_dead {k k' : Nat} (h : s.free k = true) : (s.setO k' .dead).free k = true := by
  simp only [S.free, S.setO, Bool.and_eq_true, List.all_cons] at h ⊢
  exact ⟨h.1, rfl, h.2⟩

theorem snd_append {nin nk : Nat} {t t' e : TypeId} {sz : Nat} {b x : Operand} {els els2 : Option (List (List Value))} (ho : o.op = .call { callee := .builtin .append, args := #[b, x], argTypes := #[t, t'] })
    (ht : elemOfT P t = some (e, sz)) {zs : List Value} (hz : zeroCs P e = some zs) (he : evAppend P t t' sz (bytesOf P e) zs s.O nk els els2 (evO s b) (evO s x) = some ev) : Sound P nin o s ev := by
  unfold evAppend at he
  cases hib : (isBase (evO s b) && Nat.ble (bytesOf P e) 64) with
  | false => simp [hib] at he
  | true =>
    simp only [hib, cond_true] at he
    simp only [Bool.and_eq_true] at hib
    obtain ⟨hib, hby⟩ := hib
    have hby := Nat.le_of_ble_eq_true hby
    split at he
    · rename_i ys c1 xs c2 hys hxs
      cases he
      obtain ⟨hu, inf, hi, hsz⟩ := elemOfT_spec ht
      obtain ⟨i, z, h1, h2, h3, h4, h5⟩ := zeroCs_spec hz
      rw [hi] at h1; cases h1
      subst hsz
      have hbi : bytesOf P e = inf.bytes := by simp [bytesOf, hi]
      rw [hbi] at hby
      intro X N m a w K Q hn hr hd hfr hc hK
      obtain ⟨⟨hc1, hc2⟩, hbound⟩ := hc
      obtain ⟨hk, hfr⟩ := hfr nk (List.mem_singleton.2 rfl)
      have sb := srcOf_spec hys hc1 hr (hr.eval b)
      subst h3
      have hzsz : inf.size = z.cells.size := by rw [h4]; simp
      have sx := srcX_spec (z := z) hu hi h2 hzsz h5 hby hxs hc2 hr (hr.eval x)
      obtain ⟨ba, cap, hbv, hokb, hbase⟩ := id sb
      have hokx : OkEls inf.size xs := sx.ok
      have hok : OkEls inf.size (ys ++ xs) := fun e he => by rcases List.mem_append.1 he with h | h; exact hokb e h; exact hokx e h
      have lx := flat_length xs (fun e he => (hokx e he).1)
      have ly := flat_length ys (fun e he => (hokb e he).1)
      have hlcap : ys.length ≤ cap := by
        have e1 := hr.eval b
        rw [hbv] at e1
        cases hE : evO s b with
        | v q =>
          rw [hE] at e1 hib
          simp only [VR] at e1
          rw [← e1] at hib
          cases ba with
          | some p => simp [isBase] at hib
          | none =>
            cases hyl : ys.length with
            | zero => omega
            | succ n => rw [hyl] at hib; simp [isBase] at hib
        | sl k lo len =>
          rw [hE] at e1 hys
          simp only [VR] at e1
          cases hO : s.O k with
          | arr sz' es' =>
            have hsh : s.sh k = .arr sz' es'.length := by simp [S.sh, hO, AO.sh]
            rw [hsh] at e1
            obtain ⟨_, a', cap', hv', hc', _⟩ := e1
            cases hv'; exact hc'
          | _ => simp [srcOf, hO] at hys
        | _ => rw [hE] at hib; simp [isBase] at hib
      -- the state behind the base's end
      have hkill : ∃ s1 : S, (killOf (evO s b)).foldl (fun s p => s.setO p.1 p.2) s = s1 ∧ Rel X N s1 m a w ∧ s1.free nk = true ∧ (∀ L, ba = some ⟨L, 0, none⟩ → True) ∧
          (∀ k lo len, evO s b = .sl k lo len → s1.sh k = .dead ∧ ∀ i, i ≠ k → s1.sh i = s.sh i) ∧ s1.t = s.t := by
        cases hE : evO s b with
        | sl k lo len =>
          refine ⟨s.setO k .dead, rfl, hr.kill k, S.free_setO_dead hfr, fun _ _ => trivial, fun k' lo' len' h => ?_, rfl⟩
          cases h
          exact ⟨by rw [S.sh_setO, if_pos rfl]; rfl, fun i hi => by rw [S.sh_setO, if_neg hi]⟩
        | _ => exact ⟨s, rfl, hr, hfr, fun _ _ => trivial, (fun k lo len h => by cases h), rfl⟩
      obtain ⟨s1, hs1, hr1, hf1, _, hdead, hs1t⟩ := hkill
      have fin : ∀ (v : Value) (w' : World) (ol : Option Loc), (Builtin.append_ #[t, t'] o.type #[a.eval b, a.eval x]).run P w = .ok v w' → Rel X N (s1.setO nk (.arr inf.size (ys ++ xs))) (fun i => if i = nk then ol else m i) a w' →
          VR X (fun i => if i = nk then ol else m i) (s1.setO nk (.arr inf.size (ys ++ xs))).sh (.sl nk 0 (ys ++ xs).length) v → o.wp P a w K Q := by
        intro v w' ol hrun hrel hvr
        have hex : (execOp a.eval o).run P w = .ok (.value v) w' := by
          simp only [execOp, ho, resolve, invoke, builtin, Sem.run_bind, Sem.run_pure, Result.andThen_ok, List.map_toArray, List.map_cons, List.map_nil, hrun]
        refine wp_of_value hex (hK (fun i => if i = nk then ol else m i) _ w' ?_)
        unfold Ev.ap Ev.hp
        simp only [List.foldl_append, hs1, List.foldl_cons, List.foldl_nil]
        cases hdst : o.dst with
        | none => exact hrel
        | some d => exact hrel.putV (hd d hdst) hvr
      by_cases hx0 : xs = []
      · -- nothing is appended: the very slice
        subst hx0
        have hrun := sx.none rfl o.type ba ys.length cap hlcap
        rw [← hbv] at hrun
        have e1 := hr.eval b
        rw [hbv] at e1
        by_cases hloc : ∃ k lo len L, evO s b = .sl k lo len ∧ m k = some L ∧ ba = some ⟨L.b, L.off + lo * inf.size, none⟩ ∧ L.off + lo * inf.size + cap * inf.size ≤ L.tot ∧ cap ≠ 0
        · obtain ⟨k, lo, len, L, hE, hm, hba, htot, hcap0⟩ := hloc
          rw [hE] at hys
          have hO : ∃ es', s.O k = .arr inf.size es' := by
            simp only [srcOf] at hys
            cases hO : s.O k with
            | arr sz' es' =>
              simp only [hO] at hys
              cases hbq : Nat.beq sz' inf.size with
              | false => simp [hbq] at hys
              | true => rw [Nat.eq_of_beq_eq_true hbq]; exact ⟨es', rfl⟩
            | _ => simp [hO] at hys
          obtain ⟨es', hO⟩ := hO
          have hsh : s.sh k = .arr inf.size es'.length := by simp [S.sh, hO, AO.sh]
          have ob := hr.obj k
          unfold HR at ob
          simp only [hO] at ob
          obtain ⟨_, ⟨hnone, _⟩ | ⟨L', C, E, hm', hh, hCs, _, _, hown⟩⟩ := ob
          · rw [hm] at hnone; cases hnone
          · rw [hm] at hm'; cases hm'
            have hd2 := hdead k lo _ hE
            have hys' : ys ≠ [] → ∀ i e, ys[i]? = some e → ∀ j x, e[j]? = some x → C[L.off + lo * inf.size + i * inf.size + j]? = some x := by
              intro hne
              rcases hbase with h | ⟨b', off', C', E', fz', h1', h2', h3'⟩
              · exact absurd h hne
              · rw [hba] at h1'; cases h1'
                rw [hh] at h2'; cases h2'
                exact h3'
            have hlen2 : ys.length * inf.size ≤ cap * inf.size := Nat.mul_le_mul_right _ hlcap
            refine fin _ w (some ⟨L.b, L.off + lo * inf.size, L.tot⟩) hrun ?_ ?_
            · refine hr1.add _ _ (by omega) hf1 ?_ (fun _ _ _ => rfl) (fun L0 h => by cases h; exact hown) rfl rfl rfl (Nat.le_refl _) ?_
              · intro L0 h i L1 hi hs hm1
                cases h
                have hik : i ≠ k := fun e => by rw [e] at hs; exact hs hd2.1
                rw [hd2.2 i hik] at hs
                exact hr.dist i k L1 L hik hs (by rw [hsh]; simp) hm1 hm
              · unfold HR
                rw [S.O_setO, if_pos rfl]
                refine ⟨hok, .inr ⟨⟨L.b, L.off + lo * inf.size, L.tot⟩, C, E, by simp, hh, hCs, ?_, ?_, hown⟩⟩
                · simp only [List.append_nil]; omega
                · simp only [List.append_nil]
                  intro i e hie
                  exact hys' (by rintro rfl; simp at hie) i e hie
            · simp only [VR]
              rw [S.sh_setO, if_pos rfl]
              simp only [AO.sh, List.append_nil]
              exact ⟨by omega, ba, cap, hbv, hlcap, .inr ⟨⟨L.b, L.off + lo * inf.size, L.tot⟩, by simp, by simpa using hba, by simpa using htot⟩⟩
        · -- a slice without room: nothing is there
          have hcap0 : cap = 0 := by
            cases hE : evO s b with
            | v q =>
              rw [hE] at e1 hib
              simp only [VR] at e1
              rw [← e1] at hib
              cases ba with
              | some p => simp [isBase] at hib
              | none =>
                cases hyl : ys.length with
                | succ n => rw [hyl] at hib; simp [isBase] at hib
                | zero =>
                  cases cap with
                  | zero => rfl
                  | succ n => rw [hyl] at hib; simp [isBase] at hib
            | sl k lo len =>
              rw [hE] at e1 hys
              have hO : ∃ es', s.O k = .arr inf.size es' := by
                simp only [srcOf] at hys
                cases hO : s.O k with
                | arr sz' es' =>
                  simp only [hO] at hys
                  cases hbq : Nat.beq sz' inf.size with
                  | false => simp [hbq] at hys
                  | true => rw [Nat.eq_of_beq_eq_true hbq]; exact ⟨es', rfl⟩
                | _ => simp [hO] at hys
              obtain ⟨es', hO⟩ := hO
              have hsh : s.sh k = .arr inf.size es'.length := by simp [S.sh, hO, AO.sh]
              simp only [VR, hsh] at e1
              obtain ⟨_, a', cap', hv', hc', h0 | ⟨L, hm, had, htot⟩⟩ := e1
              · cases hv'; exact h0
              · cases hv'
                by_cases h0 : cap = 0
                · exact h0
                · exact absurd ⟨k, lo, _, L, hE, hm, had, htot, h0⟩ hloc
            | _ => rw [hE] at hib; simp [isBase] at hib
          have hy0 : ys = [] := List.eq_nil_of_length_eq_zero (by omega)
          subst hy0
          subst hcap0
          refine fin _ w none hrun ?_ ?_
          · exact hr1.add _ none (by omega) hf1 (fun L h => by cases h) (fun _ _ _ => rfl) (fun L h => by cases h) rfl rfl rfl (Nat.le_refl _) (HR_empty (sz := inf.size) (by rw [S.O_setO, if_pos rfl]; rfl) (by simp))
          · simp only [VR]
            rw [S.sh_setO, if_pos rfl]
            exact ⟨Nat.le_refl _, ba, 0, by simpa using hbv, Nat.le_refl _, .inl rfl⟩
      · have hx1 : 0 < xs.length := List.length_pos_iff.2 hx0
        by_cases hroom : ys.length + xs.length ≤ cap
        · -- there is room: the very block
          have e1 := hr.eval b
          rw [hbv] at e1
          have hcapne : cap ≠ 0 := by omega
          cases hE : evO s b with
          | v q =>
            exfalso
            rw [hE] at e1 hib
            simp only [VR] at e1
            rw [← e1] at hib
            cases ba with
            | some p => simp [isBase] at hib
            | none =>
              cases hyl : ys.length with
              | succ n => rw [hyl] at hib; simp [isBase] at hib
              | zero =>
                cases cap with
                | zero => exact hcapne rfl
                | succ n => rw [hyl] at hib; simp [isBase] at hib
          | sl k lo len =>
            rw [hE] at e1 hys
            have hO : ∃ es', s.O k = .arr inf.size es' := by
              simp only [srcOf] at hys
              cases hO : s.O k with
              | arr sz' es' =>
                simp only [hO] at hys
                cases hbq : Nat.beq sz' inf.size with
                | false => simp [hbq] at hys
                | true => rw [Nat.eq_of_beq_eq_true hbq]; exact ⟨es', rfl⟩
              | _ => simp [hO] at hys
            obtain ⟨es', hO⟩ := hO
            have hsh : s.sh k = .arr inf.size es'.length := by simp [S.sh, hO, AO.sh]
            simp only [VR, hsh] at e1
            obtain ⟨_, a', cap', hv', hc', h0 | ⟨L, hm, had, htot⟩⟩ := e1
            · cases hv'; exact absurd h0 hcapne
            · cases hv'
              subst had
              have ob := hr.obj k
              unfold HR at ob
              simp only [hO] at ob
              obtain ⟨_, ⟨hnone, _⟩ | ⟨L', C, E, hm', hh, hCs, _, _, hown⟩⟩ := ob
              · rw [hm] at hnone; cases hnone
              · rw [hm] at hm'; cases hm'
                have hd2 := hdead k lo _ hE
                have hmul : ys.length * inf.size + xs.length * inf.size ≤ cap * inf.size := by rw [← Nat.add_mul]; exact Nat.mul_le_mul_right _ hroom
                have hfit : L.off + lo * inf.size + ys.length * inf.size + xs.flatten.length ≤ C.size := by omega
                have hrun := sx.room o.type hh hroom hfit
                rw [← hbv] at hrun
                refine fin _ _ (some ⟨L.b, L.off + lo * inf.size, L.tot⟩) hrun ?_ ?_
                · refine hr1.add _ _ (by omega) hf1 ?_ (fun b' _ hb' => setRow_other w L.b b' _ (hb' ⟨L.b, L.off + lo * inf.size, L.tot⟩ rfl)) (fun L0 h => by cases h; exact hown) rfl rfl rfl (by simp) ?_
                  · intro L0 h i L1 hi hs hm1
                    cases h
                    have hik : i ≠ k := fun e => by rw [e] at hs; exact hs hd2.1
                    rw [hd2.2 i hik] at hs
                    exact hr.dist i k L1 L hik hs (by rw [hsh]; simp) hm1 hm
                  · unfold HR
                    rw [S.O_setO, if_pos rfl]
                    refine ⟨hok, .inr ⟨⟨L.b, L.off + lo * inf.size, L.tot⟩, _, E, by simp, setRow_heap w L.b C _ E (0, 0) hh, ?_, ?_, ?_, hown⟩⟩
                    · simp only [List.size_toArray, List.length_append, List.length_take, List.length_drop, Array.length_toList]; omega
                    · simp only [List.length_append, Nat.add_mul]; omega
                    · intro i e hie j y hj
                      simp only [List.getElem?_toArray]
                      rw [get_mid C.toList xs.flatten _ xs.flatten.length rfl (by simpa using hfit)]
                      have hjl := (List.getElem?_eq_some_iff.1 hj).1
                      have hel := (hok _ (List.mem_of_getElem? hie)).1
                      by_cases hi1 : i < ys.length
                      · rw [List.getElem?_append_left hi1] at hie
                        have hi2 : (i + 1) * inf.size ≤ ys.length * inf.size := Nat.mul_le_mul_right _ hi1
                        rw [Nat.add_mul] at hi2
                        rw [if_neg (by omega)]
                        rcases hbase with h | ⟨b', off', C', E', fz', h1', h2', h3'⟩
                        · subst h; simp at hi1
                        · cases h1'
                          rw [hh] at h2'; cases h2'
                          simpa using h3' i e hie j y hj
                      · rw [List.getElem?_append_right (by omega)] at hie
                        have hilt := (List.getElem?_eq_some_iff.1 hie).1
                        have hi2 : (i - ys.length + 1) * inf.size ≤ xs.length * inf.size := Nat.mul_le_mul_right _ hilt
                        have hi3 : i * inf.size = ys.length * inf.size + (i - ys.length) * inf.size := by rw [← Nat.add_mul]; congr 1; omega
                        rw [Nat.add_mul] at hi2
                        rw [if_pos (by omega)]
                        have := flat_get xs (fun e he => (hokx e he).1) _ _ hie j y hj
                        rw [← this]; congr 1; omega
                · simp only [VR]
                  rw [S.sh_setO, if_pos rfl]
                  simp only [AO.sh, List.length_append]
                  exact ⟨by omega, _, cap, rfl, hroom, .inr ⟨⟨L.b, L.off + lo * inf.size, L.tot⟩, by simp, by simp, by simpa using htot⟩⟩
          | _ => rw [hE] at hib; simp [isBase] at hib
        · -- a new block
          have hfitb : Builtin.nextslicecap (ys.length + xs.length) cap * inf.bytes ≤ 281474976710656 := by
            refine growslice_fits (by omega) ?_
            have := Nat.mul_le_mul hbound hby
            omega
          have hrun := sx.grow o.type (hbv ▸ sb) (base := ba) (cap := cap) rfl (by omega) (by omega) hfitb
          rw [← hbv] at hrun
          have hge := grownCap_ge w (ys.length + xs.length) cap e
          have hzs : z.cells.size = inf.size := hzsz.symm
          have hsize : (ys.flatten.toArray ++ xs.flatten.toArray ++ Builtin.zeroCells z.cells (grownCap w (ys.length + xs.length) cap e - (ys.length + xs.length))).size = grownCap w (ys.length + xs.length) cap e * inf.size := by
            simp only [Array.size_append, List.size_toArray, size_zeroCells, hzs, lx, ly, ← Nat.add_mul]
            congr 1; omega
          refine fin _ _ (some ⟨w.heap.size, 0, grownCap w (ys.length + xs.length) cap e * inf.size⟩) hrun ?_ ?_
          · refine hr1.drew.fresh (k := nk) _ _ 0 _ (by omega) hf1 ?_
            unfold HR
            rw [S.O_setO, if_pos rfl]
            refine ⟨hok, .inr ⟨⟨w.heap.size, 0, grownCap w (ys.length + xs.length) cap e * inf.size⟩, _, e, by simp, heap_alloc_new w.drew _, hsize, ?_, ?_, .inl hr.fr.size⟩⟩
            · simp only [List.length_append, Nat.zero_add]; exact Nat.mul_le_mul_right _ hge
            · intro i e' hie j y hj
              have := flat_get (ys ++ xs) (fun e he => (hok e he).1) i e' hie j y hj
              have hlt := (List.getElem?_eq_some_iff.1 this).1
              rw [Nat.zero_add, Array.getElem?_append_left (by simpa using hlt)]
              simpa using this
          · simp only [VR]
            rw [S.sh_setO, if_pos rfl]
            simp only [AO.sh, List.length_append]
            exact ⟨by omega, _, _, rfl, hge, .inr ⟨⟨w.heap.size, 0, grownCap w (ys.length + xs.length) cap e * inf.size⟩, by simp, by simp, by simp⟩⟩
    · cases he

end Go.Eng
