/- What is proved: the operations of the engine on slices that it makes or writes: buildSlice, makeSlice, store, append, a byte slice turned into a string. Each theorem bears the operation's own side condition. -/
import Derived.Test.YtomemaanjendhaaDoorCExactShowShortEng7
set_option linter.unusedVariables false
set_option linter.unusedSimpArgs false
namespace Go.Eng
open Go

variable {P : Program} {s : S} {o : Oper} {ev : Ev}

/-! ### new arrays -/
/-- a row of elements, cell by cell -/
def flat (es : List (List Value)) : List Value := es.flatten

theorem flat_get {sz : Nat} : ∀ (es : List (List Value)), (∀ e ∈ es, e.length = sz) → ∀ i e, es[i]? = some e → ∀ j x, e[j]? = some x → es.flatten[i * sz + j]? = some x
  | [], h, i, e, hi, j, x, hj => by simp at hi
  | e0 :: es, h, i, e, hi, j, x, hj => by
    have h0 : e0.length = sz := h e0 (by simp)
    cases i with
    | zero =>
      simp at hi; subst hi
      simp only [List.flatten_cons, Nat.zero_mul, Nat.zero_add]
      rw [List.getElem?_append_left (List.getElem?_eq_some_iff.1 hj).1]
      exact hj
    | succ i =>
      have := flat_get es (fun e he => h e (by simp [he])) i e (by simpa using hi) j x hj
      simp only [List.flatten_cons]
      rw [List.getElem?_append_right (by rw [h0, Nat.add_mul]; omega), h0, ← this]
      congr 1
      rw [Nat.add_mul]; omega

theorem flat_length {sz : Nat} : ∀ (es : List (List Value)), (∀ e ∈ es, e.length = sz) → es.flatten.length = es.length * sz
  | [], _ => by simp
  | e :: es, h => by
    simp only [List.flatten_cons, List.length_append, List.length_cons]
    rw [flat_length es (fun e he => h e (by simp [he])), h e (by simp), Nat.add_mul]
    omega

/-- a new block whose first cells are a row of elements -/
theorem snd_newArr {nin nk sz : Nat} {es : List (List Value)} {c : Option Prop} (h : condOf c → OkEls sz es ∧ ∀ (X : Env) (N : Nat) (m : Nat → Option Loc) (a : Act) (w : World), Rel X N s m a w → ∃ (C : Array Value) (E : TypeId) (cap : Nat),
      (execOp a.eval o).run P w = .ok (.value (.slice (some ⟨w.heap.size, 0, none⟩) es.length cap)) (w.alloc (.cells C E)) ∧ es.length ≤ cap ∧ C.size = cap * sz ∧ (∀ i e, es[i]? = some e → ∀ j x, e[j]? = some x → C[i * sz + j]? = some x)) :
    Sound P nin o s ⟨.sl nk 0 es.length, [(nk, .arr sz es)], [nk], c⟩ := by
  intro X N m a w K Q hn hr hd hfr hc hK
  obtain ⟨hok, h⟩ := h hc
  obtain ⟨C, E, cap, h1, h2, h3, h4⟩ := h X N m a w hr
  obtain ⟨hk, hfr⟩ := hfr nk (List.mem_singleton.2 rfl)
  have hle : es.length * sz ≤ cap * sz := Nat.mul_le_mul_right _ h2
  have hr' := hr.fresh (k := nk) (.arr sz es) (.cells C E) 0 (cap * sz) (by omega) hfr (by
    unfold HR
    rw [S.O_setO, if_pos rfl]
    refine ⟨hok, .inr ⟨⟨w.heap.size, 0, cap * sz⟩, C, E, by simp, heap_alloc_new w _, h3, by simpa using hle, ?_, .inl hr.fr.size⟩⟩
    intro i e hi j x hj
    rw [Nat.zero_add]; exact h4 i e hi j x hj)
  refine wp_of_value h1 (hK (fun i => if i = nk then some ⟨w.heap.size, 0, cap * sz⟩ else m i) _ _ ?_)
  have hv : VR X (fun i => if i = nk then some ⟨w.heap.size, 0, cap * sz⟩ else m i) (s.setO nk (.arr sz es)).sh (.sl nk 0 es.length) (.slice (some ⟨w.heap.size, 0, none⟩) es.length cap) := by
    simp only [VR]
    rw [S.sh_setO, if_pos rfl]
    exact ⟨by omega, _, _, rfl, h2, .inr ⟨⟨w.heap.size, 0, cap * sz⟩, by simp, by simp, by simp⟩⟩
  unfold Ev.ap Ev.hp
  cases hdst : o.dst with
  | none => exact hr'
  | some d => exact hr'.putV (hd d hdst) hv

/-- `makeSlice` with equal length and capacity -/
def evMake (nk : Nat) (bytes : Nat) (zs : List Value) (l c : AV) : Option Ev :=
  match l, c with
  | .v (.int _ n), .v (.int _ q) => some ⟨.sl nk 0 (List.replicate n.toNat zs).length, [(nk, .arr zs.length (List.replicate n.toNat zs))], [nk], some (0 ≤ n ∧ q = n ∧ (bytes : Int) * n ≤ 281474976710656 ∧ n ≤ 9223372036854775807)⟩
  | _, _ => none

def bytesOf (P : Program) (t : TypeId) : Nat := match P.info? t with | some i => i.bytes | none => 0

theorem snd_make {nin nk : Nat} {t e : TypeId} {n : Nat} {l c : Operand} {zs : List Value} (ho : o.op = .makeSlice t l c) (ht : elemOfT P t = some (e, n)) (hz : zeroCs P e = some zs) (he : evMake nk (bytesOf P e) zs (evO s l) (evO s c) = some ev) : Sound P nin o s ev := by
  unfold evMake at he
  split at he
  · rename_i k1 p k2 q hl hcx
    cases he
    obtain ⟨i, z, h1, h2, h3, h4, h5⟩ := zeroCs_spec hz
    obtain ⟨hu, _⟩ := elemOfT_spec ht
    refine snd_newArr fun hc => ⟨fun e' he' => ?_, fun X N m a w hr => ?_⟩
    · have := List.eq_of_mem_replicate he'; subst this; exact ⟨rfl, h5⟩
    · obtain ⟨c0, c1, c2, c3⟩ := hc
      subst c1
      have hb : bytesOf P e = i.bytes := by simp [bytesOf, h1]
      rw [hb] at c2
      have e1 := hr.eval l
      have e2 := hr.eval c
      rw [hl] at e1; rw [hcx] at e2
      simp only [VR] at e1 e2
      refine ⟨madeCells z.cells (q.toNat * i.size), e, q.toNat, ?_, by simp, by rw [size_madeCells, h4], ?_⟩
      · simp only [execOp, ho, e1, e2, Sem.run_bind, run_make w t e i z hu h1 h2 k1 k2 q q c0 (Int.le_refl _) c2 c3, Result.andThen_ok, Sem.run_pure, List.length_replicate]
      · intro i' e' hi' j x hj
        simp only [List.getElem?_replicate] at hi'
        split at hi'
        · rename_i hlt
          cases hi'
          have hj' := (List.getElem?_eq_some_iff.1 hj).1
          have hsz : z.cells.size = zs.length := by rw [← h3]; simp
          have hlt2 : i' * zs.length + j < q.toNat * zs.length := by
            have : (i' + 1) * zs.length ≤ q.toNat * zs.length := Nat.mul_le_mul_right _ hlt
            rw [Nat.add_mul] at this; omega
          have hmod : (i' * zs.length + j) % zs.length = j := by rw [Nat.mul_comm, Nat.mul_add_mod]; exact Nat.mod_eq_of_lt hj'
          have hx : z.cells[j]? = some x := by rw [← h3] at hj; simpa using hj
          have hjz : j < z.cells.size := by rw [hsz]; exact hj'
          simp only [madeCells, h4, Array.getElem?_map, Array.getElem?_range, hlt2, if_true, Option.map_some, hsz, hmod]
          rw [getElem!_pos z.cells j hjz]
          rw [Array.getElem?_eq_getElem hjz] at hx
          exact hx
        · cases hi'
  · cases he

end Go.Eng
