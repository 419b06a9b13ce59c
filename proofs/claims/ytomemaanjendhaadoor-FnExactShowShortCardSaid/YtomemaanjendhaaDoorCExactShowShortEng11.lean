/- What is proved: slices built of their elements, the check of a pointer, the least and the greatest of two numbers, bytes turned into a string, sets of numbers by a map, as the engine reckons them. Each theorem bears the operation's own side condition. -/
import Derived.Test.YtomemaanjendhaaDoorCExactShowShortEng10
import Derived.MapKept
import Derived.MapFrom
set_option linter.unusedVariables false
set_option linter.unusedSimpArgs false
namespace Go.Eng
open Go

variable {P : Program} {s : S} {o : Oper} {ev : Ev}

/-! ### slices built -/
theorem foldl_set (off : Nat) : ∀ (vs : List Value) (j0 : Nat) (D : Array Value),
    ((vs.zipIdx j0).foldl (fun cs p => cs.setIfInBounds (off + p.2) p.1) D).size = D.size ∧
    ∀ q, ((vs.zipIdx j0).foldl (fun cs p => cs.setIfInBounds (off + p.2) p.1) D)[q]? = if off + j0 ≤ q ∧ q < off + j0 + vs.length ∧ q < D.size then vs[q - (off + j0)]? else D[q]?
  | [], j0, D => by simp; omega
  | v :: vs, j0, D => by
    obtain ⟨h1, h2⟩ := foldl_set off vs (j0 + 1) (D.setIfInBounds (off + j0) v)
    simp only [List.zipIdx_cons, List.foldl_cons]
    refine ⟨by rw [h1]; simp, fun q => ?_⟩
    rw [h2]
    simp only [Array.size_setIfInBounds, List.length_cons]
    by_cases hq : q = off + j0
    · subst hq
      rw [if_neg (by omega)]
      by_cases hl : off + j0 < D.size
      · rw [if_pos (by omega)]
        simp [hl]
      · rw [if_neg (by omega)]
        simp [hl]
    · by_cases hc : off + j0 ≤ q ∧ q < off + j0 + (vs.length + 1) ∧ q < D.size
      · rw [if_pos (by omega), if_pos hc]
        rw [show q - (off + j0) = (q - (off + (j0 + 1))) + 1 by omega]
        simp
      · rw [if_neg (by omega), if_neg hc]
        rw [Array.getElem?_setIfInBounds_ne (Ne.symm hq)]

theorem fill_spec (sz : Nat) : ∀ (vs : List (Nat × Value)) (i : Nat) (els : List (List Value)) (D : Array Value), vs.length = els.length →
    (∀ (r : Nat) p e, vs[r]? = some p → els[r]? = some e → p.1 = i + r ∧ p.2.cells.toList = e ∧ e.length = sz) → (i + els.length) * sz ≤ D.size →
    ∃ F, Instr.fill (fun i => some (i * sz, sz)) D vs = some F ∧ F.size = D.size ∧ (∀ q, q < i * sz → F[q]? = D[q]?) ∧ ∀ (r : Nat) e, els[r]? = some e → ∀ j x, e[j]? = some x → F[(i + r) * sz + j]? = some x
  | [], i, els, D, hl, _, _ => by
    have : els = [] := List.eq_nil_of_length_eq_zero (by simpa using hl.symm)
    subst this
    exact ⟨D, rfl, rfl, fun _ _ => rfl, by simp⟩
  | p :: vs, i, [], D, hl, _, _ => by simp at hl
  | (i', v) :: vs, i, e :: els, D, hl, h, hfit => by
    obtain ⟨h1, h2, h3⟩ := h 0 _ _ rfl rfl
    simp only [Nat.add_zero] at h1
    subst h1
    simp only at h2
    have hsz : v.cells.size = sz := by rw [← h3, ← h2]; simp
    have hroom : i' * sz + sz ≤ D.size := by
      have : (i' + 1) * sz ≤ (i' + (e :: els).length) * sz := Nat.mul_le_mul_right _ (by simp)
      rw [Nat.add_mul] at this; omega
    obtain ⟨g1, g2⟩ := foldl_set (i' * sz) v.cells.toList 0 D
    have hfold : (v.cells.zipIdx.foldl (fun cs p => cs.setIfInBounds (i' * sz + p.2) p.1) D) = ((v.cells.toList.zipIdx 0).foldl (fun cs p => cs.setIfInBounds (i' * sz + p.2) p.1) D) := by
      rw [← Array.foldl_toList, Array.toList_zipIdx]
    obtain ⟨F, f1, f2, f3, f4⟩ := fill_spec sz vs (i' + 1) els ((v.cells.toList.zipIdx 0).foldl (fun cs p => cs.setIfInBounds (i' * sz + p.2) p.1) D) (by simpa using hl)
      (fun r p e' hp he => by have := h (r + 1) p e' (by simpa using hp) (by simpa using he); rwa [show i' + (r + 1) = i' + 1 + r by omega] at this) (by rw [g1]; simp at hfit; rw [show i' + 1 + els.length = i' + (els.length + 1) by omega]; exact hfit)
    refine ⟨F, ?_, by rw [f2, g1], fun q hq => ?_, fun r e' hr j x hj => ?_⟩
    · simp only [Instr.fill]
      have hc : ¬ (v.cells.size ≠ sz ∨ i' * sz + v.cells.size > D.size) := by omega
      have hc2 : (decide (v.cells.size ≠ sz) || decide (i' * sz + v.cells.size > D.size)) = false := by simp; omega
      rw [hc2]
      simp only [Bool.false_eq_true, if_false]
      rw [← f1, ← hfold]
    · rw [f3 q (by rw [Nat.add_mul]; omega), g2, if_neg (by omega)]
    · cases r with
      | zero =>
        simp at hr; subst hr
        have hjl := (List.getElem?_eq_some_iff.1 hj).1
        rw [Nat.add_zero, f3 _ (by rw [Nat.add_mul]; omega), g2, if_pos (by rw [h2]; omega)]
        rw [h2, ← hj]; congr 1; omega
      | succ r =>
        have := f4 r e' (by simpa using hr) j x hj
        rwa [show i' + (r + 1) = i' + 1 + r by omega]

def partEls (sz : Nat) : Nat → List (Nat × AV) → Option (List (List Value))
  | _, [] => some []
  | i, (j, x) :: r => bif Nat.beq i j then
    match x.cells with
    | some ds => match toVals ds, partEls sz (i + 1) r with
      | some vs, some es => bif Nat.beq vs.length sz then some (vs :: es) else none
      | _, _ => none
    | none => none
    else none

theorem partEls_spec {X : Env} {N : Nat} {m : Nat → Option Loc} {a : Act} {w : World} (hr : Rel X N s m a w) {sz : Nat} : ∀ (parts : List (Nat × Operand)) (i : Nat) (es : List (List Value)), partEls sz i (parts.map fun p => (p.1, evO s p.2)) = some es →
    parts.length = es.length ∧ OkEls sz es ∧ ∀ (r : Nat) p e, (parts.map fun p => (p.1, a.eval p.2))[r]? = some p → es[r]? = some e → p.1 = i + r ∧ p.2.cells.toList = e ∧ e.length = sz
  | [], i, es, h => by simp [partEls] at h; subst h; exact ⟨rfl, (fun e he => by cases he), by simp⟩
  | (j, x) :: parts, i, es, h => by
    simp only [List.map_cons, partEls] at h
    cases hb : Nat.beq i j with
    | false => simp [hb] at h
    | true =>
      have hij := Nat.eq_of_beq_eq_true hb
      subst hij
      simp only [hb, cond_true] at h
      split at h
      · rename_i ds hds
        split at h
        · rename_i vs es' hvs hes
          cases hl : Nat.beq vs.length sz with
          | false => simp [hl] at h
          | true =>
            have hl' := Nat.eq_of_beq_eq_true hl
            simp only [hl, cond_true, Option.some.injEq] at h
            subst h
            obtain ⟨r1, r2, r3⟩ := partEls_spec hr parts (i + 1) es' hes
            obtain ⟨C, c1, c2⟩ := AV.cells_spec hds (hr.eval x)
            obtain ⟨rfl, c3⟩ := toVals_spec hvs c2
            refine ⟨by simp [r1], ?_, ?_⟩
            · intro e he
              rcases List.mem_cons.1 he with rfl | he
              · exact ⟨hl', c3⟩
              · exact r2 e he
            · intro r p e hp he
              cases r with
              | zero =>
                simp at hp he
                subst hp; subst he
                exact ⟨by simp, by simp [c1], hl'⟩
              | succ r =>
                obtain ⟨q1, q2, q3⟩ := r3 r p e (by simpa using hp) (by simpa using he)
                exact ⟨by omega, q2, q3⟩
        · cases h
      · cases h

def evBuildSlice (sz nk len : Nat) (parts : List (Nat × AV)) : Option Ev :=
  match partEls sz 0 parts with
  | some es => bif Nat.beq es.length len && Nat.ble (len * sz) 16777216 then some ⟨.sl nk 0 es.length, [(nk, .arr sz es)], [nk], none⟩ else none
  | none => none

theorem snd_buildSlice {nin nk len : Nat} {t e : TypeId} {sz : Nat} {parts : Array (Nat × Operand)} {zs : List Value} (ho : o.op = .buildSlice t len parts) (ht : elemOfT P t = some (e, sz)) (hz : zeroCs P e = some zs)
    (he : evBuildSlice sz nk len (parts.toList.map fun p => (p.1, evO s p.2)) = some ev) : Sound P nin o s ev := by
  unfold evBuildSlice at he
  split at he
  · rename_i es hes
    cases hb : (Nat.beq es.length len && Nat.ble (len * sz) 16777216) with
    | false => simp [hb] at he
    | true =>
      simp only [hb, cond_true] at he
      cases he
      simp only [Bool.and_eq_true] at hb
      have hlen := Nat.eq_of_beq_eq_true hb.1
      have hle := Nat.le_of_ble_eq_true hb.2
      obtain ⟨hu, inf, hi, hsz⟩ := elemOfT_spec ht
      obtain ⟨i, z, h1, h2, h3, h4, h5⟩ := zeroCs_spec hz
      rw [hi] at h1; cases h1
      subst hsz
      have hok : OkEls inf.size es := by
        intro e' he'
        have hget : ∀ (X : Env) (N : Nat) (m : Nat → Option Loc) (a : Act) (w : World), Rel X N s m a w → OkEls inf.size es := fun X N m a w hr => (partEls_spec hr _ _ _ hes).2.1
        have aux : ∀ (parts : List (Nat × AV)) (i : Nat) (es : List (List Value)), partEls inf.size i parts = some es → OkEls inf.size es := by
          intro parts
          induction parts with
          | nil => intro i es h; simp [partEls] at h; subst h; exact fun e he => by cases he
          | cons p parts ih =>
            intro i es h
            obtain ⟨j, x⟩ := p
            simp only [partEls] at h
            cases hb : Nat.beq i j with
            | false => simp [hb] at h
            | true =>
              simp only [hb, cond_true] at h
              split at h
              · rename_i ds hds
                split at h
                · rename_i vs es' hvs hes'
                  cases hl : Nat.beq vs.length inf.size with
                  | false => simp [hl] at h
                  | true =>
                    simp only [hl, cond_true, Option.some.injEq] at h
                    subst h
                    intro e he
                    rcases List.mem_cons.1 he with rfl | he
                    · refine ⟨Nat.eq_of_beq_eq_true hl, ?_⟩
                      have one : ∀ (ds : List AV) (vs : List Value), toVals ds = some vs → ∀ x ∈ vs, x.oneCell' = true := by
                        intro ds
                        induction ds with
                        | nil => intro vs h; simp [toVals] at h; subst h; simp
                        | cons d ds ihd =>
                          intro vs h
                          cases d with
                          | v x =>
                           simp only [toVals] at h
                           split at h
                           · rename_i ys hy
                             cases hx : x.oneCell' with
                             | false => simp [hx] at h
                             | true =>
                              simp only [hx, cond_true, Option.some.injEq] at h
                              subst h
                              intro z hz
                              rcases List.mem_cons.1 hz with rfl | hz
                              · exact hx
                              · exact ihd ys hy z hz
                           · cases h
                          | _ => simp [toVals] at h
                      exact one ds _ hvs
                    · exact ih (i + 1) es' hes' e he
                · cases h
              · cases h
        exact aux _ _ _ hes e' he'
      refine snd_newArr fun _ => ⟨hok, fun X N m a w hr => ?_⟩
      obtain ⟨r1, _, r3⟩ := partEls_spec hr _ _ _ hes
      have hzs : z.cells.size = inf.size := by rw [h4, ← h3]; simp
      have hD : ((Array.range (len * inf.size)).map (z.cells[· % z.cells.size]!)).size = len * inf.size := by simp
      obtain ⟨F, f1, f2, _, f4⟩ := fill_spec inf.size (parts.toList.map fun p => (p.1, a.eval p.2)) 0 es ((Array.range (len * inf.size)).map (z.cells[· % z.cells.size]!)) (by simpa using r1) (by simpa using r3) (by rw [hD, Nat.zero_add, hlen]; exact Nat.le_refl _)
      refine ⟨F, e, len, ?_, by omega, by rw [f2, hD], fun i e' hi' j x hj => by simpa using f4 i e' hi' j x hj⟩
      have hng : ¬ (16777216 < len * inf.size) := by omega
      have hparts : (parts.map fun p => (p.1, a.eval p.2)).toList = parts.toList.map fun p => (p.1, a.eval p.2) := by simp
      have hrun : (Instr.buildSlice t len (parts.map fun p => (p.1, a.eval p.2))).run P w = .ok (.slice (some ⟨w.heap.size, 0, none⟩) len len) (w.alloc (.cells F e)) := by
        by_cases h0 : len * inf.size = 0
        · have hm0 : ∀ f : Nat → Value, (Array.range 0).map f = #[] := fun f => by rw [Array.range_zero', List.map_toArray, List.map_nil]
          have hD0 : (Array.range (len * inf.size)).map (z.cells[· % z.cells.size]!) = #[] := by rw [h0]; exact hm0 _
          rw [hD0] at f1
          simp [Instr.buildSlice, run_underlying hu, sizeOf, typeInfo, hi, h0, hm0, f1, newRow]
        · simp [Instr.buildSlice, run_underlying hu, sizeOf, typeInfo, hi, zeroValue, h2, hng, h0, f1, newRow]
      simp only [execOp, ho]
      rw [Sem.run_bind]
      have hrun' := hrun
      rw [show (parts.map fun (x : Nat × Operand) => match x with | (i, x) => (i, a.eval x)) = parts.map fun p => (p.1, a.eval p.2) from rfl, hrun']
      simp [hlen]
  · cases he

/-! ### a slice cleared -/
def evClear (sz : Nat) (zs : List Value) (O : Nat → AO) (x : AV) : Option Ev :=
  match x with
  | .sl k lo len => match O k with
    | .arr sz' es => bif Nat.beq sz' sz then some ⟨.tup [], [(k, .arr sz' (es.take lo ++ List.replicate len zs ++ es.drop (lo + len)))], [], none⟩ else none
    | _ => none
  | _ => none

theorem snd_clear {nin : Nat} {t e : TypeId} {sz : Nat} {x : Operand} (ho : o.op = .call { callee := .builtin .clear, args := #[x], argTypes := #[t] })
    (ht : elemOfT P t = some (e, sz)) {zs : List Value} (hz : zeroCs P e = some zs) (he : evClear sz zs s.O (evO s x) = some ev) : Sound P nin o s ev := by
  unfold evClear at he
  split at he
  · rename_i k lo len hx
    split at he
    · rename_i sz' es hO
      cases hb : Nat.beq sz' sz with
      | false => simp [hb] at he
      | true =>
        simp only [hb, cond_true] at he
        have := Nat.eq_of_beq_eq_true hb
        subst this
        cases he
        obtain ⟨hu, inf, hi, hsz⟩ := elemOfT_spec ht
        obtain ⟨i, z, h1, h2, h3, h4, h5⟩ := zeroCs_spec hz
        rw [hi] at h1; cases h1
        subst h3
        intro X N m a w K Q hn hr hd _ _ hK
        have e1 := hr.eval x
        rw [hx] at e1
        have hsh : s.sh k = .arr sz' es.length := by simp [S.sh, hO, AO.sh]
        simp only [VR, hsh] at e1
        obtain ⟨hle, ad, cap, hv, hcap, hrest⟩ := e1
        have ob := hr.obj k
        unfold HR at ob
        simp only [hO] at ob
        obtain ⟨hok, hob⟩ := ob
        have hzl : z.cells.toList.length = sz' := by rw [← hsz, h4]
        have hlr : ∀ e ∈ List.replicate len z.cells.toList, e.length = sz' := fun e he => by rw [List.eq_of_mem_replicate he]; exact hzl
        have hokr : OkEls sz' (List.replicate len z.cells.toList) := fun e he => ⟨hlr e he, fun x hx => h5 x (by rw [← List.eq_of_mem_replicate he]; exact hx)⟩
        have hok' : OkEls sz' (es.take lo ++ List.replicate len z.cells.toList ++ es.drop (lo + len)) := fun e he => by
          simp only [List.mem_append] at he
          rcases he with (he | he) | he
          · exact hok e (List.mem_of_mem_take he)
          · exact hokr e he
          · exact hok e (List.mem_of_mem_drop he)
        have hnl : (es.take lo ++ List.replicate len z.cells.toList ++ es.drop (lo + len)).length = es.length := by simp; omega
        have fin : ∀ (w' : World), (Builtin.clear_ #[t] o.type #[a.eval x]).run P w = .ok (.tuple #[]) w' → Rel X N (s.setO k (.arr sz' (es.take lo ++ List.replicate len z.cells.toList ++ es.drop (lo + len)))) m a w' → o.wp P a w K Q := by
          intro w' hrun hrel
          have hex : (execOp a.eval o).run P w = .ok (.value (.tuple #[])) w' := by
            simp only [execOp, ho, resolve, invoke, builtin, Sem.run_bind, Sem.run_pure, Result.andThen_ok, List.map_toArray, List.map_cons, List.map_nil, hrun]
          refine wp_of_value hex (hK m _ w' ?_)
          unfold Ev.ap Ev.hp
          simp only [List.foldl_cons, List.foldl_nil]
          cases hdst : o.dst with
          | none => exact hrel
          | some d => exact hrel.putV (hd d hdst) (by simp only [VR, VRs]; exact ⟨[], rfl, rfl⟩)
        by_cases h0 : len = 0
        · subst h0
          have hsame : es.take lo ++ List.replicate 0 z.cells.toList ++ es.drop (lo + 0) = es := by simp
          rw [hsame] at fin
          refine fin w ?_ ?_
          · cases ad with
            | none => simp [Builtin.clear_, run_underlying hu, hv]
            | some p => simp [Builtin.clear_, run_underlying hu, hv]
          · have hOO : (s.setO k (.arr sz' es)).O = s.O := by
              funext i
              rw [S.O_setO]
              split
              · rename_i h; subst h; exact hO.symm
              · rfl
            have hss : (s.setO k (.arr sz' es)).sh = s.sh := by funext i; simp only [S.sh, hOO]
            exact ⟨hr.size, hr.defers, (fun t => by rw [hss]; exact hr.slot t), (fun i => by rw [hOO]; exact hr.obj i), (by rw [hss]; exact hr.dist), (by rw [hss]; exact hr.keep), hr.fr⟩
        · obtain ⟨L, hm, had, htot⟩ : ∃ L, m k = some L ∧ ad = some ⟨L.b, L.off + lo * sz', none⟩ ∧ L.off + lo * sz' + cap * sz' ≤ L.tot := by
            rcases hrest with h | h
            · omega
            · exact h
          obtain ⟨hnone, _⟩ | ⟨L', C, E, hm', hh, hCs, hfit, hcell, hown⟩ := hob
          · rw [hm] at hnone; cases hnone
          · rw [hm] at hm'; cases hm'
            subst had
            have hfl := flat_length _ hlr
            rw [List.length_replicate] at hfl
            have hlc : len * sz' ≤ cap * sz' := Nat.mul_le_mul_right _ hcap
            have hroom : L.off + lo * sz' + len * sz' ≤ C.size := by omega
            have hst := run_storeCells_at P L.b (L.off + lo * sz') E (List.replicate len z.cells.toList).flatten 0 C w hh (by rw [hfl]; simpa using hroom) (mem_flat fun e he => (hokr e he).2)
            simp only [Nat.add_zero] at hst
            have hz2 := zeroCells_flat z.cells len
            refine fin (w.setRow L.b (C.toList.take (L.off + lo * sz') ++ (List.replicate len z.cells.toList).flatten ++ C.toList.drop (L.off + lo * sz' + (List.replicate len z.cells.toList).flatten.length)).toArray) ?_ ?_
            · simp [Builtin.clear_, run_underlying hu, hv, h0, zeroValue, typeInfo, hi, h2, hz2, hst]
            · refine hr.modify (.arr sz' (es.take lo ++ List.replicate len z.cells.toList ++ es.drop (lo + len))) (by rw [hsh]; simp only [AO.sh, hnl]) (by rw [hsh]; simp) hm (fun b hb => setRow_other w L.b b _ hb) rfl rfl rfl (by simp) ?_
              unfold HR
              rw [S.O_setO, if_pos rfl]
              refine ⟨hok', .inr ⟨L, _, E, hm, setRow_heap w L.b C _ E (0, 0) hh, ?_, ?_, ?_, hown⟩⟩
              · simp only [List.size_toArray, List.length_append, List.length_take, List.length_drop, Array.length_toList]; omega
              · rw [hnl]; exact hfit
              · intro i e' hi' j y hj
                simp only [List.getElem?_toArray]
                rw [get_mid C.toList (List.replicate len z.cells.toList).flatten _ (List.replicate len z.cells.toList).flatten.length rfl (by rw [hfl]; simpa using hroom), hfl]
                have hjl := (List.getElem?_eq_some_iff.1 hj).1
                have hel := (hok' _ (List.mem_of_getElem? hi')).1
                rw [get_mid es (List.replicate len z.cells.toList) lo len (by simp) hle] at hi'
                split at hi'
                · rename_i hin
                  have a1 : lo * sz' ≤ i * sz' := Nat.mul_le_mul_right _ hin.1
                  have a2 : (i + 1) * sz' ≤ (lo + len) * sz' := Nat.mul_le_mul_right _ hin.2
                  rw [Nat.add_mul, Nat.add_mul] at a2
                  have a3 : i * sz' = lo * sz' + (i - lo) * sz' := by rw [← Nat.add_mul]; congr 1; omega
                  rw [if_pos (by omega)]
                  have := flat_get _ hlr (i - lo) e' hi' j y hj
                  rw [← this]; congr 1; omega
                · rename_i hout
                  have := hcell i e' hi' j y hj
                  rw [if_neg]
                  · simpa using this
                  · rcases Nat.lt_or_ge i lo with h | h
                    · have : (i + 1) * sz' ≤ lo * sz' := Nat.mul_le_mul_right _ h
                      rw [Nat.add_mul] at this; omega
                    · have : (lo + len) * sz' ≤ i * sz' := Nat.mul_le_mul_right _ (by omega)
                      rw [Nat.add_mul] at this; omega
    · cases he
  · cases he

/-! ### sets of numbers, as maps -/
def isMapT (P : Program) (t : TypeId) : Bool :=
  match P.underlying t with
  | some (.map kt et) => match P.underlying kt, P.info? et with
    | some (.int .i64), some i => match i.zero with
      | some (.bool false) => true
      | _ => false
    | _, _ => false
  | _ => false

theorem isMapT_spec {t : TypeId} (h : isMapT P t = true) : ∃ kt et i, P.underlying t = some (.map kt et) ∧ P.underlying kt = some (.int .i64) ∧ P.info? et = some i ∧ i.zero = some (.bool false) := by
  unfold isMapT at h
  split at h
  · rename_i kt et h1
    split at h
    · rename_i i h2 h3
      split at h
      · rename_i h4; exact ⟨kt, et, i, h1, h2, h3, h4⟩
      · cases h
    · cases h
  · cases h

def evMakeMap (nk : Nat) : Ev := ⟨.mp nk, [(nk, .map [])], [nk], none⟩

theorem snd_makeMap {nin nk : Nat} {t : TypeId} (ho : o.op = .makeMap t none) : Sound P nin o s (evMakeMap nk) := by
  intro X N m a w K Q hn hr hd hfr hc hK
  obtain ⟨hk, hfr⟩ := hfr nk (List.mem_singleton.2 rfl)
  have hr' := hr.fresh (k := nk) (.map []) (.map #[] 0) 0 0 (by omega) hfr (by
    unfold HR
    rw [S.O_setO, if_pos rfl]
    exact ⟨⟨w.heap.size, 0, 0⟩, #[], 0, by simp, heap_alloc_new w _, (fun e he => by simp at he), (fun n hn => by simp at hn), .inl hr.fr.size⟩)
  have hex : (execOp a.eval o).run P w = .ok (.value (.map (some w.heap.size))) (w.alloc (.map #[] 0)) := by
    simp [execOp, ho, Instr.makeMap]
  refine wp_of_value hex (hK (fun i => if i = nk then some ⟨w.heap.size, 0, 0⟩ else m i) _ _ ?_)
  have hv : VR X (fun i => if i = nk then some ⟨w.heap.size, 0, 0⟩ else m i) (s.setO nk (.map [])).sh (.mp nk) (.map (some w.heap.size)) := by
    simp only [VR]
    rw [S.sh_setO, if_pos rfl]
    exact ⟨⟨w.heap.size, 0, 0⟩, by simp, rfl⟩
  unfold Ev.ap Ev.hp
  cases hdst : o.dst with
  | none => exact hr'
  | some d => exact hr'.putV (hd d hdst) hv

def evMapUpdate (O : Nat → AO) (m k x : AV) : Option Ev :=
  match m, k, x with
  | .mp i, .v (.int .i64 n), .v (.bool true) => match O i with
    | .map ks => some ⟨.any, [(i, .map (ks ++ [n]))], [], none⟩
    | _ => none
  | _, _, _ => none

theorem map_mem {es : Array MapEntry} {ks : List Int} (h1 : ∀ e ∈ es, ∃ n, e.key = .int .i64 n ∧ e.val = .bool true ∧ n ∈ ks) : ∀ x ∈ es.toList, MapKept.IsKey (.int .i64) x.key := fun x hx => by
  obtain ⟨n, h, _⟩ := h1 x (by simpa using hx)
  rw [h]; rfl

theorem snd_mapUpdate {nin : Nat} {t : TypeId} {m k x : Operand} (ho : o.op = .mapUpdate t m k x) (hdst : o.dst = none) (ht : isMapT P t = true) (he : evMapUpdate s.O (evO s m) (evO s k) (evO s x) = some ev) : Sound P nin o s ev := by
  unfold evMapUpdate at he
  split at he
  · rename_i i n hm hk hx
    split at he
    · rename_i ks hO
      cases he
      obtain ⟨kt, et, inf, u1, u2, u3, u4⟩ := isMapT_spec ht
      intro X N mm a w K Q _ hr hd _ _ hK
      have e1 := hr.eval m
      have e2 := hr.eval k
      have e3 := hr.eval x
      rw [hm] at e1; rw [hk] at e2; rw [hx] at e3
      have hsh : s.sh i = .map := by simp [S.sh, hO, AO.sh]
      simp only [VR, hsh] at e1
      simp only [VR] at e2 e3
      obtain ⟨L, hL, e1⟩ := e1
      have ob := hr.obj i
      unfold HR at ob
      simp only [hO] at ob
      obtain ⟨L', es, clock, hL', hh, g1, g2, hown⟩ := ob
      rw [hL] at hL'; cases hL'
      have hks := map_mem g1
      have hkey : MapKept.IsKey (.int .i64) (.int .i64 n) := rfl
      have fin : ∀ (es' : Array MapEntry) (clock' : Nat), (Instr.mapUpdate t (a.eval m) (a.eval k) (a.eval x)).run P w = .ok () { w with heap := w.heap.setIfInBounds L.b (.map es' clock') } →
          (∀ e ∈ es', ∃ n', e.key = .int .i64 n' ∧ e.val = .bool true ∧ n' ∈ ks ++ [n]) → (∀ n' ∈ ks ++ [n], ∃ e ∈ es', e.key = .int .i64 n') → o.wp P a w K Q := by
        intro es' clock' hrun q1 q2
        have hex : (execOp a.eval o).run P w = .ok .skip { w with heap := w.heap.setIfInBounds L.b (.map es' clock') } := by
          simp only [execOp, ho, Sem.run_bind, hrun, Result.andThen_ok, Sem.run_pure]
        refine wp_of_skip hex (hK mm _ _ ?_)
        have hset := MapKept.heap_set (w := w) (o' := .map es' clock') hh
        have hr' := hr.modify (w' := { w with heap := w.heap.setIfInBounds L.b (.map es' clock') }) (.map (ks ++ [n])) (by rw [hsh]; rfl) (by rw [hsh]; simp) hL (fun b hb => hset.2 b hb) rfl rfl rfl (by simp) (by
          unfold HR
          rw [S.O_setO, if_pos rfl]
          exact ⟨L, es', clock', hL, hset.1, q1, q2, hown⟩)
        unfold Ev.ap Ev.hp
        rw [hdst]
        exact hr'
      rcases MapKept.findNow_spec hkey es.toList 0 hks with ⟨h1, h2⟩ | ⟨j, e, h1, h2, h3⟩
      · refine fin (es.push { key := .int .i64 n, val := .bool true, born := clock }) (clock + 1) ?_ ?_ ?_
        · simp [Instr.mapUpdate, e1, e2, e3, run_underlying u1, MapKept.run_getObj_map hh, MapKept.run_checkKey u2 hkey, MapKept.run_findKey u2 h1, MapKept.run_setObj_map _ hh]
        · intro e he
          rcases Array.mem_push.1 he with he | rfl
          · obtain ⟨n', r1, r2, r3⟩ := g1 e he
            exact ⟨n', r1, r2, List.mem_append_left _ r3⟩
          · exact ⟨n, rfl, rfl, by simp⟩
        · intro n' hn'
          rcases List.mem_append.1 hn' with hn' | hn'
          · obtain ⟨e, he, r⟩ := g2 n' hn'
            exact ⟨e, Array.mem_push.2 (.inl he), r⟩
          · rw [List.mem_singleton.1 hn']
            exact ⟨_, Array.mem_push.2 (.inr rfl), rfl⟩
      · have hj : es[j]? = some e := by simpa using h2
        have hmod : ∀ x, x ∈ es.modify j (fun e => { e with key := .int .i64 n, val := .bool true }) → x ∈ es ∨ x = { e with key := .int .i64 n, val := .bool true } := fun x hx => by
          rcases MapFrom.mem_modify (Array.mem_toList_iff.2 hx) with h | ⟨e', h, rfl⟩
          · exact .inl (by simpa using h)
          · rw [hj] at h; cases h; exact .inr rfl
        refine fin (es.modify j (fun e => { e with key := .int .i64 n, val := .bool true })) clock ?_ ?_ ?_
        · simp [Instr.mapUpdate, e1, e2, e3, run_underlying u1, MapKept.run_getObj_map hh, MapKept.run_checkKey u2 hkey, MapKept.run_findKey u2 h1, hj, h3, MapKept.run_keyThatStays hkey, MapKept.run_setObj_map _ hh]
        · intro x hx
          rcases hmod x hx with hx | rfl
          · obtain ⟨n', r1, r2, r3⟩ := g1 x hx
            exact ⟨n', r1, r2, List.mem_append_left _ r3⟩
          · exact ⟨n, rfl, rfl, by simp⟩
        · have keys : ∀ (q : Nat) (e' : MapEntry), es[q]? = some e' → ∃ e'' ∈ es.modify j (fun e => { e with key := .int .i64 n, val := .bool true }), e''.key = e'.key := fun q e' hq => by
            have hget : (es.modify j (fun e => { e with key := .int .i64 n, val := .bool true }))[q]? = some (if j = q then { e' with key := .int .i64 n, val := .bool true } else e') := by
              rw [Array.getElem?_modify, hq]
              split <;> simp
            refine ⟨_, Array.mem_of_getElem? hget, ?_⟩
            split
            · rename_i hjq; subst hjq
              rw [hj] at hq; cases hq; exact h3.symm
            · rfl
          intro n' hn'
          rcases List.mem_append.1 hn' with hn' | hn'
          · obtain ⟨e', he', r⟩ := g2 n' hn'
            obtain ⟨q, hq⟩ := Array.getElem?_of_mem he'
            obtain ⟨e'', w1, w2⟩ := keys q e' hq
            exact ⟨e'', w1, w2.trans r⟩
          · rw [List.mem_singleton.1 hn']
            obtain ⟨e'', w1, w2⟩ := keys j e hj
            exact ⟨e'', w1, w2.trans h3⟩
    · cases he
  · cases he

def evLookup (O : Nat → AO) (m k : AV) : Option Ev :=
  match m, k with
  | .bm ks, .v (.int .i64 n) => some ⟨.v (.bool (ks.any fun x => decide (x = n))), [], [], none⟩
  | .mp i, .v (.int .i64 n) => match O i with
    | .map ks => some ⟨.v (.bool (ks.any fun x => decide (x = n))), [], [], none⟩
    | _ => none
  | _, _ => none

theorem run_lookup {t kt et : TypeId} {inf : TypeInfo} (u1 : P.underlying t = some (.map kt et)) (u2 : P.underlying kt = some (.int .i64)) (u3 : P.info? et = some inf) (u4 : inf.zero = some (.bool false)) {w : World} {b : Nat} {es : Array MapEntry} {clock : Nat} (hh : w.heap[b]? = some (.map es clock)) {ks : List Int} {n : Int}
    (g1 : ∀ e ∈ es, ∃ n, e.key = .int .i64 n ∧ e.val = .bool true ∧ n ∈ ks) (g2 : ∀ n ∈ ks, ∃ e ∈ es, e.key = .int .i64 n) : (Instr.lookup t (.map (some b)) (.int .i64 n) false).run P w = .ok (.bool (ks.any fun x => decide (x = n))) w := by
  have hks := map_mem g1
  have hkey : MapKept.IsKey (.int .i64) (.int .i64 n) := rfl
  rcases MapKept.findNow_spec hkey es.toList 0 hks with ⟨h1, h2⟩ | ⟨j, e, h1, h2, h3⟩
  · have hno : (ks.any fun x => decide (x = n)) = false := by
      rw [List.any_eq_false]
      intro x hx
      obtain ⟨e, he, r⟩ := g2 x hx
      have := h2 e (by simpa using he)
      rw [r] at this
      simp only [decide_eq_true_eq]
      rintro rfl
      exact this rfl
    rw [hno]
    simp [Instr.lookup, run_underlying u1, MapKept.run_getObj_map hh, MapKept.run_checkKey u2 hkey, MapKept.run_findKey u2 h1, zeroValue, typeInfo, u3, u4]
  · have hj : e ∈ es := Array.mem_of_getElem? (by simpa using h2)
    obtain ⟨n', r1, r2, r3⟩ := g1 e hj
    have hnn : n' = n := by rw [h3] at r1; cases r1; rfl
    have hyes : (ks.any fun x => decide (x = n)) = true := List.any_eq_true.2 ⟨n', r3, decide_eq_true hnn⟩
    rw [hyes]
    simp [Instr.lookup, run_underlying u1, MapKept.run_getObj_map hh, MapKept.run_checkKey u2 hkey, MapKept.run_findKey u2 h1, r2]

theorem snd_lookup {nin : Nat} {t : TypeId} {m k : Operand} (ho : o.op = .lookup t m k false) (ht : isMapT P t = true) (he : evLookup s.O (evO s m) (evO s k) = some ev) : Sound P nin o s ev := by
  obtain ⟨kt, et, inf, u1, u2, u3, u4⟩ := isMapT_spec ht
  unfold evLookup at he
  split at he
  · rename_i ks n hm hk
    cases he
    refine .val fun _ X N mm a w hr => ?_
    have e1 := hr.eval m
    have e2 := hr.eval k
    rw [hm] at e1; rw [hk] at e2
    simp only [VR] at e1 e2
    obtain ⟨b, es, clock, e1, hB, hh, g1, g2⟩ := e1
    refine ⟨.bool (ks.any fun x => decide (x = n)), ?_, by simp only [VR]⟩
    have hrun := run_lookup u1 u2 u3 u4 (n := n) (by rw [← hr.fr.at_B hB] at hh; exact hh) g1 g2
    simp only [execOp, ho, e1, e2, Sem.run_bind, hrun, Result.andThen_ok, Sem.run_pure]
  · rename_i i n hm hk
    split at he
    · rename_i ks hO
      cases he
      refine .val fun _ X N mm a w hr => ?_
      have e1 := hr.eval m
      have e2 := hr.eval k
      rw [hm] at e1; rw [hk] at e2
      have hsh : s.sh i = .map := by simp [S.sh, hO, AO.sh]
      simp only [VR, hsh] at e1
      simp only [VR] at e2
      obtain ⟨L, hL, e1⟩ := e1
      have ob := hr.obj i
      unfold HR at ob
      simp only [hO] at ob
      obtain ⟨L', es, clock, hL', hh, g1, g2, hown⟩ := ob
      rw [hL] at hL'; cases hL'
      refine ⟨.bool (ks.any fun x => decide (x = n)), ?_, by simp only [VR]⟩
      simp only [execOp, ho, e1, e2, Sem.run_bind, run_lookup u1 u2 u3 u4 (n := n) hh g1 g2, Result.andThen_ok, Sem.run_pure]
    · cases he
  · cases he

/-! ### a slice of slices, built -/
def evBuildSliceX (nk len : Nat) (zs : List Value) (parts : List (Nat × AV)) : Option Ev :=
  match zs with
  | [z] => match fillA (List.range len) (List.replicate len (.v z)) parts with
    | some cs => bif Nat.beq cs.length len && Nat.ble len 16777216 && Nat.blt 0 len then some ⟨.sx nk len, [(nk, .box cs)], [nk], none⟩ else none
    | none => none
  | _ => none

theorem fillA_names {offs : List Nat} {k : Nat} : ∀ (parts : List (Nat × AV)) (cs ds : List AV), fillA offs cs parts = some ds → AV.namesL k cs = false → (∀ p ∈ parts, p.2.names k = false) → AV.namesL k ds = false
  | [], cs, ds, h, hc, _ => by simp [fillA] at h; subst h; exact hc
  | (i, x) :: parts, cs, ds, h, hc, hp => by
    simp only [fillA] at h
    split at h
    · rename_i off hoff
      cases hb : (x.one && Nat.blt off cs.length) with
      | false => simp [hb] at h
      | true =>
        simp only [hb, cond_true] at h
        refine fillA_names parts _ _ h ?_ (fun p hp' => hp p (List.mem_cons_of_mem _ hp'))
        have hx := hp (i, x) (List.mem_cons_self ..)
        simp only at hx
        clear h hb hoff hp
        induction cs generalizing off with
        | nil => exact hc
        | cons c cs ih =>
          simp only [AV.namesL, Bool.or_eq_false_iff] at hc
          cases off with
          | zero => simp only [List.set_cons_zero, AV.namesL, Bool.or_eq_false_iff]; exact ⟨hx, hc.2⟩
          | succ off => simp only [List.set_cons_succ, AV.namesL, Bool.or_eq_false_iff]; exact ⟨hc.1, ih hc.2 off⟩
    · cases h

theorem namesL_rep (k : Nat) (z : Value) : ∀ n, AV.namesL k (List.replicate n (.v z)) = false
  | 0 => rfl
  | n + 1 => by simp only [List.replicate_succ, AV.namesL, Bool.or_eq_false_iff]; exact ⟨rfl, namesL_rep k z n⟩

theorem VRs_rep {X : Env} {m : Nat → Option Loc} {sh : Nat → Sh} (z : Value) : ∀ n, VRs X m sh (List.replicate n (.v z)) (List.replicate n z)
  | 0 => by simp only [List.replicate_zero, VRs]
  | n + 1 => by simp only [List.replicate_succ, VRs, VR]; exact ⟨z, _, rfl, rfl, VRs_rep z n⟩

theorem snd_buildSliceX {nin nk len : Nat} {t e : TypeId} {sz : Nat} {parts : Array (Nat × Operand)} {zs : List Value} (ho : o.op = .buildSlice t len parts) (ht : elemOfT P t = some (e, sz)) (hz : zeroCs P e = some zs)
    (he : evBuildSliceX nk len zs (parts.toList.map fun p => (p.1, evO s p.2)) = some ev) : Sound P nin o s ev := by
  unfold evBuildSliceX at he
  split at he
  · rename_i z0
    split at he
    · rename_i cs hcs
      cases hb : (Nat.beq cs.length len && Nat.ble len 16777216 && Nat.blt 0 len) with
      | false => simp [hb] at he
      | true =>
        simp only [hb, cond_true] at he
        cases he
        simp only [Bool.and_eq_true] at hb
        have hlen := Nat.eq_of_beq_eq_true hb.1.1
        have hle := Nat.le_of_ble_eq_true hb.1.2
        have hpos : 0 < len := Nat.le_of_ble_eq_true hb.2
        obtain ⟨hu, inf, hi, hsz⟩ := elemOfT_spec ht
        obtain ⟨i, z, h1, h2, h3, h4, h5⟩ := zeroCs_spec hz
        rw [hi] at h1; cases h1
        have hs1 : inf.size = 1 := by rw [h4]; rfl
        have hzc : z.cells = #[z0] := by rw [← h3]
        intro X N m a w K Q hn hr hd hfr hc hK
        obtain ⟨hk, hfr⟩ := hfr nk (List.mem_singleton.2 rfl)
        have hD : (Array.range (len * 1)).map (z.cells[· % z.cells.size]!) = (List.replicate len z0).toArray := by
          rw [hzc, Nat.mul_one]
          apply Array.ext'
          apply List.ext_getElem?
          intro q
          by_cases hq : q < len
          · simp [hq, Nat.mod_one]
          · simp [hq]
        obtain ⟨D, hfill, hv⟩ := fillA_spec (X := X) (m := m) (sh := s.sh) (List.range len) (fun i => some (i * 1, 1)) (fun i off h => by
            have h2 := List.getElem?_eq_some_iff.1 h
            obtain ⟨h3, h4⟩ := h2
            rw [List.getElem_range] at h4
            rw [Nat.mul_one, h4]) (parts.toList.map fun p => (p.1, evO s p.2)) (parts.toList.map fun p => (p.1, a.eval p.2)) (List.replicate len (.v z0)) cs (List.replicate len z0) (by simp) (fun j p q hp hq => by
            simp only [List.getElem?_map, Option.map_eq_some_iff] at hp hq
            obtain ⟨y, hy, rfl⟩ := hp
            obtain ⟨y', hy', rfl⟩ := hq
            rw [hy] at hy'; cases hy'
            exact ⟨rfl, hr.eval y.2⟩) (VRs_rep z0 len) hcs
        have hng : ¬ (16777216 < len * inf.size) := by rw [hs1]; omega
        have hne : ¬ (len * inf.size = 0) := by rw [hs1]; omega
        have hfr2 : AV.namesL nk cs = false := fillA_names _ _ _ hcs (namesL_rep nk z0 len) (fun p hp => by
          obtain ⟨y, _, rfl⟩ := List.mem_map.1 hp
          exact evO_free hfr y.2)
        have hr' := hr.fresh (k := nk) (.box cs) (.cells D.toArray e) 0 0 (by omega) hfr (by
          unfold HR
          rw [S.O_setO, if_pos rfl]
          refine ⟨⟨w.heap.size, 0, 0⟩, D.toArray, e, by simp, heap_alloc_new w _, ?_, .inl hr.fr.size⟩
          exact VRs_free hr hfr (.box cs) (some ⟨w.heap.size, 0, 0⟩) hfr2 hv)
        have hrun : (Instr.buildSlice t len (parts.map fun p => (p.1, a.eval p.2))).run P w = .ok (.slice (some ⟨w.heap.size, 0, none⟩) len len) (w.alloc (.cells D.toArray e)) := by
          rw [← hD] at hfill
          simp only [Nat.mul_one] at hfill
          have hng' : ¬ 16777216 < len := by omega
          have hl0 : ¬ len = 0 := by omega
          simp [Instr.buildSlice, run_underlying hu, sizeOf, typeInfo, hi, zeroValue, h2, hs1, hng', hl0, hfill, newRow]
        have hex : (execOp a.eval o).run P w = .ok (.value (.slice (some ⟨w.heap.size, 0, none⟩) len len)) (w.alloc (.cells D.toArray e)) := by
          simp only [execOp, ho]
          rw [Sem.run_bind]
          rw [show (parts.map fun (x : Nat × Operand) => match x with | (i, x) => (i, a.eval x)) = parts.map fun p => (p.1, a.eval p.2) from rfl, hrun]
          simp
        refine wp_of_value hex (hK (fun i => if i = nk then some ⟨w.heap.size, 0, 0⟩ else m i) _ _ ?_)
        have hvr : VR X (fun i => if i = nk then some ⟨w.heap.size, 0, 0⟩ else m i) (s.setO nk (.box cs)).sh (.sx nk len) (.slice (some ⟨w.heap.size, 0, none⟩) len len) := by
          simp only [VR]
          rw [S.sh_setO, if_pos rfl]
          exact ⟨hlen, ⟨w.heap.size, 0, 0⟩, by simp, rfl⟩
        unfold Ev.ap Ev.hp
        cases hdst : o.dst with
        | none => exact hr'
        | some d => exact hr'.putV (hd d hdst) hvr
    · cases he
  · cases he

end Go.Eng
