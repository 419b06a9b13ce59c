/- What is proved: stores, slices built of their elements, append, as the engine reckons them. Each theorem bears the operation's own side condition. -/
import Derived.Test.YtomemaanjendhaaDoorCExactShowShortEng8
set_option linter.unusedVariables false
set_option linter.unusedSimpArgs false
namespace Go.Eng
open Go

variable {P : Program} {s : S} {o : Oper} {ev : Ev}

/-! ### stores -/
def toVals : List AV → Option (List Value)
  | [] => some []
  | .v x :: r => match toVals r with
    | some xs => bif x.oneCell' then some (x :: xs) else none
    | none => none
  | _ => none

theorem toVals_spec {X : Env} {m : Nat → Option Loc} {sh : Nat → Sh} : ∀ {cs : List AV} {xs C : List Value}, toVals cs = some xs → VRs X m sh cs C → C = xs ∧ ∀ x ∈ xs, x.oneCell' = true
  | [], xs, C, h, hv => by simp [toVals] at h; subst h; simp only [VRs] at hv; exact ⟨hv, by simp⟩
  | .v x :: r, xs, C, h, hv => by
    simp only [toVals] at h
    split at h
    · rename_i ys hy
      cases hx : x.oneCell' with
      | false => simp [hx] at h
      | true =>
        simp only [hx, cond_true, Option.some.injEq] at h
        subst h
        simp only [VRs] at hv
        obtain ⟨y, zs, rfl, h1, h2⟩ := hv
        simp only [VR] at h1
        obtain ⟨rfl, h3⟩ := toVals_spec hy h2
        exact ⟨by rw [h1], fun z hz => by rcases List.mem_cons.1 hz with rfl | hz; exact hx; exact h3 z hz⟩
    · cases h
  | .agg _ :: r, xs, C, h, hv => by simp [toVals] at h
  | .tup _ :: r, xs, C, h, hv => by simp [toVals] at h
  | .bs _ _ _ :: r, xs, C, h, hv => by simp [toVals] at h
  | .bp _ _ :: r, xs, C, h, hv => by simp [toVals] at h
  | .sl _ _ _ :: r, xs, C, h, hv => by simp [toVals] at h
  | .pt _ _ :: r, xs, C, h, hv => by simp [toVals] at h
  | .pe _ _ _ :: r, xs, C, h, hv => by simp [toVals] at h
  | .be _ _ _ :: r, xs, C, h, hv => by simp [toVals] at h
  | .fn _ _ :: r, xs, C, h, hv => by simp [toVals] at h
  | .mp _ :: r, xs, C, h, hv => by simp [toVals] at h
  | .sx _ _ :: r, xs, C, h, hv => by simp [toVals] at h
  | .bx _ :: r, xs, C, h, hv => by simp [toVals] at h
  | .bm _ :: r, xs, C, h, hv => by simp [toVals] at h
  | .er _ :: r, xs, C, h, hv => by simp [toVals] at h
  | .any :: r, xs, C, h, hv => by simp [toVals] at h

theorem all_one {X : Env} {m : Nat → Option Loc} {sh : Nat → Sh} : ∀ {cs : List AV} {C : List Value}, (cs.all AV.one) = true → VRs X m sh cs C → ∀ x ∈ C, x.oneCell' = true
  | [], C, h, hv => by simp only [VRs] at hv; subst hv; simp
  | c :: cs, C, h, hv => by
    simp only [List.all_cons, Bool.and_eq_true] at h
    simp only [VRs] at hv
    obtain ⟨x, xs, rfl, h1, h2⟩ := hv
    intro y hy
    rcases List.mem_cons.1 hy with rfl | hy
    · exact VR_one h.1 h1
    · exact all_one h.2 h2 y hy

def evStore (n : Nat) (O : Nat → AO) (els : Option (List (List Value))) (p x : AV) : Option Ev :=
  match x.cells with
  | none => none
  | some ds => bif Nat.beq ds.length n && ds.all AV.one then
    match p with
    | .pt k off => match O k with
      | .box cs => bif Nat.ble (off + n) cs.length then some ⟨.any, [(k, .box (cs.take off ++ ds ++ cs.drop (off + n)))], [], none⟩ else none
      | _ => none
    | .pe k i off => match O k, toVals ds with
      | .arr sz es, some vs => bif Nat.ble (off + n) sz then
        match els with
        | some [e'] => some ⟨.any, [(k, .arr sz (es.set i e'))], [], some ((es.getD i []).take off ++ vs ++ (es.getD i []).drop (off + n) = e')⟩
        | _ => bif Nat.beq off 0 && Nat.beq n sz then some ⟨.any, [(k, .arr sz (es.set i vs))], [], none⟩ else none
        else none
      | _, _ => none
    | _ => none
    else none

theorem run_storeVar {t : TypeId} {g : Bool} {n : Nat} (ht : aggOf P t = some (g, n)) {v : Value} {D : List Value} (hv : v.cells = D.toArray) (hD : D.length = n) (h1 : ∀ x ∈ D, x.oneCell' = true) {b off : Nat} {C : Array Value} {E : TypeId} {w : World}
    (hh : w.heap[b]? = some (.cells C E (0, 0))) (hfit : off + n ≤ C.size) : (storeVar t ⟨b, off, none⟩ v).run P w = .ok () (w.setRow b (C.toList.take off ++ D ++ C.toList.drop (off + n)).toArray) := by
  obtain ⟨_, h2⟩ := aggOf_spec ht w
  have hst := run_storeCells_at P b off E D 0 C w hh (by omega) h1
  simp only [Nat.add_zero] at hst
  simp [storeVar, Sem.run_bind, h2, hv, hD, hst]

theorem get_mid {α : Type} (l d : List α) (off n : Nat) (hd : d.length = n) (hfit : off + n ≤ l.length) (i : Nat) : (l.take off ++ d ++ l.drop (off + n))[i]? = if off ≤ i ∧ i < off + n then d[i - off]? else l[i]? := by
  have ht : (l.take off).length = off := by simp; omega
  by_cases h1 : i < off
  · rw [if_neg (by omega), List.append_assoc, List.getElem?_append_left (by omega), List.getElem?_take, if_pos h1]
  · by_cases h2 : i < off + n
    · rw [if_pos ⟨by omega, h2⟩, List.getElem?_append_left (by simp; omega), List.getElem?_append_right (by omega), ht]
    · rw [if_neg (by omega), List.getElem?_append_right (by simp; omega), List.getElem?_drop]
      congr 1
      simp; omega

theorem VRs_mid {X : Env} {m : Nat → Option Loc} {sh : Nat → Sh} {cs ds : List AV} {C D : List Value} (hc : VRs X m sh cs C) (hd : VRs X m sh ds D) (off n : Nat) (hn : ds.length = n) (hfit : off + n ≤ cs.length) : VRs X m sh (cs.take off ++ ds ++ cs.drop (off + n)) (C.take off ++ D ++ C.drop (off + n)) := by
  have lC := VRs_length hc
  have lD := VRs_length hd
  have getA : ∀ i : Nat, (cs.take off ++ ds ++ cs.drop (off + n))[i]? = if off ≤ i ∧ i < off + n then ds[i - off]? else cs[i]? := by
    intro i
    have ht : (cs.take off).length = off := by simp; omega
    by_cases h1 : i < off
    · rw [if_neg (by omega), List.append_assoc, List.getElem?_append_left (by omega), List.getElem?_take, if_pos h1]
    · by_cases h2 : i < off + n
      · rw [if_pos ⟨by omega, h2⟩, List.getElem?_append_left (by simp; omega), List.getElem?_append_right (by omega), ht]
      · rw [if_neg (by omega), List.getElem?_append_right (by simp; omega), List.getElem?_drop]
        congr 1
        simp; omega
  refine VRs_of_get (by simp; omega) (fun i a x ha hx => ?_)
  rw [getA] at ha
  rw [get_mid C D off n (by omega) (by omega)] at hx
  split at ha
  · rename_i h
    rw [if_pos h] at hx
    obtain ⟨y, g1, g2⟩ := VRs_get hd _ a ha
    rw [hx] at g1; cases g1; exact g2
  · rename_i h
    rw [if_neg h] at hx
    obtain ⟨y, g1, g2⟩ := VRs_get hc _ a ha
    rw [hx] at g1; cases g1; exact g2

theorem snd_store {nin : Nat} {t : TypeId} {g : Bool} {n : Nat} {p x : Operand} {els : Option (List (List Value))} (ho : o.op = .store t p x) (hdst : o.dst = none) (ht : aggOf P t = some (g, n)) (he : evStore n s.O els (evO s p) (evO s x) = some ev) : Sound P nin o s ev := by
  have fin : ∀ {a : Act} {b off : Nat} {w w' : World}, a.eval p = .pointer (some ⟨b, off, none⟩) → (storeVar t ⟨b, off, none⟩ (a.eval x)).run P w = .ok () w' → (execOp a.eval o).run P w = .ok .skip w' := fun e h => by
    simp only [execOp, ho, e, Instr.storeAt, Instr.sureAddr, Sem.run_bind, Sem.run_pure, Result.andThen_ok, h]
  unfold evStore at he
  split at he
  · cases he
  · rename_i ds hds
    cases hb : (Nat.beq ds.length n && ds.all AV.one) with
    | false => simp [hb] at he
    | true =>
      simp only [hb, cond_true] at he
      simp only [Bool.and_eq_true] at hb
      have hn := Nat.eq_of_beq_eq_true hb.1
      split at he
      · rename_i k off hp
        split at he
        · rename_i cs hO
          cases hle : Nat.ble (off + n) cs.length with
          | false => simp [hle] at he
          | true =>
            simp only [hle, cond_true] at he
            cases he
            have hle' := Nat.le_of_ble_eq_true hle
            intro X N m a w K Q _ hr hd _ _ hK
            have e1 := hr.eval p
            rw [hp] at e1
            have hsh : s.sh k = .box cs.length := by simp [S.sh, hO, AO.sh]
            simp only [VR, hsh] at e1
            obtain ⟨L, hm, e1⟩ := e1
            have ob := hr.obj k
            unfold HR at ob
            simp only [hO] at ob
            obtain ⟨L', C, E, hm', hh, hv, hown⟩ := ob
            rw [hm] at hm'; cases hm'
            obtain ⟨D, hDc, hDv⟩ := AV.cells_spec hds (hr.eval x)
            have lC : C.size = cs.length := by have := VRs_length hv; simpa using this
            have lD : D.length = n := by rw [VRs_length hDv]; exact hn
            have hst := run_storeVar ht hDc lD (all_one hb.2 hDv) (off := off) hh (by omega)
            refine wp_of_skip (fin e1 hst) (hK m _ _ ?_)
            have hnew : (cs.take off ++ ds ++ cs.drop (off + n)).length = cs.length := by simp; omega
            have hr' := hr.modify (w' := w.setRow L.b (C.toList.take off ++ D ++ C.toList.drop (off + n)).toArray) (.box (cs.take off ++ ds ++ cs.drop (off + n))) (by rw [hsh]; simp only [AO.sh, hnew]) (by rw [hsh]; simp) hm
              (fun b hb => setRow_other w L.b b _ hb) rfl rfl rfl (by simp) (by
                unfold HR
                rw [S.O_setO, if_pos rfl]
                refine ⟨L, _, E, hm, setRow_heap w L.b C _ E (0, 0) hh, ?_, hown⟩
                have hs2 : (fun i => ((s.setO k (.box (cs.take off ++ ds ++ cs.drop (off + n)))).O i).sh) = s.sh := by
                  funext i
                  rw [S.O_setO]
                  split
                  · rename_i e; subst e; rw [hsh]; simp only [AO.sh, hnew]
                  · rfl
                rw [hs2]
                exact VRs_mid (sh := s.sh) hv hDv off n hn hle')
            unfold Ev.ap Ev.hp
            rw [hdst]
            exact hr'
        · cases he
      · rename_i k i off hp
        split at he
        · rename_i sz es vs hO hvs
          cases hle : Nat.ble (off + n) sz with
          | false => simp [hle] at he
          | true =>
            simp only [hle, cond_true] at he
            have hle' := Nat.le_of_ble_eq_true hle
            have main : ∀ (e' : List Value) (c : Option Prop), (condOf c → (es.getD i []).length = sz → (es.getD i []).take off ++ vs ++ (es.getD i []).drop (off + n) = e') → Sound P nin o s ⟨.any, [(k, .arr sz (es.set i e'))], [], c⟩ := by
              intro e' c hee X N m a w K Q _ hr hd _ hc hK
              have e1 := hr.eval p
              rw [hp] at e1
              have hsh : s.sh k = .arr sz es.length := by simp [S.sh, hO, AO.sh]
              simp only [VR, hsh] at e1
              obtain ⟨hi, L, hm, e1⟩ := e1
              have ob := hr.obj k
              unfold HR at ob
              simp only [hO] at ob
              obtain ⟨hok, ⟨hnone, _⟩ | ⟨L', C, E, hm', hh, hCs, hfit, hcell, hown⟩⟩ := ob
              · rw [hm] at hnone; cases hnone
              · rw [hm] at hm'; cases hm'
                obtain ⟨D, hDc, hDv⟩ := AV.cells_spec hds (hr.eval x)
                obtain ⟨hDvs, hone⟩ := toVals_spec hvs hDv
                subst hDvs
                have lD : D.length = n := by rw [VRs_length hDv]; exact hn
                have hget : es[i]? = some (es.getD i []) := by rw [List.getD_eq_getElem?_getD, List.getElem?_eq_getElem hi, Option.getD_some]
                have hmem := List.mem_of_getElem? hget
                have hel := (hok _ hmem).1
                have hee := hee hc hel
                have hroom : L.off + i * sz + off + n ≤ C.size := by
                  have : (i + 1) * sz ≤ es.length * sz := Nat.mul_le_mul_right _ hi
                  rw [Nat.add_mul] at this
                  omega
                have hst := run_storeVar ht hDc lD hone (off := L.off + i * sz + off) hh hroom
                refine wp_of_skip (fin e1 hst) (hK m _ _ ?_)
                have hr' := hr.modify (w' := w.setRow L.b (C.toList.take (L.off + i * sz + off) ++ D ++ C.toList.drop (L.off + i * sz + off + n)).toArray) (.arr sz (es.set i e')) (by rw [hsh]; simp [AO.sh]) (by rw [hsh]; simp) hm
                  (fun b hb => setRow_other w L.b b _ hb) rfl rfl rfl (by simp) (by
                    unfold HR
                    rw [S.O_setO, if_pos rfl]
                    have hel' : e'.length = sz := by rw [← hee]; simp only [List.length_append, List.length_take, List.length_drop]; omega
                    refine ⟨fun e he => ?_, .inr ⟨L, _, E, hm, setRow_heap w L.b C _ E (0, 0) hh, ?_, ?_, ?_, hown⟩⟩
                    · rcases List.mem_or_eq_of_mem_set he with he | rfl
                      · exact hok e he
                      · refine ⟨hel', fun y hy => ?_⟩
                        rw [← hee] at hy
                        simp only [List.mem_append] at hy
                        rcases hy with (hy | hy) | hy
                        · exact (hok _ hmem).2 y (List.mem_of_mem_take hy)
                        · exact hone y hy
                        · exact (hok _ hmem).2 y (List.mem_of_mem_drop hy)
                    · simp; omega
                    · simp; exact hfit
                    · intro i' e'' hi' j y hj
                      simp only [List.getElem?_toArray]
                      rw [get_mid C.toList D _ n lD (by simpa using hroom)]
                      simp only [List.getElem?_set] at hi'
                      split at hi'
                      · rename_i heq
                        subst heq
                        cases hi'
                        rw [← hee, get_mid _ D off n lD (by omega)] at hj
                        split at hj
                        · rename_i h
                          rw [if_pos (by omega)]
                          rw [← hj]; congr 1; omega
                        · rename_i h
                          have hjl := (List.getElem?_eq_some_iff.1 hj).1
                          rw [if_neg (by omega)]
                          have := hcell i _ hget j y hj
                          simpa using this
                      · rename_i hne
                        have := hcell i' e'' hi' j y hj
                        have hjl := (List.getElem?_eq_some_iff.1 hj).1
                        have hes := (hok _ (List.mem_of_getElem? hi')).1
                        rw [if_neg]
                        · simpa using this
                        · rcases Nat.lt_or_gt_of_ne hne with h | h
                          · have : (i + 1) * sz ≤ i' * sz := Nat.mul_le_mul_right _ h
                            rw [Nat.add_mul] at this; omega
                          · have : (i' + 1) * sz ≤ i * sz := Nat.mul_le_mul_right _ h
                            rw [Nat.add_mul] at this; omega)
                unfold Ev.ap Ev.hp
                rw [hdst]
                exact hr'
            split at he
            · cases he
              exact main _ _ (fun h _ => h)
            · cases hz : (Nat.beq off 0 && Nat.beq n sz) with
              | false => simp [hz] at he
              | true =>
                simp only [hz, cond_true] at he
                cases he
                simp only [Bool.and_eq_true] at hz
                have h1 := Nat.eq_of_beq_eq_true hz.1
                have h2 := Nat.eq_of_beq_eq_true hz.2
                subst h1; subst h2
                refine main _ _ fun _ hl => ?_
                rw [List.take_zero, List.nil_append, Nat.zero_add, List.drop_of_length_le (by omega), List.append_nil]
        · cases he
      · cases he

end Go.Eng
