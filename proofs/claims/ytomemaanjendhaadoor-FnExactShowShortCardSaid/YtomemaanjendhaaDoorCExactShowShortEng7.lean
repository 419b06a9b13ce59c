/- What is proved: the operations of the engine that make or write memory: new boxes, structs and slices built, stores, append. Each theorem bears the operation's own side condition. -/
import Derived.Test.YtomemaanjendhaaDoorCExactShowShortEng6
set_option linter.unusedVariables false
set_option linter.unusedSimpArgs false
namespace Go.Eng
open Go

variable {P : Program} {s : S} {o : Oper} {ev : Ev}

/-! ### new boxes -/
/-- the cells of a value -/
def AV.cells : AV → Option (List AV)
  | .agg cs => some cs
  | a => bif a.one then some [a] else none

theorem cells_one {v : Value} (h : v.oneCell' = true) : v.cells = #[v] := by cases v <;> first | rfl | cases h

theorem AV.cells_spec {X : Env} {m : Nat → Option Loc} {sh : Nat → Sh} {a : AV} {cs : List AV} (hc : a.cells = some cs) {v : Value} (h : VR X m sh a v) : ∃ C : List Value, v.cells = C.toArray ∧ VRs X m sh cs C := by
  have one : ∀ a : AV, a.one = true → cs = [a] → VR X m sh a v → ∃ C : List Value, v.cells = C.toArray ∧ VRs X m sh cs C := fun a ha hcs h => by
    subst hcs
    exact ⟨[v], cells_one (VR_one ha h), by simp only [VRs]; exact ⟨v, [], rfl, h, rfl⟩⟩
  cases a with
  | agg ds =>
    simp only [AV.cells, Option.some.injEq] at hc
    subst hc
    simp only [VR] at h
    obtain ⟨C, rfl, h⟩ := h
    exact ⟨C, rfl, h⟩
  | _ =>
    simp only [AV.cells] at hc
    refine one _ ?_ ?_ h
    · revert hc; cases AV.one _ <;> simp
    · revert hc; cases AV.one _ <;> simp [eq_comm]

theorem VRs_free {X : Env} {N : Nat} {m : Nat → Option Loc} {a : Act} {w : World} (hr : Rel X N s m a w) {k : Nat} (hf : s.free k = true) (o' : AO) (ol : Option Loc) {cs : List AV} {C : List Value} (hx : AV.namesL k cs = false) (hv : VRs X m s.sh cs C) :
    VRs X (fun i => if i = k then ol else m i) (s.setO k o').sh cs C := by
  refine VRs_conv _ (fun i hi => .inr ?_) _ hv
  have hik : i ≠ k := by rintro rfl; rw [hx] at hi; cases hi
  rw [S.sh_setO]; simp [hik]

/-- a new block of cells, told as a box -/
theorem snd_newBox {nin nk : Nat} {cs : List AV} (hf : ∀ k, s.free k = true → AV.namesL k cs = false) (h : ∀ (X : Env) (N : Nat) (m : Nat → Option Loc) (a : Act) (w : World), Rel X N s m a w → ∃ (C : List Value) (E : TypeId),
      (execOp a.eval o).run P w = .ok (.value (.pointer (some ⟨w.heap.size, 0, none⟩))) (w.alloc (.cells C.toArray E)) ∧ VRs X m s.sh cs C) :
    Sound P nin o s ⟨.pt nk 0, [(nk, .box cs)], [nk], none⟩ := by
  intro X N m a w K Q hn hr hd hfr _ hK
  obtain ⟨C, E, h1, h2⟩ := h X N m a w hr
  obtain ⟨hk, hfr⟩ := hfr nk (List.mem_singleton.2 rfl)
  have hr' := hr.fresh (k := nk) (.box cs) (.cells C.toArray E) 0 0 (by omega) hfr (by
    unfold HR
    rw [S.O_setO, if_pos rfl]
    refine ⟨⟨w.heap.size, 0, 0⟩, C.toArray, E, by simp, heap_alloc_new w _, ?_, .inl hr.fr.size⟩
    exact VRs_free hr hfr (.box cs) (some ⟨w.heap.size, 0, 0⟩) (hf nk hfr) h2)
  refine wp_of_value h1 (hK (fun i => if i = nk then some ⟨w.heap.size, 0, 0⟩ else m i) _ _ ?_)
  have hv : VR X (fun i => if i = nk then some ⟨w.heap.size, 0, 0⟩ else m i) (s.setO nk (.box cs)).sh (.pt nk 0) (.pointer (some ⟨w.heap.size, 0, none⟩)) := by
    simp only [VR]
    rw [S.sh_setO, if_pos rfl]
    exact ⟨⟨w.heap.size, 0, 0⟩, by simp, rfl⟩
  unfold Ev.ap Ev.hp
  cases hdst : o.dst with
  | none => exact hr'
  | some d => exact hr'.putV (hd d hdst) hv

/-- the zero cells of a type, each one cell -/
def zeroCs (P : Program) (t : TypeId) : Option (List Value) :=
  match P.info? t with
  | some i => match i.zero with
    | some z => bif (z.cells.toList.all Value.oneCell') && Nat.beq z.cells.size i.size then some z.cells.toList else none
    | none => none
  | none => none

theorem zeroCs_spec {t : TypeId} {zs : List Value} (h : zeroCs P t = some zs) : ∃ i z, P.info? t = some i ∧ i.zero = some z ∧ z.cells.toList = zs ∧ i.size = zs.length ∧ ∀ x ∈ zs, x.oneCell' = true := by
  unfold zeroCs at h
  cases hi : P.info? t with
  | none => simp [hi] at h
  | some i =>
    simp only [hi] at h
    cases hz : i.zero with
    | none => simp [hz] at h
    | some z =>
      simp only [hz] at h
      cases hc : (z.cells.toList.all Value.oneCell') && Nat.beq z.cells.size i.size with
      | false => rw [hc] at h; cases h
      | true =>
        rw [hc, cond_true, Option.some.injEq] at h
        subst h
        simp only [Bool.and_eq_true, List.all_eq_true] at hc
        exact ⟨i, z, rfl, hz, rfl, by simp [Nat.eq_of_beq_eq_true hc.2], hc.1⟩

def evAlloc (nk : Nat) (zs : List Value) : Ev := ⟨.pt nk 0, [(nk, .box (zs.map .v))], [nk], none⟩

theorem namesL_v (k : Nat) : ∀ (zs : List Value), AV.namesL k (zs.map .v) = false
  | [] => rfl
  | z :: zs => by simp [AV.namesL, AV.names, namesL_v k zs]

theorem VRs_v {X : Env} {m : Nat → Option Loc} {sh : Nat → Sh} : ∀ (zs : List Value), VRs X m sh (zs.map .v) zs
  | [] => by simp [VRs]
  | z :: zs => by simp only [List.map_cons, VRs]; exact ⟨z, zs, rfl, by simp only [VR], VRs_v zs⟩

theorem snd_alloc {nin nk : Nat} {t : TypeId} {zs : List Value} (ho : o.op = .alloc t) (ht : zeroCs P t = some zs) : Sound P nin o s (evAlloc nk zs) := by
  obtain ⟨i, z, h1, h2, h3, h4, h5⟩ := zeroCs_spec ht
  refine snd_newBox (fun k _ => namesL_v k zs) fun X N m a w hr => ⟨zs, t, ?_, VRs_v zs⟩
  simp [execOp, ho, Instr.alloc, zeroValue, typeInfo, h1, h2, newVar, newRow, ← h3]

def evBox (nk : Nat) (x : AV) : Option Ev :=
  match x.cells with
  | some cs => some ⟨.pt nk 0, [(nk, .box cs)], [nk], none⟩
  | none => none

theorem namesL_cells {k : Nat} {a : AV} {cs : List AV} (hc : a.cells = some cs) (h : a.names k = false) : AV.namesL k cs = false := by
  cases a with
  | agg ds => simp only [AV.cells, Option.some.injEq] at hc; subst hc; simpa [AV.names] using h
  | _ =>
    simp only [AV.cells] at hc
    revert hc
    cases AV.one _
    · simp
    · intro hc; simp only [cond_true, Option.some.injEq] at hc; subst hc; simp only [AV.namesL, h]; rfl

theorem snd_box {nin nk : Nat} {t : TypeId} {x : Operand} (ho : o.op = .box t x) (he : evBox nk (evO s x) = some ev) : Sound P nin o s ev := by
  unfold evBox at he
  split at he
  · rename_i cs hc
    cases he
    refine snd_newBox (fun k hk => namesL_cells hc (evO_free hk x)) fun X N m a w hr => ?_
    obtain ⟨C, h1, h2⟩ := AV.cells_spec hc (hr.eval x)
    exact ⟨C, t, by simp [execOp, ho, Instr.box, newVar, newRow, h1], h2⟩
  · cases he

/-! ### structs built: fields of one cell each -/
def fieldOffs (P : Program) : List Field → Option (List Nat)
  | [] => some []
  | f :: fs => match P.info? f.type, fieldOffs P fs with
    | some i, some r => bif Nat.beq i.size 1 then some (f.offset :: r) else none
    | _, _ => none

def fillA (offs : List Nat) : List AV → List (Nat × AV) → Option (List AV)
  | cs, [] => some cs
  | cs, (i, x) :: r => match offs[i]? with
    | some off => bif x.one && Nat.blt off cs.length then fillA offs (cs.set off x) r else none
    | none => none

theorem fillA_spec {X : Env} {m : Nat → Option Loc} {sh : Nat → Sh} (offs : List Nat) (place : Nat → Option (Nat × Nat)) (hp : ∀ i off, offs[i]? = some off → place i = some (off, 1)) : ∀ (parts : List (Nat × AV)) (vs : List (Nat × Value)) (cs ds : List AV) (C : List Value),
    parts.length = vs.length → (∀ (j : Nat) p q, parts[j]? = some p → vs[j]? = some q → p.1 = q.1 ∧ VR X m sh p.2 q.2) → VRs X m sh cs C → fillA offs cs parts = some ds → ∃ D : List Value, Instr.fill place C.toArray vs = some D.toArray ∧ VRs X m sh ds D
  | [], [], cs, ds, C, _, _, hc, hf => by simp [fillA] at hf; subst hf; exact ⟨C, by simp [Instr.fill], hc⟩
  | [], v :: vs, cs, ds, C, hl, _, _, _ => by simp at hl
  | p :: parts, [], cs, ds, C, hl, _, _, _ => by simp at hl
  | (i, x) :: parts, (j, v) :: vs, cs, ds, C, hl, hv, hc, hf => by
    obtain ⟨h1, h2⟩ := hv 0 _ _ rfl rfl
    simp only at h1 h2
    subst h1
    simp only [fillA] at hf
    cases ho : offs[i]? with
    | none => simp [ho] at hf
    | some off =>
      simp only [ho] at hf
      cases hb : (x.one && Nat.blt off cs.length) with
      | false => simp [hb] at hf
      | true =>
        simp only [hb, cond_true] at hf
        simp only [Bool.and_eq_true] at hb
        have hlt : off < cs.length := Nat.le_of_ble_eq_true hb.2
        have hlC := VRs_length hc
        have hv1 := cells_one (VR_one hb.1 h2)
        have hset : VRs X m sh (cs.set off x) (C.set off v) := by
          refine VRs_of_get (by simp [hlC]) (fun n a y ha hy => ?_)
          simp only [List.getElem?_set] at ha hy
          split at ha
          · rename_i e
            subst e
            rw [if_pos rfl, if_pos (by omega)] at hy
            cases ha; cases hy; exact h2
          · rename_i e
            rw [if_neg e] at hy
            obtain ⟨z, g1, g2⟩ := VRs_get hc _ a ha
            rw [hy] at g1; cases g1; exact g2
        obtain ⟨D, g1, g2⟩ := fillA_spec offs place hp parts vs (cs.set off x) ds (C.set off v) (by simpa using hl) (fun n p q hp hq => hv (n + 1) p q (by simpa using hp) (by simpa using hq)) hset hf
        refine ⟨D, ?_, g2⟩
        simp only [Instr.fill, hp i off ho, hv1]
        have hng : ¬ (off + 1 > C.length) := by omega
        simp [hng]
        exact g1

def evBuild (offs : List Nat) (zs : List Value) (parts : List (Nat × AV)) : Option Ev :=
  match fillA offs (zs.map .v) parts with
  | some cs => some ⟨.agg cs, [], [], none⟩
  | none => none

theorem fieldOffs_places (w : World) : ∀ (fs : List Field) (offs : List Nat), fieldOffs P fs = some offs → fs.mapM (fun f => (P.info? f.type).map fun i => (f.offset, i.size)) = some (offs.map fun o => (o, 1))
  | [], offs, h => by simp [fieldOffs] at h; subst h; simp
  | f :: fs, offs, h => by
    simp only [fieldOffs] at h
    split at h
    · rename_i i r hi hr
      cases hb : Nat.beq i.size 1 with
      | false => simp [hb] at h
      | true =>
        simp only [hb, cond_true, Option.some.injEq] at h
        subst h
        have hs := Nat.eq_of_beq_eq_true hb
        have ih := fieldOffs_places w fs r hr
        simp [List.mapM_cons, hi, hs, ih]
    · cases h

theorem snd_build {nin : Nat} {t : TypeId} {parts : Array (Nat × Operand)} {fs : Array Field} {offs : List Nat} {zs : List Value} (ho : o.op = .build t parts) (hu : P.underlying t = some (.struct fs)) (hofs : fieldOffs P fs.toList = some offs) (hz : zeroCs P t = some zs)
    (he : evBuild offs zs (parts.toList.map fun p => (p.1, evO s p.2)) = some ev) : Sound P nin o s ev := by
  unfold evBuild at he
  split at he
  · rename_i cs hf
    cases he
    obtain ⟨i, z, h1, h2, h3, h4, h5⟩ := zeroCs_spec hz
    refine .val fun _ X N m a w hr => ?_
    obtain ⟨D, g1, g2⟩ := fillA_spec (X := X) (m := m) (sh := s.sh) offs (fun i => (offs.map fun o => (o, 1))[i]?) (fun i off h => by simp [h]) (parts.toList.map fun p => (p.1, evO s p.2)) (parts.toList.map fun p => (p.1, a.eval p.2)) (zs.map .v) cs zs (by simp)
      (fun j p q hp hq => by
        simp only [List.getElem?_map] at hp hq
        cases hj : parts.toList[j]? with
        | none => simp [hj] at hp
        | some r => simp [hj] at hp hq; subst hp; subst hq; exact ⟨rfl, hr.eval r.2⟩) (VRs_v zs) hf
    refine ⟨.agg D.toArray, ?_, by simp only [VR]; exact ⟨D, rfl, g2⟩⟩
    have hb : P.built t (parts.map fun (i, x) => (i, a.eval x)).toList = some D.toArray := by
      unfold Program.built
      simp only [h1, hu, h2, fieldOffs_places w fs.toList offs hofs]
      have hzc : z.cells = zs.toArray := by rw [← h3]
      rw [hzc]
      simpa using g1
    simp only [execOp, ho, Sem.run_bind, run_build w t _ _ hb, Result.andThen_ok, Sem.run_pure]
  · cases he

end Go.Eng
