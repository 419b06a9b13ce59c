/- What is proved: a slice that is read compared with nil: whichever the answer, both ways must come to one end. Conditions: that both ways do. -/
import Derived.Test.YtomemaanjendhaaDoorCExactShowShortEng22
import Derived.Lib.SliceRun
set_option linter.unusedVariables false
set_option linter.unusedSimpArgs false
namespace Go.Eng
open Go

variable {P : Program} {N nin : Nat}

theorem AX.nilEq {id : Nat} {s s0 : S} {c d : Code} {R : Exit → S → Prop} {o0 o1 : Oper} {d1 d2 : Nat} {x : Operand} {T ty e : TypeId} {l : Bool} {sz : Nat} {es : List (List Value)} (ex0 : Exit)
    (h0 : o0.op = .move x) (h0d : o0.dst = some d1) (h0g : o0.guard = none) (h1 : o1.op = .binOp .eql T (.tmp d1) (.const (.slice none 0 0)) ty) (h1d : o1.dst = some d2) (h1g : o1.guard = none)
    (hT : P.underlying T = some (.slice e)) (hd1 : Nat.blt d1 N = true) (hd2 : Nat.blt d2 N = true) (hx : evO s x = .bs l sz es) (hR : R ex0 s0)
    (h : ∀ b : Bool, (b = true → es = []) → AX P N nin c ((s.setT d1 (.bs l sz es)).setT d2 (.v (.bool b))) (Then (fun ex s' => ex = ex0 ∧ s' = s0) (fun s' => AX P N nin d s' (fun ex s' => ex = ex0 ∧ s' = s0)))) : AX P N nin (.seq (.seq (.region id #[o0, o1] false) c) d) s R := by
  refine ⟨ex0, s0, hR, fun X m a w hn hr => wp_seq (wp_seq (wp_region ?_))⟩
  have hv := hr.eval x
  rw [hx] at hv
  have hv0 := hv
  simp only [VR] at hv
  obtain ⟨ad, cap, hv, hcap, hok, hnil⟩ := hv
  have r0 : (execOp a.eval o0).run P w = .ok (.value (a.eval x)) w := by simp [execOp, h0]
  have hr1 : Rel X N (s.setT d1 (.bs l sz es)) m (a.put o0.dst (a.eval x)) w := by rw [h0d]; exact hr.putV (Nat.le_of_ble_eq_true hd1) hv0
  have hx1 : (a.put o0.dst (a.eval x)).eval (.tmp d1) = .slice ad es.length cap := by
    have hsz : d1 < a.tmps.size := by rw [hr.size]; exact Nat.le_of_ble_eq_true hd1
    rw [h0d, ← hv]
    simp [Act.eval, Act.put, hsz]
  have r1 : (execOp (a.put o0.dst (a.eval x)).eval o1).run P w = .ok (.value (.bool ad.isNone)) w := by
    have e2 : (a.put o0.dst (a.eval x)).eval (.const (.slice none 0 0)) = .slice none 0 0 := rfl
    have hg : eqGuard .eql T (.tmp d1) (.const (.slice none 0 0)) (.slice ad es.length cap) (.slice none 0 0) = pure () := by simp [eqGuard]
    simp only [execOp, h1, hx1, e2, Sem.run_bind, hg, Sem.run_pure, Result.andThen_ok, Lib.run_eql_slice_nil w T e ad es.length cap 0 0 hT]
  have hr2 : Rel X N ((s.setT d1 (.bs l sz es)).setT d2 (.v (.bool ad.isNone))) m ((a.put o0.dst (a.eval x)).put o1.dst (.bool ad.isNone)) w := by
    rw [h1d]
    exact hr1.putV (Nat.le_of_ble_eq_true hd2) (by simp only [VR])
  have hb : ad.isNone = true → es = [] := fun hn => by
    rcases hnil with h | ⟨b, off, h, _⟩
    · exact h
    · rw [h] at hn; cases hn
  have wn : ∀ (o : Oper) y, o.guard = none → Region.wanted o y = true := fun o y hg => by unfold Region.wanted; rw [hg]
  show wpOps P #[o0, o1] _ [0, 1] a w
  have g0 : (#[o0, o1] : Array Oper)[0]? = some o0 := rfl
  have g1 : (#[o0, o1] : Array Oper)[1]? = some o1 := rfl
  simp only [wpOps, g0, g1, wn o0 _ h0g, wn o1 _ h1g, if_true]
  refine .inl (wp_of_value r0 (.inl (wp_of_value r1 ?_)))
  obtain ⟨ex, s1, h1, h3⟩ := h ad.isNone hb
  refine wp_mono (h3 X m _ w hn hr2) fun e a' w' he => ?_
  obtain ⟨rfl, m', hr'⟩ := he
  cases e with
  | normal =>
    obtain ⟨ex2, s2, ⟨rfl, rfl⟩, h4⟩ := h1
    exact h4 X m' a' w' hn hr'
  | _ => obtain ⟨rfl, rfl⟩ := h1; exact ⟨rfl, m', hr'⟩

theorem arr_sh {α : Type} {enc : α → List Value} {sz : Nat} {a b : List α} (h : a.length = b.length) : (AO.arr sz (a.map enc)).sh = (AO.arr sz (b.map enc)).sh := by simp only [AO.sh, List.length_map, h]
theorem sm_l {α β γ : Type} {a : α} {f : α → γ} {g : β → γ} {z : γ} (h : sm (.inl a) f g = z) : f a = z := h
theorem sm_r {α β γ : Type} {b : β} {f : α → γ} {g : β → γ} {z : γ} (h : sm (.inr b) f g = z) : g b = z := h
theorem idx_len {n m : Nat} {q : Int} (h : n = m) (g : 0 ≤ q ∧ q < (n : Int)) : 0 ≤ q ∧ q < (m : Int) := h ▸ g

end Go.Eng
