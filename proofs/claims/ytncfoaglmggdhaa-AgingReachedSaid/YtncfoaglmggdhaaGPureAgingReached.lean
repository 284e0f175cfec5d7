/- AgingReached: of every plan, position and days the law's answer is true: on the day that Reach tells there are so many days past due, on no day before. -/
import Derived.Test.YtncfoaglmggdhaaGAgeB
import Derived.Test.YtncfoaglmggdhaaGPureAgingFront
import Derived.Test.YtncfoaglmggdhaaGx8
namespace Go.Proofs.Ytncfoaglmggdhaa.G
open Go.RowKit Go.Proofs.YtncfoaglmggdhaaW.PrintWords Go.Proofs.YtncfoaglmggdhaaW.PrintLast
set_option linter.unusedVariables false

def AgingReached_Pure : Prop := ∀ (l0 : List (S31)) (x1 : S24) (a2 : Int) (a3 : Int) (a4 : Int), ((∀ x_ ∈ l0, WF31 x_) ∧ l0.length * 32 ≤ 140737488351232) → (WF24 x1) → ((Lit.int .i64 a2).wf = true) → ((Lit.int .i64 a3).wf = true) → ((Lit.int .i64 a4).wf = true) → ∃ k, arrearslaw10_AgingReached.f k l0 x1.f0 x1.f1 a2 a3 a4 = some true
theorem reached_skip (l : List Row) (t d b a R : Int) (k : Nat) : arrearslaw10_AgingReached.j0 (k + 1) l t d b true a R = some true := by simp [arrearslaw10_AgingReached.j0]
theorem AgingReached_pure : AgingReached_Pure := by
  intro l p t days btw hl hp ht hdays hb
  obtain ⟨k, hk⟩ : ∃ k, 3000 < k := ⟨3001, by omega⟩
  refine ⟨k + 1 + 1 + 1, ?_⟩
  have hw : rowsOk l := hl.1
  obtain ⟨b, hb1, hi⟩ := lsound_is l hw (k + 1 + 1 + 1) (by omega)
  unfold arrearslaw10_AgingReached.f
  rw [hb1]
  simp only [Option.bind_some]
  cases b with
  | false => rw [if_neg (by simp)]; exact reached_skip ..
  | true =>
    obtain ⟨hs, h0, hlen⟩ := hi rfl
    rw [if_pos rfl]
    by_cases hR : p.f1 ≤ 0
    · rw [if_pos hR]; exact reached_skip ..
    rw [if_neg hR]
    by_cases t0 : t < 0
    · rw [if_pos t0]; exact reached_skip ..
    rw [if_neg t0]
    by_cases t1 : t > 3652059
    · rw [if_pos t1]; exact reached_skip ..
    rw [if_neg t1]
    by_cases d0 : days < 1
    · rw [if_pos d0]; exact reached_skip ..
    rw [if_neg d0]
    by_cases d1 : days > 3652059
    · rw [decide_eq_true d1]; exact reached_skip ..
    rw [decide_eq_false d1]
    have ha := (wf64 hp.1)
    have hbt := wf64 hb
    obtain ⟨n, hS, hO, hf⟩ := satisfied_is hw hs hlen h0 (a := p.f0) (R := p.f1) (k := k) ha.2 (by omega) hR
    have hdue := hs.due n hf.1
    obtain ⟨D, hD⟩ : ∃ D, D = mx (t + 1) ((rr l (n : Int)).f0 + days) := ⟨_, rfl⟩
    have hD1 : t + 1 ≤ D ∧ (rr l (n : Int)).f0 + days ≤ D ∧ (D = t + 1 ∨ D = (rr l (n : Int)).f0 + days) := by rw [hD]; unfold mx; split <;> omega
    have hreach : ∀ k, 500 < k → aging_Reach.f k l p.f0 p.f1 t days = some (D, true) := fun k hk => by rw [reach_is hw hs hlen h0 ha.2 hk hR hf t days (by omega) (by omega) (by omega) (by omega), hD]
    have hday : ∀ k, 500 < k → ∀ x, x ≤ 9223372036854775807 → aging_Days.f k l p.f0 p.f1 x = some (lateD l n x) := fun k hk x hx => days_is hw hs hlen h0 ha.2 hk hR hf x hx
    simp only [arrearslaw10_AgingReached.j0, Bool.false_eq_true, if_false]
    rw [copied_is l hlen]
    simp only [Option.bind_some]
    rw [hreach (k + 1 + 1) (by omega)]
    simp only [Option.bind_some, if_true]
    rw [if_neg (by omega), decide_eq_false (by omega)]
    simp only [arrearslaw10_AgingReached.j1, Bool.false_eq_true, if_false]
    rw [copied_is l hlen]
    simp only [Option.bind_some]
    rw [hday (k + 1) (by omega) D (by omega)]
    simp only [Option.bind_some]
    have e1 : ¬ lateD l n D < days := by unfold lateD; split <;> omega
    rw [if_neg e1, pl_w64 (x := D - 1) (by omega) (by omega)]
    have hj2 : arrearslaw10_AgingReached.j2 (k + 1) l t days btw D false p.f0 p.f1 = some true := by
      simp only [arrearslaw10_AgingReached.j2, Bool.false_eq_true, if_false]
      by_cases b1 : btw ≤ t
      · rw [if_pos b1]
      rw [if_neg b1]
      by_cases b2 : btw ≥ D
      · rw [if_pos b2]
      rw [if_neg b2, copied_is l hlen]
      simp only [Option.bind_some]
      rw [hday k (by omega) btw (by omega)]
      simp only [Option.bind_some]
      rw [decide_eq_true]
      unfold lateD; split <;> omega
    by_cases c : D - 1 > t
    · rw [if_pos c]
      rw [hday (k + 1) (by omega) (D - 1) (by omega)]
      simp only [Option.bind_some]
      rw [decide_eq_false]
      · exact hj2
      · unfold lateD; split <;> omega
    · rw [if_neg c]; exact hj2
end Go.Proofs.Ytncfoaglmggdhaa.G
