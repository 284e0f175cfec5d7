/- AgingDayByDay: of every plan, position and day the law's answer is true: days past due rise by one a day from the day behind the oldest due day on, and what is past due is not less. -/
import Derived.Test.YtncfoaglmggdhaaGAgeB
import Derived.Test.YtncfoaglmggdhaaGPureAgingAgree
import Derived.Test.YtncfoaglmggdhaaGx11
namespace Go.Proofs.Ytncfoaglmggdhaa.G
open Go.RowKit Go.Proofs.YtncfoaglmggdhaaW.PrintWords Go.Proofs.YtncfoaglmggdhaaW.PrintLast
set_option linter.unusedVariables false

def AgingDayByDay_Pure : Prop := ∀ (l0 : List (S31)) (x1 : S24) (a2 : Int), ((∀ x_ ∈ l0, WF31 x_) ∧ l0.length * 32 ≤ 140737488351232) → (WF24 x1) → ((Lit.int .i64 a2).wf = true) → ∃ k, arrearslaw10_AgingDayByDay.f k l0 x1.f0 x1.f1 a2 = some true
theorem dbd_skip (l : List Row) (t a R : Int) (k : Nat) : arrearslaw10_AgingDayByDay.j0 (k + 1) l t true a R = some true := by simp [arrearslaw10_AgingDayByDay.j0]
theorem DueTo.mono {l : List Row} {t u : Int} {m m' : Nat} (h : DueTo l t m) (h' : DueTo l u m') (ht : t ≤ u) : m ≤ m' := by
  rcases Nat.lt_or_ge m' m with c | c
  · have h1 := h'.2.2 (by have := h.1; omega)
    have h2 := h.2.1 m' c
    omega
  · exact c
/-- What is past due on a later day, of the same or an older oldest row, with no less owed, is not less. -/
theorem pastV_mono {l : List Row} (hs : Snd l) {a R t u : Int} {n m m' : Nat} (hR : 0 < R) (hf : Fr l (app a) n) (h : DueTo l t m) (h' : DueTo l u m') (ht : t ≤ u) : pastV l a R t n m ≤ pastV l a R u n m' := by
  have hmm := h.mono h' ht
  have hpm := hs.mono' hmm h'.1
  unfold pastV
  by_cases c : t ≤ (rr l (n : Int)).f0
  · rw [if_pos c]
    by_cases c2 : u ≤ (rr l (n : Int)).f0
    · rw [if_pos c2]; exact Int.le_refl _
    · rw [if_neg c2]
      by_cases c3 : m' = l.length
      · rw [if_pos c3]; omega
      · rw [if_neg c3]
        have := past_pos hs hf h' (by omega) c3
        unfold mn; split <;> omega
  · rw [if_neg c, if_neg (show ¬ u ≤ (rr l (n : Int)).f0 from by omega)]
    by_cases c3 : m = l.length
    · rw [if_pos c3, if_pos (by have := h'.1; omega)]; exact Int.le_refl _
    · rw [if_neg c3]
      by_cases c4 : m' = l.length
      · rw [if_pos c4]; unfold mn; split <;> omega
      · rw [if_neg c4]; unfold mn; split <;> split <;> omega
theorem AgingDayByDay_pure : AgingDayByDay_Pure := by
  intro l p t hl hp ht
  obtain ⟨k, hk⟩ : ∃ k, 3000 < k := ⟨3001, by omega⟩
  refine ⟨k + 1 + 1 + 1, ?_⟩
  have hw : rowsOk l := hl.1
  obtain ⟨b, hb1, hi⟩ := lsound_is l hw (k + 1 + 1 + 1) (by omega)
  unfold arrearslaw10_AgingDayByDay.f
  rw [hb1]
  simp only [Option.bind_some]
  cases b with
  | false => rw [if_neg (by simp)]; exact dbd_skip ..
  | true =>
    obtain ⟨hs, h0, hlen⟩ := hi rfl
    rw [if_pos rfl]
    by_cases hR : p.f1 ≤ 0
    · rw [if_pos hR]; exact dbd_skip ..
    rw [if_neg hR]
    by_cases t0 : t < (-1099511627776)
    · rw [if_pos t0]; exact dbd_skip ..
    rw [if_neg t0]
    by_cases t1 : t > 1099511627776
    · rw [decide_eq_true t1]; exact dbd_skip ..
    rw [decide_eq_false t1]
    have ha := (wf64 hp.1)
    obtain ⟨n, hS, hO, hf⟩ := satisfied_is hw hs hlen h0 (a := p.f0) (R := p.f1) (k := k + 1 + 1) ha.2 (by omega) hR
    have hdue := hs.due n hf.1
    obtain ⟨m, hpast, hdt⟩ := past_is hw hs hlen h0 ha.2 hR hf t (k := k) (by omega)
    obtain ⟨m', hpast', hdt'⟩ := past_is hw hs hlen h0 ha.2 hR hf (t + 1) (k := k) (by omega)
    simp only [arrearslaw10_AgingDayByDay.j0, Bool.false_eq_true, if_false]
    rw [copied_is l hlen]
    simp only [Option.bind_some]
    rw [hO]
    simp only [Option.bind_some, if_true]
    rw [if_neg (by omega), decide_eq_false (by have := hf.1; omega)]
    simp only [arrearslaw10_AgingDayByDay.j1, Bool.false_eq_true, if_false]
    rw [copied_is l hlen]
    simp only [Option.bind_some]
    rw [pl_w64 (x := t + 1) (by omega) (by omega), days_is hw hs hlen h0 ha.2 (by omega) hR hf t (by omega), days_is hw hs hlen h0 ha.2 (by omega) hR hf (t + 1) (by omega)]
    simp only [Option.bind_some]
    rw [if_pos (by omega), if_pos (by have := hf.1; omega)]
    have hj2 : ∀ x y, x = y → arrearslaw10_AgingDayByDay.j2 (k + 1) l t x y p.f0 p.f1 = some true := by
      intro x y hxy
      simp only [arrearslaw10_AgingDayByDay.j2]
      rw [if_pos hxy, copied_is l hlen]
      simp only [Option.bind_some]
      rw [pl_w64 (x := t + 1) (by omega) (by omega), hpast, hpast']
      simp only [Option.bind_some]
      rw [decide_eq_true (pastV_mono hs (by omega) hf hdt hdt' (by omega))]
    show (if (rr l (n : Int)).f0 ≤ t then _ else _) = _
    by_cases c : (rr l (n : Int)).f0 ≤ t
    · rw [if_pos c]
      apply hj2
      have h1 : lateD l n t = t - (rr l (n : Int)).f0 := by unfold lateD; split <;> omega
      have h2 : lateD l n (t + 1) = t + 1 - (rr l (n : Int)).f0 := by unfold lateD; rw [if_neg (by omega)]
      rw [h1, h2, pl_w64 (by omega) (by omega)]; omega
    · rw [if_neg c]
      apply hj2
      unfold lateD; rw [if_pos (by omega)]
end Go.Proofs.Ytncfoaglmggdhaa.G
