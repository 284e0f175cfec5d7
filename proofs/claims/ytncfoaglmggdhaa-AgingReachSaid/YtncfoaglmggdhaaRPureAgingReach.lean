/- AgingReach: of every plan, position, day and number of days the law's answer is true: Reach is the document's, and the plan is as it was. -/
import Derived.Test.YtncfoaglmggdhaaRAgeB
import Derived.Test.YtncfoaglmggdhaaRx14
import Derived.Test.YtncfoaglmggdhaaRx12
import Derived.Test.YtncfoaglmggdhaaRx11
import Derived.Test.YtncfoaglmggdhaaRx10
import Derived.Test.YtncfoaglmggdhaaRx13
namespace Go.Proofs.Ytncfoaglmggdhaa.R
open Go.RowKit Go.Proofs.YtncfoaglmggdhaaW.PrintWords Go.Proofs.YtncfoaglmggdhaaW.PrintLast Go.Proofs.YtncfoaglmggdhaaW.PrintMore
set_option linter.unusedVariables false
set_option linter.unusedSimpArgs false

theorem paid_is (A R : Int) : arrearsref10_paid.f A R = some (app A) := by
  unfold arrearsref10_paid.f app
  split <;> rfl
theorem sat_loop (l : List Row) (hs : Snd l) (hl : l.length ≤ 400) (A R : Int) (d : Nat) : ∀ (k i n : Nat), i + d + 1 = l.length → d < k → n ≤ i → pre l n ≤ app A → (∀ m, n < m → m ≤ i → app A < pre l m) →
    ∃ n' : Nat, arrearsref10_satisfied.l0 k l (n : Int) (pre l i) (i : Int) A R = some (n' : Int) ∧ Fr l (app A) n' := by
  induction d with
  | zero =>
    intro k i n hi hk hn hp hm
    obtain ⟨k, rfl⟩ : ∃ m, k = m + 1 := ⟨k - 1, by omega⟩
    refine ⟨n, ?_, by omega, hp, ?_⟩
    · simp only [arrearsref10_satisfied.l0]
      rw [pl_w64 (x := (i : Int) + 1) (by omega) (by omega), if_neg (by omega)]
    · rcases Nat.lt_or_ge n i with c | c
      · exact .inr (hm (n + 1) (by omega) (by omega))
      · exact .inl (by omega)
  | succ d ih =>
    intro k i n hi hk hn hp hm
    obtain ⟨k, rfl⟩ : ∃ m, k = m + 1 := ⟨k - 1, by omega⟩
    have h1 := pre_succ l i (by omega)
    have h0 := hs.pre0 (i := i) (by omega)
    have hM := hs.preM (i := i + 1) (by omega)
    have hpos := hs.pos i (by omega)
    unfold amt at h1
    have e : wrap64 ((wrap64 (pre l i + (rr l (i : Int)).f1)) + (rr l (i : Int)).f2) = pre l (i + 1) := by
      rw [pl_w64 (x := pre l i + (rr l (i : Int)).f1) (by omega) (by omega), pl_w64 (by omega) (by omega)]; omega
    simp only [arrearsref10_satisfied.l0]
    rw [pl_w64 (x := (i : Int) + 1) (by omega) (by omega), if_pos (by omega), if_pos (by omega), if_pos (by omega), paid_is, Option.bind_some]
    have e2 : (i : Int) + 1 = ((i + 1 : Nat) : Int) := by omega
    show ∃ n' : Nat, (if wrap64 ((wrap64 (pre l i + (rr l (i : Int)).f1)) + (rr l (i : Int)).f2) ≤ app A then arrearsref10_satisfied.l0 k l ((i : Int) + 1) (wrap64 ((wrap64 (pre l i + (rr l (i : Int)).f1)) + (rr l (i : Int)).f2)) ((i : Int) + 1) A R
      else arrearsref10_satisfied.l0 k l (n : Int) (wrap64 ((wrap64 (pre l i + (rr l (i : Int)).f1)) + (rr l (i : Int)).f2)) ((i : Int) + 1) A R) = some (n' : Int) ∧ _
    rw [e, e2]
    by_cases c : pre l (i + 1) ≤ app A
    · rw [if_pos c]
      exact ih k (i + 1) (i + 1) (by omega) (by omega) (Nat.le_refl _) c (fun m h1 h2 => by omega)
    · rw [if_neg c]
      exact ih k (i + 1) n (by omega) (by omega) (by omega) hp (fun m h1 h2 => by
        by_cases e : m = i + 1
        · subst e; omega
        · exact hm m h1 (by omega))
theorem oldest_same (l : List Row) (hw : rowsOk l) (hl : l.length ≤ 400) (A R : Int) (hA : A ≤ 9223372036854775807) (k : Nat) (hk : 3000 < k) : arrearsref10_Oldest.f k l A R = aging_Oldest.f k l A R := by
  obtain ⟨b, hb, hi⟩ := ref_Sound l hw hl k (by omega)
  obtain ⟨b2, hb2, hi2⟩ := prog_sound l hw hl
  have eb : b = b2 := by
    cases b <;> cases b2 <;> simp at hi hi2 ⊢
    · exact hi hi2
    · exact hi2 hi
  subst eb
  unfold arrearsref10_Oldest.f arrearsref10_rows.f aging_Oldest.f
  rw [hb, hb2]
  simp only [Option.bind_some]
  obtain ⟨k, rfl⟩ : ∃ m, k = m + 1 := ⟨k - 1, by omega⟩
  cases b with
  | false =>
    rw [if_neg (by simp), if_neg (by simp)]
    simp only [Option.bind_some]
    have e : arrearsref10_satisfied.f (k + 1) [] A R = some 0 := by
      unfold arrearsref10_satisfied.f
      split
      · rfl
      · simp only [arrearsref10_satisfied.l0]
        rw [pl_w64 (x := (0 : Int) + 1) (by omega) (by omega), if_neg (by simp)]
    rw [e]; simp
  | true =>
    have hs := hi.1 rfl
    rw [if_pos rfl, if_pos rfl]
    simp only [Option.bind_some]
    by_cases c : R ≤ 0
    · rw [front_done l A R c]
      have e : arrearsref10_satisfied.f (k + 1) l A R = some (l.length : Int) := by unfold arrearsref10_satisfied.f; rw [if_pos c]
      rw [e]; simp
    · by_cases h0 : 0 < l.length
      · obtain ⟨n, hn, hf⟩ := front_is l hs hl h0 A R hA c (k + 1) (by omega)
        have h1 : ∃ n' : Nat, arrearsref10_satisfied.f (k + 1) l A R = some (n' : Int) ∧ Fr l (app A) n' := by
          unfold arrearsref10_satisfied.f
          rw [if_neg c]
          have := sat_loop l hs hl A R (l.length - 1) (k + 1) 0 0 (by omega) (by omega) (Nat.le_refl _) (by rw [pre_zero]; exact app0 A) (fun m h1 h2 => by omega)
          rw [pre_zero] at this
          exact this
        obtain ⟨n', hn', hf'⟩ := h1
        obtain rfl := Fr.uniq hs hf hf'
        have := hf.1
        rw [hn, hn']
        simp only [Option.bind_some]
        rw [if_neg (by omega), if_neg (by omega)]
      · have e0 : l = [] := List.length_eq_zero_iff.1 (by omega)
        subst e0
        have e1 : arrearsref10_satisfied.f (k + 1) [] A R = some 0 := by
          unfold arrearsref10_satisfied.f
          rw [if_neg c]
          simp only [arrearsref10_satisfied.l0]
          rw [pl_w64 (x := (0 : Int) + 1) (by omega) (by omega), if_neg (by simp)]
        have e2 : aging_front.f (k + 1) [] A R = some 0 := by
          unfold aging_front.f
          rw [if_neg c]
          simp only [aging_front.l0]
          rw [if_neg (by simp)]
        rw [e1, e2]; simp
theorem reach_same (l : List Row) (hw : rowsOk l) (hl : l.length ≤ 400) (A R t n : Int) (hA : A ≤ 9223372036854775807) (k : Nat) (hk : 3000 < k) : ∃ q, aging_Reach.f k l A R t n = some q ∧ arrearsref10_Reach.f k l A R t n = some q := by
  unfold aging_Reach.f arrearsref10_Reach.f
  rw [oldest_same l hw hl A R hA k hk]
  obtain ⟨b2, hb2, hi2⟩ := prog_sound l hw hl
  have hold : aging_Oldest.f k l A R = some (0, false) ∨ ∃ m : Nat, aging_Oldest.f k l A R = some ((m : Int), true) ∧ m < l.length ∧ Snd l := by
    unfold aging_Oldest.f
    rw [hb2]
    simp only [Option.bind_some]
    cases b2 with
    | false => rw [if_neg (by simp)]; exact .inl rfl
    | true =>
      have hs := hi2.1 rfl
      rw [if_pos rfl]
      by_cases c : R ≤ 0
      · rw [front_done l A R c]; simp
      · by_cases h0 : 0 < l.length
        · obtain ⟨m, hm, hf⟩ := front_is l hs hl h0 A R hA c k (by omega)
          have := hf.1
          rw [hm]
          simp only [Option.bind_some]
          rw [if_neg (by omega)]
          exact .inr ⟨m, rfl, this, hs⟩
        · have e0 : l = [] := List.length_eq_zero_iff.1 (by omega)
          subst e0
          obtain ⟨k, rfl⟩ : ∃ m, k = m + 1 := ⟨k - 1, by omega⟩
          unfold aging_front.f
          rw [if_neg c]
          simp only [aging_front.l0]
          rw [if_neg (by simp)]; simp
  obtain ⟨k, rfl⟩ : ∃ m, k = m + 1 := ⟨k - 1, by omega⟩
  rcases hold with h | ⟨m, h, hm, hs⟩
  · rw [h]
    simp only [Option.bind_some]
    rw [if_neg (by simp), if_neg (by simp)]
    exact ⟨_, rfl, by simp [arrearsref10_Reach.j0]⟩
  · rw [h]
    simp only [Option.bind_some, if_true]
    by_cases c1 : t < 0
    · rw [if_pos c1, if_pos c1]; exact ⟨_, rfl, by simp [arrearsref10_Reach.j0]⟩
    rw [if_neg c1, if_neg c1]
    by_cases c2 : t > 3652059
    · rw [if_pos c2, if_pos c2]; exact ⟨_, rfl, by simp [arrearsref10_Reach.j0]⟩
    rw [if_neg c2, if_neg c2]
    by_cases c3 : n < 1
    · rw [if_pos c3, if_pos c3]; exact ⟨_, rfl, by simp [arrearsref10_Reach.j0]⟩
    rw [if_neg c3, if_neg c3]
    by_cases c4 : n > 3652059
    · rw [if_pos c4, decide_eq_true c4]; exact ⟨_, rfl, by simp [arrearsref10_Reach.j0]⟩
    rw [if_neg c4, decide_eq_false c4]
    have hd := hs.due m hm
    simp only [arrearsref10_Reach.j0, Bool.false_eq_true, if_false]
    rw [if_pos (by omega), if_pos (by omega), if_pos (by omega), if_pos (by omega)]
    show ∃ q, some (mx (wrap64 (t + 1)) (wrap64 ((rr l (m : Int)).f0 + n)), true) = some q ∧ Option.bind (arrearsref10_late.f ((rr l (m : Int)).f0) ((rr l (m : Int)).f1) ((rr l (m : Int)).f2) ((rr l (m : Int)).f3) (wrap64 (t + 1))) (fun t151 => if t151 < n then some (wrap64 ((rr l (m : Int)).f0 + n), true) else some (wrap64 (t + 1), true)) = some q
    rw [pl_w64 (x := t + 1) (by omega) (by omega), pl_w64 (x := (rr l (m : Int)).f0 + n) (by omega) (by omega)]
    refine ⟨_, rfl, ?_⟩
    unfold arrearsref10_late.f mx
    by_cases c5 : t + 1 ≤ (rr l (m : Int)).f0
    · rw [if_pos c5, Option.bind_some, if_pos (by omega), if_pos (by omega)]
    · rw [if_neg c5, Option.bind_some, pl_w64 (x := t + 1 - (rr l (m : Int)).f0) (by omega) (by omega)]
      by_cases c6 : t + 1 - (rr l (m : Int)).f0 < n
      · rw [if_pos c6, if_pos (by omega)]
      · rw [if_neg c6, if_neg (by omega)]
theorem samePlan_loop (l : List Row) (hl : l.length ≤ 400) (d : Nat) : ∀ (k i : Nat), i + d = l.length → d < k → arrearslaw10_samePlan.l0 k l l (i : Int) = some true := by
  induction d with
  | zero =>
    intro k i hi hk
    obtain ⟨k, rfl⟩ : ∃ m, k = m + 1 := ⟨k - 1, by omega⟩
    simp only [arrearslaw10_samePlan.l0]
    rw [if_neg (by omega)]
  | succ d ih =>
    intro k i hi hk
    obtain ⟨k, rfl⟩ : ∃ m, k = m + 1 := ⟨k - 1, by omega⟩
    simp only [arrearslaw10_samePlan.l0]
    rw [if_pos (by omega), if_pos (by omega), if_pos (by omega), if_neg (by simp), pl_w64 (x := (i : Int) + 1) (by omega) (by omega)]
    exact ih k (i + 1) (by omega) (by omega)
theorem samePlan_self (l : List Row) (hl : l.length ≤ 400) (k : Nat) (hk : 1000 < k) : arrearslaw10_samePlan.f k l l = some true := by
  unfold arrearslaw10_samePlan.f
  rw [if_pos rfl]
  exact samePlan_loop l hl l.length k 0 (by omega) (by omega)
def AgingReach_Pure : Prop := ∀ (B0 B1 : Nat) (l0 : List (S31)) (x1 : S24) (a2 : Int) (a3 : Int), ((∀ x_ ∈ l0, WF31 B0 x_) ∧ l0.length * 32 ≤ 140737488351232 ∧ l0.length ≤ B0) → (WF24 B1 x1) → ((Lit.int .i64 a2).wf = true) → ((Lit.int .i64 a3).wf = true) → ∃ k, arrearslaw10_AgingReach.f k l0 x1.f0 x1.f1 a2 a3 = some true
theorem AgingReach_pure : AgingReach_Pure := by
  intro B0 B1 l p t n hl hp ht hn
  refine ⟨5000, ?_⟩
  have hw : rowsOk l := hl.1
  have hA := wf64 hp.1
  unfold arrearslaw10_AgingReach.f
  by_cases c : (l.length : Int) > 400
  · rw [if_pos c]
  · rw [if_neg c, copied_is l (by omega)]
    obtain ⟨q, h1, h2⟩ := reach_same l hw (by omega) p.f0 p.f1 t n hA.2 5000 (by omega)
    simp only [Option.bind_some]
    rw [h1, h2]
    simp only [Option.bind_some]
    rw [samePlan_self l (by omega) 5000 (by omega)]
    simp
end Go.Proofs.Ytncfoaglmggdhaa.R
