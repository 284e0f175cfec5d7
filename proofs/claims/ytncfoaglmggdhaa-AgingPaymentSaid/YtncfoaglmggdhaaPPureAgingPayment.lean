/- AgingPayment: of every plan, position, amount and day the law's answer is true: paying never makes it worse; nothing owed, nothing late. -/
import Derived.Test.YtncfoaglmggdhaaPAgeB
import Derived.Test.YtncfoaglmggdhaaPx10
namespace Go.Proofs.Ytncfoaglmggdhaa.P
open Go.RowKit Go.Proofs.YtncfoaglmggdhaaW.PrintWords Go.Proofs.YtncfoaglmggdhaaW.PrintLast Go.Proofs.YtncfoaglmggdhaaW.PrintMore
set_option linter.unusedVariables false

theorem lsound_is (l : List Row) (hw : rowsOk l) (k : Nat) (hk : 2000 < k) : ∃ b, arrearslaw10_sound.f k l = some b ∧ (b = true → Snd l ∧ 0 < l.length ∧ l.length ≤ 400) := by
  unfold arrearslaw10_sound.f
  by_cases c : (l.length : Int) > 0
  · rw [if_pos c]
    by_cases c2 : (l.length : Int) ≤ 400
    · rw [if_pos c2]
      obtain ⟨b, hb, hi⟩ := ref_Sound l hw (by omega) k hk
      rw [hb]
      exact ⟨b, rfl, fun h => ⟨hi.1 h, by omega, by omega⟩⟩
    · rw [if_neg c2]; exact ⟨false, rfl, fun h => by cases h⟩
  · rw [if_neg c]; exact ⟨false, rfl, fun h => by cases h⟩
theorem pay_skip (l : List Row) (a t p q : Int) (k : Nat) : arrearslaw10_AgingPayment.j0 (k + 1) l a t true p q = some true := by simp [arrearslaw10_AgingPayment.j0]
theorem past_nonneg {l : List Row} (hs : Snd l) {a R t : Int} {n m : Nat} (hR : 0 < R) (hf : Fr l (app a) n) (hd : DueTo l t m) : 0 ≤ pastV l a R t n m := by
  unfold pastV
  by_cases c : t ≤ (rr l (n : Int)).f0
  · rw [if_pos c]; omega
  · rw [if_neg c]
    by_cases c2 : m = l.length
    · rw [if_pos c2]; omega
    · rw [if_neg c2]
      have hnm : n + 1 ≤ m := by
        rcases Nat.lt_or_ge n m with g | g
        · exact g
        · exfalso
          have h1 := hd.2.2 (by have := hd.1; omega)
          rcases Nat.lt_or_ge m n with g2 | g2
          · have := hs.due_mono g2 hf.1; omega
          · have : m = n := by omega
            subst this; omega
      have h2 := hs.mono' hnm hd.1
      rcases hf.2.2 with g | g
      · have := hd.1; omega
      · unfold mn; split <;> omega
theorem pay_main (l : List Row) (hw : rowsOk l) (hs : Snd l) (h0 : 0 < l.length) (hlen : l.length ≤ 400) (A R A' R' t : Int) (hA : 0 ≤ A) (hAA : A ≤ A') (hA' : A' ≤ 9223372036854775807) (hR' : R' ≤ 0 ∨ (R' ≤ R ∧ 0 < R)) (hRR : R ≤ 0 → R' ≤ 0) (ht : t ≤ 9223372036854775807) (k : Nat) (hk : 3000 < k) :
    arrearslaw10_AgingPayment.j1 (k + 1) l t A R A' R' = some true := by
  have dn := fun (a R : Int) (h : R ≤ 0) => satisfied_done hw hs hlen (a := a) (k := k) h
  have dd := fun (a R : Int) (h : R ≤ 0) => days_done hw hs hlen (a := a) (k := k) h t
  have dp := fun (a R : Int) (h : R ≤ 0) => pastdue_done hw hs hlen (a := a) (k := k) h t (by omega)
  simp only [arrearslaw10_AgingPayment.j1]
  rw [copied_is l hlen]
  simp only [Option.bind_some]
  rw [dd A 0 (by omega), dp A 0 (by omega), dn A 0 (by omega)]
  simp only [Option.bind_some]
  have fin : (if (0 : Int) = 0 then (if (0 : Int) = 0 then some ((l.length : Int) == (l.length : Int)) else none) else none) = some true := by simp
  by_cases hR : R ≤ 0
  · have h' := hRR hR
    rw [dn A' R' h', dn A R hR, dd A' R' h', dd A R hR, dp A' R' h', dp A R hR]
    simp
  · have hA2 : A ≤ 9223372036854775807 := by omega
    obtain ⟨n, hS, hO, hf⟩ := satisfied_is hw hs hlen h0 (a := A) (R := R) (k := k) hA2 (by omega) hR
    obtain ⟨m, hpast, hdt⟩ := past_is hw hs hlen h0 hA2 hR hf t (k := k) (by omega)
    have hdays := days_is hw hs hlen h0 hA2 (k := k) (by omega) hR hf t ht
    have hd0 : 0 ≤ lateD l n t := by unfold lateD; split <;> omega
    have hRp : 0 < R := by omega
    have hp0 := past_nonneg hs hRp hf hdt
    have hnl := hf.1
    by_cases h' : R' ≤ 0
    · rw [dn A' R' h', hS, dd A' R' h', hdays, dp A' R' h', hpast]
      simp only [Option.bind_some]
      rw [if_neg (by omega), if_neg (by omega), if_neg (by omega)]
      simp
    · have hle : R' ≤ R := by rcases hR' with g | g; exact absurd g h'; exact g.1
      obtain ⟨n', hS', hO', hf'⟩ := satisfied_is hw hs hlen h0 (a := A') (R := R') (k := k) hA' (by omega) h'
      obtain ⟨m', hpast', hdt'⟩ := past_is hw hs hlen h0 hA' h' hf' t (k := k) (by omega)
      have hdays' := days_is hw hs hlen h0 hA' (k := k) (by omega) h' hf' t ht
      obtain rfl := DueTo.uniq hdt hdt'
      have a1 : app A = A := by unfold app; rw [if_neg (by omega)]
      have a2 : app A' = A' := by unfold app; rw [if_neg (by omega)]
      have hnn : n ≤ n' := Fr.mono hs hf hf' (by rw [a1, a2]; exact hAA)
      have hdue : (rr l (n : Int)).f0 ≤ (rr l (n' : Int)).f0 := by
        rcases Nat.lt_or_ge n n' with g | g
        · have := hs.due_mono g hf'.1; omega
        · have : n = n' := by omega
          subst this; omega
      have hl : lateD l n' t ≤ lateD l n t := by unfold lateD; split <;> split <;> omega
      have hp : pastV l A' R' t n' m ≤ pastV l A R t n m := by
        by_cases c : t ≤ (rr l (n' : Int)).f0
        · have e : pastV l A' R' t n' m = 0 := by unfold pastV; rw [if_pos c]
          omega
        · unfold pastV
          rw [if_neg c, a1, a2]
          by_cases cm : m = l.length
          · rw [if_pos cm, if_neg (by omega), if_pos cm]; exact hle
          · rw [if_neg cm, if_neg (by omega), if_neg cm]; unfold mn; split <;> split <;> omega
      rw [hS', hS, hdays', hdays, hpast', hpast]
      simp only [Option.bind_some]
      rw [if_neg (by omega), if_neg (by omega), if_neg (by omega)]
      simp
def AgingPayment_Pure : Prop := ∀ (B0 B1 : Nat) (l0 : List (S31)) (x1 : S24) (a2 : Int) (a3 : Int), ((∀ x_ ∈ l0, WF31 B0 x_) ∧ l0.length * 32 ≤ 140737488351232 ∧ l0.length ≤ B0) → (WF24 B1 x1) → ((Lit.int .i64 a2).wf = true) → ((Lit.int .i64 a3).wf = true) → ∃ k, arrearslaw10_AgingPayment.f k l0 x1.f0 x1.f1 a2 a3 = some true
theorem AgingPayment_pure : AgingPayment_Pure := by
  intro B0 B1 l p a t hl hp ha ht
  refine ⟨3003, ?_⟩
  have hw : rowsOk l := hl.1
  obtain ⟨b, hb1, hi⟩ := lsound_is l hw 3003 (by omega)
  have hA := wf64 hp.1
  have hR := wf64 hp.2
  have haa := wf64 ha
  have htt := wf64 ht
  obtain ⟨A, R⟩ := p
  dsimp only at hA hR ⊢
  unfold arrearslaw10_AgingPayment.f
  rw [hb1]
  simp only [Option.bind_some]
  cases b with
  | false => rw [if_neg (by simp)]; exact pay_skip ..
  | true =>
    obtain ⟨hs, h0, hlen⟩ := hi rfl
    rw [if_pos rfl]
    by_cases c1 : a < 0
    · rw [if_pos c1]; exact pay_skip ..
    rw [if_neg c1]
    by_cases c2 : A < 0
    · rw [if_pos c2]; exact pay_skip ..
    rw [if_neg c2]
    by_cases c3 : A > 4611686018427387904
    · rw [if_pos c3]; exact pay_skip ..
    rw [if_neg c3]
    by_cases c4 : a > 2305843009213693952
    · rw [decide_eq_true c4]; exact pay_skip ..
    rw [decide_eq_false c4]
    simp only [arrearslaw10_AgingPayment.j0, Bool.false_eq_true, if_false]
    rw [pl_w64 (x := A + a) (by omega) (by omega)]
    by_cases c5 : R < a
    · rw [if_pos c5]
      by_cases c6 : R < 0
      · rw [if_pos c6]
        exact pay_main l hw hs h0 hlen A R (A + a) R t (by omega) (by omega) (by omega) (.inl (by omega)) (fun h => h) htt.2 3001 (by omega)
      · rw [if_neg c6]
        exact pay_main l hw hs h0 hlen A R (A + a) 0 t (by omega) (by omega) (by omega) (.inl (by omega)) (fun h => by omega) htt.2 3001 (by omega)
    · rw [if_neg c5, pl_w64 (x := R - a) (by omega) (by omega)]
      refine pay_main l hw hs h0 hlen A R (A + a) (R - a) t (by omega) (by omega) (by omega) ?_ (fun h => by omega) htt.2 3001 (by omega)
      by_cases c7 : R - a ≤ 0
      · exact .inl c7
      · exact .inr ⟨by omega, by omega⟩
end Go.Proofs.Ytncfoaglmggdhaa.P
