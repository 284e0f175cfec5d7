/- AgingAgree: of every plan, position and day the law's answer is true: something is past due just where there are days past due; never more than is owed; all of it behind the last due day. -/
import Derived.Test.YtncfoaglmggdhaaGAgeB
import Derived.Test.YtncfoaglmggdhaaGPureAgingFront
import Derived.Test.YtncfoaglmggdhaaGx10
namespace Go.Proofs.Ytncfoaglmggdhaa.G
open Go.RowKit Go.Proofs.YtncfoaglmggdhaaW.PrintWords Go.Proofs.YtncfoaglmggdhaaW.PrintLast
set_option linter.unusedVariables false

def AgingAgree_Pure : Prop := ∀ (l0 : List (S31)) (x1 : S24) (a2 : Int), ((∀ x_ ∈ l0, WF31 x_) ∧ l0.length * 32 ≤ 140737488351232) → (WF24 x1) → ((Lit.int .i64 a2).wf = true) → ∃ k, arrearslaw10_AgingAgree.f k l0 x1.f0 x1.f1 a2 = some true
theorem agree_skip (l : List Row) (t a R : Int) (k : Nat) : arrearslaw10_AgingAgree.j0 (k + 1) l t true a R = some true := by simp [arrearslaw10_AgingAgree.j0]
/-- Of a row that is oldest and late: what is past due is above 0. -/
theorem past_pos {l : List Row} (hs : Snd l) {A : Int} {n m : Nat} {t : Int} (hf : Fr l A n) (hd : DueTo l t m) (hl : (rr l (n : Int)).f0 < t) (hm : m ≠ l.length) : A < pre l m := by
  have hnm : n + 1 ≤ m := by
    rcases Nat.lt_or_ge n m with g | g
    · exact g
    · exfalso
      have h1 := hd.2.2 (by have := hd.1; omega)
      rcases Nat.lt_or_ge m n with g2 | g2
      · have := hs.due_mono g2 hf.1; omega
      · have : m = n := by omega
        subst this; omega
  have h2 := hs.mono' hnm hd.1
  rcases hf.2.2 with g | g
  · have := hd.1; omega
  · omega
theorem AgingAgree_pure : AgingAgree_Pure := by
  intro l p t hl hp ht
  obtain ⟨k, hk⟩ : ∃ k, 3000 < k := ⟨3001, by omega⟩
  refine ⟨k + 1 + 1, ?_⟩
  have hw : rowsOk l := hl.1
  obtain ⟨b, hb1, hi⟩ := lsound_is l hw (k + 1 + 1) (by omega)
  unfold arrearslaw10_AgingAgree.f
  rw [hb1]
  simp only [Option.bind_some]
  cases b with
  | false => rw [if_neg (by simp)]; exact agree_skip ..
  | true =>
    obtain ⟨hs, h0, hlen⟩ := hi rfl
    rw [if_pos rfl]
    by_cases hR : p.f1 ≤ 0
    · rw [decide_eq_true hR]; exact agree_skip ..
    rw [decide_eq_false hR]
    have ha := (wf64 hp.1)
    have htt := wf64 ht
    obtain ⟨n, hS, hO, hf⟩ := satisfied_is hw hs hlen h0 (a := p.f0) (R := p.f1) (k := k) ha.2 (by omega) hR
    have hdue := hs.due n hf.1
    obtain ⟨m, hpast, hdt⟩ := past_is hw hs hlen h0 ha.2 hR hf t (k := k + 1) (by omega)
    simp only [arrearslaw10_AgingAgree.j0, Bool.false_eq_true, if_false]
    rw [copied_is l hlen]
    simp only [Option.bind_some]
    rw [days_is hw hs hlen h0 ha.2 (by omega) hR hf t (by omega), hpast]
    simp only [Option.bind_some]
    have hd0 : 0 ≤ lateD l n t := by unfold lateD; split <;> omega
    have hA := app0 p.f0
    have hl0 : lateD l n t > 0 ↔ (rr l (n : Int)).f0 < t := by unfold lateD; split <;> omega
    have hpv : 0 ≤ pastV l p.f0 p.f1 t n m ∧ pastV l p.f0 p.f1 t n m ≤ p.f1 ∧ (pastV l p.f0 p.f1 t n m > 0 ↔ (rr l (n : Int)).f0 < t) ∧ (m = l.length → (rr l (n : Int)).f0 < t → pastV l p.f0 p.f1 t n m = p.f1) := by
      unfold pastV
      by_cases c : t ≤ (rr l (n : Int)).f0
      · rw [if_pos c]; exact ⟨by omega, by omega, by omega, fun _ _ => by omega⟩
      · rw [if_neg c]
        by_cases c2 : m = l.length
        · rw [if_pos c2]; exact ⟨by omega, by omega, by omega, fun _ _ => rfl⟩
        · rw [if_neg c2]
          have := past_pos hs hf hdt (by omega) c2
          unfold mn
          split <;> exact ⟨by omega, by omega, by omega, fun h _ => absurd h c2⟩
    rw [if_neg (by omega), if_neg (by omega), if_neg (by omega)]
    have hne : ((decide (lateD l n t > 0)) != (decide (pastV l p.f0 p.f1 t n m > 0))) = false := by
      by_cases c : (rr l (n : Int)).f0 < t
      · rw [decide_eq_true (hl0.2 c), decide_eq_true (hpv.2.2.1.2 c)]; rfl
      · rw [decide_eq_false (fun h => c (hl0.1 h)), decide_eq_false (fun h => c (hpv.2.2.1.1 h))]; rfl
    rw [hne]
    simp only [arrearslaw10_AgingAgree.j1, Bool.false_eq_true, if_false]
    rw [pl_w64 (x := (l.length : Int) - 1) (by omega) (by omega), if_pos (by omega), if_pos (by omega)]
    have e : ((l.length : Int) - 1) = ((l.length - 1 : Nat) : Int) := by omega
    rw [e]
    show (if (rr l ((l.length - 1 : Nat) : Int)).f0 < t then _ else _) = _
    by_cases c : (rr l ((l.length - 1 : Nat) : Int)).f0 < t
    · rw [if_pos c]
      have hm : m = l.length := by
        rcases Nat.lt_or_ge m l.length with g | g
        · exfalso
          have h1 := hdt.2.2 g
          rcases Nat.lt_or_ge m (l.length - 1) with g2 | g2
          · have := hs.due_mono g2 (by omega); omega
          · have : m = l.length - 1 := by omega
            subst this; omega
        · have := hdt.1; omega
      have hn : (rr l (n : Int)).f0 < t := by
        rcases Nat.lt_or_ge n (l.length - 1) with g | g
        · have := hs.due_mono g (by omega); omega
        · have : n = l.length - 1 := by have := hf.1; omega
          subst this; exact c
      rw [if_pos (hpv.2.2.2 hm hn), decide_eq_true (hl0.2 hn)]
    · rw [if_neg c, if_pos (by omega)]
      show (if (rr l ((0 : Nat) : Int)).f0 < t then _ else _) = _
      by_cases c2 : (rr l ((0 : Nat) : Int)).f0 < t
      · rw [if_pos c2]
      · rw [if_neg c2]
        have : lateD l n t = 0 := by
          have h1 : (rr l ((0 : Nat) : Int)).f0 ≤ (rr l (n : Int)).f0 := by
            rcases Nat.eq_zero_or_pos n with g | g
            · rw [g]; exact Int.le_refl _
            · have := hs.due_mono g hf.1; omega
          unfold lateD; rw [if_pos (by omega)]
        rw [this]; rfl
end Go.Proofs.Ytncfoaglmggdhaa.G
