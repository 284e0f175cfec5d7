/- AgingFront: of every plan and position the law's answer is true: the satisfied rows are those at the front that what was applied covers, and no row more. -/
import Derived.Test.YtncfoaglmggdhaaGAgeB
import Derived.Test.YtncfoaglmggdhaaGx5
namespace Go.Proofs.Ytncfoaglmggdhaa.G
open Go.RowKit Go.Proofs.YtncfoaglmggdhaaW.PrintWords Go.Proofs.YtncfoaglmggdhaaW.PrintLast
set_option linter.unusedVariables false

theorem lsound_is (l : List Row) (hw : rowsOk l) (k : Nat) (hk : 2000 < k) : ∃ b, arrearslaw10_sound.f k l = some b ∧ (b = true → Snd l ∧ 0 < l.length ∧ l.length ≤ 400) := by
  unfold arrearslaw10_sound.f
  by_cases c : (l.length : Int) > 0
  · rw [if_pos c]
    by_cases c2 : (l.length : Int) ≤ 400
    · rw [if_pos c2]
      obtain ⟨b, hb, hi⟩ := ref_Sound l hw (by omega) k hk
      rw [hb]
      exact ⟨b, rfl, fun h => ⟨hi.1 h, by omega, by omega⟩⟩
    · rw [if_neg c2]; exact ⟨false, rfl, fun h => by cases h⟩
  · rw [if_neg c]; exact ⟨false, rfl, fun h => by cases h⟩
theorem afront_loop (l : List Row) (hs : Snd l) (hl : l.length ≤ 400) (A : Int) (hA0 : 0 ≤ A) (hA : A ≤ 9223372036854775807) (n : Nat) (hf : Fr l A n) (d : Nat) : ∀ (k i : Nat), i + d = n → d < k →
    arrearslaw10_AgingFront.l0 k l (n : Int) (A - pre l i) (i : Int) = some true := by
  have hnl := hf.1
  induction d with
  | zero =>
    intro k i hi hk
    obtain ⟨k, rfl⟩ : ∃ m, k = m + 1 := ⟨k - 1, by omega⟩
    have e : i = n := by omega
    subst e
    simp only [arrearslaw10_AgingFront.l0]
    rw [if_neg (by omega), pl_w64 (x := (l.length : Int) - 1) (by omega) (by omega)]
    by_cases c : (i : Int) = (l.length : Int) - 1
    · rw [if_pos c]
    · rw [if_neg c, if_pos (by omega), if_pos (by omega)]
      have h1 : A < pre l (i + 1) := by
        rcases hf.2.2 with g | g
        · omega
        · exact g
      rw [pre_succ l i (by omega)] at h1
      have hp := hs.pos i (by omega)
      have hp1 := hf.2.1
      have hp0 := hs.pre0 (i := i) (by omega)
      show (if A - pre l i < (rr l (i : Int)).f1 then some true else some (decide (wrap64 (A - pre l i - (rr l (i : Int)).f1) < (rr l (i : Int)).f2))) = some true
      by_cases c2 : A - pre l i < (rr l (i : Int)).f1
      · rw [if_pos c2]
      · rw [if_neg c2, pl_w64 (by omega) (by omega), decide_eq_true]
        unfold amt at h1; omega
  | succ d ih =>
    intro k i hi hk
    obtain ⟨k, rfl⟩ : ∃ m, k = m + 1 := ⟨k - 1, by omega⟩
    have hp := hs.pos i (by omega)
    have hp0 := hs.pre0 (i := i) (by omega)
    have hsum := pre_succ l i (by omega)
    have hm := hs.mono' (i := i + 1) (j := n) (by omega) (by omega)
    have hfn := hf.2.1
    have ha : amt (rr l (i : Int)) = (rr l (i : Int)).f1 + (rr l (i : Int)).f2 := rfl
    simp only [arrearslaw10_AgingFront.l0]
    rw [if_pos (by omega), if_pos (by omega), if_pos (by omega)]
    rw [show wrap64 (A - pre l i - (rd_T31 l (i : Int)).f1) = A - pre l i - (rr l (i : Int)).f1 from pl_w64 (by show _ ≤ A - pre l i - (rr l (i : Int)).f1; omega) (by show A - pre l i - (rr l (i : Int)).f1 ≤ _; omega)]
    rw [show wrap64 (A - pre l i - (rr l (i : Int)).f1 - (rd_T31 l (i : Int)).f2) = A - pre l (i + 1) from by rw [show A - pre l i - (rr l (i : Int)).f1 - (rd_T31 l (i : Int)).f2 = A - pre l (i + 1) from by show A - pre l i - (rr l (i : Int)).f1 - (rr l (i : Int)).f2 = _; omega]; exact pl_w64 (by omega) (by omega)]
    rw [if_neg (by omega), pl_w64 (x := (i : Int) + 1) (by omega) (by omega)]
    have e : ((i : Int) + 1) = ((i + 1 : Nat) : Int) := by omega
    rw [e]
    exact ih k (i + 1) (by omega) (by omega)

def AgingFront_Pure : Prop := ∀ (l0 : List (S31)) (x1 : S24), ((∀ x_ ∈ l0, WF31 x_) ∧ l0.length * 32 ≤ 140737488351232) → (WF24 x1) → ∃ k, arrearslaw10_AgingFront.f k l0 x1.f0 x1.f1 = some true
theorem AgingFront_pure : AgingFront_Pure := by
  intro l p hl hp
  refine ⟨3000, ?_⟩
  have hw : rowsOk l := hl.1
  obtain ⟨b, hb, hi⟩ := lsound_is l hw 3000 (by omega)
  unfold arrearslaw10_AgingFront.f
  rw [hb]
  simp only [Option.bind_some]
  cases b with
  | false => rfl
  | true =>
    obtain ⟨hs, h0, hlen⟩ := hi rfl
    rw [if_pos rfl, copied_is l hlen]
    simp only [Option.bind_some]
    by_cases hR : p.f1 ≤ 0
    · rw [satisfied_done hw hs hlen hR, oldest_done hw hs hlen hR]
      simp only [Option.bind_some]
      simp [hR]
    · have ha := (wf64 hp.1)
      obtain ⟨n, hS, hO, hf⟩ := satisfied_is hw hs hlen h0 (a := p.f0) (R := p.f1) (k := 3000) ha.2 (by omega) hR
      rw [hS, hO]
      simp only [Option.bind_some]
      rw [if_neg hR, if_neg (by omega), if_neg (by have := hf.1; omega)]
      simp only [if_true]
      show arrearslaw10_AgingFront.j0 (2999 + 1) l n (!true) p.f0 p.f1 = some true
      simp only [arrearslaw10_AgingFront.j0, Bool.not_true, Bool.false_eq_true, if_false]
      have key := afront_loop l hs hlen (app p.f0) (app0 _) (appM ha.2) n hf n 2997 0 (by omega) (by have := hf.1; omega)
      rw [pre_zero, Int.sub_zero] at key
      by_cases c : p.f0 < 0
      · rw [if_pos c]
        show arrearslaw10_AgingFront.j1 (2998 + 1) l n 0 = some true
        simp only [arrearslaw10_AgingFront.j1]
        unfold app at key
        rw [if_pos c] at key
        exact at_rounds (fun k => arrearslaw10_AgingFront.mono_l k |>.2.2 _ _ _ _) (k := 2997) (by omega) key
      · rw [if_neg c]
        show arrearslaw10_AgingFront.j1 (2998 + 1) l n p.f0 = some true
        simp only [arrearslaw10_AgingFront.j1]
        unfold app at key
        rw [if_neg c] at key
        exact at_rounds (fun k => arrearslaw10_AgingFront.mono_l k |>.2.2 _ _ _ _) (k := 2997) (by omega) key
end Go.Proofs.Ytncfoaglmggdhaa.G
