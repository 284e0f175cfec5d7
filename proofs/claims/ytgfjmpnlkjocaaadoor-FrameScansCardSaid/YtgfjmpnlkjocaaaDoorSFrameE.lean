/- Scan of the program is Scan of the document; lists of byte strings are like themselves. No condition but the bytes' range. -/
import Derived.Test.YtgfjmpnlkjocaaaDoorSFrameD
import Derived.Test.YtgfjmpnlkjocaaaDoorSFrameL
import Derived.Test.YtgfjmpnlkjocaaaDoorSx3
import Derived.Test.YtgfjmpnlkjocaaaDoorSx4
import Derived.Test.YtgfjmpnlkjocaaaDoorSx1
namespace Go.Proofs.YtgfjmpnlkjocaaaDoor.S
open Go.RowKit Go.Proofs.YtgfjmpnlkjocaaaDoorW.PrintWords Go.Proofs.YtgfjmpnlkjocaaaDoorW.PrintLast Go.Proofs.YtgfjmpnlkjocaaaDoorW.PrintMore
set_option linter.unusedVariables false
set_option linter.unusedSimpArgs false

theorem scan_both (l : List Int) (hb : Bytes l) (hl : l.length ≤ 20000000) (d : Nat) : ∀ a : Nat, a ≤ l.length → l.length - a < d → ∃ (r1 : List (List Int)) (r2 r3 : Int), (∀ k, d ≤ k → frame_Scan.g k l a = some (r1, r2, r3)) ∧
    (∀ (k : Nat) (acc : List (List Int)) (t : Int) (i : Nat), d + l.length + 200 ≤ k → acc.length ≤ a → i ≤ a → arrearsref6_Scan.l0 k l acc (a : Int) t (i : Int) = some (acc ++ r1, r2, r3)) ∧ (∀ p ∈ r1, p.length ≤ 4194304) ∧ r1.length ≤ l.length - a := by
  induction d with
  | zero => intro a _ h; omega
  | succ d ih =>
    intro a ha hd
    by_cases c : (spec l a).1 = true
    · obtain ⟨h0, h1, h2, h3⟩ := spec_whole ha hb c
      obtain ⟨n, hn⟩ := Int.eq_ofNat_of_zero_le h0
      rw [hn] at h1 h2
      obtain ⟨r1, r2, r3, g1, g2, g3, g4⟩ := ih (a + (4 + n + 4)) (by omega) (by omega)
      refine ⟨pay l a n :: r1, r2, r3, fun k hk => ?_, fun k acc t i hk hacc hi => ?_, fun p hp => ?_, ?_⟩
      · obtain ⟨k, rfl⟩ : ∃ m, k = m + 1 := ⟨k - 1, by omega⟩
        simp only [frame_Scan.g]
        rw [nx_is l hb a ha hl, if_pos c, Option.bind_some, if_pos rfl, hn]
        rw [show ((a : Int) + (4 + (n : Int) + 4)).toNat = a + (4 + n + 4) from by omega, g1 k (by omega), Option.bind_some]
      · obtain ⟨k, rfl⟩ : ∃ m, k = m + 1 := ⟨k - 1, by omega⟩
        simp only [arrearsref6_Scan.l0]
        rw [if_pos (by omega), there_is l hb a ha hl k (by omega), Option.bind_some, if_pos c, piece_is l a _ h0 (by omega) hl k (by omega), Option.bind_some, if_pos (by omega), hn]
        rw [show wrap64 (wrap64 ((a : Int) + (n : Int)) + 8) = ((a + (4 + n + 4) : Nat) : Int) from by rw [pl_w64 (x := (a : Int) + (n : Int)) (by omega) (by omega), pl_w64 (by omega) (by omega)]; omega,
          show wrap64 ((i : Int) + 1) = ((i + 1 : Nat) : Int) from by rw [pl_w64 (by omega) (by omega)]; omega, g2 k _ _ (i + 1) (by omega) (by rw [List.length_append, List.length_singleton]; omega) (by omega), List.append_assoc]
        rfl
      · rcases List.mem_cons.1 hp with rfl | hp
        · rw [pay_len (by omega) (by omega)]; omega
        · exact g3 p hp
      · rw [List.length_cons]; omega
    · refine ⟨[], (a : Int), (spec l a).2.2, fun k hk => ?_, fun k acc t i hk hacc hi => ?_, fun p hp => by simp at hp, by simp⟩
      · obtain ⟨k, rfl⟩ : ∃ m, k = m + 1 := ⟨k - 1, by omega⟩
        simp only [frame_Scan.g]
        rw [nx_is l hb a ha hl, if_neg c, Option.bind_some, if_neg (by simp)]
      · obtain ⟨k, rfl⟩ : ∃ m, k = m + 1 := ⟨k - 1, by omega⟩
        simp only [arrearsref6_Scan.l0]
        rw [if_pos (by omega), there_is l hb a ha hl k (by omega), Option.bind_some, if_neg c, List.append_nil]
theorem scan_same (l : List Int) (hb : Bytes l) (hl : l.length ≤ 20000000) (k : Nat) (hk : 2 * l.length + 300 < k) : ∃ (r1 : List (List Int)) (r2 r3 : Int), frame_Scan.f k l = some (r1, r2, r3) ∧ arrearsref6_Scan.f k l = some (r1, r2, r3) ∧ (∀ p ∈ r1, p.length ≤ 4194304) ∧ r1.length ≤ l.length := by
  obtain ⟨r1, r2, r3, g1, g2, g3, g4⟩ := scan_both l hb hl (l.length + 1) 0 (by omega) (by omega)
  refine ⟨r1, r2, r3, ?_, ?_, g3, by omega⟩
  · unfold frame_Scan.f; rw [if_pos (by omega)]; exact g1 k (by omega)
  · unfold arrearsref6_Scan.f
    have := g2 k [] 0 0 (by omega) (by simp) (by omega)
    rw [List.nil_append] at this
    exact this
theorem alike_loop (x : List (List Int)) (hx : ∀ p ∈ x, p.length ≤ 4194304) (hl : x.length ≤ 20000000) (d : Nat) : ∀ (k i : Nat), i + d = x.length → d + 4194310 < k → arrearslaw6_alike.l0 k x x (i : Int) = some true := by
  induction d with
  | zero =>
    intro k i hi hk
    obtain ⟨k, rfl⟩ : ∃ m, k = m + 1 := ⟨k - 1, by omega⟩
    simp only [arrearslaw6_alike.l0]
    rw [if_neg (by omega)]
  | succ d ih =>
    intro k i hi hk
    obtain ⟨k, rfl⟩ : ∃ m, k = m + 1 := ⟨k - 1, by omega⟩
    have e : rd_L1 x (i : Int) = x[i] := by unfold rd_L1; simp [show i < x.length from by omega]
    have hm := hx x[i] (List.getElem_mem _)
    simp only [arrearslaw6_alike.l0]
    rw [if_pos (by omega), if_pos (by omega), if_pos (by omega), e, same_self _ (by omega) k (by omega), Option.bind_some, if_pos rfl, show wrap64 ((i : Int) + 1) = ((i + 1 : Nat) : Int) from by rw [pl_w64 (by omega) (by omega)]; omega]
    exact ih k (i + 1) (by omega) (by omega)
theorem alike_self (x : List (List Int)) (hx : ∀ p ∈ x, p.length ≤ 4194304) (hl : x.length ≤ 20000000) (k : Nat) (hk : x.length + 4194310 < k) : arrearslaw6_alike.f k x x = some true := by
  unfold arrearslaw6_alike.f
  rw [if_pos rfl]
  exact alike_loop x hx hl x.length k 0 (by omega) hk
end Go.Proofs.YtgfjmpnlkjocaaaDoor.S
