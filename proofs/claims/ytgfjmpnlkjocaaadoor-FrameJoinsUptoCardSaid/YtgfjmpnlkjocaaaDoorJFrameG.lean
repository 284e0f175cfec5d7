/- Join of many payloads, their sizes, their copies. No condition but the bytes' range. -/
import Derived.Test.YtgfjmpnlkjocaaaDoorJFrameF
import Derived.Test.YtgfjmpnlkjocaaaDoorJFrameR
import Derived.Test.YtgfjmpnlkjocaaaDoorJx1
import Derived.Test.YtgfjmpnlkjocaaaDoorJx2
import Derived.Test.YtgfjmpnlkjocaaaDoorJx1
import Derived.Test.YtgfjmpnlkjocaaaDoorJx4
namespace Go.Proofs.YtgfjmpnlkjocaaaDoor.J
open Go.RowKit Go.Proofs.YtgfjmpnlkjocaaaDoorW.PrintWords Go.Proofs.YtgfjmpnlkjocaaaDoorW.PrintLast Go.Proofs.YtgfjmpnlkjocaaaDoorW.PrintMore
set_option linter.unusedVariables false
set_option linter.unusedSimpArgs false


theorem rdL_at (x : List (List Int)) (i : Nat) (h : i < x.length) : rd_L1 x (i : Int) = x[i] := by unfold rd_L1; simp [h]
theorem jn_len : ∀ ps : List (List Int), 8 * ps.length ≤ (jn ps).length
  | [] => by simp
  | p :: ps => by have := jn_len ps; rw [jn_cons, List.length_append, fr_len, List.length_cons]; omega
theorem jn_mem {p : List Int} : ∀ {ps : List (List Int)}, p ∈ ps → p.length + 8 ≤ (jn ps).length
  | q :: ps, h => by
    rw [jn_cons, List.length_append, fr_len]
    rcases List.mem_cons.1 h with rfl | h
    · omega
    · have := jn_mem h; omega
theorem jn_take (ps : List (List Int)) (i : Nat) (h : i < ps.length) : jn (ps.take (i + 1)) = jn (ps.take i) ++ fr ps[i] := by
  rw [List.take_succ_eq_append_getElem h, jn_append]
  simp [jn]
theorem jn_take_le (ps : List (List Int)) (i : Nat) : (jn (ps.take i)).length ≤ (jn ps).length := by
  conv => rhs; rw [← List.take_append_drop i ps, jn_append, List.length_append]
  omega
/-- The sizes' sum, as long as it is small. -/
theorem size_loop (x : List (List Int)) (hl : x.length ≤ 10000000) (hj : (jn x).length ≤ 1000000000000000000) (d : Nat) : ∀ (k i : Nat), i + d = x.length → d < k → arrearslaw6_size.l0 k x ((jn (x.take i)).length : Int) (i : Int) = some ((jn x).length : Int) := by
  induction d with
  | zero =>
    intro k i hi hk
    obtain ⟨k, rfl⟩ : ∃ m, k = m + 1 := ⟨k - 1, by omega⟩
    simp only [arrearslaw6_size.l0]
    rw [if_neg (by omega), List.take_of_length_le (by omega)]
  | succ d ih =>
    intro k i hi hk
    obtain ⟨k, rfl⟩ : ∃ m, k = m + 1 := ⟨k - 1, by omega⟩
    have e := jn_take x i (by omega)
    have e2 : (jn (x.take (i + 1))).length = (jn (x.take i)).length + (x[i].length + 8) := by rw [e, List.length_append, fr_len]
    have h1 := jn_take_le x (i + 1)
    simp only [arrearslaw6_size.l0]
    rw [if_pos (by omega), if_pos (by omega), rdL_at x i (by omega), pl_w64 (x := ((jn (x.take i)).length : Int) + (x[i].length : Int)) (by omega) (by omega), pl_w64 (x := _ + 8) (by omega) (by omega), show wrap64 ((i : Int) + 1) = ((i + 1 : Nat) : Int) from by rw [pl_w64 (by omega) (by omega)]; omega,
      show (((jn (x.take i)).length : Int) + (x[i].length : Int) + 8) = ((jn (x.take (i + 1))).length : Int) from by omega]
    exact ih k (i + 1) (by omega) (by omega)
theorem size_is (x : List (List Int)) (hl : x.length ≤ 10000000) (hj : (jn x).length ≤ 1000000000000000000) (k : Nat) (hk : x.length < k) : arrearslaw6_size.f k x = some ((jn x).length : Int) := by
  unfold arrearslaw6_size.f
  have := size_loop x hl hj x.length k 0 (by omega) (by omega)
  simpa [jn] using this
theorem jn_bound (b : Nat) : ∀ ps : List (List Int), (∀ p ∈ ps, p.length ≤ b) → (jn ps).length ≤ ps.length * (b + 8)
  | [], _ => by simp [jn]
  | p :: ps, h => by
    have h1 := jn_bound b ps (fun q hq => h q (List.mem_cons_of_mem _ hq))
    have h2 := h p (by simp)
    rw [jn_cons, List.length_append, fr_len, List.length_cons, Nat.add_mul]
    omega
/-- fits: either it says no, or all are small, and their frames, too. -/
theorem fits_loop (x : List (List Int)) (hl : x.length ≤ 10000000) (hj : (jn x).length ≤ 1000000000000000000) (d : Nat) : ∀ (k i : Nat), i + d = x.length → d + x.length + 1 < k → (∀ j (h : j < x.length), j < i → x[j].length ≤ 4194304) →
    arrearslaw6_fits.l0 k x (i : Int) = some false ∨ (arrearslaw6_fits.l0 k x (i : Int) = some true ∧ (∀ p ∈ x, p.length ≤ 4194304) ∧ (jn x).length ≤ 6000000) := by
  induction d with
  | zero =>
    intro k i hi hk hall
    obtain ⟨k, rfl⟩ : ∃ m, k = m + 1 := ⟨k - 1, by omega⟩
    simp only [arrearslaw6_fits.l0]
    rw [if_neg (by omega), size_is x hl hj k (by omega), Option.bind_some]
    by_cases c : ((jn x).length : Int) ≤ 6000000
    · refine .inr ⟨by rw [show decide (((jn x).length : Int) ≤ 6000000) = true from decide_eq_true c], fun p hp => ?_, by omega⟩
      obtain ⟨j, hj2, rfl⟩ := List.getElem_of_mem hp
      exact hall j hj2 (by omega)
    · exact .inl (by rw [show decide (((jn x).length : Int) ≤ 6000000) = false from decide_eq_false c])
  | succ d ih =>
    intro k i hi hk hall
    obtain ⟨k, rfl⟩ : ∃ m, k = m + 1 := ⟨k - 1, by omega⟩
    simp only [arrearslaw6_fits.l0]
    rw [if_pos (by omega), if_pos (by omega), rdL_at x i (by omega)]
    by_cases c : (x[i].length : Int) > 4194304
    · rw [if_pos c]; exact .inl rfl
    · rw [if_neg c, show wrap64 ((i : Int) + 1) = ((i + 1 : Nat) : Int) from by rw [pl_w64 (by omega) (by omega)]; omega]
      refine ih k (i + 1) (by omega) (by omega) (fun j h hji => ?_)
      rcases Nat.lt_or_ge j i with h2 | h2
      · exact hall j h h2
      · obtain rfl : j = i := by omega
        omega
theorem fits_is (x : List (List Int)) (hl : x.length ≤ 1048576) (hx : ∀ p ∈ x, p.length ≤ 1048576) (k : Nat) (hk : 2 * x.length + 2 < k) : arrearslaw6_fits.f k x = some false ∨ (arrearslaw6_fits.f k x = some true ∧ (∀ p ∈ x, p.length ≤ 4194304) ∧ (jn x).length ≤ 6000000) := by
  have h1 := jn_bound 1048576 x hx
  have h2 : x.length * (1048576 + 8) ≤ 1048576 * (1048576 + 8) := Nat.mul_le_mul_right _ hl
  unfold arrearslaw6_fits.f
  exact fits_loop x (by omega) (by omega) x.length k 0 (by omega) (by omega) (fun j _ h => by omega)
theorem twin_loop (x : List (List Int)) (hl : x.length ≤ 10000000) (hx : ∀ p ∈ x, p.length ≤ 4194304) (d : Nat) : ∀ (k i : Nat), i + d = x.length → d + 4194310 < k → arrearslaw6_twin.l0 k x (x.take i) (i : Int) = some x := by
  induction d with
  | zero =>
    intro k i hi hk
    obtain ⟨k, rfl⟩ : ∃ m, k = m + 1 := ⟨k - 1, by omega⟩
    simp only [arrearslaw6_twin.l0]
    rw [if_neg (by omega), List.take_of_length_le (by omega)]
  | succ d ih =>
    intro k i hi hk
    obtain ⟨k, rfl⟩ : ∃ m, k = m + 1 := ⟨k - 1, by omega⟩
    have hm := hx x[i] (List.getElem_mem _)
    simp only [arrearslaw6_twin.l0]
    rw [if_pos (by omega), if_pos (by omega), rdL_at x i (by omega), copied_is _ (by omega) k (by omega), Option.bind_some, if_pos (by rw [List.length_take]; omega), ← List.take_succ_eq_append_getElem (by omega), show wrap64 ((i : Int) + 1) = ((i + 1 : Nat) : Int) from by rw [pl_w64 (by omega) (by omega)]; omega]
    exact ih k (i + 1) (by omega) (by omega)
theorem twin_is (x : List (List Int)) (hl : x.length ≤ 10000000) (hx : ∀ p ∈ x, p.length ≤ 4194304) (k : Nat) (hk : x.length + 4194310 < k) : arrearslaw6_twin.f k x = some x := by
  unfold arrearslaw6_twin.f
  have := twin_loop x hl hx x.length k 0 (by omega) hk
  simpa using this
theorem join_loop (x : List (List Int)) (hl : x.length ≤ 10000000) (hx : ∀ p ∈ x, Good p) (hj : (jn x).length ≤ 100000000) (d : Nat) : ∀ (k i : Nat), i + d = x.length → d < k → frame_Join.l0 k (jn (x.take i)) x (x.length : Int) (i : Int) = some (jn x, true) := by
  induction d with
  | zero =>
    intro k i hi hk
    obtain ⟨k, rfl⟩ : ∃ m, k = m + 1 := ⟨k - 1, by omega⟩
    simp only [frame_Join.l0]
    rw [if_neg (by omega), List.take_of_length_le (by omega)]
  | succ d ih =>
    intro k i hi hk
    obtain ⟨k, rfl⟩ : ∃ m, k = m + 1 := ⟨k - 1, by omega⟩
    have hm := hx x[i] (List.getElem_mem _)
    have e := jn_take x i (by omega)
    have h1 := jn_take_le x (i + 1)
    have h2 : (jn (x.take i)).length + (fr x[i]).length = (jn (x.take (i + 1))).length := by rw [e, List.length_append]
    simp only [frame_Join.l0]
    rw [if_pos (by omega), if_pos (by omega), if_pos (by omega), rdL_at x i (by omega), encode_is _ hm, Option.bind_some, if_pos rfl, if_pos (by show (jn (x.take i)).length + (fr x[i]).length < _; omega)]
    show frame_Join.l0 k (jn (x.take i) ++ fr x[i]) x (x.length : Int) (wrap64 ((i : Int) + 1)) = _
    rw [← e, show wrap64 ((i : Int) + 1) = ((i + 1 : Nat) : Int) from by rw [pl_w64 (by omega) (by omega)]; omega]
    exact ih k (i + 1) (by omega) (by omega)
theorem join_is (x : List (List Int)) (hl : x.length ≤ 10000000) (hx : ∀ p ∈ x, Good p) (hj : (jn x).length ≤ 100000000) (k : Nat) (hk : x.length < k) : frame_Join.f k x = some (jn x, true) := by
  unfold frame_Join.f
  have := join_loop x hl hx hj x.length k 0 (by omega) hk
  simpa [jn] using this
end Go.Proofs.YtgfjmpnlkjocaaaDoor.J
