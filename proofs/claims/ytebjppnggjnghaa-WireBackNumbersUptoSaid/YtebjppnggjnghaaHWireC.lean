/- What was told is read back, wherever it stands: numbers, lists of numbers. -/
import Derived.Test.YtebjppnggjnghaaHWireB
import Derived.Test.YtebjppnggjnghaaHx10
import Derived.Test.YtebjppnggjnghaaHx11
import Derived.Test.YtebjppnggjnghaaHx12
import Derived.Test.YtebjppnggjnghaaHx9
import Derived.Test.YtebjppnggjnghaaHx15
namespace Go.Proofs.Ytebjppnggjnghaa.H
open Go.RowKit Go.Proofs.YtebjppnggjnghaaW.PrintWords Go.Proofs.YtebjppnggjnghaaW.PrintLast Go.Proofs.YtebjppnggjnghaaW.PrintMore
set_option linter.unusedVariables false
set_option linter.unusedSimpArgs false

theorem enc_len2 : ∀ (m d : Nat) (x : Int), 0 ≤ x → x < 128 ^ (m + 1) → (enc d x).length ≤ m + 1 := by
  intro m
  induction m with
  | zero =>
    intro d x h0 h1
    rw [Nat.zero_add, Int.pow_succ, Int.pow_zero] at h1
    cases d with
    | zero => simp [enc, wire_PutUint.enc]
    | succ d => simp only [enc, wire_PutUint.enc]; rw [if_pos (by omega)]; simp
  | succ m ih =>
    intro d x h0 h1
    cases d with
    | zero => simp [enc, wire_PutUint.enc]
    | succ d =>
      simp only [enc, wire_PutUint.enc]
      split
      · simp
      · have hq : x / 128 < 128 ^ (m + 1) := Int.ediv_lt_of_lt_mul (by omega) (by rwa [← Int.pow_succ])
        have := ih d (x / 128) (by omega) hq
        simp only [enc] at this
        rw [List.length_cons]; omega
theorem enc_ten (x : Int) (h0 : 0 ≤ x) (h1 : x ≤ 18446744073709551615) : 1 ≤ (enc 10 x).length ∧ (enc 10 x).length ≤ 10 := by
  refine ⟨(enc_len 10 x).1, enc_len2 9 10 x h0 (Int.lt_of_le_of_lt h1 (by decide))⟩
/-- Bytes s stand at the place. -/
def At (l : List Int) (a : Int) (s : List Int) : Prop := 0 ≤ a ∧ ∃ r, l.drop a.toNat = s ++ r
theorem At.left {l s t : List Int} {a : Int} (h : At l a (s ++ t)) : At l a s := by
  obtain ⟨h0, r, h⟩ := h
  exact ⟨h0, t ++ r, by rw [h, List.append_assoc]⟩
theorem At.right {l s t : List Int} {a : Int} (h : At l a (s ++ t)) : At l (a + s.length) t := by
  obtain ⟨h0, r, h⟩ := h
  refine ⟨by omega, r, ?_⟩
  rw [show (a + (s.length : Int)).toNat = a.toNat + s.length from by omega, ← List.drop_drop, h, List.append_assoc, List.drop_left]
theorem At.len {l s : List Int} {a : Int} (h : At l a s) (hs : s ≠ []) : a + s.length ≤ l.length := by
  obtain ⟨h0, r, h⟩ := h
  have := congrArg List.length h
  rw [List.length_drop, List.length_append] at this
  have : 1 ≤ s.length := by
    cases s with
    | nil => exact absurd rfl hs
    | cons _ _ => simp
  omega
theorem At.seg {l s : List Int} {a : Int} (h : At l a s) (n : Nat) (hn : n ≤ s.length) : seg l a n = s.take n := by
  obtain ⟨h0, r, h⟩ := h
  simp only [seg, arrearsref4_Uint.seg]
  rw [h, List.take_append_of_le_length hn]
theorem not_canon_take (s : List Int) (hs : Canon s) (n : Nat) (h1 : 1 ≤ n) (h2 : n < s.length) : ¬ Canon (s.take n) := by
  intro hc
  obtain ⟨m, rfl⟩ : ∃ m, n = m + 1 := ⟨n - 1, by omega⟩
  have hne : s ≠ [] := by intro e; rw [e] at h2; simp at h2
  obtain ⟨t, c, rfl⟩ : ∃ t c, s = t ++ [c] := ⟨s.dropLast, s.getLast hne, (List.dropLast_concat_getLast hne).symm⟩
  rw [List.length_append, List.length_singleton] at h2
  rw [canon_app] at hs
  rw [List.take_append_of_le_length (by omega), List.take_succ_eq_append_getElem (by omega), canon_app] at hc
  have := hs.1 t[m] (List.getElem_mem _)
  omega
theorem search_at {l : List Int} {a x : Int} (hb : ∀ y ∈ l, 0 ≤ y ∧ y ≤ 255) (h0 : 0 ≤ x) (h1 : x ≤ 18446744073709551615) (h : At l a (enc 10 x)) :
    ∀ (d n : Nat), 1 ≤ n → n ≤ (enc 10 x).length → (enc 10 x).length < n + d → arrearsref4_Uint.search l a d n = (x, a + ((enc 10 x).length : Int), true) := by
  have hlen := enc_ten x h0 h1
  have hlt : x < 128 ^ (10 + 1) := Int.lt_of_lt_of_le (by omega) pow10
  have hcan := (canon_enc 10 x h0 hlt).1
  have hdec := dec_enc 10 x h0 hlt
  have hle := h.len (by intro e; rw [e] at hlen; simp at hlen)
  intro d
  induction d with
  | zero => intro n _ h2 h3; omega
  | succ d ih =>
    intro n hn h2 h3
    rw [arrearsref4_Uint.search, if_pos ⟨by omega, by omega⟩]
    have hh := hit_iff hb hn (by omega) (show (n : Int) ≤ l.length - a by omega) h.1
    have hs := h.seg n h2
    rw [show arrearsref4_Uint.seg l a n = (enc 10 x).take n from hs] at *
    rw [show seg l a n = (enc 10 x).take n from hs] at hh
    by_cases c : n = (enc 10 x).length
    · subst c
      rw [List.take_length] at *
      rw [if_pos (hh.2 ⟨hcan, by rw [hdec]; exact h1⟩)]
      have hv : arrearsref4_Uint.val (enc 10 x) = x := by
        unfold arrearsref4_Uint.val
        show dec (enc 10 x) % 18446744073709551616 = _
        rw [hdec]; omega
      rw [hv]
    · rw [if_neg (fun hc => not_canon_take _ hcan n hn (by omega) (hh.1 hc).1)]
      exact ih (n + 1) (by omega) (by omega) (by omega)
theorem uint_at {l : List Int} {a x : Int} {k : Nat} (hb : ∀ y ∈ l, 0 ≤ y ∧ y ≤ 255) (hl : l.length ≤ 140737488351232) (h0 : 0 ≤ x) (h1 : x ≤ 18446744073709551615) (hk : 40 ≤ k) (h : At l a (enc 10 x)) :
    wire_Uint.f k l a = some (x, a + ((enc 10 x).length : Int), true) := by
  have hlen := enc_ten x h0 h1
  have hle := h.len (by intro e; rw [e] at hlen; simp at hlen)
  have ha := h.1
  rw [uint_same hb hl k hk]
  unfold arrearsref4_Uint.f
  rw [if_pos hb, if_neg (by omega), search_at hb h0 h1 h 11 1 (by omega) (by omega) (by omega)]
theorem int_at {l : List Int} {a x : Int} {k : Nat} (hb : ∀ y ∈ l, 0 ≤ y ∧ y ≤ 255) (hl : l.length ≤ 140737488351232) (h0 : -9223372036854775808 ≤ x) (h1 : x ≤ 9223372036854775807) (hk : 40 ≤ k) (h : At l a (enc 10 (zig x))) :
    wire_Int.f k l a = some (x, a + ((enc 10 (zig x)).length : Int), true) := by
  have hz := zig_range x h0 h1
  unfold wire_Int.f
  rw [uint_at hb hl hz.1 hz.2 hk h, Option.bind_some, if_pos rfl, and_one _ hz.1 hz.2]
  unfold zig
  by_cases c : x ≥ 0
  · rw [if_pos c, show 2 * x % 2 = 0 from by omega, show 2 * x / 2 = x from by omega, pl_w64 h0 h1, show wrap64 (-(wrap64 0)) = 0 from by unfold wrap64; omega, xor_zero_i _ h0 h1]
  · rw [if_neg c, show (-2 * x - 1) % 2 = 1 from by omega, show (-2 * x - 1) / 2 = -x - 1 from by omega, pl_w64 (x := -x - 1) (by omega) (by omega), show wrap64 (-(wrap64 1)) = -1 from by unfold wrap64; omega, xor_ones_i _ (by omega) (by omega), show -(-x - 1) - 1 = x from by omega]
/-- A list's telling. -/
def tells : List Int → List Int
  | [] => []
  | x :: r => enc 10 (zig x) ++ tells r
theorem tells_len (l : List Int) (hw : ∀ x ∈ l, -9223372036854775808 ≤ x ∧ x ≤ 9223372036854775807) : (tells l).length ≤ 10 * l.length := by
  induction l with
  | nil => simp [tells]
  | cons x r ih =>
    have hx := hw x (by simp)
    have hz := zig_range x hx.1 hx.2
    have := (enc_ten _ hz.1 hz.2).2
    have h2 := ih (fun y hy => hw y (by simp [hy]))
    simp only [tells, List.length_append, List.length_cons]; omega
theorem tells_byte (l : List Int) (hw : ∀ x ∈ l, -9223372036854775808 ≤ x ∧ x ≤ 9223372036854775807) : ∀ b ∈ tells l, 0 ≤ b ∧ b ≤ 255 := by
  induction l with
  | nil => intro b h; simp [tells] at h
  | cons x r ih =>
    intro b hb
    have hx := hw x (by simp)
    simp only [tells, List.mem_append] at hb
    rcases hb with hb | hb
    · exact enc_byte 10 _ (zig_range x hx.1 hx.2).1 b hb
    · exact ih (fun y hy => hw y (by simp [hy])) b hb
theorem rd_int {l : List Int} {i : Nat} (h : i < l.length) : rd l (i : Int) = l[i] := by unfold rd; simp [h]
theorem putlist_loop (l : List Int) (hw : ∀ x ∈ l, -9223372036854775808 ≤ x ∧ x ≤ 9223372036854775807) (hl : l.length ≤ 1048576) (d : Nat) : ∀ (k i : Nat) (acc : List Int), i + d = l.length → d < k → acc.length + 10 * d ≤ 100000000 →
    wire_PutList_int64.l0 k acc l (l.length : Int) (i : Int) = some (acc ++ tells (l.drop i)) := by
  induction d with
  | zero =>
    intro k i acc hi hk ha
    obtain ⟨k, rfl⟩ : ∃ m, k = m + 1 := ⟨k - 1, by omega⟩
    simp only [wire_PutList_int64.l0]
    rw [if_neg (by omega), List.drop_eq_nil_of_le (by omega)]; simp [tells]
  | succ d ih =>
    intro k i acc hi hk ha
    obtain ⟨k, rfl⟩ : ∃ m, k = m + 1 := ⟨k - 1, by omega⟩
    have hx := hw l[i] (List.getElem_mem _)
    have hz := zig_range _ hx.1 hx.2
    have hlen := enc_ten _ hz.1 hz.2
    simp only [wire_PutList_int64.l0]
    rw [if_pos (by omega), if_pos (by omega), if_pos (by omega), rd_int (by omega), putint_prog _ hx.1 hx.2, Option.bind_some, if_pos (by omega), show wrap64 ((i : Int) + 1) = ((i + 1 : Nat) : Int) from by rw [pl_w64 (by omega) (by omega)]; omega,
      ih k (i + 1) _ (by omega) (by omega) (by rw [List.length_append]; omega), show l.drop i = l[i] :: l.drop (i + 1) from List.drop_eq_getElem_cons (by omega), tells, List.append_assoc]
theorem putlist_is (l : List Int) (hw : ∀ x ∈ l, -9223372036854775808 ≤ x ∧ x ≤ 9223372036854775807) (hl : l.length ≤ 1048576) (k : Nat) (hk : l.length < k) (z : Int) :
    wire_PutList_int64.f k l z = some (enc 10 (l.length : Int) ++ tells l) := by
  unfold wire_PutList_int64.f
  have hlen := enc_ten (l.length : Int) (by omega) (by omega)
  rw [pl_u64 (x := (l.length : Int)) (by omega) (by omega), put_prog _ (by omega) (by omega), Option.bind_some]
  have := putlist_loop l hw hl l.length k 0 (enc 10 (l.length : Int)) (by omega) hk (by omega)
  simpa using this
theorem putints_inner (l : List Int) (i0 : Nat) (s : List Int) (d : Nat) : ∀ (k j : Nat) (acc : List Int), j + d = s.length → s.length ≤ 1000 → d < k → acc.length + d ≤ 1000000000 →
    arrearsref4_PutInts.l1 k l acc (i0 : Int) s (j : Int) = arrearsref4_PutInts.l0 (k - d - 1) l (acc ++ s.drop j) (wrap64 ((i0 : Int) + 1)) := by
  induction d with
  | zero =>
    intro k j acc hj hs hk ha
    obtain ⟨k, rfl⟩ : ∃ m, k = m + 1 := ⟨k - 1, by omega⟩
    simp only [arrearsref4_PutInts.l1]
    rw [if_neg (by omega), List.drop_eq_nil_of_le (by omega), List.append_nil]; rfl
  | succ d ih =>
    intro k j acc hj hs hk ha
    obtain ⟨k, rfl⟩ : ∃ m, k = m + 1 := ⟨k - 1, by omega⟩
    simp only [arrearsref4_PutInts.l1]
    rw [if_pos (by omega), if_pos (by omega), if_pos (by omega), rd_int (by omega), show wrap64 ((j : Int) + 1) = ((j + 1 : Nat) : Int) from by rw [pl_w64 (by omega) (by omega)]; omega,
      ih k (j + 1) _ (by omega) hs (by omega) (by rw [List.length_append, List.length_singleton]; omega), show s.drop j = s[j] :: s.drop (j + 1) from List.drop_eq_getElem_cons (by omega)]
    rw [show k + 1 - (d + 1) - 1 = k - d - 1 from by omega]
    simp
theorem putints_loop (l : List Int) (hw : ∀ x ∈ l, -9223372036854775808 ≤ x ∧ x ≤ 9223372036854775807) (hl : l.length ≤ 1048576) (d : Nat) : ∀ (k i : Nat) (acc : List Int), i + d = l.length → 12 * d + 20 < k → acc.length + 10 * d ≤ 100000000 →
    arrearsref4_PutInts.l0 k l acc (i : Int) = some (acc ++ tells (l.drop i)) := by
  induction d with
  | zero =>
    intro k i acc hi hk ha
    obtain ⟨k, rfl⟩ : ∃ m, k = m + 1 := ⟨k - 1, by omega⟩
    simp only [arrearsref4_PutInts.l0]
    rw [if_neg (by omega), List.drop_eq_nil_of_le (by omega)]; simp [tells]
  | succ d ih =>
    intro k i acc hi hk ha
    obtain ⟨k, rfl⟩ : ∃ m, k = m + 1 := ⟨k - 1, by omega⟩
    have hx := hw l[i] (List.getElem_mem _)
    have hz := zig_range _ hx.1 hx.2
    have hlen := enc_ten _ hz.1 hz.2
    simp only [arrearsref4_PutInts.l0]
    rw [if_pos (by omega), if_pos (by omega), rd_int (by omega), putint_ref _ hx.1 hx.2 k (by omega), Option.bind_some]
    have h1 := putints_inner l i (enc 10 (zig l[i])) (enc 10 (zig l[i])).length k 0 acc (by omega) (by omega) (by omega) (by omega)
    rw [show ((0 : Nat) : Int) = 0 from rfl, List.drop_zero] at h1
    rw [h1, show wrap64 ((i : Int) + 1) = ((i + 1 : Nat) : Int) from by rw [pl_w64 (by omega) (by omega)]; omega,
      ih _ (i + 1) _ (by omega) (by omega) (by rw [List.length_append]; omega), show l.drop i = l[i] :: l.drop (i + 1) from List.drop_eq_getElem_cons (by omega), tells, List.append_assoc]
theorem putints_is (l : List Int) (hw : ∀ x ∈ l, -9223372036854775808 ≤ x ∧ x ≤ 9223372036854775807) (hl : l.length ≤ 1048576) (k : Nat) (hk : 12 * l.length + 20 < k) :
    arrearsref4_PutInts.f k l = some (enc 10 (l.length : Int) ++ tells l) := by
  unfold arrearsref4_PutInts.f
  have hlen := enc_ten (l.length : Int) (by omega) (by omega)
  rw [pl_u64 (x := (l.length : Int)) (by omega) (by omega), put_ref _ (by omega) (by omega) k (by omega), Option.bind_some]
  have := putints_loop l hw hl l.length k 0 (enc 10 (l.length : Int)) (by omega) hk (by omega)
  simpa using this
theorem nums_is (l : List Int) (hl : l.length ≤ 1048576) : arrearslaw4_nums.f l = some l := by
  unfold arrearslaw4_nums.f
  rw [if_pos (by simp; omega)]; rfl
theorem sameNums_loop (a : List Int) (hm : a.length ≤ 1048576) (d : Nat) : ∀ (k i : Nat), i + d = a.length → d < k → arrearslaw4_sameNums.l0 k a a (i : Int) = some true := by
  induction d with
  | zero =>
    intro k i hi hk
    obtain ⟨k, rfl⟩ : ∃ m, k = m + 1 := ⟨k - 1, by omega⟩
    simp only [arrearslaw4_sameNums.l0]
    rw [if_neg (by omega)]
  | succ d ih =>
    intro k i hi hk
    obtain ⟨k, rfl⟩ : ∃ m, k = m + 1 := ⟨k - 1, by omega⟩
    simp only [arrearslaw4_sameNums.l0, if_true]
    rw [if_pos (by omega), if_pos (by omega), if_pos (by omega), show wrap64 ((i : Int) + 1) = ((i + 1 : Nat) : Int) from by unfold wrap64; omega, ih k (i + 1) (by omega) (by omega)]
theorem sameNums_self (a : List Int) (hm : a.length ≤ 1048576) (k : Nat) (hk : a.length < k) : arrearslaw4_sameNums.f k a a = some true := by
  unfold arrearslaw4_sameNums.f
  rw [if_pos rfl]
  exact sameNums_loop a hm a.length k 0 (by omega) hk
theorem list_loop (l xs : List Int) (hb : ∀ y ∈ l, 0 ≤ y ∧ y ≤ 255) (hl : l.length ≤ 100000000) (hw : ∀ x ∈ xs, -9223372036854775808 ≤ x ∧ x ≤ 9223372036854775807) (hx : xs.length ≤ 1048576) (d : Nat) :
    ∀ (k i : Nat) (a : Int), i + d = xs.length → d + 60 < k → At l a (tells (xs.drop i)) →
      wire_List_int64.l0 k l (d : Int) a (xs.take i) = some (xs, a + ((tells (xs.drop i)).length : Int), true) := by
  induction d with
  | zero =>
    intro k i a hi hk ha
    obtain ⟨k, rfl⟩ : ∃ m, k = m + 1 := ⟨k - 1, by omega⟩
    simp only [wire_List_int64.l0]
    rw [if_neg (by omega), List.take_of_length_le (by omega), List.drop_eq_nil_of_le (by omega)]
    simp [tells]
  | succ d ih =>
    intro k i a hi hk ha
    obtain ⟨k, rfl⟩ : ∃ m, k = m + 1 := ⟨k - 1, by omega⟩
    have hxi := hw xs[i] (List.getElem_mem _)
    have hz := zig_range _ hxi.1 hxi.2
    have hlen := enc_ten _ hz.1 hz.2
    have hd : xs.drop i = xs[i] :: xs.drop (i + 1) := List.drop_eq_getElem_cons (by omega)
    rw [hd, tells] at ha
    have hle := ha.left.len (by intro e; rw [e] at hlen; simp at hlen)
    simp only [wire_List_int64.l0]
    rw [if_pos (by omega), int_at hb (by omega) hxi.1 hxi.2 (by omega) ha.left, Option.bind_some, if_pos rfl]
    dsimp only
    rw [if_neg (by omega), if_neg (by omega), if_pos (by rw [List.length_take]; omega), pl_u64 (x := ((d + 1 : Nat) : Int) - 1) (by omega) (by omega), show ((d + 1 : Nat) : Int) - 1 = (d : Int) from by omega,
      ← List.take_succ_eq_append_getElem (by omega), ih k (i + 1) _ (by omega) (by omega) ha.right, hd, tells, List.length_append]
    congr 3
    omega
theorem list_at (l xs : List Int) (hb : ∀ y ∈ l, 0 ≤ y ∧ y ≤ 255) (hl : l.length ≤ 100000000) (hw : ∀ x ∈ xs, -9223372036854775808 ≤ x ∧ x ≤ 9223372036854775807) (hx : xs.length ≤ 1048576) (k : Nat) (hk : xs.length + 100 < k) (a z : Int)
    (h : At l a (enc 10 (xs.length : Int) ++ tells xs)) : wire_List_int64.f k l a z = some (xs, a + ((enc 10 (xs.length : Int) ++ tells xs).length : Int), true) := by
  have hlen := enc_ten (xs.length : Int) (by omega) (by omega)
  have hle := h.left.len (by intro e; rw [e] at hlen; simp at hlen)
  have htl : (xs.length : Int) ≤ (l.length : Int) - (a + ((enc 10 (xs.length : Int)).length : Int)) := by
    have hr := h.right
    have h2 : xs.length ≤ (tells xs).length := by
      clear h hr hle hlen hx hk
      induction xs with
      | nil => simp
      | cons x r ih =>
        have := (enc_len 10 (zig x)).1
        have := ih (fun y hy => hw y (by simp [hy]))
        simp only [tells, List.length_append, List.length_cons]; omega
    rcases Nat.eq_zero_or_pos (tells xs).length with z | z
    · omega
    · have := hr.len (by intro e; rw [e] at z; simp at z)
      omega
  have ha := h.1
  unfold wire_List_int64.f
  rw [uint_at hb (by omega) (by omega) (by omega) (by omega) h.left, Option.bind_some, if_pos rfl]
  obtain ⟨k, rfl⟩ : ∃ m, k = m + 1 := ⟨k - 1, by omega⟩
  dsimp only
  simp only [wire_List_int64.j0]
  rw [pl_w64 (by omega) (by omega), pl_u64 (by omega) (by omega), if_neg (by simp; omega)]
  have := list_loop l xs hb hl hw hx xs.length k 0 _ (by omega) (by omega) (by rw [List.drop_zero]; exact h.right)
  rw [List.take_zero, List.drop_zero] at this
  rw [this, List.length_append]
  congr 3
  omega
end Go.Proofs.Ytebjppnggjnghaa.H
