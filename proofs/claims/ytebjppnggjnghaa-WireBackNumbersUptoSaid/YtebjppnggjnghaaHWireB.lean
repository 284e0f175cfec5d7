/- What package wire and the document's answer read of a number at any place of any bytes is the same; copies in memory of their own. -/
import Derived.Test.YtebjppnggjnghaaHWireA
import Derived.Test.YtebjppnggjnghaaHx1
import Derived.Test.YtebjppnggjnghaaHx2
import Derived.Test.YtebjppnggjnghaaHx8
import Derived.Test.YtebjppnggjnghaaHx1
import Derived.Test.YtebjppnggjnghaaHx3
import Derived.Test.YtebjppnggjnghaaHx8
import Derived.Test.YtebjppnggjnghaaHx8
import Derived.Test.YtebjppnggjnghaaHx4
namespace Go.Proofs.Ytebjppnggjnghaa.H
open Go.RowKit Go.Proofs.YtebjppnggjnghaaW.PrintWords Go.Proofs.YtebjppnggjnghaaW.PrintLast Go.Proofs.YtebjppnggjnghaaW.PrintMore
set_option linter.unusedVariables false

/-- A low byte ahead of the last: no telling. -/
theorem no_hit {l : List Int} {a : Int} {j : Nat} (hb : ∀ x ∈ l, 0 ≤ x ∧ x ≤ 255) (ha : 0 ≤ a) (hlow : rd l (a + j) < 128) : ∀ (d n : Nat), j + 1 < n → arrearsref4_Uint.search l a d n = (0, 0, false) := by
  intro d
  induction d with
  | zero => intro n _; rfl
  | succ d ih =>
    intro n hn
    simp only [arrearsref4_Uint.search]
    by_cases c : n ≤ 10 ∧ (n : Int) ≤ l.length - a
    · rw [if_pos c, if_neg, ih (n + 1) (by omega)]
      intro hh
      have hc := ((hit_iff hb (by omega) c.1 c.2 ha).1 hh).1
      obtain ⟨m, rfl⟩ : ∃ m, n = m + 1 := ⟨n - 1, by omega⟩
      rw [seg_succ (by omega) ha, canon_app] at hc
      have hm : rd l (a + j) ∈ seg l a m := by
        have e1 : j < (seg l a m).length := by rw [seg_len (by omega) ha]; omega
        have e2 : (seg l a m)[j] = rd l (a + j) := by
          simp only [seg, arrearsref4_Uint.seg, List.getElem_take, List.getElem_drop]
          unfold rd
          rw [show (a + (j : Int)).toNat = a.toNat + j from by omega]
          simp [show a.toNat + j < l.length from by omega]
        rw [← e2]; exact List.getElem_mem _
      have := (hc.1 _ hm).1
      omega
    · rw [if_neg c]
theorem rd_mem {l : List Int} {i : Int} (h0 : 0 ≤ i) (h1 : i < l.length) : rd l i ∈ l := by
  unfold rd
  rw [List.getD_eq_getElem?_getD, List.getElem?_eq_getElem (by omega), Option.getD_some]
  exact List.getElem_mem _
theorem uint_loop {l : List Int} {a : Int} (hb : ∀ x ∈ l, 0 ≤ x ∧ x ≤ 255) (ha : 0 ≤ a) (hl : l.length ≤ 140737488351232) :
    ∀ (d i k : Nat) (x : Int), i + d = 10 → 3 * d + 3 ≤ k → (∀ b ∈ seg l a i, 128 ≤ b ∧ b ≤ 255) → x = dec (seg l a i) → (i : Int) ≤ l.length - a →
      wire_Uint.l0 k l a x (i : Int) = some (arrearsref4_Uint.search l a (d + 1) (i + 1)) := by
  intro d
  induction d with
  | zero =>
    intro i k x hi hk _ _ _
    obtain ⟨k, rfl⟩ : ∃ m, k = m + 2 := ⟨k - 2, by omega⟩
    have : i = 10 := by omega
    subst this
    simp only [wire_Uint.l0, wire_Uint.j2, arrearsref4_Uint.search]
    rfl
  | succ d ih =>
    intro i k x hi hk hhi hx hle
    obtain ⟨k, rfl⟩ : ∃ m, k = m + 3 := ⟨k - 3, by omega⟩
    have hw1 : wrap64 (a + (i : Int)) = a + i := pl_w64 (by omega) (by omega)
    have hw2 : wrap64 ((i : Int) + 1) = ((i + 1 : Nat) : Int) := by rw [pl_w64 (by omega) (by omega)]; omega
    have hw3 : wrap64 (a + (i : Int) + 1) = a + ((i + 1 : Nat) : Int) := by rw [pl_w64 (by omega) (by omega)]; omega
    have hw4 : 0 ≤ wrap64 (7 * (i : Int)) := by rw [pl_w64 (by omega) (by omega)]; omega
    simp only [wire_Uint.l0, wire_Uint.j2]
    rw [if_pos (by omega), hw1]
    by_cases c : a + (i : Int) < (l.length : Int)
    · have hcm := hb _ (rd_mem (l := l) (i := a + i) (by omega) c)
      have hlen : (seg l a i).length = i := seg_len hle ha
      have hx0 : 0 ≤ x := by rw [hx]; exact dec_nonneg _
      have hx1 : x < 128 ^ i := by rw [hx]; have := dec_lt (seg l a i); rw [hlen] at this; exact this
      have hsucc : seg l a (i + 1) = seg l a i ++ [rd l (a + i)] := seg_succ (by omega) ha
      have hdec : dec (seg l a (i + 1)) = x + rd l (a + i) % 128 * 128 ^ i := by rw [hsucc, dec_app, hlen, ← hx]
      have hcanon : Canon (seg l a (i + 1)) ↔ (rd l (a + i) < 128 ∧ (i ≠ 0 → rd l (a + i) ≠ 0)) := by
        rw [hsucc, canon_app]
        have hne : seg l a i ≠ [] ↔ i ≠ 0 := by
          constructor
          · intro h e; subst e; exact h (List.length_eq_zero_iff.1 hlen)
          · intro h e; rw [e] at hlen; simp at hlen; exact h hlen.symm
        rw [hne]
        constructor
        · rintro ⟨_, _, h1, h2⟩; exact ⟨h1, h2⟩
        · rintro ⟨h1, h2⟩; exact ⟨hhi, hcm.1, h1, h2⟩
      have hhit := hit_iff hb (n := i + 1) (by omega) (by omega) (by omega) ha
      rw [hcanon, hdec] at hhit
      have hs : ∀ z : Nat, arrearsref4_Uint.search l a (z + 1) (i + 1) = if arrearsref4_Uint.hit l a (i + 1) then (arrearsref4_Uint.val (seg l a (i + 1)), a + ((i + 1 : Nat) : Int), true) else arrearsref4_Uint.search l a z (i + 1 + 1) := by
        intro z
        rw [arrearsref4_Uint.search, if_pos ⟨by omega, by omega⟩]
      rw [hs]
      rw [decide_eq_true c, if_pos rfl, if_pos (by omega), if_pos c]
      generalize hcd : rd l (a + (i : Int)) = c0 at *
      by_cases c9 : (i : Int) = 9 ∧ c0 > 1
      · rw [if_pos c9.1]
        simp only [wire_Uint.j3]
        rw [decide_eq_true c9.2, if_pos rfl, if_neg]
        · have hd0 : d = 0 := by omega
          have hi9 : i = 9 := by omega
          subst hd0; subst hi9
          rw [arrearsref4_Uint.search, if_neg (by omega)]
        · rw [hhit]
          rintro ⟨⟨h1, _⟩, h2⟩
          have hi9 : i = 9 := by omega
          subst hi9
          have e9 : (128 : Int) ^ 9 = 9223372036854775808 := by decide
          rw [e9] at h2
          omega
      · have hg := group_or x c0 i hx0 hx1 hcm.1 hcm.2 (by omega) (fun h => by omega)
        have hsum : x + c0 % 128 * 128 ^ i ≤ 18446744073709551615 := by
          rcases Nat.lt_or_ge i 9 with h | h
          · have h2 : (128 : Int) ^ i ≤ 128 ^ 8 := pow_mono (by omega)
            have e8 : (128 : Int) ^ 8 = 72057594037927936 := by decide
            have h3 : c0 % 128 * 128 ^ i ≤ 127 * 128 ^ i := Int.mul_le_mul_of_nonneg_right (by omega) (by have := Int.pow_pos (n := 128) (m := i) (by omega); omega)
            omega
          · have h9 : i = 9 := by omega
            subst h9
            have e9 : (128 : Int) ^ 9 = 9223372036854775808 := by decide
            rw [e9] at *
            omega
        have hj : (if (i : Int) = 9 then wire_Uint.j3 (k + 1) l a x (i : Int) c0 (decide (c0 > 1)) else wire_Uint.j3 (k + 1) l a x (i : Int) c0 false) = wire_Uint.j3 (k + 1) l a x (i : Int) c0 false := by
          by_cases h9 : (i : Int) = 9
          · rw [if_pos h9, decide_eq_false (fun h => c9 ⟨h9, h⟩)]
          · rw [if_neg h9]
        rw [hj]
        simp only [wire_Uint.j3]
        rw [if_neg (by simp), if_pos hw4, hg.1, hw1, hw2, hw3]
        by_cases cl : c0 < 128
        · rw [if_pos cl]
          by_cases cz : c0 = 0 ∧ i ≠ 0
          · rw [if_pos cz.1, if_pos (by omega), if_neg (by rw [hhit]; rintro ⟨⟨_, h⟩, _⟩; exact h cz.2 cz.1), no_hit hb ha (j := i) (by omega) _ _ (by omega)]
          · have hh : arrearsref4_Uint.hit l a (i + 1) := by rw [hhit]; exact ⟨⟨cl, fun h e => cz ⟨e, h⟩⟩, hsum⟩
            rw [if_pos hh]
            have hval : arrearsref4_Uint.val (seg l a (i + 1)) = x + c0 % 128 * 128 ^ i := by
              unfold arrearsref4_Uint.val
              show dec (seg l a (i + 1)) % 18446744073709551616 = _
              rw [hdec]
              have h0 : 0 ≤ dec (seg l a (i + 1)) := dec_nonneg _
              rw [hdec] at h0
              exact Int.emod_eq_of_lt h0 (by omega)
            rw [hval]
            by_cases ce : c0 = 0
            · rw [if_pos ce, if_neg (by omega)]
            · rw [if_neg ce]
        · rw [if_neg cl, if_neg (by rw [hhit]; rintro ⟨⟨h, _⟩, _⟩; exact cl h)]
          refine ih (i + 1) k _ (by omega) (by omega) ?_ hdec.symm (by omega)
          intro b hbm
          rw [hsucc, List.mem_append, List.mem_singleton] at hbm
          rcases hbm with h | rfl
          · exact hhi b h
          · exact ⟨by omega, hcm.2⟩
    · rw [decide_eq_false c, if_neg (by simp), arrearsref4_Uint.search, if_neg (by omega)]
/-- What is read of a number is the document's. -/
theorem uint_same {l : List Int} {a : Int} (hb : ∀ x ∈ l, 0 ≤ x ∧ x ≤ 255) (hl : l.length ≤ 140737488351232) (k : Nat) (hk : 40 ≤ k) : wire_Uint.f k l a = arrearsref4_Uint.f l a := by
  obtain ⟨k, rfl⟩ : ∃ m, k = m + 1 := ⟨k - 1, by omega⟩
  unfold wire_Uint.f arrearsref4_Uint.f
  rw [if_pos hb]
  by_cases c0 : a < 0
  · rw [if_pos c0, if_pos (.inl c0)]; simp only [wire_Uint.j0]; rfl
  · rw [if_neg c0]
    simp only [wire_Uint.j0]
    by_cases c1 : a > (l.length : Int)
    · rw [decide_eq_true c1, if_pos rfl, if_pos (.inr c1)]
    · rw [decide_eq_false c1, if_neg (by simp), if_neg (by omega)]
      have hs : seg l a 0 = [] := by simp [seg, arrearsref4_Uint.seg]
      exact uint_loop hb (by omega) hl 10 0 k 0 rfl (by omega) (by rw [hs]; intro b h; simp at h) (by rw [hs]; rfl) (by omega)
/-- What the reading of a number answers lies in its bounds. -/
theorem search_range {l : List Int} {a : Int} : ∀ (d n : Nat), 0 ≤ (arrearsref4_Uint.search l a d n).1 ∧ (arrearsref4_Uint.search l a d n).1 ≤ 18446744073709551615 := by
  intro d
  induction d with
  | zero => intro n; simp [arrearsref4_Uint.search]
  | succ d ih =>
    intro n
    rw [arrearsref4_Uint.search]
    split
    · split
      · unfold arrearsref4_Uint.val; dsimp only; omega
      · exact ih (n + 1)
    · simp
theorem xor_zero_u (x : Int) (h0 : 0 ≤ x) (h1 : x ≤ 18446744073709551615) : Go.bits .xor .u64 x 0 = x := by
  show IntKind.u64.wrap ((BitVec.ofInt 64 x ^^^ BitVec.ofInt 64 0).toNat : Int) = _
  rw [show BitVec.ofInt 64 0 = 0#64 from rfl, BitVec.xor_zero, BitVec.toNat_ofInt, Hand.u64_wrap]
  omega
theorem xor_zero_i (x : Int) (h0 : -9223372036854775808 ≤ x) (h1 : x ≤ 9223372036854775807) : Go.bits .xor .i64 x 0 = x := by
  show IntKind.i64.wrap ((BitVec.ofInt 64 x ^^^ BitVec.ofInt 64 0).toNat : Int) = _
  rw [show BitVec.ofInt 64 0 = 0#64 from rfl, BitVec.xor_zero, BitVec.toNat_ofInt]
  rw [i64_w]
  unfold wrap64
  omega
theorem xor_ones_i (x : Int) (h0 : -9223372036854775808 ≤ x) (h1 : x ≤ 9223372036854775807) : Go.bits .xor .i64 x (-1) = -x - 1 := by
  show IntKind.i64.wrap ((BitVec.ofInt 64 x ^^^ BitVec.ofInt 64 (-1)).toNat : Int) = _
  rw [show BitVec.ofInt 64 (-1) = BitVec.allOnes 64 from rfl, BitVec.xor_allOnes, BitVec.toNat_not, BitVec.toNat_ofInt]
  rw [i64_w]
  unfold wrap64
  omega
theorem xor_ones_u (x : Int) (h0 : 0 ≤ x) (h1 : x ≤ 18446744073709551615) : Go.bits .xor .u64 x 18446744073709551615 = 18446744073709551615 - x := by
  show IntKind.u64.wrap ((BitVec.ofInt 64 x ^^^ BitVec.ofInt 64 18446744073709551615).toNat : Int) = _
  rw [show BitVec.ofInt 64 18446744073709551615 = BitVec.allOnes 64 from rfl, BitVec.xor_allOnes, BitVec.toNat_not, BitVec.toNat_ofInt, Hand.u64_wrap]
  omega
/-- What a signed number is told as. -/
def zig (x : Int) : Int := if x ≥ 0 then 2 * x else -2 * x - 1
theorem zig_range (x : Int) (h0 : -9223372036854775808 ≤ x) (h1 : x ≤ 9223372036854775807) : 0 ≤ zig x ∧ zig x ≤ 18446744073709551615 := by unfold zig; split <;> omega
theorem putint_prog (x : Int) (h0 : -9223372036854775808 ≤ x) (h1 : x ≤ 9223372036854775807) : wire_PutInt.f x = some (enc 10 (zig x)) := by
  have hz := zig_range x h0 h1
  unfold wire_PutInt.f
  have e : Go.bits .xor .u64 (IntKind.u64.wrap ((IntKind.u64.wrap (x)) * 2)) (IntKind.u64.wrap (x / 9223372036854775808)) = zig x := by
    unfold zig
    simp only [Hand.u64_wrap]
    by_cases c : x ≥ 0
    · rw [if_pos c, show x / 9223372036854775808 % 18446744073709551616 = 0 from by omega, xor_zero_u _ (by omega) (by omega)]; omega
    · rw [if_neg c, show x / 9223372036854775808 % 18446744073709551616 = 18446744073709551615 from by omega, xor_ones_u _ (by omega) (by omega)]; omega
  rw [e, put_prog _ hz.1 hz.2]; rfl
theorem putint_ref (x : Int) (h0 : -9223372036854775808 ≤ x) (h1 : x ≤ 9223372036854775807) (k : Nat) (hk : 10 < k) : arrearsref4_PutInt.f k x = some (enc 10 (zig x)) := by
  have hz := zig_range x h0 h1
  unfold arrearsref4_PutInt.f
  by_cases c : x ≥ 0
  · have e : IntKind.u64.wrap (2 * (IntKind.u64.wrap (x))) = zig x := by
      unfold zig; rw [if_pos c]; simp only [Hand.u64_wrap]; omega
    rw [if_pos c, e, put_ref _ hz.1 hz.2 k hk]; rfl
  · have e : IntKind.u64.wrap ((IntKind.u64.wrap (2 * (IntKind.u64.wrap (wrap64 (-(wrap64 (x + 1))))))) + 1) = zig x := by
      unfold zig; rw [if_neg c, pl_w64 (x := x + 1) (by omega) (by omega), pl_w64 (x := -(x + 1)) (by omega) (by omega)]; simp only [Hand.u64_wrap]; omega
    rw [if_neg c, e, put_ref _ hz.1 hz.2 k hk]; rfl
theorem and_one (u : Int) (h0 : 0 ≤ u) (h1 : u ≤ 18446744073709551615) : Go.bits .and .u64 u 1 = u % 2 := by
  have := bits_mask .u64 64 (by decide) wraps_u64 1 (by decide) u h0 (by omega)
  simpa using this
theorem int_same {l : List Int} {a : Int} (hb : ∀ x ∈ l, 0 ≤ x ∧ x ≤ 255) (hl : l.length ≤ 140737488351232) (k : Nat) (hk : 40 ≤ k) : wire_Int.f k l a = arrearsref4_Int.f l a := by
  unfold wire_Int.f arrearsref4_Int.f
  rw [uint_same hb hl k hk]
  have hr : ∀ q, arrearsref4_Uint.f l a = some q → 0 ≤ q.1 ∧ q.1 ≤ 18446744073709551615 := by
    intro q hq
    unfold arrearsref4_Uint.f at hq
    rw [if_pos hb] at hq
    have hq := Option.some.inj hq
    rw [← hq]
    split
    · simp
    · exact search_range 11 1
  cases hu : arrearsref4_Uint.f l a with
  | none => rfl
  | some q =>
    obtain ⟨h0, h1⟩ := hr q hu
    obtain ⟨u, n, ok⟩ := q
    simp only at h0 h1
    show (if ok = true then _ else _) = (if ok = true then _ else _)
    by_cases c : ok = true
    · rw [if_pos c, if_pos c]
      simp only [and_one u h0 h1, Int.tdiv_eq_ediv_of_nonneg h0, Int.tmod_eq_emod_of_nonneg h0, Hand.u64_wrap]
      by_cases e : u % 2 = 0
      · rw [if_pos e, e]
        have e1 : wrap64 (u / 2) = u / 2 := pl_w64 (by omega) (by omega)
        rw [show u / 2 % 18446744073709551616 = u / 2 from by omega, e1, show wrap64 (-(wrap64 0)) = 0 from by unfold wrap64; omega, xor_zero_i _ (by omega) (by omega)]
      · rw [if_neg e, show u % 2 = 1 from by omega]
        have e1 : wrap64 (u / 2) = u / 2 := pl_w64 (by omega) (by omega)
        rw [show u / 2 % 18446744073709551616 = u / 2 from by omega, e1, show wrap64 (-(wrap64 1)) = -1 from by unfold wrap64; omega, xor_ones_i _ (by omega) (by omega), pl_w64 (x := -(u / 2)) (by omega) (by omega), pl_w64 (by omega) (by omega)]
    · rw [if_neg c, if_neg c]
theorem copied_loop (l : List Int) (hl : l.length ≤ 140737488351232) (d : Nat) : ∀ (k i : Nat), i + d = l.length → d < k → arrearslaw4_copied.l0 k l (l.take i) (i : Int) = some l := by
  induction d with
  | zero =>
    intro k i hi hk
    obtain ⟨k, rfl⟩ : ∃ m, k = m + 1 := ⟨k - 1, by omega⟩
    simp only [arrearslaw4_copied.l0]
    rw [if_neg (by omega), List.take_of_length_le (by omega)]
  | succ d ih =>
    intro k i hi hk
    obtain ⟨k, rfl⟩ : ∃ m, k = m + 1 := ⟨k - 1, by omega⟩
    simp only [arrearslaw4_copied.l0]
    have e : l.take (i + 1) = l.take i ++ [rd l (i : Int)] := by
      rw [List.take_succ_eq_append_getElem (by omega)]
      unfold rd
      simp [show i < l.length from by omega]
    rw [if_pos (by omega), if_pos (by omega), if_pos (by rw [List.length_take]; omega), ← e, show wrap64 ((i : Int) + 1) = ((i + 1 : Nat) : Int) from by rw [pl_w64 (by omega) (by omega)]; omega]
    exact ih k (i + 1) (by omega) (by omega)
theorem copied_is (l : List Int) (hl : l.length ≤ 140737488351232) (k : Nat) (hk : l.length < k) : arrearslaw4_copied.f k l = some l := by
  unfold arrearslaw4_copied.f
  have := copied_loop l hl l.length k 0 (by omega) hk
  simpa using this
theorem roomy_is (l : List Int) (hl : l.length ≤ 140737488351232) (k : Nat) (hk : l.length < k) : arrearslaw4_roomy.f k l = some (l ++ [90, 91, 92, 93]) := by
  unfold arrearslaw4_roomy.f
  rw [copied_is l hl k hk]
  show (if l.length + 4 < 140737488355328 then _ else _) = _
  rw [if_pos (by omega)]
theorem still_is (l : List Int) (hl : l.length ≤ 140737488351232) (k : Nat) (hk : l.length + 10 < k) : arrearslaw4_still.f k (l ++ [90, 91, 92, 93]) l = some true := by
  unfold arrearslaw4_still.f
  rw [roomy_is l hl k (by omega)]
  show Option.bind (arrearslaw4_same.f k (l ++ [90, 91, 92, 93]) (l ++ [90, 91, 92, 93])) _ = _
  rw [arrearslaw4_told.same_is _ _ (by rw [List.length_append]; simp; omega) k (by rw [List.length_append]; simp; omega), decide_eq_true rfl]; rfl
end Go.Proofs.Ytebjppnggjnghaa.H
