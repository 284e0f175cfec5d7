/- Numbers in groups of seven bits: what package wire and the document's answer tell and read. The tellings are the same; what is read at any place of any bytes is the same. -/
import Derived.Test.YtebjppnggjnghaaHx1
import Derived.Test.YtebjppnggjnghaaHx5
import Derived.Test.YtebjppnggjnghaaHx7
import Derived.Test.YtebjppnggjnghaaHOpen
namespace Go.Proofs.Ytebjppnggjnghaa.H
open Go.RowKit Go.Proofs.YtebjppnggjnghaaW.PrintWords Go.Proofs.YtebjppnggjnghaaW.PrintLast Go.Proofs.YtebjppnggjnghaaW.PrintMore
set_option linter.unusedVariables false

theorem pl_w64 {x : Int} (h0 : -9223372036854775808 ≤ x) (h1 : x ≤ 9223372036854775807) : wrap64 x = x := by unfold wrap64; omega
theorem pl_u64 {x : Int} (h0 : 0 ≤ x) (h1 : x ≤ 18446744073709551615) : IntKind.u64.wrap x = x := by rw [Hand.u64_wrap]; omega
abbrev enc := wire_PutUint.enc
abbrev dec := arrearsref4_Uint.dec
/-- The reference's telling is the program's. -/
theorem put_loop : ∀ (d k : Nat) (x : Int) (acc : List Int), 0 ≤ x → x < 128 ^ (d + 1) → x ≤ 18446744073709551615 → d < k → acc.length + d ≤ 1000 → arrearsref4_PutUint.l0 k x acc = some (acc ++ enc d x) := by
  intro d
  induction d with
  | zero =>
    intro k x acc h0 h1 h2 hk hl
    obtain ⟨k, rfl⟩ : ∃ m, k = m + 1 := ⟨k - 1, by omega⟩
    simp only [arrearsref4_PutUint.l0]
    rw [Nat.zero_add, Int.pow_succ, Int.pow_zero] at h1
    rw [if_neg (by omega), if_pos (by omega)]
    simp only [enc, wire_PutUint.enc]
  | succ d ih =>
    intro k x acc h0 h1 h2 hk hl
    obtain ⟨k, rfl⟩ : ∃ m, k = m + 1 := ⟨k - 1, by omega⟩
    have hq : x / 128 < 128 ^ (d + 1) := Int.ediv_lt_of_lt_mul (by omega) (by rwa [← Int.pow_succ])
    simp only [arrearsref4_PutUint.l0, enc, wire_PutUint.enc]
    by_cases c : x > 127
    · rw [if_pos c, if_pos (by omega), if_neg (by omega), Int.tdiv_eq_ediv_of_nonneg h0, Int.tmod_eq_emod_of_nonneg h0, pl_u64 (x := x / 128) (by omega) (by omega), pl_u64 (x := x % 128 + 128) (by omega) (by omega)]
      rw [ih k (x / 128) _ (by omega) hq (by omega) (by omega) (by rw [List.length_append, List.length_singleton]; omega)]
      rw [show (x % 128 + 128) % 256 = x % 128 + 128 from by omega]
      simp
    · rw [if_neg c, if_pos (by omega), if_pos (by omega), show x % 256 = x from by omega]
theorem pow10 : (18446744073709551616 : Int) ≤ 128 ^ (10 + 1) := by decide
theorem put_ref (x : Int) (h0 : 0 ≤ x) (h1 : x ≤ 18446744073709551615) (k : Nat) (hk : 10 < k) : arrearsref4_PutUint.f k x = some (enc 10 x) := by
  unfold arrearsref4_PutUint.f
  rw [put_loop 10 k x [] h0 (Int.lt_of_lt_of_le (by omega) pow10) h1 hk (by simp)]; rfl
theorem put_prog (x : Int) (h0 : 0 ≤ x) (h1 : x ≤ 18446744073709551615) : wire_PutUint.f x = some (enc 10 x) := by
  unfold wire_PutUint.f
  rw [if_pos ⟨h0, h1⟩]
theorem enc_len : ∀ (d : Nat) (x : Int), 1 ≤ (enc d x).length ∧ (enc d x).length ≤ d + 1 := by
  intro d
  induction d with
  | zero => intro x; simp [enc, wire_PutUint.enc]
  | succ d ih =>
    intro x
    simp only [enc, wire_PutUint.enc]
    split
    · simp
    · have := ih (x / 128)
      simp only [enc] at this
      rw [List.length_cons]; exact ⟨by omega, by omega⟩
theorem enc_byte : ∀ (d : Nat) (x : Int), 0 ≤ x → ∀ b ∈ enc d x, 0 ≤ b ∧ b ≤ 255 := by
  intro d
  induction d with
  | zero => intro x h b hb; simp [enc, wire_PutUint.enc] at hb; omega
  | succ d ih =>
    intro x h b hb
    simp only [enc, wire_PutUint.enc] at hb
    split at hb
    · simp at hb; omega
    · rw [List.mem_cons] at hb
      rcases hb with rfl | hb
      · omega
      · exact ih (x / 128) (by omega) b hb
theorem dec_enc : ∀ (d : Nat) (x : Int), 0 ≤ x → x < 128 ^ (d + 1) → dec (enc d x) = x := by
  intro d
  induction d with
  | zero =>
    intro x h0 h1
    rw [Nat.zero_add, Int.pow_succ, Int.pow_zero] at h1
    simp only [enc, wire_PutUint.enc, dec, arrearsref4_Uint.dec]; omega
  | succ d ih =>
    intro x h0 h1
    have hq : x / 128 < 128 ^ (d + 1) := Int.ediv_lt_of_lt_mul (by omega) (by rwa [← Int.pow_succ])
    simp only [enc, wire_PutUint.enc]
    split
    · simp only [dec, arrearsref4_Uint.dec]; omega
    · have := ih (x / 128) (by omega) hq
      simp only [dec, enc] at this
      simp only [dec, arrearsref4_Uint.dec]
      rw [this]; omega
/-- Is it the telling of a number: all bytes but the last go on, the last does not, and is 0 only alone. -/
def Canon : List Int → Prop
  | [] => False
  | [b] => 0 ≤ b ∧ b < 128
  | b :: c :: r => 128 ≤ b ∧ b ≤ 255 ∧ Canon (c :: r) ∧ (r = [] → c ≠ 0)
theorem canon_enc : ∀ (d : Nat) (x : Int), 0 ≤ x → x < 128 ^ (d + 1) → Canon (enc d x) ∧ (enc d x = [0] → x = 0) := by
  intro d
  induction d with
  | zero =>
    intro x h0 h1
    rw [Nat.zero_add, Int.pow_succ, Int.pow_zero] at h1
    simp only [enc, wire_PutUint.enc, Canon]
    exact ⟨by omega, fun h => by injection h; omega⟩
  | succ d ih =>
    intro x h0 h1
    have hq : x / 128 < 128 ^ (d + 1) := Int.ediv_lt_of_lt_mul (by omega) (by rwa [← Int.pow_succ])
    simp only [enc, wire_PutUint.enc]
    split
    · exact ⟨by simp only [Canon]; omega, fun h => by injection h⟩
    · obtain ⟨h2, h3⟩ := ih (x / 128) (by omega) hq
      simp only [enc] at h2 h3
      cases he : wire_PutUint.enc d (x / 128) with
      | nil => rw [he] at h2; exact h2.elim
      | cons c r =>
        rw [he] at h2 h3
        refine ⟨⟨by omega, by omega, h2, fun hr hc => ?_⟩, fun h => by injection h with h _; omega⟩
        subst hr; subst hc
        have := h3 rfl
        omega
/-- A telling is its number's own. -/
theorem enc_dec : ∀ (d : Nat) (s : List Int), Canon s → s.length ≤ d + 1 → enc d (dec s) = s ∧ 0 ≤ dec s ∧ (dec s = 0 → s = [0]) := by
  intro d
  induction d with
  | zero =>
    intro s hs hl
    match s, hs, hl with
    | [b], hs, _ =>
      simp only [Canon] at hs
      simp only [enc, wire_PutUint.enc, dec, arrearsref4_Uint.dec]
      exact ⟨by congr 1; omega, by omega, fun h => by congr 1; omega⟩
    | b :: c :: r, _, hl => simp at hl
  | succ d ih =>
    intro s hs hl
    match s, hs, hl with
    | [b], hs, _ =>
      simp only [Canon] at hs
      have hb : dec [b] = b := by simp only [dec, arrearsref4_Uint.dec]; omega
      rw [hb]
      simp only [enc, wire_PutUint.enc]
      rw [if_pos (by omega)]
      exact ⟨by first | rfl | (congr 1; omega), by omega, fun h => by rw [h]⟩
    | b :: c :: r, hs, hl =>
      obtain ⟨h1, h2, h3, h4⟩ := hs
      obtain ⟨e1, e2, e3⟩ := ih (c :: r) h3 (by simpa using hl)
      have hd : dec (b :: c :: r) = b % 128 + 128 * dec (c :: r) := rfl
      have hpos : 1 ≤ dec (c :: r) := by
        rcases Int.lt_or_le 0 (dec (c :: r)) with h | h
        · omega
        · have := e3 (by omega)
          injection this with hc hr
          exact absurd hc (h4 hr)
      rw [hd]
      refine ⟨?_, by omega, fun h => by omega⟩
      simp only [enc] at e1
      simp only [enc, wire_PutUint.enc]
      rw [if_neg (by omega), show (b % 128 + 128 * dec (c :: r)) / 128 = dec (c :: r) from by omega, e1]
      congr 1; omega

/-! reading -/
theorem dec_app (s : List Int) (c : Int) : dec (s ++ [c]) = dec s + c % 128 * 128 ^ s.length := by
  induction s with
  | nil => simp [dec, arrearsref4_Uint.dec]
  | cons b s ih =>
    simp only [dec] at ih
    simp only [List.cons_append, dec, arrearsref4_Uint.dec, ih, List.length_cons, Int.pow_succ]
    rw [Int.mul_add, ← Int.mul_assoc, Int.mul_comm (128 : Int) (c % 128), Int.mul_assoc, Int.mul_comm (128 : Int) (128 ^ s.length)]
    omega
theorem dec_nonneg : ∀ (s : List Int), 0 ≤ dec s
  | [] => by simp [dec, arrearsref4_Uint.dec]
  | b :: s => by
    have := dec_nonneg s
    simp only [dec] at this
    simp only [dec, arrearsref4_Uint.dec]; omega
theorem dec_lt : ∀ (s : List Int), dec s < 128 ^ s.length
  | [] => by simp [dec, arrearsref4_Uint.dec]
  | b :: s => by
    have := dec_lt s
    simp only [dec] at this
    simp only [dec, arrearsref4_Uint.dec, List.length_cons, Int.pow_succ]; omega
theorem canon_app : ∀ (s : List Int) (c : Int), Canon (s ++ [c]) ↔ ((∀ b ∈ s, 128 ≤ b ∧ b ≤ 255) ∧ 0 ≤ c ∧ c < 128 ∧ (s ≠ [] → c ≠ 0))
  | [], c => by simp [Canon]
  | [b], c => by
    simp [Canon]
    constructor
    · rintro ⟨h1, h2, h3, h4⟩; exact ⟨⟨h1, h2⟩, h3.1, h3.2, h4⟩
    · rintro ⟨h1, h2, h3, h4⟩; exact ⟨h1.1, h1.2, ⟨h2, h3⟩, h4⟩
  | b :: d :: s, c => by
    have ih := canon_app (d :: s) c
    rw [List.cons_append] at ih
    rw [List.cons_append, List.cons_append, Canon, ih]
    constructor
    · rintro ⟨h1, h2, ⟨h3, h4, h5, h6⟩, _⟩
      refine ⟨fun x hx => ?_, h4, h5, fun _ => h6 (by simp)⟩
      rw [List.mem_cons] at hx
      rcases hx with rfl | hx
      · exact ⟨h1, h2⟩
      · exact h3 x hx
    · rintro ⟨h1, h2, h3, h4⟩
      exact ⟨(h1 b (by simp)).1, (h1 b (by simp)).2, ⟨fun x hx => h1 x (by simp at hx ⊢; exact .inr hx), h2, h3, fun _ => h4 (by simp)⟩, fun h => by simp at h⟩
abbrev seg := arrearsref4_Uint.seg
theorem seg_len {l : List Int} {a : Int} {n : Nat} (h : (n : Int) ≤ l.length - a) (ha : 0 ≤ a) : (seg l a n).length = n := by
  simp only [seg, arrearsref4_Uint.seg]; rw [List.length_take, List.length_drop]; omega
theorem seg_succ {l : List Int} {a : Int} {n : Nat} (h : (n : Int) + 1 ≤ l.length - a) (ha : 0 ≤ a) : seg l a (n + 1) = seg l a n ++ [rd l (a + n)] := by
  simp only [seg, arrearsref4_Uint.seg]
  rw [List.take_succ_eq_append_getElem (by rw [List.length_drop]; omega)]
  congr 2
  rw [List.getElem_drop]
  unfold rd
  rw [show (a + (n : Int)).toNat = a.toNat + n from by omega]
  simp [show a.toNat + n < l.length from by omega]
theorem seg_mem {l : List Int} {a : Int} {n : Nat} {x : Int} (h : x ∈ seg l a n) : x ∈ l := by
  simp only [seg, arrearsref4_Uint.seg] at h
  exact List.mem_of_mem_drop (List.mem_of_mem_take h)
/-- The reference hits just where a number's own telling stands. -/
theorem hit_iff {l : List Int} {a : Int} {n : Nat} (hb : ∀ x ∈ l, 0 ≤ x ∧ x ≤ 255) (h1 : 1 ≤ n) (h10 : n ≤ 10) (h : (n : Int) ≤ l.length - a) (ha : 0 ≤ a) : arrearsref4_Uint.hit l a n ↔ (Canon (seg l a n) ∧ dec (seg l a n) ≤ 18446744073709551615) := by
  have hv : 0 ≤ arrearsref4_Uint.val (seg l a n) ∧ arrearsref4_Uint.val (seg l a n) ≤ 18446744073709551615 := by unfold arrearsref4_Uint.val; omega
  have hlt := Int.lt_of_lt_of_le (show arrearsref4_Uint.val (seg l a n) < 18446744073709551616 by omega) pow10
  unfold arrearsref4_Uint.hit
  show arrearsref4_PutUint.f 20 (arrearsref4_Uint.val (seg l a n)) = some (seg l a n) ↔ _
  rw [put_ref _ hv.1 hv.2 20 (by omega)]
  constructor
  · intro he
    have he := Option.some.inj he
    have hc := (canon_enc 10 _ hv.1 hlt).1
    have hd := dec_enc 10 _ hv.1 hlt
    rw [he] at hc hd
    refine ⟨hc, ?_⟩
    have h2 := hv.2
    rw [← hd] at h2
    exact h2
  · rintro ⟨hc, hd⟩
    obtain ⟨e1, e2, _⟩ := enc_dec 10 (seg l a n) hc (by rw [seg_len h ha]; omega)
    have : arrearsref4_Uint.val (seg l a n) = dec (seg l a n) := by
      unfold arrearsref4_Uint.val
      show dec (seg l a n) % 18446744073709551616 = _
      exact Int.emod_eq_of_lt e2 (by omega)
    rw [this, e1]
theorem bits_or_comm (k : IntKind) (x y : Int) : Go.bits .or k x y = Go.bits .or k y x := by
  simp only [Go.bits, BitVec.or_comm]
theorem and127 (c : Int) (h0 : 0 ≤ c) (h1 : c ≤ 255) : Go.bits .and .u8 c 127 = c % 128 := by
  have := bits_mask .u8 8 (by decide) wraps_u8 7 (by decide) c h0 (by omega)
  simpa using this
theorem wraps_u64 (n : Int) (h0 : 0 ≤ n) (h1 : n < 2 ^ 64) : IntKind.u64.wrap n = n := by rw [Hand.u64_wrap]; omega
theorem pow_mono {i j : Nat} (h : i ≤ j) : (128 : Int) ^ i ≤ 128 ^ j := by
  have h1 := Nat.pow_le_pow_right (n := 128) (by decide) h
  have h2 : ((128 ^ i : Nat) : Int) ≤ ((128 ^ j : Nat) : Int) := by exact_mod_cast h1
  rw [Int.natCast_pow, Int.natCast_pow] at h2
  exact h2
theorem pow7 (i : Nat) : (2 : Int) ^ (7 * i) = 128 ^ i := by rw [Int.pow_mul]; rfl
/-- One group more. -/
theorem group_or (x c : Int) (i : Nat) (hx0 : 0 ≤ x) (hx : x < 128 ^ i) (c0 : 0 ≤ c) (c1 : c ≤ 255) (hi : i ≤ 9) (h9 : i = 9 → c ≤ 1) :
    Go.bits .or .u64 x (shl .u64 (IntKind.u64.wrap (Go.bits .and .u8 c 127)) (wrap64 (7 * (i : Int)))) = x + c % 128 * 128 ^ i ∧ c % 128 * 128 ^ i < 18446744073709551616 := by
  have hp : (0 : Int) < 128 ^ i := Int.pow_pos (by omega)
  have hlt : c % 128 * 128 ^ i < 18446744073709551616 := by
    have e9 : (128 : Int) ^ 9 = 9223372036854775808 := by decide
    rcases Nat.lt_or_ge i 9 with h | h
    · have h2 : (128 : Int) ^ i ≤ 128 ^ 8 := pow_mono (by omega)
      have e8 : (128 : Int) ^ 8 = 72057594037927936 := by decide
      have h3 : c % 128 * 128 ^ i ≤ 127 * 128 ^ i := Int.mul_le_mul_of_nonneg_right (by omega) (by omega)
      omega
    · have : i = 9 := by omega
      subst this
      have := h9 rfl
      have h3 : c % 128 * 128 ^ 9 ≤ 1 * 128 ^ 9 := Int.mul_le_mul_of_nonneg_right (by omega) (by omega)
      omega
  have hnn : 0 ≤ c % 128 * 128 ^ i := Int.mul_nonneg (by omega) (by omega)
  refine ⟨?_, hlt⟩
  rw [and127 c c0 c1, pl_u64 (x := c % 128) (by omega) (by omega), pl_w64 (x := 7 * (i : Int)) (by omega) (by omega)]
  have hs : shl .u64 (c % 128) (7 * (i : Int)) = c % 128 * 128 ^ i := by
    unfold shl
    rw [show (7 * (i : Int)).toNat = 7 * i from by omega, Nat.min_eq_left (by show 7 * i ≤ 64; omega), pow7, wraps_u64 _ hnn (by omega)]
  rw [hs, bits_or_comm, bits_join .u64 64 (by decide) wraps_u64 (7 * i) (c % 128 * 128 ^ i) x hnn (by rw [pow7]; exact Int.mul_emod_left _ _) (by omega) hx0 (by rw [pow7]; exact hx) ?_]
  · omega
  · have h2 : (128 : Int) ^ i ≤ 128 ^ 9 := pow_mono (by omega)
    have e9 : (128 : Int) ^ 9 = 9223372036854775808 := by decide
    omega
end Go.Proofs.Ytebjppnggjnghaa.H
