/- Numbers in groups of seven bits: what package wire and the document's answer tell and read. The tellings are the same; what is read at any place of any bytes is the same. -/
import Derived.Test.YthdokkfcdjobiaaHand
import Derived.Test.YthdokkfcdjobiaaLx2
import Derived.Test.YthdokkfcdjobiaaLx1
import Derived.Test.YthdokkfcdjobiaaLx3
import Derived.Test.YthdokkfcdjobiaaLOpen
import Derived.Test.YthdokkfcdjobiaaLx2
import Derived.Test.YthdokkfcdjobiaaLx3
namespace Go.Proofs.Ythdokkfcdjobiaa.L
open Go.RowKit Go.Proofs.YthdokkfcdjobiaaW.PrintWords Go.Proofs.YthdokkfcdjobiaaW.PrintLast Go.Proofs.YthdokkfcdjobiaaW.PrintMore
set_option linter.unusedVariables false

theorem pl_w64 {x : Int} (h0 : -9223372036854775808 ≤ x) (h1 : x ≤ 9223372036854775807) : wrap64 x = x := by unfold wrap64; omega
theorem pl_u64 {x : Int} (h0 : 0 ≤ x) (h1 : x ≤ 18446744073709551615) : IntKind.u64.wrap x = x := by rw [Hand.u64_wrap]; omega
def wire_PutUint.enc : Nat → Int → List Int
  | 0, x => [x % 256]
  | f + 1, x => if x < 128 then [x] else (x % 128 + 128) :: wire_PutUint.enc f (x / 128)
abbrev enc := wire_PutUint.enc
abbrev dec := arrearsref4_Uint.dec
/-- The reference's telling is the program's. -/
theorem put_loop : ∀ (d k : Nat) (x : Int) (acc : List Int), 0 ≤ x → x < 128 ^ (d + 1) → x ≤ 18446744073709551615 → d < k → acc.length + d ≤ 1000 → arrearsref4_PutUint.l0 k x acc = some (acc ++ enc d x) := by
  intro d
  induction d with
  | zero =>
    intro k x acc h0 h1 h2 hk hl
    obtain ⟨k, rfl⟩ : ∃ m, k = m + 1 := ⟨k - 1, by omega⟩
    simp only [arrearsref4_PutUint.l0]
    rw [Nat.zero_add, Int.pow_succ, Int.pow_zero] at h1
    rw [if_neg (by omega), if_pos (by omega)]
    simp only [enc, wire_PutUint.enc]
  | succ d ih =>
    intro k x acc h0 h1 h2 hk hl
    obtain ⟨k, rfl⟩ : ∃ m, k = m + 1 := ⟨k - 1, by omega⟩
    have hq : x / 128 < 128 ^ (d + 1) := Int.ediv_lt_of_lt_mul (by omega) (by rwa [← Int.pow_succ])
    simp only [arrearsref4_PutUint.l0, enc, wire_PutUint.enc]
    by_cases c : x > 127
    · rw [if_pos c, if_pos (by omega), if_neg (by omega), Int.tdiv_eq_ediv_of_nonneg h0, Int.tmod_eq_emod_of_nonneg h0, pl_u64 (x := x / 128) (by omega) (by omega), pl_u64 (x := x % 128 + 128) (by omega) (by omega)]
      rw [ih k (x / 128) _ (by omega) hq (by omega) (by omega) (by rw [List.length_append, List.length_singleton]; omega)]
      rw [show (x % 128 + 128) % 256 = x % 128 + 128 from by omega]
      simp
    · rw [if_neg c, if_pos (by omega), if_pos (by omega), show x % 256 = x from by omega]
theorem pow10 : (18446744073709551616 : Int) ≤ 128 ^ (10 + 1) := by decide
theorem put_ref (x : Int) (h0 : 0 ≤ x) (h1 : x ≤ 18446744073709551615) (k : Nat) (hk : 10 < k) : arrearsref4_PutUint.f k x = some (enc 10 x) := by
  unfold arrearsref4_PutUint.f
  rw [put_loop 10 k x [] h0 (Int.lt_of_lt_of_le (by omega) pow10) h1 hk (by simp)]; rfl
theorem enc_len : ∀ (d : Nat) (x : Int), 1 ≤ (enc d x).length ∧ (enc d x).length ≤ d + 1 := by
  intro d
  induction d with
  | zero => intro x; simp [enc, wire_PutUint.enc]
  | succ d ih =>
    intro x
    simp only [enc, wire_PutUint.enc]
    split
    · simp
    · have := ih (x / 128)
      simp only [enc] at this
      rw [List.length_cons]; exact ⟨by omega, by omega⟩
theorem enc_byte : ∀ (d : Nat) (x : Int), 0 ≤ x → ∀ b ∈ enc d x, 0 ≤ b ∧ b ≤ 255 := by
  intro d
  induction d with
  | zero => intro x h b hb; simp [enc, wire_PutUint.enc] at hb; omega
  | succ d ih =>
    intro x h b hb
    simp only [enc, wire_PutUint.enc] at hb
    split at hb
    · simp at hb; omega
    · rw [List.mem_cons] at hb
      rcases hb with rfl | hb
      · omega
      · exact ih (x / 128) (by omega) b hb
theorem dec_enc : ∀ (d : Nat) (x : Int), 0 ≤ x → x < 128 ^ (d + 1) → dec (enc d x) = x := by
  intro d
  induction d with
  | zero =>
    intro x h0 h1
    rw [Nat.zero_add, Int.pow_succ, Int.pow_zero] at h1
    simp only [enc, wire_PutUint.enc, dec, arrearsref4_Uint.dec]; omega
  | succ d ih =>
    intro x h0 h1
    have hq : x / 128 < 128 ^ (d + 1) := Int.ediv_lt_of_lt_mul (by omega) (by rwa [← Int.pow_succ])
    simp only [enc, wire_PutUint.enc]
    split
    · simp only [dec, arrearsref4_Uint.dec]; omega
    · have := ih (x / 128) (by omega) hq
      simp only [dec, enc] at this
      simp only [dec, arrearsref4_Uint.dec]
      rw [this]; omega
/-- Is it the telling of a number: all bytes but the last go on, the last does not, and is 0 only alone. -/
def Canon : List Int → Prop
  | [] => False
  | [b] => 0 ≤ b ∧ b < 128
  | b :: c :: r => 128 ≤ b ∧ b ≤ 255 ∧ Canon (c :: r) ∧ (r = [] → c ≠ 0)
theorem canon_enc : ∀ (d : Nat) (x : Int), 0 ≤ x → x < 128 ^ (d + 1) → Canon (enc d x) ∧ (enc d x = [0] → x = 0) := by
  intro d
  induction d with
  | zero =>
    intro x h0 h1
    rw [Nat.zero_add, Int.pow_succ, Int.pow_zero] at h1
    simp only [enc, wire_PutUint.enc, Canon]
    exact ⟨by omega, fun h => by injection h; omega⟩
  | succ d ih =>
    intro x h0 h1
    have hq : x / 128 < 128 ^ (d + 1) := Int.ediv_lt_of_lt_mul (by omega) (by rwa [← Int.pow_succ])
    simp only [enc, wire_PutUint.enc]
    split
    · exact ⟨by simp only [Canon]; omega, fun h => by injection h⟩
    · obtain ⟨h2, h3⟩ := ih (x / 128) (by omega) hq
      simp only [enc] at h2 h3
      cases he : wire_PutUint.enc d (x / 128) with
      | nil => rw [he] at h2; exact h2.elim
      | cons c r =>
        rw [he] at h2 h3
        refine ⟨⟨by omega, by omega, h2, fun hr hc => ?_⟩, fun h => by injection h with h _; omega⟩
        subst hr; subst hc
        have := h3 rfl
        omega
/-- A telling is its number's own. -/
theorem enc_dec : ∀ (d : Nat) (s : List Int), Canon s → s.length ≤ d + 1 → enc d (dec s) = s ∧ 0 ≤ dec s ∧ (dec s = 0 → s = [0]) := by
  intro d
  induction d with
  | zero =>
    intro s hs hl
    match s, hs, hl with
    | [b], hs, _ =>
      simp only [Canon] at hs
      simp only [enc, wire_PutUint.enc, dec, arrearsref4_Uint.dec]
      exact ⟨by congr 1; omega, by omega, fun h => by congr 1; omega⟩
    | b :: c :: r, _, hl => simp at hl
  | succ d ih =>
    intro s hs hl
    match s, hs, hl with
    | [b], hs, _ =>
      simp only [Canon] at hs
      have hb : dec [b] = b := by simp only [dec, arrearsref4_Uint.dec]; omega
      rw [hb]
      simp only [enc, wire_PutUint.enc]
      rw [if_pos (by omega)]
      exact ⟨by first | rfl | (congr 1; omega), by omega, fun h => by rw [h]⟩
    | b :: c :: r, hs, hl =>
      obtain ⟨h1, h2, h3, h4⟩ := hs
      obtain ⟨e1, e2, e3⟩ := ih (c :: r) h3 (by simpa using hl)
      have hd : dec (b :: c :: r) = b % 128 + 128 * dec (c :: r) := rfl
      have hpos : 1 ≤ dec (c :: r) := by
        rcases Int.lt_or_le 0 (dec (c :: r)) with h | h
        · omega
        · have := e3 (by omega)
          injection this with hc hr
          exact absurd hc (h4 hr)
      rw [hd]
      refine ⟨?_, by omega, fun h => by omega⟩
      simp only [enc] at e1
      simp only [enc, wire_PutUint.enc]
      rw [if_neg (by omega), show (b % 128 + 128 * dec (c :: r)) / 128 = dec (c :: r) from by omega, e1]
      congr 1; omega

/-! reading -/
theorem dec_app (s : List Int) (c : Int) : dec (s ++ [c]) = dec s + c % 128 * 128 ^ s.length := by
  induction s with
  | nil => simp [dec, arrearsref4_Uint.dec]
  | cons b s ih =>
    simp only [dec] at ih
    simp only [List.cons_append, dec, arrearsref4_Uint.dec, ih, List.length_cons, Int.pow_succ]
    rw [Int.mul_add, ← Int.mul_assoc, Int.mul_comm (128 : Int) (c % 128), Int.mul_assoc, Int.mul_comm (128 : Int) (128 ^ s.length)]
    omega
theorem dec_nonneg : ∀ (s : List Int), 0 ≤ dec s
  | [] => by simp [dec, arrearsref4_Uint.dec]
  | b :: s => by
    have := dec_nonneg s
    simp only [dec] at this
    simp only [dec, arrearsref4_Uint.dec]; omega
theorem dec_lt : ∀ (s : List Int), dec s < 128 ^ s.length
  | [] => by simp [dec, arrearsref4_Uint.dec]
  | b :: s => by
    have := dec_lt s
    simp only [dec] at this
    simp only [dec, arrearsref4_Uint.dec, List.length_cons, Int.pow_succ]; omega
theorem canon_app : ∀ (s : List Int) (c : Int), Canon (s ++ [c]) ↔ ((∀ b ∈ s, 128 ≤ b ∧ b ≤ 255) ∧ 0 ≤ c ∧ c < 128 ∧ (s ≠ [] → c ≠ 0))
  | [], c => by simp [Canon]
  | [b], c => by
    simp [Canon]
    constructor
    · rintro ⟨h1, h2, h3, h4⟩; exact ⟨⟨h1, h2⟩, h3.1, h3.2, h4⟩
    · rintro ⟨h1, h2, h3, h4⟩; exact ⟨h1.1, h1.2, ⟨h2, h3⟩, h4⟩
  | b :: d :: s, c => by
    have ih := canon_app (d :: s) c
    rw [List.cons_append] at ih
    rw [List.cons_append, List.cons_append, Canon, ih]
    constructor
    · rintro ⟨h1, h2, ⟨h3, h4, h5, h6⟩, _⟩
      refine ⟨fun x hx => ?_, h4, h5, fun _ => h6 (by simp)⟩
      rw [List.mem_cons] at hx
      rcases hx with rfl | hx
      · exact ⟨h1, h2⟩
      · exact h3 x hx
    · rintro ⟨h1, h2, h3, h4⟩
      exact ⟨(h1 b (by simp)).1, (h1 b (by simp)).2, ⟨fun x hx => h1 x (by simp at hx ⊢; exact .inr hx), h2, h3, fun _ => h4 (by simp)⟩, fun h => by simp at h⟩
abbrev seg := arrearsref4_Uint.seg
theorem seg_len {l : List Int} {a : Int} {n : Nat} (h : (n : Int) ≤ l.length - a) (ha : 0 ≤ a) : (seg l a n).length = n := by
  simp only [seg, arrearsref4_Uint.seg]; rw [List.length_take, List.length_drop]; omega
theorem seg_succ {l : List Int} {a : Int} {n : Nat} (h : (n : Int) + 1 ≤ l.length - a) (ha : 0 ≤ a) : seg l a (n + 1) = seg l a n ++ [rd l (a + n)] := by
  simp only [seg, arrearsref4_Uint.seg]
  rw [List.take_succ_eq_append_getElem (by rw [List.length_drop]; omega)]
  congr 2
  rw [List.getElem_drop]
  unfold rd
  rw [show (a + (n : Int)).toNat = a.toNat + n from by omega]
  simp [show a.toNat + n < l.length from by omega]
theorem seg_mem {l : List Int} {a : Int} {n : Nat} {x : Int} (h : x ∈ seg l a n) : x ∈ l := by
  simp only [seg, arrearsref4_Uint.seg] at h
  exact List.mem_of_mem_drop (List.mem_of_mem_take h)
/-- The reference hits just where a number's own telling stands. -/
theorem hit_iff {l : List Int} {a : Int} {n : Nat} (hb : ∀ x ∈ l, 0 ≤ x ∧ x ≤ 255) (h1 : 1 ≤ n) (h10 : n ≤ 10) (h : (n : Int) ≤ l.length - a) (ha : 0 ≤ a) : arrearsref4_Uint.hit l a n ↔ (Canon (seg l a n) ∧ dec (seg l a n) ≤ 18446744073709551615) := by
  have hv : 0 ≤ arrearsref4_Uint.val (seg l a n) ∧ arrearsref4_Uint.val (seg l a n) ≤ 18446744073709551615 := by unfold arrearsref4_Uint.val; omega
  have hlt := Int.lt_of_lt_of_le (show arrearsref4_Uint.val (seg l a n) < 18446744073709551616 by omega) pow10
  unfold arrearsref4_Uint.hit
  show arrearsref4_PutUint.f 20 (arrearsref4_Uint.val (seg l a n)) = some (seg l a n) ↔ _
  rw [put_ref _ hv.1 hv.2 20 (by omega)]
  constructor
  · intro he
    have he := Option.some.inj he
    have hc := (canon_enc 10 _ hv.1 hlt).1
    have hd := dec_enc 10 _ hv.1 hlt
    rw [he] at hc hd
    refine ⟨hc, ?_⟩
    have h2 := hv.2
    rw [← hd] at h2
    exact h2
  · rintro ⟨hc, hd⟩
    obtain ⟨e1, e2, _⟩ := enc_dec 10 (seg l a n) hc (by rw [seg_len h ha]; omega)
    have : arrearsref4_Uint.val (seg l a n) = dec (seg l a n) := by
      unfold arrearsref4_Uint.val
      show dec (seg l a n) % 18446744073709551616 = _
      exact Int.emod_eq_of_lt e2 (by omega)
    rw [this, e1]
theorem bits_or_comm (k : IntKind) (x y : Int) : Go.bits .or k x y = Go.bits .or k y x := by
  simp only [Go.bits, BitVec.or_comm]
theorem and127 (c : Int) (h0 : 0 ≤ c) (h1 : c ≤ 255) : Go.bits .and .u8 c 127 = c % 128 := by
  have := bits_mask .u8 8 (by decide) wraps_u8 7 (by decide) c h0 (by omega)
  simpa using this
theorem wraps_u64 (n : Int) (h0 : 0 ≤ n) (h1 : n < 2 ^ 64) : IntKind.u64.wrap n = n := by rw [Hand.u64_wrap]; omega
theorem pow_mono {i j : Nat} (h : i ≤ j) : (128 : Int) ^ i ≤ 128 ^ j := by
  have h1 := Nat.pow_le_pow_right (n := 128) (by decide) h
  have h2 : ((128 ^ i : Nat) : Int) ≤ ((128 ^ j : Nat) : Int) := by exact_mod_cast h1
  rw [Int.natCast_pow, Int.natCast_pow] at h2
  exact h2
theorem pow7 (i : Nat) : (2 : Int) ^ (7 * i) = 128 ^ i := by rw [Int.pow_mul]; rfl
/-- One group more. -/
theorem group_or (x c : Int) (i : Nat) (hx0 : 0 ≤ x) (hx : x < 128 ^ i) (c0 : 0 ≤ c) (c1 : c ≤ 255) (hi : i ≤ 9) (h9 : i = 9 → c ≤ 1) :
    Go.bits .or .u64 x (shl .u64 (IntKind.u64.wrap (Go.bits .and .u8 c 127)) (wrap64 (7 * (i : Int)))) = x + c % 128 * 128 ^ i ∧ c % 128 * 128 ^ i < 18446744073709551616 := by
  have hp : (0 : Int) < 128 ^ i := Int.pow_pos (by omega)
  have hlt : c % 128 * 128 ^ i < 18446744073709551616 := by
    have e9 : (128 : Int) ^ 9 = 9223372036854775808 := by decide
    rcases Nat.lt_or_ge i 9 with h | h
    · have h2 : (128 : Int) ^ i ≤ 128 ^ 8 := pow_mono (by omega)
      have e8 : (128 : Int) ^ 8 = 72057594037927936 := by decide
      have h3 : c % 128 * 128 ^ i ≤ 127 * 128 ^ i := Int.mul_le_mul_of_nonneg_right (by omega) (by omega)
      omega
    · have : i = 9 := by omega
      subst this
      have := h9 rfl
      have h3 : c % 128 * 128 ^ 9 ≤ 1 * 128 ^ 9 := Int.mul_le_mul_of_nonneg_right (by omega) (by omega)
      omega
  have hnn : 0 ≤ c % 128 * 128 ^ i := Int.mul_nonneg (by omega) (by omega)
  refine ⟨?_, hlt⟩
  rw [and127 c c0 c1, pl_u64 (x := c % 128) (by omega) (by omega), pl_w64 (x := 7 * (i : Int)) (by omega) (by omega)]
  have hs : shl .u64 (c % 128) (7 * (i : Int)) = c % 128 * 128 ^ i := by
    unfold shl
    rw [show (7 * (i : Int)).toNat = 7 * i from by omega, Nat.min_eq_left (by show 7 * i ≤ 64; omega), pow7, wraps_u64 _ hnn (by omega)]
  rw [hs, bits_or_comm, bits_join .u64 64 (by decide) wraps_u64 (7 * i) (c % 128 * 128 ^ i) x hnn (by rw [pow7]; exact Int.mul_emod_left _ _) (by omega) hx0 (by rw [pow7]; exact hx) ?_]
  · omega
  · have h2 : (128 : Int) ^ i ≤ 128 ^ 9 := pow_mono (by omega)
    have e9 : (128 : Int) ^ 9 = 9223372036854775808 := by decide
    omega
/-- A low byte ahead of the last: no telling. -/
theorem no_hit {l : List Int} {a : Int} {j : Nat} (hb : ∀ x ∈ l, 0 ≤ x ∧ x ≤ 255) (ha : 0 ≤ a) (hlow : rd l (a + j) < 128) : ∀ (d n : Nat), j + 1 < n → arrearsref4_Uint.search l a d n = (0, 0, false) := by
  intro d
  induction d with
  | zero => intro n _; rfl
  | succ d ih =>
    intro n hn
    simp only [arrearsref4_Uint.search]
    by_cases c : n ≤ 10 ∧ (n : Int) ≤ l.length - a
    · rw [if_pos c, if_neg, ih (n + 1) (by omega)]
      intro hh
      have hc := ((hit_iff hb (by omega) c.1 c.2 ha).1 hh).1
      obtain ⟨m, rfl⟩ : ∃ m, n = m + 1 := ⟨n - 1, by omega⟩
      rw [seg_succ (by omega) ha, canon_app] at hc
      have hm : rd l (a + j) ∈ seg l a m := by
        have e1 : j < (seg l a m).length := by rw [seg_len (by omega) ha]; omega
        have e2 : (seg l a m)[j] = rd l (a + j) := by
          simp only [seg, arrearsref4_Uint.seg, List.getElem_take, List.getElem_drop]
          unfold rd
          rw [show (a + (j : Int)).toNat = a.toNat + j from by omega]
          simp [show a.toNat + j < l.length from by omega]
        rw [← e2]; exact List.getElem_mem _
      have := (hc.1 _ hm).1
      omega
    · rw [if_neg c]
theorem rd_mem {l : List Int} {i : Int} (h0 : 0 ≤ i) (h1 : i < l.length) : rd l i ∈ l := by
  unfold rd
  rw [List.getD_eq_getElem?_getD, List.getElem?_eq_getElem (by omega), Option.getD_some]
  exact List.getElem_mem _
theorem uint_loop {l : List Int} {a : Int} (hb : ∀ x ∈ l, 0 ≤ x ∧ x ≤ 255) (ha : 0 ≤ a) (hl : l.length ≤ 140737488351232) :
    ∀ (d i k : Nat) (x : Int), i + d = 10 → 3 * d + 3 ≤ k → (∀ b ∈ seg l a i, 128 ≤ b ∧ b ≤ 255) → x = dec (seg l a i) → (i : Int) ≤ l.length - a →
      wire_Uint.l0 k l a x (i : Int) = some (arrearsref4_Uint.search l a (d + 1) (i + 1)) := by
  intro d
  induction d with
  | zero =>
    intro i k x hi hk _ _ _
    obtain ⟨k, rfl⟩ : ∃ m, k = m + 2 := ⟨k - 2, by omega⟩
    have : i = 10 := by omega
    subst this
    simp only [wire_Uint.l0, wire_Uint.j2, arrearsref4_Uint.search]
    rfl
  | succ d ih =>
    intro i k x hi hk hhi hx hle
    obtain ⟨k, rfl⟩ : ∃ m, k = m + 3 := ⟨k - 3, by omega⟩
    have hw1 : wrap64 (a + (i : Int)) = a + i := pl_w64 (by omega) (by omega)
    have hw2 : wrap64 ((i : Int) + 1) = ((i + 1 : Nat) : Int) := by rw [pl_w64 (by omega) (by omega)]; omega
    have hw3 : wrap64 (a + (i : Int) + 1) = a + ((i + 1 : Nat) : Int) := by rw [pl_w64 (by omega) (by omega)]; omega
    have hw4 : 0 ≤ wrap64 (7 * (i : Int)) := by rw [pl_w64 (by omega) (by omega)]; omega
    simp only [wire_Uint.l0, wire_Uint.j2]
    rw [if_pos (by omega), hw1]
    by_cases c : a + (i : Int) < (l.length : Int)
    · have hcm := hb _ (rd_mem (l := l) (i := a + i) (by omega) c)
      have hlen : (seg l a i).length = i := seg_len hle ha
      have hx0 : 0 ≤ x := by rw [hx]; exact dec_nonneg _
      have hx1 : x < 128 ^ i := by rw [hx]; have := dec_lt (seg l a i); rw [hlen] at this; exact this
      have hsucc : seg l a (i + 1) = seg l a i ++ [rd l (a + i)] := seg_succ (by omega) ha
      have hdec : dec (seg l a (i + 1)) = x + rd l (a + i) % 128 * 128 ^ i := by rw [hsucc, dec_app, hlen, ← hx]
      have hcanon : Canon (seg l a (i + 1)) ↔ (rd l (a + i) < 128 ∧ (i ≠ 0 → rd l (a + i) ≠ 0)) := by
        rw [hsucc, canon_app]
        have hne : seg l a i ≠ [] ↔ i ≠ 0 := by
          constructor
          · intro h e; subst e; exact h (List.length_eq_zero_iff.1 hlen)
          · intro h e; rw [e] at hlen; simp at hlen; exact h hlen.symm
        rw [hne]
        constructor
        · rintro ⟨_, _, h1, h2⟩; exact ⟨h1, h2⟩
        · rintro ⟨h1, h2⟩; exact ⟨hhi, hcm.1, h1, h2⟩
      have hhit := hit_iff hb (n := i + 1) (by omega) (by omega) (by omega) ha
      rw [hcanon, hdec] at hhit
      have hs : ∀ z : Nat, arrearsref4_Uint.search l a (z + 1) (i + 1) = if arrearsref4_Uint.hit l a (i + 1) then (arrearsref4_Uint.val (seg l a (i + 1)), a + ((i + 1 : Nat) : Int), true) else arrearsref4_Uint.search l a z (i + 1 + 1) := by
        intro z
        rw [arrearsref4_Uint.search, if_pos ⟨by omega, by omega⟩]
      rw [hs]
      rw [decide_eq_true c, if_pos rfl, if_pos (by omega), if_pos c]
      generalize hcd : rd l (a + (i : Int)) = c0 at *
      by_cases c9 : (i : Int) = 9 ∧ c0 > 1
      · rw [if_pos c9.1]
        simp only [wire_Uint.j3]
        rw [decide_eq_true c9.2, if_pos rfl, if_neg]
        · have hd0 : d = 0 := by omega
          have hi9 : i = 9 := by omega
          subst hd0; subst hi9
          rw [arrearsref4_Uint.search, if_neg (by omega)]
        · rw [hhit]
          rintro ⟨⟨h1, _⟩, h2⟩
          have hi9 : i = 9 := by omega
          subst hi9
          have e9 : (128 : Int) ^ 9 = 9223372036854775808 := by decide
          rw [e9] at h2
          omega
      · have hg := group_or x c0 i hx0 hx1 hcm.1 hcm.2 (by omega) (fun h => by omega)
        have hsum : x + c0 % 128 * 128 ^ i ≤ 18446744073709551615 := by
          rcases Nat.lt_or_ge i 9 with h | h
          · have h2 : (128 : Int) ^ i ≤ 128 ^ 8 := pow_mono (by omega)
            have e8 : (128 : Int) ^ 8 = 72057594037927936 := by decide
            have h3 : c0 % 128 * 128 ^ i ≤ 127 * 128 ^ i := Int.mul_le_mul_of_nonneg_right (by omega) (by have := Int.pow_pos (n := 128) (m := i) (by omega); omega)
            omega
          · have h9 : i = 9 := by omega
            subst h9
            have e9 : (128 : Int) ^ 9 = 9223372036854775808 := by decide
            rw [e9] at *
            omega
        have hj : (if (i : Int) = 9 then wire_Uint.j3 (k + 1) l a x (i : Int) c0 (decide (c0 > 1)) else wire_Uint.j3 (k + 1) l a x (i : Int) c0 false) = wire_Uint.j3 (k + 1) l a x (i : Int) c0 false := by
          by_cases h9 : (i : Int) = 9
          · rw [if_pos h9, decide_eq_false (fun h => c9 ⟨h9, h⟩)]
          · rw [if_neg h9]
        rw [hj]
        simp only [wire_Uint.j3]
        rw [if_neg (by simp), if_pos hw4, hg.1, hw1, hw2, hw3]
        by_cases cl : c0 < 128
        · rw [if_pos cl]
          by_cases cz : c0 = 0 ∧ i ≠ 0
          · rw [if_pos cz.1, if_pos (by omega), if_neg (by rw [hhit]; rintro ⟨⟨_, h⟩, _⟩; exact h cz.2 cz.1), no_hit hb ha (j := i) (by omega) _ _ (by omega)]
          · have hh : arrearsref4_Uint.hit l a (i + 1) := by rw [hhit]; exact ⟨⟨cl, fun h e => cz ⟨e, h⟩⟩, hsum⟩
            rw [if_pos hh]
            have hval : arrearsref4_Uint.val (seg l a (i + 1)) = x + c0 % 128 * 128 ^ i := by
              unfold arrearsref4_Uint.val
              show dec (seg l a (i + 1)) % 18446744073709551616 = _
              rw [hdec]
              have h0 : 0 ≤ dec (seg l a (i + 1)) := dec_nonneg _
              rw [hdec] at h0
              exact Int.emod_eq_of_lt h0 (by omega)
            rw [hval]
            by_cases ce : c0 = 0
            · rw [if_pos ce, if_neg (by omega)]
            · rw [if_neg ce]
        · rw [if_neg cl, if_neg (by rw [hhit]; rintro ⟨⟨h, _⟩, _⟩; exact cl h)]
          refine ih (i + 1) k _ (by omega) (by omega) ?_ hdec.symm (by omega)
          intro b hbm
          rw [hsucc, List.mem_append, List.mem_singleton] at hbm
          rcases hbm with h | rfl
          · exact hhi b h
          · exact ⟨by omega, hcm.2⟩
    · rw [decide_eq_false c, if_neg (by simp), arrearsref4_Uint.search, if_neg (by omega)]
/-- What is read of a number is the document's. -/
theorem uint_same {l : List Int} {a : Int} (hb : ∀ x ∈ l, 0 ≤ x ∧ x ≤ 255) (hl : l.length ≤ 140737488351232) (k : Nat) (hk : 40 ≤ k) : wire_Uint.f k l a = arrearsref4_Uint.f l a := by
  obtain ⟨k, rfl⟩ : ∃ m, k = m + 1 := ⟨k - 1, by omega⟩
  unfold wire_Uint.f arrearsref4_Uint.f
  rw [if_pos hb]
  by_cases c0 : a < 0
  · rw [if_pos c0, if_pos (.inl c0)]; simp only [wire_Uint.j0]; rfl
  · rw [if_neg c0]
    simp only [wire_Uint.j0]
    by_cases c1 : a > (l.length : Int)
    · rw [decide_eq_true c1, if_pos rfl, if_pos (.inr c1)]
    · rw [decide_eq_false c1, if_neg (by simp), if_neg (by omega)]
      have hs : seg l a 0 = [] := by simp [seg, arrearsref4_Uint.seg]
      exact uint_loop hb (by omega) hl 10 0 k 0 rfl (by omega) (by rw [hs]; intro b h; simp at h) (by rw [hs]; rfl) (by omega)
/-- What the reading of a number answers lies in its bounds. -/
theorem search_range {l : List Int} {a : Int} : ∀ (d n : Nat), 0 ≤ (arrearsref4_Uint.search l a d n).1 ∧ (arrearsref4_Uint.search l a d n).1 ≤ 18446744073709551615 := by
  intro d
  induction d with
  | zero => intro n; simp [arrearsref4_Uint.search]
  | succ d ih =>
    intro n
    rw [arrearsref4_Uint.search]
    split
    · split
      · unfold arrearsref4_Uint.val; dsimp only; omega
      · exact ih (n + 1)
    · simp
theorem copied_loop (l : List Int) (hl : l.length ≤ 140737488351232) (d : Nat) : ∀ (k i : Nat), i + d = l.length → d < k → arrearslaw4_copied.l0 k l (l.take i) (i : Int) = some l := by
  induction d with
  | zero =>
    intro k i hi hk
    obtain ⟨k, rfl⟩ : ∃ m, k = m + 1 := ⟨k - 1, by omega⟩
    simp only [arrearslaw4_copied.l0]
    rw [if_neg (by omega), List.take_of_length_le (by omega)]
  | succ d ih =>
    intro k i hi hk
    obtain ⟨k, rfl⟩ : ∃ m, k = m + 1 := ⟨k - 1, by omega⟩
    simp only [arrearslaw4_copied.l0]
    have e : l.take (i + 1) = l.take i ++ [rd l (i : Int)] := by
      rw [List.take_succ_eq_append_getElem (by omega)]
      unfold rd
      simp [show i < l.length from by omega]
    rw [if_pos (by omega), if_pos (by omega), if_pos (by rw [List.length_take]; omega), ← e, show wrap64 ((i : Int) + 1) = ((i + 1 : Nat) : Int) from by rw [pl_w64 (by omega) (by omega)]; omega]
    exact ih k (i + 1) (by omega) (by omega)
theorem copied_is (l : List Int) (hl : l.length ≤ 140737488351232) (k : Nat) (hk : l.length < k) : arrearslaw4_copied.f k l = some l := by
  unfold arrearslaw4_copied.f
  have := copied_loop l hl l.length k 0 (by omega) hk
  simpa using this
theorem rd_int {l : List Int} {i : Nat} (h : i < l.length) : rd l (i : Int) = l[i] := by unfold rd; simp [h]
theorem sameNums_loop (a : List Int) (hm : a.length ≤ 1048576) (d : Nat) : ∀ (k i : Nat), i + d = a.length → d < k → arrearslaw4_sameNums.l0 k a a (i : Int) = some true := by
  induction d with
  | zero =>
    intro k i hi hk
    obtain ⟨k, rfl⟩ : ∃ m, k = m + 1 := ⟨k - 1, by omega⟩
    simp only [arrearslaw4_sameNums.l0]
    rw [if_neg (by omega)]
  | succ d ih =>
    intro k i hi hk
    obtain ⟨k, rfl⟩ : ∃ m, k = m + 1 := ⟨k - 1, by omega⟩
    simp only [arrearslaw4_sameNums.l0, if_true]
    rw [if_pos (by omega), if_pos (by omega), if_pos (by omega), show wrap64 ((i : Int) + 1) = ((i + 1 : Nat) : Int) from by unfold wrap64; omega, ih k (i + 1) (by omega) (by omega)]
theorem sameNums_self (a : List Int) (hm : a.length ≤ 1048576) (k : Nat) (hk : a.length < k) : arrearslaw4_sameNums.f k a a = some true := by
  unfold arrearslaw4_sameNums.f
  rw [if_pos rfl]
  exact sameNums_loop a hm a.length k 0 (by omega) hk
end Go.Proofs.Ythdokkfcdjobiaa.L
