/- Four bytes as a number, in the program and in the document; what stands at a place of a file, in both. -/
import Derived.Test.YtgfjmpnlkjocaaaDoorSFrameC
import Derived.Test.YtgfjmpnlkjocaaaDoorSx2
import Derived.Test.YtgfjmpnlkjocaaaDoorSx2
import Derived.Test.YtgfjmpnlkjocaaaDoorSx3
import Derived.Test.YtgfjmpnlkjocaaaDoorSx4
import Derived.Test.YtgfjmpnlkjocaaaDoorSx4
namespace Go.Proofs.YtgfjmpnlkjocaaaDoor.S
open Go.RowKit Go.Proofs.YtgfjmpnlkjocaaaDoorW.PrintWords Go.Proofs.YtgfjmpnlkjocaaaDoorW.PrintLast Go.Proofs.YtgfjmpnlkjocaaaDoorW.PrintMore
set_option linter.unusedVariables false
set_option linter.unusedSimpArgs false

def Bytes (l : List Int) : Prop := ∀ x ∈ l, 0 ≤ x ∧ x ≤ 255
theorem Bytes.drop {l : List Int} (h : Bytes l) (n : Nat) : Bytes (l.drop n) := fun x hx => h x (List.mem_of_mem_drop hx)
theorem Bytes.take {l : List Int} (h : Bytes l) (n : Nat) : Bytes (l.take n) := fun x hx => h x (List.mem_of_mem_take hx)
theorem rd_at (l : List Int) (i : Nat) (h : i < l.length) : rd l (i : Int) = l[i] := by unfold rd; simp [h]
theorem rd_byte {l : List Int} (hb : Bytes l) (i : Nat) (h : i < l.length) : 0 ≤ rd l (i : Int) ∧ rd l (i : Int) ≤ 255 := by
  rw [rd_at l i h]; exact hb _ (List.getElem_mem _)
theorem rd_drop (l : List Int) (a i : Nat) (h : a + i < l.length) : rd (l.drop a) (i : Int) = rd l (((a + i : Nat) : Int)) := by
  rw [rd_at _ i (by rw [List.length_drop]; omega), rd_at l (a + i) h, List.getElem_drop]
/-- The check sum. -/
def sm (l : List Int) : Int := (frame_Extend.f 0 l).getD 0
theorem sm_is (l : List Int) (hb : Bytes l) (hl : l.length ≤ 6000000) (k : Nat) (hk : l.length + 40 < k) : frame_Sum.f l = some (sm l) ∧ arrearsref6_Sum.f k l = some (sm l) ∧ 0 ≤ sm l ∧ sm l ≤ 4294967295 := by
  obtain ⟨q, h1, h2⟩ := ext_same 0 (by omega) l hb hl k hk
  have e : sm l = q := by unfold sm; rw [h1]; rfl
  refine ⟨by unfold frame_Sum.f; rw [h1, e]; rfl, by unfold arrearsref6_Sum.f; rw [h2, e]; rfl, ?_⟩
  rw [e]
  unfold frame_Extend.f at h1
  obtain ⟨s, g1, g2, g3⟩ := ext_loop l hb hl l.length (l.length + 50) 0 4294967295 (by omega) (by omega) (by omega)
  rw [List.drop_zero] at g2
  rw [show frame_Extend.inv 0 = ((4294967295 : Nat) : Int) from not32 0 (by omega), g2, not32 s g1] at h1
  obtain rfl := Option.some.inj h1
  omega
theorem or32 (a b : Nat) (ha : a < 4294967296) (hb : b < 4294967296) : Go.bits .or .u32 (a : Int) (b : Int) = ((a ||| b : Nat) : Int) := by
  have hx : a ||| b < 2 ^ 32 := Nat.or_lt_two_pow (by omega) (by omega)
  have h1 : (BitVec.ofInt 32 (a : Int)).toNat = a := by
    rw [BitVec.ofInt_natCast, BitVec.toNat_ofNat]; exact Nat.mod_eq_of_lt (by omega)
  have h2 : (BitVec.ofInt 32 (b : Int)).toNat = b := by
    rw [BitVec.ofInt_natCast, BitVec.toNat_ofNat]; exact Nat.mod_eq_of_lt (by omega)
  show IntKind.u32.wrap ((BitVec.ofInt 32 (a : Int) ||| BitVec.ofInt 32 (b : Int)).toNat : Int) = _
  rw [BitVec.toNat_or, h1, h2, u32w]
  omega
theorem or_add (i a b : Nat) (hb : b < 2 ^ i) : b ||| 2 ^ i * a = b + 2 ^ i * a := by
  rw [Nat.or_comm, ← Nat.two_pow_add_eq_or_of_lt hb a, Nat.add_comm]
/-- Four bytes, the lowest first. -/
def wd (l : List Int) : Int := rd l 0 + 256 * rd l 1 + 65536 * rd l 2 + 16777216 * rd l 3
theorem wd_range {l : List Int} (hb : Bytes l) (h4 : 4 ≤ l.length) : 0 ≤ wd l ∧ wd l ≤ 4294967295 := by
  have h0 : 0 ≤ rd l 0 ∧ rd l 0 ≤ 255 := rd_byte hb 0 (by omega)
  have h1 : 0 ≤ rd l 1 ∧ rd l 1 ≤ 255 := rd_byte hb 1 (by omega)
  have h2 : 0 ≤ rd l 2 ∧ rd l 2 ≤ 255 := rd_byte hb 2 (by omega)
  have h3 : 0 ≤ rd l 3 ∧ rd l 3 ≤ 255 := rd_byte hb 3 (by omega)
  unfold wd; omega
theorem word_is (l : List Int) (hb : Bytes l) (h4 : 4 ≤ l.length) : frame_word.f l = some (wd l) := by
  obtain ⟨b0, e0⟩ := nat_of (rd_byte hb 0 (by omega)); obtain ⟨b1, e1⟩ := nat_of (rd_byte hb 1 (by omega)); obtain ⟨b2, e2⟩ := nat_of (rd_byte hb 2 (by omega)); obtain ⟨b3, e3⟩ := nat_of (rd_byte hb 3 (by omega))
  have r0 := rd_byte hb 0 (by omega); have r1 := rd_byte hb 1 (by omega); have r2 := rd_byte hb 2 (by omega); have r3 := rd_byte hb 3 (by omega)
  rw [e0] at r0; rw [e1] at r1; rw [e2] at r2; rw [e3] at r3
  have e0' : rd l 0 = (b0 : Int) := e0
  have e1' : rd l 1 = (b1 : Int) := e1
  have e2' : rd l 2 = (b2 : Int) := e2
  have e3' : rd l 3 = (b3 : Int) := e3
  unfold frame_word.f wd
  rw [if_pos (by omega), if_pos (by omega), if_pos (by omega), if_pos (by omega), e0', e1', e2', e3']
  rw [show ((b0 : Int) % 4294967296) = (b0 : Int) from by omega, show ((b1 : Int) % 4294967296 * 256 % 4294967296) = ((2 ^ 8 * b1 : Nat) : Int) from by omega,
    show ((b2 : Int) % 4294967296 * 65536 % 4294967296) = ((2 ^ 16 * b2 : Nat) : Int) from by omega, show ((b3 : Int) % 4294967296 * 16777216 % 4294967296) = ((2 ^ 24 * b3 : Nat) : Int) from by omega,
    or32 _ _ (by omega) (by omega), or_add 8 b1 b0 (by omega), or32 _ _ (by omega) (by omega), or_add 16 b2 _ (by omega), or32 _ _ (by omega) (by omega), or_add 24 b3 _ (by omega)]
  congr 1
theorem number_step (l : List Int) (hb : Bytes l) (a i : Nat) (acc : Int) (k : Nat) (ha : a + 4 ≤ l.length) (hi : i ≤ 3) (hl : l.length ≤ 20000000) (h0 : 0 ≤ acc) (h1 : acc ≤ 4294967296) :
    arrearsref6_number.l0 (k + 1) l (a : Int) acc (i : Int) = arrearsref6_number.l0 k l (a : Int) (acc * 256 + rd l (((a + i : Nat) : Int))) ((i : Int) - 1) := by
  have h := rd_byte hb (a + i) (by omega)
  simp only [arrearsref6_number.l0]
  rw [show wrap64 ((a : Int) + (i : Int)) = ((a + i : Nat) : Int) from by rw [pl_w64 (by omega) (by omega)]; omega, if_pos (by omega), if_pos (by omega), if_pos (by omega),
    pl_w64 (x := acc * 256) (by omega) (by omega), pl_w64 (x := rd l _) (by omega) (by omega), pl_w64 (x := _ + _) (by omega) (by omega), pl_w64 (x := (i : Int) - 1) (by omega) (by omega)]
theorem number_is (l : List Int) (hb : Bytes l) (a : Nat) (k : Nat) (ha : a + 4 ≤ l.length) (hl : l.length ≤ 20000000) (hk : 5 ≤ k) : arrearsref6_number.f k l (a : Int) = some (wd (l.drop a)) := by
  obtain ⟨k, rfl⟩ : ∃ m, k = m + 5 := ⟨k - 5, by omega⟩
  have g0 := rd_byte hb (a + 0) (by omega); have g1 := rd_byte hb (a + 1) (by omega); have g2 := rd_byte hb (a + 2) (by omega); have g3 := rd_byte hb (a + 3) (by omega)
  have d0 := rd_drop l a 0 (by omega); have d1 := rd_drop l a 1 (by omega); have d2 := rd_drop l a 2 (by omega); have d3 := rd_drop l a 3 (by omega)
  unfold arrearsref6_number.f
  have s3 := number_step l hb a 3 0 (k + 4) ha (by omega) hl (by omega) (by omega)
  have s2 := number_step l hb a 2 (0 * 256 + rd l (((a + 3 : Nat) : Int))) (k + 3) ha (by omega) hl (by omega) (by omega)
  have s1 := number_step l hb a 1 ((0 * 256 + rd l (((a + 3 : Nat) : Int))) * 256 + rd l (((a + 2 : Nat) : Int))) (k + 2) ha (by omega) hl (by omega) (by omega)
  have s0 := number_step l hb a 0 (((0 * 256 + rd l (((a + 3 : Nat) : Int))) * 256 + rd l (((a + 2 : Nat) : Int))) * 256 + rd l (((a + 1 : Nat) : Int))) (k + 1) ha (by omega) hl (by omega) (by omega)
  refine s3.trans (s2.trans (s1.trans (s0.trans ?_)))
  simp only [arrearsref6_number.l0]
  rw [if_neg (by omega)]
  unfold wd
  rw [show rd (l.drop a) 0 = _ from d0, show rd (l.drop a) 1 = _ from d1, show rd (l.drop a) 2 = _ from d2, show rd (l.drop a) 3 = _ from d3]
  congr 1
  omega
/-- What stands at a place: whole, the payload's length, the tail. -/
def spec (l : List Int) (a : Nat) : Bool × Int × Int :=
  if (l.drop a).length = 0 then (false, 0, 0) else if (l.drop a).length < 4 then (false, 0, 1)
  else if 4194304 < wd (l.drop a) then (false, 0, 2) else if ((l.drop a).length : Int) < 4 + wd (l.drop a) + 4 then (false, 0, 1)
  else if sm ((l.drop a).take (4 + wd (l.drop a)).toNat) = wd ((l.drop a).drop (4 + wd (l.drop a)).toNat) then (true, wd (l.drop a), 0) else (false, 0, 3)
/-- The payload. -/
def pay (l : List Int) (a : Nat) (n : Int) : List Int := ((l.drop a).take (4 + n).toNat).drop 4
theorem nx_is (l : List Int) (hb : Bytes l) (a : Nat) (ha : a ≤ l.length) (hl : l.length ≤ 20000000) :
    frame_Decode.nx l a = some (if (spec l a).1 = true then (pay l a (spec l a).2.1, 0, true, (a : Int) + (4 + (spec l a).2.1 + 4)) else ([], (spec l a).2.2, false, (a : Int))) := by
  unfold frame_Decode.nx spec
  by_cases c1 : (l.drop a).length = 0
  · simp only [if_pos c1]; rfl
  simp only [if_neg c1]
  by_cases c2 : (l.drop a).length < 4
  · simp only [if_pos c2]; rfl
  simp only [if_neg c2]
  have hw := wd_range (hb.drop a) (by omega)
  rw [word_is _ (hb.drop a) (by omega), Option.bind_some]
  by_cases c3 : 4194304 < wd (l.drop a)
  · simp only [if_pos c3]; rfl
  simp only [if_neg c3]
  rw [if_neg (by omega)]
  by_cases c4 : ((l.drop a).length : Int) < 4 + wd (l.drop a) + 4
  · simp only [if_pos c4]; rfl
  simp only [if_neg c4]
  obtain ⟨e1, _, _, _⟩ := sm_is ((l.drop a).take (4 + wd (l.drop a)).toNat) ((hb.drop a).take _) (by rw [List.length_take]; omega) (((l.drop a).take (4 + wd (l.drop a)).toNat).length + 41) (by omega)
  rw [e1, Option.bind_some, word_is _ ((hb.drop a).drop _) (by rw [List.length_drop]; omega), Option.bind_some]
  by_cases c5 : sm ((l.drop a).take (4 + wd (l.drop a)).toNat) = wd ((l.drop a).drop (4 + wd (l.drop a)).toNat)
  · simp only [if_pos c5]; rfl
  · simp only [if_neg c5]; rfl
theorem there_is (l : List Int) (hb : Bytes l) (a : Nat) (ha : a ≤ l.length) (hl : l.length ≤ 20000000) (k : Nat) (hk : l.length + 100 < k) : arrearsref6_There.f k l (a : Int) = some (spec l a) := by
  have hd : (l.drop a).length = l.length - a := List.length_drop
  unfold arrearsref6_There.f spec
  rw [pl_w64 (x := (l.length : Int) - (a : Int)) (by omega) (by omega)]
  by_cases c1 : (l.drop a).length = 0
  · simp only [if_pos c1]; rw [if_pos (by omega)]
  simp only [if_neg c1]
  rw [if_neg (by omega)]
  by_cases c2 : (l.drop a).length < 4
  · simp only [if_pos c2]; rw [if_pos (by omega)]
  simp only [if_neg c2]
  have hw := wd_range (hb.drop a) (by omega)
  rw [if_neg (by omega), number_is l hb a k (by omega) hl (by omega), Option.bind_some]
  generalize hn : wd (l.drop a) = n at *
  by_cases c3 : 4194304 < n
  · simp only [gt_iff_lt, if_pos c3]
  simp only [gt_iff_lt, if_neg c3]
  rw [pl_w64 (x := n + 8) (by omega) (by omega)]
  by_cases c4 : ((l.drop a).length : Int) < 4 + n + 4
  · simp only [if_pos c4]; rw [if_pos (by omega)]
  simp only [if_neg c4]
  have hplace : wrap64 (wrap64 ((a : Int) + 4) + n) = ((a + (4 + n).toNat : Nat) : Int) := by rw [pl_w64 (x := (a : Int) + 4) (by omega) (by omega), pl_w64 (by omega) (by omega)]; omega
  rw [if_neg (by omega), hplace, number_is l hb (a + (4 + n).toNat) k (by omega) hl (by omega), Option.bind_some, if_pos (by omega), if_pos (by omega), if_pos (by omega),
    show (((a + (4 + n).toNat : Nat) : Int)).toNat = a + (4 + n).toNat from by omega, show ((a : Int)).toNat = a from by omega]
  have hcut : (l.take (a + (4 + n).toNat)).drop a = (l.drop a).take (4 + n).toNat := by rw [List.drop_take]; congr 1; omega
  obtain ⟨_, e2, r1, r2⟩ := sm_is ((l.drop a).take (4 + n).toNat) ((hb.drop a).take _) (by rw [List.length_take]; omega) k (by rw [List.length_take]; omega)
  rw [hcut, e2, Option.bind_some, pl_w64 (by omega) (by omega), List.drop_drop]
  by_cases c5 : sm ((l.drop a).take (4 + n).toNat) = wd (l.drop (a + (4 + n).toNat))
  · rw [if_pos c5.symm, if_pos c5]
  · rw [if_neg (fun h => c5 h.symm), if_neg c5]
theorem spec_whole {l : List Int} {a : Nat} (ha : a ≤ l.length) (hb : Bytes l) (h : (spec l a).1 = true) : 0 ≤ (spec l a).2.1 ∧ (spec l a).2.1 ≤ 4194304 ∧ (a : Int) + 4 + (spec l a).2.1 + 4 ≤ l.length ∧ (spec l a).2.2 = 0 := by
  have hd : (l.drop a).length = l.length - a := List.length_drop
  unfold spec at h ⊢
  by_cases c1 : (l.drop a).length = 0
  · rw [if_pos c1] at h; exact absurd h (by simp)
  rw [if_neg c1] at h ⊢
  by_cases c2 : (l.drop a).length < 4
  · rw [if_pos c2] at h; exact absurd h (by simp)
  rw [if_neg c2] at h ⊢
  have hw := wd_range (hb.drop a) (by omega)
  by_cases c3 : 4194304 < wd (l.drop a)
  · rw [if_pos c3] at h; exact absurd h (by simp)
  rw [if_neg c3] at h ⊢
  by_cases c4 : ((l.drop a).length : Int) < 4 + wd (l.drop a) + 4
  · rw [if_pos c4] at h; exact absurd h (by simp)
  rw [if_neg c4] at h ⊢
  by_cases c5 : sm ((l.drop a).take (4 + wd (l.drop a)).toNat) = wd ((l.drop a).drop (4 + wd (l.drop a)).toNat)
  · rw [if_pos c5]; refine ⟨?_, ?_, ?_, rfl⟩ <;> simp only <;> omega
  · rw [if_neg c5] at h; exact absurd h (by simp)
theorem pay_len {l : List Int} {a : Nat} {n : Int} (h0 : 0 ≤ n) (h : (a : Int) + 4 + n ≤ l.length) : (pay l a n).length = n.toNat := by
  unfold pay; rw [List.length_drop, List.length_take, List.length_drop]; omega
theorem piece_loop (l : List Int) (s n : Nat) (h : s + n ≤ l.length) (hl : l.length ≤ 20000000) (d : Nat) : ∀ (k i : Nat), i + d = n → d < k → arrearsref6_piece.l0 k l (s : Int) (n : Int) ((l.drop s).take i) (i : Int) = some ((l.drop s).take n) := by
  induction d with
  | zero =>
    intro k i hi hk
    obtain ⟨k, rfl⟩ : ∃ m, k = m + 1 := ⟨k - 1, by omega⟩
    obtain rfl : i = n := by omega
    simp only [arrearsref6_piece.l0]
    rw [if_neg (by omega)]
  | succ d ih =>
    intro k i hi hk
    obtain ⟨k, rfl⟩ : ∃ m, k = m + 1 := ⟨k - 1, by omega⟩
    have e : (l.drop s).take (i + 1) = (l.drop s).take i ++ [rd l (((s + i : Nat) : Int))] := by
      rw [List.take_succ_eq_append_getElem (by rw [List.length_drop]; omega), List.getElem_drop, rd_at l (s + i) (by omega)]
    simp only [arrearsref6_piece.l0]
    rw [if_pos (by omega), show wrap64 ((s : Int) + (i : Int)) = ((s + i : Nat) : Int) from by rw [pl_w64 (by omega) (by omega)]; omega, if_pos (by omega), if_pos (by omega), if_pos (by rw [List.length_take]; omega), ← e,
      show wrap64 ((i : Int) + 1) = ((i + 1 : Nat) : Int) from by rw [pl_w64 (by omega) (by omega)]; omega]
    exact ih k (i + 1) (by omega) (by omega)
theorem piece_is (l : List Int) (a : Nat) (n : Int) (h0 : 0 ≤ n) (h : (a : Int) + 4 + n ≤ l.length) (hl : l.length ≤ 20000000) (k : Nat) (hk : l.length < k) : arrearsref6_piece.f k l (wrap64 ((a : Int) + 4)) n = some (pay l a n) := by
  obtain ⟨m, rfl⟩ := Int.eq_ofNat_of_zero_le h0
  unfold arrearsref6_piece.f pay
  have := piece_loop l (a + 4) m (by omega) hl m k 0 (by omega) (by omega)
  rw [List.take_zero] at this
  rw [show wrap64 ((a : Int) + 4) = ((a + 4 : Nat) : Int) from by rw [pl_w64 (by omega) (by omega)]; omega]
  refine this.trans ?_
  rw [show (4 + (m : Int)).toNat = 4 + m from by omega, List.drop_take, List.drop_drop]
  congr 2
  omega
end Go.Proofs.YtgfjmpnlkjocaaaDoor.S
