/- The program's check sum, four bytes as a number, and what stands at a place of a file. No condition but the bytes' range. -/
import Derived.Test.YtgfjmpnlkjocaaaDoorJFrameB
import Derived.Test.YtgfjmpnlkjocaaaDoorJx1
import Derived.Test.YtgfjmpnlkjocaaaDoorJx1
import Derived.Test.YtgfjmpnlkjocaaaDoorJx3
namespace Go.Proofs.YtgfjmpnlkjocaaaDoor.J
open Go.RowKit Go.Proofs.YtgfjmpnlkjocaaaDoorW.PrintWords Go.Proofs.YtgfjmpnlkjocaaaDoorW.PrintLast Go.Proofs.YtgfjmpnlkjocaaaDoorW.PrintMore
set_option linter.unusedVariables false
set_option linter.unusedSimpArgs false

theorem pl_w64 {x : Int} (h0 : -9223372036854775808 ≤ x) (h1 : x ≤ 9223372036854775807) : wrap64 x = x := by unfold wrap64; omega
theorem not32 (r : Nat) (h : r < 4294967296) : frame_Extend.inv (r : Int) = ((4294967295 - r : Nat) : Int) := by
  have h1 : (BitVec.ofInt 32 (r : Int)).toNat = r := by
    rw [BitVec.ofInt_natCast, BitVec.toNat_ofNat]; exact Nat.mod_eq_of_lt (by omega)
  show IntKind.u32.wrap ((BitVec.ofInt 32 IntKind.u32.max ^^^ BitVec.ofInt 32 (r : Int)).toNat : Int) = _
  rw [show BitVec.ofInt 32 IntKind.u32.max = BitVec.allOnes 32 from by decide, BitVec.xor_comm, BitVec.xor_allOnes, BitVec.toNat_not, h1, u32w]
  omega
theorem tab_nib (x : Nat) (h : x < 16) : frame_Extend.tab (x : Int) = (nib x : Int) := by
  have : x = 0 ∨ x = 1 ∨ x = 2 ∨ x = 3 ∨ x = 4 ∨ x = 5 ∨ x = 6 ∨ x = 7 ∨ x = 8 ∨ x = 9 ∨ x = 10 ∨ x = 11 ∨ x = 12 ∨ x = 13 ∨ x = 14 ∨ x = 15 := by omega
  rcases this with rfl | rfl | rfl | rfl | rfl | rfl | rfl | rfl | rfl | rfl | rfl | rfl | rfl | rfl | rfl | rfl <;> rfl
theorem crc4_lt (r : Nat) (h : r < 4294967296) : crc4 r < 4294967296 := by
  unfold crc4
  exact crc1_lt _ (crc1_lt _ (crc1_lt _ (crc1_lt _ h)))
theorem mix_is (r : Nat) (h : r < 4294967296) : frame_Extend.mix (r : Int) = ((crc4 r : Nat) : Int) := by
  unfold frame_Extend.mix
  rw [low16 r h, tab_nib _ (Nat.mod_lt _ (by decide)), show ((r : Int) / 16) = ((r / 16 : Nat) : Int) from by omega, xor32 _ _ (by omega) (nib_lt _ (Nat.mod_lt _ (by decide))), crc4_is]
/-- The register behind one byte more. -/
def byte1 (r b : Nat) : Nat := crc4 (crc4 (r ^^^ b))
theorem byte1_lt (r b : Nat) (h : r < 4294967296) (hb : b < 4294967296) : byte1 r b < 4294967296 :=
  crc4_lt _ (crc4_lt _ (Nat.xor_lt_two_pow (n := 32) (by omega) (by omega)))
theorem step_is (r b : Nat) (h : r < 4294967296) (hb : b < 256) : frame_Extend.step (r : Int) (b : Int) = ((byte1 r b : Nat) : Int) := by
  have hx : r ^^^ b < 4294967296 := Nat.xor_lt_two_pow (n := 32) (by omega) (by omega)
  unfold frame_Extend.step byte1
  rw [show (b : Int) % 4294967296 = (b : Int) from by omega, xor32 r b h (by omega), mix_is _ hx, mix_is _ (crc4_lt _ hx)]
theorem nat_of {x : Int} {m : Int} (h : 0 ≤ x ∧ x ≤ m) : ∃ n : Nat, x = (n : Int) := ⟨x.toNat, by omega⟩
def Bytes (l : List Int) : Prop := ∀ x ∈ l, 0 ≤ x ∧ x ≤ 255
theorem Bytes.drop {l : List Int} (h : Bytes l) (n : Nat) : Bytes (l.drop n) := fun x hx => h x (List.mem_of_mem_drop hx)
theorem Bytes.take {l : List Int} (h : Bytes l) (n : Nat) : Bytes (l.take n) := fun x hx => h x (List.mem_of_mem_take hx)
theorem rd_at (l : List Int) (i : Nat) (h : i < l.length) : rd l (i : Int) = l[i] := by unfold rd; simp [h]
theorem rd_byte {l : List Int} (hb : Bytes l) (i : Nat) (h : i < l.length) : 0 ≤ rd l (i : Int) ∧ rd l (i : Int) ≤ 255 := by
  rw [rd_at l i h]; exact hb _ (List.getElem_mem _)
theorem rd_drop (l : List Int) (a i : Nat) (h : a + i < l.length) : rd (l.drop a) (i : Int) = rd l (((a + i : Nat) : Int)) := by
  rw [rd_at _ i (by rw [List.length_drop]; omega), rd_at l (a + i) h, List.getElem_drop]
/-- The sum's register behind the bytes, from r on. -/
def reg (r : Nat) (l : List Int) : Nat := l.foldl (fun r b => byte1 r b.toNat) r
theorem reg_is (l : List Int) (hb : Bytes l) : ∀ r : Nat, r < 4294967296 → l.foldl frame_Extend.step (r : Int) = ((reg r l : Nat) : Int) ∧ reg r l < 4294967296 := by
  induction l with
  | nil => exact fun r hr => ⟨rfl, hr⟩
  | cons b l ih =>
    intro r hr
    have hm := hb b (by simp)
    obtain ⟨n, hn⟩ := nat_of hm
    have hlt := byte1_lt r n hr (by omega)
    have h := ih (fun x hx => hb x (List.mem_cons_of_mem _ hx)) (byte1 r n) hlt
    unfold reg at h ⊢
    rw [List.foldl_cons, List.foldl_cons, hn, step_is r n hr (by omega), Int.toNat_natCast]
    exact h
theorem reg_append (r : Nat) (l m : List Int) : reg r (l ++ m) = reg (reg r l) m := List.foldl_append
/-- The check sum. -/
def sm (l : List Int) : Int := (frame_Extend.f 0 l).getD 0
theorem sm_reg (l : List Int) (hb : Bytes l) : sm l = ((4294967295 - reg 4294967295 l : Nat) : Int) ∧ reg 4294967295 l < 4294967296 := by
  obtain ⟨h, hlt⟩ := reg_is l hb 4294967295 (by omega)
  refine ⟨?_, hlt⟩
  unfold sm frame_Extend.f
  rw [Option.getD_some, show frame_Extend.inv 0 = ((4294967295 : Nat) : Int) from not32 0 (by omega), h, not32 _ hlt]
theorem sm_prog (l : List Int) (hb : Bytes l) : frame_Sum.f l = some (sm l) ∧ 0 ≤ sm l ∧ sm l ≤ 4294967295 := by
  obtain ⟨h, hlt⟩ := sm_reg l hb
  refine ⟨?_, by omega⟩
  unfold frame_Sum.f sm frame_Extend.f
  rfl
theorem or32 (a b : Nat) (ha : a < 4294967296) (hb : b < 4294967296) : Go.bits .or .u32 (a : Int) (b : Int) = ((a ||| b : Nat) : Int) := by
  have hx : a ||| b < 2 ^ 32 := Nat.or_lt_two_pow (by omega) (by omega)
  have h1 : (BitVec.ofInt 32 (a : Int)).toNat = a := by
    rw [BitVec.ofInt_natCast, BitVec.toNat_ofNat]; exact Nat.mod_eq_of_lt (by omega)
  have h2 : (BitVec.ofInt 32 (b : Int)).toNat = b := by
    rw [BitVec.ofInt_natCast, BitVec.toNat_ofNat]; exact Nat.mod_eq_of_lt (by omega)
  show IntKind.u32.wrap ((BitVec.ofInt 32 (a : Int) ||| BitVec.ofInt 32 (b : Int)).toNat : Int) = _
  rw [BitVec.toNat_or, h1, h2, u32w]
  omega
theorem or_add (i a b : Nat) (hb : b < 2 ^ i) : b ||| 2 ^ i * a = b + 2 ^ i * a := by
  rw [Nat.or_comm, ← Nat.two_pow_add_eq_or_of_lt hb a, Nat.add_comm]
/-- Four bytes, the lowest first. -/
def wd (l : List Int) : Int := rd l 0 + 256 * rd l 1 + 65536 * rd l 2 + 16777216 * rd l 3
theorem wd_range {l : List Int} (hb : Bytes l) (h4 : 4 ≤ l.length) : 0 ≤ wd l ∧ wd l ≤ 4294967295 := by
  have h0 : 0 ≤ rd l 0 ∧ rd l 0 ≤ 255 := rd_byte hb 0 (by omega)
  have h1 : 0 ≤ rd l 1 ∧ rd l 1 ≤ 255 := rd_byte hb 1 (by omega)
  have h2 : 0 ≤ rd l 2 ∧ rd l 2 ≤ 255 := rd_byte hb 2 (by omega)
  have h3 : 0 ≤ rd l 3 ∧ rd l 3 ≤ 255 := rd_byte hb 3 (by omega)
  unfold wd; omega
theorem word_is (l : List Int) (hb : Bytes l) (h4 : 4 ≤ l.length) : frame_word.f l = some (wd l) := by
  obtain ⟨b0, e0⟩ := nat_of (rd_byte hb 0 (by omega)); obtain ⟨b1, e1⟩ := nat_of (rd_byte hb 1 (by omega)); obtain ⟨b2, e2⟩ := nat_of (rd_byte hb 2 (by omega)); obtain ⟨b3, e3⟩ := nat_of (rd_byte hb 3 (by omega))
  have r0 := rd_byte hb 0 (by omega); have r1 := rd_byte hb 1 (by omega); have r2 := rd_byte hb 2 (by omega); have r3 := rd_byte hb 3 (by omega)
  rw [e0] at r0; rw [e1] at r1; rw [e2] at r2; rw [e3] at r3
  have e0' : rd l 0 = (b0 : Int) := e0
  have e1' : rd l 1 = (b1 : Int) := e1
  have e2' : rd l 2 = (b2 : Int) := e2
  have e3' : rd l 3 = (b3 : Int) := e3
  unfold frame_word.f wd
  rw [if_pos (by omega), if_pos (by omega), if_pos (by omega), if_pos (by omega), e0', e1', e2', e3']
  rw [show ((b0 : Int) % 4294967296) = (b0 : Int) from by omega, show ((b1 : Int) % 4294967296 * 256 % 4294967296) = ((2 ^ 8 * b1 : Nat) : Int) from by omega,
    show ((b2 : Int) % 4294967296 * 65536 % 4294967296) = ((2 ^ 16 * b2 : Nat) : Int) from by omega, show ((b3 : Int) % 4294967296 * 16777216 % 4294967296) = ((2 ^ 24 * b3 : Nat) : Int) from by omega,
    or32 _ _ (by omega) (by omega), or_add 8 b1 b0 (by omega), or32 _ _ (by omega) (by omega), or_add 16 b2 _ (by omega), or32 _ _ (by omega) (by omega), or_add 24 b3 _ (by omega)]
  congr 1
/-- What stands at a place: whole, the payload's length, the tail. -/
def spec (l : List Int) (a : Nat) : Bool × Int × Int :=
  if (l.drop a).length = 0 then (false, 0, 0) else if (l.drop a).length < 4 then (false, 0, 1)
  else if 4194304 < wd (l.drop a) then (false, 0, 2) else if ((l.drop a).length : Int) < 4 + wd (l.drop a) + 4 then (false, 0, 1)
  else if sm ((l.drop a).take (4 + wd (l.drop a)).toNat) = wd ((l.drop a).drop (4 + wd (l.drop a)).toNat) then (true, wd (l.drop a), 0) else (false, 0, 3)
/-- The payload. -/
def pay (l : List Int) (a : Nat) (n : Int) : List Int := ((l.drop a).take (4 + n).toNat).drop 4
theorem nx_is (l : List Int) (hb : Bytes l) (a : Nat) (ha : a ≤ l.length) :
    frame_Decode.nx l a = some (if (spec l a).1 = true then (pay l a (spec l a).2.1, 0, true, (a : Int) + (4 + (spec l a).2.1 + 4)) else ([], (spec l a).2.2, false, (a : Int))) := by
  unfold frame_Decode.nx spec
  by_cases c1 : (l.drop a).length = 0
  · simp only [if_pos c1]; rfl
  simp only [if_neg c1]
  by_cases c2 : (l.drop a).length < 4
  · simp only [if_pos c2]; rfl
  simp only [if_neg c2]
  have hw := wd_range (hb.drop a) (by omega)
  rw [word_is _ (hb.drop a) (by omega), Option.bind_some]
  by_cases c3 : 4194304 < wd (l.drop a)
  · simp only [if_pos c3]; rfl
  simp only [if_neg c3]
  rw [if_neg (by omega)]
  by_cases c4 : ((l.drop a).length : Int) < 4 + wd (l.drop a) + 4
  · simp only [if_pos c4]; rfl
  simp only [if_neg c4]
  obtain ⟨e1, _, _⟩ := sm_prog ((l.drop a).take (4 + wd (l.drop a)).toNat) ((hb.drop a).take _)
  rw [e1, Option.bind_some, word_is _ ((hb.drop a).drop _) (by rw [List.length_drop]; omega), Option.bind_some]
  by_cases c5 : sm ((l.drop a).take (4 + wd (l.drop a)).toNat) = wd ((l.drop a).drop (4 + wd (l.drop a)).toNat)
  · simp only [if_pos c5]; rfl
  · simp only [if_neg c5]; rfl
theorem spec_whole {l : List Int} {a : Nat} (ha : a ≤ l.length) (hb : Bytes l) (h : (spec l a).1 = true) : 0 ≤ (spec l a).2.1 ∧ (spec l a).2.1 ≤ 4194304 ∧ (a : Int) + 4 + (spec l a).2.1 + 4 ≤ l.length ∧ (spec l a).2.2 = 0 := by
  have hd : (l.drop a).length = l.length - a := List.length_drop
  unfold spec at h ⊢
  by_cases c1 : (l.drop a).length = 0
  · rw [if_pos c1] at h; exact absurd h (by simp)
  rw [if_neg c1] at h ⊢
  by_cases c2 : (l.drop a).length < 4
  · rw [if_pos c2] at h; exact absurd h (by simp)
  rw [if_neg c2] at h ⊢
  have hw := wd_range (hb.drop a) (by omega)
  by_cases c3 : 4194304 < wd (l.drop a)
  · rw [if_pos c3] at h; exact absurd h (by simp)
  rw [if_neg c3] at h ⊢
  by_cases c4 : ((l.drop a).length : Int) < 4 + wd (l.drop a) + 4
  · rw [if_pos c4] at h; exact absurd h (by simp)
  rw [if_neg c4] at h ⊢
  by_cases c5 : sm ((l.drop a).take (4 + wd (l.drop a)).toNat) = wd ((l.drop a).drop (4 + wd (l.drop a)).toNat)
  · rw [if_pos c5]; refine ⟨?_, ?_, ?_, rfl⟩ <;> simp only <;> omega
  · rw [if_neg c5] at h; exact absurd h (by simp)
theorem pay_len {l : List Int} {a : Nat} {n : Int} (h0 : 0 ≤ n) (h : (a : Int) + 4 + n ≤ l.length) : (pay l a n).length = n.toNat := by
  unfold pay; rw [List.length_drop, List.length_take, List.length_drop]; omega
end Go.Proofs.YtgfjmpnlkjocaaaDoor.J
