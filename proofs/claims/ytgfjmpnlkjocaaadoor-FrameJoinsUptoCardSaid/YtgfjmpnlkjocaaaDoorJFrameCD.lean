/- The program's check sum is the document's: of any bytes, from any number on. -/
import Derived.Test.YtgfjmpnlkjocaaaDoorJFrameB
import Derived.Test.YtgfjmpnlkjocaaaDoorJx1
import Derived.Test.YtgfjmpnlkjocaaaDoorJx6
import Derived.Test.YtgfjmpnlkjocaaaDoorJx5
namespace Go.Proofs.YtgfjmpnlkjocaaaDoor.J
open Go.RowKit Go.Proofs.YtgfjmpnlkjocaaaDoorW.PrintWords Go.Proofs.YtgfjmpnlkjocaaaDoorW.PrintLast Go.Proofs.YtgfjmpnlkjocaaaDoorW.PrintMore
set_option linter.unusedVariables false
set_option linter.unusedSimpArgs false

namespace Doc
theorem pl_w64 {x : Int} (h0 : -9223372036854775808 ≤ x) (h1 : x ≤ 9223372036854775807) : wrap64 x = x := by unfold wrap64; omega
theorem not32 (r : Nat) (h : r < 4294967296) : frame_Extend.inv (r : Int) = ((4294967295 - r : Nat) : Int) := by
  have h1 : (BitVec.ofInt 32 (r : Int)).toNat = r := by
    rw [BitVec.ofInt_natCast, BitVec.toNat_ofNat]; exact Nat.mod_eq_of_lt (by omega)
  show IntKind.u32.wrap ((BitVec.ofInt 32 IntKind.u32.max ^^^ BitVec.ofInt 32 (r : Int)).toNat : Int) = _
  rw [show BitVec.ofInt 32 IntKind.u32.max = BitVec.allOnes 32 from by decide, BitVec.xor_comm, BitVec.xor_allOnes, BitVec.toNat_not, h1, u32w]
  omega
theorem tab_nib (x : Nat) (h : x < 16) : frame_Extend.tab (x : Int) = (nib x : Int) := by
  have : x = 0 ∨ x = 1 ∨ x = 2 ∨ x = 3 ∨ x = 4 ∨ x = 5 ∨ x = 6 ∨ x = 7 ∨ x = 8 ∨ x = 9 ∨ x = 10 ∨ x = 11 ∨ x = 12 ∨ x = 13 ∨ x = 14 ∨ x = 15 := by omega
  rcases this with rfl | rfl | rfl | rfl | rfl | rfl | rfl | rfl | rfl | rfl | rfl | rfl | rfl | rfl | rfl | rfl <;> rfl
theorem crc4_lt (r : Nat) (h : r < 4294967296) : crc4 r < 4294967296 := by
  unfold crc4
  exact crc1_lt _ (crc1_lt _ (crc1_lt _ (crc1_lt _ h)))
theorem mix_is (r : Nat) (h : r < 4294967296) : frame_Extend.mix (r : Int) = ((crc4 r : Nat) : Int) := by
  unfold frame_Extend.mix
  rw [low16 r h, tab_nib _ (Nat.mod_lt _ (by decide)), show ((r : Int) / 16) = ((r / 16 : Nat) : Int) from by omega, xor32 _ _ (by omega) (nib_lt _ (Nat.mod_lt _ (by decide))), crc4_is]
/-- The register behind one byte more. -/
def byte1 (r b : Nat) : Nat := crc4 (crc4 (r ^^^ b))
theorem byte1_lt (r b : Nat) (h : r < 4294967296) (hb : b < 4294967296) : byte1 r b < 4294967296 :=
  crc4_lt _ (crc4_lt _ (Nat.xor_lt_two_pow (n := 32) (by omega) (by omega)))
theorem step_is (r b : Nat) (h : r < 4294967296) (hb : b < 256) : frame_Extend.step (r : Int) (b : Int) = ((byte1 r b : Nat) : Int) := by
  have hx : r ^^^ b < 4294967296 := Nat.xor_lt_two_pow (n := 32) (by omega) (by omega)
  unfold frame_Extend.step byte1
  rw [show (b : Int) % 4294967296 = (b : Int) from by omega, xor32 r b h (by omega), mix_is _ hx, mix_is _ (crc4_lt _ hx)]
def it : Nat → Nat → Nat
  | 0, x => x
  | d + 1, x => it d (crc1 x)
theorem laid_loop (d : Nat) : ∀ (i k x : Nat), i + d = 8 → d < k → x < 4294967296 → arrearsref6_laid.l0 k (x : Int) (i : Int) = some ((it d x : Nat) : Int) := by
  induction d with
  | zero =>
    intro i k x hi hk hx
    obtain ⟨k, rfl⟩ : ∃ m, k = m + 1 := ⟨k - 1, by omega⟩
    simp only [arrearsref6_laid.l0]
    rw [if_neg (by omega)]; rfl
  | succ d ih =>
    intro i k x hi hk hx
    obtain ⟨k, rfl⟩ : ∃ m, k = m + 1 := ⟨k - 1, by omega⟩
    simp only [arrearsref6_laid.l0]
    have e1 : Int.tmod (x : Int) 2 = ((x % 2 : Nat) : Int) := by rw [Int.tmod_eq_emod_of_nonneg (by omega)]; omega
    have e2 : (Int.tdiv (x : Int) 2) % 4294967296 = ((x / 2 : Nat) : Int) := by rw [Int.tdiv_eq_ediv_of_nonneg (by omega)]; omega
    have e3 : wrap64 ((i : Int) + 1) = ((i + 1 : Nat) : Int) := by rw [pl_w64 (by omega) (by omega)]; omega
    rw [if_pos (by omega), e1, e2, e3]
    by_cases c : x % 2 = 1
    · have hc : crc1 x = x / 2 ^^^ 3988292384 := by unfold crc1; rw [if_pos c]
      rw [if_pos (by omega), show (3988292384 : Int) = ((3988292384 : Nat) : Int) from rfl, xor32 _ _ (by omega) (by omega), ← hc]
      exact ih (i + 1) k (crc1 x) (by omega) (by omega) (crc1_lt x hx)
    · have hc : crc1 x = x / 2 := by unfold crc1; rw [if_neg c]
      rw [if_neg (by omega), ← hc]
      exact ih (i + 1) k (crc1 x) (by omega) (by omega) (crc1_lt x hx)
theorem laid_is (r b : Nat) (h : r < 4294967296) (hb : b < 256) (k : Nat) (hk : 10 < k) : arrearsref6_laid.f k (r : Int) (b : Int) = some ((byte1 r b : Nat) : Int) := by
  have hx : r ^^^ b < 4294967296 := Nat.xor_lt_two_pow (n := 32) (by omega) (by omega)
  unfold arrearsref6_laid.f
  rw [show (b : Int) % 4294967296 = (b : Int) from by omega, xor32 r b h (by omega)]
  exact laid_loop 8 0 k _ (by omega) (by omega) hx
theorem nat_of {x : Int} {m : Int} (h : 0 ≤ x ∧ x ≤ m) : ∃ n : Nat, x = (n : Int) := ⟨x.toNat, by omega⟩
theorem ext_loop (l : List Int) (hb : ∀ x ∈ l, 0 ≤ x ∧ x ≤ 255) (hl : l.length ≤ 6000000) (d : Nat) : ∀ (k i r : Nat), i + d = l.length → d + 20 < k → r < 4294967296 →
    ∃ s : Nat, s < 4294967296 ∧ (l.drop i).foldl frame_Extend.step (r : Int) = (s : Int) ∧ arrearsref6_Extend.l0 k l (r : Int) (i : Int) = some ((4294967295 - s : Nat) : Int) := by
  induction d with
  | zero =>
    intro k i r hi hk hr
    obtain ⟨k, rfl⟩ : ∃ m, k = m + 1 := ⟨k - 1, by omega⟩
    refine ⟨r, hr, by rw [List.drop_eq_nil_of_le (by omega)]; rfl, ?_⟩
    simp only [arrearsref6_Extend.l0]
    rw [if_neg (by omega)]
    unfold arrearsref6_turned.f
    rw [Option.bind_some, show ((4294967295 : Int) - (r : Int)) % 4294967296 = ((4294967295 - r : Nat) : Int) from by omega]
  | succ d ih =>
    intro k i r hi hk hr
    obtain ⟨k, rfl⟩ : ∃ m, k = m + 1 := ⟨k - 1, by omega⟩
    have hm := hb l[i] (List.getElem_mem _)
    obtain ⟨b, hbb⟩ := nat_of hm
    have hrd : rd l (i : Int) = (b : Int) := by rw [← hbb]; unfold rd; simp [show i < l.length from by omega]
    have hb2 : b < 256 := by omega
    obtain ⟨s, h1, h2, h3⟩ := ih k (i + 1) (byte1 r b) (by omega) (by omega) (byte1_lt r b hr (by omega))
    refine ⟨s, h1, ?_, ?_⟩
    · rw [List.drop_eq_getElem_cons (by omega : i < l.length), List.foldl_cons, hbb, step_is r b hr hb2]; exact h2
    · simp only [arrearsref6_Extend.l0]
      rw [if_pos (by omega), if_pos (by omega), hrd, laid_is r b hr hb2 k (by omega), Option.bind_some, show wrap64 ((i : Int) + 1) = ((i + 1 : Nat) : Int) from by rw [pl_w64 (by omega) (by omega)]; omega]
      exact h3
/-- Extend is the document's. -/
theorem ext_same (a : Int) (ha : 0 ≤ a ∧ a ≤ 4294967295) (l : List Int) (hb : ∀ x ∈ l, 0 ≤ x ∧ x ≤ 255) (hl : l.length ≤ 6000000) (k : Nat) (hk : l.length + 40 < k) : ∃ q, frame_Extend.f a l = some q ∧ arrearsref6_Extend.f k a l = some q := by
  obtain ⟨n, rfl⟩ := nat_of ha
  have hn : n < 4294967296 := by omega
  unfold frame_Extend.f arrearsref6_Extend.f
  obtain ⟨s, h1, h2, h3⟩ := ext_loop l hb hl l.length k 0 (4294967295 - n) (by omega) (by omega) (by omega)
  rw [List.drop_zero] at h2
  rw [not32 n hn, h2, not32 s h1]
  refine ⟨_, rfl, ?_⟩
  unfold arrearsref6_turned.f
  rw [Option.bind_some, show ((4294967295 : Int) - (n : Int)) % 4294967296 = ((4294967295 - n : Nat) : Int) from by omega]
  exact h3
end Doc
end Go.Proofs.YtgfjmpnlkjocaaaDoor.J
