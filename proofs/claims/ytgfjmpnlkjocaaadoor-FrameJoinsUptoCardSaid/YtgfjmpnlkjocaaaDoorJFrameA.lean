/- The check sum's register: four steps at once are a shift and a table's entry. Over plain numbers. -/
import Derived.Test.YtgfjmpnlkjocaaaDoorProg
namespace Go.Proofs.YtgfjmpnlkjocaaaDoor.J
set_option linter.unusedVariables false

/-- One step of the register. -/
def crc1 (r : Nat) : Nat := if r % 2 = 1 then r / 2 ^^^ 3988292384 else r / 2
def crc4 (r : Nat) : Nat := crc1 (crc1 (crc1 (crc1 r)))
def nib (x : Nat) : Nat := ([0, 498536548, 997073096, 651767980, 1994146192, 1802195444, 1303535960, 1342533948, 3988292384, 4027552580, 3604390888, 3412177804, 2607071920, 2262029012, 2685067896, 3183342108] : List Nat).getD x 0
theorem crc1_xor (a b : Nat) : crc1 (a ^^^ b) = crc1 a ^^^ crc1 b := by
  unfold crc1
  have h2 : (a ^^^ b) / 2 = a / 2 ^^^ b / 2 := Nat.xor_div_two
  have hm : (a ^^^ b) % 2 = 1 ↔ ¬(a % 2 = 1 ↔ b % 2 = 1) := Nat.xor_mod_two_eq_one
  by_cases ha : a % 2 = 1
  · by_cases hb : b % 2 = 1
    · rw [if_neg (by rw [hm]; simp [ha, hb]), if_pos ha, if_pos hb, h2, Nat.xor_assoc (a / 2), Nat.xor_comm (b / 2) 3988292384, ← Nat.xor_assoc 3988292384, Nat.xor_self, Nat.zero_xor]
    · rw [if_pos (by rw [hm]; simp [ha, hb]), if_pos ha, if_neg hb, h2, Nat.xor_assoc, Nat.xor_assoc, Nat.xor_comm (b / 2)]
  · by_cases hb : b % 2 = 1
    · rw [if_pos (by rw [hm]; simp [ha, hb]), if_neg ha, if_pos hb, h2, Nat.xor_assoc]
    · rw [if_neg (by rw [hm]; simp [ha, hb]), if_neg ha, if_neg hb, h2]
theorem crc4_xor (a b : Nat) : crc4 (a ^^^ b) = crc4 a ^^^ crc4 b := by
  unfold crc4
  rw [crc1_xor, crc1_xor, crc1_xor, crc1_xor]
theorem crc1_even (h : Nat) : crc1 (2 * h) = h := by
  unfold crc1
  rw [if_neg (by omega)]; omega
theorem crc4_high (h : Nat) : crc4 (16 * h) = h := by
  unfold crc4
  rw [show 16 * h = 2 * (8 * h) from by omega, crc1_even, show 8 * h = 2 * (4 * h) from by omega, crc1_even, show 4 * h = 2 * (2 * h) from by omega, crc1_even, crc1_even]
theorem crc4_low (l : Nat) (h : l < 16) : crc4 l = nib l := by
  have : l = 0 ∨ l = 1 ∨ l = 2 ∨ l = 3 ∨ l = 4 ∨ l = 5 ∨ l = 6 ∨ l = 7 ∨ l = 8 ∨ l = 9 ∨ l = 10 ∨ l = 11 ∨ l = 12 ∨ l = 13 ∨ l = 14 ∨ l = 15 := by omega
  rcases this with rfl | rfl | rfl | rfl | rfl | rfl | rfl | rfl | rfl | rfl | rfl | rfl | rfl | rfl | rfl | rfl <;> decide
theorem split16 (r : Nat) : r = 16 * (r / 16) ^^^ r % 16 := by
  apply Nat.eq_of_testBit_eq
  intro i
  rw [Nat.testBit_xor, show 16 * (r / 16) = 2 ^ 4 * (r / 2 ^ 4) from rfl, show r % 16 = r % 2 ^ 4 from rfl, Nat.testBit_two_pow_mul, Nat.testBit_div_two_pow, Nat.testBit_mod_two_pow]
  by_cases c : i < 4
  · simp [c, show ¬ 4 ≤ i from by omega]
  · simp [c, show 4 ≤ i from by omega]
/-- Four steps of the register. -/
theorem crc4_is (r : Nat) : crc4 r = r / 16 ^^^ nib (r % 16) := by
  have := split16 r
  rw [show crc4 r = crc4 (16 * (r / 16) ^^^ r % 16) from by rw [← this], crc4_xor, crc4_high, crc4_low _ (Nat.mod_lt _ (by decide))]
theorem nib_lt (x : Nat) (h : x < 16) : nib x < 4294967296 := by
  have : x = 0 ∨ x = 1 ∨ x = 2 ∨ x = 3 ∨ x = 4 ∨ x = 5 ∨ x = 6 ∨ x = 7 ∨ x = 8 ∨ x = 9 ∨ x = 10 ∨ x = 11 ∨ x = 12 ∨ x = 13 ∨ x = 14 ∨ x = 15 := by omega
  rcases this with rfl | rfl | rfl | rfl | rfl | rfl | rfl | rfl | rfl | rfl | rfl | rfl | rfl | rfl | rfl | rfl <;> decide
theorem crc1_lt (r : Nat) (h : r < 4294967296) : crc1 r < 4294967296 := by
  unfold crc1
  split
  · exact Nat.xor_lt_two_pow (n := 32) (by omega) (by omega)
  · omega
end Go.Proofs.YtgfjmpnlkjocaaaDoor.J
