/- The sum's register over bits: a burst of at most thirty-two bits is always seen. Over plain numbers. -/
import Derived.Test.YtgfjmpnlkjocaaaDoorPFrameF
namespace Go.Proofs.YtgfjmpnlkjocaaaDoor.P
open Go.RowKit Go.Proofs.YtgfjmpnlkjocaaaDoorW.PrintWords Go.Proofs.YtgfjmpnlkjocaaaDoorW.PrintLast Go.Proofs.YtgfjmpnlkjocaaaDoorW.PrintMore
set_option linter.unusedVariables false
set_option linter.unusedSimpArgs false

/-- So many steps of the register. -/
def tt : Nat → Nat → Nat
  | 0, x => x
  | m + 1, x => tt m (crc1 x)
theorem tt_add (a : Nat) : ∀ (b x : Nat), tt (a + b) x = tt b (tt a x) := by
  induction a with
  | zero => intro b x; rw [Nat.zero_add]; rfl
  | succ a ih => intro b x; rw [show a + 1 + b = (a + b) + 1 from by omega]; exact ih b (crc1 x)
theorem tt_xor (m : Nat) : ∀ x y : Nat, tt m (x ^^^ y) = tt m x ^^^ tt m y := by
  induction m with
  | zero => exact fun x y => rfl
  | succ m ih => intro x y; show tt m (crc1 (x ^^^ y)) = _; rw [crc1_xor, ih]; rfl
theorem tt_two (m : Nat) : ∀ x : Nat, tt m (2 ^ m * x) = x := by
  induction m with
  | zero => intro x; show 2 ^ 0 * x = x; omega
  | succ m ih =>
    intro x
    show tt m (crc1 (2 ^ (m + 1) * x)) = x
    rw [show 2 ^ (m + 1) * x = 2 * (2 ^ m * x) from by rw [Nat.pow_succ, Nat.mul_comm (2 ^ m) 2, Nat.mul_assoc], crc1_even, ih]
theorem crc1_pos (r : Nat) (h : r < 4294967296) (h0 : r ≠ 0) : crc1 r ≠ 0 := by
  unfold crc1
  split
  · intro he
    have h1 : (r / 2 ^^^ 3988292384).testBit 31 = true := by
      rw [Nat.testBit_xor, show (3988292384 : Nat).testBit 31 = true from by decide, Nat.testBit_lt_two_pow (show r / 2 < 2 ^ 31 from by omega)]
      rfl
    rw [he] at h1
    simp at h1
  · omega
theorem tt_pos (m : Nat) : ∀ x : Nat, x < 4294967296 → x ≠ 0 → tt m x ≠ 0 := by
  induction m with
  | zero => exact fun x _ h => h
  | succ m ih => exact fun x hx h => ih (crc1 x) (crc1_lt x hx) (crc1_pos x hx h)
theorem byte1_tt (r b : Nat) : byte1 r b = tt 8 (r ^^^ b) := rfl
theorem xor_add (i a b : Nat) (h : b < 2 ^ i) : b ^^^ 2 ^ i * a = b + 2 ^ i * a := by
  rw [Nat.add_comm, Nat.two_pow_add_eq_or_of_lt h a]
  apply Nat.eq_of_testBit_eq
  intro j
  rw [Nat.testBit_xor, Nat.testBit_or, Nat.testBit_two_pow_mul]
  by_cases c : i ≤ j
  · rw [Nat.testBit_lt_two_pow (Nat.lt_of_lt_of_le h (Nat.pow_le_pow_right (by omega) c))]
    simp
  · simp [c]
theorem mul_xor (i x y : Nat) : 2 ^ i * (x ^^^ y) = 2 ^ i * x ^^^ 2 ^ i * y := by
  rw [Nat.mul_comm, Nat.mul_comm _ x, Nat.mul_comm _ y, ← Nat.shiftLeft_eq, ← Nat.shiftLeft_eq, ← Nat.shiftLeft_eq, Nat.shiftLeft_xor_distrib]
/-- The bytes as one number, the first lowest. -/
def num : List Int → Nat
  | [] => 0
  | b :: l => b.toNat ^^^ 2 ^ 8 * num l
theorem reg_num (l : List Int) : ∀ r : Nat, reg r l = tt (8 * l.length) (r ^^^ num l) := by
  induction l with
  | nil => intro r; show r = tt (8 * 0) (r ^^^ 0); rw [Nat.xor_zero]; rfl
  | cons b l ih =>
    intro r
    show reg (byte1 r b.toNat) l = tt (8 * (b :: l).length) (r ^^^ (b.toNat ^^^ 2 ^ 8 * num l))
    rw [ih, List.length_cons, show 8 * (l.length + 1) = 8 + 8 * l.length from by omega, tt_add, ← Nat.xor_assoc, tt_xor 8, tt_two, byte1_tt]
theorem num_set (v : Nat) : ∀ (l : List Int) (j : Nat), j < l.length → num (l.set j (((l.getD j 0).toNat ^^^ v : Nat) : Int)) = num l ^^^ 2 ^ (8 * j) * v
  | b :: l, 0, _ => by
    show ((((b.toNat ^^^ v : Nat) : Int)).toNat ^^^ 2 ^ 8 * num l) = (b.toNat ^^^ 2 ^ 8 * num l) ^^^ 2 ^ (8 * 0) * v
    rw [Int.toNat_natCast, Nat.mul_zero, Nat.pow_zero, Nat.one_mul, Nat.xor_assoc, Nat.xor_assoc, Nat.xor_comm v]
  | b :: l, j + 1, h => by
    show (b.toNat ^^^ 2 ^ 8 * num (l.set j (((l.getD j 0).toNat ^^^ v : Nat) : Int))) = (b.toNat ^^^ 2 ^ 8 * num l) ^^^ 2 ^ (8 * (j + 1)) * v
    rw [num_set v l j (by simpa using h), mul_xor, ← Nat.mul_assoc, ← Nat.pow_add, show 8 + 8 * j = 8 * (j + 1) from by omega, Nat.xor_assoc]
theorem num_four (l : List Int) (hb : Bytes l) (h : l.length = 4) : (num l : Int) = wd l := by
  match l, h with
  | [a, b, c, d], _ =>
    have ha := hb a (by simp); have hb' := hb b (by simp); have hc := hb c (by simp); have hd := hb d (by simp)
    obtain ⟨a, rfl⟩ := nat_of ha; obtain ⟨b, rfl⟩ := nat_of hb'; obtain ⟨c, rfl⟩ := nat_of hc; obtain ⟨d, rfl⟩ := nat_of hd
    show (((((a : Int)).toNat ^^^ 2 ^ 8 * (((b : Int)).toNat ^^^ 2 ^ 8 * (((c : Int)).toNat ^^^ 2 ^ 8 * (((d : Int)).toNat ^^^ 2 ^ 8 * 0)))) : Nat) : Int) = (a : Int) + 256 * (b : Int) + 65536 * (c : Int) + 16777216 * (d : Int)
    rw [Int.toNat_natCast, Int.toNat_natCast, Int.toNat_natCast, Int.toNat_natCast, Nat.mul_zero, Nat.xor_zero, xor_add 8 d c (by omega), xor_add 8 _ b (by omega), xor_add 8 _ a (by omega)]
    omega
theorem xor_all (a b : Nat) (h : a + b = 4294967295) : a ^^^ b = 4294967295 := by
  have hb : b = 4294967295 - a := by omega
  have h1 : ((BitVec.ofNat 32 a) ^^^ ~~~(BitVec.ofNat 32 a)).toNat = 4294967295 := by
    rw [show (BitVec.ofNat 32 a) ^^^ ~~~(BitVec.ofNat 32 a) = BitVec.allOnes 32 from by rw [← BitVec.xor_allOnes, ← BitVec.xor_assoc, BitVec.xor_self, BitVec.zero_xor]]
    rfl
  rw [BitVec.toNat_xor, BitVec.toNat_not, BitVec.toNat_ofNat, Nat.mod_eq_of_lt (by omega)] at h1
  rw [hb]
  exact h1
/-- What passes leaves one register. -/
theorem pass_reg (x : List Int) (hb : Bytes x) (m : Nat) (hm : x.length = m + 4) (h : sm (x.take m) = wd (x.drop m)) : reg 4294967295 x = tt 32 4294967295 := by
  obtain ⟨e, hlt⟩ := sm_reg (x.take m) (hb.take m)
  have hd : (x.drop m).length = 4 := by rw [List.length_drop]; omega
  have h4 := num_four (x.drop m) (hb.drop m) hd
  have ha : reg 4294967295 (x.take m) ^^^ num (x.drop m) = 4294967295 := xor_all _ _ (by omega)
  conv => lhs; rw [← List.take_append_drop m x]
  rw [reg_append, reg_num (x.drop m), hd, ha]
theorem fr_pass (p : List Int) (h : Good p) : reg 4294967295 (fr p) = tt 32 4294967295 := by
  have e := fr_cut p []
  rw [List.append_nil, List.append_nil] at e
  obtain ⟨t1, t2⟩ := e
  obtain ⟨_, s0, s1⟩ := sm_prog (b4 p.length ++ p) ((b4_bytes _).append h.1)
  refine pass_reg (fr p) (fr_bytes h.1) (4 + (p.length : Int)).toNat (by rw [fr_len]; omega) ?_
  rw [t1, t2]
  have := wd_b4 (sm (b4 p.length ++ p)) s0 s1 []
  rw [List.append_nil] at this
  exact this.symm
/-- A frame in which some bits within thirty-two were turned doesn't pass. -/
theorem burst (p x : List Int) (h : Good p) (hb : Bytes x) (hl : x.length = p.length + 8) (f W : Nat) (hf : f < 8 * (p.length + 8)) (hW : W < 4294967296) (h0 : W ≠ 0) (hn : num x = num (fr p) ^^^ 2 ^ f * W) : sm (x.take (4 + p.length)) ≠ wd (x.drop (4 + p.length)) := by
  intro hp
  have h1 := pass_reg x hb (4 + p.length) (by omega) hp
  have h2 := fr_pass p h
  rw [reg_num, hl, hn, ← Nat.xor_assoc, tt_xor] at h1
  rw [reg_num, fr_len] at h2
  rw [h2] at h1
  have h3 : tt (8 * (p.length + 8)) (2 ^ f * W) = 0 := by
    have h4 := congrArg (fun z => tt 32 4294967295 ^^^ z) h1
    simp only [← Nat.xor_assoc, Nat.xor_self, Nat.zero_xor] at h4
    exact h4
  rw [show 8 * (p.length + 8) = f + (8 * (p.length + 8) - f) from by omega, tt_add, tt_two] at h3
  exact tt_pos _ W hW h0 h3
end Go.Proofs.YtgfjmpnlkjocaaaDoor.P
