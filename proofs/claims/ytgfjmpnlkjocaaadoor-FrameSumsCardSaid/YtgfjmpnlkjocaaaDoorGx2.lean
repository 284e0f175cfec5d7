-- Written by stubprint.py (wip/) of this work, over the kit's print.py; parts by hand.
import Derived.Test.YtgfjmpnlkjocaaaDoorGx0
namespace Go.Proofs.YtgfjmpnlkjocaaaDoor.G
open Go.RowKit Go.Proofs.YtgfjmpnlkjocaaaDoorW.PrintWords Go.Proofs.YtgfjmpnlkjocaaaDoorW.PrintLast Go.Proofs.YtgfjmpnlkjocaaaDoorW.PrintMore
attribute [local go_sem] max2_int min2_int max_two min_two max_three min_three max_four min_four   -- for this text's walks alone
set_option linter.unusedVariables false
set_option linter.unusedSimpArgs false

/-! ### frame_Extend: function 16 (by hand) -/
def frame_Extend.tab (x : Int) : Int := ([0, 498536548, 997073096, 651767980, 1994146192, 1802195444, 1303535960, 1342533948, 3988292384, 4027552580, 3604390888, 3412177804, 2607071920, 2262029012, 2685067896, 3183342108] : List Int).getD x.toNat 0
def frame_Extend.mix (r : Int) : Int := Go.bits .xor .u32 (r / 16) (frame_Extend.tab (Go.bits .and .u32 r 15))
def frame_Extend.step (r b : Int) : Int := frame_Extend.mix (frame_Extend.mix (Go.bits .xor .u32 r (b % 4294967296)))
def frame_Extend.inv (r : Int) : Int := Go.bits .xor .u32 IntKind.u32.max r
def frame_Extend.f (a0 : Int) (l1 : List Int) : Option Int := some (frame_Extend.inv (l1.foldl frame_Extend.step (frame_Extend.inv a0)))
theorem frame_Extend.low (x : Int) : 0 ≤ Go.bits .and .u32 x 15 ∧ Go.bits .and .u32 x 15 < 16 := by
  have h2 : (BitVec.ofInt 32 (15 : Int)).toNat = 15 := by decide
  have h3 : (BitVec.ofInt 32 x).toNat &&& 15 ≤ 15 := Nat.and_le_right
  show 0 ≤ IntKind.u32.wrap ((BitVec.ofInt 32 x &&& BitVec.ofInt 32 15).toNat : Int) ∧ IntKind.u32.wrap ((BitVec.ofInt 32 x &&& BitVec.ofInt 32 15).toNat : Int) < 16
  rw [BitVec.toNat_and, h2, show ∀ n : Int, IntKind.u32.wrap n = n % 4294967296 from fun n => by simp [IntKind.wrap, IntKind.bits, IntKind.signed]]
  omega
theorem frame_Extend.cells (w : World) (hL : Laid w) (x : Int) : w.cell? ⟨0, (Go.bits .and .u32 x 15).toNat, none⟩ = some (.int .u32 (frame_Extend.tab (Go.bits .and .u32 x 15))) := by
  have h := frame_Extend.low x
  generalize Go.bits .and .u32 x 15 = y at h
  apply hL.at0
  have : y = 0 ∨ y = 1 ∨ y = 2 ∨ y = 3 ∨ y = 4 ∨ y = 5 ∨ y = 6 ∨ y = 7 ∨ y = 8 ∨ y = 9 ∨ y = 10 ∨ y = 11 ∨ y = 12 ∨ y = 13 ∨ y = 14 ∨ y = 15 := by omega
  rcases this with rfl | rfl | rfl | rfl | rfl | rfl | rfl | rfl | rfl | rfl | rfl | rfl | rfl | rfl | rfl | rfl <;> rfl
set_option maxRecDepth 100000 in
set_option maxHeartbeats 2000000 in
theorem frame_Extend.calls (a0 : Int) (A1 : Option Addr) (c1 : Nat) (l1 : List Int) (r : Int) (w : World) (hr1 : Kd.C (Kd.int .u8) w A1 l1.length l1) (hc1 : l1.length ≤ c1) (hL : Laid w) (h : frame_Extend.f a0 l1 = some r) :
    Calls Tryd.prog 16 #[.int .u32 a0, .slice A1 l1.length c1] w fun e w' => e = .returned (.int .u32 r) ∧ Drawn0 w w' := by
  have HL := Aside0.mk hL
  have HR := Aside0.mk hr1
  have HC := Aside0.mk hc1
  have hlen : l1.length ≤ 9223372036854775807 := hr1.2.1
  have hu3 := Tryd.underlying53
  unfold frame_Extend.f at h
  have HH := Aside0.mk (Option.some.inj h)
  clear hL hr1 hc1 h
  go_enter Tryd.func16, Tryd.ntmps16
  go_wp2
  go_loopw [5, 12] (fun rv i wr => ∃ n : Nat, n ≤ l1.length ∧ i = .int .i64 n ∧ rv = .int .u32 ((l1.take n).foldl frame_Extend.step (frame_Extend.inv a0)) ∧ Aside0 (Drawn0 w wr)) (fun _ i _ => l1.length - (intOf i).toNat)
  case atStart => exact ⟨0, by omega, rfl, by rw [List.take_zero]; rfl, ⟨Drawn0.refl _⟩⟩
  case round =>
    obtain ⟨n, hn, rfl, rfl, HD⟩ := hrel
    obtain ⟨⟨m, rfl⟩⟩ := HD
    by_cases hlt : n < l1.length
    · obtain ⟨x, hx⟩ : ∃ x, x = (l1.take n).foldl frame_Extend.step (frame_Extend.inv a0) := ⟨_, rfl⟩
      rw [← hx]
      have HX := Aside0.mk hx
      clear hx
      obtain ⟨ad, e, hc0⟩ := Kd.at_int HR.out (n : Int) (by omega) (by omega)
      cases e
      rw [Int.toNat_natCast] at hc0
      obtain ⟨b, hb⟩ : ∃ b, b = rd l1 (n : Int) := ⟨_, rfl⟩
      rw [← hb] at hc0
      have HBb := Aside0.mk hb
      have t1 := frame_Extend.cells w HL.out (Go.bits .xor .u32 x (b % 4294967296))
      have t2 := frame_Extend.cells w HL.out (frame_Extend.mix (Go.bits .xor .u32 x (b % 4294967296)))
      have p1 := eq_true (frame_Extend.low (Go.bits .xor .u32 x (b % 4294967296))).1
      have p2 := eq_true (frame_Extend.low (Go.bits .xor .u32 x (b % 4294967296))).2
      have p3 := eq_true (frame_Extend.low (frame_Extend.mix (Go.bits .xor .u32 x (b % 4294967296)))).1
      have p4 := eq_true (frame_Extend.low (frame_Extend.mix (Go.bits .xor .u32 x (b % 4294967296)))).2
      have p5 := eq_true (show (Go.bits .and .u32 (Go.bits .xor .u32 x (b % 4294967296)) 15).toNat < 16 by have := frame_Extend.low (Go.bits .xor .u32 x (b % 4294967296)); omega)
      have p6 := eq_true (show (Go.bits .and .u32 (frame_Extend.mix (Go.bits .xor .u32 x (b % 4294967296))) 15).toNat < 16 by have := frame_Extend.low (frame_Extend.mix (Go.bits .xor .u32 x (b % 4294967296))); omega)
      simp only [frame_Extend.mix] at t2 p3 p4 p6
      clear hb
      have hst : frame_Extend.step x b = Go.bits .xor .u32 (Go.bits .xor .u32 (Go.bits .xor .u32 x (b % 4294967296) / 16) (frame_Extend.tab (Go.bits .and .u32 (Go.bits .xor .u32 x (b % 4294967296)) 15)) / 16) (frame_Extend.tab (Go.bits .and .u32 (Go.bits .xor .u32 (Go.bits .xor .u32 x (b % 4294967296) / 16) (frame_Extend.tab (Go.bits .and .u32 (Go.bits .xor .u32 x (b % 4294967296)) 15))) 15)) := rfl
      have HST := Aside0.mk hst
      clear hst
      go_wp2
      go_roundw
      case rel => exact ⟨n + 1, by omega, by go_num, by
        rw [List.take_succ_eq_append_getElem hlt, List.foldl_append, List.foldl_cons, List.foldl_nil, ← HX.out, show l1[n] = b from by rw [HBb.out]; unfold rd; simp [hlt], HST.out], ⟨by repeat (first | exact ⟨⟨_, rfl⟩⟩ | apply Drawn0.step)⟩⟩
      case measure => simp [intOf]; omega
    · have hn2 : n = l1.length := by omega
      subst hn2
      rw [List.take_length]
      have hE : frame_Extend.inv (l1.foldl frame_Extend.step (frame_Extend.inv a0)) = r := HH.out
      obtain ⟨x, hx⟩ : ∃ x, x = l1.foldl frame_Extend.step (frame_Extend.inv a0) := ⟨_, rfl⟩
      rw [← hx] at hE ⊢
      have HE := Aside0.mk hE
      clear hE hx hlt
      go_wp2
      go_ret
      exact ⟨by rw [← HE.out]; rfl, ⟨⟨m, rfl⟩⟩⟩

/-! ### frame_Sum: function 14 -/
def frame_Sum.f (l0 : List Int) : Option (Int) := (frame_Extend.f 0 l0).bind fun t111 => (some t111)
set_option maxHeartbeats 8000000 in
set_option maxRecDepth 100000 in
theorem frame_Sum.calls (A0 : Option Addr) (c0 : Nat) (l0 : List Int) (r : Int) (w : World) (hr0 : Kd.C (Kd.int .u8) w A0 l0.length l0) (hc0 : l0.length ≤ c0) (hL : Laid w) (h : frame_Sum.f l0 = some r) :
    Calls Tryd.prog 14 #[.slice A0 l0.length c0] w fun e w' => e = .returned (.int .u32 r) ∧ Drawn0 w w' := by
  have HL0_ := Aside0.mk hL
  clear hL
  have HR0 := Aside0.mk hr0
  have HC0 := Aside0.mk hc0
  clear hr0 hc0
  have H : ((frame_Extend.f 0 l0).bind fun t111 => (some t111)) = some r := h
  clear h
  replace H := Option.bind_eq_some_iff.mp H
  obtain ⟨t111, A20, H⟩ := H
  replace H : (some t111) = some r := H
  have A2 := Aside0.mk A20
  clear A20
  obtain rfl := Option.some.inj H
  go_enter Tryd.func14, Tryd.ntmps14
  go_wp2_with (first | ((with_reducible refine gate_callee (f := 16) rfl ?_); refine goesL_ (some 4) rfl rfl Tryd.func16 (by kernel_rfl) rfl #[.int .u32 0, .slice A0 l0.length c0] rfl (by (try simp only [List.map_toArray, List.map_cons, List.map_nil]); first | done | rfl | (simp only [List.length_drop, List.length_take]; rfl)) ?_; (with_reducible refine (frame_Extend.calls 0 _ _ l0 t111 _ ?side1 ?side2 ?sideL A2.out).mono ?_); (case sideL => exact laid_at HL0_.out (by repeat (first | (with_reducible first | exact HB.out | apply below_alloc | apply pw_below_drewN | apply below_drew1 | refine below_set ?_ (Aside0.out (by assumption))) | exact HB.out | exact Below.refl _ _ | exact Drawn0.below (Drawn0.refl _)))); (case side1 => repeat (first | exact HR0.out | (with_reducible refine Kd.C_alloc ?_ _) | (with_reducible refine Kd.C_drewN ?_ _) | (with_reducible refine Kd.C_drew ?_))); (case side2 => exact HC0.out); rintro e w' ⟨rfl, ⟨nd, rfl⟩⟩; refine ⟨_, rfl, ?_⟩))
  go_ret
  exact ⟨by first | rfl | (simp; done) | (simp [*]; done), by repeat (first | exact Drawn0.refl _ | apply Drawn0.step)⟩

/-! ### arrearsref6_turned: function 38 -/
def arrearsref6_turned.f (a0 : Int) : Option (Int) := some ((4294967295 - a0) % 4294967296)
set_option maxHeartbeats 8000000 in
set_option maxRecDepth 100000 in
theorem arrearsref6_turned.calls (a0 : Int) (r : Int) (w : World) (h : arrearsref6_turned.f a0 = some r) :
    Calls Tryd.prog 38 #[.int .u32 a0] w fun e w' => e = .returned (.int .u32 r) ∧ Drawn0 w w' := by
  have H : (some ((4294967295 - a0) % 4294967296)) = some r := h
  clear h
  obtain rfl := Option.some.inj H
  go_enter Tryd.func38, Tryd.ntmps38
  go_wp2
  go_ret
  exact ⟨by first | rfl | (simp; done) | (simp [*]; done), by repeat (first | exact Drawn0.refl _ | apply Drawn0.step)⟩

/-! ### arrearsref6_laid: function 39 -/
def arrearsref6_laid.l0 : Nat → Int → Int → Option (Int)
  | 0, _, _ => none
  | k + 1, x0, x5 => if x5 < 8 then (if (Int.tmod x0 2) = 1 then (arrearsref6_laid.l0 k (Go.bits .xor .u32 ((Int.tdiv x0 2) % 4294967296) 3988292384) (wrap64 (x5 + 1))) else (arrearsref6_laid.l0 k ((Int.tdiv x0 2) % 4294967296) (wrap64 (x5 + 1)))) else (some x0)
def arrearsref6_laid.f (k : Nat) (a0 : Int) (a1 : Int) : Option (Int) := arrearsref6_laid.l0 k (Go.bits .xor .u32 a0 ((a1) % 4294967296)) 0
theorem arrearsref6_laid.mono_l : ∀ k, (∀ y0 y1, LeO (arrearsref6_laid.l0 k y0 y1) (arrearsref6_laid.l0 (k + 1) y0 y1))
  | 0 => fun _ _ r h => by simp [arrearsref6_laid.l0] at h
  | k + 1 => by
    have ih0 := arrearsref6_laid.mono_l k
    · intro y0 y1
      unfold arrearsref6_laid.l0
      repeat' first
      | (with_reducible exact ih0 _ _)
      | (with_reducible exact LeO.refl _)
      | (with_reducible exact LeO.none _)
      | (with_reducible refine LeO.ite ?_ ?_)
      | (with_reducible refine LeO.bind ?_ (fun _ => ?_))
      | exact ih0 _ _
      | exact LeO.none _
      | refine LeO.ite ?_ ?_
      | refine LeO.bind ?_ (fun _ => ?_)
theorem arrearsref6_laid.mono : ∀ a0 a1 k, LeO (arrearsref6_laid.f k a0 a1) (arrearsref6_laid.f (k + 1) a0 a1) := by
  intro a0 a1 k
  have ih0 := arrearsref6_laid.mono_l k
  unfold arrearsref6_laid.f
  repeat' first
      | (with_reducible exact ih0 _ _)
      | (with_reducible exact LeO.refl _)
      | (with_reducible exact LeO.none _)
      | (with_reducible refine LeO.ite ?_ ?_)
      | (with_reducible refine LeO.bind ?_ (fun _ => ?_))
      | exact ih0 _ _
      | exact LeO.none _
      | refine LeO.ite ?_ ?_
      | refine LeO.bind ?_ (fun _ => ?_)
set_option maxHeartbeats 8000000 in
set_option maxRecDepth 100000 in
theorem arrearsref6_laid.calls (k : Nat) (a0 : Int) (a1 : Int) (r : Int) (w : World) (h : arrearsref6_laid.f k a0 a1 = some r) :
    Calls Tryd.prog 39 #[.int .u32 a0, .int .u8 a1] w fun e w' => e = .returned (.int .u32 r) ∧ Drawn0 w w' := by
  have H : (arrearsref6_laid.l0 k (Go.bits .xor .u32 a0 ((a1) % 4294967296)) 0) = some r := h
  clear h
  have H' := Aside0.mk H
  clear H
  go_enter Tryd.func39, Tryd.ntmps39
  go_wp2
  go_loopg [0, 5] k (fun kq v0 v5 w' => ∃ (x0_1 : Int) (x5_1 : Int), v0 = .int .u32 x0_1 ∧ v5 = .int .i64 x5_1 ∧ Aside0 (arrearsref6_laid.l0 kq x0_1 x5_1 = some r) ∧ Aside0 (kq ≤ k) ∧ Drawn0 w w')
  case atStart => exact ⟨(Go.bits .xor .u32 a0 ((a1) % 4294967296)), (0), (by first | rfl | (simp; done) | (simp [*]; done)), (by first | rfl | (simp; done) | (simp [*]; done)), H', ⟨Nat.le_refl _⟩, by repeat (first | exact Drawn0.refl _ | apply Drawn0.step)⟩
  case round =>
    clear H'
    try clear p2
    obtain ⟨x0_1, x5_1, rfl, rfl, HA, HK1, ⟨m1, rfl⟩⟩ := hrel
    cases gk with
    | zero => exact absurd HA.out (by simp [arrearsref6_laid.l0])
    | succ k1 =>
      have H := HA.out
      clear HA
      simp only [arrearsref6_laid.l0] at H
      by_cases c3 : x5_1 < 8
      · rw [if_pos c3] at H
        have c3b0 : decide (x5_1 < 8) = true := decide_eq_true c3
        clear c3
        by_cases c4 : (Int.tmod x0_1 2) = 1
        · rw [if_pos c4] at H
          have c4b0 : ((Int.tmod x0_1 2) == 1) = true := beq_iff_eq.mpr c4
          have c4b1 : ((Int.tmod x0_1 2) != 1) = false := bne_eq_false_iff_eq.mpr c4
          clear c4
          have H' := Aside0.mk H
          clear H
          go_wp2
          go_roundg k1
          case measure => have := HK1.out; omega
          case rel => exact ⟨(Go.bits .xor .u32 ((Int.tdiv x0_1 2) % 4294967296) 3988292384), (wrap64 (x5_1 + 1)), (by first | rfl | (simp; done) | (simp [*]; done)), (by first | rfl | (simp; done) | (simp [*]; done)), H', ⟨by have := HK1.out; omega⟩, by repeat (first | exact Drawn0.refl _ | apply Drawn0.step)⟩
        · rw [if_neg c4] at H
          have c4b0 : ((Int.tmod x0_1 2) == 1) = false := beq_eq_false_iff_ne.mpr c4
          have c4b1 : ((Int.tmod x0_1 2) != 1) = true := bne_iff_ne.mpr c4
          have H' := Aside0.mk H
          clear H
          go_wp2
          go_roundg k1
          case measure => have := HK1.out; omega
          case rel => exact ⟨((Int.tdiv x0_1 2) % 4294967296), (wrap64 (x5_1 + 1)), (by first | rfl | (simp; done) | (simp [*]; done)), (by first | rfl | (simp; done) | (simp [*]; done)), H', ⟨by have := HK1.out; omega⟩, by repeat (first | exact Drawn0.refl _ | apply Drawn0.step)⟩
      · rw [if_neg c3] at H
        have c3b0 : decide (x5_1 < 8) = false := decide_eq_false c3
        clear c3
        obtain rfl := Option.some.inj H
        go_wp2
        go_ret
        exact ⟨by first | rfl | (simp; done) | (simp [*]; done), by repeat (first | exact Drawn0.refl _ | apply Drawn0.step)⟩

end Go.Proofs.YtgfjmpnlkjocaaaDoor.G
