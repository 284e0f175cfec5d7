-- Written by stubprint.py (wip/) of this work, over the kit's print.py; parts by hand.
import Derived.Test.YtgfjmpnlkjocaaaDoorPx0
namespace Go.Proofs.YtgfjmpnlkjocaaaDoor.P
open Go.RowKit Go.Proofs.YtgfjmpnlkjocaaaDoorW.PrintWords Go.Proofs.YtgfjmpnlkjocaaaDoorW.PrintLast Go.Proofs.YtgfjmpnlkjocaaaDoorW.PrintMore
attribute [local go_sem] max2_int min2_int max_two min_two max_three min_three max_four min_four   -- for this text's walks alone
set_option linter.unusedVariables false
set_option linter.unusedSimpArgs false

/-! ### arrearslaw6_same: function 18 -/
def arrearslaw6_same.l0 : Nat → List Int → List Int → Int → Option (Bool)
  | 0, _, _, _ => none
  | k + 1, x0, x1, x5 => if x5 < (x0.length : Int) then (if 0 ≤ x5 then (if x5 < (x1.length : Int) then (if (rd x0 x5) = (rd x1 x5) then (arrearslaw6_same.l0 k x0 x1 (wrap64 (x5 + 1))) else (some false)) else (none)) else (none)) else (some true)
def arrearslaw6_same.f (k : Nat) (l0 : List Int) (l1 : List Int) : Option (Bool) := if (l0.length : Int) = (l1.length : Int) then (arrearslaw6_same.l0 k l0 l1 0) else (some false)
theorem arrearslaw6_same.mono_l : ∀ k, (∀ y0 y1 y2, LeO (arrearslaw6_same.l0 k y0 y1 y2) (arrearslaw6_same.l0 (k + 1) y0 y1 y2))
  | 0 => fun _ _ _ r h => by simp [arrearslaw6_same.l0] at h
  | k + 1 => by
    have ih0 := arrearslaw6_same.mono_l k
    · intro y0 y1 y2
      unfold arrearslaw6_same.l0
      repeat' first
      | (with_reducible exact ih0 _ _ _)
      | (with_reducible exact LeO.refl _)
      | (with_reducible exact LeO.none _)
      | (with_reducible refine LeO.ite ?_ ?_)
      | (with_reducible refine LeO.bind ?_ (fun _ => ?_))
      | exact ih0 _ _ _
      | exact LeO.none _
      | refine LeO.ite ?_ ?_
      | refine LeO.bind ?_ (fun _ => ?_)
theorem arrearslaw6_same.mono : ∀ a0 a1 k, LeO (arrearslaw6_same.f k a0 a1) (arrearslaw6_same.f (k + 1) a0 a1) := by
  intro a0 a1 k
  have ih0 := arrearslaw6_same.mono_l k
  unfold arrearslaw6_same.f
  repeat' first
      | (with_reducible exact ih0 _ _ _)
      | (with_reducible exact LeO.refl _)
      | (with_reducible exact LeO.none _)
      | (with_reducible refine LeO.ite ?_ ?_)
      | (with_reducible refine LeO.bind ?_ (fun _ => ?_))
      | exact ih0 _ _ _
      | exact LeO.none _
      | refine LeO.ite ?_ ?_
      | refine LeO.bind ?_ (fun _ => ?_)
set_option maxHeartbeats 8000000 in
set_option maxRecDepth 100000 in
theorem arrearslaw6_same.calls (k : Nat) (A0 : Option Addr) (c0 : Nat) (l0 : List Int) (A1 : Option Addr) (c1 : Nat) (l1 : List Int) (r : Bool) (w : World) (hr0 : Kd.C (Kd.int .u8) w A0 l0.length l0) (hc0 : l0.length ≤ c0) (hr1 : Kd.C (Kd.int .u8) w A1 l1.length l1) (hc1 : l1.length ≤ c1) (h : arrearslaw6_same.f k l0 l1 = some r) :
    Calls Tryd.prog 18 #[.slice A0 l0.length c0, .slice A1 l1.length c1] w fun e w' => e = .returned (.bool r) ∧ Drawn0 w w' := by
  have HR0 := Aside0.mk hr0
  have HC0 := Aside0.mk hc0
  clear hr0 hc0
  have HR1 := Aside0.mk hr1
  have HC1 := Aside0.mk hc1
  clear hr1 hc1
  have H : (if (l0.length : Int) = (l1.length : Int) then (arrearslaw6_same.l0 k l0 l1 0) else (some false)) = some r := h
  clear h
  by_cases c3 : (l0.length : Int) = (l1.length : Int)
  · rw [if_pos c3] at H
    have c3b0 : ((l0.length : Int) == (l1.length : Int)) = true := beq_iff_eq.mpr c3
    have c3b1 : ((l0.length : Int) != (l1.length : Int)) = false := bne_eq_false_iff_eq.mpr c3
    have c3b2 : (l0.length == l1.length) = true := by first | simpa using c3 | (simp at c3 ⊢; omega)
    clear c3
    have H' := Aside0.mk H
    clear H
    go_enter Tryd.func18, Tryd.ntmps18
    go_wp2
    repeat (go_quiet (fail); try go_wp2)
    go_loopg [5] k (fun kq v5 w' => ∃ (x5_1 : Int), v5 = .int .i64 x5_1 ∧ Aside0 (arrearslaw6_same.l0 kq l0 l1 x5_1 = some r) ∧ Aside0 (kq ≤ k) ∧ Drawn0 w w')
    case atStart => exact ⟨(0), (by first | rfl | (simp; done) | (simp [*]; done)), H', ⟨Nat.le_refl _⟩, by repeat (first | exact Drawn0.refl _ | apply Drawn0.step)⟩
    case round =>
      clear H'
      try clear c1
      try clear p2
      try clear c3
      try clear c3b0
      try clear c3b1
      try clear c3b2
      obtain ⟨x5_1, rfl, HA, HK1, ⟨m1, rfl⟩⟩ := hrel
      cases gk with
      | zero => exact absurd HA.out (by simp [arrearslaw6_same.l0])
      | succ k1 =>
        have H := HA.out
        clear HA
        simp only [arrearslaw6_same.l0] at H
        by_cases c4 : x5_1 < (l0.length : Int)
        · rw [if_pos c4] at H
          have c4b0 : decide (x5_1 < (l0.length : Int)) = true := decide_eq_true c4
          clear c4
          by_cases c5 : 0 ≤ x5_1
          · rw [if_pos c5] at H
            have c5b0 : decide (0 ≤ x5_1) = true := decide_eq_true c5
            clear c5
            by_cases c6 : x5_1 < (l1.length : Int)
            · rw [if_pos c6] at H
              have c6b0 : decide (x5_1 < (l1.length : Int)) = true := decide_eq_true c6
              clear c6
              by_cases c7 : (rd l0 x5_1) = (rd l1 x5_1)
              · rw [if_pos c7] at H
                have c7b0 : ((rd l0 x5_1) == (rd l1 x5_1)) = true := beq_iff_eq.mpr c7
                have c7b1 : ((rd l0 x5_1) != (rd l1 x5_1)) = false := bne_eq_false_iff_eq.mpr c7
                clear c7
                have H' := Aside0.mk H
                clear H
                have p101 : 0 ≤ (x5_1 : Int) := of_decide_eq_true (by first | (with_reducible assumption) | assumption)
                have q101 : x5_1 < (l0.length : Int) := of_decide_eq_true (by first | (with_reducible assumption) | assumption)
                obtain ⟨ad101, e101, hx101_0⟩ := Kd.at_int HR0.out x5_1 p101 q101
                cases e101
                replace p101 := eq_true p101
                replace q101 := eq_true q101
                have p102 : 0 ≤ (x5_1 : Int) := of_decide_eq_true (by first | (with_reducible assumption) | assumption)
                have q102 : x5_1 < (l1.length : Int) := of_decide_eq_true (by first | (with_reducible assumption) | assumption)
                obtain ⟨ad102, e102, hx102_0⟩ := Kd.at_int HR1.out x5_1 p102 q102
                cases e102
                replace p102 := eq_true p102
                replace q102 := eq_true q102
                go_wp2
                repeat (go_quiet (fail); try go_wp2)
                go_roundg k1
                case measure => have := HK1.out; omega
                case rel => exact ⟨(wrap64 (x5_1 + 1)), (by first | rfl | (simp; done) | (simp [*]; done)), H', ⟨by have := HK1.out; omega⟩, by repeat (first | exact Drawn0.refl _ | apply Drawn0.step)⟩
              · rw [if_neg c7] at H
                have c7b0 : ((rd l0 x5_1) == (rd l1 x5_1)) = false := beq_eq_false_iff_ne.mpr c7
                have c7b1 : ((rd l0 x5_1) != (rd l1 x5_1)) = true := bne_iff_ne.mpr c7
                obtain rfl := Option.some.inj H
                have p101 : 0 ≤ (x5_1 : Int) := of_decide_eq_true (by first | (with_reducible assumption) | assumption)
                have q101 : x5_1 < (l0.length : Int) := of_decide_eq_true (by first | (with_reducible assumption) | assumption)
                obtain ⟨ad101, e101, hx101_0⟩ := Kd.at_int HR0.out x5_1 p101 q101
                cases e101
                replace p101 := eq_true p101
                replace q101 := eq_true q101
                have p102 : 0 ≤ (x5_1 : Int) := of_decide_eq_true (by first | (with_reducible assumption) | assumption)
                have q102 : x5_1 < (l1.length : Int) := of_decide_eq_true (by first | (with_reducible assumption) | assumption)
                obtain ⟨ad102, e102, hx102_0⟩ := Kd.at_int HR1.out x5_1 p102 q102
                cases e102
                replace p102 := eq_true p102
                replace q102 := eq_true q102
                go_wp2
                repeat (go_quiet (fail); try go_wp2)
                go_ret
                exact ⟨by first | rfl | (simp; done) | (simp [*]; done), by repeat (first | exact Drawn0.refl _ | apply Drawn0.step)⟩
            · rw [if_neg c6] at H
              exact absurd H (by simp)
          · rw [if_neg c5] at H
            exact absurd H (by simp)
        · rw [if_neg c4] at H
          have c4b0 : decide (x5_1 < (l0.length : Int)) = false := decide_eq_false c4
          clear c4
          obtain rfl := Option.some.inj H
          go_wp2
          repeat (go_quiet (fail); try go_wp2)
          go_ret
          exact ⟨by first | rfl | (simp; done) | (simp [*]; done), by repeat (first | exact Drawn0.refl _ | apply Drawn0.step)⟩
  · rw [if_neg c3] at H
    have c3b0 : ((l0.length : Int) == (l1.length : Int)) = false := beq_eq_false_iff_ne.mpr c3
    have c3b1 : ((l0.length : Int) != (l1.length : Int)) = true := bne_iff_ne.mpr c3
    have c3b2 : (l0.length == l1.length) = false := by first | simpa using c3 | (simp at c3 ⊢; omega)
    obtain rfl := Option.some.inj H
    go_enter Tryd.func18, Tryd.ntmps18
    go_wp2
    repeat (go_quiet (fail); try go_wp2)
    go_ret
    exact ⟨by first | rfl | (simp; done) | (simp [*]; done), by repeat (first | exact Drawn0.refl _ | apply Drawn0.step)⟩

/-! ### frame_Extend: function 16 (by hand) -/
def frame_Extend.tab (x : Int) : Int := ([0, 498536548, 997073096, 651767980, 1994146192, 1802195444, 1303535960, 1342533948, 3988292384, 4027552580, 3604390888, 3412177804, 2607071920, 2262029012, 2685067896, 3183342108] : List Int).getD x.toNat 0
def frame_Extend.mix (r : Int) : Int := Go.bits .xor .u32 (r / 16) (frame_Extend.tab (Go.bits .and .u32 r 15))
def frame_Extend.step (r b : Int) : Int := frame_Extend.mix (frame_Extend.mix (Go.bits .xor .u32 r (b % 4294967296)))
def frame_Extend.inv (r : Int) : Int := Go.bits .xor .u32 IntKind.u32.max r
def frame_Extend.f (a0 : Int) (l1 : List Int) : Option Int := some (frame_Extend.inv (l1.foldl frame_Extend.step (frame_Extend.inv a0)))
theorem frame_Extend.low (x : Int) : 0 ≤ Go.bits .and .u32 x 15 ∧ Go.bits .and .u32 x 15 < 16 := by
  have h2 : (BitVec.ofInt 32 (15 : Int)).toNat = 15 := by decide
  have h3 : (BitVec.ofInt 32 x).toNat &&& 15 ≤ 15 := Nat.and_le_right
  show 0 ≤ IntKind.u32.wrap ((BitVec.ofInt 32 x &&& BitVec.ofInt 32 15).toNat : Int) ∧ IntKind.u32.wrap ((BitVec.ofInt 32 x &&& BitVec.ofInt 32 15).toNat : Int) < 16
  rw [BitVec.toNat_and, h2, show ∀ n : Int, IntKind.u32.wrap n = n % 4294967296 from fun n => by simp [IntKind.wrap, IntKind.bits, IntKind.signed]]
  omega
theorem frame_Extend.cells (w : World) (hL : Laid w) (x : Int) : w.cell? ⟨0, (Go.bits .and .u32 x 15).toNat, none⟩ = some (.int .u32 (frame_Extend.tab (Go.bits .and .u32 x 15))) := by
  have h := frame_Extend.low x
  generalize Go.bits .and .u32 x 15 = y at h
  apply hL.at0
  have : y = 0 ∨ y = 1 ∨ y = 2 ∨ y = 3 ∨ y = 4 ∨ y = 5 ∨ y = 6 ∨ y = 7 ∨ y = 8 ∨ y = 9 ∨ y = 10 ∨ y = 11 ∨ y = 12 ∨ y = 13 ∨ y = 14 ∨ y = 15 := by omega
  rcases this with rfl | rfl | rfl | rfl | rfl | rfl | rfl | rfl | rfl | rfl | rfl | rfl | rfl | rfl | rfl | rfl <;> rfl
set_option maxRecDepth 100000 in
set_option maxHeartbeats 2000000 in
theorem frame_Extend.calls (a0 : Int) (A1 : Option Addr) (c1 : Nat) (l1 : List Int) (r : Int) (w : World) (hr1 : Kd.C (Kd.int .u8) w A1 l1.length l1) (hc1 : l1.length ≤ c1) (hL : Laid w) (h : frame_Extend.f a0 l1 = some r) :
    Calls Tryd.prog 16 #[.int .u32 a0, .slice A1 l1.length c1] w fun e w' => e = .returned (.int .u32 r) ∧ Drawn0 w w' := by
  have HL := Aside0.mk hL
  have HR := Aside0.mk hr1
  have HC := Aside0.mk hc1
  have hlen : l1.length ≤ 9223372036854775807 := hr1.2.1
  have hu3 := Tryd.underlying53
  unfold frame_Extend.f at h
  have HH := Aside0.mk (Option.some.inj h)
  clear hL hr1 hc1 h
  go_enter Tryd.func16, Tryd.ntmps16
  go_wp2
  go_loopw [5, 12] (fun rv i wr => ∃ n : Nat, n ≤ l1.length ∧ i = .int .i64 n ∧ rv = .int .u32 ((l1.take n).foldl frame_Extend.step (frame_Extend.inv a0)) ∧ Aside0 (Drawn0 w wr)) (fun _ i _ => l1.length - (intOf i).toNat)
  case atStart => exact ⟨0, by omega, rfl, by rw [List.take_zero]; rfl, ⟨Drawn0.refl _⟩⟩
  case round =>
    obtain ⟨n, hn, rfl, rfl, HD⟩ := hrel
    obtain ⟨⟨m, rfl⟩⟩ := HD
    by_cases hlt : n < l1.length
    · obtain ⟨x, hx⟩ : ∃ x, x = (l1.take n).foldl frame_Extend.step (frame_Extend.inv a0) := ⟨_, rfl⟩
      rw [← hx]
      have HX := Aside0.mk hx
      clear hx
      obtain ⟨ad, e, hc0⟩ := Kd.at_int HR.out (n : Int) (by omega) (by omega)
      cases e
      rw [Int.toNat_natCast] at hc0
      obtain ⟨b, hb⟩ : ∃ b, b = rd l1 (n : Int) := ⟨_, rfl⟩
      rw [← hb] at hc0
      have HBb := Aside0.mk hb
      have t1 := frame_Extend.cells w HL.out (Go.bits .xor .u32 x (b % 4294967296))
      have t2 := frame_Extend.cells w HL.out (frame_Extend.mix (Go.bits .xor .u32 x (b % 4294967296)))
      have p1 := eq_true (frame_Extend.low (Go.bits .xor .u32 x (b % 4294967296))).1
      have p2 := eq_true (frame_Extend.low (Go.bits .xor .u32 x (b % 4294967296))).2
      have p3 := eq_true (frame_Extend.low (frame_Extend.mix (Go.bits .xor .u32 x (b % 4294967296)))).1
      have p4 := eq_true (frame_Extend.low (frame_Extend.mix (Go.bits .xor .u32 x (b % 4294967296)))).2
      have p5 := eq_true (show (Go.bits .and .u32 (Go.bits .xor .u32 x (b % 4294967296)) 15).toNat < 16 by have := frame_Extend.low (Go.bits .xor .u32 x (b % 4294967296)); omega)
      have p6 := eq_true (show (Go.bits .and .u32 (frame_Extend.mix (Go.bits .xor .u32 x (b % 4294967296))) 15).toNat < 16 by have := frame_Extend.low (frame_Extend.mix (Go.bits .xor .u32 x (b % 4294967296))); omega)
      simp only [frame_Extend.mix] at t2 p3 p4 p6
      clear hb
      have hst : frame_Extend.step x b = Go.bits .xor .u32 (Go.bits .xor .u32 (Go.bits .xor .u32 x (b % 4294967296) / 16) (frame_Extend.tab (Go.bits .and .u32 (Go.bits .xor .u32 x (b % 4294967296)) 15)) / 16) (frame_Extend.tab (Go.bits .and .u32 (Go.bits .xor .u32 (Go.bits .xor .u32 x (b % 4294967296) / 16) (frame_Extend.tab (Go.bits .and .u32 (Go.bits .xor .u32 x (b % 4294967296)) 15))) 15)) := rfl
      have HST := Aside0.mk hst
      clear hst
      go_wp2
      go_roundw
      case rel => exact ⟨n + 1, by omega, by go_num, by
        rw [List.take_succ_eq_append_getElem hlt, List.foldl_append, List.foldl_cons, List.foldl_nil, ← HX.out, show l1[n] = b from by rw [HBb.out]; unfold rd; simp [hlt], HST.out], ⟨by repeat (first | exact ⟨⟨_, rfl⟩⟩ | apply Drawn0.step)⟩⟩
      case measure => simp [intOf]; omega
    · have hn2 : n = l1.length := by omega
      subst hn2
      rw [List.take_length]
      have hE : frame_Extend.inv (l1.foldl frame_Extend.step (frame_Extend.inv a0)) = r := HH.out
      obtain ⟨x, hx⟩ : ∃ x, x = l1.foldl frame_Extend.step (frame_Extend.inv a0) := ⟨_, rfl⟩
      rw [← hx] at hE ⊢
      have HE := Aside0.mk hE
      clear hE hx hlt
      go_wp2
      go_ret
      exact ⟨by rw [← HE.out]; rfl, ⟨⟨m, rfl⟩⟩⟩

/-! ### frame_Sum: function 14 -/
def frame_Sum.f (l0 : List Int) : Option (Int) := (frame_Extend.f 0 l0).bind fun t103 => (some t103)
set_option maxHeartbeats 8000000 in
set_option maxRecDepth 100000 in
theorem frame_Sum.calls (A0 : Option Addr) (c0 : Nat) (l0 : List Int) (r : Int) (w : World) (hr0 : Kd.C (Kd.int .u8) w A0 l0.length l0) (hc0 : l0.length ≤ c0) (hL : Laid w) (h : frame_Sum.f l0 = some r) :
    Calls Tryd.prog 14 #[.slice A0 l0.length c0] w fun e w' => e = .returned (.int .u32 r) ∧ Drawn0 w w' := by
  have HL0_ := Aside0.mk hL
  clear hL
  have HR0 := Aside0.mk hr0
  have HC0 := Aside0.mk hc0
  clear hr0 hc0
  have H : ((frame_Extend.f 0 l0).bind fun t103 => (some t103)) = some r := h
  clear h
  replace H := Option.bind_eq_some_iff.mp H
  obtain ⟨t103, A20, H⟩ := H
  replace H : (some t103) = some r := H
  have A2 := Aside0.mk A20
  clear A20
  obtain rfl := Option.some.inj H
  go_enter Tryd.func14, Tryd.ntmps14
  go_wp2_with (first | ((with_reducible refine gate_callee (f := 16) rfl ?_); refine goesL_ (some 4) rfl rfl Tryd.func16 (by kernel_rfl) rfl #[.int .u32 0, .slice A0 l0.length c0] rfl (by (try simp only [List.map_toArray, List.map_cons, List.map_nil]); first | done | rfl | (simp only [List.length_drop, List.length_take]; rfl)) ?_; (with_reducible refine (frame_Extend.calls 0 _ _ l0 t103 _ ?side1 ?side2 ?sideL A2.out).mono ?_); (case sideL => exact laid_at HL0_.out (by repeat (first | (with_reducible first | exact HB.out | apply below_alloc | apply pw_below_drewN | apply below_drew1 | refine below_set ?_ (Aside0.out (by assumption))) | exact HB.out | exact Below.refl _ _ | exact Drawn0.below (Drawn0.refl _)))); (case side1 => repeat (first | exact HR0.out | (with_reducible refine Kd.C_alloc ?_ _) | (with_reducible refine Kd.C_drewN ?_ _) | (with_reducible refine Kd.C_drew ?_))); (case side2 => exact HC0.out); rintro e w' ⟨rfl, ⟨nd, rfl⟩⟩; refine ⟨_, rfl, ?_⟩))
  go_ret
  exact ⟨by first | rfl | (simp; done) | (simp [*]; done), by repeat (first | exact Drawn0.refl _ | apply Drawn0.step)⟩

/-! ### frame_word: function 48 -/
def frame_word.f (l0 : List Int) : Option (Int) := if 0 < (l0.length : Int) then (if 1 < (l0.length : Int) then (if 2 < (l0.length : Int) then (if 3 < (l0.length : Int) then (some (Go.bits .or .u32 (Go.bits .or .u32 (Go.bits .or .u32 ((rd l0 0) % 4294967296) ((((rd l0 1) % 4294967296) * 256) % 4294967296)) ((((rd l0 2) % 4294967296) * 65536) % 4294967296)) ((((rd l0 3) % 4294967296) * 16777216) % 4294967296))) else (none)) else (none)) else (none)) else (none)
set_option maxHeartbeats 8000000 in
set_option maxRecDepth 100000 in
theorem frame_word.calls (A0 : Option Addr) (c0 : Nat) (l0 : List Int) (r : Int) (w : World) (hr0 : Kd.C (Kd.int .u8) w A0 l0.length l0) (hc0 : l0.length ≤ c0) (h : frame_word.f l0 = some r) :
    Calls Tryd.prog 48 #[.slice A0 l0.length c0] w fun e w' => e = .returned (.int .u32 r) ∧ Drawn0 w w' := by
  have HR0 := Aside0.mk hr0
  have HC0 := Aside0.mk hc0
  clear hr0 hc0
  have H : (if 0 < (l0.length : Int) then (if 1 < (l0.length : Int) then (if 2 < (l0.length : Int) then (if 3 < (l0.length : Int) then (some (Go.bits .or .u32 (Go.bits .or .u32 (Go.bits .or .u32 ((rd l0 0) % 4294967296) ((((rd l0 1) % 4294967296) * 256) % 4294967296)) ((((rd l0 2) % 4294967296) * 65536) % 4294967296)) ((((rd l0 3) % 4294967296) * 16777216) % 4294967296))) else (none)) else (none)) else (none)) else (none)) = some r := h
  clear h
  by_cases c2 : 0 < (l0.length : Int)
  · rw [if_pos c2] at H
    have c2b0 : decide (0 < (l0.length : Int)) = true := decide_eq_true c2
    have c2b1 : decide (0 < l0.length) = true := decide_eq_true (by omega)
    clear c2
    by_cases c3 : 1 < (l0.length : Int)
    · rw [if_pos c3] at H
      have c3b0 : decide (1 < (l0.length : Int)) = true := decide_eq_true c3
      have c3b1 : decide (1 < l0.length) = true := decide_eq_true (by omega)
      clear c3
      by_cases c4 : 2 < (l0.length : Int)
      · rw [if_pos c4] at H
        have c4b0 : decide (2 < (l0.length : Int)) = true := decide_eq_true c4
        have c4b1 : decide (2 < l0.length) = true := decide_eq_true (by omega)
        clear c4
        by_cases c5 : 3 < (l0.length : Int)
        · rw [if_pos c5] at H
          have c5b0 : decide (3 < (l0.length : Int)) = true := decide_eq_true c5
          have c5b1 : decide (3 < l0.length) = true := decide_eq_true (by omega)
          clear c5
          obtain rfl := Option.some.inj H
          have p104 : 0 ≤ (0 : Int) := (by omega)
          have q104 : 0 < (l0.length : Int) := of_decide_eq_true (by first | (with_reducible assumption) | assumption)
          obtain ⟨ad104, e104, hx104_0⟩ := Kd.at_int HR0.out 0 p104 q104
          cases e104
          have qi104 : (0 < l0.length) = True := eq_true (by omega)
          (try rw [show ((0 : Int)).toNat = 0 from rfl] at hx104_0)
          (try rw [Addr.add_zero'] at hx104_0)
          replace p104 := eq_true p104
          replace q104 := eq_true q104
          have p105 : 0 ≤ (1 : Int) := (by omega)
          have q105 : 1 < (l0.length : Int) := of_decide_eq_true (by first | (with_reducible assumption) | assumption)
          obtain ⟨ad105, e105, hx105_0⟩ := Kd.at_int HR0.out 1 p105 q105
          obtain rfl : ad104 = ad105 := (by injection e105)
          (try simp only [show (1 : Int).toNat = 1 from rfl, Nat.reduceMul, Nat.reduceEqDiff, Go.Addr.add, ↓reduceIte] at hx105_0)
          have qi105 : (1 < l0.length) = True := eq_true (by omega)
          (try rw [show ((1 : Int)).toNat = 1 from rfl] at hx105_0)
          replace p105 := eq_true p105
          replace q105 := eq_true q105
          have p106 : 0 ≤ (2 : Int) := (by omega)
          have q106 : 2 < (l0.length : Int) := of_decide_eq_true (by first | (with_reducible assumption) | assumption)
          obtain ⟨ad106, e106, hx106_0⟩ := Kd.at_int HR0.out 2 p106 q106
          obtain rfl : ad104 = ad106 := (by injection e106)
          (try simp only [show (2 : Int).toNat = 2 from rfl, Nat.reduceMul, Nat.reduceEqDiff, Go.Addr.add, ↓reduceIte] at hx106_0)
          have qi106 : (2 < l0.length) = True := eq_true (by omega)
          (try rw [show ((2 : Int)).toNat = 2 from rfl] at hx106_0)
          replace p106 := eq_true p106
          replace q106 := eq_true q106
          have p107 : 0 ≤ (3 : Int) := (by omega)
          have q107 : 3 < (l0.length : Int) := of_decide_eq_true (by first | (with_reducible assumption) | assumption)
          obtain ⟨ad107, e107, hx107_0⟩ := Kd.at_int HR0.out 3 p107 q107
          obtain rfl : ad104 = ad107 := (by injection e107)
          (try simp only [show (3 : Int).toNat = 3 from rfl, Nat.reduceMul, Nat.reduceEqDiff, Go.Addr.add, ↓reduceIte] at hx107_0)
          have qi107 : (3 < l0.length) = True := eq_true (by omega)
          (try rw [show ((3 : Int)).toNat = 3 from rfl] at hx107_0)
          replace p107 := eq_true p107
          replace q107 := eq_true q107
          go_enter Tryd.func48, Tryd.ntmps48
          go_wp2
          repeat (go_quiet (fail); try go_wp2)
          go_ret
          exact ⟨by first | rfl | (simp; done) | (simp [*]; done), by repeat (first | exact Drawn0.refl _ | apply Drawn0.step)⟩
        · rw [if_neg c5] at H
          exact absurd H (by simp)
      · rw [if_neg c4] at H
        exact absurd H (by simp)
    · rw [if_neg c3] at H
      exact absurd H (by simp)
  · rw [if_neg c2] at H
    exact absurd H (by simp)

-- NOT PRINTED: function 41 (frame_cursor_next)

/-! ### frame_Decode: function 26 (by hand) -/
/-- make with nothing in it and a capacity that is a 32-bit number. -/
theorem frame_Decode.info8 : (Tryd.prog.info? 5).map (fun i => (i.zero, i.size, i.bytes)) = some (some (.int .u8 0), 1, 1) := by kernel_rfl
theorem frame_Decode.make32 (m : Int) (h0 : 0 ≤ m) (hn : m ≤ 4194304) :
    ∀ W : World, (Instr.makeSlice 23 (.int .i64 0) (.int .u32 m)).run Tryd.prog W = .ok (.slice (some ⟨W.heap.size, 0, none⟩) 0 m.toNat) (W.alloc (.cells (madeCells #[.int .u8 0] m.toNat) 5)) := by
  intro W
  obtain ⟨i0, hi, hzz⟩ := Option.map_eq_some_iff.1 frame_Decode.info8
  simp only [Prod.mk.injEq] at hzz
  obtain ⟨hz0, hz1, hz2⟩ := hzz
  rw [run_make W 23 5 i0 _ Tryd.underlying23 hi hz0 .i64 .u32 0 m (by omega) h0 (by rw [hz2]; omega) (by omega), hz1, Nat.mul_one]
  rfl
theorem frame_Decode.gen_world {P : Program} {c : Code} {Q : Exit → Act → World → Prop} {a : Act} {W : World} (F : World → Prop) (h0 : F W) (h : ∀ W2, F W2 → c.wp P Q a W2) : c.wp P Q a W := h W h0
/-- What stands at a place of a file: the payload, the tail, whether it is whole, the place behind. -/
def frame_Decode.nx (l : List Int) (a : Nat) : Option (List Int × Int × Bool × Int) :=
  if (l.drop a).length = 0 then some ([], 0, false, a)
  else if (l.drop a).length < 4 then some ([], 1, false, a)
  else (frame_word.f (l.drop a)).bind fun n =>
    if 4194304 < n then some ([], 2, false, a)
    else if n < 0 then none
    else if ((l.drop a).length : Int) < 4 + n + 4 then some ([], 1, false, a)
    else (frame_Sum.f ((l.drop a).take (4 + n).toNat)).bind fun s =>
      (frame_word.f ((l.drop a).drop (4 + n).toNat)).bind fun z =>
        if s = z then some (((l.drop a).take (4 + n).toNat).drop 4, 0, true, a + (4 + n + 4)) else some ([], 3, false, a)
def frame_Decode.f (l0 : List Int) (a1 : Int) : Option (List Int × Int × Int) :=
  if a1 < 0 ∨ (l0.length : Int) < a1 then some ([], a1, 1) else (frame_Decode.nx l0 a1.toNat).bind fun q => some (q.1, q.2.2.2, q.2.1)
set_option maxRecDepth 100000 in
set_option maxHeartbeats 4000000 in
theorem frame_Decode.next (g : Nat) (A0 : Option Addr) (c0 : Nat) (l0 : List Int) (a : Nat) (r1 : List Int) (r2 : Int) (r3 : Bool) (r4 : Int) (w : World)
    (hcur : w.heap[g]? = some (.cells #[.slice A0 l0.length c0, .int .i64 (a : Int)] 58 (0, 0))) (hr0 : Kd.C (Kd.int .u8) w A0 l0.length l0) (hc0 : l0.length ≤ c0) (ha : a ≤ l0.length) (hA : ∀ ad, A0 = some ad → 0 < l0.length → ad.block ≠ g) (hL : Laid w) (h : frame_Decode.nx l0 a = some (r1, r2, r3, r4)) :
    Calls Tryd.prog 41 #[.pointer (some ⟨g, 0, none⟩)] w fun e w' => ∃ v0_ : Value, e = .returned (.tuple #[v0_, .int .i64 r2, .bool r3]) ∧ Kd.R (Kd.int .u8) 5 w' w.heap.size (fun _ => True) v0_ r1 ∧
      w'.heap[g]? = some (.cells #[.slice A0 l0.length c0, .int .i64 r4] 58 (0, 0)) ∧ KeepBut w w' g none ∧ (∀ B, B ≤ g → Below B w w') := by
  have HL := Aside0.mk hL
  have hmax := Kd.C_max hr0
  have e0 : w.cell? ⟨g, 0, none⟩ = some (.slice A0 l0.length c0) := by simp [World.cell?, hcur]
  have e1 : w.cell? ⟨g, 1, none⟩ = some (.int .i64 (a : Int)) := by simp [World.cell?, hcur]
  have e2 : w.frozen? ⟨g, 1, none⟩ = false := by simp [World.frozen?, hcur]
  have hg := (Array.getElem?_eq_some_iff.1 hcur).1
  have HCUR := Aside0.mk hcur
  have HNE := Aside0.mk hA
  have HR0 := Aside0.mk hr0
  have HG := Aside0.mk hg
  obtain ⟨i0, hi, _, hsz, _⟩ := info_parts frame_Decode.info8
  obtain ⟨A1, hcut, hA1, hC1⟩ := print_drop_of (P := Tryd.prog) (Value.int .u8) 0 23 5 .i64 Tryd.underlying23 hi hsz A0 c0 l0 (a : Int) (by omega) (by omega) hc0
  rw [Int.toNat_natCast] at hcut hA1 hC1
  have HR1 := Aside0.mk (Kd.C_of_reads (h1 := fun _ => rfl) (hA1 _ (Kd.reads_of_C hr0)))
  have HA1 := Aside0.mk hA1
  have HC1 := Aside0.mk hC1
  clear hA1 hC1
  unfold frame_Decode.nx at h
  have hll : (l0.drop a).length = l0.length - a := List.length_drop
  generalize l0.drop a = left at *
  have HLL := Aside0.mk hll
  have HMX := Aside0.mk hmax
  have HA := Aside0.mk ha
  have hc0a : left.length ≤ c0 - a := HC1.out
  have HCA := Aside0.mk hc0a
  generalize hca : c0 - a = c1 at *
  clear hr0 hcur hA hg hca hll hmax hL hc0a
  by_cases c2 : left.length = 0
  · rw [if_pos c2] at h
    have d1 : ((left.length : Int) == 0) = true := by rw [c2]; rfl
    clear ha
    simp only [Option.some.injEq, Prod.mk.injEq] at h
    obtain ⟨rfl, rfl, rfl, rfl⟩ := h
    go_enter Tryd.func41, Tryd.ntmps41
    go_wp2
    repeat (go_quiet (fail); try go_wp2)
    go_ret3
    refine ⟨_, rfl, Kd.R_nil _ _ _ _ _, ?_, ?_, ?_⟩
    · first | exact HCUR.out | exact blk_drewN HCUR.out _
    · refine KeepBut.of_below ?_ _ _
      repeat (first | exact Below.refl _ _ | apply below_drew1 | apply pw_below_drewN)
    · intro B hB
      repeat (first | exact Below.refl _ _ | apply below_drew1 | apply pw_below_drewN)
  rw [if_neg c2] at h
  have d1 : ((left.length : Int) == 0) = false := beq_eq_false_iff_ne.mpr (by omega)
  by_cases c4 : left.length < 4
  · rw [if_pos c4] at h
    have d2 : decide ((left.length : Int) < 4) = true := decide_eq_true (by omega)
    clear ha
    simp only [Option.some.injEq, Prod.mk.injEq] at h
    obtain ⟨rfl, rfl, rfl, rfl⟩ := h
    go_enter Tryd.func41, Tryd.ntmps41
    go_wp2
    repeat (go_quiet (fail); try go_wp2)
    go_ret3
    refine ⟨_, rfl, Kd.R_nil _ _ _ _ _, ?_, ?_, ?_⟩
    · first | exact HCUR.out | exact blk_drewN HCUR.out _
    · refine KeepBut.of_below ?_ _ _
      repeat (first | exact Below.refl _ _ | apply below_drew1 | apply pw_below_drewN)
    · intro B hB
      repeat (first | exact Below.refl _ _ | apply below_drew1 | apply pw_below_drewN)
  rw [if_neg c4] at h
  have d2 : decide ((left.length : Int) < 4) = false := decide_eq_false (by omega)
  obtain ⟨n, en, h⟩ := Option.bind_eq_some_iff.mp h
  have EN := Aside0.mk en
  clear en
  by_cases c5 : 4194304 < n
  · rw [if_pos c5] at h
    have d3 : decide (4194304 < n) = true := decide_eq_true c5
    clear ha
    simp only [Option.some.injEq, Prod.mk.injEq] at h
    obtain ⟨rfl, rfl, rfl, rfl⟩ := h
    go_enter Tryd.func41, Tryd.ntmps41
    go_wp2_with (first | (go_at_call 48; (with_reducible refine (frame_word.calls _ _ left n _ ?side1 ?side2 EN.out).mono ?_); (case side1 => repeat (first | exact HR1.out | (with_reducible refine Kd.C_alloc ?_ _) | (with_reducible refine Kd.C_drewN ?_ _) | (with_reducible refine Kd.C_drew ?_))); (case side2 => exact HC1.out); rintro e w' ⟨rfl, ⟨nd, rfl⟩⟩; (try first | exact ⟨rfl, _, World.drewN_drewN _ _ _⟩ | exact ⟨rfl, _, Eq.trans (World.drewN_drewN _ _ _) (congrArg (World.drewN _) (Nat.add_assoc _ _ _))⟩)))
    repeat (go_quiet (first | (go_at_call 48; (with_reducible refine (frame_word.calls _ _ left n _ ?side1 ?side2 EN.out).mono ?_); (case side1 => repeat (first | exact HR1.out | (with_reducible refine Kd.C_alloc ?_ _) | (with_reducible refine Kd.C_drewN ?_ _) | (with_reducible refine Kd.C_drew ?_))); (case side2 => exact HC1.out); rintro e w' ⟨rfl, ⟨nd, rfl⟩⟩; (try first | exact ⟨rfl, _, World.drewN_drewN _ _ _⟩ | exact ⟨rfl, _, Eq.trans (World.drewN_drewN _ _ _) (congrArg (World.drewN _) (Nat.add_assoc _ _ _))⟩))); try go_wp2_with (first | (go_at_call 48; (with_reducible refine (frame_word.calls _ _ left n _ ?side1 ?side2 EN.out).mono ?_); (case side1 => repeat (first | exact HR1.out | (with_reducible refine Kd.C_alloc ?_ _) | (with_reducible refine Kd.C_drewN ?_ _) | (with_reducible refine Kd.C_drew ?_))); (case side2 => exact HC1.out); rintro e w' ⟨rfl, ⟨nd, rfl⟩⟩; (try first | exact ⟨rfl, _, World.drewN_drewN _ _ _⟩ | exact ⟨rfl, _, Eq.trans (World.drewN_drewN _ _ _) (congrArg (World.drewN _) (Nat.add_assoc _ _ _))⟩))))
    go_ret3
    refine ⟨_, rfl, Kd.R_nil _ _ _ _ _, ?_, ?_, ?_⟩
    · first | exact HCUR.out | exact blk_drewN HCUR.out _
    · refine KeepBut.of_below ?_ _ _
      repeat (first | exact Below.refl _ _ | apply below_drew1 | apply pw_below_drewN)
    · intro B hB
      repeat (first | exact Below.refl _ _ | apply below_drew1 | apply pw_below_drewN)
  rw [if_neg c5] at h
  have d3 : decide (4194304 < n) = false := decide_eq_false c5
  by_cases c6 : n < 0
  · rw [if_pos c6] at h; cases h
  rw [if_neg c6] at h
  have h0 : IntKind.i64.wrap n = n := IntWalk.i64_in _ (by omega)
  have h0' : wrap64 n = n := by unfold wrap64; omega
  have h1 : IntKind.i64.wrap (4 + n) = 4 + n := IntWalk.i64_in _ (by omega)
  have h2 : IntKind.i64.wrap (4 + n + 4) = 4 + n + 4 := IntWalk.i64_in _ (by omega)
  have h1' : wrap64 (4 + n) = 4 + n := by unfold wrap64; omega
  have h2' : wrap64 (4 + n + 4) = 4 + n + 4 := by unfold wrap64; omega
  by_cases c7 : (left.length : Int) < 4 + n + 4
  · rw [if_pos c7] at h
    have d4 : decide ((left.length : Int) < 4 + n + 4) = true := decide_eq_true c7
    clear ha
    simp only [Option.some.injEq, Prod.mk.injEq] at h
    obtain ⟨rfl, rfl, rfl, rfl⟩ := h
    go_enter Tryd.func41, Tryd.ntmps41
    go_wp2_with (first | (go_at_call 48; (with_reducible refine (frame_word.calls _ _ left n _ ?side1 ?side2 EN.out).mono ?_); (case side1 => repeat (first | exact HR1.out | (with_reducible refine Kd.C_alloc ?_ _) | (with_reducible refine Kd.C_drewN ?_ _) | (with_reducible refine Kd.C_drew ?_))); (case side2 => exact HC1.out); rintro e w' ⟨rfl, ⟨nd, rfl⟩⟩; (try first | exact ⟨rfl, _, World.drewN_drewN _ _ _⟩ | exact ⟨rfl, _, Eq.trans (World.drewN_drewN _ _ _) (congrArg (World.drewN _) (Nat.add_assoc _ _ _))⟩)))
    repeat (go_quiet (first | (go_at_call 48; (with_reducible refine (frame_word.calls _ _ left n _ ?side1 ?side2 EN.out).mono ?_); (case side1 => repeat (first | exact HR1.out | (with_reducible refine Kd.C_alloc ?_ _) | (with_reducible refine Kd.C_drewN ?_ _) | (with_reducible refine Kd.C_drew ?_))); (case side2 => exact HC1.out); rintro e w' ⟨rfl, ⟨nd, rfl⟩⟩; (try first | exact ⟨rfl, _, World.drewN_drewN _ _ _⟩ | exact ⟨rfl, _, Eq.trans (World.drewN_drewN _ _ _) (congrArg (World.drewN _) (Nat.add_assoc _ _ _))⟩))); try go_wp2_with (first | (go_at_call 48; (with_reducible refine (frame_word.calls _ _ left n _ ?side1 ?side2 EN.out).mono ?_); (case side1 => repeat (first | exact HR1.out | (with_reducible refine Kd.C_alloc ?_ _) | (with_reducible refine Kd.C_drewN ?_ _) | (with_reducible refine Kd.C_drew ?_))); (case side2 => exact HC1.out); rintro e w' ⟨rfl, ⟨nd, rfl⟩⟩; (try first | exact ⟨rfl, _, World.drewN_drewN _ _ _⟩ | exact ⟨rfl, _, Eq.trans (World.drewN_drewN _ _ _) (congrArg (World.drewN _) (Nat.add_assoc _ _ _))⟩))))
    go_ret3
    refine ⟨_, rfl, Kd.R_nil _ _ _ _ _, ?_, ?_, ?_⟩
    · first | exact HCUR.out | exact blk_drewN HCUR.out _
    · refine KeepBut.of_below ?_ _ _
      repeat (first | exact Below.refl _ _ | apply below_drew1 | apply pw_below_drewN)
    · intro B hB
      repeat (first | exact Below.refl _ _ | apply below_drew1 | apply pw_below_drewN)
  rw [if_neg c7] at h
  have d4 : decide ((left.length : Int) < 4 + n + 4) = false := decide_eq_false c7
  obtain ⟨s, es, h⟩ := Option.bind_eq_some_iff.mp h
  obtain ⟨z, ez, h⟩ := Option.bind_eq_some_iff.mp h
  obtain ⟨hcutT, hT, hCT⟩ := print_take_of (P := Tryd.prog) (Value.int .u8) 0 23 5 .i64 Tryd.underlying23 hi hsz A1 c1 left (4 + n) (by omega) (by omega) HCA.out
  have hr2 := Kd.C_of_reads (h1 := fun _ => rfl) (hT _ (Kd.reads_of_C HR1.out))
  obtain ⟨A3, hcutD, hD, hCD⟩ := print_drop_of (P := Tryd.prog) (Value.int .u8) 0 23 5 .i64 Tryd.underlying23 hi hsz A1 c1 left (4 + n) (by omega) (by omega) HCA.out
  have hr3 := Kd.C_of_reads (h1 := fun _ => rfl) (hD _ (Kd.reads_of_C HR1.out))
  obtain ⟨y2, hy2⟩ : ∃ y, y = left.take (4 + n).toNat := ⟨_, rfl⟩
  obtain ⟨y3, hy3⟩ : ∃ y, y = left.drop (4 + n).toNat := ⟨_, rfl⟩
  rw [← hy2] at hcutT hr2 hCT es
  rw [← hy3] at hcutD hr3 hCD ez
  have HR2 := Aside0.mk hr2
  have HC2 := Aside0.mk hCT
  have HR3 := Aside0.mk hr3
  have HC3 := Aside0.mk hCD
  have ES := Aside0.mk es
  have EZ := Aside0.mk ez
  generalize hcd : c1 - (4 + n).toNat = c3 at hcutD HC3
  have HY2 := Aside0.mk hy2
  clear hT hCT hD hCD hr2 hr3 es ez hcd hy3 hy2
  by_cases c8 : s = z
  · rw [if_pos c8] at h
    have d5 : (s == z) = true := beq_iff_eq.mpr c8
    have d6 : (s != z) = false := bne_eq_false_iff_eq.mpr c8
    obtain ⟨A4, hcutM, hM, hCM⟩ := print_mid_of (P := Tryd.prog) (Value.int .u8) 0 23 5 .i64 .i64 Tryd.underlying23 hi hsz A1 c1 left 4 (4 + n) (by omega) (by omega) (by omega) HCA.out
    have hmk := frame_Decode.make32 n (by omega) (by omega)
    have hll := HLL.out
    have hmax := HMX.out
    have h3 : IntKind.i64.wrap ((a : Int) + (4 + n + 4)) = a + (4 + n + 4) := IntWalk.i64_in _ (by omega)
    have h3' : wrap64 ((a : Int) + (4 + n + 4)) = a + (4 + n + 4) := by unfold wrap64; omega
    have HN := Aside0.mk (show 0 ≤ n ∧ n ≤ 4194304 ∧ 4 + n + 4 ≤ (left.length : Int) from by omega)
    have HM := Aside0.mk hM
    clear ha c2 c4 c5 c6 c7 c8 hM hCM hll hmax
    simp only [Option.some.injEq, Prod.mk.injEq] at h
    obtain ⟨rfl, rfl, rfl, rfl⟩ := h
    go_enter Tryd.func41, Tryd.ntmps41
    go_wp2_with (first | (go_at_call 14; (with_reducible refine (frame_Sum.calls _ _ y2 s _ ?side1 ?side2 ?side3 ES.out).mono ?_); (case side1 => repeat (first | exact HR2.out | (with_reducible refine Kd.C_alloc ?_ _) | (with_reducible refine Kd.C_drewN ?_ _) | (with_reducible refine Kd.C_drew ?_))); (case side2 => exact HC2.out); (case side3 => first | exact HL.out | exact laid_at HL.out (pw_below_drewN (Below.refl _ _) _) | exact laid_at HL.out (by repeat (first | exact Below.refl _ _ | apply below_drew1 | apply pw_below_drewN))); rintro e w' ⟨rfl, ⟨nd, rfl⟩⟩; (try first | exact ⟨rfl, _, World.drewN_drewN _ _ _⟩ | exact ⟨rfl, _, Eq.trans (World.drewN_drewN _ _ _) (congrArg (World.drewN _) (Nat.add_assoc _ _ _))⟩)) | (go_at_call 48; (with_reducible refine (frame_word.calls _ _ y3 z _ ?side1 ?side2 EZ.out).mono ?_); (case side1 => repeat (first | exact HR3.out | (with_reducible refine Kd.C_alloc ?_ _) | (with_reducible refine Kd.C_drewN ?_ _) | (with_reducible refine Kd.C_drew ?_))); (case side2 => exact HC3.out); rintro e w' ⟨rfl, ⟨nd, rfl⟩⟩; (try first | exact ⟨rfl, _, World.drewN_drewN _ _ _⟩ | exact ⟨rfl, _, Eq.trans (World.drewN_drewN _ _ _) (congrArg (World.drewN _) (Nat.add_assoc _ _ _))⟩)) | (go_at_call 48; (with_reducible refine (frame_word.calls _ _ left n _ ?side1 ?side2 EN.out).mono ?_); (case side1 => repeat (first | exact HR1.out | (with_reducible refine Kd.C_alloc ?_ _) | (with_reducible refine Kd.C_drewN ?_ _) | (with_reducible refine Kd.C_drew ?_))); (case side2 => exact HC1.out); rintro e w' ⟨rfl, ⟨nd, rfl⟩⟩; (try first | exact ⟨rfl, _, World.drewN_drewN _ _ _⟩ | exact ⟨rfl, _, Eq.trans (World.drewN_drewN _ _ _) (congrArg (World.drewN _) (Nat.add_assoc _ _ _))⟩)))
    repeat (go_quiet (first | (go_at_call 14; (with_reducible refine (frame_Sum.calls _ _ y2 s _ ?side1 ?side2 ?side3 ES.out).mono ?_); (case side1 => repeat (first | exact HR2.out | (with_reducible refine Kd.C_alloc ?_ _) | (with_reducible refine Kd.C_drewN ?_ _) | (with_reducible refine Kd.C_drew ?_))); (case side2 => exact HC2.out); (case side3 => first | exact HL.out | exact laid_at HL.out (pw_below_drewN (Below.refl _ _) _) | exact laid_at HL.out (by repeat (first | exact Below.refl _ _ | apply below_drew1 | apply pw_below_drewN))); rintro e w' ⟨rfl, ⟨nd, rfl⟩⟩; (try first | exact ⟨rfl, _, World.drewN_drewN _ _ _⟩ | exact ⟨rfl, _, Eq.trans (World.drewN_drewN _ _ _) (congrArg (World.drewN _) (Nat.add_assoc _ _ _))⟩)) | (go_at_call 48; (with_reducible refine (frame_word.calls _ _ y3 z _ ?side1 ?side2 EZ.out).mono ?_); (case side1 => repeat (first | exact HR3.out | (with_reducible refine Kd.C_alloc ?_ _) | (with_reducible refine Kd.C_drewN ?_ _) | (with_reducible refine Kd.C_drew ?_))); (case side2 => exact HC3.out); rintro e w' ⟨rfl, ⟨nd, rfl⟩⟩; (try first | exact ⟨rfl, _, World.drewN_drewN _ _ _⟩ | exact ⟨rfl, _, Eq.trans (World.drewN_drewN _ _ _) (congrArg (World.drewN _) (Nat.add_assoc _ _ _))⟩)) | (go_at_call 48; (with_reducible refine (frame_word.calls _ _ left n _ ?side1 ?side2 EN.out).mono ?_); (case side1 => repeat (first | exact HR1.out | (with_reducible refine Kd.C_alloc ?_ _) | (with_reducible refine Kd.C_drewN ?_ _) | (with_reducible refine Kd.C_drew ?_))); (case side2 => exact HC1.out); rintro e w' ⟨rfl, ⟨nd, rfl⟩⟩; (try first | exact ⟨rfl, _, World.drewN_drewN _ _ _⟩ | exact ⟨rfl, _, Eq.trans (World.drewN_drewN _ _ _) (congrArg (World.drewN _) (Nat.add_assoc _ _ _))⟩))); try go_wp2_with (first | (go_at_call 14; (with_reducible refine (frame_Sum.calls _ _ y2 s _ ?side1 ?side2 ?side3 ES.out).mono ?_); (case side1 => repeat (first | exact HR2.out | (with_reducible refine Kd.C_alloc ?_ _) | (with_reducible refine Kd.C_drewN ?_ _) | (with_reducible refine Kd.C_drew ?_))); (case side2 => exact HC2.out); (case side3 => first | exact HL.out | exact laid_at HL.out (pw_below_drewN (Below.refl _ _) _) | exact laid_at HL.out (by repeat (first | exact Below.refl _ _ | apply below_drew1 | apply pw_below_drewN))); rintro e w' ⟨rfl, ⟨nd, rfl⟩⟩; (try first | exact ⟨rfl, _, World.drewN_drewN _ _ _⟩ | exact ⟨rfl, _, Eq.trans (World.drewN_drewN _ _ _) (congrArg (World.drewN _) (Nat.add_assoc _ _ _))⟩)) | (go_at_call 48; (with_reducible refine (frame_word.calls _ _ y3 z _ ?side1 ?side2 EZ.out).mono ?_); (case side1 => repeat (first | exact HR3.out | (with_reducible refine Kd.C_alloc ?_ _) | (with_reducible refine Kd.C_drewN ?_ _) | (with_reducible refine Kd.C_drew ?_))); (case side2 => exact HC3.out); rintro e w' ⟨rfl, ⟨nd, rfl⟩⟩; (try first | exact ⟨rfl, _, World.drewN_drewN _ _ _⟩ | exact ⟨rfl, _, Eq.trans (World.drewN_drewN _ _ _) (congrArg (World.drewN _) (Nat.add_assoc _ _ _))⟩)) | (go_at_call 48; (with_reducible refine (frame_word.calls _ _ left n _ ?side1 ?side2 EN.out).mono ?_); (case side1 => repeat (first | exact HR1.out | (with_reducible refine Kd.C_alloc ?_ _) | (with_reducible refine Kd.C_drewN ?_ _) | (with_reducible refine Kd.C_drew ?_))); (case side2 => exact HC1.out); rintro e w' ⟨rfl, ⟨nd, rfl⟩⟩; (try first | exact ⟨rfl, _, World.drewN_drewN _ _ _⟩ | exact ⟨rfl, _, Eq.trans (World.drewN_drewN _ _ _) (congrArg (World.drewN _) (Nat.add_assoc _ _ _))⟩))))
    refine frame_Decode.gen_world (fun W2 => KeepBut w W2 g none ∧ (∀ B, B ≤ g → Below B w W2) ∧ W2.heap[g]? = some (.cells #[.slice A0 l0.length c0, .int .i64 ((a : Int) + (4 + n + 4))] 58 (0, 0)) ∧ W2.heap.size = w.heap.size) ?_ ?_
    · refine ⟨KeepBut.set_ (KeepBut.of_below (pw_below_drewN (Below.refl _ _) _) _ _) 1 _, fun B hB => Below.setCell (pw_below_drewN (Below.refl _ _) _) hB _, ?_, ?_⟩
      · exact blk_set (blk_drewN HCUR.out _) 1 _
      · simp [World.setCell, World.drewN]
    rintro W2 ⟨hk, hb, hc, hs⟩
    have HRL : Kd.C (Kd.int .u8) W2 A0 l0.length l0 := Kd.C_keep 0 HR0.out hk HNE.out
    have hr4 := HM.out W2 (HA1.out W2 (Kd.reads_of_C HRL))
    rw [show (4 : Int).toNat = 4 from rfl] at hr4 hcutM
    rw [← HY2.out] at hr4 hcutM
    obtain ⟨y4, hy4⟩ : ∃ y, y = y2.drop 4 := ⟨_, rfl⟩
    rw [← hy4] at hr4 hcutM
    have HR4 := Aside0.mk (Kd.C_of_reads (h1 := fun _ => rfl) hr4)
    have hy4l : y4.length ≤ 4194304 := by have := HN.out; rw [hy4, HY2.out, List.length_drop, List.length_take]; omega
    have HY4 := Aside0.mk hy4l
    have HY5 := Aside0.mk hy4
    have HK := Aside0.mk hk
    have HB := Aside0.mk hb
    have HC := Aside0.mk hc
    have HS := Aside0.mk hs
    generalize hcm : c1 - 4 = c4 at hcutM
    clear hk hb hc hs hr4 hy4 hy4l HRL hcut hcutT hcutD hcm e0 e1 e2
    go_region_held3 (fun _ => True) (trivial) (first | (refine Kd.R_append_rows_step (Kd.int .u8) (w0 := W2) W2.heap.size (by rfl) (.tmp 54) (.tmp 57) 23 5 (.int .u8 0) 1 (by rfl) Tryd.underlying23 frame_Decode.info8 rfl (by decide) (by omega) (.slice (some ⟨W2.heap.size, 0, none⟩) 0 n.toNat) [] y4 _ _ _ (fun _ => True) (fun _ => False) (by rfl) (by rfl) ?aO ?aR (fun _ _ h => h) (fun _ h => h.elim) (fun _ _ => trivial) ?aB ?aS ?aL ?_; (case aO => exact Hand.R_of_own (Hand.own_made0 W2.drew W2.heap.size 5 .u8 n.toNat (Nat.le_refl _) (by have := HN.out; omega))); (case aR => first | exact Kd.C_alloc (Kd.C_drew HR4.out) _ | exact Kd.C_alloc HR4.out _); (case aB => first | exact below_alloc (below_drew1 (Below.refl _ _)) _ | exact below_alloc (Below.refl _ _) _); (case aS => simp); (case aL => have := HY4.out; simp; omega); intro v2 w2 ho hb hg hat; have HO2 := Aside0.mk ho; have HB2 := Aside0.mk hb; clear ho hb hg hat))
    go_wp2
    go_ret3
    have hs := HS.out
    refine ⟨_, rfl, ?_, ?_, ?_, ?_⟩
    · rw [← hs, ← HY2.out, ← HY5.out]; exact HO2.out
    · exact (HB2.out.block g (by rw [hs]; exact HG.out)).trans HC.out
    · exact HK.out.trans (KeepBut.of_below HB2.out g none) (.inl rfl)
    · exact fun B hB => (HB.out B hB).trans (HB2.out.mono (by rw [hs]; have := HG.out; omega))
  rw [if_neg c8] at h
  have d5 : (s == z) = false := beq_eq_false_iff_ne.mpr c8
  have d6 : (s != z) = true := bne_iff_ne.mpr c8
  clear ha
  simp only [Option.some.injEq, Prod.mk.injEq] at h
  obtain ⟨rfl, rfl, rfl, rfl⟩ := h
  go_enter Tryd.func41, Tryd.ntmps41
  go_wp2_with (first | (go_at_call 14; (with_reducible refine (frame_Sum.calls _ _ y2 s _ ?side1 ?side2 ?side3 ES.out).mono ?_); (case side1 => repeat (first | exact HR2.out | (with_reducible refine Kd.C_alloc ?_ _) | (with_reducible refine Kd.C_drewN ?_ _) | (with_reducible refine Kd.C_drew ?_))); (case side2 => exact HC2.out); (case side3 => first | exact HL.out | exact laid_at HL.out (pw_below_drewN (Below.refl _ _) _) | exact laid_at HL.out (by repeat (first | exact Below.refl _ _ | apply below_drew1 | apply pw_below_drewN))); rintro e w' ⟨rfl, ⟨nd, rfl⟩⟩; (try first | exact ⟨rfl, _, World.drewN_drewN _ _ _⟩ | exact ⟨rfl, _, Eq.trans (World.drewN_drewN _ _ _) (congrArg (World.drewN _) (Nat.add_assoc _ _ _))⟩)) | (go_at_call 48; (with_reducible refine (frame_word.calls _ _ y3 z _ ?side1 ?side2 EZ.out).mono ?_); (case side1 => repeat (first | exact HR3.out | (with_reducible refine Kd.C_alloc ?_ _) | (with_reducible refine Kd.C_drewN ?_ _) | (with_reducible refine Kd.C_drew ?_))); (case side2 => exact HC3.out); rintro e w' ⟨rfl, ⟨nd, rfl⟩⟩; (try first | exact ⟨rfl, _, World.drewN_drewN _ _ _⟩ | exact ⟨rfl, _, Eq.trans (World.drewN_drewN _ _ _) (congrArg (World.drewN _) (Nat.add_assoc _ _ _))⟩)) | (go_at_call 48; (with_reducible refine (frame_word.calls _ _ left n _ ?side1 ?side2 EN.out).mono ?_); (case side1 => repeat (first | exact HR1.out | (with_reducible refine Kd.C_alloc ?_ _) | (with_reducible refine Kd.C_drewN ?_ _) | (with_reducible refine Kd.C_drew ?_))); (case side2 => exact HC1.out); rintro e w' ⟨rfl, ⟨nd, rfl⟩⟩; (try first | exact ⟨rfl, _, World.drewN_drewN _ _ _⟩ | exact ⟨rfl, _, Eq.trans (World.drewN_drewN _ _ _) (congrArg (World.drewN _) (Nat.add_assoc _ _ _))⟩)))
  repeat (go_quiet (first | (go_at_call 14; (with_reducible refine (frame_Sum.calls _ _ y2 s _ ?side1 ?side2 ?side3 ES.out).mono ?_); (case side1 => repeat (first | exact HR2.out | (with_reducible refine Kd.C_alloc ?_ _) | (with_reducible refine Kd.C_drewN ?_ _) | (with_reducible refine Kd.C_drew ?_))); (case side2 => exact HC2.out); (case side3 => first | exact HL.out | exact laid_at HL.out (pw_below_drewN (Below.refl _ _) _) | exact laid_at HL.out (by repeat (first | exact Below.refl _ _ | apply below_drew1 | apply pw_below_drewN))); rintro e w' ⟨rfl, ⟨nd, rfl⟩⟩; (try first | exact ⟨rfl, _, World.drewN_drewN _ _ _⟩ | exact ⟨rfl, _, Eq.trans (World.drewN_drewN _ _ _) (congrArg (World.drewN _) (Nat.add_assoc _ _ _))⟩)) | (go_at_call 48; (with_reducible refine (frame_word.calls _ _ y3 z _ ?side1 ?side2 EZ.out).mono ?_); (case side1 => repeat (first | exact HR3.out | (with_reducible refine Kd.C_alloc ?_ _) | (with_reducible refine Kd.C_drewN ?_ _) | (with_reducible refine Kd.C_drew ?_))); (case side2 => exact HC3.out); rintro e w' ⟨rfl, ⟨nd, rfl⟩⟩; (try first | exact ⟨rfl, _, World.drewN_drewN _ _ _⟩ | exact ⟨rfl, _, Eq.trans (World.drewN_drewN _ _ _) (congrArg (World.drewN _) (Nat.add_assoc _ _ _))⟩)) | (go_at_call 48; (with_reducible refine (frame_word.calls _ _ left n _ ?side1 ?side2 EN.out).mono ?_); (case side1 => repeat (first | exact HR1.out | (with_reducible refine Kd.C_alloc ?_ _) | (with_reducible refine Kd.C_drewN ?_ _) | (with_reducible refine Kd.C_drew ?_))); (case side2 => exact HC1.out); rintro e w' ⟨rfl, ⟨nd, rfl⟩⟩; (try first | exact ⟨rfl, _, World.drewN_drewN _ _ _⟩ | exact ⟨rfl, _, Eq.trans (World.drewN_drewN _ _ _) (congrArg (World.drewN _) (Nat.add_assoc _ _ _))⟩))); try go_wp2_with (first | (go_at_call 14; (with_reducible refine (frame_Sum.calls _ _ y2 s _ ?side1 ?side2 ?side3 ES.out).mono ?_); (case side1 => repeat (first | exact HR2.out | (with_reducible refine Kd.C_alloc ?_ _) | (with_reducible refine Kd.C_drewN ?_ _) | (with_reducible refine Kd.C_drew ?_))); (case side2 => exact HC2.out); (case side3 => first | exact HL.out | exact laid_at HL.out (pw_below_drewN (Below.refl _ _) _) | exact laid_at HL.out (by repeat (first | exact Below.refl _ _ | apply below_drew1 | apply pw_below_drewN))); rintro e w' ⟨rfl, ⟨nd, rfl⟩⟩; (try first | exact ⟨rfl, _, World.drewN_drewN _ _ _⟩ | exact ⟨rfl, _, Eq.trans (World.drewN_drewN _ _ _) (congrArg (World.drewN _) (Nat.add_assoc _ _ _))⟩)) | (go_at_call 48; (with_reducible refine (frame_word.calls _ _ y3 z _ ?side1 ?side2 EZ.out).mono ?_); (case side1 => repeat (first | exact HR3.out | (with_reducible refine Kd.C_alloc ?_ _) | (with_reducible refine Kd.C_drewN ?_ _) | (with_reducible refine Kd.C_drew ?_))); (case side2 => exact HC3.out); rintro e w' ⟨rfl, ⟨nd, rfl⟩⟩; (try first | exact ⟨rfl, _, World.drewN_drewN _ _ _⟩ | exact ⟨rfl, _, Eq.trans (World.drewN_drewN _ _ _) (congrArg (World.drewN _) (Nat.add_assoc _ _ _))⟩)) | (go_at_call 48; (with_reducible refine (frame_word.calls _ _ left n _ ?side1 ?side2 EN.out).mono ?_); (case side1 => repeat (first | exact HR1.out | (with_reducible refine Kd.C_alloc ?_ _) | (with_reducible refine Kd.C_drewN ?_ _) | (with_reducible refine Kd.C_drew ?_))); (case side2 => exact HC1.out); rintro e w' ⟨rfl, ⟨nd, rfl⟩⟩; (try first | exact ⟨rfl, _, World.drewN_drewN _ _ _⟩ | exact ⟨rfl, _, Eq.trans (World.drewN_drewN _ _ _) (congrArg (World.drewN _) (Nat.add_assoc _ _ _))⟩))))
  go_ret3
  refine ⟨_, rfl, Kd.R_nil _ _ _ _ _, ?_, ?_, ?_⟩
  · first | exact HCUR.out | exact blk_drewN HCUR.out _
  · refine KeepBut.of_below ?_ _ _
    repeat (first | exact Below.refl _ _ | apply below_drew1 | apply pw_below_drewN)
  · intro B hB
    repeat (first | exact Below.refl _ _ | apply below_drew1 | apply pw_below_drewN)
set_option maxRecDepth 100000 in
set_option maxHeartbeats 4000000 in
theorem frame_Decode.calls (A0 : Option Addr) (c0 : Nat) (l0 : List Int) (a1 : Int) (r1 : List Int) (r2 : Int) (r3 : Int) (w : World) (hr0 : Kd.C (Kd.int .u8) w A0 l0.length l0) (hc0 : l0.length ≤ c0) (hL : Laid w) (h : frame_Decode.f l0 a1 = some (r1, r2, r3)) :
    Calls Tryd.prog 26 #[.slice A0 l0.length c0, .int .i64 a1] w fun e w' => ∃ v0_ : Value, e = .returned (.tuple #[v0_, .int .i64 r2, .int .i64 r3]) ∧ Kd.R (Kd.int .u8) 5 w' w.heap.size (fun _ => True) v0_ r1 ∧ Below w.heap.size w w' := by
  have HL := Aside0.mk hL
  have HR := Aside0.mk hr0
  have HC := Aside0.mk hc0
  have hmax := Kd.C_max hr0
  unfold frame_Decode.f at h
  clear hr0 hc0 hL
  by_cases c : a1 < 0 ∨ (l0.length : Int) < a1
  · rw [if_pos c] at h
    simp only [Option.some.injEq, Prod.mk.injEq] at h
    obtain ⟨rfl, rfl, rfl⟩ := h
    by_cases c1 : a1 < 0
    · have d0 : decide (a1 < 0) = true := decide_eq_true c1
      clear c c1 hmax
      go_enter Tryd.func26, Tryd.ntmps26
      go_wp2
      repeat (go_quiet (fail); try go_wp2)
      go_ret3
      exact ⟨_, rfl, Kd.R_nil _ _ _ _ _, by repeat (first | exact Below.refl _ _ | apply below_drew1 | apply pw_below_drewN)⟩
    · have d0 : decide (a1 < 0) = false := decide_eq_false c1
      have d1 : decide ((l0.length : Int) < a1) = true := decide_eq_true (by omega)
      clear c c1 hmax
      go_enter Tryd.func26, Tryd.ntmps26
      go_wp2
      repeat (go_quiet (fail); try go_wp2)
      go_ret3
      exact ⟨_, rfl, Kd.R_nil _ _ _ _ _, by repeat (first | exact Below.refl _ _ | apply below_drew1 | apply pw_below_drewN)⟩
  · rw [if_neg c] at h
    obtain ⟨q, eq, h⟩ := Option.bind_eq_some_iff.mp h
    obtain ⟨p1, p2, p3, p4⟩ := q
    simp only [Option.some.injEq, Prod.mk.injEq] at h
    obtain ⟨rfl, rfl, rfl⟩ := h
    obtain ⟨a, rfl⟩ := Int.eq_ofNat_of_zero_le (show 0 ≤ a1 by omega)
    rw [Int.toNat_natCast] at eq
    have d0 : decide ((a : Int) < 0) = false := decide_eq_false (by omega)
    have d1 : decide (l0.length < a) = false := decide_eq_false (by omega)
    have EQ := Aside0.mk eq
    have HA := Aside0.mk (show a ≤ l0.length from by omega)
    have hne : ∀ ad, A0 = some ad → 0 < l0.length → ad.block ≠ w.heap.size := by
      intro ad he hp hE
      subst he
      have h1 := Kd.C_lt HR.out hp (show 0 < 1 from Nat.one_pos)
      omega
    have HNE := Aside0.mk hne
    clear eq c hmax hne
    go_enter Tryd.func26, Tryd.ntmps26
    go_wp2_with (first | (go_at_call 41; (have hnx := frame_Decode.next w.heap.size A0 c0 l0 a p1 p2 p3 p4 (w.alloc (.cells #[.slice A0 l0.length c0, .int .i64 (a : Int)] 58)) (blk_new w _) (Kd.C_alloc HR.out _) HC.out HA.out HNE.out (laid_at HL.out (below_alloc (Below.refl _ _) _)) EQ.out); (with_reducible refine hnx.mono ?_); clear hnx; rintro e w2 ⟨v, rfl, ho, hcc, hk, hb⟩; have HO2 := Aside0.mk ho; have HB2 := Aside0.mk (hb w.heap.size (Nat.le_refl _)); have e4 : w2.cell? ⟨w.heap.size, 1, none⟩ = some (.int .i64 p4) := by simp [World.cell?, hcc]))
    repeat (go_quiet (fail); try go_wp2)
    go_ret3
    refine ⟨_, rfl, ?_, ?_⟩
    · exact Kd.R_drewN (Kd.R_lower HO2.out (by simp)) _
    · exact pw_below_drewN ((below_alloc (Below.refl _ _) _).trans HB2.out) _

-- NOT PRINTED: function 31 (frame_All)

end Go.Proofs.YtgfjmpnlkjocaaaDoor.P
